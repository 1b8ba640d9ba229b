/- What the functions do that the law reaches; and the law. -/
import Derived.Test.YtlniheedmeaeeaaStashPutt
import Derived.Test.YtlniheedmeaeeaaAmGr
set_option autoImplicit false
set_option linter.unusedVariables false
set_option linter.unusedSimpArgs false
namespace GoAm
open Go
abbrev ty_Byte : Ty := .u8
abbrev ty_Block : Ty := .pr (.int .i64) (.pr (.int .i64) (.sl ty_Byte))
instance d_Block : DecidableEq ty_Block.D := inferInstanceAs (DecidableEq (Int × Int × List UInt8))
theorem rep_g_Block {M : Mem} {cs : List V} {x : ty_Block.D} (h : Rep ty_Block M cs x) : ∃ u0 : V, cs = [.int .i64 x.1, .int .i64 x.2.1, u0] ∧ (Lit.int .i64 x.1).wf = true ∧ (Lit.int .i64 x.2.1).wf = true ∧ Rep (.sl ty_Byte) M [u0] x.2.2 := by
  obtain ⟨c0, d0, rfl, h0, h⟩ := h
  obtain ⟨rfl, w0⟩ := h0
  obtain ⟨c1, d1, rfl, h1, h⟩ := h
  obtain ⟨rfl, w1⟩ := h1
  obtain ⟨u0, rfl⟩ : ∃ u, d1 = [u] := by
    have l0 := Rep.len (h)
    exact List.length_eq_one_iff.1 l0
  have r0 := h
  exact ⟨u0, rfl, w0, w1, r0⟩
theorem mkown_g_Block {M : Mem} {x : ty_Block.D} {u0 : V} {L0 : List Nat} (w0 : (Lit.int .i64 x.1).wf = true) (w1 : (Lit.int .i64 x.2.1).wf = true) (r0 : Own (.sl ty_Byte) M [u0] x.2.2 L0) : Own ty_Block M [.int .i64 x.1, .int .i64 x.2.1, u0] x (L0) := by
  have h : Own ty_Block M [.int .i64 x.1, .int .i64 x.2.1, u0] x _ := ⟨[.int .i64 x.1], ([.int .i64 x.2.1] ++ [u0]), _, _, rfl, ⟨⟨rfl, w0⟩, rfl⟩, ⟨[.int .i64 x.2.1], ([u0]), _, _, rfl, ⟨⟨rfl, w1⟩, rfl⟩, r0, rfl⟩, rfl⟩
  simpa only [List.append_nil, List.nil_append, List.append_assoc] using h
theorem nodup_flat {t : Ty} (hf : ∀ (M : Mem) (cs : List V) (x : t.D) (K : List Nat), Own t M cs x K → K = []) {M : Mem} {v : V} {xs : List t.D} {L : List Nat} (h : Own (.sl t) M [v] xs L) : L.Nodup := by
  rcases own_flat hf h with ⟨_, rfl, _⟩ | ⟨l, _, _, _, _, _, _, _, _, _, rfl⟩ <;> simp
theorem ownf_Byte (M : Mem) (cs : List V) (x : ty_Byte.D) (K : List Nat) (h : Own ty_Byte M cs x K) : K = [] := h.2
abbrev enc_Byte (x : ty_Byte.D) : List V := [byteV x]
def z_Byte : List V := [.int .u8 0]
theorem at_Byte {M : Mem} {a : Option Addr} {n c : Nat} {xs : List ty_Byte.D} (h : Rep (.sl ty_Byte) M [.slice a n c] xs) {i : Nat} (hi : i < xs.length) : ∃ l o, a = some ⟨l, o, none⟩ ∧ Rep ty_Byte M (enc_Byte xs[i]) xs[i] ∧ rd1 M l (o + i) = some (byteV xs[i]) := by
  obtain ⟨_, l, o, rfl, cs, hrd, hrep⟩ := rep_at h hi
  have hcs : cs = enc_Byte xs[i] := hrep
  subst hcs
  have hw1 : ty_Byte.w = 1 := rfl
  rw [hw1, Nat.mul_one] at hrd
  exact ⟨l, o, rfl, hrep, rd1_of_one hrd⟩
theorem r_laws_toByteS (M : Mem) (a : Option Addr) (c : Nat) (xs : List ty_Byte.D) (h : Rep (.sl ty_Byte) M [.slice a xs.length c] xs) (hn : xs.length ≤ 1048576) (i : Nat) (hi : i < xs.length) :
    lp (aCall T0) K_laws_toByteS_0 L_laws_toByteS_0 [.slice a xs.length c, und, und, .slice (some ⟨M.length, 0, none⟩) xs.length xs.length, .int .i64 i, und, und, und, und, und, und, und, und, und, und, und, und, und, und, und, und, und] (M ++ [⟨tcells enc_Byte z_Byte xs i, 1, 2⟩]) =
    lp (aCall T0) K_laws_toByteS_0 L_laws_toByteS_0 [.slice a xs.length c, und, und, .slice (some ⟨M.length, 0, none⟩) xs.length xs.length, .int .i64 (i + 1 : Nat), und, und, und, und, und, und, und, und, und, und, und, und, und, und, und, und, und] (M ++ [⟨tcells enc_Byte z_Byte xs (i + 1), 1, 2⟩]) := by
  obtain ⟨l, o, rfl, hrep, hrd⟩ := at_Byte h hi
  have hrd2 : rd1 (M ++ [⟨tcells enc_Byte z_Byte xs i, 1, 2⟩]) l (o + i) = some (byteV xs[i]) := rd1_old hrd
  have e2 := tcells_len (enc := enc_Byte) (z := z_Byte) (xs := xs) (fun x _ => rfl) (i := i) (by omega)
  have e3 := tcells_step (enc := enc_Byte) (z := z_Byte) (xs := xs) (fun x _ => rfl) hi
  have e4 : z_Byte.length = 1 := rfl
  rw [e4, Nat.mul_one] at e2 e3
  have e5 : i + 1 ≤ xs.length := by omega
  have e6 : IntKind.i64.wrap ((i : Int) + 1) = i + 1 := wrap_i64 (by omega) (by omega)
  unfold splice at e3
  simp at e3
  rw [S_laws_toByteS_0]; unfold B_laws_toByteS_0; simp [hrd2, e2, e3, e5, e6, hi]
theorem c_laws_toByteS (M : Mem) (v : V) (xs : List ty_Byte.D) (h : Rep (.sl ty_Byte) M [v] xs) (hn : xs.length ≤ 1048576) :
    aCall T0 F_laws_toByteS [v] M = some (.slice (some ⟨M.length, 0, none⟩) xs.length xs.length, M ++ [⟨(xs.map enc_Byte).flatten, 1, 2⟩]) := by
  obtain ⟨a, c, rfl⟩ := h.slen
  have hl := chain (g := fun i : Nat => lp (aCall T0) K_laws_toByteS_0 L_laws_toByteS_0 [.slice a xs.length c, und, und, .slice (some ⟨M.length, 0, none⟩) xs.length xs.length, .int .i64 i, und, und, und, und, und, und, und, und, und, und, und, und, und, und, und, und, und] (M ++ [⟨tcells enc_Byte z_Byte xs i, 1, 2⟩])) (n := xs.length) fun i hi => r_laws_toByteS M a c xs h hn i hi
  simp only [Int.natCast_zero, Int.ofNat_zero, tcells_zero, tcells_full] at hl
  unfold z_Byte at hl
  simp only [zeroCells_zc] at hl
  have e1 : (xs.length : Int) ≤ 281474976710656 := by omega
  have e2 : (xs.length : Int) ≤ 9223372036854775807 := by omega
  rw [aCall_eq T_laws_toByteS]; unfold A_laws_toByteS C_laws_toByteS; simp [e1, e2]
  rw [hl]
  rw [S_laws_toByteS_0]; unfold B_laws_toByteS_0; simp
theorem own_Byte (M : Mem) (x : ty_Byte.D) : Own ty_Byte M (enc_Byte x) x [] := ⟨rfl, rfl⟩
theorem d_laws_toByteS (M : Mem) (v : V) (xs : List ty_Byte.D) (h : Rep (.sl ty_Byte) M [v] xs) (hn : xs.length ≤ 1048576) : ∃ M' u L, M <+: M' ∧ aCall T0 F_laws_toByteS [v] M = some (u, M') ∧ Own (.sl ty_Byte) M' [u] xs L ∧ ∀ l ∈ L, M.length ≤ l ∧ l < M'.length := by
  have e := c_laws_toByteS M v xs h hn
  obtain ⟨L, o1, o2⟩ := own_blk (t := ty_Byte) (M := M ++ [⟨(xs.map enc_Byte).flatten, 1, 2⟩]) (l := M.length) (c := xs.length) (enc := enc_Byte) (ys := xs) (by simp; rfl) (fun y _ => own_Byte _ y)
  exact ⟨_, _, L, List.prefix_append _ _, e, o1, fun l hl => by rw [o2 l hl]; simp⟩
theorem k_laws_toByteS : ToS T0 ty_Byte F_laws_toByteS := fun M v xs h hb => by
  obtain ⟨M', u, L, p, e, o, f⟩ := d_laws_toByteS M v xs h hb.1
  exact ⟨M', u, L, p, e, o, nodup_flat ownf_Byte o, f⟩
set_option maxHeartbeats 4000000 in
theorem k_laws_toBlock : ToF T0 ty_Block F_laws_toBlock := by
  intro M cs x h hb
  obtain ⟨u0, rfl, w0, w1, r0⟩ := rep_g_Block h
  have i0 := one_head r0.one
  show ToG ty_Block M x _
  rw [aCall_eq T_laws_toBlock]; unfold A_laws_toBlock C_laws_toBlock; simp [thenD_pp, sliceCells_sl, sliceCells_z, sliceCells_nil, take_full, appS_sl, appK_ok, appS_none, thenD_ag, agP_nil, agP_cons, i0]
  generalize hx1 : aCall T0 F_laws_toByteS _ _ = x_1
  obtain ⟨M1, v0, K1, rfl, p1, o1, F1⟩ := ToS.at k_laws_toByteS hx1 (r0.mono (List.prefix_append _ _)) hb.2.2
  have f1 := F1.2
  clear hx1
  have b0_1 : M1[M.length]? = some ⟨[.int .i64 x.1, .int .i64 x.2.1, u0], 1, 2⟩ := get_pre p1 (by simp)
  have b1_1 : M1[M.length + 1]? = some ⟨[(.int .i64 0), (.int .i64 0), (.slice none 0 0)], 1, 2⟩ := get_pre p1 (by simp)
  have b2_1 : M1[M.length + 2]? = some ⟨[.int .i64 x.1, .int .i64 x.2.1, (.slice none 0 0)], 1, 2⟩ := get_pre p1 (by simp)
  have l_1 := get_lt b2_1
  have y1 : M <+: M1 := (List.prefix_append _ _).trans p1
  simp only [List.length_append, List.length_cons, List.length_nil] at f1
  have z1 : M <+: M1.set (M.length + 2) ⟨[.int .i64 x.1, .int .i64 x.2.1, v0], 1, 2⟩ := pf_set (by omega) y1
  have q1 := one_head (o1.rep.one)
  have qc1 := cells_sl o1
  have hb1 : (M1.set (M.length + 2) ⟨[.int .i64 x.1, .int .i64 x.2.1, v0], 1, 2⟩)[M.length + 1]? = some ⟨[(.int .i64 0), (.int .i64 0), (.slice none 0 0)], 1, 2⟩ := by simp [b1_1]
  have g1 := ((o1.set (b2 := ⟨[.int .i64 x.1, .int .i64 x.2.1, v0], 1, 2⟩) b2_1 rfl (fun hm => by have := f1 _ hm; omega)).set (b2 := ⟨[.int .i64 x.1, .int .i64 x.2.1, v0], 1, 2⟩) hb1 rfl (fun hm => by have := f1 _ hm; omega))
  have hh := mkown_g_Block (x := x) w0 w1 g1
  try simp only [List.append_assoc] at hh
  obtain ⟨_, _, rfl⟩ := o1.rep.slen
  have gs2 : ∀ B C : Blk, ((M1.set (M.length + 2) B).set (M.length + 1) C)[M.length + 1]? = some C := fun B C => List.getElem?_set_self (by rw [List.length_set]; omega)
  simp [thenD_pp, sliceCells_sl, sliceCells_z, sliceCells_nil, take_full, appS_sl, appK_ok, appS_none, thenD_ag, agP_nil, agP_cons, b0_1, b1_1, b2_1, gs_of b2_1, gs2, rd1_K, rdJ_ok, rdn_K, rnJ_ok, wrn_K, wrJ_ok]
  refine ⟨_, _, K1, ?_, rfl, ?_, ?_⟩
  · exact pf_set (by omega) (pf_set (by omega) y1)
  · first | exact hh | (simp only [List.append_assoc]; exact hh)
  · refine ⟨F1.1, fun l hl => ?_⟩
    have := F1.2 l hl
    simp only [List.length_append, List.length_cons, List.length_nil, List.length_set] at this ⊢
    omega
theorem r_laws_eqByteS (M : Mem) (a b : Option Addr) (c d : Nat) (xs ys : List ty_Byte.D) (h : Rep (.sl ty_Byte) M [.slice a xs.length c] xs) (h2 : Rep (.sl ty_Byte) M [.slice b ys.length d] ys) (hn : xs.length ≤ 9223372036854775807) (i : Nat) (hi : i < xs.length) (hj : i < ys.length) (he : xs[i] = ys[i]) :
    lp (aCall T0) K_laws_eqByteS_0 L_laws_eqByteS_0 [.slice a xs.length c, .slice b ys.length d, und, und, und, .int .i64 i, und, und, und, und, und, und, und, und, und, und, und, und, und, und, und, und, und, und, und, und] M = lp (aCall T0) K_laws_eqByteS_0 L_laws_eqByteS_0 [.slice a xs.length c, .slice b ys.length d, und, und, und, .int .i64 (i + 1 : Nat), und, und, und, und, und, und, und, und, und, und, und, und, und, und, und, und, und, und, und, und] M := by
  obtain ⟨l, o, rfl, _, hrd⟩ := at_Byte h hi
  obtain ⟨l2, o2, rfl, _, hrd2⟩ := at_Byte h2 hj
  have e6 : IntKind.i64.wrap ((i : Int) + 1) = i + 1 := wrap_i64 (by omega) (by omega)
  rw [S_laws_eqByteS_0]; unfold B_laws_eqByteS_0; simp [hrd, hrd2, e6, hi, hj, he, byteV]
theorem eq_byteV (x y : UInt8) : ((x.toNat : Int) = (y.toNat : Int)) = (x = y) := by
  apply propext
  constructor
  · intro h; exact UInt8.toNat_inj.1 (by omega)
  · rintro rfl; rfl
theorem x_laws_eqByteS (M : Mem) (a b : Option Addr) (c d : Nat) (xs ys : List ty_Byte.D) (h : Rep (.sl ty_Byte) M [.slice a xs.length c] xs) (h2 : Rep (.sl ty_Byte) M [.slice b ys.length d] ys) (hn : xs.length ≤ 9223372036854775807) (i : Nat) (hi : i < xs.length) (hj : i < ys.length) (he : xs[i] ≠ ys[i]) (k : ACode) :
    thenF M [.tmp 4] (thenS (blockR 0 (lp (aCall T0) K_laws_eqByteS_0 L_laws_eqByteS_0 [.slice a xs.length c, .slice b ys.length d, und, und, und, .int .i64 i, und, und, und, und, und, und, und, und, und, und, und, und, und, und, und, und, und, und, und, und] M)) (aCall T0) k) = some (.bool false, M) := by
  obtain ⟨l, o, rfl, _, hrd⟩ := at_Byte h hi
  obtain ⟨l2, o2, rfl, _, hrd2⟩ := at_Byte h2 hj
  have hne : ¬ (((xs[i] : UInt8).toNat : Int) = ((ys[i] : UInt8).toNat : Int)) := by rw [eq_byteV]; exact he
  rw [S_laws_eqByteS_0]; unfold B_laws_eqByteS_0; simp [hrd, hrd2, hi, hj, hne, byteV]
theorem c_laws_eqByteS (M : Mem) (v u : V) (xs ys : List ty_Byte.D) (h : Rep (.sl ty_Byte) M [v] xs) (h2 : Rep (.sl ty_Byte) M [u] ys) (hn : xs.length ≤ 9223372036854775807) : aCall T0 F_laws_eqByteS [v, u] M = some (.bool (decide (xs = ys)), M) := by
  obtain ⟨a, c, rfl⟩ := h.slen
  obtain ⟨b, d, rfl⟩ := h2.slen
  by_cases hl : xs.length = ys.length
  · rcases list_eq_iff hl with he | ⟨j, hj, h3, h4⟩
    · subst he
      have hc := chain (g := fun i : Nat => lp (aCall T0) K_laws_eqByteS_0 L_laws_eqByteS_0 [.slice a xs.length c, .slice b xs.length d, und, und, und, .int .i64 i, und, und, und, und, und, und, und, und, und, und, und, und, und, und, und, und, und, und, und, und] M) (n := xs.length) fun i hi => r_laws_eqByteS M a b c d xs xs h h2 hn i hi hi rfl
      simp only [Int.natCast_zero, Int.ofNat_zero] at hc
      rw [aCall_eq T_laws_eqByteS]; unfold A_laws_eqByteS C_laws_eqByteS; simp [hc]
      rw [S_laws_eqByteS_0]; unfold B_laws_eqByteS_0; simp
    · have hc := chain (g := fun i : Nat => lp (aCall T0) K_laws_eqByteS_0 L_laws_eqByteS_0 [.slice a xs.length c, .slice b ys.length d, und, und, und, .int .i64 i, und, und, und, und, und, und, und, und, und, und, und, und, und, und, und, und, und, und, und, und] M) (n := j) fun i hi => r_laws_eqByteS M a b c d xs ys h h2 hn i (by omega) (by omega) (h3 i (by omega) hi)
      simp only [Int.natCast_zero, Int.ofNat_zero] at hc
      have hx := x_laws_eqByteS M a b c d xs ys h h2 hn j hj (by omega) h4
      have hne : xs ≠ ys := fun e => h4 (by simp [e])
      simp only [← hl] at hc hx
      simp only [← hl]
      rw [aCall_eq T_laws_eqByteS]; unfold A_laws_eqByteS C_laws_eqByteS; simp [hc, hx, hne]
  · have hne : xs ≠ ys := fun e => hl (by rw [e])
    have hl2 : ¬ ((xs.length : Int) = ys.length) := by omega
    rw [aCall_eq T_laws_eqByteS]; unfold A_laws_eqByteS C_laws_eqByteS; simp [hl2, hl, hne]
theorem k_laws_eqByteS : EqS T0 ty_Byte F_laws_eqByteS := fun M v u xs ys h h2 hb => c_laws_eqByteS M v u xs ys h h2 (Nat.le_trans hb.1 (by decide))
set_option maxHeartbeats 4000000 in
theorem k_laws_eqBlock : EqF T0 ty_Block F_laws_eqBlock := by
  intro M cs ds x y h h2 hb
  obtain ⟨a0, a1, a2⟩ := x
  obtain ⟨b0, b1, b2⟩ := y
  obtain ⟨u0, rfl, w0, w1, r0⟩ := rep_g_Block h
  obtain ⟨v0, rfl, _w0, _w1, s0⟩ := rep_g_Block h2
  try dsimp only at *
  have e2 := k_laws_eqByteS (M ++ [⟨[.int .i64 a0, .int .i64 a1, u0], 1, 2⟩, ⟨[.int .i64 b0, .int .i64 b1, v0], 1, 2⟩]) _ _ a2 b2 (r0.mono (List.prefix_append _ _)) (s0.mono (List.prefix_append _ _)) hb.2.2
  have i0 := one_head r0.one
  have j0 := one_head s0.one
  by_cases q0 : a0 = b0
  rotate_left
  · have hne : ¬ ((a0, a1, a2) : ty_Block.D) = (b0, b1, b2) := fun e => q0 (by simp only [Prod.mk.injEq] at e; simp only [e])
    refine ans_f hne ?_
    rw [aCall_eq T_laws_eqBlock]; unfold A_laws_eqBlock C_laws_eqBlock; simp [thenD_pp, sliceCells_sl, sliceCells_z, sliceCells_nil, take_full, appS_sl, appK_ok, appS_none, thenD_ag, agP_nil, agP_cons, i0, j0, q0]
  subst q0
  by_cases q1 : a1 = b1
  rotate_left
  · have hne : ¬ ((a0, a1, a2) : ty_Block.D) = (a0, b1, b2) := fun e => q1 (by simp only [Prod.mk.injEq] at e; simp only [e])
    refine ans_f hne ?_
    rw [aCall_eq T_laws_eqBlock]; unfold A_laws_eqBlock C_laws_eqBlock; simp [thenD_pp, sliceCells_sl, sliceCells_z, sliceCells_nil, take_full, appS_sl, appK_ok, appS_none, thenD_ag, agP_nil, agP_cons, i0, j0, q1]
  subst q1
  by_cases q2 : a2 = b2
  rotate_left
  · have hne : ¬ ((a0, a1, a2) : ty_Block.D) = (a0, a1, b2) := fun e => q2 (by simp only [Prod.mk.injEq] at e; simp only [e])
    refine ans_f hne ?_
    have e2 := (ans_of e2).2 q2
    rw [aCall_eq T_laws_eqBlock]; unfold A_laws_eqBlock C_laws_eqBlock; simp [thenD_pp, sliceCells_sl, sliceCells_z, sliceCells_nil, take_full, appS_sl, appK_ok, appS_none, thenD_ag, agP_nil, agP_cons, i0, j0, e2]
  have e2 := (ans_of e2).1 q2
  have he : ((a0, a1, a2) : ty_Block.D) = (a0, a1, b2) := by simp only [q2]
  refine ans_t he ?_
  rw [aCall_eq T_laws_eqBlock]; unfold A_laws_eqBlock C_laws_eqBlock; simp [thenD_pp, sliceCells_sl, sliceCells_z, sliceCells_nil, take_full, appS_sl, appK_ok, appS_none, thenD_ag, agP_nil, agP_cons, i0, j0, e2]
theorem k_laws_szByteS : SzS T0 ty_Byte F_laws_szByteS := fun M v xs left h hb h0 h1 => by
  obtain ⟨a, c, rfl⟩ := h.slen
  have hx : xs.length ≤ 9223372036854775807 := hb.1
  have e : IntKind.i64.wrap (left - (xs.length : Int)) = left - xs.length := wrap_i64 (by omega) (by omega)
  by_cases hl : left - (xs.length : Int) < 0
  · refine ⟨-1, by omega, ?_, by omega⟩
    have hl2 : left < (xs.length : Int) := by omega
    rw [aCall_eq T_laws_szByteS]; unfold A_laws_szByteS C_laws_szByteS; simp [e, hl, hl2]
  · refine ⟨left - xs.length, by omega, ?_, fun _ => ⟨by omega, fun _ _ => trivial⟩⟩
    have hl2 : ¬ left < (xs.length : Int) := by omega
    rw [aCall_eq T_laws_szByteS]; unfold A_laws_szByteS C_laws_szByteS; simp [e, hl, hl2]
theorem k_laws_szBlock : SzF T0 ty_Block F_laws_szBlock := by
  intro M cs x left h hb h0 h1
  obtain ⟨u0, rfl, w0, w1, r0⟩ := rep_g_Block h
  have i0 := one_head r0.one
  obtain ⟨l0, a0, e0, g0⟩ := k_laws_szByteS (M ++ [⟨[.int .i64 x.1, .int .i64 x.2.1, u0], 1, 2⟩]) _ _ left (r0.mono (List.prefix_append _ _)) hb.2.2 (by omega) (by omega)
  by_cases h_0 : l0 < 0
  · refine ⟨-1, by omega, ?_, by omega⟩
    rw [aCall_eq T_laws_szBlock]; unfold A_laws_szBlock C_laws_szBlock; simp [thenD_pp, sliceCells_sl, sliceCells_z, sliceCells_nil, take_full, appS_sl, appK_ok, appS_none, thenD_ag, agP_nil, agP_cons, i0, e0, h_0]
  refine ⟨l0, by omega, ?_, fun _ => ⟨trivial, trivial, g0 (by omega)⟩⟩
  rw [aCall_eq T_laws_szBlock]; unfold A_laws_szBlock C_laws_szBlock; simp [thenD_pp, sliceCells_sl, sliceCells_z, sliceCells_nil, take_full, appS_sl, appK_ok, appS_none, thenD_ag, agP_nil, agP_cons, i0, e0, h_0]
abbrev gt_ByteS (xs : List ty_Byte.D) : Int := (xs.length : Int)
def gt_Block (x : ty_Block.D) : Int := gt_ByteS x.2.2
theorem tot_ByteS : TotO (.sl ty_Byte) gt_ByteS 1048576 := fun xs hb => by have := hb.1; unfold gt_ByteS; omega
theorem tot_Block : TotO ty_Block gt_Block (1048576) := fun x hb => by
  have t0 := tot_ByteS _ hb.2.2
  unfold gt_Block
  omega
theorem own_g_Block {M : Mem} {cs : List V} {x : ty_Block.D} {L : List Nat} (h : Own ty_Block M cs x L) : ∃ (u0 : V) (L0 : List Nat), cs = [.int .i64 x.1, .int .i64 x.2.1, u0] ∧ (Lit.int .i64 x.1).wf = true ∧ (Lit.int .i64 x.2.1).wf = true ∧ Own (.sl ty_Byte) M [u0] x.2.2 L0 ∧ L = L0 := by
  obtain ⟨c0, d0, K0, J0, rfl, h0, h, rfl⟩ := h
  obtain ⟨⟨rfl, w0⟩, rfl⟩ := h0
  obtain ⟨c1, d1, K1, J1, rfl, h1, h, rfl⟩ := h
  obtain ⟨⟨rfl, w1⟩, rfl⟩ := h1
  obtain ⟨u0, rfl⟩ : ∃ u, d1 = [u] := by
    have l0 := Rep.len ((h).rep)
    exact List.length_eq_one_iff.1 l0
  have r0 := h
  exact ⟨u0, _, rfl, w0, w1, r0, by simp⟩
def mkY (k : Int) : UInt8 := UInt8.ofNat (k.toNat % 256)
def marksY (k : Int) (n : Nat) : List ty_Byte.D := (List.range n).map fun (j : Nat) => mkY (k + (j : Int))
abbrev gm_ByteS (k : Int) (xs : List ty_Byte.D) : List ty_Byte.D := marksY k xs.length
def gm_Block (k : Int) (x : ty_Block.D) : ty_Block.D := (x.1, x.2.1, gm_ByteS (k) x.2.2)
theorem marksY_len (k : Int) (n : Nat) : (marksY k n).length = n := by simp [marksY]
def mcs_Byte (k : Int) (i : Nat) : List V := ((marksY k i).map enc_Byte).flatten
theorem mkY_val (k : Int) (hk : 0 < k) : Value.int .u8 (IntKind.u8.wrap k) = byteV (mkY k) := by
  unfold mkY
  rw [byteV_len (by omega)]
  congr 1
  simp [IntKind.wrap, IntKind.min, IntKind.max, IntKind.signed, IntKind.bits]
  omega
theorem mkY_wrap (k : Int) (hk : 0 < k) : IntKind.u8.wrap k = ((mkY k).toNat : Int) := by
  have h := mkY_val k hk
  unfold byteV at h
  injection h
theorem mcs_Byte_len (k : Int) (i : Nat) : (mcs_Byte k i).length = i := by
  unfold mcs_Byte
  rw [flat_enc_len (w := 1) (fun x _ => rfl), marksY_len, Nat.mul_one]
theorem mcs_Byte_succ (k : Int) (i : Nat) : mcs_Byte k (i + 1) = mcs_Byte k i ++ [byteV (mkY (k + (i : Int)))] := by
  unfold mcs_Byte marksY
  rw [List.range_succ]
  simp
theorem r_laws_markByteS (M : Mem) (l o n c : Nat) (blk : Blk) (hb : M[l]? = some blk) (h2 : blk.st = 2) (k : Int) (hk : 0 < k) (hk2 : k + n ≤ 4611686018427387904) (ho : o + n ≤ blk.cells.length) (i : Nat) (hi : i < n) :
    lp (aCall T0) K_laws_markByteS_0 L_laws_markByteS_0 [.slice (some ⟨l, o, none⟩) n c, .int .i64 (k + (i : Int)), und, und, und, .int .i64 i, und, und, und, und, und, und, und, und, und, und, und, und, und, und] (M.set l (spB blk o (mcs_Byte k i))) =
    lp (aCall T0) K_laws_markByteS_0 L_laws_markByteS_0 [.slice (some ⟨l, o, none⟩) n c, .int .i64 (k + ((i + 1 : Nat) : Int)), und, und, und, .int .i64 (i + 1 : Nat), und, und, und, und, und, und, und, und, und, und, und, und, und, und] (M.set l (spB blk o (mcs_Byte k (i + 1)))) := by
  have el := mcs_Byte_len k i
  have e1 := wrn_sp M l o blk hb h2 (mcs_Byte k i) (byteV (mkY (k + (i : Int)))) rfl (by omega)
  rw [← mcs_Byte_succ, el] at e1
  have e6 : IntKind.i64.wrap ((i : Int) + 1) = i + 1 := wrap_i64 (by omega) (by omega)
  have e7 : IntKind.i64.wrap (k + (i : Int) + 1) = k + ((i : Int) + 1) := by rw [wrap_i64 (by omega) (by omega)]; omega
  have e8 := mkY_wrap (k + (i : Int)) (by omega)
  unfold byteV at e1
  rw [S_laws_markByteS_0]; unfold B_laws_markByteS_0; simp [e1, e6, e7, e8, hi]
theorem d_laws_markByteS (M : Mem) (v : V) (xs : List ty_Byte.D) (L : List Nat) (h : Own (.sl ty_Byte) M [v] xs L) (k : Int) (hk : 0 < k) (hk2 : k + xs.length ≤ 4611686018427387904) :
    ∃ M', aCall T0 F_laws_markByteS [v, .int .i64 k] M = some (.int .i64 (k + xs.length), M') ∧ UpdG M M' (· ∈ L) ∧ Own (.sl ty_Byte) M' [v] (marksY k xs.length) L := by
  rcases own_flat ownf_Byte h with ⟨rfl, rfl, hr⟩ | ⟨l, o, c, blk, hx, rfl, hb, h2, hw, ho, rfl⟩
  · refine ⟨M, ?_, pre_g (List.prefix_refl _) _, .inl ⟨rfl, rfl, hr⟩⟩
    obtain ⟨a, c, rfl⟩ := hr.slen
    rw [aCall_eq T_laws_markByteS]; unfold A_laws_markByteS C_laws_markByteS; simp
    rw [S_laws_markByteS_0]; unfold B_laws_markByteS_0; simp
  · have hw2 : ty_Byte.w = 1 := rfl
    rw [hw2, Nat.mul_one] at ho
    have hl := chain (g := fun i : Nat => lp (aCall T0) K_laws_markByteS_0 L_laws_markByteS_0 [.slice (some ⟨l, o, none⟩) xs.length c, .int .i64 (k + (i : Int)), und, und, und, .int .i64 i, und, und, und, und, und, und, und, und, und, und, und, und, und, und] (M.set l (spB blk o (mcs_Byte k i)))) (n := xs.length) fun i hi => r_laws_markByteS M l o xs.length c blk hb h2 k hk hk2 ho i hi
    have e0 : mcs_Byte k 0 = [] := rfl
    simp only [Int.natCast_zero, Int.ofNat_zero, e0, spB_nil, set_same hb, Int.add_zero] at hl
    have hlt := (List.getElem?_eq_some_iff.1 hb).1
    refine ⟨M.set l (spB blk o (mcs_Byte k xs.length)), ?_, Upd.g (upd_set hb rfl), ?_⟩
    · rw [aCall_eq T_laws_markByteS]; unfold A_laws_markByteS C_laws_markByteS; simp [hl]
      rw [S_laws_markByteS_0]; unfold B_laws_markByteS_0; simp
      exact gc_len (by simp)
    · refine own_sp (blk := blk) (enc := enc_Byte) ?_ (marksY_len _ _) (by simp [hlt, mcs_Byte]) h2 hw (by omega) (fun y _ => own_Byte _ y)
      intro e; have := congrArg List.length e; rw [marksY_len] at this; exact hx (List.length_eq_zero_iff.1 this)
theorem k_laws_markByteS : MarkS T0 ty_Byte F_laws_markByteS gm_ByteS gt_ByteS := fun M v xs L k h _ hb hk hk2 => d_laws_markByteS M v xs L h k hk hk2
set_option maxHeartbeats 4000000 in
theorem k_laws_markBlock : MarkF T0 ty_Block F_laws_markBlock gm_Block gt_Block := by
  intro M cs x L k h hnd hb hk hk2
  have hwhole := h
  obtain ⟨u0, L0, rfl, w0, w1, r0, rfl⟩ := own_g_Block h
  have t0 := tot_ByteS _ hb.2.2
  unfold gt_Block at hk2 ⊢
  have hlt := own_lt hwhole
  have hp0 : M <+: M ++ [(⟨[.int .i64 x.1, .int .i64 x.2.1, u0], 1, 2⟩ : Blk)] := List.prefix_append _ _
  have b0 : (M ++ [(⟨[.int .i64 x.1, .int .i64 x.2.1, u0], 1, 2⟩ : Blk)])[M.length]? = some ⟨[.int .i64 x.1, .int .i64 x.2.1, u0], 1, 2⟩ := by simp
  have o0_0 := r0.grow hp0
  have hnd2 := hnd
  try simp only [List.nodup_append, List.mem_append] at hnd2
  have i0 := one_head r0.rep.one
  obtain ⟨N0, e0, up0, ow0⟩ := k_laws_markByteS (M ++ [(⟨[.int .i64 x.1, .int .i64 x.2.1, u0], 1, 2⟩ : Blk)]) _ _ _ (k) o0_0 hnd hb.2.2 (by omega) (by omega)
  have b1 : N0[M.length]? = some ⟨[.int .i64 x.1, .int .i64 x.2.1, u0], 1, 2⟩ := up0.get b0 (fun hm => by have := hlt M.length hm; omega)
  have o1_0 := ow0
  have uu : UpdG M N0 (· ∈ L) := by
    exact up0.grow hp0
  have oo := mkown_g_Block (x := gm_Block k x) w0 w1 o1_0
  obtain ⟨N, g1, g2, g3⟩ := gc_num uu hwhole oo (k + (gt_ByteS x.2.2))
  refine ⟨N, ?_, g2, g3⟩
  have hadd : k + gt_ByteS x.2.2 = k + (gt_ByteS x.2.2) := by omega
  rw [← hadd] at g1 ⊢
  rw [aCall_eq T_laws_markBlock]; unfold A_laws_markBlock C_laws_markBlock; simp [thenD_pp, sliceCells_sl, sliceCells_z, sliceCells_nil, take_full, appS_sl, appK_ok, appS_none, thenD_ag, agP_nil, agP_cons, i0, e0, b1, g1, rd1_K, rdJ_ok, rdn_K, rnJ_ok, wrn_K, wrJ_ok]
theorem k_laws_toBlockS : ToS T0 ty_Block F_laws_toBlockS := to_sl (w := 3) (bytes := 40) (zero := [.int .i64 0, .int .i64 0, .slice none 0 0]) T_laws_toBlockS rfl rfl rfl (by decide) k_laws_toBlock
theorem k_laws_eqBlockS : EqS T0 ty_Block F_laws_eqBlockS := eq_sl (w := 3) T_laws_eqBlockS rfl k_laws_eqBlock
theorem k_laws_szBlockS : SzS T0 ty_Block F_laws_szBlockS := sz_sl (w := 3) T_laws_szBlockS rfl k_laws_szBlock
theorem rdn_box {M : Mem} {l n : Nat} {cs : List V} (h : M[l]? = some ⟨cs, 1, 2⟩) (hn : n = cs.length) : rdn M l 0 n = some cs := by
  unfold rdn
  rw [h]
  simp [hn]
abbrev gt_BlkE (x : ty_Block.D) : Int := 2 + gt_ByteS x.2.2
def gtS {D : Type} (tot : D → Int) : List D → Int
  | [] => 0
  | x :: xs => tot x + gtS tot xs
abbrev gt_BlockS (xs : List ty_Block.D) : Int := gtS gt_BlkE xs
theorem gt_BlkE_b {x : ty_Block.D} (h : List.length (α := UInt8) x.2.2 ≤ 1048576) : 2 ≤ gt_BlkE x ∧ gt_BlkE x ≤ 1048578 := by
  show 2 ≤ 2 + (List.length (α := UInt8) x.2.2 : Int) ∧ 2 + (List.length (α := UInt8) x.2.2 : Int) ≤ 1048578
  omega
theorem gtS_bound {D : Type} {tot : D → Int} {B : Int} {xs : List D} (h : ∀ x ∈ xs, 0 ≤ tot x ∧ tot x ≤ B) : 0 ≤ gtS tot xs ∧ gtS tot xs ≤ xs.length * B := by
  induction xs with
  | nil => simp [gtS]
  | cons x xs ih =>
    have h1 := h x (by simp)
    have h2 := ih (fun y hy => h y (by simp [hy]))
    have e : ((x :: xs).length : Int) * B = B + xs.length * B := by
      rw [List.length_cons, Int.natCast_add, Int.add_mul]
      simp
      omega
    rw [e]
    unfold gtS
    omega
theorem tot_BlockS : TotO (.sl ty_Block) gt_BlockS 1099514000000 := fun xs hb => by
  have h := gtS_bound (tot := gt_BlkE) (B := 1048578) (xs := xs) (fun x hx => by
    have := gt_BlkE_b (hb.2 x hx).2.2.1
    omega)
  have h1 := hb.1
  show 0 ≤ gtS gt_BlkE xs ∧ gtS gt_BlkE xs ≤ 1099514000000
  omega
theorem wf_mk {z : Int} (h1 : -9223372036854775808 ≤ z) (h2 : z ≤ 9223372036854775807) : (Lit.int .i64 z).wf = true := by
  show (decide (_ ≤ z) && decide (z ≤ _)) = true
  simp only [Bool.and_eq_true, decide_eq_true_eq]
  exact ⟨h1, h2⟩
theorem spl_at (cells vs : List V) (o x : Nat) (h : o + vs.length ≤ cells.length) : (splice cells o vs)[x]? = if x < o then cells[x]? else if x < o + vs.length then vs[x - o]? else cells[x]? := by
  unfold splice
  rw [List.append_assoc, List.getElem?_append, List.length_take, Nat.min_eq_left (by omega)]
  by_cases h1 : x < o
  · rw [if_pos h1, if_pos h1, List.getElem?_take, if_pos h1]
  · rw [if_neg h1, if_neg h1, List.getElem?_append]
    by_cases h2 : x < o + vs.length
    · rw [if_pos (by omega), if_pos h2]
    · rw [if_neg (by omega), if_neg h2, List.getElem?_drop]
      congr 1
      omega
abbrev gm_BlkE (k : Int) (x : ty_Block.D) : ty_Block.D := (k, k + 1, gm_ByteS (k + 2) x.2.2)
def gmS {D : Type} (mk : Int → D → D) (tot : D → Int) : Int → List D → List D
  | _, [] => []
  | k, x :: xs => mk k x :: gmS mk tot (k + tot x) xs
abbrev gm_BlockS (k : Int) (xs : List ty_Block.D) : List ty_Block.D := gmS gm_BlkE gt_BlkE k xs
theorem splice_more (cs ys : List V) (p : Nat) (v : V) (h : cs[p + ys.length]? = some v) : splice cs p ys = splice cs p (ys ++ [v]) := by
  obtain ⟨hl, hv⟩ := List.getElem?_eq_some_iff.1 h
  unfold splice
  rw [List.drop_eq_getElem_cons hl, hv]
  simp [List.append_assoc, Nat.add_assoc]
theorem splice_drop (cs ys : List V) (o p : Nat) (ho : o ≤ cs.length) : (splice cs (o + p) ys).drop o = splice (cs.drop o) p ys := by
  unfold splice
  have h1 : (cs.take (o + p)).drop o = (cs.drop o).take p := by rw [List.drop_take]; congr 1; omega
  rw [List.append_assoc, List.append_assoc, List.drop_append, h1, List.drop_drop]
  have h2 : o - (cs.take (o + p)).length = 0 := by simp; omega
  rw [h2, List.drop_zero]
  congr 3
  omega
theorem splice_app (xs r ys : List V) (p : Nat) (hp : p + ys.length ≤ xs.length) : splice (xs ++ r) p ys = splice xs p ys ++ r := by
  unfold splice
  rw [List.take_append_of_le_length (by omega), List.drop_append_of_le_length hp]
  simp [List.append_assoc]
theorem flat_atr {w : Nat} : ∀ (css : List (List V)) (i : Nat) (hi : i < css.length) (r : List V), (∀ c ∈ css, c.length = w) → ((css.flatten ++ r).drop (i * w)).take w = css[i] := by
  intro css
  induction css with
  | nil => intro i hi; simp at hi
  | cons c cs ih =>
    intro i hi r hc
    cases i with
    | zero =>
      rw [Nat.zero_mul, List.drop_zero, List.flatten_cons, List.append_assoc, List.take_left' (hc c (by simp))]
      rfl
    | succ i =>
      rw [List.flatten_cons, Nat.add_mul, Nat.one_mul, Nat.add_comm, ← List.drop_drop, List.append_assoc, List.drop_left' (hc c (by simp))]
      exact ih i (by simpa using hi) r (fun d hd => hc d (by simp [hd]))
theorem Own.elem {t : Ty} {X : Mem} {v : V} {xs : List t.D} {L : List Nat} (h : Own (.sl t) X [v] xs L) (nd : L.Nodup) {i : Nat} (hi : i < xs.length) :
    ∃ (l o c : Nat) (blk : Blk) (cs : List V) (K : List Nat), v = .slice (some ⟨l, o, none⟩) xs.length c ∧ X[l]? = some blk ∧ blk.st = 2 ∧ blk.w = t.w ∧ o + i * t.w + t.w ≤ blk.cells.length ∧ (blk.cells.drop (o + i * t.w)).take t.w = cs ∧ cs.length = t.w ∧ Own t X cs xs[i] K ∧ K.Nodup ∧ l ∉ K ∧ (∀ j ∈ K, j ∈ L) ∧ l ∈ L ∧
    ∀ (X' : Mem) (cs' : List V) (y : t.D), UpdG X X' (fun j => j = l ∨ j ∈ K) → X'[l]? = some (spB blk (o + i * t.w) cs') → cs'.length = t.w → Own t X' cs' y K → Own (.sl t) X' [v] (xs.set i y) L := by
  rcases h with ⟨rfl, _, _⟩ | ⟨l, o, c, blk, css, Ls, hne, e, hb, h2, hw, hc, hLs, hel, hp, rfl⟩
  · simp at hi
  cases e
  have hone : ∀ cs ∈ css, cs.length = t.w := by
    intro cs hcs
    obtain ⟨i, hi, rfl⟩ := List.getElem_of_mem hcs
    exact (hel i css[i] (xs[i]'(by omega)) (Ls[i]'(by omega)) (by simp) (by simp) (by simp)).rep.len
  have hfl := flat_len hone
  obtain ⟨r, hr⟩ := hp
  have hle : i * t.w + t.w ≤ css.length * t.w := by
    rw [← Nat.succ_mul]
    exact Nat.mul_le_mul_right _ (by omega)
  have hlen : css.flatten.length + r.length = blk.cells.length - o := by rw [← List.length_append, hr, List.length_drop]
  have hw0 := t.w_pos
  have hcs := flat_atr css i (by omega) r hone
  obtain ⟨hln, hnf⟩ := List.nodup_cons.1 nd
  have hmem : ∀ (k : Nat) (hk : k < Ls.length), ∀ j ∈ Ls[k], j ∈ Ls.flatten := fun k hk j hj => List.mem_flatten.2 ⟨_, List.getElem_mem hk, hj⟩
  have hndK : ∀ (Ls : List (List Nat)), Ls.flatten.Nodup → (∀ K ∈ Ls, K.Nodup) ∧ ∀ (a b : Nat) (K J : List Nat), Ls[a]? = some K → Ls[b]? = some J → a ≠ b → ∀ j ∈ K, j ∉ J := by
    intro Ls
    induction Ls with
    | nil => intro _; exact ⟨by simp, fun a b K J h => by simp at h⟩
    | cons A As ih =>
      intro hn
      rw [List.flatten_cons] at hn
      obtain ⟨n1, n2, n3⟩ := List.nodup_append.1 hn
      obtain ⟨i1, i2⟩ := ih n2
      refine ⟨fun K hK => ?_, fun a b K J ha hb hab j hj hj2 => ?_⟩
      · rcases List.mem_cons.1 hK with rfl | hK
        · exact n1
        · exact i1 K hK
      · cases a with
        | zero =>
          cases b with
          | zero => exact hab rfl
          | succ b =>
            simp at ha hb
            subst ha
            exact n3 j hj j (List.mem_flatten.2 ⟨J, List.mem_of_getElem? hb, hj2⟩) rfl
        | succ a =>
          cases b with
          | zero =>
            simp at ha hb
            subst hb
            exact n3 j hj2 j (List.mem_flatten.2 ⟨K, List.mem_of_getElem? ha, hj⟩) rfl
          | succ b =>
            simp at ha hb
            exact i2 a b K J ha hb (by omega) j hj hj2
  obtain ⟨hk1, hk2⟩ := hndK Ls hnf
  refine ⟨l, o, c, blk, css[i]'(by omega), Ls[i]'(by omega), rfl, hb, h2, hw, by omega, ?_, hone _ (List.getElem_mem _), hel i _ xs[i] _ (by simp) (by simp) (by simp), hk1 _ (List.getElem_mem _), fun hm => hln (hmem _ _ _ hm), fun j hj => List.mem_cons_of_mem _ (hmem _ _ _ hj), by simp, ?_⟩
  · rw [← List.drop_drop, ← hr]
    exact hcs
  · intro X' cs' y hu hb' hl' hy
    refine .inr ⟨l, o, c, spB blk (o + i * t.w) cs', css.set i cs', Ls, ?_, by simp, hb', h2, hw, by simp [hc], by simp [hLs], fun k ds x K hds hx hK => ?_, ?_, rfl⟩
    · intro e
      have := congrArg List.length e
      simp at this
      exact hne this
    · by_cases hk : i = k
      · subst hk
        rw [List.getElem?_set_self (by omega)] at hds hx
        rw [List.getElem?_eq_getElem (by omega)] at hK
        cases hds; cases hx; cases hK
        exact hy
      · rw [List.getElem?_set_ne hk] at hds hx
        refine (hel k ds x K hds hx hK).updg hu (fun j hj hm => ?_)
        rcases hm with rfl | hm
        · exact hln (List.mem_flatten.2 ⟨K, List.mem_of_getElem? hK, hj⟩)
        · exact hk2 i k (Ls[i]'(by omega)) K (by simp) hK hk j hm hj
    · unfold spB
      simp only
      rw [splice_drop _ _ _ _ (by omega), ← hr, splice_app _ _ _ _ (by omega), splice_el css i t.w cs' (by omega) hone hl']
      exact List.prefix_append _ _
theorem gmS_len {D : Type} (mk : Int → D → D) (tot : D → Int) : ∀ (xs : List D) (k : Int), (gmS mk tot k xs).length = xs.length
  | [], _ => rfl
  | x :: xs, k => by simp [gmS, gmS_len mk tot xs]
theorem gtS_app {D : Type} (tot : D → Int) : ∀ (xs ys : List D), gtS tot (xs ++ ys) = gtS tot xs + gtS tot ys
  | [], ys => by simp [gtS]
  | x :: xs, ys => by simp [gtS, gtS_app tot xs ys]; omega
theorem gtS_step {D : Type} (tot : D → Int) {xs : List D} {i : Nat} (hi : i < xs.length) : gtS tot (xs.take (i + 1)) = gtS tot (xs.take i) + tot xs[i] := by
  rw [List.take_succ_eq_append_getElem hi, gtS_app]
  simp [gtS]
theorem gmS_app {D : Type} (mk : Int → D → D) (tot : D → Int) : ∀ (xs ys : List D) (k : Int), gmS mk tot k (xs ++ ys) = gmS mk tot k xs ++ gmS mk tot (k + gtS tot xs) ys
  | [], ys, k => by simp [gmS, gtS]
  | x :: xs, ys, k => by
    have : k + tot x + gtS tot xs = k + (tot x + gtS tot xs) := by omega
    simp [gmS, gtS, gmS_app mk tot xs ys, this]
theorem gmS_step {D : Type} (mk : Int → D → D) (tot : D → Int) {xs : List D} {i : Nat} (hi : i < xs.length) (k : Int) : (gmS mk tot k (xs.take i) ++ xs.drop i).set i (mk (k + gtS tot (xs.take i)) xs[i]) = gmS mk tot k (xs.take (i + 1)) ++ xs.drop (i + 1) := by
  have hl : (gmS mk tot k (xs.take i)).length = i := by rw [gmS_len, List.length_take]; omega
  rw [List.set_append_right _ _ (by omega), hl, Nat.sub_self, List.take_succ_eq_append_getElem hi, gmS_app, List.append_assoc, List.drop_eq_getElem_cons hi]
  rfl
theorem gtS_take {D : Type} {tot : D → Int} {xs : List D} (h : ∀ x ∈ xs, 0 ≤ tot x) {i : Nat} (hi : i < xs.length) : 0 ≤ gtS tot (xs.take i) ∧ gtS tot (xs.take i) + tot xs[i] ≤ gtS tot xs := by
  have h0 : ∀ ys : List D, (∀ y ∈ ys, 0 ≤ tot y) → 0 ≤ gtS tot ys := by
    intro ys
    induction ys with
    | nil => intro _; simp [gtS]
    | cons y ys ih =>
      intro hy
      have := hy y (by simp)
      have := ih (fun z hz => hy z (by simp [hz]))
      unfold gtS
      omega
  have e : xs = xs.take i ++ (xs[i] :: xs.drop (i + 1)) := by
    rw [← List.drop_eq_getElem_cons hi, List.take_append_drop]
  have e2 : gtS tot xs = gtS tot (xs.take i) + (tot xs[i] + gtS tot (xs.drop (i + 1))) := by
    conv => lhs; rw [e]
    rw [gtS_app]
    rfl
  have h1 := h0 (xs.take i) (fun y hy => h y (List.mem_of_mem_take hy))
  have h2 := h0 (xs.drop (i + 1)) (fun y hy => h y (List.mem_of_mem_drop hy))
  omega
theorem take_getE {cs ys : List V} {p w : Nat} (h : (cs.drop p).take w = ys) {j : Nat} (hj : j < w) : cs[p + j]? = ys[j]? := by
  subst h
  rw [List.getElem?_take, if_pos hj, List.getElem?_drop]
theorem k_laws_markBlockS : MarkS T0 ty_Block F_laws_markBlockS gm_BlockS gt_BlockS := fun M v xs L k h nd hb hk hk2 => by
  have hpos : ∀ x ∈ xs, 0 ≤ gt_BlkE x := fun x hx => by have := gt_BlkE_b (hb.2 x hx).2.2.1; omega
  have hk3 : k + gtS gt_BlkE xs ≤ 4611686018427387904 := hk2
  have hn := hb.1
  have hn2 : (xs.length : Int) ≤ 1048576 := by omega
  obtain ⟨a, c, rfl⟩ := h.rep.slen
  have key := loop_to (call := aCall T0) (K := K_laws_markBlockS_0) (L := L_laws_markBlockS_0) (fun i (_ : Unit) X => UpdG M X (· ∈ L) ∧ Own (.sl ty_Block) X [.slice a xs.length c] (gmS gm_BlkE gt_BlkE k (xs.take i) ++ xs.drop i) L) (fun i _ => [.slice a xs.length c, .int .i64 (k + gtS gt_BlkE (xs.take i)), und, und, und, .int .i64 i, und, und, und, und, und, und, und, und, und, und, und, und, und, und, und, und, und, und, und, und, und, und, und, und, und, und, und, und]) (n := xs.length) ?_ 0 () M (by omega) ⟨pre_g (List.prefix_refl _) _, by simpa [gmS] using h⟩
  · obtain ⟨_, X', ⟨h1, h2⟩, e⟩ := key
    simp only [List.take_length, List.drop_length, List.append_nil] at h2 e
    have e0 : k + gtS gt_BlkE (xs.take 0) = k := by simp [gtS]
    simp only [e0, Int.natCast_zero, Int.ofNat_zero] at e
    obtain ⟨M2, g1, g2, g3⟩ := gc_num h1 h h2 (k + gtS gt_BlkE xs)
    refine ⟨M2, ?_, g2, g3⟩
    rw [aCall_eq T_laws_markBlockS]; unfold A_laws_markBlockS C_laws_markBlockS; simp [thenD_pp, sliceCells_sl, sliceCells_z, sliceCells_nil, take_full, appS_sl, appK_ok, appS_none, thenD_ag, agP_nil, agP_cons, e]
    rw [S_laws_markBlockS_0]; unfold B_laws_markBlockS_0; simp [thenD_pp, sliceCells_sl, sliceCells_z, sliceCells_nil, take_full, appS_sl, appK_ok, appS_none, thenD_ag, agP_nil, agP_cons]
    exact g1
  intro i _ X hi ⟨hu, ho⟩
  have hys : (gmS gm_BlkE gt_BlkE k (xs.take i)).length = i := by rw [gmS_len, List.length_take]; omega
  have hyl : (gmS gm_BlkE gt_BlkE k (xs.take i) ++ xs.drop i).length = xs.length := by simp [hys]; omega
  have hyi : (gmS gm_BlkE gt_BlkE k (xs.take i) ++ xs.drop i)[i]'(by omega) = xs[i] := by
    rw [List.getElem_append_right (by omega)]
    simp [hys]
  obtain ⟨l, o, c2, blk, cs, K, ev, hbl, hst, hw, hle, hcs, hcl, hoe, ndk, hlk, hKL, hlL, hre⟩ := Own.elem ho nd (i := i) (by omega)
  rw [hyi] at hoe
  rw [hyl] at ev
  cases ev
  have e6 : IntKind.i64.wrap ((i : Int) + 1) = i + 1 := wrap_i64 (by omega) (by omega)
  have ht := gtS_take (tot := gt_BlkE) hpos hi
  have hw1 : ty_Block.w = 3 := rfl
  have hbi := hb.2 _ (List.getElem_mem hi)
  have hbx := gt_BlkE_b hbi.2.2.1
  have hgt : gt_BlkE xs[i] = 2 + gt_ByteS xs[i].2.2 := rfl
  have es := gtS_step gt_BlkE hi
  have es2 : k + gtS gt_BlkE (xs.take (i + 1)) = k + gtS gt_BlkE (xs.take i) + 2 + gt_ByteS xs[i].2.2 := by rw [es, hgt]; omega
  obtain ⟨u, K0, rfl, w0, w1, hou, rfl⟩ := own_g_Block hoe
  obtain ⟨ua, uc, rfl⟩ := hou.rep.slen
  rw [hw1] at hle hcs
  have hgm := gmS_step gm_BlkE gt_BlkE hi k
  rw [es2]
  obtain ⟨p, hp⟩ : ∃ p, p = o + i * 3 := ⟨_, rfl⟩
  generalize hq : k + gtS gt_BlkE (xs.take i) = q at *
  have hc2 := take_getE hcs (j := 2) (by decide)
  simp only [List.getElem?_cons_succ, List.getElem?_cons_zero] at hc2
  rw [← hp] at hle hcs hc2
  have v1 : wrn X l p [.int .i64 q] = some (X.set l (spB blk p [.int .i64 q])) := wrn_eq hbl hst (by simp; omega) rfl
  have v2 : wrn (X.set l (spB blk p [.int .i64 q])) l (p + 1) [.int .i64 (q + 1)] = some (X.set l (spB blk p [.int .i64 q, .int .i64 (q + 1)])) := wrn_sp X l p blk hbl hst [.int .i64 q] (.int .i64 (q + 1)) rfl (by simp; omega)
  have hX2 : (X.set l (spB blk p [.int .i64 q, .int .i64 (q + 1)]))[l]? = some (spB blk p [.int .i64 q, .int .i64 (q + 1)]) := gs_of hbl _
  have hsp3 : spB blk p [.int .i64 q, .int .i64 (q + 1)] = spB blk p [.int .i64 q, .int .i64 (q + 1), .slice ua (List.length (α := UInt8) xs[i].2.2) uc] := by
    unfold spB
    rw [splice_more _ _ _ _ hc2]
    rfl
  have hrd : rd1 (X.set l (spB blk p [.int .i64 q, .int .i64 (q + 1)])) l (p + 2) = some (.slice ua (List.length (α := UInt8) xs[i].2.2) uc) := by
    rw [rd1_K, hX2]
    have hs2 : (splice blk.cells p [.int .i64 q, .int .i64 (q + 1)])[p + 2]? = some (.slice ua (List.length (α := UInt8) xs[i].2.2) uc) := by
      rw [spl_at _ _ _ _ (by simp; omega), if_neg (by omega), if_neg (by simp)]
      exact hc2
    exact (if_pos (Or.inr hst)).trans hs2
  have hu2 : UpdG X (X.set l (spB blk p [.int .i64 q, .int .i64 (q + 1)])) (· ∈ [l]) 
    := (upd_set (b2 := spB blk p [.int .i64 q, .int .i64 (q + 1)]) hbl rfl).g
  obtain ⟨X', e1, u1, o1⟩ := k_laws_markByteS (X.set l (spB blk p [.int .i64 q, .int .i64 (q + 1)])) (.slice ua (List.length (α := UInt8) xs[i].2.2) uc) xs[i].2.2 K (q + 2) (hou.updg hu2 (fun j hj hm => hlk (by simp at hm; subst hm; exact hj))) ndk hbi.2.2 (by omega) (by omega)
  have hX'l : X'[l]? = some (spB blk p [.int .i64 q, .int .i64 (q + 1)]) := u1.get hX2 hlk
  have hwq : (Lit.int .i64 q).wf = true ∧ (Lit.int .i64 (q + 1)).wf = true := ⟨wf_mk (by omega) (by omega), wf_mk (by omega) (by omega)⟩
  have huX : UpdG X X' (fun j => j = l ∨ j ∈ K) := (hu2.trans u1).weak (fun j hj => by
    rcases hj with hj | hj
    · left; simpa using hj
    · exact .inr hj)
  have hown := hre X' [.int .i64 q, .int .i64 (q + 1), .slice ua (List.length (α := UInt8) xs[i].2.2) uc] (gm_BlkE q xs[i]) huX (by rw [hX'l, hsp3, hp]; rfl) rfl (mkown_g_Block (x := gm_BlkE q xs[i]) hwq.1 hwq.2 o1)
  rw [hgm] at hown
  refine ⟨(), X', ⟨?_, hown⟩, ?_⟩
  · exact (hu.trans huX).weak (fun j hj => by
      rcases hj with hj | hj | hj
      · exact hj
      · subst hj; exact hlL
      · exact hKL j hj)
  · have f1 : IntKind.i64.wrap (q + 1) = q + 1 := wrap_i64 (by omega) (by omega)
    have f2 : IntKind.i64.wrap (q + 1 + 1) = q + 2 := by rw [wrap_i64 (by omega) (by omega)]; omega
    have f3 : q + gt_ByteS xs[i].2.2 + 2 = q + 2 + gt_ByteS xs[i].2.2 := by omega
    rw [hp] at v1 v2 hrd e1
    rw [S_laws_markBlockS_0]; unfold B_laws_markBlockS_0; simp [thenD_pp, sliceCells_sl, sliceCells_z, sliceCells_nil, take_full, appS_sl, appK_ok, appS_none, thenD_ag, agP_nil, agP_cons, hi, v1, v2, hrd, e1, e6, f1, f2]
theorem marksY_get (k : Int) (n i : Nat) (hi : i < (marksY k n).length) : (marksY k n)[i] = mkY (k + i) := by simp [marksY]
theorem d_laws_heldByteS (M : Mem) (v : V) (k : Int) (n : Nat) (h : Rep (.sl ty_Byte) M [v] (marksY k n)) (hk : 0 < k) (hk2 : k + n ≤ 4611686018427387904) : aCall T0 F_laws_heldByteS [v, .int .i64 k] M = some (.int .i64 (k + n), M) := by
  obtain ⟨a, c, rfl⟩ := h.slen
  have hlen := marksY_len k n
  have hc := chain (g := fun i : Nat => lp (aCall T0) K_laws_heldByteS_0 L_laws_heldByteS_0 [.slice a (marksY k n).length c, .int .i64 (k + (i : Int)), und, und, und, .int .i64 i, und, und, und, und, und, und, und, und, und, und, und, und, und, und, und, und] M) (n := n) fun i hi => by
    obtain ⟨l, o, rfl, _, hf0⟩ := at_Byte h (i := i) (by omega)
    rw [marksY_get] at hf0
    have e6 : IntKind.i64.wrap ((i : Int) + 1) = i + 1 := wrap_i64 (by omega) (by omega)
    have e7 : IntKind.i64.wrap (k + (i : Int) + 1) = k + ((i : Int) + 1) := by rw [wrap_i64 (by omega) (by omega)]; omega
    have e8 := mkY_wrap (k + (i : Int)) (by omega)
    unfold byteV at hf0
    rw [hlen]
    rw [S_laws_heldByteS_0]; unfold B_laws_heldByteS_0; simp [hf0, hi, e6, e7, e8]
  simp only [Int.natCast_zero, Int.ofNat_zero, Int.add_zero] at hc
  rw [hlen] at hc ⊢
  rw [aCall_eq T_laws_heldByteS]; unfold A_laws_heldByteS C_laws_heldByteS; simp [hc]
  rw [S_laws_heldByteS_0]; unfold B_laws_heldByteS_0; simp
theorem k_laws_heldByteS : HeldS T0 ty_Byte F_laws_heldByteS gm_ByteS gt_ByteS := fun M v xs k h hb hk hk2 => d_laws_heldByteS M v k xs.length h hk hk2
theorem at_Block {M : Mem} {a : Option Addr} {n c : Nat} {xs : List ty_Block.D} (h : Rep (.sl ty_Block) M [.slice a n c] xs) {i : Nat} (hi : i < xs.length) : ∃ l o u, a = some ⟨l, o, none⟩ ∧ rd1 M l (o + i * 3) = some (.int .i64 xs[i].1) ∧ rd1 M l (o + i * 3 + 1) = some (.int .i64 xs[i].2.1) ∧ rd1 M l (o + i * 3 + 2) = some u ∧ rdn M l (o + i * 3) 3 = some [.int .i64 xs[i].1, .int .i64 xs[i].2.1, u] ∧ (Lit.int .i64 xs[i].1).wf = true ∧ (Lit.int .i64 xs[i].2.1).wf = true ∧ Rep (.sl ty_Byte) M [u] xs[i].2.2 ∧ Rep ty_Block M [.int .i64 xs[i].1, .int .i64 xs[i].2.1, u] xs[i] := by
  obtain ⟨_, l, o, rfl, cs, hrd, hrep⟩ := rep_at h hi
  obtain ⟨u, rfl, w0, w1, hr⟩ := rep_g_Block hrep
  have hw : ty_Block.w = 3 := rfl
  rw [hw] at hrd
  exact ⟨l, o, u, rfl, rd1_of_rdn hrd (k := 0) rfl, rd1_of_rdn hrd (k := 1) rfl, rd1_of_rdn hrd (k := 2) rfl, hrd, w0, w1, hr, hrep⟩
theorem gmS_get {D : Type} (mk : Int → D → D) (tot : D → Int) {xs : List D} {i : Nat} (hi : i < xs.length) (k : Int) (h : i < (gmS mk tot k xs).length) : (gmS mk tot k xs)[i] = mk (k + gtS tot (xs.take i)) xs[i] := by
  have e : xs = xs.take i ++ (xs[i] :: xs.drop (i + 1)) := by
    rw [← List.drop_eq_getElem_cons hi, List.take_append_drop]
  have hl : (gmS mk tot k (xs.take i)).length = i := by rw [gmS_len, List.length_take]; omega
  have e2 : gmS mk tot k xs = gmS mk tot k (xs.take i) ++ gmS mk tot (k + gtS tot (xs.take i)) (xs[i] :: xs.drop (i + 1)) := by
    conv => lhs; rw [e]
    exact gmS_app mk tot _ _ _
  have e3 : (gmS mk tot k xs)[i]? = some (mk (k + gtS tot (xs.take i)) xs[i]) := by
    rw [e2, List.getElem?_append_right (by omega), hl, Nat.sub_self]
    rfl
  rw [List.getElem?_eq_getElem h] at e3
  exact Option.some.inj e3
theorem k_laws_heldBlockS : HeldS T0 ty_Block F_laws_heldBlockS gm_BlockS gt_BlockS := fun M v xs k h hb hk hk2 => by
  have hpos : ∀ x ∈ xs, 0 ≤ gt_BlkE x := fun x hx => by have := gt_BlkE_b (hb.2 x hx).2.2.1; omega
  have hk3 : k + gtS gt_BlkE xs ≤ 4611686018427387904 := hk2
  have hn := hb.1
  have hn2 : (xs.length : Int) ≤ 1048576 := by omega
  have hgl : (gm_BlockS k xs).length = xs.length := gmS_len _ _ _ _
  obtain ⟨a, c, rfl⟩ := h.slen
  rw [hgl]
  have hl := chain (g := fun i => lp (aCall T0) K_laws_heldBlockS_0 L_laws_heldBlockS_0 [.slice a xs.length c, .int .i64 (k + gtS gt_BlkE (xs.take i)), und, und, und, .int .i64 i, und, und, und, und, und, und, und, und, und, und, und, und, und, und, und, und, und, und, und, und, und, und, und, und, und, und, und, und, und, und, und, und, und, und] M) (n := xs.length) fun i hi => by
    have e6 : IntKind.i64.wrap ((i : Int) + 1) = i + 1 := wrap_i64 (by omega) (by omega)
    have ht := gtS_take (tot := gt_BlkE) hpos hi
    have hbi := hb.2 _ (List.getElem_mem hi)
    have hbx := gt_BlkE_b hbi.2.2.1
    have hgt : gt_BlkE xs[i] = 2 + gt_ByteS xs[i].2.2 := rfl
    have es := gtS_step gt_BlkE hi
    have es2 : k + gtS gt_BlkE (xs.take (i + 1)) = k + gtS gt_BlkE (xs.take i) + 2 + gt_ByteS xs[i].2.2 := by rw [es, hgt]; omega
    obtain ⟨l, o, u, rfl, q1, q2, q3, _, _, _, qu, _⟩ := at_Block h (i := i) (by omega)
    have hg : (gm_BlockS k xs)[i]'(by omega) = gm_BlkE (k + gtS gt_BlkE (xs.take i)) xs[i] := gmS_get gm_BlkE gt_BlkE hi k _
    rw [hg] at q1 q2 qu
    simp only [es2]
    generalize k + gtS gt_BlkE (xs.take i) = q at *
    have hgb : 0 ≤ gt_ByteS xs[i].2.2 := Int.natCast_nonneg _
    have e1 := k_laws_heldByteS M u xs[i].2.2 (q + 2) qu hbi.2.2 (by omega) (by omega)
    have f1 : IntKind.i64.wrap (q + 1) = q + 1 := wrap_i64 (by omega) (by omega)
    have f2 : IntKind.i64.wrap (q + 1 + 1) = q + 2 := by rw [wrap_i64 (by omega) (by omega)]; omega
    have hnn : ¬ (q + 2 + gt_ByteS xs[i].2.2 < 0) := by omega
    rw [S_laws_heldBlockS_0]; unfold B_laws_heldBlockS_0; simp [thenD_pp, sliceCells_sl, sliceCells_z, sliceCells_nil, take_full, appS_sl, appK_ok, appS_none, thenD_ag, agP_nil, agP_cons, hi, q1, q2, q3, e1, e6, f1, f2, hnn]
  have e0 : k + gtS gt_BlkE (xs.take 0) = k := by simp [gtS]
  simp only [e0, Int.natCast_zero, Int.ofNat_zero, List.take_length] at hl
  rw [aCall_eq T_laws_heldBlockS]; unfold A_laws_heldBlockS C_laws_heldBlockS; simp [thenD_pp, sliceCells_sl, sliceCells_z, sliceCells_nil, take_full, appS_sl, appK_ok, appS_none, thenD_ag, agP_nil, agP_cons, hl]
  rw [S_laws_heldBlockS_0]; unfold B_laws_heldBlockS_0; simp [thenD_pp, sliceCells_sl, sliceCells_z, sliceCells_nil, take_full, appS_sl, appK_ok, appS_none, thenD_ag, agP_nil, agP_cons]
def withoutL (id : Int) (xs : List ty_Block.D) : List ty_Block.D := xs.filter fun b => decide (b.1 ≠ id)
/-- The place of an Id. -/
def lbB (id : Int) (xs : List ty_Block.D) : Nat := (xs.takeWhile fun b => decide (b.1 < id)).length
def insL (b : ty_Block.D) (ys : List ty_Block.D) : List ty_Block.D := ys.take (lbB b.1 ys) ++ b :: ys.drop (lbB b.1 ys)
/-- A block is put. -/
def putL (b : ty_Block.D) (xs : List ty_Block.D) : List ty_Block.D := insL b (withoutL b.1 xs)
def lgB (l : Int) : Bool := decide (0 ≤ l) && decide (l ≤ 6)
def leafB (l x : Int) : Bool := lgB l && (decide (0 ≤ x) && decide (x < 2 ^ l.toNat))
def wdB (w : Int) : Bool := decide (1 ≤ w) && decide (w ≤ 200)
def bidB (i : Int) : Bool := decide (0 ≤ i) && decide (i ≤ 255)
def blockB (l w : Int) (b : ty_Block.D) : Bool := (lgB l && wdB w) && (bidB b.1 && (leafB l b.2.1 && decide ((List.length (α := UInt8) b.2.2 : Int) = w)))
def stepB (l w : Int) (xs : List ty_Block.D) (i : Nat) : Bool := match xs[i]? with
  | some b => blockB l w b && (i == 0 || match xs[i - 1]? with
    | some p => decide (p.1 < b.1)
    | none => true)
  | none => true
def blocksB (l w : Int) (xs : List ty_Block.D) : Bool := (lgB l && wdB w) && (List.range xs.length).all (stepB l w xs)
def stashB (l w : Int) (xs : List ty_Block.D) : Bool := decide (xs.length ≤ 128) && blocksB l w xs
def stB (xs : List ty_Block.D) (b : ty_Block.D) (l w : Int) : Bool := (stashB l w xs && blockB l w b) && decide ((withoutL b.1 xs).length ≠ 128)
def stX (xs : List ty_Block.D) (b : ty_Block.D) (l w : Int) : List ty_Block.D := if stB xs b l w = true then putL b xs else []
theorem lbB_le (id : Int) : ∀ (xs : List ty_Block.D), lbB id xs ≤ xs.length
  | [] => by simp [lbB]
  | b :: xs => by
    have ih := lbB_le id xs
    unfold lbB at ih ⊢
    by_cases h : b.1 < id
    · simp only [List.takeWhile_cons, decide_eq_true h, if_true, List.length_cons]; omega
    · simp only [List.takeWhile_cons, decide_eq_false h, Bool.false_eq_true, if_false, List.length_nil]; omega
theorem insL_len (b : ty_Block.D) (ys : List ty_Block.D) : (insL b ys).length = ys.length + 1 := by
  unfold insL
  have := lbB_le b.1 ys
  simp only [List.length_append, List.length_take, List.length_cons, List.length_drop]
  omega
theorem putL_len (b : ty_Block.D) (xs : List ty_Block.D) : (putL b xs).length = (withoutL b.1 xs).length + 1 := insL_len _ _
theorem insL_mem {b c : ty_Block.D} {ys : List ty_Block.D} (h : c ∈ insL b ys) : c = b ∨ c ∈ ys := by
  unfold insL at h
  rcases List.mem_append.1 h with h | h
  · exact .inr (List.mem_of_mem_take h)
  · rcases List.mem_cons.1 h with h | h
    · exact .inl h
    · exact .inr (List.mem_of_mem_drop h)
theorem stX_bd (xs : List ty_Block.D) (b : ty_Block.D) (l w : Int) (h : Bd 1048576 (.sl ty_Block) xs) (hb : Bd 1048576 ty_Block b) : Bd 1048576 (.sl ty_Block) (stX xs b l w) := by
  unfold stX
  split
  · rename_i hh
    refine ⟨?_, fun x hx => ?_⟩
    · have h1 := putL_len b xs
      have h2 : (withoutL b.1 xs).length ≤ xs.length := List.length_filter_le _ _
      unfold stB stashB at hh
      simp only [Bool.and_eq_true, decide_eq_true_eq] at hh
      have h3 := hh.1.1.1
      show List.length (putL b xs) ≤ 1048576
      omega
    · rcases insL_mem hx with rfl | hx
      · exact hb
      · exact h.2 x (List.mem_filter.1 hx).1
  · exact ⟨by simp, by simp⟩
def hs (h : Nat) (b : UInt8) : Nat := ((h ^^^ b.toNat) * 16777619) % 4294967296
/-- Sizes of blocks. -/
def BlkSz (xs : List ty_Block.D) : Prop := xs.length ≤ 1048576 ∧ ∀ x ∈ xs, List.length (α := UInt8) x.2.2 ≤ 1048576
theorem blkSz_of {xs : List ty_Block.D} (h : Bd 1048576 (.sl ty_Block) xs) : BlkSz xs := ⟨h.1, fun x hx => (h.2 x hx).2.2.1⟩
theorem c_impl_within (M : Mem) (x a b : Int) : aCall T0 F_impl_within [.int .i64 x, .int .i64 a, .int .i64 b] M = some (.bool (decide (a ≤ x) && decide (x ≤ b)), M) := by
  rw [aCall_eq T_impl_within]; unfold A_impl_within C_impl_within; simp
  repeat' ((first | rw [selO_some] | rw [condR_bool] | rw [selD_some]); split <;> rename_i hq <;> (have hq2 := hq) <;> (try simp at hq2) <;> (try simp [*]))
theorem c_impl_isLog (M : Mem) (x : Int) : aCall T0 F_impl_isLog [.int .i64 x] M = some (.bool (decide (0 ≤ x) && decide (x ≤ 6)), M) := by
  rw [aCall_eq T_impl_isLog]; unfold A_impl_isLog C_impl_isLog; simp [c_impl_within]
theorem log_nat {l : Int} (h : lgB l = true) : ∃ m : Nat, l = m ∧ m ≤ 6 := by
  unfold lgB at h
  simp at h
  exact ⟨l.toNat, by omega, by omega⟩
theorem pow2_pos (n : Nat) : (0 : Int) < 2 ^ n := Int.pow_pos (by omega)
theorem pow2_le {n m : Nat} (h : n ≤ m) : (2 : Int) ^ n ≤ 2 ^ m := by
  have := Nat.pow_le_pow_right (show 0 < 2 by omega) h
  exact_mod_cast this
theorem pow6 {m : Nat} (h : m ≤ 6) : (1 : Int) ≤ 2 ^ m ∧ (2 : Int) ^ m ≤ 64 := ⟨by have := pow2_pos m; omega, by have := pow2_le h; omega⟩
theorem c_impl_isLeaf (M : Mem) (l x : Int) : aCall T0 F_impl_isLeaf [.int .i64 l, .int .i64 x] M = some (.bool (leafB l x), M) := by
  unfold leafB
  cases h : lgB l with
  | false =>
    have e : (decide (0 ≤ l) && decide (l ≤ 6)) = false := h
    rw [aCall_eq T_impl_isLeaf]; unfold A_impl_isLeaf C_impl_isLeaf; simp [c_impl_isLog, e]
  | true =>
    have e : (decide (0 ≤ l) && decide (l ≤ 6)) = true := h
    obtain ⟨m, rfl, hm⟩ := log_nat h
    have e2 := fun M => (c_impl_isLog M m).trans (by rw [e])
    have hp := pow6 hm
    have e1 : bshl .i64 1 m = 2 ^ m := by
      unfold bshl
      have h : min (m : Int).toNat IntKind.i64.bits = m := by show min _ 64 = m; omega
      rw [h, wrap_i64 (by omega) (by omega)]
      omega
    have e3 : IntKind.i64.wrap ((2 : Int) ^ m - 1) = 2 ^ m - 1 := wrap_i64 (by omega) (by omega)
    have e4 : decide (x ≤ 2 ^ m - 1) = decide (x < 2 ^ m) := by
      by_cases h : x < 2 ^ m
      · rw [decide_eq_true h, decide_eq_true (by omega)]
      · rw [decide_eq_false h, decide_eq_false (by omega)]
    rw [aCall_eq T_impl_isLeaf]; unfold A_impl_isLeaf C_impl_isLeaf; simp [e2, e1, e3, c_impl_within, e4]
theorem c_impl_isBlock (M : Mem) (cs : List V) (b : ty_Block.D) (h : Rep ty_Block M cs b) (l w : Int) : aCall T0 F_impl_isBlock [.agg cs.toArray, .int .i64 l, .int .i64 w] M = some (.bool (blockB l w b), M) := by
  obtain ⟨u, rfl, w0, w1, hr⟩ := rep_g_Block h
  obtain ⟨a, c, rfl⟩ := hr.slen
  have e2 := fun M => c_impl_isLeaf M l b.2.1
  have e3 := fun M => c_impl_within M w 1 200
  have e4 := fun M => c_impl_within M b.1 0 255
  have hb : blockB l w b = (leafB l b.2.1 && wdB w && bidB b.1 && decide ((List.length (α := UInt8) b.2.2 : Int) = w)) := by
    unfold blockB leafB
    cases lgB l <;> cases wdB w <;> cases bidB b.1 <;> simp
  rw [hb]
  clear hb
  cases h4 : leafB l b.2.1 with
  | false => rw [aCall_eq T_impl_isBlock]; unfold A_impl_isBlock C_impl_isBlock; simp [e2, h4]
  | true =>
    cases h5 : wdB w with
    | false =>
      have h5 : (decide (1 ≤ w) && decide (w ≤ 200)) = false := h5
      rw [aCall_eq T_impl_isBlock]; unfold A_impl_isBlock C_impl_isBlock; simp [e2, h4, e3, h5]
    | true =>
      have h5 : (decide (1 ≤ w) && decide (w ≤ 200)) = true := h5
      cases h6 : bidB b.1 with
      | false =>
        have h6 : (decide (0 ≤ b.1) && decide (b.1 ≤ 255)) = false := h6
        rw [aCall_eq T_impl_isBlock]; unfold A_impl_isBlock C_impl_isBlock; simp [e2, h4, e3, h5, e4, h6]
      | true =>
        have h6 : (decide (0 ≤ b.1) && decide (b.1 ≤ 255)) = true := h6
        rw [aCall_eq T_impl_isBlock]; unfold A_impl_isBlock C_impl_isBlock; simp [e2, h4, e3, h5, e4, h6]
theorem rall_all {n : Nat} {p : Nat → Bool} (h : ∀ i, i < n → p i = true) : (List.range n).all p = true := List.all_eq_true.2 fun i hi => h i (List.mem_range.1 hi)
theorem rall_not {n : Nat} {p : Nat → Bool} (h : ∃ i, i < n ∧ p i = false) : (List.range n).all p = false := by
  obtain ⟨i, hi, hp⟩ := h
  rw [List.all_eq_false]
  exact ⟨i, List.mem_range.2 hi, by rw [hp]; decide⟩
theorem stepB_zero {l w : Int} {xs : List ty_Block.D} (h : 0 < xs.length) : stepB l w xs 0 = blockB l w xs[0] := by
  unfold stepB
  rw [List.getElem?_eq_getElem h]
  simp
theorem stepB_pos {l w : Int} {xs : List ty_Block.D} {i : Nat} (h : i < xs.length) (h0 : 0 < i) : stepB l w xs i = (blockB l w xs[i] && decide ((xs[i - 1]'(by omega)).1 < xs[i].1)) := by
  unfold stepB
  rw [List.getElem?_eq_getElem h, List.getElem?_eq_getElem (by omega)]
  have : (i == 0) = false := by simp; omega
  simp [this]
theorem gc_boolp {M M' : Mem} (hp : M <+: M') (b : Bool) : gc M (some (.bool b, M')) = some (.bool b, M) := by
  obtain ⟨N, rfl⟩ := hp
  exact gc_bool M N b
theorem l_impl_areBlocks_0 (M : Mem) (a : Option Addr) (c : Nat) (xs : List ty_Block.D) (l w : Int) (h : Rep (.sl ty_Block) M [.slice a xs.length c] xs) (hn : xs.length ≤ 1048576) :
    (∃ X', M <+: X' ∧ (∀ i, i < xs.length → stepB l w xs i = true) ∧ lp (aCall T0) K_impl_areBlocks_0 L_impl_areBlocks_0 [.slice a xs.length c, .int .i64 l, .int .i64 w, und, und, und, und, und, und, .slice a xs.length c, .int .i64 xs.length, .int .i64 (0 : Nat), und, und, und, und, und, und, und, und, und, und, und, und, und, und, und, und, und, und, und, und, und, und, und, und, und, und, und, und, und, und, und] M = lp (aCall T0) K_impl_areBlocks_0 L_impl_areBlocks_0 [.slice a xs.length c, .int .i64 l, .int .i64 w, und, und, und, und, und, und, .slice a xs.length c, .int .i64 xs.length, .int .i64 xs.length, und, und, und, und, und, und, und, und, und, und, und, und, und, und, und, und, und, und, und, und, und, und, und, und, und, und, und, und, und, und, und] X') ∨
    ((∃ i, i < xs.length ∧ stepB l w xs i = false) ∧ ∀ k, thenF M [.tmp 6] (thenS (blockR 0 (lp (aCall T0) K_impl_areBlocks_0 L_impl_areBlocks_0 [.slice a xs.length c, .int .i64 l, .int .i64 w, und, und, und, und, und, und, .slice a xs.length c, .int .i64 xs.length, .int .i64 (0 : Nat), und, und, und, und, und, und, und, und, und, und, und, und, und, und, und, und, und, und, und, und, und, und, und, und, und, und, und, und, und, und, und] M)) (aCall T0) k) = some (.bool false, M)) := by
  have key := loop_ok (call := aCall T0) (K := K_impl_areBlocks_0) (L := L_impl_areBlocks_0) (fun _ Y => M <+: Y) (fun i => [.slice a xs.length c, .int .i64 l, .int .i64 w, und, und, und, und, und, und, .slice a xs.length c, .int .i64 xs.length, .int .i64 i, und, und, und, und, und, und, und, und, und, und, und, und, und, und, und, und, und, und, und, und, und, und, und, und, und, und, und, und, und, und, und]) (stepB l w xs) (n := xs.length) (M0 := M) (rs := [.tmp 6]) (k0 := 0) (a := .bool false) M (List.prefix_refl _) ?_ ?_
  · rcases key with ⟨X', hp, h1, h2⟩ | h
    · exact .inl ⟨X', hp, h1, h2⟩
    · exact .inr h
  · intro i Y hi hq hY
    have e6 : IntKind.i64.wrap ((i : Int) + 1) = i + 1 := wrap_i64 (by omega) (by omega)
    have e8 : IntKind.i64.wrap 1 = 1 := wrap_i64 (by omega) (by omega)
    obtain ⟨b, o, u, rfl, q1, q2, q3, q4, _, _, qu, qr⟩ := at_Block (h.mono hY) hi
    obtain ⟨ua, uc, rfl⟩ := qu.slen
    have hc := fun N : Mem => c_impl_isBlock (Y ++ N) _ _ (qr.mono (List.prefix_append Y N)) l w
    refine ⟨Y ++ [⟨[.int .i64 xs[i].1, .int .i64 xs[i].2.1, .slice ua (List.length (α := UInt8) xs[i].2.2) uc], 1, 2⟩], hY.trans (List.prefix_append _ _), ?_⟩
    rcases Nat.eq_zero_or_pos i with h0 | h0
    · subst h0
      rw [stepB_zero hi] at hq
      simp only [Int.natCast_zero, Int.ofNat_zero, Nat.zero_mul, Nat.add_zero] at *
      rw [S_impl_areBlocks_0]; unfold B_impl_areBlocks_0; simp [thenD_pp, sliceCells_sl, sliceCells_z, sliceCells_nil, take_full, appS_sl, appK_ok, appS_none, thenD_ag, agP_nil, agP_cons, hi, q4, hc, hq, e6, e8]
    · rw [stepB_pos hi h0, Bool.and_eq_true] at hq
      have hi' : (0 : Int) < (i : Int) := by omega
      have e7 : IntKind.i64.wrap ((i : Int) - 1) = ((i - 1 : Nat) : Int) := by rw [wrap_i64 (by omega) (by omega)]; omega
      obtain ⟨b', o', u', e, q1', _⟩ := at_Block (h.mono hY) (i := i - 1) (by omega)
      cases e
      have q1' := fun N : Mem => rd1_old (N := N) q1'
      have hlt := of_decide_eq_true hq.2
      have hge : ¬ (xs[i].1 ≤ (xs[i - 1]'(by omega)).1) := Int.not_le.2 hlt
      have hi1 : i - 1 < xs.length := by omega
      rw [S_impl_areBlocks_0]; unfold B_impl_areBlocks_0; simp [thenD_pp, sliceCells_sl, sliceCells_z, sliceCells_nil, take_full, appS_sl, appK_ok, appS_none, thenD_ag, agP_nil, agP_cons, hi, q4, hc, hq.1, e6, hi', h0, e7, q1', hge, hi1]
  · intro i Y hi hq hY k
    have e6 : IntKind.i64.wrap ((i : Int) + 1) = i + 1 := wrap_i64 (by omega) (by omega)
    have e8 : IntKind.i64.wrap 1 = 1 := wrap_i64 (by omega) (by omega)
    obtain ⟨b, o, u, rfl, q1, q2, q3, q4, _, _, qu, qr⟩ := at_Block (h.mono hY) hi
    obtain ⟨ua, uc, rfl⟩ := qu.slen
    have hc := fun N : Mem => c_impl_isBlock (Y ++ N) _ _ (qr.mono (List.prefix_append Y N)) l w
    have gb := fun (N : Mem) b => gc_boolp (hY.trans (List.prefix_append Y N)) b
    rcases Nat.eq_zero_or_pos i with h0 | h0
    · subst h0
      rw [stepB_zero hi] at hq
      simp only [Int.natCast_zero, Int.ofNat_zero, Nat.zero_mul, Nat.add_zero] at *
      rw [S_impl_areBlocks_0]; unfold B_impl_areBlocks_0; simp [thenD_pp, sliceCells_sl, sliceCells_z, sliceCells_nil, take_full, appS_sl, appK_ok, appS_none, thenD_ag, agP_nil, agP_cons, hi, q4, hc, hq, e6, e8, gb]
    · rw [stepB_pos hi h0] at hq
      have hi' : (0 : Int) < (i : Int) := by omega
      have e7 : IntKind.i64.wrap ((i : Int) - 1) = ((i - 1 : Nat) : Int) := by rw [wrap_i64 (by omega) (by omega)]; omega
      obtain ⟨b', o', u', e, q1', _⟩ := at_Block (h.mono hY) (i := i - 1) (by omega)
      cases e
      have q1' := fun N : Mem => rd1_old (N := N) q1'
      have hi1 : i - 1 < xs.length := by omega
      cases hb : blockB l w xs[i] with
      | false =>
        rw [hb] at hc
        rw [S_impl_areBlocks_0]; unfold B_impl_areBlocks_0; simp [thenD_pp, sliceCells_sl, sliceCells_z, sliceCells_nil, take_full, appS_sl, appK_ok, appS_none, thenD_ag, agP_nil, agP_cons, hi, q4, hc, e6, gb]
      | true =>
        rw [hb] at hc
        rw [hb, Bool.true_and] at hq
        have hlt := of_decide_eq_false hq
        have hge : xs[i].1 ≤ (xs[i - 1]'(by omega)).1 := Int.not_lt.1 hlt
        rw [S_impl_areBlocks_0]; unfold B_impl_areBlocks_0; simp [thenD_pp, sliceCells_sl, sliceCells_z, sliceCells_nil, take_full, appS_sl, appK_ok, appS_none, thenD_ag, agP_nil, agP_cons, hi, q4, hc, e6, hi', h0, e7, q1', hge, hi1, gb]
theorem c_impl_areBlocks (M : Mem) (v : V) (xs : List ty_Block.D) (l w : Int) (h : Rep (.sl ty_Block) M [v] xs) (hn : xs.length ≤ 1048576) : aCall T0 F_impl_areBlocks [v, .int .i64 l, .int .i64 w] M = some (.bool (blocksB l w xs), M) := by
  obtain ⟨a, c, rfl⟩ := h.slen
  have e1 := fun M => c_impl_isLog M l
  have e2 := fun M => c_impl_within M w 1 200
  unfold blocksB
  rcases l_impl_areBlocks_0 M a c xs l w h hn with ⟨X', hp, ha, e⟩ | ⟨hx, e⟩
  · simp only [Int.natCast_zero, Int.ofNat_zero] at e
    rw [rall_all ha, Bool.and_true]
    have gb := fun b => gc_boolp hp b
    unfold lgB wdB
    cases h1 : (decide (0 ≤ l) && decide (l ≤ 6)) with
    | false =>
      rw [aCall_eq T_impl_areBlocks]; unfold A_impl_areBlocks C_impl_areBlocks; simp [thenD_pp, sliceCells_sl, sliceCells_z, sliceCells_nil, take_full, appS_sl, appK_ok, appS_none, thenD_ag, agP_nil, agP_cons, e]
      rw [S_impl_areBlocks_0]; unfold B_impl_areBlocks_0; simp [thenD_pp, sliceCells_sl, sliceCells_z, sliceCells_nil, take_full, appS_sl, appK_ok, appS_none, thenD_ag, agP_nil, agP_cons, e1, h1, gb]
    | true =>
      rw [aCall_eq T_impl_areBlocks]; unfold A_impl_areBlocks C_impl_areBlocks; simp [thenD_pp, sliceCells_sl, sliceCells_z, sliceCells_nil, take_full, appS_sl, appK_ok, appS_none, thenD_ag, agP_nil, agP_cons, e]
      rw [S_impl_areBlocks_0]; unfold B_impl_areBlocks_0; simp [thenD_pp, sliceCells_sl, sliceCells_z, sliceCells_nil, take_full, appS_sl, appK_ok, appS_none, thenD_ag, agP_nil, agP_cons, e1, h1, e2, gb]
  · simp only [Int.natCast_zero, Int.ofNat_zero] at e
    rw [rall_not hx, Bool.and_false]
    rw [aCall_eq T_impl_areBlocks]; unfold A_impl_areBlocks C_impl_areBlocks; simp [thenD_pp, sliceCells_sl, sliceCells_z, sliceCells_nil, take_full, appS_sl, appK_ok, appS_none, thenD_ag, agP_nil, agP_cons, e]
theorem c_impl_isStash (M : Mem) (v : V) (xs : List ty_Block.D) (l w : Int) (h : Rep (.sl ty_Block) M [v] xs) (hn : xs.length ≤ 1048576) : aCall T0 F_impl_isStash [v, .int .i64 l, .int .i64 w] M = some (.bool (stashB l w xs), M) := by
  have e1 := c_impl_areBlocks M v xs l w h hn
  obtain ⟨a, c, rfl⟩ := h.slen
  unfold stashB
  by_cases hs : xs.length ≤ 128
  · have hs' : (xs.length : Int) ≤ 128 := by omega
    rw [aCall_eq T_impl_isStash]; unfold A_impl_isStash C_impl_isStash; simp [thenD_pp, sliceCells_sl, sliceCells_z, sliceCells_nil, take_full, appS_sl, appK_ok, appS_none, thenD_ag, agP_nil, agP_cons, e1, hs, hs']
  · have hs' : ¬ (xs.length : Int) ≤ 128 := by omega
    rw [aCall_eq T_impl_isStash]; unfold A_impl_isStash C_impl_isStash; simp [thenD_pp, sliceCells_sl, sliceCells_z, sliceCells_nil, take_full, appS_sl, appK_ok, appS_none, thenD_ag, agP_nil, agP_cons, e1, hs, hs']
theorem gr_Block_nd {M : Mem} {ds : List V} {x : ty_Block.D} {K : List Nat} (h : Gr ty_Block M ds x K) : K.Nodup := by
  obtain ⟨c1, c2, L1, L2, _, ⟨_, rfl⟩, ⟨c3, c4, L3, L4, _, ⟨_, rfl⟩, h, rfl⟩, rfl⟩ := h
  rcases h with ⟨_, _, rfl⟩ | ⟨l, css, Ls, _, _, h1, h2, h3, rfl⟩
  · simp
  · have : Ls.flatten = [] := by
      rw [List.flatten_eq_nil_iff]
      intro K hK
      obtain ⟨i, hi, rfl⟩ := List.getElem_of_mem hK
      exact (h3 i (css[i]'(by omega)) (x.2.2[i]'(by omega)) Ls[i] (by simp) (by simp) (by simp)).2
    simp [this]
def Zl (zs : List (List V × ty_Block.D)) : List V := (zs.map (·.1)).flatten
theorem gr0 {t : Ty} {M : Mem} {l : Nat} (hb : M[l]? = some ⟨[], t.w, 2⟩) : Gr (.sl t) M [.slice (some ⟨l, 0, none⟩) 0 0] [] [l] :=
  .inr ⟨l, [], [], rfl, hb, rfl, rfl, by simp, by simp⟩
theorem sl_pre {M X : Mem} {w : Nat} {v : V} {r : Nat × List V} (hp : M <+: X) (h : sliceCells M w v = some r) : sliceCells X w v = some r := by
  unfold sliceCells at h ⊢
  split at h
  · exact h
  · split at h
    · rename_i h0; rw [if_pos h0]; exact h
    · rename_i h0
      rw [if_neg h0]
      obtain ⟨y, hy, rfl⟩ := Option.map_eq_some_iff.1 h
      rw [rn_pre hp hy]
      rfl
  · cases h
/-- A clone of blocks. -/
def ClB (M : Mem) (zs : List (List V × ty_Block.D)) (p : V × Mem) : Prop := M <+: p.2 ∧ ((zs = [] ∧ ∃ La, Gr (.sl ty_Block) p.2 [p.1] [] La ∧ La.Nodup ∧ ∀ l ∈ La, M.length ≤ l) ∨ zs ≠ [] ∧ ∃ l, p.1 = .slice (some ⟨l, 0, none⟩) zs.length zs.length ∧ M.length ≤ l ∧ p.2[l]? = some ⟨Zl zs, 3, 2⟩)
theorem c_clone_Block (M0 M : Mem) (hp0 : M0 <+: M) (v : V) (zs : List (List V × ty_Block.D)) (hv : ∃ a c, v = .slice a zs.length c) (h2 : ∀ z ∈ zs, Rep ty_Block M0 z.1 z.2) (h3 : sliceCells M0 3 v = some (zs.length, Zl zs)) (hn : zs.length ≤ 1048576) :
    Sat (aCall T0 F_slices_Clone_impl_Block_impl_Block [v] M) (ClB M zs) := by
  have hc : ∀ N : Mem, sliceCells (M ++ N) 3 v = some (zs.length, Zl zs) := fun N => sl_pre (hp0.trans (List.prefix_append M N)) h3
  obtain ⟨a, c, rfl⟩ := hv
  have hfl : (Zl zs).length = zs.length * 3 := by
    unfold Zl
    rw [flat_len (w := 3)]
    · simp
    · intro c hc
      obtain ⟨z, hz, rfl⟩ := List.mem_map.1 hc
      exact (h2 z hz).len
  have hone : (Zl zs).all one = true := by
    unfold Zl
    rw [List.all_flatten, List.all_eq_true]
    intro c hc
    obtain ⟨z, hz, rfl⟩ := List.mem_map.1 hc
    exact (h2 z hz).one
  cases a with
  | none =>
    have hx : zs = [] := by
      cases zs with
      | nil => rfl
      | cons z zs => simp [sliceCells] at h3
    subst hx
    rw [aCall_eq T_slices_Clone_impl_Block_impl_Block]; unfold A_slices_Clone_impl_Block_impl_Block C_slices_Clone_impl_Block_impl_Block; simp [thenD_pp, sliceCells_sl, sliceCells_z, sliceCells_nil, take_full, appS_sl, appK_ok, appS_none, thenD_ag, agP_nil, agP_cons]
    exact ⟨_, rfl, List.prefix_refl _, .inl ⟨rfl, [], Gr.nil, by simp, by simp⟩⟩
  | some a =>
    by_cases h0 : zs = []
    · subst h0
      have hz : Zl [] = [] := rfl
      rw [hz] at hc
      simp only [List.length_nil] at hc
      rw [aCall_eq T_slices_Clone_impl_Block_impl_Block]; unfold A_slices_Clone_impl_Block_impl_Block C_slices_Clone_impl_Block_impl_Block; simp [thenD_pp, sliceCells_sl, sliceCells_z, sliceCells_nil, take_full, appS_sl, appK_ok, appS_none, thenD_ag, agP_nil, agP_cons, hc, zeroCells, appS]
      exact ⟨(_, M ++ [⟨[], 3, 2⟩]), rfl, List.prefix_append _ _, .inl ⟨rfl, [M.length], gr0 (t := ty_Block) (by simp [Ty.w]), by simp, by simp⟩⟩
    · have hpos := List.length_pos_iff.2 h0
      rw [aCall_eq T_slices_Clone_impl_Block_impl_Block]; unfold A_slices_Clone_impl_Block_impl_Block C_slices_Clone_impl_Block_impl_Block; simp [thenD_pp, sliceCells_sl, sliceCells_z, sliceCells_nil, take_full, appS_sl, appK_ok, appS_none, thenD_ag, agP_nil, agP_cons, hc, zeroCells]
      generalize hy : appS _ _ _ _ _ _ = xhy
      have hg1 : Grow M.length 3 (M ++ [(⟨[], 3, 2⟩ : Blk)]) (.slice (some ⟨M.length, 0, none⟩) 0 0) 0 [] := Grow.new (Nat.le_refl _) rfl
      obtain ⟨a3, X3, rfl, g3, ag, l3⟩ := hg1.at hy (List.prefix_refl _) (by simp) hfl hpos hone (by omega) (by omega)
      clear hy
      simp [thenD_pp, sliceCells_sl, sliceCells_z, sliceCells_nil, take_full, appS_sl, appK_ok, appS_none, thenD_ag, agP_nil, agP_cons]
      obtain ⟨_, ⟨e, e0⟩ | ⟨l, hl, e, hb⟩⟩ := g3
      · cases e
      · cases e
        simp only [Nat.zero_add, List.nil_append] at hb ⊢
        exact ⟨_, rfl, ag.pre (List.prefix_append _ _) (fun b hb => hg1.ge b hb), .inr ⟨h0, l, rfl, hl, hb⟩⟩
theorem rep_hdz {t : Ty} {M : Mem} {v : V} {xs : List t.D} (h : Rep (.sl t) M [v] xs) : ∃ zs : List (List V × t.D), zs.map (·.2) = xs ∧ (∀ z ∈ zs, Rep t M z.1 z.2) ∧ sliceCells M t.w v = some (xs.length, (zs.map (·.1)).flatten) := by
  rcases h with ⟨e, rfl⟩ | ⟨l, o, c, blk, css, e, h2, h3, h4, h5, h6, h7⟩
  · cases e
    exact ⟨[], rfl, by simp, rfl⟩
  · cases e
    refine ⟨css.zip xs, List.map_snd_zip (by omega), ?_, ?_⟩
    · intro z hz
      obtain ⟨i, hi, rfl⟩ := List.getElem_of_mem hz
      rw [List.length_zip] at hi
      rw [List.getElem_zip]
      exact h6 i _ _ (List.getElem?_eq_getElem (by omega)) (List.getElem?_eq_getElem (by omega))
    · have hm : ((css.zip xs).map (·.1)) = css := List.map_fst_zip (by omega)
      rw [hm]
      have hl : css.flatten.length = xs.length * t.w := by
        rw [flat_len (w := t.w), h5]
        intro ds hd
        obtain ⟨i, hi, rfl⟩ := List.getElem_of_mem hd
        exact (h6 i css[i] (xs[i]'(by omega)) (by simp) (by simp)).len
      by_cases h0 : xs.length * t.w = 0
      · have : css.flatten = [] := List.length_eq_zero_iff.1 (by omega)
        simp [sliceCells, h0, this]
      · obtain ⟨r, hr⟩ := h7
        have hne : xs ≠ [] := by rintro rfl; simp at h0
        have hle : o + xs.length * t.w ≤ blk.cells.length := by
          have := congrArg List.length hr
          rw [List.length_append, List.length_drop, hl] at this
          omega
        have hst : blk.st = 1 ∨ blk.st = 2 := by
          rcases h3 with h | h | h
          · exact .inl h
          · exact .inr h
          · exact absurd h hne
        simp only [sliceCells, h0, if_false, rdn, h2]
        rw [if_pos ⟨hst, hle⟩, ← hr, ← hl, List.take_left]
        rfl
theorem zl_of {M : Mem} {v : V} {xs : List ty_Block.D} (h : Rep (.sl ty_Block) M [v] xs) : ∃ zs : List (List V × ty_Block.D), zs.map (·.2) = xs ∧ (∃ a c, v = .slice a zs.length c) ∧ (∀ z ∈ zs, Rep ty_Block M z.1 z.2) ∧ sliceCells M 3 v = some (zs.length, Zl zs) := by
  obtain ⟨zs, h1, h2, h3⟩ := rep_hdz h
  have hl : xs.length = zs.length := by rw [← h1]; simp
  rw [hl] at h3
  obtain ⟨a, c, rfl⟩ := h.slen
  exact ⟨zs, h1, ⟨a, c, by rw [hl]⟩, h2, h3⟩
theorem gr_Block {M : Mem} {x : ty_Block.D} {u : V} {L : List Nat} (w0 : (Lit.int .i64 x.1).wf = true) (w1 : (Lit.int .i64 x.2.1).wf = true) (r0 : Gr (.sl ty_Byte) M [u] x.2.2 L) : Gr ty_Block M [.int .i64 x.1, .int .i64 x.2.1, u] x L :=
  ⟨[.int .i64 x.1], [.int .i64 x.2.1, u], [], L, rfl, ⟨⟨rfl, w0⟩, rfl⟩, ⟨[.int .i64 x.2.1], [u], [], L, rfl, ⟨⟨rfl, w1⟩, rfl⟩, r0, rfl⟩, rfl⟩
def CkI (M : Mem) (l : Nat) (zs : List (List V × ty_Block.D)) (i : Nat) (X : Mem) : Prop :=
  ∃ (ds : List (List V)) (Ls : List (List Nat)), M <+: X ∧ X[l]? = some ⟨ds.flatten ++ Zl (zs.drop i), 3, 2⟩ ∧ ds.length = i ∧ Ls.length = i ∧ (∀ (k : Nat) (d : List V) (z : List V × ty_Block.D) (K : List Nat), ds[k]? = some d → zs[k]? = some z → Ls[k]? = some K → Gr ty_Block X d z.2 K) ∧ (l :: Ls.flatten).Nodup ∧ ∀ j ∈ Ls.flatten, M.length ≤ j
theorem Zl_cons (z : List V × ty_Block.D) (zs : List (List V × ty_Block.D)) : Zl (z :: zs) = z.1 ++ Zl zs := by simp [Zl]
theorem splice1 {cs : List V} {o : Nat} {v : V} (h : o < cs.length) : splice cs o [v] = cs.set o v := by
  unfold splice
  rw [List.set_eq_take_append_cons_drop, if_pos h]
  simp
theorem splice_mid (A : List V) (x y u w : V) (B : List V) : splice (A ++ ([x, y, u] ++ B)) (A.length + 2) [w] = A ++ ([x, y, w] ++ B) := by
  rw [splice1 (by simp), List.set_append_right _ _ (by omega)]
  have : A.length + 2 - A.length = 2 := by omega
  rw [this]
  rfl
theorem fl_Byte : FlatE .u8 enc_Byte (fun _ => True) := ⟨fun M x _ => ⟨rfl, rfl⟩, fun M cs x h => ⟨h, trivial⟩⟩
theorem l_impl_cloneBlocks_0 (M : Mem) (l : Nat) (zs : List (List V × ty_Block.D)) (hl : M.length ≤ l) (hz : ∀ z ∈ zs, Rep ty_Block M z.1 z.2) (hn : zs.length ≤ 1048576) (hs : ∀ z ∈ zs, List.length (α := UInt8) z.2.2.2 ≤ 1048576) (Z : Mem) (hZ : CkI M l zs 0 Z) :
    ∃ (u : Unit) (X' : Mem), CkI M l zs zs.length X' ∧ lp (aCall T0) K_impl_cloneBlocks_0 L_impl_cloneBlocks_0 [und, und, und, .slice (some ⟨l, 0, none⟩) zs.length zs.length, und, und, und, und, .slice (some ⟨l, 0, none⟩) zs.length zs.length, .int .i64 zs.length, .int .i64 (0 : Nat), und, und, und, und, und, und, und, und, und, und, und, und, und] Z = lp (aCall T0) K_impl_cloneBlocks_0 L_impl_cloneBlocks_0 [und, und, und, .slice (some ⟨l, 0, none⟩) zs.length zs.length, und, und, und, und, .slice (some ⟨l, 0, none⟩) zs.length zs.length, .int .i64 zs.length, .int .i64 zs.length, und, und, und, und, und, und, und, und, und, und, und, und, und] X' := by
  refine loop_to (call := aCall T0) (K := K_impl_cloneBlocks_0) (L := L_impl_cloneBlocks_0) (fun i (_ : Unit) X => CkI M l zs i X) (fun i (_ : Unit) => [und, und, und, .slice (some ⟨l, 0, none⟩) zs.length zs.length, und, und, und, und, .slice (some ⟨l, 0, none⟩) zs.length zs.length, .int .i64 zs.length, .int .i64 i, und, und, und, und, und, und, und, und, und, und, und, und, und]) (n := zs.length) ?_ 0 () Z (by omega) hZ
  intro i _ X hi ⟨ds, Ls, pX, hb, hd, hL, hg, nd, hge⟩
  have e6 : IntKind.i64.wrap ((i : Int) + 1) = i + 1 := wrap_i64 (by omega) (by omega)
  have hzm := List.getElem_mem hi
  have hR := hz _ hzm
  have hsz := hs _ hzm
  obtain ⟨u, hu, w0, w1, qu⟩ := rep_g_Block hR
  have hdr : zs.drop i = zs[i] :: zs.drop (i + 1) := List.drop_eq_getElem_cons hi
  rw [hdr, Zl_cons, hu] at hb
  have hdl : ds.flatten.length = i * 3 := by
    rw [flat_len (w := 3), hd]
    intro c hc
    obtain ⟨k, hk, rfl⟩ := List.getElem_of_mem hc
    exact (hg k _ (zs[k]'(by omega)) (Ls[k]'(by omega)) (by simp) (by simp) (by simp)).len
  generalize hzi : zs[i] = z at *
  obtain ⟨z1, b1, b2, b3⟩ := z
  simp only at hu w0 w1 qu hsz hb hR
  subst hu
  have hl3 : ∀ u : V, (ds.flatten ++ ([(.int .i64 b1 : V), .int .i64 b2, u] ++ Zl (zs.drop (i + 1)))).length = i * 3 + 3 + (Zl (zs.drop (i + 1))).length := fun u => by
    rw [List.length_append, hdl, List.length_append]
    simp only [List.length_cons, List.length_nil]
    omega
  have hrd : rdn X l (i * 3) 3 = some [.int .i64 b1, .int .i64 b2, u] := by
    simp only [rdn, hb]
    rw [if_pos (by rw [hl3]; refine ⟨by simp, by omega⟩), List.drop_left' hdl]
    rfl
  have hrd' := fun N : Mem => rn_pre (List.prefix_append X N) hrd
  have s1 := clone_sl (M := X ++ [(⟨[.int .i64 b1, .int .i64 b2, u], 1, 2⟩ : Blk)]) T_bytes_Clone (t := .u8) fl_Byte rfl (qu.mono (pX.trans (List.prefix_append _ _))) (by omega) (by omega)
  obtain ⟨ua, uc, rfl⟩ := qu.slen
  have hlX := get_lt hb
  rw [S_impl_cloneBlocks_0]; unfold B_impl_cloneBlocks_0; simp [thenD_pp, sliceCells_sl, sliceCells_z, sliceCells_nil, take_full, appS_sl, appK_ok, appS_none, thenD_ag, agP_nil, agP_cons, hi, hrd, hrd', zeroCells, rdJ_ok, rd1_K]
  generalize hx : aCall T0 F_bytes_Clone _ _ = xhx
  obtain ⟨w1', X3, rfl, K2, p3', gb, ndb, geb⟩ := of_call hx s1
  clear hx
  simp only at p3' gb geb
  have p3 : X <+: X3 := (List.prefix_append _ _).trans p3'
  obtain ⟨a7, rfl⟩ := gb.shape
  have hb3 := get_pre p3 hb
  have hwr : wrn X3 l (i * 3 + 2) [.slice a7 (List.length (α := UInt8) b3) (List.length (α := UInt8) b3)] = some (X3.set l ⟨ds.flatten ++ ([.int .i64 b1, .int .i64 b2, .slice a7 (List.length (α := UInt8) b3) (List.length (α := UInt8) b3)] ++ Zl (zs.drop (i + 1))), 3, 2⟩) := by
    simp only [wrn, hb3]
    rw [if_pos (by rw [hl3]; refine ⟨by simp, by simp only [List.length_cons, List.length_nil]; omega, rfl⟩), ← hdl, splice_mid]
  simp [thenD_pp, sliceCells_sl, sliceCells_z, sliceCells_nil, take_full, appS_sl, appK_ok, appS_none, thenD_ag, agP_nil, agP_cons, hi, hwr, e6]
  have hlK : l ∉ K2 := fun hm => by have := geb l hm; simp at this; omega
  have hlt : ∀ K ∈ Ls, ∀ j ∈ K, j < X.length := by
    intro K hK j hj
    obtain ⟨k, hk, rfl⟩ := List.getElem_of_mem hK
    exact (hg k (ds[k]'(by omega)) (zs[k]'(by omega)) _ (by simp) (by simp) (by simp)).lt j hj
  have hnd := List.nodup_cons.1 nd
  refine ⟨_, ⟨ds ++ [[.int .i64 b1, .int .i64 b2, .slice a7 (List.length (α := UInt8) b3) (List.length (α := UInt8) b3)]], Ls ++ [K2], pf_set hl (pX.trans p3), ?_, by simp [hd], by simp [hL], ?_, ?_, ?_⟩, rfl⟩
  · rw [gs_of hb3]; simp
  · intro k d z K hdk hzk hKk
    by_cases hk : k < i
    · rw [List.getElem?_append_left (by omega)] at hdk hKk
      have g := hg k d z K hdk hzk hKk
      refine (g.grow p3).set _ (fun hm => hnd.1 (List.mem_flatten.2 ⟨K, List.mem_of_getElem? hKk, hm⟩))
    · have hki : k = i := by
        have := (List.getElem?_eq_some_iff.1 hdk).1
        simp at this
        omega
      subst hki
      rw [List.getElem?_append_right (by omega)] at hdk hKk
      simp [hd] at hdk
      simp [hL] at hKk
      rw [List.getElem?_eq_getElem hi, hzi] at hzk
      cases hzk
      subst hdk
      subst hKk
      exact gr_Block (x := (b1, b2, b3)) w0 w1 (gb.set _ hlK)
  · rw [List.flatten_append, List.flatten_cons, List.flatten_nil, List.append_nil]
    refine List.nodup_cons.2 ⟨fun hm => ?_, List.nodup_append.2 ⟨hnd.2, ndb, fun a ha b hb2 e => ?_⟩⟩
    · rcases List.mem_append.1 hm with h | h
      · exact hnd.1 h
      · exact hlK h
    · subst e
      obtain ⟨K, hK, ha⟩ := List.mem_flatten.1 ha
      have h1 := hlt K hK a ha
      have h2 := geb a hb2
      simp at h2
      omega
  · intro j hj
    rw [List.flatten_append, List.flatten_cons, List.flatten_nil, List.append_nil] at hj
    rcases List.mem_append.1 hj with h | h
    · exact hge j h
    · have := geb j h
      have := pX.length_le
      simp at *
      omega
theorem c_impl_cloneBlocks (M : Mem) (v : V) (xs : List ty_Block.D) (h : Rep (.sl ty_Block) M [v] xs) (hz : BlkSz xs) : Sat (aCall T0 F_impl_cloneBlocks [v] M) (GrV ty_Block M xs) := by
  obtain ⟨zs, rfl, hv, hz2, h3⟩ := zl_of h
  have hn : zs.length ≤ 1048576 := by have := hz.1; simpa using this
  have hs : ∀ z ∈ zs, List.length (α := UInt8) z.2.2.2 ≤ 1048576 := fun z hm => hz.2 z.2 (List.mem_map_of_mem hm)
  have hC := c_clone_Block M M (List.prefix_refl _) v zs hv hz2 h3 hn
  obtain ⟨av, cv, rfl⟩ := hv
  rw [aCall_eq T_impl_cloneBlocks]; unfold A_impl_cloneBlocks C_impl_cloneBlocks; simp [thenD_pp, sliceCells_sl, sliceCells_z, sliceCells_nil, take_full, appS_sl, appK_ok, appS_none, thenD_ag, agP_nil, agP_cons]
  generalize hx : aCall T0 F_slices_Clone_impl_Block_impl_Block _ _ = xhx
  obtain ⟨v1, X1, rfl, p1, ⟨h0, La, g1, g2, g3⟩ | ⟨h0, l, rfl, hl, hb⟩⟩ := of_call hx hC
  · clear hx
    subst h0
    simp only at p1 g1
    obtain ⟨a, rfl⟩ := g1.shape
    simp only [List.length_nil]
    simp [thenD_pp, sliceCells_sl, sliceCells_z, sliceCells_nil, take_full, appS_sl, appK_ok, appS_none, thenD_ag, agP_nil, agP_cons]
    rw [S_impl_cloneBlocks_0]; unfold B_impl_cloneBlocks_0; simp [thenD_pp, sliceCells_sl, sliceCells_z, sliceCells_nil, take_full, appS_sl, appK_ok, appS_none, thenD_ag, agP_nil, agP_cons]
    exact ⟨(_, X1), rfl, La, p1, g1, g2, g3⟩
  · clear hx
    simp only at p1 hb
    have hlt := get_lt hb
    obtain ⟨_, X', ⟨ds, Ls, pX, hb', hd, hL, hg, nd, hge⟩, e⟩ := l_impl_cloneBlocks_0 M l zs hl hz2 hn hs X1 ⟨[], [], p1, by simpa using hb, rfl, rfl, by simp, by simp, by simp⟩
    simp only [Int.natCast_zero, Int.ofNat_zero] at e
    simp [thenD_pp, sliceCells_sl, sliceCells_z, sliceCells_nil, take_full, appS_sl, appK_ok, appS_none, thenD_ag, agP_nil, agP_cons, e]
    rw [S_impl_cloneBlocks_0]; unfold B_impl_cloneBlocks_0; simp [thenD_pp, sliceCells_sl, sliceCells_z, sliceCells_nil, take_full, appS_sl, appK_ok, appS_none, thenD_ag, agP_nil, agP_cons]
    refine ⟨(_, X'), rfl, l :: Ls.flatten, pX, .inr ⟨l, ds, Ls, by simp, ?_, by simp [hd], by simp [hL], ?_, rfl⟩, nd, ?_⟩
    · show X'[l]? = _
      rw [hb']
      simp [Zl, Ty.w]
    · intro k d x K hdk hxk hKk
      rw [List.getElem?_map] at hxk
      obtain ⟨z, hz, rfl⟩ := Option.map_eq_some_iff.1 hxk
      exact hg k d z K hdk hz hKk
    · intro j hj
      rcases List.mem_cons.1 hj with rfl | hj
      · exact hl
      · exact hge j hj
/-- Ids that grow. -/
def IdLt (xs : List ty_Block.D) : Prop := xs.Pairwise fun a b => a.1 < b.1
theorem blocks_lt {l w : Int} {xs : List ty_Block.D} (h : blocksB l w xs = true) : IdLt xs := by
  unfold blocksB at h
  rw [Bool.and_eq_true] at h
  have h1 : ∀ i (hi : i + 1 < xs.length), (xs[i]'(by omega)).1 < xs[i + 1].1 := fun i hi => by
    have := List.all_eq_true.1 h.2 (i + 1) (List.mem_range.2 hi)
    rw [stepB_pos hi (by omega), Bool.and_eq_true] at this
    exact of_decide_eq_true this.2
  have h2 : ∀ d i (hi : i + d + 1 < xs.length), (xs[i]'(by omega)).1 < xs[i + d + 1].1 := by
    intro d
    induction d with
    | zero => intro i hi; exact h1 i hi
    | succ d ih => intro i hi; exact Int.lt_trans (ih i (by omega)) (h1 (i + d + 1) hi)
  unfold IdLt
  rw [List.pairwise_iff_getElem]
  intro i j hi hj hij
  obtain ⟨d, rfl⟩ : ∃ d, j = i + d + 1 := ⟨j - i - 1, by omega⟩
  exact h2 d i hj
theorem bid_of {l w : Int} {b : ty_Block.D} (h : blockB l w b = true) : 0 ≤ b.1 ∧ b.1 ≤ 255 := by
  unfold blockB bidB at h
  simp only [Bool.and_eq_true] at h
  exact ⟨of_decide_eq_true h.2.1.1, of_decide_eq_true h.2.1.2⟩
theorem blocks_of {l w : Int} {xs : List ty_Block.D} (h : blocksB l w xs = true) : ∀ b ∈ xs, blockB l w b = true := by
  intro b hb
  obtain ⟨i, hi, rfl⟩ := List.getElem_of_mem hb
  unfold blocksB at h
  rw [Bool.and_eq_true] at h
  have := List.all_eq_true.1 h.2 i (List.mem_range.2 hi)
  unfold stepB at this
  rw [List.getElem?_eq_getElem hi] at this
  rw [Bool.and_eq_true] at this
  exact this.1
def IdsR (xs : List ty_Block.D) : Prop := ∀ x ∈ xs, 0 ≤ x.1 ∧ x.1 ≤ 255
theorem ids_of {l w : Int} {xs : List ty_Block.D} (h : blocksB l w xs = true) : IdsR xs := fun x hx => bid_of (blocks_of h x hx)
abbrev tgB (t1 t2 : Int) (ta : Option Addr) (tn tc : Nat) : List V := [.int .i64 t1, .int .i64 t2, .slice ta tn tc]
theorem c_impl_blockPut_1 (M : Mem) (a a2 b b2 : Int) (ua ub : Option Addr) (na ca nb cb : Nat) (ha : 0 ≤ a ∧ a ≤ 255) (hb : 0 ≤ b ∧ b ≤ 255) : aCall T0 F_impl_blockPut_1 [.agg (tgB a a2 ua na ca).toArray, .agg (tgB b b2 ub nb cb).toArray] M = some (.int .i64 (a - b), M) := by
  have e : IntKind.i64.wrap (a - b) = a - b := wrap_i64 (by omega) (by omega)
  rw [aCall_eq T_impl_blockPut_1]; unfold A_impl_blockPut_1 C_impl_blockPut_1; simp [e]
theorem r_bsB (M : Mem) (a : Option Addr) (c : Nat) (xs : List ty_Block.D) (h : Rep (.sl ty_Block) M [.slice a xs.length c] xs) (hn : xs.length ≤ 1048576) (hr : IdsR xs) (pt : Nat) (t1 t2 : Int) (ta : Option Addr) (tn tc : Nat) (hpt : M[pt]? = some ⟨tgB t1 t2 ta tn tc, 1, 2⟩) (ht : 0 ≤ t1 ∧ t1 ≤ 255) (i j : Nat) (hij : i < j) (hj : j ≤ xs.length) (hi : (i + j) / 2 < xs.length) :
    lp (aCall T0) K_slices_BinarySearchFunc_impl_Block_impl_Block_impl_Block_0 L_slices_BinarySearchFunc_impl_Block_impl_Block_impl_Block_0 [.slice a xs.length c, und, .func (.func F_impl_blockPut_1) #[] #[], und, .pointer (some ⟨pt, 0, none⟩), und, und, und, .int .i64 xs.length, .int .i64 i, .int .i64 j, und, und, und, und, und, und, und, und, und, und, und, und, und, und, und, und, und, und, und, und, und, und, und, und, und, und, und, und, und, und, und, und, und, und, und, und, und, und] M =
    lp (aCall T0) K_slices_BinarySearchFunc_impl_Block_impl_Block_impl_Block_0 L_slices_BinarySearchFunc_impl_Block_impl_Block_impl_Block_0 [.slice a xs.length c, und, .func (.func F_impl_blockPut_1) #[] #[], und, .pointer (some ⟨pt, 0, none⟩), und, und, und, .int .i64 xs.length, .int .i64 (if (xs[(i + j) / 2]).1 < t1 then (((i + j) / 2 + 1 : Nat) : Int) else (i : Int)), .int .i64 (if (xs[(i + j) / 2]).1 < t1 then (j : Int) else (((i + j) / 2 : Nat) : Int)), und, und, und, und, und, und, und, und, und, und, und, und, und, und, und, und, und, und, und, und, und, und, und, und, und, und, und, und, und, und, und, und, und, und, und, und, und, und] M := by
  obtain ⟨m, hm⟩ : ∃ m, m = (i + j) / 2 := ⟨_, rfl⟩
  simp only [← hm] at hi ⊢
  obtain ⟨l, o, u, rfl, _, _, _, hrd, _, _, qu, _⟩ := at_Block h hi
  have hx := hr _ (List.getElem_mem hi)
  generalize xs[m] = b at *
  obtain ⟨b1, b2, b3⟩ := b
  simp only at *
  obtain ⟨ua, uc, rfl⟩ := qu.slen
  have s1 := c_impl_blockPut_1 M b1 b2 t1 t2 ua ta (List.length (α := UInt8) b3) uc tn tc hx ht
  simp only [tgB] at s1 hpt
  have g0 : (i : Int) < j := by omega
  have e1 : IntKind.i64.wrap ((i : Int) + j) = (i : Int) + j := wrap_i64 (by omega) (by omega)
  have e2 : IntKind.u64.wrap ((i : Int) + j) = (i : Int) + j := wrap_u64 (by omega) (by omega)
  have e4 : bshr .u64 ((i : Int) + j) 1 = (m : Int) := by
    unfold bshr
    have hm2 : min (1 : Int).toNat IntKind.u64.bits = 1 := rfl
    rw [hm2, hm]
    show ((i : Int) + j).fdiv (2 ^ 1) = _
    rw [Int.fdiv_eq_ediv_of_nonneg _ (by omega)]
    omega
  have e3 : IntKind.i64.wrap ((m : Nat) : Int) = m := wrap_i64 (by omega) (by omega)
  have e6 : IntKind.i64.wrap ((m : Int) + 1) = m + 1 := wrap_i64 (by omega) (by omega)
  have hpr : rdn M pt 0 3 = some [.int .i64 t1, .int .i64 t2, .slice ta tn tc] := rdn_box hpt rfl
  by_cases hq : b1 < t1
  · have hq2 : b1 - t1 < 0 := Int.sub_neg_of_lt hq
    rw [S_slices_BinarySearchFunc_impl_Block_impl_Block_impl_Block_0]; unfold B_slices_BinarySearchFunc_impl_Block_impl_Block_impl_Block_0; simp [g0, hij, e1, e2, e4, e3, hi, hrd, hpr, s1, hq, hq2, e6]
  · have hq2 : ¬ b1 - t1 < 0 := fun hh => hq (Int.lt_of_sub_neg hh)
    rw [S_slices_BinarySearchFunc_impl_Block_impl_Block_impl_Block_0]; unfold B_slices_BinarySearchFunc_impl_Block_impl_Block_impl_Block_0; simp [g0, hij, e1, e2, e4, e3, hi, hrd, hpr, s1, hq, hq2, e6]
theorem l_bsB (M : Mem) (a : Option Addr) (c : Nat) (xs : List ty_Block.D) (h : Rep (.sl ty_Block) M [.slice a xs.length c] xs) (hn : xs.length ≤ 1048576) (hr : IdsR xs) (pt : Nat) (t1 t2 : Int) (ta : Option Addr) (tn tc : Nat) (hpt : M[pt]? = some ⟨tgB t1 t2 ta tn tc, 1, 2⟩) (ht : 0 ≤ t1 ∧ t1 ≤ 255) : ∀ (d i j : Nat), j - i ≤ d → i ≤ j → j ≤ xs.length →
    (∀ (q : 0 < i) (hq : i - 1 < xs.length), (xs[i - 1]).1 < t1) → (∀ (hq : j < xs.length), ¬ (xs[j]).1 < t1) →
    ∃ r : Nat, r ≤ xs.length ∧ (∀ (q : 0 < r) (hq : r - 1 < xs.length), (xs[r - 1]).1 < t1) ∧ (∀ (hq : r < xs.length), ¬ (xs[r]).1 < t1) ∧
    lp (aCall T0) K_slices_BinarySearchFunc_impl_Block_impl_Block_impl_Block_0 L_slices_BinarySearchFunc_impl_Block_impl_Block_impl_Block_0 [.slice a xs.length c, und, .func (.func F_impl_blockPut_1) #[] #[], und, .pointer (some ⟨pt, 0, none⟩), und, und, und, .int .i64 xs.length, .int .i64 i, .int .i64 j, und, und, und, und, und, und, und, und, und, und, und, und, und, und, und, und, und, und, und, und, und, und, und, und, und, und, und, und, und, und, und, und, und, und, und, und, und, und] M =
    lp (aCall T0) K_slices_BinarySearchFunc_impl_Block_impl_Block_impl_Block_0 L_slices_BinarySearchFunc_impl_Block_impl_Block_impl_Block_0 [.slice a xs.length c, und, .func (.func F_impl_blockPut_1) #[] #[], und, .pointer (some ⟨pt, 0, none⟩), und, und, und, .int .i64 xs.length, .int .i64 r, .int .i64 r, und, und, und, und, und, und, und, und, und, und, und, und, und, und, und, und, und, und, und, und, und, und, und, und, und, und, und, und, und, und, und, und, und, und, und, und, und, und] M
  | 0, i, j, hd, hij, hj, h1, h2 => by
    have e : i = j := by omega
    subst e
    exact ⟨i, hj, h1, h2, rfl⟩
  | d + 1, i, j, hd, hij, hj, h1, h2 => by
    by_cases e : i = j
    · subst e
      exact ⟨i, hj, h1, h2, rfl⟩
    have hm : (i + j) / 2 < xs.length := by omega
    have hrr := r_bsB M a c xs h hn hr pt t1 t2 ta tn tc hpt ht i j (by omega) hj hm
    by_cases hq : (xs[(i + j) / 2]).1 < t1
    · rw [if_pos hq, if_pos hq] at hrr
      rw [hrr]
      exact l_bsB M a c xs h hn hr pt t1 t2 ta tn tc hpt ht d ((i + j) / 2 + 1) j (by omega) (by omega) hj (fun _ _ => hq) h2
    · rw [if_neg hq, if_neg hq] at hrr
      rw [hrr]
      exact l_bsB M a c xs h hn hr pt t1 t2 ta tn tc hpt ht d i ((i + j) / 2) (by omega) (by omega) (by omega) h1 (fun _ => hq)
/-- slices.BinarySearchFunc: the place, and is it there. -/
theorem c_bsB (M : Mem) (v : V) (xs : List ty_Block.D) (h : Rep (.sl ty_Block) M [v] xs) (hn : xs.length ≤ 1048576) (hr : IdsR xs) (t1 t2 : Int) (ta : Option Addr) (tn tc : Nat) (ht : 0 ≤ t1 ∧ t1 ≤ 255) :
    ∃ r : Nat, r ≤ xs.length ∧ (∀ (q : 0 < r) (hq : r - 1 < xs.length), (xs[r - 1]).1 < t1) ∧ (∀ (hq : r < xs.length), ¬ (xs[r]).1 < t1) ∧
    aCall T0 F_slices_BinarySearchFunc_impl_Block_impl_Block_impl_Block [v, .agg (tgB t1 t2 ta tn tc).toArray, .func (.func F_impl_blockPut_1) #[] #[]] M = some (.tuple #[.int .i64 r, .bool (decide (∃ hq : r < xs.length, (xs[r]).1 = t1))], M) := by
  obtain ⟨a, c, rfl⟩ := h.slen
  obtain ⟨r, h1, h2, h3, h4⟩ := l_bsB (M ++ [⟨tgB t1 t2 ta tn tc, 1, 2⟩]) a c xs (h.mono (List.prefix_append _ _)) hn hr M.length t1 t2 ta tn tc (by simp) ht xs.length 0 xs.length (by omega) (by omega) (Nat.le_refl _) (fun q => by omega) (fun q => by omega)
  refine ⟨r, h1, h2, h3, ?_⟩
  simp only [Int.natCast_zero, Int.ofNat_zero] at h4
  have hpr : rdn (M ++ [⟨tgB t1 t2 ta tn tc, 1, 2⟩]) M.length 0 3 = some [.int .i64 t1, .int .i64 t2, .slice ta tn tc] := rdn_box (by simp) rfl
  simp only [tgB] at h4 hpr ⊢
  by_cases hr2 : r < xs.length
  · obtain ⟨l, o, u, rfl, _, _, _, hrd, _, _, qu, _⟩ := at_Block (h.mono (List.prefix_append M [⟨[.int .i64 t1, .int .i64 t2, .slice ta tn tc], 1, 2⟩])) hr2
    have hx := hr _ (List.getElem_mem hr2)
    have hd : decide (∃ hq : r < xs.length, (xs[r]).1 = t1) = decide (xs[r].1 - t1 = 0) := by
      rw [decide_eq_decide]
      exact ⟨fun ⟨_, q⟩ => Int.sub_eq_zero.2 q, fun q => ⟨hr2, Int.sub_eq_zero.1 q⟩⟩
    have g : ¬ r < r := by omega
    rw [hd]
    generalize xs[r] = b at *
    obtain ⟨b1, b2, b3⟩ := b
    simp only at *
    obtain ⟨ua, uc, rfl⟩ := qu.slen
    have s1 := c_impl_blockPut_1 (M ++ [⟨[.int .i64 t1, .int .i64 t2, .slice ta tn tc], 1, 2⟩]) b1 b2 t1 t2 ua ta (List.length (α := UInt8) b3) uc tn tc hx ht
    simp only [tgB] at s1
    rw [aCall_eq T_slices_BinarySearchFunc_impl_Block_impl_Block_impl_Block]; unfold A_slices_BinarySearchFunc_impl_Block_impl_Block_impl_Block C_slices_BinarySearchFunc_impl_Block_impl_Block_impl_Block; simp [h4]
    rw [S_slices_BinarySearchFunc_impl_Block_impl_Block_impl_Block_0]; unfold B_slices_BinarySearchFunc_impl_Block_impl_Block_impl_Block_0; simp [hr2, hrd, hpr, s1]
  · have hd : decide (∃ hq : r < xs.length, (xs[r]).1 = t1) = false := by
      rw [decide_eq_false_iff_not]
      exact fun ⟨q, _⟩ => hr2 q
    rw [hd]
    rw [aCall_eq T_slices_BinarySearchFunc_impl_Block_impl_Block_impl_Block]; unfold A_slices_BinarySearchFunc_impl_Block_impl_Block_impl_Block C_slices_BinarySearchFunc_impl_Block_impl_Block_impl_Block; simp [h4]
    rw [S_slices_BinarySearchFunc_impl_Block_impl_Block_impl_Block_0]; unfold B_slices_BinarySearchFunc_impl_Block_impl_Block_impl_Block_0; simp [hr2]
def InsD (M : Mem) (L J : List Nat) (zs : List ty_Block.D) (p : V × Mem) : Prop := ∃ L', Gr (.sl ty_Block) p.2 [p.1] zs L' ∧ L'.Nodup ∧ (∀ j ∈ L', j ∈ L ∨ j ∈ J ∨ M.length ≤ j) ∧ Agree M p.2 L ∧ M.length < p.2.length
theorem agree_sub {M M' : Mem} {w w' : List Nat} (h : Agree M M' w) (hs : ∀ b ∈ w, b ∈ w') : Agree M M' w' := ⟨h.1, fun b hb hn => h.2 b hb (fun hm => hn (hs b hm))⟩
theorem c_insB (M : Mem) (v : V) (xs : List ty_Block.D) (L : List Nat) (i : Nat) (ds : List V) (y : ty_Block.D) (J : List Nat) (l2 : Nat) (h : Gr (.sl ty_Block) M [v] xs L) (hi : i ≤ xs.length) (hy : Gr ty_Block M ds y J) (hb2 : M[l2]? = some ⟨ds, 3, 2⟩) (hl2 : l2 ∉ L) (hj : ∀ j ∈ J, j ∉ L) (hn : L.Nodup) (hnj : J.Nodup) (hs : xs.length ≤ 10000) :
    Sat (aCall T0 F_slices_Insert_impl_Block_impl_Block [v, .int .i64 (i : Int), .slice (some ⟨l2, 0, none⟩) 1 1] M) (InsD M L J (xs.take i ++ y :: xs.drop i)) := by
  have hlen := hy.len
  have hw : ty_Block.w = 3 := rfl
  rw [hw] at hlen
  obtain ⟨a, rfl⟩ := h.shape
  by_cases he : i = xs.length
  · subst he
    have hr2 : sliceCells M 3 (.slice (some ⟨l2, 0, none⟩) 1 1) = some (1, ds) := by
      simp only [sliceCells, rdn, hb2]
      rw [if_neg (by omega), if_pos (by refine ⟨by simp, by omega⟩), List.drop_zero, List.take_of_length_le (by omega)]
      rfl
    have hfin : xs.take xs.length ++ y :: xs.drop xs.length = xs ++ [y] := by simp
    rw [hfin]
    have key : ∀ x, appS M 3 40 (.slice a xs.length xs.length) 1 ds = x → Sat x (InsD M L J (xs ++ [y])) := by
      intro x hx
      obtain ⟨l, X3, L', rfl, g, ag, hl, hw2, nd, hL, _⟩ := h.app2 (t := ty_Block) (bytes := 40) hx (List.prefix_refl _) hy hj hn hnj (by omega) (by omega)
      exact ⟨_, rfl, L', g, nd, fun j hm => (hL j hm).elim .inl (fun h => h.elim (fun h => .inr (.inl h)) (fun h => .inr (.inr (by omega)))), agree_sub ag hw2, hl⟩
    have hle : (xs.length : Int) ≤ (xs.length : Int) := Int.le_refl _
    have hk : (a = none ∧ xs.length = 0) ∨ ∃ l k, a = some ⟨l, 0, none⟩ ∧ M[l]? = some k ∧ k.w = 3 := by
      rcases h with ⟨e, rfl, _⟩ | ⟨l, css, Ls, e, hb, _⟩
      · cases e; exact .inl ⟨rfl, rfl⟩
      · cases e; exact .inr ⟨l, _, rfl, hb, rfl⟩
    rcases hk with ⟨rfl, h0⟩ | ⟨l, k, rfl, hk, hkw⟩
    · rw [aCall_eq T_slices_Insert_impl_Block_impl_Block]; unfold A_slices_Insert_impl_Block_impl_Block C_slices_Insert_impl_Block_impl_Block; simp [thenD_pp, sliceCells_sl, sliceCells_z, sliceCells_nil, take_full, appS_sl, appK_ok, appS_none, thenD_ag, agP_nil, agP_cons, hr2]
      generalize hy2 : appS _ _ _ _ _ _ = xhy2
      obtain ⟨⟨v3, X3⟩, rfl, L', g, nd, hL, ag, hlen3⟩ := key _ hy2
      clear hy2
      try simp only at g ag hlen3
      obtain ⟨a3, rfl⟩ := g.shape
      have hq : (xs ++ [y]).length = xs.length + 1 := by simp
      rw [hq] at g ⊢
      simp [thenD_pp, sliceCells_sl, sliceCells_z, sliceCells_nil, take_full, appS_sl, appK_ok, appS_none, thenD_ag, agP_nil, agP_cons]
      exact ⟨_, rfl, L', g, nd, hL, ag, hlen3⟩
    · obtain ⟨⟨v3, X3⟩, hap, L', g, nd, hL, ag, hlen3⟩ := key _ rfl
      simp only at g ag hlen3
      rw [appS_sl _ _ _ _ _ _ _ _ _ (by omega), hk] at hap
      obtain ⟨a3, rfl⟩ := g.shape
      have hq : (xs ++ [y]).length = xs.length + 1 := by simp
      rw [hq] at g hap
      rw [aCall_eq T_slices_Insert_impl_Block_impl_Block]; unfold A_slices_Insert_impl_Block_impl_Block C_slices_Insert_impl_Block_impl_Block; simp [thenD_pp, sliceCells_sl, sliceCells_z, sliceCells_nil, take_full, appS_sl, appK_ok, appS_none, thenD_ag, agP_nil, agP_cons, hk, hkw, hr2, hap]
      exact ⟨_, rfl, L', g, nd, hL, ag, hlen3⟩
  · have hlt : i < xs.length := by omega
    obtain ⟨X', L', e, g, ag, hxl, hwl, nd, hL⟩ := h.ins (bytes := 40) hlt hy hb2 hl2 (by show 1 < 3; omega) hj hn hnj (by omega) (by omega)
    have hne : ¬ (i : Int) = (xs.length : Int) := by omega
    have hle : (i : Int) ≤ (xs.length : Int) := by omega
    have hkb : ∃ l k, a = some ⟨l, 0, none⟩ ∧ M[l]? = some k ∧ k.w = 3 := by
      rcases h with ⟨_, rfl, _⟩ | ⟨l, css, Ls, e, hb, _⟩
      · simp at hlt
      · cases e
        exact ⟨l, _, rfl, hb, rfl⟩
    obtain ⟨l, k, rfl, hk, hkw⟩ := hkb
    rw [hw] at e
    rw [aCall_eq T_slices_Insert_impl_Block_impl_Block]; unfold A_slices_Insert_impl_Block_impl_Block C_slices_Insert_impl_Block_impl_Block; simp [thenD_pp, sliceCells_sl, sliceCells_z, sliceCells_nil, take_full, appS_sl, appK_ok, appS_none, thenD_ag, agP_nil, agP_cons, hk, hkw, hne, hle, hlt, he, e]
    exact ⟨(_, X'), rfl, L', g, nd, fun j hm => (hL j hm).elim .inl (fun h => h.elim (fun h => .inr (.inl h)) (fun h => .inr (.inr (by omega)))), agree_sub ag hwl, by show M.length < X'.length; omega⟩
theorem sorted_below {xs : List ty_Block.D} {id : Int} {r : Nat} (hs : IdLt xs) (hr : r ≤ xs.length) (h1 : ∀ (q : 0 < r) (hq : r - 1 < xs.length), (xs[r - 1]).1 < id) : ∀ k (hk : k < xs.length), k < r → xs[k].1 < id := by
  intro k hk hkr
  have h := h1 (by omega) (by omega)
  by_cases e : k = r - 1
  · subst e; exact h
  · exact Int.lt_trans (List.pairwise_iff_getElem.1 hs k (r - 1) hk (by omega) (by omega)) h
theorem without_same {id : Int} {xs : List ty_Block.D} (h : ∀ b ∈ xs, b.1 ≠ id) : withoutL id xs = xs := by
  unfold withoutL
  rw [List.filter_eq_self]
  intro b hb
  exact decide_eq_true (h b hb)
theorem withoutL_app (id : Int) (xs ys : List ty_Block.D) : withoutL id (xs ++ ys) = withoutL id xs ++ withoutL id ys := List.filter_append ..
theorem lbB_eq {id : Int} : ∀ {xs : List ty_Block.D} {r : Nat}, r ≤ xs.length → (∀ k (hk : k < xs.length), k < r → xs[k].1 < id) → (∀ hr : r < xs.length, ¬ xs[r].1 < id) → lbB id xs = r
  | [], r, h, _, _ => by simp at h; simp [lbB, h]
  | b :: xs, 0, _, _, h2 => by
    have h := h2 (by simp)
    simp only [List.getElem_cons_zero] at h
    simp [lbB, List.takeWhile_cons, decide_eq_false h]
  | b :: xs, r + 1, hl, h1, h2 => by
    have h := h1 0 (by simp) (by omega)
    simp only [List.getElem_cons_zero] at h
    have ih := lbB_eq (id := id) (xs := xs) (r := r) (by simpa using hl) (fun k hk hkr => h1 (k + 1) (by simpa using hk) (by omega)) (fun hr => h2 (by simpa using hr))
    unfold lbB at ih ⊢
    simp only [List.takeWhile_cons, decide_eq_true h, if_true, List.length_cons, ih]
theorem sorted_above {xs : List ty_Block.D} {r : Nat} (hs : IdLt xs) (hr : r < xs.length) : ∀ k (hk : k < xs.length), r < k → xs[r].1 < xs[k].1 := fun k hk hkr => List.pairwise_iff_getElem.1 hs r k hr hk hkr
theorem put_found {b : ty_Block.D} {xs : List ty_Block.D} {r : Nat} (hs : IdLt xs) (hr : r < xs.length) (he : xs[r].1 = b.1) : putL b xs = xs.set r b ∧ (withoutL b.1 xs).length + 1 = xs.length := by
  have e : xs = xs.take r ++ xs[r] :: xs.drop (r + 1) := by rw [← List.drop_eq_getElem_cons hr, List.take_append_drop]
  have hlo : ∀ c ∈ xs.take r, c.1 < b.1 := by
    intro c hc
    obtain ⟨k, hk, rfl⟩ := List.getElem_of_mem hc
    rw [List.length_take] at hk
    rw [List.getElem_take, ← he]
    exact sorted_above hs (r := k) (by omega) r hr (by omega)
  have hhi : ∀ c ∈ xs.drop (r + 1), b.1 < c.1 := by
    intro c hc
    obtain ⟨k, hk, rfl⟩ := List.getElem_of_mem hc
    rw [List.length_drop] at hk
    rw [List.getElem_drop, ← he]
    exact sorted_above hs hr _ (by omega) (by omega)
  have hw : withoutL b.1 xs = xs.take r ++ xs.drop (r + 1) := by
    have h1 : withoutL b.1 [xs[r]] = [] := by simp [withoutL, he]
    have h2 : xs.take r ++ xs[r] :: xs.drop (r + 1) = xs.take r ++ ([xs[r]] ++ xs.drop (r + 1)) := by simp
    conv => lhs; rw [e, h2]
    rw [withoutL_app, withoutL_app, h1, List.nil_append, without_same (fun c hc => Int.ne_of_lt (hlo c hc)), without_same (fun c hc => (Int.ne_of_lt (hhi c hc)).symm)]
  have hlt : (xs.take r).length = r := by rw [List.length_take]; omega
  have hlb : lbB b.1 (xs.take r ++ xs.drop (r + 1)) = r := by
    refine lbB_eq (by rw [List.length_append]; omega) (fun k hk hkr => ?_) (fun hrr => ?_)
    · rw [List.getElem_append_left (by omega)]
      exact hlo _ (List.getElem_mem _)
    · rw [List.getElem_append_right (by omega)]
      exact fun h => Int.lt_irrefl _ (Int.lt_trans h (hhi _ (List.getElem_mem _)))
  unfold putL insL
  rw [hw, hlb]
  refine ⟨?_, ?_⟩
  · rw [List.take_left' hlt, List.drop_left' hlt, List.set_eq_take_append_cons_drop, if_pos hr]
  · rw [List.length_append, List.length_take, List.length_drop]
    omega
theorem put_new {b : ty_Block.D} {xs : List ty_Block.D} {r : Nat} (hs : IdLt xs) (hr : r ≤ xs.length) (h1 : ∀ k (hk : k < xs.length), k < r → xs[k].1 < b.1) (h2 : ∀ hq : r < xs.length, ¬ xs[r].1 < b.1) (hn : ¬ ∃ hq : r < xs.length, xs[r].1 = b.1) : putL b xs = xs.take r ++ b :: xs.drop r ∧ withoutL b.1 xs = xs := by
  have hw : withoutL b.1 xs = xs := by
    refine without_same fun c hc => ?_
    obtain ⟨k, hk, rfl⟩ := List.getElem_of_mem hc
    by_cases hkr : k < r
    · exact Int.ne_of_lt (h1 k hk hkr)
    · by_cases e : k = r
      · subst e
        exact fun e => hn ⟨hk, e⟩
      · have h3 := sorted_above hs (r := r) (by omega) k hk (by omega)
        have h4 := h2 (by omega)
        exact fun e => h4 (by rw [← e]; exact h3)
  unfold putL insL
  rw [hw, lbB_eq hr h1 h2]
  exact ⟨rfl, rfl⟩
def BpD (M : Mem) (L J : List Nat) (zs : List ty_Block.D) (p : V × Mem) : Prop := ∃ L', Gr (.sl ty_Block) p.2 [p.1] zs L' ∧ L'.Nodup ∧ (∀ j ∈ L', j ∈ L ∨ j ∈ J ∨ M.length ≤ j) ∧ Agree M p.2 L ∧ M.length ≤ p.2.length
theorem c_impl_blockPut (M : Mem) (v : V) (xs : List ty_Block.D) (L : List Nat) (ds : List V) (y : ty_Block.D) (J : List Nat) (h : Gr (.sl ty_Block) M [v] xs L) (hy : Gr ty_Block M ds y J) (hj : ∀ j ∈ J, j ∉ L) (hn : L.Nodup) (hnj : J.Nodup) (hs : xs.length ≤ 10000) (hlt : IdLt xs) (hr : IdsR xs) (hyr : 0 ≤ y.1 ∧ y.1 ≤ 255) :
    Sat (aCall T0 F_impl_blockPut [v, .agg ds.toArray] M) (BpD M L J (putL y xs)) := by
  obtain ⟨u, rfl, w0, w1, qu⟩ := rep_g_Block hy.rep
  obtain ⟨ua, uc, rfl⟩ := qu.slen
  obtain ⟨r, r1, r2, r3, r4⟩ := c_bsB (M ++ [⟨[.int .i64 y.1, .int .i64 y.2.1, .slice ua (List.length (α := UInt8) y.2.2) uc], 1, 2⟩]) v xs (h.rep.mono (List.prefix_append _ _)) (by omega) hr y.1 y.2.1 ua (List.length (α := UInt8) y.2.2) uc hyr
  have hb := sorted_below hlt r1 r2
  have hpr : rdn (M ++ [⟨[.int .i64 y.1, .int .i64 y.2.1, .slice ua (List.length (α := UInt8) y.2.2) uc], 1, 2⟩]) M.length 0 3 = some [.int .i64 y.1, .int .i64 y.2.1, .slice ua (List.length (α := UInt8) y.2.2) uc] := rdn_box (by simp) rfl
  obtain ⟨a, rfl⟩ := h.shape
  simp only [tgB] at r4
  by_cases hf : ∃ hq : r < xs.length, (xs[r]).1 = y.1
  · rw [decide_eq_true hf] at r4
    obtain ⟨hq, he⟩ := hf
    rw [(put_found hlt hq he).1]
    obtain ⟨l, cs, L', e, hbl, hle, hlL, g, nd, hL⟩ := (h.grow (List.prefix_append M [(⟨[.int .i64 y.1, .int .i64 y.2.1, .slice ua (List.length (α := UInt8) y.2.2) uc], 1, 2⟩ : Blk)])).put hq (hy.grow (List.prefix_append _ _)) hj hn hnj
    cases e
    have hw : ty_Block.w = 3 := rfl
    rw [hw] at hbl hle g
    have hwr := wrn_eq (o := r * 3) hbl rfl hle hy.one
    have hlX := h.lt l hlL
    generalize splice cs (r * 3) [.int .i64 y.1, .int .i64 y.2.1, .slice ua (List.length (α := UInt8) y.2.2) uc] = cs2 at g hwr
    rw [aCall_eq T_impl_blockPut]; unfold A_impl_blockPut C_impl_blockPut; simp [thenD_pp, sliceCells_sl, sliceCells_z, sliceCells_nil, take_full, appS_sl, appK_ok, appS_none, thenD_ag, agP_nil, agP_cons, r4, hpr, hq, hwr]
    refine ⟨(_, _), rfl, L', g, nd, fun j hm => (hL j hm).elim .inl (fun h => .inr (.inl h)), ⟨by simp, fun b hb1 hb2 => ?_⟩, by simp⟩
    show (List.set _ l _)[b]? = _
    rw [List.getElem?_set_ne (fun e => hb2 (by rw [← e]; exact hlL)), List.getElem?_append_left hb1]
  · rw [decide_eq_false hf] at r4
    rw [(put_new hlt r1 hb r3 hf).1]
    have hI := c_insB (M ++ [⟨[.int .i64 y.1, .int .i64 y.2.1, .slice ua (List.length (α := UInt8) y.2.2) uc], 1, 2⟩, ⟨[.int .i64 y.1, .int .i64 y.2.1, .slice ua (List.length (α := UInt8) y.2.2) uc], 3, 2⟩]) (.slice a xs.length xs.length) xs L r [.int .i64 y.1, .int .i64 y.2.1, .slice ua (List.length (α := UInt8) y.2.2) uc] y J (M.length + 1)
      (h.grow (List.prefix_append _ _)) r1 (hy.grow (List.prefix_append _ _)) (by simp) (fun hm => by have := h.lt _ hm; omega) hj hn hnj hs
    rw [aCall_eq T_impl_blockPut]; unfold A_impl_blockPut C_impl_blockPut; simp [thenD_pp, sliceCells_sl, sliceCells_z, sliceCells_nil, take_full, appS_sl, appK_ok, appS_none, thenD_ag, agP_nil, agP_cons, r4, hpr, zeroCells]
    generalize hx : aCall T0 F_slices_Insert_impl_Block_impl_Block _ _ = xhx
    obtain ⟨v5, X5, rfl, L', g, nd, hL, ag, hl5⟩ := of_call hx hI
    clear hx
    try simp only at g ag hl5
    generalize xs.take r ++ y :: xs.drop r = zz at g ⊢
    obtain ⟨a5, rfl⟩ := g.shape
    simp [thenD_pp, sliceCells_sl, sliceCells_z, sliceCells_nil, take_full, appS_sl, appK_ok, appS_none, thenD_ag, agP_nil, agP_cons]
    try simp at hl5
    refine ⟨(_, X5), rfl, L', g, nd, fun j hm => (hL j hm).elim .inl (fun h => h.elim (fun h => .inr (.inl h)) (fun h => .inr (.inr (by simp at h; omega)))), ⟨by show M.length ≤ X5.length; omega, fun b hb1 hb2 => ?_⟩, by show M.length ≤ X5.length; omega⟩
    have := ag.2 b (by simp; omega) hb2
    rw [this, List.getElem?_append_left hb1]
theorem rep_single {M : Mem} {l : Nat} {cs : List V} {b : ty_Block.D} (hb : M[l]? = some ⟨cs, 3, 2⟩) (h : Rep ty_Block M cs b) : Rep (.sl ty_Block) M [.slice (some ⟨l, 0, none⟩) 1 1] [b] :=
  .inr ⟨l, 0, 1, ⟨cs, 3, 2⟩, [cs], rfl, hb, .inr (.inl rfl), rfl, rfl, fun i ds x hd hx => by
    cases i with
    | zero => simp at hd hx; subst hd; subst hx; exact h
    | succ i => simp at hd, by simp⟩
def StV (M : Mem) (xs : List ty_Block.D) (ok : Bool) (p : V × Mem) : Prop := ∃ r L, p.1 = .tuple #[r, .bool ok] ∧ M <+: p.2 ∧ Gr (.sl ty_Block) p.2 [r] xs L ∧ L.Nodup ∧ ∀ j ∈ L, M.length ≤ j
set_option maxHeartbeats 1000000 in
theorem c_impl_StashPut (M : Mem) (v : V) (xs : List ty_Block.D) (cs : List V) (b : ty_Block.D) (h : Rep (.sl ty_Block) M [v] xs) (hz : BlkSz xs) (hb : Rep ty_Block M cs b) (hbz : List.length (α := UInt8) b.2.2 ≤ 1048576) (l w : Int) :
    Sat (aCall T0 F_impl_StashPut [v, .agg cs.toArray, .int .i64 l, .int .i64 w] M) (StV M (stX xs b l w) (stB xs b l w)) := by
  obtain ⟨u, rfl, w0, w1, qu⟩ := rep_g_Block hb
  obtain ⟨ua, uc, rfl⟩ := qu.slen
  have hpre : M <+: M ++ [(⟨[.int .i64 b.1, .int .i64 b.2.1, .slice ua (List.length (α := UInt8) b.2.2) uc], 1, 2⟩ : Blk)] := List.prefix_append _ _
  have e1 := c_impl_isStash _ v xs l w (h.mono hpre) hz.1
  have e2 := c_impl_isBlock (M ++ [(⟨[.int .i64 b.1, .int .i64 b.2.1, .slice ua (List.length (α := UInt8) b.2.2) uc], 1, 2⟩ : Blk)]) _ b (hb.mono hpre) l w
  have hC := c_impl_cloneBlocks _ v xs (h.mono hpre) hz
  have hpr : rdn (M ++ [⟨[.int .i64 b.1, .int .i64 b.2.1, .slice ua (List.length (α := UInt8) b.2.2) uc], 1, 2⟩]) M.length 0 3 = some [.int .i64 b.1, .int .i64 b.2.1, .slice ua (List.length (α := UInt8) b.2.2) uc] := rdn_box (by simp) rfl
  have hpr' := fun (X : Mem) (hp : M ++ [(⟨[.int .i64 b.1, .int .i64 b.2.1, .slice ua (List.length (α := UInt8) b.2.2) uc], 1, 2⟩ : Blk)] <+: X) => rn_pre hp hpr
  obtain ⟨a, c, rfl⟩ := h.slen
  have hnil : ∀ {X : Mem}, Gr (.sl ty_Block) X [.slice none 0 0] [] [] := Gr.nil
  cases h1 : stashB l w xs with
  | false =>
    have hs : stB xs b l w = false := by simp [stB, h1]
    have hx : stX xs b l w = [] := by simp [stX, hs]
    rw [hs, hx]
    rw [h1] at e1
    rw [aCall_eq T_impl_StashPut]; unfold A_impl_StashPut C_impl_StashPut; simp [thenD_pp, sliceCells_sl, sliceCells_z, sliceCells_nil, take_full, appS_sl, appK_ok, appS_none, thenD_ag, agP_nil, agP_cons, e1, hpr]
    exact ⟨(_, _), rfl, _, [], rfl, hpre, hnil, by simp, by simp⟩
  | true =>
    rw [h1] at e1
    cases h2 : blockB l w b with
    | false =>
      have hs : stB xs b l w = false := by simp [stB, h1, h2]
      have hx : stX xs b l w = [] := by simp [stX, hs]
      rw [hs, hx]
      rw [h2] at e2
      rw [aCall_eq T_impl_StashPut]; unfold A_impl_StashPut C_impl_StashPut; simp [thenD_pp, sliceCells_sl, sliceCells_z, sliceCells_nil, take_full, appS_sl, appK_ok, appS_none, thenD_ag, agP_nil, agP_cons, e1, e2, hpr]
      exact ⟨(_, _), rfl, _, [], rfl, hpre, hnil, by simp, by simp⟩
    | true =>
      rw [h2] at e2
      have hxs : xs.length ≤ 128 ∧ blocksB l w xs = true := by
        unfold stashB at h1
        simpa using h1
      rw [aCall_eq T_impl_StashPut]; unfold A_impl_StashPut C_impl_StashPut; simp [thenD_pp, sliceCells_sl, sliceCells_z, sliceCells_nil, take_full, appS_sl, appK_ok, appS_none, thenD_ag, agP_nil, agP_cons, e1, e2, hpr]
      generalize hx : aCall T0 F_impl_cloneBlocks _ _ = xhx
      obtain ⟨v1, X1, rfl, L1, p1, g1, n1, k1⟩ := of_call hx hC
      clear hx
      simp only at p1 g1
      have hpr1 := hpr' X1 p1
      have pM1 := hpre.trans p1
      obtain ⟨a1, rfl⟩ := g1.shape
      have hone : ∀ x ∈ ([.int .i64 b.1, .int .i64 b.2.1, .slice ua (List.length (α := UInt8) b.2.2) uc] : List V), one x = true := List.all_eq_true.1 hb.one
      have hC2 := c_impl_cloneBlocks (X1 ++ [(⟨[.int .i64 b.1, .int .i64 b.2.1, .slice ua (List.length (α := UInt8) b.2.2) uc], 3, 2⟩ : Blk)]) (.slice (some ⟨X1.length, 0, none⟩) 1 1) [b] (rep_single (by simp) (hb.mono (pM1.trans (List.prefix_append _ _)))) ⟨by simp, by simpa using hbz⟩
      simp [thenD_pp, sliceCells_sl, sliceCells_z, sliceCells_nil, take_full, appS_sl, appK_ok, appS_none, thenD_ag, agP_nil, agP_cons, thenD_pre, p1, hpr1, zeroCells]
      generalize hx : aCall T0 F_impl_cloneBlocks _ _ = xhx
      obtain ⟨v2, X2, rfl, L2, p2, g2, n2, k2⟩ := of_call hx hC2
      clear hx
      simp only at p2 g2
      have p12 : X1 <+: X2 := (List.prefix_append _ _).trans p2
      obtain ⟨l2, ds2, K2, e, hrd2, gb2, hK2⟩ := g2.at (i := 0) (by simp)
      cases e
      simp only [List.getElem_cons_zero, List.length_singleton] at gb2 hrd2 p2
      obtain ⟨u2, rfl, _, _, qu2⟩ := rep_g_Block gb2.rep
      obtain ⟨ua2, uc2, rfl⟩ := qu2.slen
      have hw : ty_Block.w = 3 := rfl
      rw [hw, Nat.zero_mul] at hrd2
      have hB := c_impl_blockPut X2 (.slice a1 xs.length xs.length) xs L1 [.int .i64 b.1, .int .i64 b.2.1, .slice ua2 (List.length (α := UInt8) b.2.2) uc2] b K2 (g1.grow p12) gb2 (fun j hj hm => by
        have q1 := k2 j (hK2 j hj)
        have q2 := g1.lt j hm
        simp at q1
        omega) n1 (gr_Block_nd gb2) (by omega) (blocks_lt hxs.2) (ids_of hxs.2) (bid_of h2)
      simp [thenD_pp, sliceCells_sl, sliceCells_z, sliceCells_nil, take_full, appS_sl, appK_ok, appS_none, thenD_ag, agP_nil, agP_cons, thenD_pre, p1, p2, hrd2, hpr1, zeroCells]
      generalize hx : aCall T0 F_impl_blockPut _ _ = xhx
      obtain ⟨v3, X3, rfl, L3, g3, n3, hL3, ag, hl3⟩ := of_call hx hB
      clear hx
      simp only at g3 ag hl3
      have hML : (M ++ [(⟨[.int .i64 b.1, .int .i64 b.2.1, .slice ua (List.length (α := UInt8) b.2.2) uc], 1, 2⟩ : Blk)]).length = M.length + 1 := by simp
      have hM2 := (pM1.trans p12).length_le
      have pM3 : M <+: X3 := ag.pre (pM1.trans p12) (fun j hj => by have := k1 j hj; omega)
      have hk3 : ∀ j ∈ L3, M.length ≤ j := fun j hj => by
        rcases hL3 j hj with h | h | h
        · have := k1 j h; omega
        · have := k2 j (hK2 j h)
          have := pM1.length_le
          simp at *
          omega
        · omega
      have hpl := putL_len b xs
      have hwl : (withoutL b.1 xs).length ≤ xs.length := List.length_filter_le _ _
      by_cases hful : (withoutL b.1 xs).length = 128
      · have hs : stB xs b l w = false := by simp [stB, hful]
        have hx : stX xs b l w = [] := by simp [stX, hs]
        rw [hs, hx]
        generalize putL b xs = zs at *
        obtain ⟨a3, rfl⟩ := g3.shape
        have hgt : (128 : Int) < (zs.length : Int) := by omega
        simp [thenD_pp, sliceCells_sl, sliceCells_z, sliceCells_nil, take_full, appS_sl, appK_ok, appS_none, thenD_ag, agP_nil, agP_cons, thenD_clm, hl3, hgt]
        exact ⟨(_, X3), rfl, _, [], rfl, pM3, hnil, by simp, by simp⟩
      · have hs : stB xs b l w = true := by simp [stB, h1, h2, hful]
        have hx : stX xs b l w = putL b xs := by simp [stX, hs]
        rw [hs, hx]
        generalize putL b xs = zs at *
        obtain ⟨a3, rfl⟩ := g3.shape
        have hgt : ¬ (128 : Int) < (zs.length : Int) := by omega
        simp [thenD_pp, sliceCells_sl, sliceCells_z, sliceCells_nil, take_full, appS_sl, appK_ok, appS_none, thenD_ag, agP_nil, agP_cons, thenD_clm, hl3, hgt]
        exact ⟨(_, X3), rfl, _, L3, rfl, pM3, g3, n3, hk3⟩
theorem d_impl_StashPut (M : Mem) (v : V) (xs : List ty_Block.D) (h : Rep (.sl ty_Block) M [v] xs) (hb : Bd 1048576 (.sl ty_Block) xs) (cs : List V) (b : ty_Block.D) (hbr : Rep ty_Block M cs b) (hbb : Bd 1048576 ty_Block b) (l w : Int) :
    ∃ M' r L, M <+: M' ∧ aCall T0 F_impl_StashPut [v, .agg cs.toArray, .int .i64 l, .int .i64 w] M = some (.tuple #[r, .bool (stB xs b l w)], M') ∧ Own (.sl ty_Block) M' [r] (stX xs b l w) L ∧ Fresh M M' L := by
  obtain ⟨⟨q, M'⟩, e, r, L, rfl, q1, q2, q3, q4⟩ := c_impl_StashPut M v xs cs b h (blkSz_of hb) hbr hbb.2.2.1 l w
  simp only at q1 q2
  obtain ⟨L', o, hs⟩ := q2.own
  exact ⟨M', r, L', q1, e, o, hs.nodup q3, fun j hj => ⟨q4 j (hs.subset hj), q2.lt j (hs.subset hj)⟩⟩
theorem l_spec_l02Pow (M : Mem) : ∀ (n : Nat) (x : Int), 0 ≤ x → x * 2 ^ n ≤ 4611686018427387904 → n ≤ 1000 →
    ∃ e0 e1 e2 e4 e5 e6 e7 e8 e9 e10, lp (aCall T0) K_spec_l02Pow_0 L_spec_l02Pow_0 [.int .i64 n, und, und, .int .i64 x, und, und, und, und, und, und, und] M = some (.exit 0, [e0, e1, e2, .int .i64 (x * 2 ^ n), e4, e5, e6, e7, e8, e9, e10], M)
  | 0, x, _, _, _ => by
    rw [S_spec_l02Pow_0]; unfold B_spec_l02Pow_0; simp
  | n + 1, x, h0, h1, h2 => by
    have hp : (1 : Int) ≤ 2 ^ n := by
      have : (0 : Int) < 2 ^ n := Int.pow_pos (by omega)
      omega
    have e : x * 2 ^ (n + 1) = 2 * x * 2 ^ n := by rw [Int.pow_succ, ← Int.mul_assoc, Int.mul_right_comm, Int.mul_comm x 2]
    rw [e] at h1
    have hx : 2 * x ≤ 2 * x * 2 ^ n := by
      have := Int.mul_le_mul_of_nonneg_left hp (show (0 : Int) ≤ 2 * x by omega)
      simpa using this
    have ih := l_spec_l02Pow M n (2 * x) (by omega) h1 (by omega)
    rw [e]
    rw [S_spec_l02Pow_0]; unfold B_spec_l02Pow_0; simp
    rw [wrap_i64 (z := 2 * x) (by omega) (by omega), wrap_i64 (z := n) (by omega) (by omega)]
    exact ih
theorem c_spec_l02Pow (M : Mem) (n : Nat) (h : n ≤ 60) : aCall T0 F_spec_l02Pow [.int .i64 n] M = some (.int .i64 (2 ^ n), M) := by
  obtain ⟨e0, e1, e2, e4, e5, e6, e7, e8, e9, e10, ih⟩ := l_spec_l02Pow M n 1 (by omega) (by
    have : (2 : Int) ^ n ≤ 2 ^ 60 := pow2_le h
    omega) (by omega)
  rw [aCall_eq T_spec_l02Pow]; unfold A_spec_l02Pow C_spec_l02Pow; simp [ih]
theorem c_spec_l11Log (M : Mem) (x : Int) : aCall T0 F_spec_l11Log [.int .i64 x] M = some (.bool (decide (0 ≤ x) && decide (x ≤ 6)), M) := by
  rw [aCall_eq T_spec_l11Log]; unfold A_spec_l11Log C_spec_l11Log; simp
  repeat' ((first | rw [selO_some] | rw [condR_bool] | rw [selD_some]); split <;> rename_i hq <;> (have hq2 := hq) <;> (try simp at hq2) <;> (try simp [*]))
theorem c_spec_l11Leaf (M : Mem) (l x : Int) : aCall T0 F_spec_l11Leaf [.int .i64 l, .int .i64 x] M = some (.bool (leafB l x), M) := by
  unfold leafB
  cases h : lgB l with
  | false =>
    have e : (decide (0 ≤ l) && decide (l ≤ 6)) = false := h
    rw [aCall_eq T_spec_l11Leaf]; unfold A_spec_l11Leaf C_spec_l11Leaf; simp [c_spec_l11Log, e]
  | true =>
    have e : (decide (0 ≤ l) && decide (l ≤ 6)) = true := h
    obtain ⟨m, rfl, hm⟩ := log_nat h
    have e2 := fun M => (c_spec_l11Log M m).trans (by rw [e])
    have e3 := fun M => c_spec_l02Pow M m (by omega)
    by_cases h1 : 0 ≤ x
    · rw [aCall_eq T_spec_l11Leaf]; unfold A_spec_l11Leaf C_spec_l11Leaf; simp [e2, e3, h1]
    · rw [aCall_eq T_spec_l11Leaf]; unfold A_spec_l11Leaf C_spec_l11Leaf; simp [e2, e3, h1]
theorem c_spec_l12Frame (M : Mem) (l w : Int) : aCall T0 F_spec_l12Frame [.int .i64 l, .int .i64 w] M = some (.bool (decide (0 ≤ l) && decide (l ≤ 6) && (decide (1 ≤ w) && decide (w ≤ 200))), M) := by
  rw [aCall_eq T_spec_l12Frame]; unfold A_spec_l12Frame C_spec_l12Frame; simp [c_spec_l11Log]
  rcases hp : (decide (0 ≤ l) && decide (l ≤ 6)) with _ | _
  · simp [hp]
  · simp [hp]
    by_cases h1 : 1 ≤ w <;> simp [h1]
theorem c_spec_BlockOk (M : Mem) (cs : List V) (b : ty_Block.D) (h : Rep ty_Block M cs b) (l w : Int) : aCall T0 F_spec_BlockOk [.agg cs.toArray, .int .i64 l, .int .i64 w] M = some (.bool (blockB l w b), M) := by
  obtain ⟨u, rfl, w0, w1, hr⟩ := rep_g_Block h
  obtain ⟨a, c, rfl⟩ := hr.slen
  unfold blockB
  have e1 := fun M => c_spec_l12Frame M l w
  have e2 := fun M => c_spec_l11Leaf M l b.2.1
  cases h1 : lgB l && wdB w with
  | false =>
    have h1 : (decide (0 ≤ l) && decide (l ≤ 6) && (decide (1 ≤ w) && decide (w ≤ 200))) = false := h1
    rw [aCall_eq T_spec_BlockOk]; unfold A_spec_BlockOk C_spec_BlockOk; simp [e1, h1]
  | true =>
    have h1 : (decide (0 ≤ l) && decide (l ≤ 6) && (decide (1 ≤ w) && decide (w ≤ 200))) = true := h1
    unfold bidB
    by_cases h2 : 0 ≤ b.1
    · by_cases h3 : b.1 ≤ 255
      · cases h4 : leafB l b.2.1
        · rw [aCall_eq T_spec_BlockOk]; unfold A_spec_BlockOk C_spec_BlockOk; simp [e1, h1, h2, h3, e2, h4]
        · rw [aCall_eq T_spec_BlockOk]; unfold A_spec_BlockOk C_spec_BlockOk; simp [e1, h1, h2, h3, e2, h4]
      · rw [aCall_eq T_spec_BlockOk]; unfold A_spec_BlockOk C_spec_BlockOk; simp [e1, h1, h2, h3, e2]
    · rw [aCall_eq T_spec_BlockOk]; unfold A_spec_BlockOk C_spec_BlockOk; simp [e1, h1, h2, e2]
theorem l_spec_BlocksOk_0 (M : Mem) (a : Option Addr) (c : Nat) (xs : List ty_Block.D) (l w : Int) (h : Rep (.sl ty_Block) M [.slice a xs.length c] xs) (hn : xs.length ≤ 1048576) :
    ((∀ i, i < xs.length → stepB l w xs i = true) ∧ lp (aCall T0) K_spec_BlocksOk_0 L_spec_BlocksOk_0 [.slice a xs.length c, .int .i64 l, .int .i64 w, und, und, und, und, .int .i64 (0 : Nat), und, und, und, und, und, und, und, und, und, und, und, und, und, und, und, und, und, und, und, und, und, und, und, und, und, und, und, und, und, und, und, und, und, und, und, und] M = lp (aCall T0) K_spec_BlocksOk_0 L_spec_BlocksOk_0 [.slice a xs.length c, .int .i64 l, .int .i64 w, und, und, und, und, .int .i64 xs.length, und, und, und, und, und, und, und, und, und, und, und, und, und, und, und, und, und, und, und, und, und, und, und, und, und, und, und, und, und, und, und, und, und, und, und, und] M) ∨
    ((∃ i, i < xs.length ∧ stepB l w xs i = false) ∧ ∀ k, thenF M [.tmp 6] (thenS (blockR 0 (lp (aCall T0) K_spec_BlocksOk_0 L_spec_BlocksOk_0 [.slice a xs.length c, .int .i64 l, .int .i64 w, und, und, und, und, .int .i64 (0 : Nat), und, und, und, und, und, und, und, und, und, und, und, und, und, und, und, und, und, und, und, und, und, und, und, und, und, und, und, und, und, und, und, und, und, und, und, und] M)) (aCall T0) k) = some (.bool false, M)) := by
  have key := loop_ok (call := aCall T0) (K := K_spec_BlocksOk_0) (L := L_spec_BlocksOk_0) (fun _ Y => Y = M) (fun i => [.slice a xs.length c, .int .i64 l, .int .i64 w, und, und, und, und, .int .i64 i, und, und, und, und, und, und, und, und, und, und, und, und, und, und, und, und, und, und, und, und, und, und, und, und, und, und, und, und, und, und, und, und, und, und, und, und]) (stepB l w xs) (n := xs.length) (M0 := M) (rs := [.tmp 6]) (k0 := 0) (a := .bool false) M rfl ?_ ?_
  · rcases key with ⟨X', rfl, h1, h2⟩ | h
    · exact .inl ⟨h1, h2⟩
    · exact .inr h
  · intro i Y hi hq e
    subst e
    have e6 : IntKind.i64.wrap ((i : Int) + 1) = i + 1 := wrap_i64 (by omega) (by omega)
    have e8 : IntKind.i64.wrap 1 = 1 := wrap_i64 (by omega) (by omega)
    obtain ⟨b, o, u, rfl, q1, q2, q3, q4, _, _, qu, qr⟩ := at_Block h hi
    have hc := c_spec_BlockOk Y _ _ qr l w
    rcases Nat.eq_zero_or_pos i with h0 | h0
    · subst h0
      rw [stepB_zero hi] at hq
      refine ⟨Y, rfl, ?_⟩
      simp only [Int.natCast_zero, Int.ofNat_zero, Nat.zero_mul, Nat.add_zero] at *
      rw [S_spec_BlocksOk_0]; unfold B_spec_BlocksOk_0; simp [thenD_pp, sliceCells_sl, sliceCells_z, sliceCells_nil, take_full, appS_sl, appK_ok, appS_none, thenD_ag, agP_nil, agP_cons, hi, q4, hc, hq, e6, e8]
    · rw [stepB_pos hi h0, Bool.and_eq_true] at hq
      have hi' : (0 : Int) < (i : Int) := by omega
      have e7 : IntKind.i64.wrap ((i : Int) - 1) = ((i - 1 : Nat) : Int) := by rw [wrap_i64 (by omega) (by omega)]; omega
      obtain ⟨b', o', u', e, q1', _⟩ := at_Block h (i := i - 1) (by omega)
      cases e
      have hlt := of_decide_eq_true hq.2
      have hge : ¬ (xs[i].1 ≤ (xs[i - 1]'(by omega)).1) := Int.not_le.2 hlt
      have hi1 : i - 1 < xs.length := by omega
      refine ⟨Y, rfl, ?_⟩
      rw [S_spec_BlocksOk_0]; unfold B_spec_BlocksOk_0; simp [thenD_pp, sliceCells_sl, sliceCells_z, sliceCells_nil, take_full, appS_sl, appK_ok, appS_none, thenD_ag, agP_nil, agP_cons, hi, q4, hc, hq.1, e6, hi', h0, e7, q1', q1, hge, hi1]
  · intro i Y hi hq e k
    subst e
    have e6 : IntKind.i64.wrap ((i : Int) + 1) = i + 1 := wrap_i64 (by omega) (by omega)
    have e8 : IntKind.i64.wrap 1 = 1 := wrap_i64 (by omega) (by omega)
    obtain ⟨b, o, u, rfl, q1, q2, q3, q4, _, _, qu, qr⟩ := at_Block h hi
    have hc := c_spec_BlockOk Y _ _ qr l w
    rcases Nat.eq_zero_or_pos i with h0 | h0
    · subst h0
      rw [stepB_zero hi] at hq
      simp only [Int.natCast_zero, Int.ofNat_zero, Nat.zero_mul, Nat.add_zero] at *
      rw [S_spec_BlocksOk_0]; unfold B_spec_BlocksOk_0; simp [thenD_pp, sliceCells_sl, sliceCells_z, sliceCells_nil, take_full, appS_sl, appK_ok, appS_none, thenD_ag, agP_nil, agP_cons, hi, q4, hc, hq, e6, e8]
    · rw [stepB_pos hi h0] at hq
      have hi' : (0 : Int) < (i : Int) := by omega
      have e7 : IntKind.i64.wrap ((i : Int) - 1) = ((i - 1 : Nat) : Int) := by rw [wrap_i64 (by omega) (by omega)]; omega
      obtain ⟨b', o', u', e, q1', _⟩ := at_Block h (i := i - 1) (by omega)
      cases e
      have hi1 : i - 1 < xs.length := by omega
      cases hb : blockB l w xs[i] with
      | false =>
        rw [hb] at hc
        rw [S_spec_BlocksOk_0]; unfold B_spec_BlocksOk_0; simp [thenD_pp, sliceCells_sl, sliceCells_z, sliceCells_nil, take_full, appS_sl, appK_ok, appS_none, thenD_ag, agP_nil, agP_cons, hi, q4, hc, e6]
      | true =>
        rw [hb] at hc
        rw [hb, Bool.true_and] at hq
        have hlt := of_decide_eq_false hq
        have hge : xs[i].1 ≤ (xs[i - 1]'(by omega)).1 := Int.not_lt.1 hlt
        rw [S_spec_BlocksOk_0]; unfold B_spec_BlocksOk_0; simp [thenD_pp, sliceCells_sl, sliceCells_z, sliceCells_nil, take_full, appS_sl, appK_ok, appS_none, thenD_ag, agP_nil, agP_cons, hi, q4, hc, e6, hi', h0, e7, q1', q1, hge, hi1]
theorem c_spec_BlocksOk (M : Mem) (v : V) (xs : List ty_Block.D) (l w : Int) (h : Rep (.sl ty_Block) M [v] xs) (hn : xs.length ≤ 1048576) : aCall T0 F_spec_BlocksOk [v, .int .i64 l, .int .i64 w] M = some (.bool (blocksB l w xs), M) := by
  obtain ⟨a, c, rfl⟩ := h.slen
  have e1 := c_spec_l12Frame M l w
  unfold blocksB
  cases h1 : lgB l && wdB w with
  | false =>
    have h1 : (decide (0 ≤ l) && decide (l ≤ 6) && (decide (1 ≤ w) && decide (w ≤ 200))) = false := h1
    rw [aCall_eq T_spec_BlocksOk]; unfold A_spec_BlocksOk C_spec_BlocksOk; simp [thenD_pp, sliceCells_sl, sliceCells_z, sliceCells_nil, take_full, appS_sl, appK_ok, appS_none, thenD_ag, agP_nil, agP_cons, e1, h1]
  | true =>
    have h1 : (decide (0 ≤ l) && decide (l ≤ 6) && (decide (1 ≤ w) && decide (w ≤ 200))) = true := h1
    rcases l_spec_BlocksOk_0 M a c xs l w h hn with ⟨ha, e⟩ | ⟨hx, e⟩
    · simp only [Int.natCast_zero, Int.ofNat_zero] at e
      rw [rall_all ha]
      rw [aCall_eq T_spec_BlocksOk]; unfold A_spec_BlocksOk C_spec_BlocksOk; simp [thenD_pp, sliceCells_sl, sliceCells_z, sliceCells_nil, take_full, appS_sl, appK_ok, appS_none, thenD_ag, agP_nil, agP_cons, e1, h1, e]
      rw [S_spec_BlocksOk_0]; unfold B_spec_BlocksOk_0; simp [thenD_pp, sliceCells_sl, sliceCells_z, sliceCells_nil, take_full, appS_sl, appK_ok, appS_none, thenD_ag, agP_nil, agP_cons]
    · simp only [Int.natCast_zero, Int.ofNat_zero] at e
      rw [rall_not hx]
      rw [aCall_eq T_spec_BlocksOk]; unfold A_spec_BlocksOk C_spec_BlocksOk; simp [thenD_pp, sliceCells_sl, sliceCells_z, sliceCells_nil, take_full, appS_sl, appK_ok, appS_none, thenD_ag, agP_nil, agP_cons, e1, h1, e]
theorem c_spec_StashOk (M : Mem) (v : V) (xs : List ty_Block.D) (l w : Int) (h : Rep (.sl ty_Block) M [v] xs) (hn : xs.length ≤ 1048576) : aCall T0 F_spec_StashOk [v, .int .i64 l, .int .i64 w] M = some (.bool (stashB l w xs), M) := by
  have e1 := c_spec_BlocksOk M v xs l w h hn
  obtain ⟨a, c, rfl⟩ := h.slen
  unfold stashB
  by_cases hs : xs.length ≤ 128
  · have hs' : (xs.length : Int) ≤ 128 := by omega
    rw [aCall_eq T_spec_StashOk]; unfold A_spec_StashOk C_spec_StashOk; simp [thenD_pp, sliceCells_sl, sliceCells_z, sliceCells_nil, take_full, appS_sl, appK_ok, appS_none, thenD_ag, agP_nil, agP_cons, e1, hs, hs']
  · have hs' : ¬ (xs.length : Int) ≤ 128 := by omega
    rw [aCall_eq T_spec_StashOk]; unfold A_spec_StashOk C_spec_StashOk; simp [thenD_pp, sliceCells_sl, sliceCells_z, sliceCells_nil, take_full, appS_sl, appK_ok, appS_none, thenD_ag, agP_nil, agP_cons, e1, hs, hs']
theorem rep_blk {t : Ty} {M : Mem} {l o n c : Nat} {xs : List t.D} (h : Rep (.sl t) M [.slice (some ⟨l, o, none⟩) n c] xs) : ∃ blk, M[l]? = some blk ∧ blk.w = t.w ∧ n = xs.length := by
  rcases h with ⟨h, _⟩ | ⟨l', o', c', blk, css, e, h2, h3, h4, h5, h6, h7⟩
  · simp at h
  · simp only [List.cons.injEq, Value.slice.injEq, Option.some.injEq, Addr.mk.injEq, and_true, true_and] at e
    obtain ⟨⟨rfl, rfl⟩, rfl, rfl⟩ := e
    exact ⟨blk, h2, h4, rfl⟩
def CbI (M : Mem) (v : V) (xs : List ty_Block.D) (X : Mem) : Prop := ∃ L, M <+: X ∧ Gr (.sl ty_Block) X [v] xs L ∧ L.Nodup ∧ ∀ l ∈ L, M.length ≤ l
set_option maxHeartbeats 1000000 in
theorem l_spec_l13Copy_0 (M : Mem) (a : Option Addr) (c : Nat) (xs : List ty_Block.D) (h : Rep (.sl ty_Block) M [.slice a xs.length c] xs) (hz : BlkSz xs) (v : V) (Z : Mem) (hZ : CbI M v [] Z) :
    ∃ v' X', CbI M v' xs X' ∧ lp (aCall T0) K_spec_l13Copy_0 L_spec_l13Copy_0 [.slice a xs.length c, und, und, v, .int .i64 (0 : Nat), und, und, und, und, und, und, und, und, und, und, und, und, und, und, und, und, und, und, und, und, und, und, und, und, und, und, und, und, und] Z = lp (aCall T0) K_spec_l13Copy_0 L_spec_l13Copy_0 [.slice a xs.length c, und, und, v', .int .i64 xs.length, und, und, und, und, und, und, und, und, und, und, und, und, und, und, und, und, und, und, und, und, und, und, und, und, und, und, und, und, und] X' := by
  have key := loop_to (call := aCall T0) (K := K_spec_l13Copy_0) (L := L_spec_l13Copy_0) (fun i v X => CbI M v (xs.take i) X) (fun i v => [.slice a xs.length c, und, und, v, .int .i64 i, und, und, und, und, und, und, und, und, und, und, und, und, und, und, und, und, und, und, und, und, und, und, und, und, und, und, und, und, und]) (n := xs.length) ?_ 0 v Z (by omega) (by simpa using hZ)
  · rw [List.take_length] at key
    exact key
  intro i v X hi ⟨L, pX, g0, nd, ge0⟩
  obtain ⟨l, o, u, rfl, q1, q2, q3, q4, w0, w1, qu, _⟩ := at_Block (h.mono pX) hi
  rw [List.take_succ_eq_append_getElem hi]
  have hlen : (xs.take i).length = i := by rw [List.length_take]; omega
  have hzi := hz.2 _ (List.getElem_mem hi)
  have hn := hz.1
  generalize xs.take i = ys at g0 hlen ⊢
  generalize xs[i] = b at q1 q2 q3 q4 w0 w1 qu hzi ⊢
  obtain ⟨b1, b2, b3⟩ := b
  simp only at q1 q2 q3 q4 w0 w1 qu hzi ⊢
  obtain ⟨⟨a2, c2, rfl⟩, hc, _⟩ := rep_cellsF fl_Byte (qu.mono (List.prefix_append X [(⟨[], 1, 2⟩ : Blk)]))
  have hc : sliceCells (X ++ [(⟨[], 1, 2⟩ : Blk)]) 1 (.slice a2 (List.length (α := UInt8) b3) c2) = some (List.length (α := UInt8) b3, (List.map enc_Byte b3).flatten) := hc
  have e6 : IntKind.i64.wrap ((i : Int) + 1) = i + 1 := wrap_i64 (by omega) (by omega)
  have hll : l < M.length := by obtain ⟨blk, hbk, _⟩ := rep_blk h; exact get_lt hbk
  have hpl := pX.length_le
  have q3' := fun N : Mem => rd1_old (N := N) q3
  obtain ⟨av, rfl⟩ := g0.shape
  have hh1 : ∀ ys : List Nat, (∀ y ∈ ys, y = l) → hits [X.length] ys = false := fun ys hy => hits_ge (K := M.length) (by simp; omega) (fun y h => by rw [hy y h]; exact hll)
  have hwL : ∀ b ∈ wfs (.slice av ys.length ys.length), M.length ≤ b := by
    obtain ⟨_, _, hw⟩ := g0.gr (K := 0) (by simp)
    exact fun b hb => ge0 b (hw b hb)
  have hh2 : ∀ zs : List Nat, (∀ y ∈ zs, y = l) → hits (wfs (.slice av ys.length ys.length)) zs = false := fun zs hy => hits_ge (K := M.length) hwL (fun y h => by rw [hy y h]; exact hll)
  have s1 := hh1 [l] (by simp)
  have s2 := hh1 [l, l] (by simp)
  have s3 := hh1 [l, l, l] (by simp)
  have t1 := hh2 [l] (by simp)
  have t2 := hh2 [l, l] (by simp)
  have t3 := hh2 [l, l, l] (by simp)
  rw [S_spec_l13Copy_0]; unfold B_spec_l13Copy_0; simp [thenD_pp, sliceCells_sl, sliceCells_z, sliceCells_nil, take_full, appS_sl, appK_ok, appS_none, thenD_ag, agP_nil, agP_cons, hi, q1, q2, q3, q3', hc, zeroCells]
  generalize hy : appS _ _ _ _ _ _ = xhy
  obtain ⟨l2, X3, rfl, hl2, gb, ag⟩ := cp_all (t := .u8) (xs := b3) fl_Byte hy (by simp [Ty.w]) (by simp) (by omega) (by omega)
  clear hy
  have p3 : X <+: X3 := ag.pre (List.prefix_append _ _) (by simp)
  simp [thenD_pp, sliceCells_sl, sliceCells_z, sliceCells_nil, take_full, appS_sl, appK_ok, appS_none, thenD_ag, agP_nil, agP_cons, thenD_agree, ag, s1, s2, s3, zeroCells]
  generalize hy : appS _ _ _ _ _ _ = xhy
  have hcg : Gr ty_Block (X3 ++ [(⟨[.int .i64 b1, .int .i64 b2, .slice (some ⟨l2, 0, none⟩) (List.length (α := UInt8) b3) (List.length (α := UInt8) b3)], 3, 2⟩ : Blk)]) [.int .i64 b1, .int .i64 b2, .slice (some ⟨l2, 0, none⟩) (List.length (α := UInt8) b3) (List.length (α := UInt8) b3)] (b1, b2, b3) [l2] := gr_Block (x := (b1, b2, b3)) w0 w1 (gb.grow (List.prefix_append _ _))
  obtain ⟨l4, X4, L', rfl, g4, ag2, len2, hw4, nd4, sub4, hl4⟩ := g0.app (t := ty_Block) hy (p3.trans (List.prefix_append _ _)) hcg (by simpa using hl2) nd (by simp) (by rw [hlen]; omega) (by rw [hlen]; omega)
  clear hy
  have pX4 : M <+: X4 := ag2.pre (pf_app (pX.trans p3)) hwL
  simp [thenD_pp, sliceCells_sl, sliceCells_z, sliceCells_nil, take_full, appS_sl, appK_ok, appS_none, thenD_ag, agP_nil, agP_cons, e6, thenD_agree, ag2, t1, t2, t3]
  refine ⟨_, _, ⟨L', pX4, g4, nd4, fun j hj => ?_⟩, rfl⟩
  have hx3 := p3.length_le
  rcases sub4 j hj with h | h | h
  · exact ge0 j h
  · simp at h; omega
  · simp at hl4; omega
theorem c_spec_l13Copy (M : Mem) (v : V) (xs : List ty_Block.D) (h : Rep (.sl ty_Block) M [v] xs) (hz : BlkSz xs) : Sat (aCall T0 F_spec_l13Copy [v] M) (GrV ty_Block M xs) := by
  obtain ⟨a, c, rfl⟩ := h.slen
  obtain ⟨v', X', ⟨L, p1, g1, n1, k1⟩, e⟩ := l_spec_l13Copy_0 M a c xs h hz (.slice (some ⟨M.length, 0, none⟩) 0 0) (M ++ [⟨[], 3, 2⟩]) ⟨[M.length], List.prefix_append _ _, gr0 (t := ty_Block) (by simp [Ty.w]), by simp, by simp⟩
  simp only [Int.natCast_zero, Int.ofNat_zero] at e
  rw [aCall_eq T_spec_l13Copy]; unfold A_spec_l13Copy C_spec_l13Copy; simp [thenD_pp, sliceCells_sl, sliceCells_z, sliceCells_nil, take_full, appS_sl, appK_ok, appS_none, thenD_ag, agP_nil, agP_cons, zeroCells, e]
  obtain ⟨av, rfl⟩ := g1.shape
  rw [S_spec_l13Copy_0]; unfold B_spec_l13Copy_0; simp [thenD_pp, sliceCells_sl, sliceCells_z, sliceCells_nil, take_full, appS_sl, appK_ok, appS_none, thenD_ag, agP_nil, agP_cons]
  exact ⟨(_, X'), rfl, L, p1, g1, n1, k1⟩
/-- Headers of data that lies elsewhere, in a block that grows. -/
def Hg (t : Ty) (M : Mem) (v : V) (ys : List t.D) (X : Mem) : Prop := ∃ css : List (List V), M <+: X ∧ Grow M.length t.w X v ys.length css.flatten ∧ css.length = ys.length ∧ ∀ (i : Nat) (ds : List V) (x : t.D), css[i]? = some ds → ys[i]? = some x → Rep t M ds x
theorem Hg.rep {t : Ty} {M : Mem} {v : V} {ys : List t.D} {X : Mem} (h : Hg t M v ys X) : Rep (.sl t) X [v] ys := by
  obtain ⟨css, hp, ⟨h1, h2⟩, h3, h4⟩ := h
  rcases h2 with ⟨rfl, h0⟩ | ⟨l, _, rfl, hb⟩
  · exact .inl ⟨rfl, List.length_eq_zero_iff.1 h0⟩
  · exact .inr ⟨l, 0, _, _, css, rfl, hb, .inr (.inl rfl), rfl, h3, fun i ds x hd hx => (h4 i ds x hd hx).mono hp, by simp⟩
theorem rel_snoc {α β : Type} {R : α → β → Prop} {as : List α} {bs : List β} {a : α} {b : β} (hl : as.length = bs.length) (h : ∀ (i : Nat) (x : α) (y : β), as[i]? = some x → bs[i]? = some y → R x y) (hab : R a b) : ∀ (i : Nat) (x : α) (y : β), (as ++ [a])[i]? = some x → (bs ++ [b])[i]? = some y → R x y := by
  intro i x y hx hy
  rcases get_snoc hx with ⟨h1, hx⟩ | ⟨h1, rfl⟩
  · rcases get_snoc hy with ⟨h2, hy⟩ | ⟨h2, rfl⟩
    · exact h i x y hx hy
    · omega
  · rcases get_snoc hy with ⟨h2, hy⟩ | ⟨h2, rfl⟩
    · omega
    · exact hab
theorem l_spec_l13Without_0 (M : Mem) (a : Option Addr) (c : Nat) (xs : List ty_Block.D) (id : Int) (h : Rep (.sl ty_Block) M [.slice a xs.length c] xs) (hz : xs.length ≤ 1048576) (v : V) (Z : Mem) (hZ : Hg ty_Block M v [] Z) :
    ∃ v' X', Hg ty_Block M v' (withoutL id xs) X' ∧ lp (aCall T0) K_spec_l13Without_0 L_spec_l13Without_0 [.slice a xs.length c, .int .i64 id, und, und, und, v, .int .i64 (0 : Nat), und, und, und, und, und, und, und, und, und, und, und, und, und, und, und, und, und, und, und, und, und, und, und] Z = lp (aCall T0) K_spec_l13Without_0 L_spec_l13Without_0 [.slice a xs.length c, .int .i64 id, und, und, und, v', .int .i64 xs.length, und, und, und, und, und, und, und, und, und, und, und, und, und, und, und, und, und, und, und, und, und, und, und] X' := by
  have key := loop_to (call := aCall T0) (K := K_spec_l13Without_0) (L := L_spec_l13Without_0) (fun i v X => Hg ty_Block M v (withoutL id (xs.take i)) X) (fun i v => [.slice a xs.length c, .int .i64 id, und, und, und, v, .int .i64 i, und, und, und, und, und, und, und, und, und, und, und, und, und, und, und, und, und, und, und, und, und, und, und]) (n := xs.length) ?_ 0 v Z (by omega) (by simpa [withoutL] using hZ)
  · rw [List.take_length] at key
    exact key
  intro i v X hi ⟨css, pX, g0, hl0, hr0⟩
  obtain ⟨l, o, u, rfl, q1, q2, q3, q4, w0, w1, qu, qr⟩ := at_Block h hi
  have hw : withoutL id (xs.take (i + 1)) = withoutL id (xs.take i) ++ if xs[i].1 = id then [] else [xs[i]] := by
    unfold withoutL
    rw [List.take_succ_eq_append_getElem hi, List.filter_append]
    congr 1
    by_cases hx : xs[i].1 = id <;> simp [hx]
  have hle : (withoutL id (xs.take i)).length ≤ i := by
    refine Nat.le_trans (List.length_filter_le _ _) ?_
    rw [List.length_take]; omega
  have e6 : IntKind.i64.wrap ((i : Int) + 1) = i + 1 := wrap_i64 (by omega) (by omega)
  have q1 := r1_pre pX q1
  have q4 := rn_pre pX q4
  rw [hw]
  generalize withoutL id (xs.take i) = ys at g0 hl0 hr0 hle ⊢
  generalize xs[i] = b at q1 q4 qu qr ⊢
  obtain ⟨b1, b2, b3⟩ := b
  simp only at q1 q4 qr ⊢
  by_cases hb : b1 = id
  · rw [if_pos hb, List.append_nil]
    rw [S_spec_l13Without_0]; unfold B_spec_l13Without_0; simp [thenD_pp, sliceCells_sl, sliceCells_z, sliceCells_nil, take_full, appS_sl, appK_ok, appS_none, thenD_ag, agP_nil, agP_cons, hi, q1, hb, e6]
    exact ⟨_, _, ⟨css, pX, g0, hl0, hr0⟩, rfl⟩
  · rw [if_neg hb]
    obtain ⟨ua, uc, rfl⟩ := qu.slen
    obtain ⟨av, rfl⟩ := g0.shape
    rw [S_spec_l13Without_0]; unfold B_spec_l13Without_0; simp [thenD_pp, sliceCells_sl, sliceCells_z, sliceCells_nil, take_full, appS_sl, appK_ok, appS_none, thenD_ag, agP_nil, agP_cons, hi, q1, q4, hb, zeroCells]
    generalize hy : appS _ _ _ _ _ _ = xhy
    obtain ⟨a3, X3, rfl, g3, ag, l3⟩ := g0.at hy (List.prefix_append _ _) pX.length_le (by rfl) (by omega) (by rfl) (by omega) (by omega)
    clear hy
    simp [thenD_pp, sliceCells_sl, sliceCells_z, sliceCells_nil, take_full, appS_sl, appK_ok, appS_none, thenD_ag, agP_nil, agP_cons, e6]
    refine ⟨_, _, ⟨css ++ [[.int .i64 b1, .int .i64 b2, .slice ua (List.length (α := UInt8) b3) uc]], ag.pre (pf_app pX) fun b hb => g0.ge b hb, ?_, by simp [hl0], rel_snoc hl0 hr0 qr⟩, rfl⟩
    simpa using g3
theorem withoutL_sz {id : Int} {xs : List ty_Block.D} (h : BlkSz xs) : BlkSz (withoutL id xs) := ⟨Nat.le_trans (List.length_filter_le _ _) h.1, fun x hx => h.2 x (List.mem_filter.1 hx).1⟩
theorem c_spec_l13Without (M : Mem) (v : V) (xs : List ty_Block.D) (id : Int) (h : Rep (.sl ty_Block) M [v] xs) (hz : BlkSz xs) : Sat (aCall T0 F_spec_l13Without [v, .int .i64 id] M) (GrV ty_Block M (withoutL id xs)) := by
  obtain ⟨a, c, rfl⟩ := h.slen
  obtain ⟨v', X', hX, e⟩ := l_spec_l13Without_0 M a c xs id h hz.1 (.slice (some ⟨M.length, 0, none⟩) 0 0) (M ++ [⟨[], 3, 2⟩]) ⟨[], List.prefix_append _ _, Grow.new (Nat.le_refl _) rfl, rfl, by simp⟩
  simp only [Int.natCast_zero, Int.ofNat_zero] at e
  have hr := hX.rep
  have hpM : M <+: X' := by obtain ⟨_, hp, _⟩ := hX; exact hp
  obtain ⟨a', c', rfl⟩ := hr.slen
  rw [aCall_eq T_spec_l13Without]; unfold A_spec_l13Without C_spec_l13Without; simp [thenD_pp, sliceCells_sl, sliceCells_z, sliceCells_nil, take_full, appS_sl, appK_ok, appS_none, thenD_ag, agP_nil, agP_cons, zeroCells, e]
  rw [S_spec_l13Without_0]; unfold B_spec_l13Without_0; simp [thenD_pp, sliceCells_sl, sliceCells_z, sliceCells_nil, take_full, appS_sl, appK_ok, appS_none, thenD_ag, agP_nil, agP_cons]
  generalize hx : aCall T0 F_spec_l13Copy _ _ = xhx
  obtain ⟨v2, X2, rfl, L, p2, g2, n2, k2⟩ := of_call hx (c_spec_l13Copy X' _ _ hr (withoutL_sz hz))
  clear hx
  simp only at p2 g2
  obtain ⟨a2, rfl⟩ := g2.shape
  simp [thenD_pp, sliceCells_sl, sliceCells_z, sliceCells_nil, take_full, appS_sl, appK_ok, appS_none, thenD_ag, agP_nil, agP_cons]
  have := hpM.length_le
  exact ⟨(_, X2), rfl, L, hpM.trans p2, g2, n2, fun l hl => by have := k2 l hl; omega⟩
theorem grow_app {K w : Nat} {X X2 : Mem} {v : V} {n : Nat} {cs : List V} (h : Grow K w X v n cs) {m bytes : Nat} {ys : List V} {x : Option (V × Mem)} (hx : appS X2 w bytes v m ys = x) (hp : X <+: X2) (hk : K ≤ X.length) (hm : ys.length = m * w) (h1 : ys.all one = true) (hs : (n + m) * bytes ≤ 140737488355328) (hs2 : n + m ≤ 9223372036854775807) :
    ∃ a X3, x = some (.slice a (n + m) (n + m), X3) ∧ Grow K w X3 (.slice a (n + m) (n + m)) (n + m) (cs ++ ys) ∧ Agree X2 X3 (wfs v) ∧ X2.length ≤ X3.length ∧ ∀ b ∈ wfs (.slice a (n + m) (n + m)), b ∈ wfs v ∨ b = X2.length := by
  by_cases h0 : m = 0
  · subst h0
    have hy : ys = [] := List.length_eq_zero_iff.1 (by omega)
    subst hy
    have e : appS X2 w bytes v 0 [] = some (v, X2) := by
      obtain ⟨_, ⟨rfl, rfl⟩ | ⟨l, _, rfl, _⟩⟩ := h <;> simp [appS]
    obtain ⟨a, rfl⟩ := h.shape
    exact ⟨a, X2, hx.symm.trans e, by simpa using h.pre hp, ⟨Nat.le_refl _, fun _ _ _ => rfl⟩, Nat.le_refl _, fun b hb => .inl hb⟩
  · have h2 := h.pre hp
    have e := h2.app hm (by omega) h1 hs hs2
    refine ⟨_, _, hx.symm.trans e, h2.next hm (by have := hp.length_le; omega) [], kill_agree _ _ _, by rw [List.length_append, kill_len]; simp, fun b hb => .inr (by simpa [wfs] using hb)⟩
def rfS : V → List Nat
  | .slice (some a) _ _ => [a.block]
  | _ => []
theorem rfp_slc2 (fr : List V) (w : Nat) (x : Opd) (lo hi : Option Opd) : rfp fr (.slc w x lo hi) = rfS (ev fr x) := by
  unfold rfp rfS
  rfl
theorem rfS_some (l o n c : Nat) : rfS (.slice (some ⟨l, o, none⟩) n c) = [l] := rfl
theorem rfS_none (n c : Nat) : rfS (.slice none n c) = [] := rfl
theorem l_spec_StashPut_0 (X : Mem) (p : Nat) (b1 b2 : Int) (bv : V) (hp : X[p]? = some ⟨[.int .i64 b1, .int .i64 b2, bv], 1, 2⟩) (a : Option Addr) (c : Nat) (xs : List ty_Block.D) (h : Rep (.sl ty_Block) X [.slice a xs.length c] xs) (hn : xs.length ≤ 1048576) (r : Nat) (hr : r ≤ xs.length) (hlt : ∀ k (hk : k < xs.length), k < r → xs[k].1 < b1) :
    lp (aCall T0) K_spec_StashPut_0 L_spec_StashPut_0 [und, und, und, und, und, .pointer (some ⟨p, 0, none⟩), und, und, und, und, .slice a xs.length c, .int .i64 (0 : Nat), und, und, und, und, und, und, und, und, und, und, und, und, und, und, und, und, und, und, und, und, und, und, und, und, und, und, und, und, und, und, und, und, und, und, und, und, und, und, und, und, und, und, und, und, und, und, und, und, und, und] X = lp (aCall T0) K_spec_StashPut_0 L_spec_StashPut_0 [und, und, und, und, und, .pointer (some ⟨p, 0, none⟩), und, und, und, und, .slice a xs.length c, .int .i64 r, und, und, und, und, und, und, und, und, und, und, und, und, und, und, und, und, und, und, und, und, und, und, und, und, und, und, und, und, und, und, und, und, und, und, und, und, und, und, und, und, und, und, und, und, und, und, und, und, und, und] X := by
  have key := loop_to (call := aCall T0) (K := K_spec_StashPut_0) (L := L_spec_StashPut_0) (fun i (_ : Nat) Y => Y = X) (fun i (_ : Nat) => [und, und, und, und, und, .pointer (some ⟨p, 0, none⟩), und, und, und, und, .slice a xs.length c, .int .i64 i, und, und, und, und, und, und, und, und, und, und, und, und, und, und, und, und, und, und, und, und, und, und, und, und, und, und, und, und, und, und, und, und, und, und, und, und, und, und, und, und, und, und, und, und, und, und, und, und, und, und]) (n := r) ?_ 0 0 X (by omega) rfl
  · obtain ⟨_, X', rfl, e⟩ := key
    exact e
  intro i _ Y hi hY
  subst hY
  have hix : i < xs.length := by omega
  obtain ⟨l, o, u, rfl, q1, _⟩ := at_Block h hix
  have hb := hlt i hix hi
  have hrp : rd1 Y p 0 = some (.int .i64 b1) := rd1_of_rdn (rdn_box hp rfl) (k := 0) rfl
  have e6 : IntKind.i64.wrap ((i : Int) + 1) = i + 1 := wrap_i64 (by omega) (by omega)
  refine ⟨0, Y, rfl, ?_⟩
  rw [S_spec_StashPut_0]; unfold B_spec_StashPut_0; simp [thenD_pp, sliceCells_sl, sliceCells_z, sliceCells_nil, take_full, appS_sl, appK_ok, appS_none, thenD_ag, agP_nil, agP_cons, hix, q1, hrp, hb, e6]
theorem lbB_low (id : Int) : ∀ (xs : List ty_Block.D) (k : Nat) (hk : k < xs.length), k < lbB id xs → xs[k].1 < id
  | [], k, hk, _ => by simp at hk
  | b :: xs, k, hk, h => by
    unfold lbB at h
    by_cases hb : b.1 < id
    · simp only [List.takeWhile_cons, decide_eq_true hb, if_true, List.length_cons] at h
      cases k with
      | zero => exact hb
      | succ k => exact lbB_low id xs k (by simpa using hk) (by unfold lbB; omega)
    · simp only [List.takeWhile_cons, decide_eq_false hb, Bool.false_eq_true, if_false, List.length_nil] at h
      omega
theorem lbB_up (id : Int) : ∀ (xs : List ty_Block.D) (h : lbB id xs < xs.length), ¬ (xs[lbB id xs]).1 < id
  | [], h => by simp at h
  | b :: xs, h => by
    by_cases hb : b.1 < id
    · have e : lbB id (b :: xs) = lbB id xs + 1 := by
        unfold lbB
        simp only [List.takeWhile_cons, decide_eq_true hb, if_true, List.length_cons]
      have h2 : lbB id xs < xs.length := by rw [e] at h; simpa using h
      have ih := lbB_up id xs h2
      have : (b :: xs)[lbB id (b :: xs)] = xs[lbB id xs] := by
        simp only [e]
        rfl
      rw [this]
      exact ih
    · have e : lbB id (b :: xs) = 0 := by
        unfold lbB
        simp only [List.takeWhile_cons, decide_eq_false hb, Bool.false_eq_true, if_false, List.length_nil]
      have : (b :: xs)[lbB id (b :: xs)] = b := by
        simp only [e]
        rfl
      rw [this]
      exact hb
def StQ (M : Mem) (xs : List ty_Block.D) (ok : Bool) (p : V × Mem) : Prop := ∃ r, p.1 = .tuple #[r, .bool ok] ∧ M <+: p.2 ∧ Rep (.sl ty_Block) p.2 [r] xs
set_option maxHeartbeats 2000000 in
theorem c_spec_StashPut (M : Mem) (v : V) (xs : List ty_Block.D) (cs : List V) (b : ty_Block.D) (h : Rep (.sl ty_Block) M [v] xs) (hz : BlkSz xs) (hb : Rep ty_Block M cs b) (hbz : List.length (α := UInt8) b.2.2 ≤ 1048576) (l w : Int) :
    Sat (aCall T0 F_spec_StashPut [v, .agg cs.toArray, .int .i64 l, .int .i64 w] M) (StQ M (stX xs b l w) (stB xs b l w)) := by
  obtain ⟨u, rfl, w0, w1, qu⟩ := rep_g_Block hb
  obtain ⟨ua, uc, rfl⟩ := qu.slen
  have hpre : M <+: M ++ [(⟨[.int .i64 b.1, .int .i64 b.2.1, .slice ua (List.length (α := UInt8) b.2.2) uc], 1, 2⟩ : Blk)] := List.prefix_append _ _
  have e1 := c_spec_StashOk _ v xs l w (h.mono hpre) hz.1
  have e2 := c_spec_BlockOk (M ++ [(⟨[.int .i64 b.1, .int .i64 b.2.1, .slice ua (List.length (α := UInt8) b.2.2) uc], 1, 2⟩ : Blk)]) _ b (hb.mono hpre) l w
  have hC := c_spec_l13Without _ v xs b.1 (h.mono hpre) hz
  have hbx : (M ++ [(⟨[.int .i64 b.1, .int .i64 b.2.1, .slice ua (List.length (α := UInt8) b.2.2) uc], 1, 2⟩ : Blk)])[M.length]? = some ⟨[.int .i64 b.1, .int .i64 b.2.1, .slice ua (List.length (α := UInt8) b.2.2) uc], 1, 2⟩ := by simp
  have hpr : rdn (M ++ [⟨[.int .i64 b.1, .int .i64 b.2.1, .slice ua (List.length (α := UInt8) b.2.2) uc], 1, 2⟩]) M.length 0 3 = some [.int .i64 b.1, .int .i64 b.2.1, .slice ua (List.length (α := UInt8) b.2.2) uc] := rdn_box (by simp) rfl
  have hp1 : rd1 (M ++ [⟨[.int .i64 b.1, .int .i64 b.2.1, .slice ua (List.length (α := UInt8) b.2.2) uc], 1, 2⟩]) M.length 0 = some (.int .i64 b.1) := rd1_of_rdn hpr (k := 0) rfl
  obtain ⟨a, c, rfl⟩ := h.slen
  have hrn : ∀ {X : Mem}, Rep (.sl ty_Block) X [.slice none 0 0] [] := .inl ⟨rfl, rfl⟩
  cases h1 : stashB l w xs with
  | false =>
    have hs : stB xs b l w = false := by simp [stB, h1]
    have hx : stX xs b l w = [] := by simp [stX, hs]
    rw [hs, hx]
    rw [h1] at e1
    rw [aCall_eq T_spec_StashPut]; unfold A_spec_StashPut C_spec_StashPut; simp [thenD_pp, sliceCells_sl, sliceCells_z, sliceCells_nil, take_full, appS_sl, appK_ok, appS_none, thenD_ag, agP_nil, agP_cons, e1, hpr]
    exact ⟨(_, _), rfl, _, rfl, hpre, hrn⟩
  | true =>
    rw [h1] at e1
    cases h2 : blockB l w b with
    | false =>
      have hs : stB xs b l w = false := by simp [stB, h1, h2]
      have hx : stX xs b l w = [] := by simp [stX, hs]
      rw [hs, hx]
      rw [h2] at e2
      rw [aCall_eq T_spec_StashPut]; unfold A_spec_StashPut C_spec_StashPut; simp [thenD_pp, sliceCells_sl, sliceCells_z, sliceCells_nil, take_full, appS_sl, appK_ok, appS_none, thenD_ag, agP_nil, agP_cons, e1, e2, hpr]
      exact ⟨(_, _), rfl, _, rfl, hpre, hrn⟩
    | true =>
      rw [h2] at e2
      have hxs : xs.length ≤ 128 ∧ blocksB l w xs = true := by
        unfold stashB at h1
        simpa using h1
      have hrl : (withoutL b.1 xs).length ≤ 128 := Nat.le_trans (List.length_filter_le _ _) hxs.1
      rw [aCall_eq T_spec_StashPut]; unfold A_spec_StashPut C_spec_StashPut; simp [thenD_pp, sliceCells_sl, sliceCells_z, sliceCells_nil, take_full, appS_sl, appK_ok, appS_none, thenD_ag, agP_nil, agP_cons, e1, e2, hpr, hp1]
      generalize hx : aCall T0 F_spec_l13Without _ _ = xhx
      obtain ⟨v1, X1, rfl, L1, p1, g1, n1, k1⟩ := of_call hx hC
      clear hx
      simp only at p1 g1
      have pM1 := hpre.trans p1
      have hbx1 := get_pre p1 hbx
      have hMX := get_lt hbx1
      by_cases hful : (withoutL b.1 xs).length = 128
      · have hs : stB xs b l w = false := by simp [stB, hful]
        have hx : stX xs b l w = [] := by simp [stX, hs]
        rw [hs, hx]
        generalize withoutL b.1 xs = rest at *
        obtain ⟨a1, rfl⟩ := g1.shape
        have hf2 : (rest.length : Int) = 128 := by omega
        simp [thenD_pp, sliceCells_sl, sliceCells_z, sliceCells_nil, take_full, appS_sl, appK_ok, appS_none, thenD_ag, agP_nil, agP_cons, hful, hf2]
        exact ⟨(_, X1), rfl, _, rfl, pM1, hrn⟩
      · have hs : stB xs b l w = true := by simp [stB, h1, h2, hful]
        have hx : stX xs b l w = putL b xs := by simp [stX, hs]
        rw [hs, hx]
        unfold putL insL
        have hlb := lbB_le b.1 (withoutL b.1 xs)
        have hlow := lbB_low b.1 (withoutL b.1 xs)
        have hup := lbB_up b.1 (withoutL b.1 xs)
        generalize withoutL b.1 xs = rest at *
        generalize hr : lbB b.1 rest = r at *
        have hf2 : ¬ (rest.length : Int) = 128 := by omega
        have g1r := g1.rep
        obtain ⟨a1, rfl⟩ := g1.shape
        have e := l_spec_StashPut_0 X1 M.length b.1 b.2.1 _ hbx1 a1 rest.length rest g1r (by omega) r hlb hlow
        simp only [Int.natCast_zero, Int.ofNat_zero] at e
        have hpr1 := rn_pre p1 hpr
        have hp11 : rd1 X1 M.length 0 = some (.int .i64 b.1) := rd1_of_rdn hpr1 (k := 0) rfl
        have hone : ∀ x ∈ ([.int .i64 b.1, .int .i64 b.2.1, .slice ua (List.length (α := UInt8) b.2.2) uc] : List V), one x = true := List.all_eq_true.1 hb.one
        have hrI : (r : Int) ≤ (rest.length : Int) := by omega
        have hcase : (a1 = none ∧ rest = []) ∨ ∃ (l1 : Nat) (css : List (List V)) (Ls : List (List Nat)), a1 = some ⟨l1, 0, none⟩ ∧ X1[l1]? = some ⟨css.flatten, ty_Block.w, 2⟩ ∧ css.length = rest.length ∧ Ls.length = rest.length ∧ ∀ (i : Nat) (ds : List V) (x : ty_Block.D) (K : List Nat), css[i]? = some ds → rest[i]? = some x → Ls[i]? = some K → Gr ty_Block X1 ds x K := by
          rcases g1 with ⟨ee, hh, _⟩ | ⟨l1, css, Ls, ee, q1, q2, q3, q4, _⟩
          · simp at ee; exact .inl ⟨ee.1, hh⟩
          · cases ee; exact .inr ⟨l1, css, Ls, rfl, q1, q2, q3, q4⟩
        rcases hcase with ⟨rfl, hre⟩ | ⟨l1, css, Ls, rfl, hbk, hc1, hc2, hc3⟩
        · obtain ⟨css, hcs⟩ : ∃ css : List (List V), css = [] := ⟨_, rfl⟩
          have h00 : rest.length = 0 := by rw [hre]; rfl
          have hr0 : r = 0 := by omega
          subst hr0
          have hc1 : css.length = rest.length := by rw [hcs, h00]; rfl
          have hc3 : ∀ (i : Nat) (ds : List V) (x : ty_Block.D), css[i]? = some ds → rest[i]? = some x → Rep ty_Block X1 ds x := by
            intro i ds x hd
            rw [hcs] at hd
            simp at hd
          have ht1 : ((css.take 0).flatten).length = 0 * 3 := by simp
          have ht2 : ((css.drop 0).flatten).length = (rest.length - 0) * 3 := by rw [hcs, h00]; rfl
          have ho1 : (css.take 0).flatten.all one = true := by simp
          have ho2 : (css.drop 0).flatten.all one = true := by rw [hcs]; rfl
          have hcl : (css.take 0).length = 0 := by simp
          have hsn : ∀ (X : Mem) (c : Nat), sliceCells X 3 (.slice none 0 c) = some (0, []) := fun X c => rfl
          have hh1 : hits [X1.length] [] = false := by simp [hits]
          have hh2 : hits [M.length] [X1.length] = false := by simp [hits]; omega
          have hex : ¬ (0 : Nat) < rest.length := by omega
          simp [thenD_pp, sliceCells_sl, sliceCells_z, sliceCells_nil, take_full, appS_sl, appK_ok, appS_none, thenD_ag, agP_nil, agP_cons, hf2, e, hsn, zeroCells]
          rw [S_spec_StashPut_0]; unfold B_spec_StashPut_0; simp [thenD_pp, sliceCells_sl, sliceCells_z, sliceCells_nil, take_full, appS_sl, appK_ok, appS_none, thenD_ag, agP_nil, agP_cons, hex, h00, hp11, hsn, zeroCells]
          generalize hy : appS _ _ _ _ _ _ = xhy
          have hg0 : Grow X1.length 3 (X1 ++ [(⟨[], 3, 2⟩ : Blk)]) (.slice (some ⟨X1.length, 0, none⟩) 0 0) 0 [] := Grow.new (Nat.le_refl _) rfl
          obtain ⟨a2, X2, rfl, hg2, ag2, hl2, hw2⟩ := grow_app hg0 hy (List.prefix_refl _) (by simp) ht1 ho1 (by omega) (by omega)
          clear hy
          have hpX2 : X1 <+: X2 := ag2.pre (List.prefix_append _ _) (by simp [wfs])
          have hpr2 := rn_pre hpX2 hpr1
          simp only [Nat.zero_add, List.nil_append, List.length_append, List.length_cons, List.length_nil] at hg2 hl2 hw2
          simp [thenD_pp, sliceCells_sl, sliceCells_z, sliceCells_nil, take_full, appS_sl, appK_ok, appS_none, thenD_ag, agP_nil, agP_cons, thenD_agree, (show Agree (X1 ++ [(⟨[], 3, 2⟩ : Blk)]) X2 [X1.length] from ag2), hh1, hh2, hpr2, zeroCells, rfp_slc2, rfS_some, rfS_none]
          generalize hx : aCall T0 F_spec_l13Copy _ _ = xhx
          obtain ⟨v3, X3, rfl, L3, p3, g3, n3, k3⟩ := of_call hx (c_spec_l13Copy (X2 ++ [(⟨[.int .i64 b.1, .int .i64 b.2.1, .slice ua (List.length (α := UInt8) b.2.2) uc], 3, 2⟩ : Blk)]) (.slice (some ⟨X2.length, 0, none⟩) 1 1) [b] (rep_single (by simp) (hb.mono ((pM1.trans hpX2).trans (List.prefix_append _ _)))) ⟨by simp, by simpa using hbz⟩)
          clear hx
          simp only at p3 g3
          have p23 : X2 <+: X3 := (List.prefix_append _ _).trans p3
          obtain ⟨l3, ds3, K3, e3, hrd3, gb3, hK3⟩ := g3.at (i := 0) (by simp)
          cases e3
          simp only [List.getElem_cons_zero, List.length_singleton] at gb3 hrd3
          have hds3 := gb3.len
          have hw3' : ty_Block.w = 3 := rfl
          rw [hw3'] at hrd3 hds3
          have hs3 : sliceCells X3 3 (.slice (some ⟨l3, 0, none⟩) 1 1) = some (1, ds3) := by
            rw [sc_def, if_neg (by omega), Nat.one_mul]
            rw [Nat.zero_mul] at hrd3
            rw [hrd3]
            rfl
          have hwa2 : ∀ b ∈ wfs (.slice a2 0 0), X1.length ≤ b ∧ b < X2.length := fun b hb2 => by
            refine ⟨?_, hg2.lt b hb2⟩
            rcases hw2 b hb2 with h | h
            · simp [wfs] at h; omega
            · omega
          have hh3 : hits (wfs (.slice a2 0 0)) [M.length] = false := hits_ge (K := X1.length) (fun b hb2 => (hwa2 b hb2).1) (by simp; omega)
          simp [thenD_pp, sliceCells_sl, sliceCells_z, sliceCells_nil, take_full, appS_sl, appK_ok, appS_none, thenD_ag, agP_nil, agP_cons, thenD_pre, p3, hs3, rfp_slc2, rfS_some, rfS_none]
          generalize hy : appS _ _ _ _ _ _ = xhy
          obtain ⟨a4, X4, rfl, hg4, ag4, hl4, hw4⟩ := grow_app hg2 hy p23 (by omega) (by omega) gb3.one (by omega) (by omega)
          clear hy
          have hpX4 : X1 <+: X4 := ag4.pre (hpX2.trans p23) (fun b hb2 => (hwa2 b hb2).1)
          simp [thenD_pp, sliceCells_sl, sliceCells_z, sliceCells_nil, take_full, appS_sl, appK_ok, appS_none, thenD_ag, agP_nil, agP_cons, thenD_agree, ag4, hh3, rfp_slc2, rfS_some, rfS_none]
          have hgX : Gr ty_Block X4 ds3 b K3 := gb3.agree ag4 (fun j hj hm => by
            have q1 := k3 j (hK3 j hj)
            have q2 := (hwa2 j hm).2
            simp at q1
            omega)
          generalize hy : appS _ _ _ _ _ _ = xhy
          obtain ⟨a5, X5, rfl, hg5, ag5, hl5, hw5⟩ := grow_app hg4 hy (List.prefix_refl _) (by have := hpX4.length_le; omega) (by simp) (by rfl) (by omega) (by omega)
          clear hy
          have hwa4 : ∀ b ∈ wfs (.slice a4 (0 + 1) (0 + 1)), X1.length ≤ b ∧ b ∉ K3 := fun b hb2 => by
            rcases hw4 b hb2 with h | h
            · refine ⟨(hwa2 b h).1, fun hm => ?_⟩
              have q1 := k3 b (hK3 b hm)
              have q2 := (hwa2 b h).2
              simp at q1
              omega
            · refine ⟨by rw [h]; exact (hpX2.trans p23).length_le, fun hm => ?_⟩
              have := gb3.lt b hm
              omega
          have hpX5 : X1 <+: X5 := ag5.pre hpX4 (fun b hb2 => (hwa4 b hb2).1)
          have hgX5 : Gr ty_Block X5 ds3 b K3 := hgX.agree ag5 (fun j hj hm => (hwa4 j hm).2 hj)
          simp [thenD_pp, sliceCells_sl, sliceCells_z, sliceCells_nil, take_full, appS_sl, appK_ok, appS_none, thenD_ag, agP_nil, agP_cons]
          simp only [Nat.zero_add, Nat.add_zero, List.nil_append, List.append_nil] at hg5
          obtain ⟨_, ⟨_, hq⟩ | ⟨l5, _, e5, hb5⟩⟩ := hg5
          · omega
          cases e5
          subst hre
          exact ⟨(_, X5), rfl, _, rfl, pM1.trans hpX5, rep_single hb5 hgX5.rep⟩
        · have hw3 : ty_Block.w = 3 := rfl
          rw [hw3] at hbk
          have hl1 := get_lt hbk
          have hels : ∀ c ∈ css, c.length = 3 := Gr.els hc1 hc2 hc3
          have hbk' := fun N : Mem => get_pre' (N := N) hbk
          obtain ⟨f1, f2⟩ := flat_split (w := 3) (i := r) hels (by omega)
          have hfl : css.flatten.length = rest.length * 3 := by rw [flat_len hels, hc1]
          have hrle : r * 3 ≤ rest.length * 3 := Nat.mul_le_mul_right _ hlb
          have hs1 : ∀ (N : Mem) (c : Nat), sliceCells (X1 ++ N) 3 (.slice (some ⟨l1, 0, none⟩) r c) = some (r, (css.take r).flatten) := by
            intro N c
            rw [sc_def]
            by_cases h0 : r = 0
            · rw [h0]; simp
            · rw [if_neg (by omega)]
              simp only [rdn, hbk' N]
              rw [if_pos (by refine ⟨by simp, by omega⟩), List.drop_zero, f1]
              rfl
          have hs4 : ∀ (X : Mem) (c : Nat), X1 <+: X → sliceCells X 3 (.slice (some ⟨l1, r * 3, none⟩) (rest.length - r) c) = some (rest.length - r, (css.drop r).flatten) := by
            intro X c hp
            rw [sc_def]
            by_cases h0 : rest.length - r = 0
            · have : css.drop r = [] := List.drop_of_length_le (by omega)
              rw [h0, this]; simp
            · have hsub : (rest.length - r) * 3 = rest.length * 3 - r * 3 := Nat.sub_mul _ _ _
              rw [if_neg (by omega)]
              simp only [rdn, get_pre hp hbk]
              rw [if_pos (by refine ⟨by simp, by omega⟩), f2, List.take_of_length_le]
              · rfl
              · rw [← f2, List.length_drop]; omega
          have hx1 : l1 < X1.length := get_lt hbk
          have ht1 : ((css.take r).flatten).length = r * 3 := by rw [← f1, List.length_take]; omega
          have ht2 : ((css.drop r).flatten).length = (rest.length - r) * 3 := by rw [← f2, List.length_drop, hfl, Nat.sub_mul]
          have hon : css.flatten.all one = true := by
            rw [List.all_flatten, List.all_eq_true]
            intro c hc
            obtain ⟨i, hi, rfl⟩ := List.getElem_of_mem hc
            exact (hc3 i _ (rest[i]'(by omega)) (Ls[i]'(by omega)) (by simp) (by simp) (by simp)).one
          have ho1 : (css.take r).flatten.all one = true := by rw [← f1]; exact all_take hon
          have ho2 : (css.drop r).flatten.all one = true := by rw [← f2]; exact all_drop hon
          have hcl : (css.take r).length = r := by rw [List.length_take]; omega
          have hh1 : hits [X1.length] [l1] = false := hits_ge (K := X1.length) (by simp) (by simp; omega)
          have hh2 : hits [M.length] [X1.length] = false := by simp [hits]; omega
          rcases Nat.lt_or_ge r rest.length with hex | hex
          all_goals
            first
            | (obtain ⟨lq, oq, uq, eq, F1, _⟩ := at_Block g1r hex
               cases eq
               rw [Nat.zero_add] at F1
               have F2 := hup hex)
            | (have F1 := hf2
               have F2 := hf2
               have hex := Nat.not_lt.2 hex)
            simp [thenD_pp, sliceCells_sl, sliceCells_z, sliceCells_nil, take_full, appS_sl, appK_ok, appS_none, thenD_ag, agP_nil, agP_cons, hf2, e, zeroCells]
            rw [S_spec_StashPut_0]; unfold B_spec_StashPut_0; simp [thenD_pp, sliceCells_sl, sliceCells_z, sliceCells_nil, take_full, appS_sl, appK_ok, appS_none, thenD_ag, agP_nil, agP_cons, hex, F1, hp11, F2, hbk, hbk', hs1, hrI, zeroCells]
            generalize hy : appS _ _ _ _ _ _ = xhy
            have hg0 : Grow X1.length 3 (X1 ++ [(⟨[], 3, 2⟩ : Blk)]) (.slice (some ⟨X1.length, 0, none⟩) 0 0) 0 [] := Grow.new (Nat.le_refl _) rfl
            obtain ⟨a2, X2, rfl, hg2, ag2, hl2, hw2⟩ := grow_app hg0 hy (List.prefix_refl _) (by simp) ht1 ho1 (by omega) (by omega)
            clear hy
            have hpX2 : X1 <+: X2 := ag2.pre (List.prefix_append _ _) (by simp [wfs])
            have hpr2 := rn_pre hpX2 hpr1
            simp only [Nat.zero_add, List.nil_append, List.length_append, List.length_cons, List.length_nil] at hg2 hl2 hw2
            simp [thenD_pp, sliceCells_sl, sliceCells_z, sliceCells_nil, take_full, appS_sl, appK_ok, appS_none, thenD_ag, agP_nil, agP_cons, thenD_agree, (show Agree (X1 ++ [(⟨[], 3, 2⟩ : Blk)]) X2 [X1.length] from ag2), hh1, hh2, hpr2, zeroCells, rfp_slc2, rfS_some, rfS_none]
            generalize hx : aCall T0 F_spec_l13Copy _ _ = xhx
            obtain ⟨v3, X3, rfl, L3, p3, g3, n3, k3⟩ := of_call hx (c_spec_l13Copy (X2 ++ [(⟨[.int .i64 b.1, .int .i64 b.2.1, .slice ua (List.length (α := UInt8) b.2.2) uc], 3, 2⟩ : Blk)]) (.slice (some ⟨X2.length, 0, none⟩) 1 1) [b] (rep_single (by simp) (hb.mono ((pM1.trans hpX2).trans (List.prefix_append _ _)))) ⟨by simp, by simpa using hbz⟩)
            clear hx
            simp only at p3 g3
            have p23 : X2 <+: X3 := (List.prefix_append _ _).trans p3
            obtain ⟨l3, ds3, K3, e3, hrd3, gb3, hK3⟩ := g3.at (i := 0) (by simp)
            cases e3
            simp only [List.getElem_cons_zero, List.length_singleton] at gb3 hrd3
            have hds3 := gb3.len
            have hw3' : ty_Block.w = 3 := rfl
            rw [hw3'] at hrd3 hds3
            have hs3 : sliceCells X3 3 (.slice (some ⟨l3, 0, none⟩) 1 1) = some (1, ds3) := by
              rw [sc_def, if_neg (by omega), Nat.one_mul]
              rw [Nat.zero_mul] at hrd3
              rw [hrd3]
              rfl
            have hwa2 : ∀ b ∈ wfs (.slice a2 r r), X1.length ≤ b ∧ b < X2.length := fun b hb2 => by
              refine ⟨?_, hg2.lt b hb2⟩
              rcases hw2 b hb2 with h | h
              · simp [wfs] at h; omega
              · omega
            have hh3 : hits (wfs (.slice a2 r r)) [M.length, l1] = false := hits_ge (K := X1.length) (fun b hb2 => (hwa2 b hb2).1) (by simp; omega)
            simp [thenD_pp, sliceCells_sl, sliceCells_z, sliceCells_nil, take_full, appS_sl, appK_ok, appS_none, thenD_ag, agP_nil, agP_cons, thenD_pre, p3, hs3, rfp_slc2, rfS_some, rfS_none]
            generalize hy : appS _ _ _ _ _ _ = xhy
            obtain ⟨a4, X4, rfl, hg4, ag4, hl4, hw4⟩ := grow_app hg2 hy p23 (by omega) (by omega) gb3.one (by omega) (by omega)
            clear hy
            have hpX4 : X1 <+: X4 := ag4.pre (hpX2.trans p23) (fun b hb2 => (hwa2 b hb2).1)
            simp [thenD_pp, sliceCells_sl, sliceCells_z, sliceCells_nil, take_full, appS_sl, appK_ok, appS_none, thenD_ag, agP_nil, agP_cons, thenD_agree, ag4, hh3, rfp_slc2, rfS_some, rfS_none]
            have hgX : Gr ty_Block X4 ds3 b K3 := gb3.agree ag4 (fun j hj hm => by
              have q1 := k3 j (hK3 j hj)
              have q2 := (hwa2 j hm).2
              simp at q1
              omega)
            have hs4' := fun c => hs4 X4 c hpX4
            have hb4 := get_pre hpX4 hbk
            simp [thenD_pp, sliceCells_sl, sliceCells_z, sliceCells_nil, take_full, appS_sl, appK_ok, appS_none, thenD_ag, agP_nil, agP_cons, hb4, hs4', hrI, hlb]
            generalize hy : appS _ _ _ _ _ _ = xhy
            obtain ⟨a5, X5, rfl, hg5, ag5, hl5, hw5⟩ := grow_app hg4 hy (List.prefix_refl _) (by have := hpX4.length_le; omega) ht2 ho2 (by omega) (by omega)
            clear hy
            have hwa4 : ∀ b ∈ wfs (.slice a4 (r + 1) (r + 1)), X1.length ≤ b ∧ b ∉ K3 := fun b hb2 => by
              rcases hw4 b hb2 with h | h
              · refine ⟨(hwa2 b h).1, fun hm => ?_⟩
                have q1 := k3 b (hK3 b hm)
                have q2 := (hwa2 b h).2
                simp at q1
                omega
              · refine ⟨by rw [h]; exact (hpX2.trans p23).length_le, fun hm => ?_⟩
                have := gb3.lt b hm
                omega
            have hpX5 : X1 <+: X5 := ag5.pre hpX4 (fun b hb2 => (hwa4 b hb2).1)
            have hgX5 : Gr ty_Block X5 ds3 b K3 := hgX.agree ag5 (fun j hj hm => (hwa4 j hm).2 hj)
            simp [thenD_pp, sliceCells_sl, sliceCells_z, sliceCells_nil, take_full, appS_sl, appK_ok, appS_none, thenD_ag, agP_nil, agP_cons]
            have hcells : ((css.take r).flatten ++ ds3) ++ (css.drop r).flatten = (css.take r ++ ds3 :: css.drop r).flatten := by simp
            obtain ⟨_, ⟨_, hq⟩ | ⟨l5, _, e5, hb5⟩⟩ := hg5
            · omega
            cases e5
            refine ⟨(_, X5), rfl, _, rfl, pM1.trans hpX5, .inr ⟨l5, 0, r + 1 + (rest.length - r), ⟨_, 3, 2⟩, css.take r ++ ds3 :: css.drop r, ?_, hb5, .inr (.inl rfl), rfl, ?_, ?_, ?_⟩⟩
            · have : (rest.take r ++ b :: rest.drop r).length = r + 1 + (rest.length - r) := by simp; omega
              rw [this]
            · simp [hc1]
            · intro k d x hd hx
              have c2 : (rest.take r).length = r := by rw [List.length_take]; omega
              by_cases hk : k < r
              · rw [List.getElem?_append_left (by omega), List.getElem?_take_of_lt hk] at hd hx
                obtain ⟨hi2, _⟩ := List.getElem?_eq_some_iff.1 hd
                exact ((hc3 _ d x (Ls[k]'(by omega)) hd hx (by simp)).grow hpX5).rep
              · rw [List.getElem?_append_right (by omega)] at hd hx
                rw [hcl] at hd
                rw [c2] at hx
                generalize hq : k - r = q at hd hx
                cases q with
                | zero =>
                  rw [List.getElem?_cons_zero] at hd hx
                  cases hd; cases hx
                  exact hgX5.rep
                | succ q =>
                  rw [List.getElem?_cons_succ, List.getElem?_drop] at hd hx
                  obtain ⟨hi2, _⟩ := List.getElem?_eq_some_iff.1 hd
                  exact ((hc3 _ d x (Ls[r + q]'(by omega)) hd hx (by simp)).grow hpX5).rep
            · rw [← hcells]
              exact List.prefix_refl _
theorem d_spec_StashPut (M : Mem) (v : V) (xs : List ty_Block.D) (h : Rep (.sl ty_Block) M [v] xs) (hb : Bd 1048576 (.sl ty_Block) xs) (cs : List V) (b : ty_Block.D) (hbr : Rep ty_Block M cs b) (hbb : Bd 1048576 ty_Block b) (l w : Int) :
    ∃ M' r, M <+: M' ∧ aCall T0 F_spec_StashPut [v, .agg cs.toArray, .int .i64 l, .int .i64 w] M = some (.tuple #[r, .bool (stB xs b l w)], M') ∧ Rep (.sl ty_Block) M' [r] (stX xs b l w) := by
  obtain ⟨⟨q, M'⟩, e, r, rfl, q1, q2⟩ := c_spec_StashPut M v xs cs b h (blkSz_of hb) hbr hbb.2.2.1 l w
  exact ⟨M', r, q1, e, q2⟩
theorem gc_ex (M M' : Mem) (v : V) : ∃ X, gc M (some (v, M')) = some (v, X) := by
  simp only [gc]
  split
  · exact ⟨_, rfl⟩
  · exact ⟨_, rfl⟩
set_option maxHeartbeats 8000000 in
set_option maxRecDepth 20000 in
theorem c_laws_FnExactStashPut (M : Mem) (v_list : V) (list : List ty_Block.D) (h_list : Rep (.sl ty_Block) M [v_list] list) (hb_list : Bd 9223372036854775807 (.sl ty_Block) list) (v_b : List V) (b : ty_Block.D) (h_b : Rep ty_Block M v_b b) (hb_b : Bd 9223372036854775807 ty_Block b) (l : Int) (w : Int) : ∃ M', aCall T0 F_laws_FnExactStashPut [v_list, .agg v_b.toArray, .int .i64 l, .int .i64 w] M = some (.bool true, M') := by
  have hl_v_b : v_b.length = 3 := (h_b).len
  have ho_v_b := (h_b).one
  obtain ⟨l_list, s1_list, s2_list, s3_list⟩ := k_laws_szBlockS (M ++ [⟨v_b, 1, 2⟩]) v_list list 1048576 (h_list.mono ((List.prefix_refl _).trans (List.prefix_append _ _))) hb_list (by omega) (by omega)
  by_cases hl_list : l_list < 0
  · refine ⟨M, ?_⟩
    obtain ⟨_, _, rfl⟩ := h_list.slen
    rw [aCall_eq T_laws_FnExactStashPut]; unfold A_laws_FnExactStashPut C_laws_FnExactStashPut; simp [thenD_pp, sliceCells_sl, sliceCells_z, sliceCells_nil, take_full, appS_sl, appK_ok, appS_none, thenD_ag, agP_nil, agP_cons, hl_v_b, ho_v_b, s2_list, hl_list]
  have hb1_list := s3_list (by omega)
  obtain ⟨l_b, s1_b, s2_b, s3_b⟩ := k_laws_szBlock (M ++ [⟨v_b, 1, 2⟩]) v_b b l_list (h_b.mono ((List.prefix_refl _).trans (List.prefix_append _ _))) hb_b (by omega) (by omega)
  have r1 : rdn (M ++ [⟨v_b, 1, 2⟩]) (M.length) 0 3 = some v_b := rdn_box (by first | simp | rfl) hl_v_b.symm
  by_cases hl_b : l_b < 0
  · refine ⟨M, ?_⟩
    obtain ⟨_, _, rfl⟩ := h_list.slen
    rw [aCall_eq T_laws_FnExactStashPut]; unfold A_laws_FnExactStashPut C_laws_FnExactStashPut; simp [thenD_pp, sliceCells_sl, sliceCells_z, sliceCells_nil, take_full, appS_sl, appK_ok, appS_none, thenD_ag, agP_nil, agP_cons, hl_v_b, ho_v_b, r1, s2_list, hl_list, s2_b, hl_b]
  have hb1_b := s3_b (by omega)
  have hr_0 : Bd 1048576 (.sl ty_Block) (stX list b l w) := stX_bd list b l w hb1_list hb1_b
  have ht_0 := tot_BlockS _ hr_0
  have ht_list := tot_BlockS _ hb1_list
  have ht_b := tot_Block _ hb1_b
  obtain ⟨M2, u3, L4, p5, t6, o7, F8⟩ := k_laws_toBlockS (M ++ [⟨v_b, 1, 2⟩]) v_list list (h_list.mono ((List.prefix_refl _).trans (List.prefix_append _ _))) hb1_list
  have f9 : ∀ l ∈ L4, M.length + 1 ≤ l ∧ l < M2.length := by intro l hl; have := F8.2 l hl; (try simp only [List.length_append, List.length_cons, List.length_nil] at this); omega
  have q10 : M <+: M2 := (List.prefix_append _ _).trans p5
  have ln11 : M.length + 1 ≤ M2.length := by have := p5.length_le; (try simp only [List.length_append, List.length_cons, List.length_nil] at this); omega
  have b12 : M2[M.length]? = some ⟨v_b, 1, 2⟩ := get_pre p5 (by simp)
  have z13 : M <+: M2 := (List.prefix_refl _).trans q10
  have r15 : rdn M2 (M.length) 0 3 = some v_b := rdn_box b12 hl_v_b.symm
  obtain ⟨M16, u17, L18, p19, t20, o21, F22⟩ := k_laws_toBlock M2 v_b b (h_b.mono (z13.trans (List.prefix_refl _))) hb1_b
  have f23 : ∀ l ∈ L18, M2.length ≤ l ∧ l < M16.length := by intro l hl; have := F22.2 l hl; (try simp only [List.length_append, List.length_cons, List.length_nil] at this); omega
  have q24 : M2 <+: M16 := (List.prefix_refl _).trans p19
  have ln25 : M2.length ≤ M16.length := by have := p19.length_le; (try simp only [List.length_append, List.length_cons, List.length_nil] at this); omega
  have b26 : M16[M.length]? = some ⟨v_b, 1, 2⟩ := get_pre q24 b12
  have o27 := Own.grow q24 o7
  have z28 : M <+: M16 := z13.trans q24
  have hl_u17 : u17.length = 3 := (o21.rep).len
  have ho_u17 := (o21.rep).one
  obtain ⟨M30, g33, p31, s32, o34⟩ := d_spec_StashPut M16 u3 list ((Own.grow (List.prefix_refl _) o27)).rep hb1_list u17 b ((Own.grow (List.prefix_refl _) o21)).rep hb1_b l w
  have q35 : M16 <+: M30 := (List.prefix_refl _).trans p31
  have ln36 : M16.length ≤ M30.length := by have := p31.length_le; (try simp only [List.length_append, List.length_cons, List.length_nil] at this); omega
  have b37 : M30[M.length]? = some ⟨v_b, 1, 2⟩ := get_pre q35 b26
  have o38 := Own.grow q35 o27
  have o39 := Own.grow q35 o21
  have z40 : M <+: M30 := z28.trans q35
  obtain ⟨M42, u43, L44, p45, t46, o47, F48⟩ := k_laws_toBlockS M30 v_list list (h_list.mono (z40.trans (List.prefix_refl _))) hb1_list
  have f49 : ∀ l ∈ L44, M30.length ≤ l ∧ l < M42.length := by intro l hl; have := F48.2 l hl; (try simp only [List.length_append, List.length_cons, List.length_nil] at this); omega
  have q50 : M30 <+: M42 := (List.prefix_refl _).trans p45
  have ln51 : M30.length ≤ M42.length := by have := p45.length_le; (try simp only [List.length_append, List.length_cons, List.length_nil] at this); omega
  have b52 : M42[M.length]? = some ⟨v_b, 1, 2⟩ := get_pre q50 b37
  have z53 : M <+: M42 := z40.trans q50
  have y54 : M30 <+: M42 := (List.prefix_refl _).trans q50
  have r56 : rdn M42 (M.length) 0 3 = some v_b := rdn_box b52 hl_v_b.symm
  obtain ⟨M57, u58, L59, p60, t61, o62, F63⟩ := k_laws_toBlock M42 v_b b (h_b.mono (z53.trans (List.prefix_refl _))) hb1_b
  have f64 : ∀ l ∈ L59, M42.length ≤ l ∧ l < M57.length := by intro l hl; have := F63.2 l hl; (try simp only [List.length_append, List.length_cons, List.length_nil] at this); omega
  have q65 : M42 <+: M57 := (List.prefix_refl _).trans p60
  have ln66 : M42.length ≤ M57.length := by have := p60.length_le; (try simp only [List.length_append, List.length_cons, List.length_nil] at this); omega
  have b67 : M57[M.length]? = some ⟨v_b, 1, 2⟩ := get_pre q65 b52
  have o68 := Own.grow q65 o47
  have z69 : M <+: M57 := z53.trans q65
  have y70 : M30 <+: M57 := y54.trans q65
  have hl_u58 : u58.length = 3 := (o62.rep).len
  have ho_u58 := (o62.rep).one
  have r72 : rdn (M57 ++ [⟨u58, 1, 2⟩]) (M57.length) 0 3 = some u58 := rdn_box (by first | simp | rfl) hl_u58.symm
  obtain ⟨M73, g76, L77, p74, s75, o78, F79⟩ := d_impl_StashPut (M57 ++ [⟨u58, 1, 2⟩]) u43 list ((Own.grow (List.prefix_append _ _) o68)).rep hb1_list u58 b ((Own.grow (List.prefix_append _ _) o62)).rep hb1_b l w
  have q80 : M57 <+: M73 := (List.prefix_append _ _).trans p74
  have ln81 : M57.length + 1 ≤ M73.length := by have := p74.length_le; (try simp only [List.length_append, List.length_cons, List.length_nil] at this); omega
  have b82 : M73[M.length]? = some ⟨v_b, 1, 2⟩ := get_pre q80 b67
  have b83 : M73[M57.length]? = some ⟨u58, 1, 2⟩ := get_pre p74 (by simp)
  have o84 := Own.grow q80 o68
  have o85 := Own.grow q80 o62
  have z86 : M <+: M73 := z69.trans q80
  have y87 : M30 <+: M73 := y70.trans q80
  have f88 : ∀ l ∈ L77, M57.length + 1 ≤ l ∧ l < M73.length := by intro l hl; have := F79.2 l (by simp [hl]); (try simp only [List.length_append, List.length_cons, List.length_nil] at this); omega
  have nd89 : L77.Nodup := by have := F79.1; first | exact this | (simp only [List.nodup_append] at this; simp [this])
  have e91 := (ans_of (k_laws_eqBlockS M73 _ _ _ _ ((Own.grow (List.prefix_refl _) o78)).rep (o34.mono (y87.trans (List.prefix_refl _))) (hr_0.mono (by decide)))).1 rfl
  obtain ⟨M92, u93, L94, p95, t96, o97, F98⟩ := k_laws_toBlockS M73 v_list list (h_list.mono (z86.trans (List.prefix_refl _))) hb1_list
  have f99 : ∀ l ∈ L94, M73.length ≤ l ∧ l < M92.length := by intro l hl; have := F98.2 l hl; (try simp only [List.length_append, List.length_cons, List.length_nil] at this); omega
  have q100 : M73 <+: M92 := (List.prefix_refl _).trans p95
  have ln101 : M73.length ≤ M92.length := by have := p95.length_le; (try simp only [List.length_append, List.length_cons, List.length_nil] at this); omega
  have b102 : M92[M.length]? = some ⟨v_b, 1, 2⟩ := get_pre q100 b82
  have b103 : M92[M57.length]? = some ⟨u58, 1, 2⟩ := get_pre q100 b83
  have o104 := Own.grow q100 o84
  have o105 := Own.grow q100 o85
  have o106 := Own.grow q100 o78
  have z107 : M <+: M92 := z86.trans q100
  have y108 : M30 <+: M92 := y87.trans q100
  have e110 := (ans_of (k_laws_eqBlockS M92 _ _ _ _ ((Own.grow (List.prefix_refl _) o104)).rep ((Own.grow (List.prefix_refl _) o97)).rep (hb1_list.mono (by decide)))).1 rfl
  have r111 : rdn M92 (M57.length) 0 3 = some u58 := rdn_box b103 hl_u58.symm
  have r112 : rdn M92 (M.length) 0 3 = some v_b := rdn_box b102 hl_v_b.symm
  obtain ⟨M113, u114, L115, p116, t117, o118, F119⟩ := k_laws_toBlock M92 v_b b (h_b.mono (z107.trans (List.prefix_refl _))) hb1_b
  have f120 : ∀ l ∈ L115, M92.length ≤ l ∧ l < M113.length := by intro l hl; have := F119.2 l hl; (try simp only [List.length_append, List.length_cons, List.length_nil] at this); omega
  have q121 : M92 <+: M113 := (List.prefix_refl _).trans p116
  have ln122 : M92.length ≤ M113.length := by have := p116.length_le; (try simp only [List.length_append, List.length_cons, List.length_nil] at this); omega
  have b123 : M113[M.length]? = some ⟨v_b, 1, 2⟩ := get_pre q121 b102
  have b124 : M113[M57.length]? = some ⟨u58, 1, 2⟩ := get_pre q121 b103
  have o125 := Own.grow q121 o104
  have o126 := Own.grow q121 o105
  have o127 := Own.grow q121 o106
  have z128 : M <+: M113 := z107.trans q121
  have y129 : M30 <+: M113 := y108.trans q121
  have hl_u114 : u114.length = 3 := (o118.rep).len
  have ho_u114 := (o118.rep).one
  have e131 := (ans_of (k_laws_eqBlock M113 _ _ _ _ ((Own.grow (List.prefix_refl _) o126)).rep ((Own.grow (List.prefix_refl _) o118)).rep (hb1_b.mono (by decide)))).1 rfl
  obtain ⟨M132, m133, up134, o135⟩ := k_laws_markBlockS M113 _ _ _ (1) (Own.grow (List.prefix_refl _) o125) F48.1 hb1_list (by omega) (by omega)
  have ln136 : M113.length ≤ M132.length := by have := up134.1; (try simp only [List.length_append, List.length_cons, List.length_nil] at this); omega
  have hh138 : M113[M.length]? = some ⟨v_b, 1, 2⟩ := get_pre (List.prefix_refl _) b123
  have b137 : M132[M.length]? = some ⟨v_b, 1, 2⟩ := UpdG.get up134 hh138 (fun hl => by have := f49 _ hl; omega)
  have hh140 : M113[M57.length]? = some ⟨u58, 1, 2⟩ := get_pre (List.prefix_refl _) b124
  have b139 : M132[M57.length]? = some ⟨u58, 1, 2⟩ := UpdG.get up134 hh140 (fun hl => by have := f49 _ hl; omega)
  have o141 := Own.updg up134 (Own.grow (List.prefix_refl _) o126) (fun l hl hk => (by have := f64 l hl; have := f49 l hk; omega))
  have o142 := Own.updg up134 (Own.grow (List.prefix_refl _) o127) (fun l hl hk => (by have := f88 l hl; have := f49 l hk; omega))
  have z143 : M <+: M132 := UpdG.pre up134 (z128.trans (List.prefix_refl _)) (fun l hl => by have := f49 l hl; omega)
  have y144 : M30 <+: M132 := UpdG.pre up134 (y129.trans (List.prefix_refl _)) (fun l hl => by have := f49 l hl; omega)
  have r145 : rdn M132 (M57.length) 0 3 = some u58 := rdn_box b139 hl_u58.symm
  obtain ⟨M146, m147, up148, o149⟩ := k_laws_markBlock M132 _ _ _ (1 + gt_BlockS list) (Own.grow (List.prefix_refl _) o141) F63.1 hb1_b (by omega) (by omega)
  have ln150 : M132.length ≤ M146.length := by have := up148.1; (try simp only [List.length_append, List.length_cons, List.length_nil] at this); omega
  have hh152 : M132[M.length]? = some ⟨v_b, 1, 2⟩ := get_pre (List.prefix_refl _) b137
  have b151 : M146[M.length]? = some ⟨v_b, 1, 2⟩ := UpdG.get up148 hh152 (fun hl => by have := f64 _ hl; omega)
  have hh154 : M132[M57.length]? = some ⟨u58, 1, 2⟩ := get_pre (List.prefix_refl _) b139
  have b153 : M146[M57.length]? = some ⟨u58, 1, 2⟩ := UpdG.get up148 hh154 (fun hl => by have := f64 _ hl; omega)
  have o155 := Own.updg up148 (Own.grow (List.prefix_refl _) o135) (fun l hl hk => (by have := f49 l hl; have := f64 l hk; omega))
  have o156 := Own.updg up148 (Own.grow (List.prefix_refl _) o142) (fun l hl hk => (by have := f88 l hl; have := f64 l hk; omega))
  have z157 : M <+: M146 := UpdG.pre up148 (z143.trans (List.prefix_refl _)) (fun l hl => by have := f64 l hl; omega)
  have y158 : M30 <+: M146 := UpdG.pre up148 (y144.trans (List.prefix_refl _)) (fun l hl => by have := f64 l hl; omega)
  have c159 : ¬ (1 + gt_BlockS list + gt_Block b < 0) := by omega
  have e160 := (ans_of (k_laws_eqBlockS M146 _ _ _ _ ((Own.grow (List.prefix_refl _) o156)).rep (o34.mono (y158.trans (List.prefix_refl _))) (hr_0.mono (by decide)))).1 rfl
  obtain ⟨M161, m162, up163, o164⟩ := k_laws_markBlockS M146 _ _ _ (1) (Own.grow (List.prefix_refl _) o156) nd89 hr_0 (by omega) (by omega)
  have ln165 : M146.length ≤ M161.length := by have := up163.1; (try simp only [List.length_append, List.length_cons, List.length_nil] at this); omega
  have hh167 : M146[M.length]? = some ⟨v_b, 1, 2⟩ := get_pre (List.prefix_refl _) b151
  have b166 : M161[M.length]? = some ⟨v_b, 1, 2⟩ := UpdG.get up163 hh167 (fun hl => by have := f88 _ hl; omega)
  have hh169 : M146[M57.length]? = some ⟨u58, 1, 2⟩ := get_pre (List.prefix_refl _) b153
  have b168 : M161[M57.length]? = some ⟨u58, 1, 2⟩ := UpdG.get up163 hh169 (fun hl => by have := f88 _ hl; omega)
  have o170 := Own.updg up163 (Own.grow (List.prefix_refl _) o155) (fun l hl hk => (by have := f49 l hl; have := f88 l hk; omega))
  have o171 := Own.updg up163 (Own.grow (List.prefix_refl _) o149) (fun l hl hk => (by have := f64 l hl; have := f88 l hk; omega))
  have z172 : M <+: M161 := UpdG.pre up163 (z157.trans (List.prefix_refl _)) (fun l hl => by have := f88 l hl; omega)
  have y173 : M30 <+: M161 := UpdG.pre up163 (y158.trans (List.prefix_refl _)) (fun l hl => by have := f88 l hl; omega)
  have c174 : ¬ (1 + gt_BlockS (stX list b l w) < 0) := by omega
  have d175 := k_laws_heldBlockS M161 _ _ (1) ((Own.grow (List.prefix_refl _) o164)).rep hr_0 (by omega) (by omega)
  have c176 : ¬ (1 + gt_BlockS (stX list b l w) < 0) := by omega
  obtain ⟨M177, u178, L179, p180, t181, o182, F183⟩ := k_laws_toBlockS M161 v_list list (h_list.mono (z172.trans (List.prefix_refl _))) hb1_list
  have f184 : ∀ l ∈ L179, M161.length ≤ l ∧ l < M177.length := by intro l hl; have := F183.2 l hl; (try simp only [List.length_append, List.length_cons, List.length_nil] at this); omega
  have q185 : M161 <+: M177 := (List.prefix_refl _).trans p180
  have ln186 : M161.length ≤ M177.length := by have := p180.length_le; (try simp only [List.length_append, List.length_cons, List.length_nil] at this); omega
  have b187 : M177[M.length]? = some ⟨v_b, 1, 2⟩ := get_pre q185 b166
  have b188 : M177[M57.length]? = some ⟨u58, 1, 2⟩ := get_pre q185 b168
  have o189 := Own.grow q185 o170
  have o190 := Own.grow q185 o171
  have o191 := Own.grow q185 o164
  have z192 : M <+: M177 := z172.trans q185
  have y193 : M30 <+: M177 := y173.trans q185
  have r195 : rdn M177 (M.length) 0 3 = some v_b := rdn_box b187 hl_v_b.symm
  obtain ⟨M196, u197, L198, p199, t200, o201, F202⟩ := k_laws_toBlock M177 v_b b (h_b.mono (z192.trans (List.prefix_refl _))) hb1_b
  have f203 : ∀ l ∈ L198, M177.length ≤ l ∧ l < M196.length := by intro l hl; have := F202.2 l hl; (try simp only [List.length_append, List.length_cons, List.length_nil] at this); omega
  have q204 : M177 <+: M196 := (List.prefix_refl _).trans p199
  have ln205 : M177.length ≤ M196.length := by have := p199.length_le; (try simp only [List.length_append, List.length_cons, List.length_nil] at this); omega
  have b206 : M196[M.length]? = some ⟨v_b, 1, 2⟩ := get_pre q204 b187
  have b207 : M196[M57.length]? = some ⟨u58, 1, 2⟩ := get_pre q204 b188
  have o208 := Own.grow q204 o189
  have o209 := Own.grow q204 o190
  have o210 := Own.grow q204 o191
  have o211 := Own.grow q204 o182
  have z212 : M <+: M196 := z192.trans q204
  have y213 : M30 <+: M196 := y193.trans q204
  have hl_u197 : u197.length = 3 := (o201.rep).len
  have ho_u197 := (o201.rep).one
  obtain ⟨M215, g218, L219, p216, s217, o220, F221⟩ := d_impl_StashPut M196 u178 list ((Own.grow (List.prefix_refl _) o211)).rep hb1_list u197 b ((Own.grow (List.prefix_refl _) o201)).rep hb1_b l w
  have q222 : M196 <+: M215 := (List.prefix_refl _).trans p216
  have ln223 : M196.length ≤ M215.length := by have := p216.length_le; (try simp only [List.length_append, List.length_cons, List.length_nil] at this); omega
  have b224 : M215[M.length]? = some ⟨v_b, 1, 2⟩ := get_pre q222 b206
  have b225 : M215[M57.length]? = some ⟨u58, 1, 2⟩ := get_pre q222 b207
  have o226 := Own.grow q222 o208
  have o227 := Own.grow q222 o209
  have o228 := Own.grow q222 o210
  have o229 := Own.grow q222 o211
  have o230 := Own.grow q222 o201
  have z231 : M <+: M215 := z212.trans q222
  have y232 : M30 <+: M215 := y213.trans q222
  have f233 : ∀ l ∈ L219, M196.length ≤ l ∧ l < M215.length := by intro l hl; have := F221.2 l (by simp [hl]); (try simp only [List.length_append, List.length_cons, List.length_nil] at this); omega
  have nd234 : L219.Nodup := by have := F221.1; first | exact this | (simp only [List.nodup_append] at this; simp [this])
  have e236 := (ans_of (k_laws_eqBlockS M215 _ _ _ _ ((Own.grow (List.prefix_refl _) o220)).rep (o34.mono (y232.trans (List.prefix_refl _))) (hr_0.mono (by decide)))).1 rfl
  have d237 := k_laws_heldBlockS M215 _ _ (1) ((Own.grow (List.prefix_refl _) o228)).rep hr_0 (by omega) (by omega)
  have c238 : ¬ (1 + gt_BlockS (stX list b l w) < 0) := by omega
  obtain ⟨_, _, rfl⟩ := h_list.slen
  rw [aCall_eq T_laws_FnExactStashPut]; unfold A_laws_FnExactStashPut C_laws_FnExactStashPut; simp (maxSteps := 4000000) [thenD_pp, sliceCells_sl, sliceCells_z, sliceCells_nil, take_full, appS_sl, appK_ok, appS_none, thenD_ag, agP_nil, agP_cons, hl_v_b, ho_v_b, r1, s2_list, hl_list, s2_b, hl_b, t6, p5, r15, t20, p19, hl_u17, ho_u17, s32, p31, t46, p45, r56, t61, p60, hl_u58, ho_u58, r72, s75, p74, e91, t96, p95, e110, r111, r112, t117, p116, hl_u114, ho_u114, e131, m133, r145, m147, c159, e160, m162, c174, d175, c176, t181, p180, r195, t200, p199, hl_u197, ho_u197, s217, p216, e236, d237, c238, thenD_pre]
  all_goals exact gc_ex _ _ _
theorem law_laws_FnExactStashPut (M : Mem) (avs : List V) (_ : ∀ b ∈ M, b.st ≠ 2) (h : Ins [(false, (.sl (.pr (.int .i64) (.pr (.int .i64) (.sl .u8))))), (true, (.pr (.int .i64) (.pr (.int .i64) (.sl .u8)))), (false, (.int .i64)), (false, (.int .i64))] M avs) : ∃ M', aCall T0 F_laws_FnExactStashPut avs M = some (.bool true, M') := by
  obtain ⟨v_list, _, list, rfl, h_list, f_list, h⟩ := ins_cons h
  obtain ⟨v_b, _, b, rfl, h_b, f_b, h⟩ := ins_cons h
  obtain ⟨v_l, _, l, rfl, h_l, f_l, h⟩ := ins_cons h
  obtain ⟨v_w, _, w, rfl, h_w, f_w, h⟩ := ins_cons h
  obtain rfl := ins_nil h
  obtain ⟨c_b, rfl, h2_b⟩ := repv_agg h_b
  obtain ⟨h_l, _⟩ := repv_one h_l
  cases h_l
  obtain ⟨h_w, _⟩ := repv_one h_w
  cases h_w
  exact c_laws_FnExactStashPut M v_list list (repv_one h_list) (fit_bd f_list) c_b b h2_b (fit_bd f_b) l w
end GoAm
