/- What the functions do that the law reaches. -/
import Derived.Test.YtiboefiiajkknaaEvictRestt
import Derived.Test.YtiboefiiajkknaaAmGr
set_option autoImplicit false
set_option linter.unusedVariables false
set_option linter.unusedSimpArgs false
namespace GoAm
open Go
abbrev ty_Byte : Ty := .u8
abbrev ty_Block : Ty := .pr (.int .i64) (.pr (.int .i64) (.sl ty_Byte))
instance d_Block : DecidableEq ty_Block.D := inferInstanceAs (DecidableEq (Int × Int × List UInt8))
theorem rep_g_Block {M : Mem} {cs : List V} {x : ty_Block.D} (h : Rep ty_Block M cs x) : ∃ u0 : V, cs = [.int .i64 x.1, .int .i64 x.2.1, u0] ∧ (Lit.int .i64 x.1).wf = true ∧ (Lit.int .i64 x.2.1).wf = true ∧ Rep (.sl ty_Byte) M [u0] x.2.2 := by
  obtain ⟨c0, d0, rfl, h0, h⟩ := h
  obtain ⟨rfl, w0⟩ := h0
  obtain ⟨c1, d1, rfl, h1, h⟩ := h
  obtain ⟨rfl, w1⟩ := h1
  obtain ⟨u0, rfl⟩ : ∃ u, d1 = [u] := by
    have l0 := Rep.len (h)
    exact List.length_eq_one_iff.1 l0
  have r0 := h
  exact ⟨u0, rfl, w0, w1, r0⟩
theorem mkown_g_Block {M : Mem} {x : ty_Block.D} {u0 : V} {L0 : List Nat} (w0 : (Lit.int .i64 x.1).wf = true) (w1 : (Lit.int .i64 x.2.1).wf = true) (r0 : Own (.sl ty_Byte) M [u0] x.2.2 L0) : Own ty_Block M [.int .i64 x.1, .int .i64 x.2.1, u0] x (L0) := by
  have h : Own ty_Block M [.int .i64 x.1, .int .i64 x.2.1, u0] x _ := ⟨[.int .i64 x.1], ([.int .i64 x.2.1] ++ [u0]), _, _, rfl, ⟨⟨rfl, w0⟩, rfl⟩, ⟨[.int .i64 x.2.1], ([u0]), _, _, rfl, ⟨⟨rfl, w1⟩, rfl⟩, r0, rfl⟩, rfl⟩
  simpa only [List.append_nil, List.nil_append, List.append_assoc] using h
theorem nodup_flat {t : Ty} (hf : ∀ (M : Mem) (cs : List V) (x : t.D) (K : List Nat), Own t M cs x K → K = []) {M : Mem} {v : V} {xs : List t.D} {L : List Nat} (h : Own (.sl t) M [v] xs L) : L.Nodup := by
  rcases own_flat hf h with ⟨_, rfl, _⟩ | ⟨l, _, _, _, _, _, _, _, _, _, rfl⟩ <;> simp
theorem ownf_Byte (M : Mem) (cs : List V) (x : ty_Byte.D) (K : List Nat) (h : Own ty_Byte M cs x K) : K = [] := h.2
abbrev enc_Byte (x : ty_Byte.D) : List V := [byteV x]
def z_Byte : List V := [.int .u8 0]
theorem at_Byte {M : Mem} {a : Option Addr} {n c : Nat} {xs : List ty_Byte.D} (h : Rep (.sl ty_Byte) M [.slice a n c] xs) {i : Nat} (hi : i < xs.length) : ∃ l o, a = some ⟨l, o, none⟩ ∧ Rep ty_Byte M (enc_Byte xs[i]) xs[i] ∧ rd1 M l (o + i) = some (byteV xs[i]) := by
  obtain ⟨_, l, o, rfl, cs, hrd, hrep⟩ := rep_at h hi
  have hcs : cs = enc_Byte xs[i] := hrep
  subst hcs
  have hw1 : ty_Byte.w = 1 := rfl
  rw [hw1, Nat.mul_one] at hrd
  exact ⟨l, o, rfl, hrep, rd1_of_one hrd⟩
theorem r_laws_toByteS (M : Mem) (a : Option Addr) (c : Nat) (xs : List ty_Byte.D) (h : Rep (.sl ty_Byte) M [.slice a xs.length c] xs) (hn : xs.length ≤ 1048576) (i : Nat) (hi : i < xs.length) :
    lp (aCall T0) K_laws_toByteS_0 L_laws_toByteS_0 [.slice a xs.length c, und, und, .slice (some ⟨M.length, 0, none⟩) xs.length xs.length, .int .i64 i, und, und, und, und, und, und, und, und, und, und, und, und, und, und, und, und, und] (M ++ [⟨tcells enc_Byte z_Byte xs i, 1, 2⟩]) =
    lp (aCall T0) K_laws_toByteS_0 L_laws_toByteS_0 [.slice a xs.length c, und, und, .slice (some ⟨M.length, 0, none⟩) xs.length xs.length, .int .i64 (i + 1 : Nat), und, und, und, und, und, und, und, und, und, und, und, und, und, und, und, und, und] (M ++ [⟨tcells enc_Byte z_Byte xs (i + 1), 1, 2⟩]) := by
  obtain ⟨l, o, rfl, hrep, hrd⟩ := at_Byte h hi
  have hrd2 : rd1 (M ++ [⟨tcells enc_Byte z_Byte xs i, 1, 2⟩]) l (o + i) = some (byteV xs[i]) := rd1_old hrd
  have e2 := tcells_len (enc := enc_Byte) (z := z_Byte) (xs := xs) (fun x _ => rfl) (i := i) (by omega)
  have e3 := tcells_step (enc := enc_Byte) (z := z_Byte) (xs := xs) (fun x _ => rfl) hi
  have e4 : z_Byte.length = 1 := rfl
  rw [e4, Nat.mul_one] at e2 e3
  have e5 : i + 1 ≤ xs.length := by omega
  have e6 : IntKind.i64.wrap ((i : Int) + 1) = i + 1 := wrap_i64 (by omega) (by omega)
  unfold splice at e3
  simp at e3
  rw [S_laws_toByteS_0]; unfold B_laws_toByteS_0; simp [hrd2, e2, e3, e5, e6, hi]
theorem c_laws_toByteS (M : Mem) (v : V) (xs : List ty_Byte.D) (h : Rep (.sl ty_Byte) M [v] xs) (hn : xs.length ≤ 1048576) :
    aCall T0 F_laws_toByteS [v] M = some (.slice (some ⟨M.length, 0, none⟩) xs.length xs.length, M ++ [⟨(xs.map enc_Byte).flatten, 1, 2⟩]) := by
  obtain ⟨a, c, rfl⟩ := h.slen
  have hl := chain (g := fun i : Nat => lp (aCall T0) K_laws_toByteS_0 L_laws_toByteS_0 [.slice a xs.length c, und, und, .slice (some ⟨M.length, 0, none⟩) xs.length xs.length, .int .i64 i, und, und, und, und, und, und, und, und, und, und, und, und, und, und, und, und, und] (M ++ [⟨tcells enc_Byte z_Byte xs i, 1, 2⟩])) (n := xs.length) fun i hi => r_laws_toByteS M a c xs h hn i hi
  simp only [Int.natCast_zero, Int.ofNat_zero, tcells_zero, tcells_full] at hl
  unfold z_Byte at hl
  simp only [zeroCells_zc] at hl
  have e1 : (xs.length : Int) ≤ 281474976710656 := by omega
  have e2 : (xs.length : Int) ≤ 9223372036854775807 := by omega
  rw [aCall_eq T_laws_toByteS]; unfold A_laws_toByteS C_laws_toByteS; simp [e1, e2]
  rw [hl]
  rw [S_laws_toByteS_0]; unfold B_laws_toByteS_0; simp
theorem own_Byte (M : Mem) (x : ty_Byte.D) : Own ty_Byte M (enc_Byte x) x [] := ⟨rfl, rfl⟩
theorem d_laws_toByteS (M : Mem) (v : V) (xs : List ty_Byte.D) (h : Rep (.sl ty_Byte) M [v] xs) (hn : xs.length ≤ 1048576) : ∃ M' u L, M <+: M' ∧ aCall T0 F_laws_toByteS [v] M = some (u, M') ∧ Own (.sl ty_Byte) M' [u] xs L ∧ ∀ l ∈ L, M.length ≤ l ∧ l < M'.length := by
  have e := c_laws_toByteS M v xs h hn
  obtain ⟨L, o1, o2⟩ := own_blk (t := ty_Byte) (M := M ++ [⟨(xs.map enc_Byte).flatten, 1, 2⟩]) (l := M.length) (c := xs.length) (enc := enc_Byte) (ys := xs) (by simp; rfl) (fun y _ => own_Byte _ y)
  exact ⟨_, _, L, List.prefix_append _ _, e, o1, fun l hl => by rw [o2 l hl]; simp⟩
theorem k_laws_toByteS : ToS T0 ty_Byte F_laws_toByteS := fun M v xs h hb => by
  obtain ⟨M', u, L, p, e, o, f⟩ := d_laws_toByteS M v xs h hb.1
  exact ⟨M', u, L, p, e, o, nodup_flat ownf_Byte o, f⟩
set_option maxHeartbeats 4000000 in
theorem k_laws_toBlock : ToF T0 ty_Block F_laws_toBlock := by
  intro M cs x h hb
  obtain ⟨u0, rfl, w0, w1, r0⟩ := rep_g_Block h
  have i0 := one_head r0.one
  show ToG ty_Block M x _
  rw [aCall_eq T_laws_toBlock]; unfold A_laws_toBlock C_laws_toBlock; simp [thenD_pp, sliceCells_sl, sliceCells_z, sliceCells_nil, take_full, appS_sl, appK_ok, appS_none, thenD_ag, agP_nil, agP_cons, i0]
  generalize hx1 : aCall T0 F_laws_toByteS _ _ = x_1
  obtain ⟨M1, v0, K1, rfl, p1, o1, F1⟩ := ToS.at k_laws_toByteS hx1 (r0.mono (List.prefix_append _ _)) hb.2.2
  have f1 := F1.2
  clear hx1
  have b0_1 : M1[M.length]? = some ⟨[.int .i64 x.1, .int .i64 x.2.1, u0], 1, 2⟩ := get_pre p1 (by simp)
  have b1_1 : M1[M.length + 1]? = some ⟨[(.int .i64 0), (.int .i64 0), (.slice none 0 0)], 1, 2⟩ := get_pre p1 (by simp)
  have b2_1 : M1[M.length + 2]? = some ⟨[.int .i64 x.1, .int .i64 x.2.1, (.slice none 0 0)], 1, 2⟩ := get_pre p1 (by simp)
  have l_1 := get_lt b2_1
  have y1 : M <+: M1 := (List.prefix_append _ _).trans p1
  simp only [List.length_append, List.length_cons, List.length_nil] at f1
  have z1 : M <+: M1.set (M.length + 2) ⟨[.int .i64 x.1, .int .i64 x.2.1, v0], 1, 2⟩ := pf_set (by omega) y1
  have q1 := one_head (o1.rep.one)
  have qc1 := cells_sl o1
  have hb1 : (M1.set (M.length + 2) ⟨[.int .i64 x.1, .int .i64 x.2.1, v0], 1, 2⟩)[M.length + 1]? = some ⟨[(.int .i64 0), (.int .i64 0), (.slice none 0 0)], 1, 2⟩ := by simp [b1_1]
  have g1 := ((o1.set (b2 := ⟨[.int .i64 x.1, .int .i64 x.2.1, v0], 1, 2⟩) b2_1 rfl (fun hm => by have := f1 _ hm; omega)).set (b2 := ⟨[.int .i64 x.1, .int .i64 x.2.1, v0], 1, 2⟩) hb1 rfl (fun hm => by have := f1 _ hm; omega))
  have hh := mkown_g_Block (x := x) w0 w1 g1
  try simp only [List.append_assoc] at hh
  obtain ⟨_, _, rfl⟩ := o1.rep.slen
  have gs2 : ∀ B C : Blk, ((M1.set (M.length + 2) B).set (M.length + 1) C)[M.length + 1]? = some C := fun B C => List.getElem?_set_self (by rw [List.length_set]; omega)
  simp [thenD_pp, sliceCells_sl, sliceCells_z, sliceCells_nil, take_full, appS_sl, appK_ok, appS_none, thenD_ag, agP_nil, agP_cons, b0_1, b1_1, b2_1, gs_of b2_1, gs2, rd1_K, rdJ_ok, rdn_K, rnJ_ok, wrn_K, wrJ_ok]
  refine ⟨_, _, K1, ?_, rfl, ?_, ?_⟩
  · exact pf_set (by omega) (pf_set (by omega) y1)
  · first | exact hh | (simp only [List.append_assoc]; exact hh)
  · refine ⟨F1.1, fun l hl => ?_⟩
    have := F1.2 l hl
    simp only [List.length_append, List.length_cons, List.length_nil, List.length_set] at this ⊢
    omega
theorem k_laws_toBlockS : ToS T0 ty_Block F_laws_toBlockS := to_sl (w := 3) (bytes := 40) (zero := [.int .i64 0, .int .i64 0, .slice none 0 0]) T_laws_toBlockS rfl rfl rfl (by decide) k_laws_toBlock
theorem r_laws_eqByteS (M : Mem) (a b : Option Addr) (c d : Nat) (xs ys : List ty_Byte.D) (h : Rep (.sl ty_Byte) M [.slice a xs.length c] xs) (h2 : Rep (.sl ty_Byte) M [.slice b ys.length d] ys) (hn : xs.length ≤ 9223372036854775807) (i : Nat) (hi : i < xs.length) (hj : i < ys.length) (he : xs[i] = ys[i]) :
    lp (aCall T0) K_laws_eqByteS_0 L_laws_eqByteS_0 [.slice a xs.length c, .slice b ys.length d, und, und, und, .int .i64 i, und, und, und, und, und, und, und, und, und, und, und, und, und, und, und, und, und, und, und, und] M = lp (aCall T0) K_laws_eqByteS_0 L_laws_eqByteS_0 [.slice a xs.length c, .slice b ys.length d, und, und, und, .int .i64 (i + 1 : Nat), und, und, und, und, und, und, und, und, und, und, und, und, und, und, und, und, und, und, und, und] M := by
  obtain ⟨l, o, rfl, _, hrd⟩ := at_Byte h hi
  obtain ⟨l2, o2, rfl, _, hrd2⟩ := at_Byte h2 hj
  have e6 : IntKind.i64.wrap ((i : Int) + 1) = i + 1 := wrap_i64 (by omega) (by omega)
  rw [S_laws_eqByteS_0]; unfold B_laws_eqByteS_0; simp [hrd, hrd2, e6, hi, hj, he, byteV]
theorem eq_byteV (x y : UInt8) : ((x.toNat : Int) = (y.toNat : Int)) = (x = y) := by
  apply propext
  constructor
  · intro h; exact UInt8.toNat_inj.1 (by omega)
  · rintro rfl; rfl
theorem x_laws_eqByteS (M : Mem) (a b : Option Addr) (c d : Nat) (xs ys : List ty_Byte.D) (h : Rep (.sl ty_Byte) M [.slice a xs.length c] xs) (h2 : Rep (.sl ty_Byte) M [.slice b ys.length d] ys) (hn : xs.length ≤ 9223372036854775807) (i : Nat) (hi : i < xs.length) (hj : i < ys.length) (he : xs[i] ≠ ys[i]) (k : ACode) :
    thenF M [.tmp 4] (thenS (blockR 0 (lp (aCall T0) K_laws_eqByteS_0 L_laws_eqByteS_0 [.slice a xs.length c, .slice b ys.length d, und, und, und, .int .i64 i, und, und, und, und, und, und, und, und, und, und, und, und, und, und, und, und, und, und, und, und] M)) (aCall T0) k) = some (.bool false, M) := by
  obtain ⟨l, o, rfl, _, hrd⟩ := at_Byte h hi
  obtain ⟨l2, o2, rfl, _, hrd2⟩ := at_Byte h2 hj
  have hne : ¬ (((xs[i] : UInt8).toNat : Int) = ((ys[i] : UInt8).toNat : Int)) := by rw [eq_byteV]; exact he
  rw [S_laws_eqByteS_0]; unfold B_laws_eqByteS_0; simp [hrd, hrd2, hi, hj, hne, byteV]
theorem c_laws_eqByteS (M : Mem) (v u : V) (xs ys : List ty_Byte.D) (h : Rep (.sl ty_Byte) M [v] xs) (h2 : Rep (.sl ty_Byte) M [u] ys) (hn : xs.length ≤ 9223372036854775807) : aCall T0 F_laws_eqByteS [v, u] M = some (.bool (decide (xs = ys)), M) := by
  obtain ⟨a, c, rfl⟩ := h.slen
  obtain ⟨b, d, rfl⟩ := h2.slen
  by_cases hl : xs.length = ys.length
  · rcases list_eq_iff hl with he | ⟨j, hj, h3, h4⟩
    · subst he
      have hc := chain (g := fun i : Nat => lp (aCall T0) K_laws_eqByteS_0 L_laws_eqByteS_0 [.slice a xs.length c, .slice b xs.length d, und, und, und, .int .i64 i, und, und, und, und, und, und, und, und, und, und, und, und, und, und, und, und, und, und, und, und] M) (n := xs.length) fun i hi => r_laws_eqByteS M a b c d xs xs h h2 hn i hi hi rfl
      simp only [Int.natCast_zero, Int.ofNat_zero] at hc
      rw [aCall_eq T_laws_eqByteS]; unfold A_laws_eqByteS C_laws_eqByteS; simp [hc]
      rw [S_laws_eqByteS_0]; unfold B_laws_eqByteS_0; simp
    · have hc := chain (g := fun i : Nat => lp (aCall T0) K_laws_eqByteS_0 L_laws_eqByteS_0 [.slice a xs.length c, .slice b ys.length d, und, und, und, .int .i64 i, und, und, und, und, und, und, und, und, und, und, und, und, und, und, und, und, und, und, und, und] M) (n := j) fun i hi => r_laws_eqByteS M a b c d xs ys h h2 hn i (by omega) (by omega) (h3 i (by omega) hi)
      simp only [Int.natCast_zero, Int.ofNat_zero] at hc
      have hx := x_laws_eqByteS M a b c d xs ys h h2 hn j hj (by omega) h4
      have hne : xs ≠ ys := fun e => h4 (by simp [e])
      simp only [← hl] at hc hx
      simp only [← hl]
      rw [aCall_eq T_laws_eqByteS]; unfold A_laws_eqByteS C_laws_eqByteS; simp [hc, hx, hne]
  · have hne : xs ≠ ys := fun e => hl (by rw [e])
    have hl2 : ¬ ((xs.length : Int) = ys.length) := by omega
    rw [aCall_eq T_laws_eqByteS]; unfold A_laws_eqByteS C_laws_eqByteS; simp [hl2, hl, hne]
theorem k_laws_eqByteS : EqS T0 ty_Byte F_laws_eqByteS := fun M v u xs ys h h2 hb => c_laws_eqByteS M v u xs ys h h2 (Nat.le_trans hb.1 (by decide))
set_option maxHeartbeats 4000000 in
theorem k_laws_eqBlock : EqF T0 ty_Block F_laws_eqBlock := by
  intro M cs ds x y h h2 hb
  obtain ⟨a0, a1, a2⟩ := x
  obtain ⟨b0, b1, b2⟩ := y
  obtain ⟨u0, rfl, w0, w1, r0⟩ := rep_g_Block h
  obtain ⟨v0, rfl, _w0, _w1, s0⟩ := rep_g_Block h2
  try dsimp only at *
  have e2 := k_laws_eqByteS (M ++ [⟨[.int .i64 a0, .int .i64 a1, u0], 1, 2⟩, ⟨[.int .i64 b0, .int .i64 b1, v0], 1, 2⟩]) _ _ a2 b2 (r0.mono (List.prefix_append _ _)) (s0.mono (List.prefix_append _ _)) hb.2.2
  have i0 := one_head r0.one
  have j0 := one_head s0.one
  by_cases q0 : a0 = b0
  rotate_left
  · have hne : ¬ ((a0, a1, a2) : ty_Block.D) = (b0, b1, b2) := fun e => q0 (by simp only [Prod.mk.injEq] at e; simp only [e])
    refine ans_f hne ?_
    rw [aCall_eq T_laws_eqBlock]; unfold A_laws_eqBlock C_laws_eqBlock; simp [thenD_pp, sliceCells_sl, sliceCells_z, sliceCells_nil, take_full, appS_sl, appK_ok, appS_none, thenD_ag, agP_nil, agP_cons, i0, j0, q0]
  subst q0
  by_cases q1 : a1 = b1
  rotate_left
  · have hne : ¬ ((a0, a1, a2) : ty_Block.D) = (a0, b1, b2) := fun e => q1 (by simp only [Prod.mk.injEq] at e; simp only [e])
    refine ans_f hne ?_
    rw [aCall_eq T_laws_eqBlock]; unfold A_laws_eqBlock C_laws_eqBlock; simp [thenD_pp, sliceCells_sl, sliceCells_z, sliceCells_nil, take_full, appS_sl, appK_ok, appS_none, thenD_ag, agP_nil, agP_cons, i0, j0, q1]
  subst q1
  by_cases q2 : a2 = b2
  rotate_left
  · have hne : ¬ ((a0, a1, a2) : ty_Block.D) = (a0, a1, b2) := fun e => q2 (by simp only [Prod.mk.injEq] at e; simp only [e])
    refine ans_f hne ?_
    have e2 := (ans_of e2).2 q2
    rw [aCall_eq T_laws_eqBlock]; unfold A_laws_eqBlock C_laws_eqBlock; simp [thenD_pp, sliceCells_sl, sliceCells_z, sliceCells_nil, take_full, appS_sl, appK_ok, appS_none, thenD_ag, agP_nil, agP_cons, i0, j0, e2]
  have e2 := (ans_of e2).1 q2
  have he : ((a0, a1, a2) : ty_Block.D) = (a0, a1, b2) := by simp only [q2]
  refine ans_t he ?_
  rw [aCall_eq T_laws_eqBlock]; unfold A_laws_eqBlock C_laws_eqBlock; simp [thenD_pp, sliceCells_sl, sliceCells_z, sliceCells_nil, take_full, appS_sl, appK_ok, appS_none, thenD_ag, agP_nil, agP_cons, i0, j0, e2]
theorem k_laws_eqBlockS : EqS T0 ty_Block F_laws_eqBlockS := eq_sl (w := 3) T_laws_eqBlockS rfl k_laws_eqBlock
theorem k_laws_szByteS : SzS T0 ty_Byte F_laws_szByteS := fun M v xs left h hb h0 h1 => by
  obtain ⟨a, c, rfl⟩ := h.slen
  have hx : xs.length ≤ 9223372036854775807 := hb.1
  have e : IntKind.i64.wrap (left - (xs.length : Int)) = left - xs.length := wrap_i64 (by omega) (by omega)
  by_cases hl : left - (xs.length : Int) < 0
  · refine ⟨-1, by omega, ?_, by omega⟩
    have hl2 : left < (xs.length : Int) := by omega
    rw [aCall_eq T_laws_szByteS]; unfold A_laws_szByteS C_laws_szByteS; simp [e, hl, hl2]
  · refine ⟨left - xs.length, by omega, ?_, fun _ => ⟨by omega, fun _ _ => trivial⟩⟩
    have hl2 : ¬ left < (xs.length : Int) := by omega
    rw [aCall_eq T_laws_szByteS]; unfold A_laws_szByteS C_laws_szByteS; simp [e, hl, hl2]
theorem k_laws_szBlock : SzF T0 ty_Block F_laws_szBlock := by
  intro M cs x left h hb h0 h1
  obtain ⟨u0, rfl, w0, w1, r0⟩ := rep_g_Block h
  have i0 := one_head r0.one
  obtain ⟨l0, a0, e0, g0⟩ := k_laws_szByteS (M ++ [⟨[.int .i64 x.1, .int .i64 x.2.1, u0], 1, 2⟩]) _ _ left (r0.mono (List.prefix_append _ _)) hb.2.2 (by omega) (by omega)
  by_cases h_0 : l0 < 0
  · refine ⟨-1, by omega, ?_, by omega⟩
    rw [aCall_eq T_laws_szBlock]; unfold A_laws_szBlock C_laws_szBlock; simp [thenD_pp, sliceCells_sl, sliceCells_z, sliceCells_nil, take_full, appS_sl, appK_ok, appS_none, thenD_ag, agP_nil, agP_cons, i0, e0, h_0]
  refine ⟨l0, by omega, ?_, fun _ => ⟨trivial, trivial, g0 (by omega)⟩⟩
  rw [aCall_eq T_laws_szBlock]; unfold A_laws_szBlock C_laws_szBlock; simp [thenD_pp, sliceCells_sl, sliceCells_z, sliceCells_nil, take_full, appS_sl, appK_ok, appS_none, thenD_ag, agP_nil, agP_cons, i0, e0, h_0]
theorem k_laws_szBlockS : SzS T0 ty_Block F_laws_szBlockS := sz_sl (w := 3) T_laws_szBlockS rfl k_laws_szBlock
abbrev gt_ByteS (xs : List ty_Byte.D) : Int := (xs.length : Int)
abbrev gt_Block (x : ty_Block.D) : Int := 2 + gt_ByteS x.2.2
def gtS {D : Type} (tot : D → Int) : List D → Int
  | [] => 0
  | x :: xs => tot x + gtS tot xs
abbrev gt_BlockS (xs : List ty_Block.D) : Int := gtS gt_Block xs
theorem gt_Block_b {x : ty_Block.D} (h : List.length (α := UInt8) x.2.2 ≤ 1048576) : 2 ≤ gt_Block x ∧ gt_Block x ≤ 1048578 := by
  show 2 ≤ 2 + (List.length (α := UInt8) x.2.2 : Int) ∧ 2 + (List.length (α := UInt8) x.2.2 : Int) ≤ 1048578
  omega
theorem gtS_bound {D : Type} {tot : D → Int} {B : Int} {xs : List D} (h : ∀ x ∈ xs, 0 ≤ tot x ∧ tot x ≤ B) : 0 ≤ gtS tot xs ∧ gtS tot xs ≤ xs.length * B := by
  induction xs with
  | nil => simp [gtS]
  | cons x xs ih =>
    have h1 := h x (by simp)
    have h2 := ih (fun y hy => h y (by simp [hy]))
    have e : ((x :: xs).length : Int) * B = B + xs.length * B := by
      rw [List.length_cons, Int.natCast_add, Int.add_mul]
      simp
      omega
    rw [e]
    unfold gtS
    omega
theorem tot_BlockS : TotO (.sl ty_Block) gt_BlockS 1099514000000 := fun xs hb => by
  have h := gtS_bound (tot := gt_Block) (B := 1048578) (xs := xs) (fun x hx => by
    have := gt_Block_b (hb.2 x hx).2.2.1
    omega)
  have h1 := hb.1
  show 0 ≤ gtS gt_Block xs ∧ gtS gt_Block xs ≤ 1099514000000
  omega
theorem own_g_Block {M : Mem} {cs : List V} {x : ty_Block.D} {L : List Nat} (h : Own ty_Block M cs x L) : ∃ (u0 : V) (L0 : List Nat), cs = [.int .i64 x.1, .int .i64 x.2.1, u0] ∧ (Lit.int .i64 x.1).wf = true ∧ (Lit.int .i64 x.2.1).wf = true ∧ Own (.sl ty_Byte) M [u0] x.2.2 L0 ∧ L = L0 := by
  obtain ⟨c0, d0, K0, J0, rfl, h0, h, rfl⟩ := h
  obtain ⟨⟨rfl, w0⟩, rfl⟩ := h0
  obtain ⟨c1, d1, K1, J1, rfl, h1, h, rfl⟩ := h
  obtain ⟨⟨rfl, w1⟩, rfl⟩ := h1
  obtain ⟨u0, rfl⟩ : ∃ u, d1 = [u] := by
    have l0 := Rep.len ((h).rep)
    exact List.length_eq_one_iff.1 l0
  have r0 := h
  exact ⟨u0, _, rfl, w0, w1, r0, by simp⟩
def mkY (k : Int) : UInt8 := UInt8.ofNat (k.toNat % 256)
def marksY (k : Int) (n : Nat) : List ty_Byte.D := (List.range n).map fun (j : Nat) => mkY (k + (j : Int))
abbrev gm_ByteS (k : Int) (xs : List ty_Byte.D) : List ty_Byte.D := marksY k xs.length
theorem marksY_len (k : Int) (n : Nat) : (marksY k n).length = n := by simp [marksY]
def mcs_Byte (k : Int) (i : Nat) : List V := ((marksY k i).map enc_Byte).flatten
theorem mkY_val (k : Int) (hk : 0 < k) : Value.int .u8 (IntKind.u8.wrap k) = byteV (mkY k) := by
  unfold mkY
  rw [byteV_len (by omega)]
  congr 1
  simp [IntKind.wrap, IntKind.min, IntKind.max, IntKind.signed, IntKind.bits]
  omega
theorem mkY_wrap (k : Int) (hk : 0 < k) : IntKind.u8.wrap k = ((mkY k).toNat : Int) := by
  have h := mkY_val k hk
  unfold byteV at h
  injection h
theorem mcs_Byte_len (k : Int) (i : Nat) : (mcs_Byte k i).length = i := by
  unfold mcs_Byte
  rw [flat_enc_len (w := 1) (fun x _ => rfl), marksY_len, Nat.mul_one]
theorem mcs_Byte_succ (k : Int) (i : Nat) : mcs_Byte k (i + 1) = mcs_Byte k i ++ [byteV (mkY (k + (i : Int)))] := by
  unfold mcs_Byte marksY
  rw [List.range_succ]
  simp
theorem r_laws_markByteS (M : Mem) (l o n c : Nat) (blk : Blk) (hb : M[l]? = some blk) (h2 : blk.st = 2) (k : Int) (hk : 0 < k) (hk2 : k + n ≤ 4611686018427387904) (ho : o + n ≤ blk.cells.length) (i : Nat) (hi : i < n) :
    lp (aCall T0) K_laws_markByteS_0 L_laws_markByteS_0 [.slice (some ⟨l, o, none⟩) n c, .int .i64 (k + (i : Int)), und, und, und, .int .i64 i, und, und, und, und, und, und, und, und, und, und, und, und, und, und] (M.set l (spB blk o (mcs_Byte k i))) =
    lp (aCall T0) K_laws_markByteS_0 L_laws_markByteS_0 [.slice (some ⟨l, o, none⟩) n c, .int .i64 (k + ((i + 1 : Nat) : Int)), und, und, und, .int .i64 (i + 1 : Nat), und, und, und, und, und, und, und, und, und, und, und, und, und, und] (M.set l (spB blk o (mcs_Byte k (i + 1)))) := by
  have el := mcs_Byte_len k i
  have e1 := wrn_sp M l o blk hb h2 (mcs_Byte k i) (byteV (mkY (k + (i : Int)))) rfl (by omega)
  rw [← mcs_Byte_succ, el] at e1
  have e6 : IntKind.i64.wrap ((i : Int) + 1) = i + 1 := wrap_i64 (by omega) (by omega)
  have e7 : IntKind.i64.wrap (k + (i : Int) + 1) = k + ((i : Int) + 1) := by rw [wrap_i64 (by omega) (by omega)]; omega
  have e8 := mkY_wrap (k + (i : Int)) (by omega)
  unfold byteV at e1
  rw [S_laws_markByteS_0]; unfold B_laws_markByteS_0; simp [e1, e6, e7, e8, hi]
theorem d_laws_markByteS (M : Mem) (v : V) (xs : List ty_Byte.D) (L : List Nat) (h : Own (.sl ty_Byte) M [v] xs L) (k : Int) (hk : 0 < k) (hk2 : k + xs.length ≤ 4611686018427387904) :
    ∃ M', aCall T0 F_laws_markByteS [v, .int .i64 k] M = some (.int .i64 (k + xs.length), M') ∧ UpdG M M' (· ∈ L) ∧ Own (.sl ty_Byte) M' [v] (marksY k xs.length) L := by
  rcases own_flat ownf_Byte h with ⟨rfl, rfl, hr⟩ | ⟨l, o, c, blk, hx, rfl, hb, h2, hw, ho, rfl⟩
  · refine ⟨M, ?_, pre_g (List.prefix_refl _) _, .inl ⟨rfl, rfl, hr⟩⟩
    obtain ⟨a, c, rfl⟩ := hr.slen
    rw [aCall_eq T_laws_markByteS]; unfold A_laws_markByteS C_laws_markByteS; simp
    rw [S_laws_markByteS_0]; unfold B_laws_markByteS_0; simp
  · have hw2 : ty_Byte.w = 1 := rfl
    rw [hw2, Nat.mul_one] at ho
    have hl := chain (g := fun i : Nat => lp (aCall T0) K_laws_markByteS_0 L_laws_markByteS_0 [.slice (some ⟨l, o, none⟩) xs.length c, .int .i64 (k + (i : Int)), und, und, und, .int .i64 i, und, und, und, und, und, und, und, und, und, und, und, und, und, und] (M.set l (spB blk o (mcs_Byte k i)))) (n := xs.length) fun i hi => r_laws_markByteS M l o xs.length c blk hb h2 k hk hk2 ho i hi
    have e0 : mcs_Byte k 0 = [] := rfl
    simp only [Int.natCast_zero, Int.ofNat_zero, e0, spB_nil, set_same hb, Int.add_zero] at hl
    have hlt := (List.getElem?_eq_some_iff.1 hb).1
    refine ⟨M.set l (spB blk o (mcs_Byte k xs.length)), ?_, Upd.g (upd_set hb rfl), ?_⟩
    · rw [aCall_eq T_laws_markByteS]; unfold A_laws_markByteS C_laws_markByteS; simp [hl]
      rw [S_laws_markByteS_0]; unfold B_laws_markByteS_0; simp
      exact gc_len (by simp)
    · refine own_sp (blk := blk) (enc := enc_Byte) ?_ (marksY_len _ _) (by simp [hlt, mcs_Byte]) h2 hw (by omega) (fun y _ => own_Byte _ y)
      intro e; have := congrArg List.length e; rw [marksY_len] at this; exact hx (List.length_eq_zero_iff.1 this)
theorem k_laws_markByteS : MarkS T0 ty_Byte F_laws_markByteS gm_ByteS gt_ByteS := fun M v xs L k h _ hb hk hk2 => d_laws_markByteS M v xs L h k hk hk2
theorem wf_mk {z : Int} (h1 : -9223372036854775808 ≤ z) (h2 : z ≤ 9223372036854775807) : (Lit.int .i64 z).wf = true := by
  show (decide (_ ≤ z) && decide (z ≤ _)) = true
  simp only [Bool.and_eq_true, decide_eq_true_eq]
  exact ⟨h1, h2⟩
theorem spl_at (cells vs : List V) (o x : Nat) (h : o + vs.length ≤ cells.length) : (splice cells o vs)[x]? = if x < o then cells[x]? else if x < o + vs.length then vs[x - o]? else cells[x]? := by
  unfold splice
  rw [List.append_assoc, List.getElem?_append, List.length_take, Nat.min_eq_left (by omega)]
  by_cases h1 : x < o
  · rw [if_pos h1, if_pos h1, List.getElem?_take, if_pos h1]
  · rw [if_neg h1, if_neg h1, List.getElem?_append]
    by_cases h2 : x < o + vs.length
    · rw [if_pos (by omega), if_pos h2]
    · rw [if_neg (by omega), if_neg h2, List.getElem?_drop]
      congr 1
      omega
abbrev gm_Block (k : Int) (x : ty_Block.D) : ty_Block.D := (k, k + 1, gm_ByteS (k + 2) x.2.2)
def gmS {D : Type} (mk : Int → D → D) (tot : D → Int) : Int → List D → List D
  | _, [] => []
  | k, x :: xs => mk k x :: gmS mk tot (k + tot x) xs
abbrev gm_BlockS (k : Int) (xs : List ty_Block.D) : List ty_Block.D := gmS gm_Block gt_Block k xs
theorem splice_more (cs ys : List V) (p : Nat) (v : V) (h : cs[p + ys.length]? = some v) : splice cs p ys = splice cs p (ys ++ [v]) := by
  obtain ⟨hl, hv⟩ := List.getElem?_eq_some_iff.1 h
  unfold splice
  rw [List.drop_eq_getElem_cons hl, hv]
  simp [List.append_assoc, Nat.add_assoc]
theorem splice_drop (cs ys : List V) (o p : Nat) (ho : o ≤ cs.length) : (splice cs (o + p) ys).drop o = splice (cs.drop o) p ys := by
  unfold splice
  have h1 : (cs.take (o + p)).drop o = (cs.drop o).take p := by rw [List.drop_take]; congr 1; omega
  rw [List.append_assoc, List.append_assoc, List.drop_append, h1, List.drop_drop]
  have h2 : o - (cs.take (o + p)).length = 0 := by simp; omega
  rw [h2, List.drop_zero]
  congr 3
  omega
theorem splice_app (xs r ys : List V) (p : Nat) (hp : p + ys.length ≤ xs.length) : splice (xs ++ r) p ys = splice xs p ys ++ r := by
  unfold splice
  rw [List.take_append_of_le_length (by omega), List.drop_append_of_le_length hp]
  simp [List.append_assoc]
theorem flat_atr {w : Nat} : ∀ (css : List (List V)) (i : Nat) (hi : i < css.length) (r : List V), (∀ c ∈ css, c.length = w) → ((css.flatten ++ r).drop (i * w)).take w = css[i] := by
  intro css
  induction css with
  | nil => intro i hi; simp at hi
  | cons c cs ih =>
    intro i hi r hc
    cases i with
    | zero =>
      rw [Nat.zero_mul, List.drop_zero, List.flatten_cons, List.append_assoc, List.take_left' (hc c (by simp))]
      rfl
    | succ i =>
      rw [List.flatten_cons, Nat.add_mul, Nat.one_mul, Nat.add_comm, ← List.drop_drop, List.append_assoc, List.drop_left' (hc c (by simp))]
      exact ih i (by simpa using hi) r (fun d hd => hc d (by simp [hd]))
theorem Own.elem {t : Ty} {X : Mem} {v : V} {xs : List t.D} {L : List Nat} (h : Own (.sl t) X [v] xs L) (nd : L.Nodup) {i : Nat} (hi : i < xs.length) :
    ∃ (l o c : Nat) (blk : Blk) (cs : List V) (K : List Nat), v = .slice (some ⟨l, o, none⟩) xs.length c ∧ X[l]? = some blk ∧ blk.st = 2 ∧ blk.w = t.w ∧ o + i * t.w + t.w ≤ blk.cells.length ∧ (blk.cells.drop (o + i * t.w)).take t.w = cs ∧ cs.length = t.w ∧ Own t X cs xs[i] K ∧ K.Nodup ∧ l ∉ K ∧ (∀ j ∈ K, j ∈ L) ∧ l ∈ L ∧
    ∀ (X' : Mem) (cs' : List V) (y : t.D), UpdG X X' (fun j => j = l ∨ j ∈ K) → X'[l]? = some (spB blk (o + i * t.w) cs') → cs'.length = t.w → Own t X' cs' y K → Own (.sl t) X' [v] (xs.set i y) L := by
  rcases h with ⟨rfl, _, _⟩ | ⟨l, o, c, blk, css, Ls, hne, e, hb, h2, hw, hc, hLs, hel, hp, rfl⟩
  · simp at hi
  cases e
  have hone : ∀ cs ∈ css, cs.length = t.w := by
    intro cs hcs
    obtain ⟨i, hi, rfl⟩ := List.getElem_of_mem hcs
    exact (hel i css[i] (xs[i]'(by omega)) (Ls[i]'(by omega)) (by simp) (by simp) (by simp)).rep.len
  have hfl := flat_len hone
  obtain ⟨r, hr⟩ := hp
  have hle : i * t.w + t.w ≤ css.length * t.w := by
    rw [← Nat.succ_mul]
    exact Nat.mul_le_mul_right _ (by omega)
  have hlen : css.flatten.length + r.length = blk.cells.length - o := by rw [← List.length_append, hr, List.length_drop]
  have hw0 := t.w_pos
  have hcs := flat_atr css i (by omega) r hone
  obtain ⟨hln, hnf⟩ := List.nodup_cons.1 nd
  have hmem : ∀ (k : Nat) (hk : k < Ls.length), ∀ j ∈ Ls[k], j ∈ Ls.flatten := fun k hk j hj => List.mem_flatten.2 ⟨_, List.getElem_mem hk, hj⟩
  have hndK : ∀ (Ls : List (List Nat)), Ls.flatten.Nodup → (∀ K ∈ Ls, K.Nodup) ∧ ∀ (a b : Nat) (K J : List Nat), Ls[a]? = some K → Ls[b]? = some J → a ≠ b → ∀ j ∈ K, j ∉ J := by
    intro Ls
    induction Ls with
    | nil => intro _; exact ⟨by simp, fun a b K J h => by simp at h⟩
    | cons A As ih =>
      intro hn
      rw [List.flatten_cons] at hn
      obtain ⟨n1, n2, n3⟩ := List.nodup_append.1 hn
      obtain ⟨i1, i2⟩ := ih n2
      refine ⟨fun K hK => ?_, fun a b K J ha hb hab j hj hj2 => ?_⟩
      · rcases List.mem_cons.1 hK with rfl | hK
        · exact n1
        · exact i1 K hK
      · cases a with
        | zero =>
          cases b with
          | zero => exact hab rfl
          | succ b =>
            simp at ha hb
            subst ha
            exact n3 j hj j (List.mem_flatten.2 ⟨J, List.mem_of_getElem? hb, hj2⟩) rfl
        | succ a =>
          cases b with
          | zero =>
            simp at ha hb
            subst hb
            exact n3 j hj2 j (List.mem_flatten.2 ⟨K, List.mem_of_getElem? ha, hj⟩) rfl
          | succ b =>
            simp at ha hb
            exact i2 a b K J ha hb (by omega) j hj hj2
  obtain ⟨hk1, hk2⟩ := hndK Ls hnf
  refine ⟨l, o, c, blk, css[i]'(by omega), Ls[i]'(by omega), rfl, hb, h2, hw, by omega, ?_, hone _ (List.getElem_mem _), hel i _ xs[i] _ (by simp) (by simp) (by simp), hk1 _ (List.getElem_mem _), fun hm => hln (hmem _ _ _ hm), fun j hj => List.mem_cons_of_mem _ (hmem _ _ _ hj), by simp, ?_⟩
  · rw [← List.drop_drop, ← hr]
    exact hcs
  · intro X' cs' y hu hb' hl' hy
    refine .inr ⟨l, o, c, spB blk (o + i * t.w) cs', css.set i cs', Ls, ?_, by simp, hb', h2, hw, by simp [hc], by simp [hLs], fun k ds x K hds hx hK => ?_, ?_, rfl⟩
    · intro e
      have := congrArg List.length e
      simp at this
      exact hne this
    · by_cases hk : i = k
      · subst hk
        rw [List.getElem?_set_self (by omega)] at hds hx
        rw [List.getElem?_eq_getElem (by omega)] at hK
        cases hds; cases hx; cases hK
        exact hy
      · rw [List.getElem?_set_ne hk] at hds hx
        refine (hel k ds x K hds hx hK).updg hu (fun j hj hm => ?_)
        rcases hm with rfl | hm
        · exact hln (List.mem_flatten.2 ⟨K, List.mem_of_getElem? hK, hj⟩)
        · exact hk2 i k (Ls[i]'(by omega)) K (by simp) hK hk j hm hj
    · unfold spB
      simp only
      rw [splice_drop _ _ _ _ (by omega), ← hr, splice_app _ _ _ _ (by omega), splice_el css i t.w cs' (by omega) hone hl']
      exact List.prefix_append _ _
theorem gmS_len {D : Type} (mk : Int → D → D) (tot : D → Int) : ∀ (xs : List D) (k : Int), (gmS mk tot k xs).length = xs.length
  | [], _ => rfl
  | x :: xs, k => by simp [gmS, gmS_len mk tot xs]
theorem gtS_app {D : Type} (tot : D → Int) : ∀ (xs ys : List D), gtS tot (xs ++ ys) = gtS tot xs + gtS tot ys
  | [], ys => by simp [gtS]
  | x :: xs, ys => by simp [gtS, gtS_app tot xs ys]; omega
theorem gtS_step {D : Type} (tot : D → Int) {xs : List D} {i : Nat} (hi : i < xs.length) : gtS tot (xs.take (i + 1)) = gtS tot (xs.take i) + tot xs[i] := by
  rw [List.take_succ_eq_append_getElem hi, gtS_app]
  simp [gtS]
theorem gmS_app {D : Type} (mk : Int → D → D) (tot : D → Int) : ∀ (xs ys : List D) (k : Int), gmS mk tot k (xs ++ ys) = gmS mk tot k xs ++ gmS mk tot (k + gtS tot xs) ys
  | [], ys, k => by simp [gmS, gtS]
  | x :: xs, ys, k => by
    have : k + tot x + gtS tot xs = k + (tot x + gtS tot xs) := by omega
    simp [gmS, gtS, gmS_app mk tot xs ys, this]
theorem gmS_step {D : Type} (mk : Int → D → D) (tot : D → Int) {xs : List D} {i : Nat} (hi : i < xs.length) (k : Int) : (gmS mk tot k (xs.take i) ++ xs.drop i).set i (mk (k + gtS tot (xs.take i)) xs[i]) = gmS mk tot k (xs.take (i + 1)) ++ xs.drop (i + 1) := by
  have hl : (gmS mk tot k (xs.take i)).length = i := by rw [gmS_len, List.length_take]; omega
  rw [List.set_append_right _ _ (by omega), hl, Nat.sub_self, List.take_succ_eq_append_getElem hi, gmS_app, List.append_assoc, List.drop_eq_getElem_cons hi]
  rfl
theorem gtS_take {D : Type} {tot : D → Int} {xs : List D} (h : ∀ x ∈ xs, 0 ≤ tot x) {i : Nat} (hi : i < xs.length) : 0 ≤ gtS tot (xs.take i) ∧ gtS tot (xs.take i) + tot xs[i] ≤ gtS tot xs := by
  have h0 : ∀ ys : List D, (∀ y ∈ ys, 0 ≤ tot y) → 0 ≤ gtS tot ys := by
    intro ys
    induction ys with
    | nil => intro _; simp [gtS]
    | cons y ys ih =>
      intro hy
      have := hy y (by simp)
      have := ih (fun z hz => hy z (by simp [hz]))
      unfold gtS
      omega
  have e : xs = xs.take i ++ (xs[i] :: xs.drop (i + 1)) := by
    rw [← List.drop_eq_getElem_cons hi, List.take_append_drop]
  have e2 : gtS tot xs = gtS tot (xs.take i) + (tot xs[i] + gtS tot (xs.drop (i + 1))) := by
    conv => lhs; rw [e]
    rw [gtS_app]
    rfl
  have h1 := h0 (xs.take i) (fun y hy => h y (List.mem_of_mem_take hy))
  have h2 := h0 (xs.drop (i + 1)) (fun y hy => h y (List.mem_of_mem_drop hy))
  omega
theorem take_getE {cs ys : List V} {p w : Nat} (h : (cs.drop p).take w = ys) {j : Nat} (hj : j < w) : cs[p + j]? = ys[j]? := by
  subst h
  rw [List.getElem?_take, if_pos hj, List.getElem?_drop]
theorem k_laws_markBlockS : MarkS T0 ty_Block F_laws_markBlockS gm_BlockS gt_BlockS := fun M v xs L k h nd hb hk hk2 => by
  have hpos : ∀ x ∈ xs, 0 ≤ gt_Block x := fun x hx => by have := gt_Block_b (hb.2 x hx).2.2.1; omega
  have hk3 : k + gtS gt_Block xs ≤ 4611686018427387904 := hk2
  have hn := hb.1
  have hn2 : (xs.length : Int) ≤ 1048576 := by omega
  obtain ⟨a, c, rfl⟩ := h.rep.slen
  have key := loop_to (call := aCall T0) (K := K_laws_markBlockS_0) (L := L_laws_markBlockS_0) (fun i (_ : Unit) X => UpdG M X (· ∈ L) ∧ Own (.sl ty_Block) X [.slice a xs.length c] (gmS gm_Block gt_Block k (xs.take i) ++ xs.drop i) L) (fun i _ => [.slice a xs.length c, .int .i64 (k + gtS gt_Block (xs.take i)), und, und, und, .int .i64 i, und, und, und, und, und, und, und, und, und, und, und, und, und, und, und, und, und, und, und, und, und, und, und, und, und, und, und, und]) (n := xs.length) ?_ 0 () M (by omega) ⟨pre_g (List.prefix_refl _) _, by simpa [gmS] using h⟩
  · obtain ⟨_, X', ⟨h1, h2⟩, e⟩ := key
    simp only [List.take_length, List.drop_length, List.append_nil] at h2 e
    have e0 : k + gtS gt_Block (xs.take 0) = k := by simp [gtS]
    simp only [e0, Int.natCast_zero, Int.ofNat_zero] at e
    obtain ⟨M2, g1, g2, g3⟩ := gc_num h1 h h2 (k + gtS gt_Block xs)
    refine ⟨M2, ?_, g2, g3⟩
    rw [aCall_eq T_laws_markBlockS]; unfold A_laws_markBlockS C_laws_markBlockS; simp [thenD_pp, sliceCells_sl, sliceCells_z, sliceCells_nil, take_full, appS_sl, appK_ok, appS_none, thenD_ag, agP_nil, agP_cons, e]
    rw [S_laws_markBlockS_0]; unfold B_laws_markBlockS_0; simp [thenD_pp, sliceCells_sl, sliceCells_z, sliceCells_nil, take_full, appS_sl, appK_ok, appS_none, thenD_ag, agP_nil, agP_cons]
    exact g1
  intro i _ X hi ⟨hu, ho⟩
  have hys : (gmS gm_Block gt_Block k (xs.take i)).length = i := by rw [gmS_len, List.length_take]; omega
  have hyl : (gmS gm_Block gt_Block k (xs.take i) ++ xs.drop i).length = xs.length := by simp [hys]; omega
  have hyi : (gmS gm_Block gt_Block k (xs.take i) ++ xs.drop i)[i]'(by omega) = xs[i] := by
    rw [List.getElem_append_right (by omega)]
    simp [hys]
  obtain ⟨l, o, c2, blk, cs, K, ev, hbl, hst, hw, hle, hcs, hcl, hoe, ndk, hlk, hKL, hlL, hre⟩ := Own.elem ho nd (i := i) (by omega)
  rw [hyi] at hoe
  rw [hyl] at ev
  cases ev
  have e6 : IntKind.i64.wrap ((i : Int) + 1) = i + 1 := wrap_i64 (by omega) (by omega)
  have ht := gtS_take (tot := gt_Block) hpos hi
  have hw1 : ty_Block.w = 3 := rfl
  have hbi := hb.2 _ (List.getElem_mem hi)
  have hbx := gt_Block_b hbi.2.2.1
  have hgt : gt_Block xs[i] = 2 + gt_ByteS xs[i].2.2 := rfl
  have es := gtS_step gt_Block hi
  have es2 : k + gtS gt_Block (xs.take (i + 1)) = k + gtS gt_Block (xs.take i) + 2 + gt_ByteS xs[i].2.2 := by rw [es, hgt]; omega
  obtain ⟨u, K0, rfl, w0, w1, hou, rfl⟩ := own_g_Block hoe
  obtain ⟨ua, uc, rfl⟩ := hou.rep.slen
  rw [hw1] at hle hcs
  have hgm := gmS_step gm_Block gt_Block hi k
  rw [es2]
  obtain ⟨p, hp⟩ : ∃ p, p = o + i * 3 := ⟨_, rfl⟩
  generalize hq : k + gtS gt_Block (xs.take i) = q at *
  have hc2 := take_getE hcs (j := 2) (by decide)
  simp only [List.getElem?_cons_succ, List.getElem?_cons_zero] at hc2
  rw [← hp] at hle hcs hc2
  have v1 : wrn X l p [.int .i64 q] = some (X.set l (spB blk p [.int .i64 q])) := wrn_eq hbl hst (by simp; omega) rfl
  have v2 : wrn (X.set l (spB blk p [.int .i64 q])) l (p + 1) [.int .i64 (q + 1)] = some (X.set l (spB blk p [.int .i64 q, .int .i64 (q + 1)])) := wrn_sp X l p blk hbl hst [.int .i64 q] (.int .i64 (q + 1)) rfl (by simp; omega)
  have hX2 : (X.set l (spB blk p [.int .i64 q, .int .i64 (q + 1)]))[l]? = some (spB blk p [.int .i64 q, .int .i64 (q + 1)]) := gs_of hbl _
  have hsp3 : spB blk p [.int .i64 q, .int .i64 (q + 1)] = spB blk p [.int .i64 q, .int .i64 (q + 1), .slice ua (List.length (α := UInt8) xs[i].2.2) uc] := by
    unfold spB
    rw [splice_more _ _ _ _ hc2]
    rfl
  have hrd : rd1 (X.set l (spB blk p [.int .i64 q, .int .i64 (q + 1)])) l (p + 2) = some (.slice ua (List.length (α := UInt8) xs[i].2.2) uc) := by
    rw [rd1_K, hX2]
    have hs2 : (splice blk.cells p [.int .i64 q, .int .i64 (q + 1)])[p + 2]? = some (.slice ua (List.length (α := UInt8) xs[i].2.2) uc) := by
      rw [spl_at _ _ _ _ (by simp; omega), if_neg (by omega), if_neg (by simp)]
      exact hc2
    exact (if_pos (Or.inr hst)).trans hs2
  have hu2 : UpdG X (X.set l (spB blk p [.int .i64 q, .int .i64 (q + 1)])) (· ∈ [l]) 
    := (upd_set (b2 := spB blk p [.int .i64 q, .int .i64 (q + 1)]) hbl rfl).g
  obtain ⟨X', e1, u1, o1⟩ := k_laws_markByteS (X.set l (spB blk p [.int .i64 q, .int .i64 (q + 1)])) (.slice ua (List.length (α := UInt8) xs[i].2.2) uc) xs[i].2.2 K (q + 2) (hou.updg hu2 (fun j hj hm => hlk (by simp at hm; subst hm; exact hj))) ndk hbi.2.2 (by omega) (by omega)
  have hX'l : X'[l]? = some (spB blk p [.int .i64 q, .int .i64 (q + 1)]) := u1.get hX2 hlk
  have hwq : (Lit.int .i64 q).wf = true ∧ (Lit.int .i64 (q + 1)).wf = true := ⟨wf_mk (by omega) (by omega), wf_mk (by omega) (by omega)⟩
  have huX : UpdG X X' (fun j => j = l ∨ j ∈ K) := (hu2.trans u1).weak (fun j hj => by
    rcases hj with hj | hj
    · left; simpa using hj
    · exact .inr hj)
  have hown := hre X' [.int .i64 q, .int .i64 (q + 1), .slice ua (List.length (α := UInt8) xs[i].2.2) uc] (gm_Block q xs[i]) huX (by rw [hX'l, hsp3, hp]; rfl) rfl (mkown_g_Block (x := gm_Block q xs[i]) hwq.1 hwq.2 o1)
  rw [hgm] at hown
  refine ⟨(), X', ⟨?_, hown⟩, ?_⟩
  · exact (hu.trans huX).weak (fun j hj => by
      rcases hj with hj | hj | hj
      · exact hj
      · subst hj; exact hlL
      · exact hKL j hj)
  · have f1 : IntKind.i64.wrap (q + 1) = q + 1 := wrap_i64 (by omega) (by omega)
    have f2 : IntKind.i64.wrap (q + 1 + 1) = q + 2 := by rw [wrap_i64 (by omega) (by omega)]; omega
    have f3 : q + gt_ByteS xs[i].2.2 + 2 = q + 2 + gt_ByteS xs[i].2.2 := by omega
    rw [hp] at v1 v2 hrd e1
    rw [S_laws_markBlockS_0]; unfold B_laws_markBlockS_0; simp [thenD_pp, sliceCells_sl, sliceCells_z, sliceCells_nil, take_full, appS_sl, appK_ok, appS_none, thenD_ag, agP_nil, agP_cons, hi, v1, v2, hrd, e1, e6, f1, f2]
theorem marksY_get (k : Int) (n i : Nat) (hi : i < (marksY k n).length) : (marksY k n)[i] = mkY (k + i) := by simp [marksY]
theorem d_laws_heldByteS (M : Mem) (v : V) (k : Int) (n : Nat) (h : Rep (.sl ty_Byte) M [v] (marksY k n)) (hk : 0 < k) (hk2 : k + n ≤ 4611686018427387904) : aCall T0 F_laws_heldByteS [v, .int .i64 k] M = some (.int .i64 (k + n), M) := by
  obtain ⟨a, c, rfl⟩ := h.slen
  have hlen := marksY_len k n
  have hc := chain (g := fun i : Nat => lp (aCall T0) K_laws_heldByteS_0 L_laws_heldByteS_0 [.slice a (marksY k n).length c, .int .i64 (k + (i : Int)), und, und, und, .int .i64 i, und, und, und, und, und, und, und, und, und, und, und, und, und, und, und, und] M) (n := n) fun i hi => by
    obtain ⟨l, o, rfl, _, hf0⟩ := at_Byte h (i := i) (by omega)
    rw [marksY_get] at hf0
    have e6 : IntKind.i64.wrap ((i : Int) + 1) = i + 1 := wrap_i64 (by omega) (by omega)
    have e7 : IntKind.i64.wrap (k + (i : Int) + 1) = k + ((i : Int) + 1) := by rw [wrap_i64 (by omega) (by omega)]; omega
    have e8 := mkY_wrap (k + (i : Int)) (by omega)
    unfold byteV at hf0
    rw [hlen]
    rw [S_laws_heldByteS_0]; unfold B_laws_heldByteS_0; simp [hf0, hi, e6, e7, e8]
  simp only [Int.natCast_zero, Int.ofNat_zero, Int.add_zero] at hc
  rw [hlen] at hc ⊢
  rw [aCall_eq T_laws_heldByteS]; unfold A_laws_heldByteS C_laws_heldByteS; simp [hc]
  rw [S_laws_heldByteS_0]; unfold B_laws_heldByteS_0; simp
theorem k_laws_heldByteS : HeldS T0 ty_Byte F_laws_heldByteS gm_ByteS gt_ByteS := fun M v xs k h hb hk hk2 => d_laws_heldByteS M v k xs.length h hk hk2
theorem at_Block {M : Mem} {a : Option Addr} {n c : Nat} {xs : List ty_Block.D} (h : Rep (.sl ty_Block) M [.slice a n c] xs) {i : Nat} (hi : i < xs.length) : ∃ l o u, a = some ⟨l, o, none⟩ ∧ rd1 M l (o + i * 3) = some (.int .i64 xs[i].1) ∧ rd1 M l (o + i * 3 + 1) = some (.int .i64 xs[i].2.1) ∧ rd1 M l (o + i * 3 + 2) = some u ∧ rdn M l (o + i * 3) 3 = some [.int .i64 xs[i].1, .int .i64 xs[i].2.1, u] ∧ (Lit.int .i64 xs[i].1).wf = true ∧ (Lit.int .i64 xs[i].2.1).wf = true ∧ Rep (.sl ty_Byte) M [u] xs[i].2.2 ∧ Rep ty_Block M [.int .i64 xs[i].1, .int .i64 xs[i].2.1, u] xs[i] := by
  obtain ⟨_, l, o, rfl, cs, hrd, hrep⟩ := rep_at h hi
  obtain ⟨u, rfl, w0, w1, hr⟩ := rep_g_Block hrep
  have hw : ty_Block.w = 3 := rfl
  rw [hw] at hrd
  exact ⟨l, o, u, rfl, rd1_of_rdn hrd (k := 0) rfl, rd1_of_rdn hrd (k := 1) rfl, rd1_of_rdn hrd (k := 2) rfl, hrd, w0, w1, hr, hrep⟩
theorem gmS_get {D : Type} (mk : Int → D → D) (tot : D → Int) {xs : List D} {i : Nat} (hi : i < xs.length) (k : Int) (h : i < (gmS mk tot k xs).length) : (gmS mk tot k xs)[i] = mk (k + gtS tot (xs.take i)) xs[i] := by
  have e : xs = xs.take i ++ (xs[i] :: xs.drop (i + 1)) := by
    rw [← List.drop_eq_getElem_cons hi, List.take_append_drop]
  have hl : (gmS mk tot k (xs.take i)).length = i := by rw [gmS_len, List.length_take]; omega
  have e2 : gmS mk tot k xs = gmS mk tot k (xs.take i) ++ gmS mk tot (k + gtS tot (xs.take i)) (xs[i] :: xs.drop (i + 1)) := by
    conv => lhs; rw [e]
    exact gmS_app mk tot _ _ _
  have e3 : (gmS mk tot k xs)[i]? = some (mk (k + gtS tot (xs.take i)) xs[i]) := by
    rw [e2, List.getElem?_append_right (by omega), hl, Nat.sub_self]
    rfl
  rw [List.getElem?_eq_getElem h] at e3
  exact Option.some.inj e3
theorem k_laws_heldBlockS : HeldS T0 ty_Block F_laws_heldBlockS gm_BlockS gt_BlockS := fun M v xs k h hb hk hk2 => by
  have hpos : ∀ x ∈ xs, 0 ≤ gt_Block x := fun x hx => by have := gt_Block_b (hb.2 x hx).2.2.1; omega
  have hk3 : k + gtS gt_Block xs ≤ 4611686018427387904 := hk2
  have hn := hb.1
  have hn2 : (xs.length : Int) ≤ 1048576 := by omega
  have hgl : (gm_BlockS k xs).length = xs.length := gmS_len _ _ _ _
  obtain ⟨a, c, rfl⟩ := h.slen
  rw [hgl]
  have hl := chain (g := fun i => lp (aCall T0) K_laws_heldBlockS_0 L_laws_heldBlockS_0 [.slice a xs.length c, .int .i64 (k + gtS gt_Block (xs.take i)), und, und, und, .int .i64 i, und, und, und, und, und, und, und, und, und, und, und, und, und, und, und, und, und, und, und, und, und, und, und, und, und, und, und, und, und, und, und, und, und, und] M) (n := xs.length) fun i hi => by
    have e6 : IntKind.i64.wrap ((i : Int) + 1) = i + 1 := wrap_i64 (by omega) (by omega)
    have ht := gtS_take (tot := gt_Block) hpos hi
    have hbi := hb.2 _ (List.getElem_mem hi)
    have hbx := gt_Block_b hbi.2.2.1
    have hgt : gt_Block xs[i] = 2 + gt_ByteS xs[i].2.2 := rfl
    have es := gtS_step gt_Block hi
    have es2 : k + gtS gt_Block (xs.take (i + 1)) = k + gtS gt_Block (xs.take i) + 2 + gt_ByteS xs[i].2.2 := by rw [es, hgt]; omega
    obtain ⟨l, o, u, rfl, q1, q2, q3, _, _, _, qu, _⟩ := at_Block h (i := i) (by omega)
    have hg : (gm_BlockS k xs)[i]'(by omega) = gm_Block (k + gtS gt_Block (xs.take i)) xs[i] := gmS_get gm_Block gt_Block hi k _
    rw [hg] at q1 q2 qu
    simp only [es2]
    generalize k + gtS gt_Block (xs.take i) = q at *
    have hgb : 0 ≤ gt_ByteS xs[i].2.2 := Int.natCast_nonneg _
    have e1 := k_laws_heldByteS M u xs[i].2.2 (q + 2) qu hbi.2.2 (by omega) (by omega)
    have f1 : IntKind.i64.wrap (q + 1) = q + 1 := wrap_i64 (by omega) (by omega)
    have f2 : IntKind.i64.wrap (q + 1 + 1) = q + 2 := by rw [wrap_i64 (by omega) (by omega)]; omega
    have hnn : ¬ (q + 2 + gt_ByteS xs[i].2.2 < 0) := by omega
    rw [S_laws_heldBlockS_0]; unfold B_laws_heldBlockS_0; simp [thenD_pp, sliceCells_sl, sliceCells_z, sliceCells_nil, take_full, appS_sl, appK_ok, appS_none, thenD_ag, agP_nil, agP_cons, hi, q1, q2, q3, e1, e6, f1, f2, hnn]
  have e0 : k + gtS gt_Block (xs.take 0) = k := by simp [gtS]
  simp only [e0, Int.natCast_zero, Int.ofNat_zero, List.take_length] at hl
  rw [aCall_eq T_laws_heldBlockS]; unfold A_laws_heldBlockS C_laws_heldBlockS; simp [thenD_pp, sliceCells_sl, sliceCells_z, sliceCells_nil, take_full, appS_sl, appK_ok, appS_none, thenD_ag, agP_nil, agP_cons, hl]
  rw [S_laws_heldBlockS_0]; unfold B_laws_heldBlockS_0; simp [thenD_pp, sliceCells_sl, sliceCells_z, sliceCells_nil, take_full, appS_sl, appK_ok, appS_none, thenD_ag, agP_nil, agP_cons]
abbrev ty_Put : Ty := .pr (.int .i64) (.int .i64)
instance d_Put : DecidableEq ty_Put.D := Ty.deq ty_Put
def withoutL (id : Int) (xs : List ty_Block.D) : List ty_Block.D := xs.filter fun b => decide (b.1 ≠ id)
def blen (x : Nat) : Nat := if x = 0 then 0 else Nat.log2 x + 1
def mtN (m leaf : Nat) (b : ty_Block.D) : Nat := m - blen (Int.toNat b.2.1 ^^^ leaf)
def hasId (id : Int) (xs : List ty_Block.D) : Bool := xs.any fun r => decide (r.1 = id)
def stepE (m leaf lv : Nat) (s : List ty_Put.D × List ty_Block.D × Nat) (b : ty_Block.D) : List ty_Put.D × List ty_Block.D × Nat :=
  if hasId b.1 s.2.1 = true ∧ s.2.2 < 4 ∧ lv ≤ mtN m leaf b then (s.1 ++ [((lv : Int), b.1)], withoutL b.1 s.2.1, s.2.2 + 1) else s
def levelE (m leaf : Nat) (xs : List ty_Block.D) (s : List ty_Put.D × List ty_Block.D) (lv : Nat) : List ty_Put.D × List ty_Block.D :=
  ((xs.foldl (stepE m leaf lv) (s.1, s.2, 0)).1, (xs.foldl (stepE m leaf lv) (s.1, s.2, 0)).2.1)
def levelsE (m leaf : Nat) (xs : List ty_Block.D) (k : Nat) : List ty_Put.D × List ty_Block.D := (List.range k).foldl (fun s j => levelE m leaf xs s (m - j)) ([], xs)
def lgB (l : Int) : Bool := decide (0 ≤ l) && decide (l ≤ 6)
def leafB (l x : Int) : Bool := lgB l && (decide (0 ≤ x) && decide (x < 2 ^ l.toNat))
def wdB (w : Int) : Bool := decide (1 ≤ w) && decide (w ≤ 200)
def bidB (i : Int) : Bool := decide (0 ≤ i) && decide (i ≤ 255)
def blockB (l w : Int) (b : ty_Block.D) : Bool := (lgB l && wdB w) && (bidB b.1 && (leafB l b.2.1 && decide ((List.length (α := UInt8) b.2.2 : Int) = w)))
def stepB (l w : Int) (xs : List ty_Block.D) (i : Nat) : Bool := match xs[i]? with
  | some b => blockB l w b && (i == 0 || match xs[i - 1]? with
    | some p => decide (p.1 < b.1)
    | none => true)
  | none => true
def blocksB (l w : Int) (xs : List ty_Block.D) : Bool := (lgB l && wdB w) && (List.range xs.length).all (stepB l w xs)
def stashB (l w : Int) (xs : List ty_Block.D) : Bool := decide (xs.length ≤ 128) && blocksB l w xs
/-- What both plans are asked. -/
def evB (l w lf : Int) (xs : List ty_Block.D) : Bool := stashB l w xs && leafB l lf
def restX (xs : List ty_Block.D) (l w lf : Int) : List ty_Block.D := if evB l w lf xs = true then (levelsE l.toNat lf.toNat xs (l.toNat + 1)).2 else []
def hs (h : Nat) (b : UInt8) : Nat := ((h ^^^ b.toNat) * 16777619) % 4294967296
theorem levelsE_succ (m leaf : Nat) (xs : List ty_Block.D) (k : Nat) : levelsE m leaf xs (k + 1) = levelE m leaf xs (levelsE m leaf xs k) (m - k) := by
  unfold levelsE
  rw [List.range_succ, List.foldl_append]
  rfl
/-- What is left, out of the plan. -/
def lessL (xs : List ty_Block.D) (plan : List ty_Put.D) : List ty_Block.D := plan.foldl (fun r p => withoutL p.2 r) xs
theorem lessL_snoc (xs : List ty_Block.D) (plan : List ty_Put.D) (p : ty_Put.D) : lessL xs (plan ++ [p]) = withoutL p.2 (lessL xs plan) := by
  unfold lessL
  rw [List.foldl_append]
  rfl
theorem foldE_less (m leaf lv : Nat) (ws : List ty_Block.D) : ∀ (xs : List ty_Block.D) (s : List ty_Put.D × List ty_Block.D × Nat), s.2.1 = lessL ws s.1 → (xs.foldl (stepE m leaf lv) s).2.1 = lessL ws (xs.foldl (stepE m leaf lv) s).1
  | [], s, h => h
  | b :: xs, s, h => by
    rw [List.foldl_cons]
    refine foldE_less m leaf lv ws xs _ ?_
    unfold stepE
    split
    · simp only
      rw [lessL_snoc, h]
    · exact h
theorem levels_less (m leaf : Nat) (xs : List ty_Block.D) : ∀ k, (levelsE m leaf xs k).2 = lessL xs (levelsE m leaf xs k).1
  | 0 => rfl
  | k + 1 => by
    rw [levelsE_succ]
    exact foldE_less m leaf (m - k) xs xs _ (levels_less m leaf xs k)
theorem restX_t {xs : List ty_Block.D} {l w lf : Int} (h : evB l w lf xs = true) : restX xs l w lf = (levelsE l.toNat lf.toNat xs (l.toNat + 1)).2 := if_pos h
theorem restX_f {xs : List ty_Block.D} {l w lf : Int} (h : evB l w lf xs = false) : restX xs l w lf = [] := if_neg (by rw [h]; simp)
theorem lessL_sub : ∀ (ps : List ty_Put.D) (xs : List ty_Block.D), List.Sublist (lessL xs ps) xs
  | [], xs => List.Sublist.refl _
  | p :: ps, xs => (lessL_sub ps (withoutL p.2 xs)).trans List.filter_sublist
theorem restX_bd (xs : List ty_Block.D) (l w lf : Int) (h : Bd 1048576 (.sl ty_Block) xs) : Bd 1048576 (.sl ty_Block) (restX xs l w lf) := by
  cases he : evB l w lf xs with
  | false => rw [restX_f he]; exact ⟨by simp, by simp⟩
  | true =>
    rw [restX_t he, levels_less]
    have hs := lessL_sub (levelsE l.toNat lf.toNat xs (l.toNat + 1)).1 xs
    exact ⟨Nat.le_trans hs.length_le h.1, fun x hx => h.2 x (hs.subset hx)⟩
theorem pow2_le {n m : Nat} (h : n ≤ m) : (2 : Int) ^ n ≤ 2 ^ m := by
  have := Nat.pow_le_pow_right (show 0 < 2 by omega) h
  exact_mod_cast this
theorem l_spec_l02Pow (M : Mem) : ∀ (n : Nat) (x : Int), 0 ≤ x → x * 2 ^ n ≤ 4611686018427387904 → n ≤ 1000 →
    ∃ e0 e1 e2 e4 e5 e6 e7 e8 e9 e10, lp (aCall T0) K_spec_l02Pow_0 L_spec_l02Pow_0 [.int .i64 n, und, und, .int .i64 x, und, und, und, und, und, und, und] M = some (.exit 0, [e0, e1, e2, .int .i64 (x * 2 ^ n), e4, e5, e6, e7, e8, e9, e10], M)
  | 0, x, _, _, _ => by
    rw [S_spec_l02Pow_0]; unfold B_spec_l02Pow_0; simp
  | n + 1, x, h0, h1, h2 => by
    have hp : (1 : Int) ≤ 2 ^ n := by
      have : (0 : Int) < 2 ^ n := Int.pow_pos (by omega)
      omega
    have e : x * 2 ^ (n + 1) = 2 * x * 2 ^ n := by rw [Int.pow_succ, ← Int.mul_assoc, Int.mul_right_comm, Int.mul_comm x 2]
    rw [e] at h1
    have hx : 2 * x ≤ 2 * x * 2 ^ n := by
      have := Int.mul_le_mul_of_nonneg_left hp (show (0 : Int) ≤ 2 * x by omega)
      simpa using this
    have ih := l_spec_l02Pow M n (2 * x) (by omega) h1 (by omega)
    rw [e]
    rw [S_spec_l02Pow_0]; unfold B_spec_l02Pow_0; simp
    rw [wrap_i64 (z := 2 * x) (by omega) (by omega), wrap_i64 (z := n) (by omega) (by omega)]
    exact ih
theorem c_spec_l02Pow (M : Mem) (n : Nat) (h : n ≤ 60) : aCall T0 F_spec_l02Pow [.int .i64 n] M = some (.int .i64 (2 ^ n), M) := by
  obtain ⟨e0, e1, e2, e4, e5, e6, e7, e8, e9, e10, ih⟩ := l_spec_l02Pow M n 1 (by omega) (by
    have : (2 : Int) ^ n ≤ 2 ^ 60 := pow2_le h
    omega) (by omega)
  rw [aCall_eq T_spec_l02Pow]; unfold A_spec_l02Pow C_spec_l02Pow; simp [ih]
theorem c_spec_l11Log (M : Mem) (x : Int) : aCall T0 F_spec_l11Log [.int .i64 x] M = some (.bool (decide (0 ≤ x) && decide (x ≤ 6)), M) := by
  rw [aCall_eq T_spec_l11Log]; unfold A_spec_l11Log C_spec_l11Log; simp
  repeat' ((first | rw [selO_some] | rw [condR_bool] | rw [selD_some]); split <;> rename_i hq <;> (have hq2 := hq) <;> (try simp at hq2) <;> (try simp [*]))
theorem log_nat {l : Int} (h : lgB l = true) : ∃ m : Nat, l = m ∧ m ≤ 6 := by
  unfold lgB at h
  simp at h
  exact ⟨l.toNat, by omega, by omega⟩
theorem c_spec_l11Leaf (M : Mem) (l x : Int) : aCall T0 F_spec_l11Leaf [.int .i64 l, .int .i64 x] M = some (.bool (leafB l x), M) := by
  unfold leafB
  cases h : lgB l with
  | false =>
    have e : (decide (0 ≤ l) && decide (l ≤ 6)) = false := h
    rw [aCall_eq T_spec_l11Leaf]; unfold A_spec_l11Leaf C_spec_l11Leaf; simp [c_spec_l11Log, e]
  | true =>
    have e : (decide (0 ≤ l) && decide (l ≤ 6)) = true := h
    obtain ⟨m, rfl, hm⟩ := log_nat h
    have e2 := fun M => (c_spec_l11Log M m).trans (by rw [e])
    have e3 := fun M => c_spec_l02Pow M m (by omega)
    by_cases h1 : 0 ≤ x
    · rw [aCall_eq T_spec_l11Leaf]; unfold A_spec_l11Leaf C_spec_l11Leaf; simp [e2, e3, h1]
    · rw [aCall_eq T_spec_l11Leaf]; unfold A_spec_l11Leaf C_spec_l11Leaf; simp [e2, e3, h1]
theorem rall_all {n : Nat} {p : Nat → Bool} (h : ∀ i, i < n → p i = true) : (List.range n).all p = true := List.all_eq_true.2 fun i hi => h i (List.mem_range.1 hi)
theorem rall_not {n : Nat} {p : Nat → Bool} (h : ∃ i, i < n ∧ p i = false) : (List.range n).all p = false := by
  obtain ⟨i, hi, hp⟩ := h
  rw [List.all_eq_false]
  exact ⟨i, List.mem_range.2 hi, by rw [hp]; decide⟩
theorem c_spec_l12Frame (M : Mem) (l w : Int) : aCall T0 F_spec_l12Frame [.int .i64 l, .int .i64 w] M = some (.bool (decide (0 ≤ l) && decide (l ≤ 6) && (decide (1 ≤ w) && decide (w ≤ 200))), M) := by
  rw [aCall_eq T_spec_l12Frame]; unfold A_spec_l12Frame C_spec_l12Frame; simp [c_spec_l11Log]
  rcases hp : (decide (0 ≤ l) && decide (l ≤ 6)) with _ | _
  · simp [hp]
  · simp [hp]
    by_cases h1 : 1 ≤ w <;> simp [h1]
theorem c_spec_BlockOk (M : Mem) (cs : List V) (b : ty_Block.D) (h : Rep ty_Block M cs b) (l w : Int) : aCall T0 F_spec_BlockOk [.agg cs.toArray, .int .i64 l, .int .i64 w] M = some (.bool (blockB l w b), M) := by
  obtain ⟨u, rfl, w0, w1, hr⟩ := rep_g_Block h
  obtain ⟨a, c, rfl⟩ := hr.slen
  unfold blockB
  have e1 := fun M => c_spec_l12Frame M l w
  have e2 := fun M => c_spec_l11Leaf M l b.2.1
  cases h1 : lgB l && wdB w with
  | false =>
    have h1 : (decide (0 ≤ l) && decide (l ≤ 6) && (decide (1 ≤ w) && decide (w ≤ 200))) = false := h1
    rw [aCall_eq T_spec_BlockOk]; unfold A_spec_BlockOk C_spec_BlockOk; simp [e1, h1]
  | true =>
    have h1 : (decide (0 ≤ l) && decide (l ≤ 6) && (decide (1 ≤ w) && decide (w ≤ 200))) = true := h1
    unfold bidB
    by_cases h2 : 0 ≤ b.1
    · by_cases h3 : b.1 ≤ 255
      · cases h4 : leafB l b.2.1
        · rw [aCall_eq T_spec_BlockOk]; unfold A_spec_BlockOk C_spec_BlockOk; simp [e1, h1, h2, h3, e2, h4]
        · rw [aCall_eq T_spec_BlockOk]; unfold A_spec_BlockOk C_spec_BlockOk; simp [e1, h1, h2, h3, e2, h4]
      · rw [aCall_eq T_spec_BlockOk]; unfold A_spec_BlockOk C_spec_BlockOk; simp [e1, h1, h2, h3, e2]
    · rw [aCall_eq T_spec_BlockOk]; unfold A_spec_BlockOk C_spec_BlockOk; simp [e1, h1, h2, e2]
theorem stepB_zero {l w : Int} {xs : List ty_Block.D} (h : 0 < xs.length) : stepB l w xs 0 = blockB l w xs[0] := by
  unfold stepB
  rw [List.getElem?_eq_getElem h]
  simp
theorem stepB_pos {l w : Int} {xs : List ty_Block.D} {i : Nat} (h : i < xs.length) (h0 : 0 < i) : stepB l w xs i = (blockB l w xs[i] && decide ((xs[i - 1]'(by omega)).1 < xs[i].1)) := by
  unfold stepB
  rw [List.getElem?_eq_getElem h, List.getElem?_eq_getElem (by omega)]
  have : (i == 0) = false := by simp; omega
  simp [this]
theorem l_spec_BlocksOk_0 (M : Mem) (a : Option Addr) (c : Nat) (xs : List ty_Block.D) (l w : Int) (h : Rep (.sl ty_Block) M [.slice a xs.length c] xs) (hn : xs.length ≤ 1048576) :
    ((∀ i, i < xs.length → stepB l w xs i = true) ∧ lp (aCall T0) K_spec_BlocksOk_0 L_spec_BlocksOk_0 [.slice a xs.length c, .int .i64 l, .int .i64 w, und, und, und, und, .int .i64 (0 : Nat), und, und, und, und, und, und, und, und, und, und, und, und, und, und, und, und, und, und, und, und, und, und, und, und, und, und, und, und, und, und, und, und, und, und, und, und] M = lp (aCall T0) K_spec_BlocksOk_0 L_spec_BlocksOk_0 [.slice a xs.length c, .int .i64 l, .int .i64 w, und, und, und, und, .int .i64 xs.length, und, und, und, und, und, und, und, und, und, und, und, und, und, und, und, und, und, und, und, und, und, und, und, und, und, und, und, und, und, und, und, und, und, und, und, und] M) ∨
    ((∃ i, i < xs.length ∧ stepB l w xs i = false) ∧ ∀ k, thenF M [.tmp 6] (thenS (blockR 0 (lp (aCall T0) K_spec_BlocksOk_0 L_spec_BlocksOk_0 [.slice a xs.length c, .int .i64 l, .int .i64 w, und, und, und, und, .int .i64 (0 : Nat), und, und, und, und, und, und, und, und, und, und, und, und, und, und, und, und, und, und, und, und, und, und, und, und, und, und, und, und, und, und, und, und, und, und, und, und] M)) (aCall T0) k) = some (.bool false, M)) := by
  have key := loop_ok (call := aCall T0) (K := K_spec_BlocksOk_0) (L := L_spec_BlocksOk_0) (fun _ Y => Y = M) (fun i => [.slice a xs.length c, .int .i64 l, .int .i64 w, und, und, und, und, .int .i64 i, und, und, und, und, und, und, und, und, und, und, und, und, und, und, und, und, und, und, und, und, und, und, und, und, und, und, und, und, und, und, und, und, und, und, und, und]) (stepB l w xs) (n := xs.length) (M0 := M) (rs := [.tmp 6]) (k0 := 0) (a := .bool false) M rfl ?_ ?_
  · rcases key with ⟨X', rfl, h1, h2⟩ | h
    · exact .inl ⟨h1, h2⟩
    · exact .inr h
  · intro i Y hi hq e
    subst e
    have e6 : IntKind.i64.wrap ((i : Int) + 1) = i + 1 := wrap_i64 (by omega) (by omega)
    have e8 : IntKind.i64.wrap 1 = 1 := wrap_i64 (by omega) (by omega)
    obtain ⟨b, o, u, rfl, q1, q2, q3, q4, _, _, qu, qr⟩ := at_Block h hi
    have hc := c_spec_BlockOk Y _ _ qr l w
    rcases Nat.eq_zero_or_pos i with h0 | h0
    · subst h0
      rw [stepB_zero hi] at hq
      refine ⟨Y, rfl, ?_⟩
      simp only [Int.natCast_zero, Int.ofNat_zero, Nat.zero_mul, Nat.add_zero] at *
      rw [S_spec_BlocksOk_0]; unfold B_spec_BlocksOk_0; simp [thenD_pp, sliceCells_sl, sliceCells_z, sliceCells_nil, take_full, appS_sl, appK_ok, appS_none, thenD_ag, agP_nil, agP_cons, hi, q4, hc, hq, e6, e8]
    · rw [stepB_pos hi h0, Bool.and_eq_true] at hq
      have hi' : (0 : Int) < (i : Int) := by omega
      have e7 : IntKind.i64.wrap ((i : Int) - 1) = ((i - 1 : Nat) : Int) := by rw [wrap_i64 (by omega) (by omega)]; omega
      obtain ⟨b', o', u', e, q1', _⟩ := at_Block h (i := i - 1) (by omega)
      cases e
      have hlt := of_decide_eq_true hq.2
      have hge : ¬ (xs[i].1 ≤ (xs[i - 1]'(by omega)).1) := Int.not_le.2 hlt
      have hi1 : i - 1 < xs.length := by omega
      refine ⟨Y, rfl, ?_⟩
      rw [S_spec_BlocksOk_0]; unfold B_spec_BlocksOk_0; simp [thenD_pp, sliceCells_sl, sliceCells_z, sliceCells_nil, take_full, appS_sl, appK_ok, appS_none, thenD_ag, agP_nil, agP_cons, hi, q4, hc, hq.1, e6, hi', h0, e7, q1', q1, hge, hi1]
  · intro i Y hi hq e k
    subst e
    have e6 : IntKind.i64.wrap ((i : Int) + 1) = i + 1 := wrap_i64 (by omega) (by omega)
    have e8 : IntKind.i64.wrap 1 = 1 := wrap_i64 (by omega) (by omega)
    obtain ⟨b, o, u, rfl, q1, q2, q3, q4, _, _, qu, qr⟩ := at_Block h hi
    have hc := c_spec_BlockOk Y _ _ qr l w
    rcases Nat.eq_zero_or_pos i with h0 | h0
    · subst h0
      rw [stepB_zero hi] at hq
      simp only [Int.natCast_zero, Int.ofNat_zero, Nat.zero_mul, Nat.add_zero] at *
      rw [S_spec_BlocksOk_0]; unfold B_spec_BlocksOk_0; simp [thenD_pp, sliceCells_sl, sliceCells_z, sliceCells_nil, take_full, appS_sl, appK_ok, appS_none, thenD_ag, agP_nil, agP_cons, hi, q4, hc, hq, e6, e8]
    · rw [stepB_pos hi h0] at hq
      have hi' : (0 : Int) < (i : Int) := by omega
      have e7 : IntKind.i64.wrap ((i : Int) - 1) = ((i - 1 : Nat) : Int) := by rw [wrap_i64 (by omega) (by omega)]; omega
      obtain ⟨b', o', u', e, q1', _⟩ := at_Block h (i := i - 1) (by omega)
      cases e
      have hi1 : i - 1 < xs.length := by omega
      cases hb : blockB l w xs[i] with
      | false =>
        rw [hb] at hc
        rw [S_spec_BlocksOk_0]; unfold B_spec_BlocksOk_0; simp [thenD_pp, sliceCells_sl, sliceCells_z, sliceCells_nil, take_full, appS_sl, appK_ok, appS_none, thenD_ag, agP_nil, agP_cons, hi, q4, hc, e6]
      | true =>
        rw [hb] at hc
        rw [hb, Bool.true_and] at hq
        have hlt := of_decide_eq_false hq
        have hge : xs[i].1 ≤ (xs[i - 1]'(by omega)).1 := Int.not_lt.1 hlt
        rw [S_spec_BlocksOk_0]; unfold B_spec_BlocksOk_0; simp [thenD_pp, sliceCells_sl, sliceCells_z, sliceCells_nil, take_full, appS_sl, appK_ok, appS_none, thenD_ag, agP_nil, agP_cons, hi, q4, hc, e6, hi', h0, e7, q1', q1, hge, hi1]
theorem c_spec_BlocksOk (M : Mem) (v : V) (xs : List ty_Block.D) (l w : Int) (h : Rep (.sl ty_Block) M [v] xs) (hn : xs.length ≤ 1048576) : aCall T0 F_spec_BlocksOk [v, .int .i64 l, .int .i64 w] M = some (.bool (blocksB l w xs), M) := by
  obtain ⟨a, c, rfl⟩ := h.slen
  have e1 := c_spec_l12Frame M l w
  unfold blocksB
  cases h1 : lgB l && wdB w with
  | false =>
    have h1 : (decide (0 ≤ l) && decide (l ≤ 6) && (decide (1 ≤ w) && decide (w ≤ 200))) = false := h1
    rw [aCall_eq T_spec_BlocksOk]; unfold A_spec_BlocksOk C_spec_BlocksOk; simp [thenD_pp, sliceCells_sl, sliceCells_z, sliceCells_nil, take_full, appS_sl, appK_ok, appS_none, thenD_ag, agP_nil, agP_cons, e1, h1]
  | true =>
    have h1 : (decide (0 ≤ l) && decide (l ≤ 6) && (decide (1 ≤ w) && decide (w ≤ 200))) = true := h1
    rcases l_spec_BlocksOk_0 M a c xs l w h hn with ⟨ha, e⟩ | ⟨hx, e⟩
    · simp only [Int.natCast_zero, Int.ofNat_zero] at e
      rw [rall_all ha]
      rw [aCall_eq T_spec_BlocksOk]; unfold A_spec_BlocksOk C_spec_BlocksOk; simp [thenD_pp, sliceCells_sl, sliceCells_z, sliceCells_nil, take_full, appS_sl, appK_ok, appS_none, thenD_ag, agP_nil, agP_cons, e1, h1, e]
      rw [S_spec_BlocksOk_0]; unfold B_spec_BlocksOk_0; simp [thenD_pp, sliceCells_sl, sliceCells_z, sliceCells_nil, take_full, appS_sl, appK_ok, appS_none, thenD_ag, agP_nil, agP_cons]
    · simp only [Int.natCast_zero, Int.ofNat_zero] at e
      rw [rall_not hx]
      rw [aCall_eq T_spec_BlocksOk]; unfold A_spec_BlocksOk C_spec_BlocksOk; simp [thenD_pp, sliceCells_sl, sliceCells_z, sliceCells_nil, take_full, appS_sl, appK_ok, appS_none, thenD_ag, agP_nil, agP_cons, e1, h1, e]
theorem c_spec_StashOk (M : Mem) (v : V) (xs : List ty_Block.D) (l w : Int) (h : Rep (.sl ty_Block) M [v] xs) (hn : xs.length ≤ 1048576) : aCall T0 F_spec_StashOk [v, .int .i64 l, .int .i64 w] M = some (.bool (stashB l w xs), M) := by
  have e1 := c_spec_BlocksOk M v xs l w h hn
  obtain ⟨a, c, rfl⟩ := h.slen
  unfold stashB
  by_cases hs : xs.length ≤ 128
  · have hs' : (xs.length : Int) ≤ 128 := by omega
    rw [aCall_eq T_spec_StashOk]; unfold A_spec_StashOk C_spec_StashOk; simp [thenD_pp, sliceCells_sl, sliceCells_z, sliceCells_nil, take_full, appS_sl, appK_ok, appS_none, thenD_ag, agP_nil, agP_cons, e1, hs, hs']
  · have hs' : ¬ (xs.length : Int) ≤ 128 := by omega
    rw [aCall_eq T_spec_StashOk]; unfold A_spec_StashOk C_spec_StashOk; simp [thenD_pp, sliceCells_sl, sliceCells_z, sliceCells_nil, take_full, appS_sl, appK_ok, appS_none, thenD_ag, agP_nil, agP_cons, e1, hs, hs']
theorem gr0 {t : Ty} {M : Mem} {l : Nat} (hb : M[l]? = some ⟨[], t.w, 2⟩) : Gr (.sl t) M [.slice (some ⟨l, 0, none⟩) 0 0] [] [l] :=
  .inr ⟨l, [], [], rfl, hb, rfl, rfl, by simp, by simp⟩
/-- Sizes of blocks. -/
def BlkSz (xs : List ty_Block.D) : Prop := xs.length ≤ 1048576 ∧ ∀ x ∈ xs, List.length (α := UInt8) x.2.2 ≤ 1048576
theorem rep_blk {t : Ty} {M : Mem} {l o n c : Nat} {xs : List t.D} (h : Rep (.sl t) M [.slice (some ⟨l, o, none⟩) n c] xs) : ∃ blk, M[l]? = some blk ∧ blk.w = t.w ∧ n = xs.length := by
  rcases h with ⟨h, _⟩ | ⟨l', o', c', blk, css, e, h2, h3, h4, h5, h6, h7⟩
  · simp at h
  · simp only [List.cons.injEq, Value.slice.injEq, Option.some.injEq, Addr.mk.injEq, and_true, true_and] at e
    obtain ⟨⟨rfl, rfl⟩, rfl, rfl⟩ := e
    exact ⟨blk, h2, h4, rfl⟩
theorem gr_Block {M : Mem} {x : ty_Block.D} {u : V} {L : List Nat} (w0 : (Lit.int .i64 x.1).wf = true) (w1 : (Lit.int .i64 x.2.1).wf = true) (r0 : Gr (.sl ty_Byte) M [u] x.2.2 L) : Gr ty_Block M [.int .i64 x.1, .int .i64 x.2.1, u] x L :=
  ⟨[.int .i64 x.1], [.int .i64 x.2.1, u], [], L, rfl, ⟨⟨rfl, w0⟩, rfl⟩, ⟨[.int .i64 x.2.1], [u], [], L, rfl, ⟨⟨rfl, w1⟩, rfl⟩, r0, rfl⟩, rfl⟩
def CbI (M : Mem) (v : V) (xs : List ty_Block.D) (X : Mem) : Prop := ∃ L, M <+: X ∧ Gr (.sl ty_Block) X [v] xs L ∧ L.Nodup ∧ ∀ l ∈ L, M.length ≤ l
theorem fl_Byte : FlatE .u8 enc_Byte (fun _ => True) := ⟨fun M x _ => ⟨rfl, rfl⟩, fun M cs x h => ⟨h, trivial⟩⟩
set_option maxHeartbeats 1000000 in
theorem l_spec_l13Copy_0 (M : Mem) (a : Option Addr) (c : Nat) (xs : List ty_Block.D) (h : Rep (.sl ty_Block) M [.slice a xs.length c] xs) (hz : BlkSz xs) (v : V) (Z : Mem) (hZ : CbI M v [] Z) :
    ∃ v' X', CbI M v' xs X' ∧ lp (aCall T0) K_spec_l13Copy_0 L_spec_l13Copy_0 [.slice a xs.length c, und, und, v, .int .i64 (0 : Nat), und, und, und, und, und, und, und, und, und, und, und, und, und, und, und, und, und, und, und, und, und, und, und, und, und, und, und, und, und] Z = lp (aCall T0) K_spec_l13Copy_0 L_spec_l13Copy_0 [.slice a xs.length c, und, und, v', .int .i64 xs.length, und, und, und, und, und, und, und, und, und, und, und, und, und, und, und, und, und, und, und, und, und, und, und, und, und, und, und, und, und] X' := by
  have key := loop_to (call := aCall T0) (K := K_spec_l13Copy_0) (L := L_spec_l13Copy_0) (fun i v X => CbI M v (xs.take i) X) (fun i v => [.slice a xs.length c, und, und, v, .int .i64 i, und, und, und, und, und, und, und, und, und, und, und, und, und, und, und, und, und, und, und, und, und, und, und, und, und, und, und, und, und]) (n := xs.length) ?_ 0 v Z (by omega) (by simpa using hZ)
  · rw [List.take_length] at key
    exact key
  intro i v X hi ⟨L, pX, g0, nd, ge0⟩
  obtain ⟨l, o, u, rfl, q1, q2, q3, q4, w0, w1, qu, _⟩ := at_Block (h.mono pX) hi
  rw [List.take_succ_eq_append_getElem hi]
  have hlen : (xs.take i).length = i := by rw [List.length_take]; omega
  have hzi := hz.2 _ (List.getElem_mem hi)
  have hn := hz.1
  generalize xs.take i = ys at g0 hlen ⊢
  generalize xs[i] = b at q1 q2 q3 q4 w0 w1 qu hzi ⊢
  obtain ⟨b1, b2, b3⟩ := b
  simp only at q1 q2 q3 q4 w0 w1 qu hzi ⊢
  obtain ⟨⟨a2, c2, rfl⟩, hc, _⟩ := rep_cellsF fl_Byte (qu.mono (List.prefix_append X [(⟨[], 1, 2⟩ : Blk)]))
  have hc : sliceCells (X ++ [(⟨[], 1, 2⟩ : Blk)]) 1 (.slice a2 (List.length (α := UInt8) b3) c2) = some (List.length (α := UInt8) b3, (List.map enc_Byte b3).flatten) := hc
  have e6 : IntKind.i64.wrap ((i : Int) + 1) = i + 1 := wrap_i64 (by omega) (by omega)
  have hll : l < M.length := by obtain ⟨blk, hbk, _⟩ := rep_blk h; exact get_lt hbk
  have hpl := pX.length_le
  have q3' := fun N : Mem => rd1_old (N := N) q3
  obtain ⟨av, rfl⟩ := g0.shape
  have hh1 : ∀ ys : List Nat, (∀ y ∈ ys, y = l) → hits [X.length] ys = false := fun ys hy => hits_ge (K := M.length) (by simp; omega) (fun y h => by rw [hy y h]; exact hll)
  have hwL : ∀ b ∈ wfs (.slice av ys.length ys.length), M.length ≤ b := by
    obtain ⟨_, _, hw⟩ := g0.gr (K := 0) (by simp)
    exact fun b hb => ge0 b (hw b hb)
  have hh2 : ∀ zs : List Nat, (∀ y ∈ zs, y = l) → hits (wfs (.slice av ys.length ys.length)) zs = false := fun zs hy => hits_ge (K := M.length) hwL (fun y h => by rw [hy y h]; exact hll)
  have s1 := hh1 [l] (by simp)
  have s2 := hh1 [l, l] (by simp)
  have s3 := hh1 [l, l, l] (by simp)
  have t1 := hh2 [l] (by simp)
  have t2 := hh2 [l, l] (by simp)
  have t3 := hh2 [l, l, l] (by simp)
  rw [S_spec_l13Copy_0]; unfold B_spec_l13Copy_0; simp [thenD_pp, sliceCells_sl, sliceCells_z, sliceCells_nil, take_full, appS_sl, appK_ok, appS_none, thenD_ag, agP_nil, agP_cons, hi, q1, q2, q3, q3', hc, zeroCells]
  generalize hy : appS _ _ _ _ _ _ = xhy
  obtain ⟨l2, X3, rfl, hl2, gb, ag⟩ := cp_all (t := .u8) (xs := b3) fl_Byte hy (by simp [Ty.w]) (by simp) (by omega) (by omega)
  clear hy
  have p3 : X <+: X3 := ag.pre (List.prefix_append _ _) (by simp)
  simp [thenD_pp, sliceCells_sl, sliceCells_z, sliceCells_nil, take_full, appS_sl, appK_ok, appS_none, thenD_ag, agP_nil, agP_cons, thenD_agree, ag, s1, s2, s3, zeroCells]
  generalize hy : appS _ _ _ _ _ _ = xhy
  have hcg : Gr ty_Block (X3 ++ [(⟨[.int .i64 b1, .int .i64 b2, .slice (some ⟨l2, 0, none⟩) (List.length (α := UInt8) b3) (List.length (α := UInt8) b3)], 3, 2⟩ : Blk)]) [.int .i64 b1, .int .i64 b2, .slice (some ⟨l2, 0, none⟩) (List.length (α := UInt8) b3) (List.length (α := UInt8) b3)] (b1, b2, b3) [l2] := gr_Block (x := (b1, b2, b3)) w0 w1 (gb.grow (List.prefix_append _ _))
  obtain ⟨l4, X4, L', rfl, g4, ag2, len2, hw4, nd4, sub4, hl4⟩ := g0.app (t := ty_Block) hy (p3.trans (List.prefix_append _ _)) hcg (by simpa using hl2) nd (by simp) (by rw [hlen]; omega) (by rw [hlen]; omega)
  clear hy
  have pX4 : M <+: X4 := ag2.pre (pf_app (pX.trans p3)) hwL
  simp [thenD_pp, sliceCells_sl, sliceCells_z, sliceCells_nil, take_full, appS_sl, appK_ok, appS_none, thenD_ag, agP_nil, agP_cons, e6, thenD_agree, ag2, t1, t2, t3]
  refine ⟨_, _, ⟨L', pX4, g4, nd4, fun j hj => ?_⟩, rfl⟩
  have hx3 := p3.length_le
  rcases sub4 j hj with h | h | h
  · exact ge0 j h
  · simp at h; omega
  · simp at hl4; omega
theorem c_spec_l13Copy (M : Mem) (v : V) (xs : List ty_Block.D) (h : Rep (.sl ty_Block) M [v] xs) (hz : BlkSz xs) : Sat (aCall T0 F_spec_l13Copy [v] M) (GrV ty_Block M xs) := by
  obtain ⟨a, c, rfl⟩ := h.slen
  obtain ⟨v', X', ⟨L, p1, g1, n1, k1⟩, e⟩ := l_spec_l13Copy_0 M a c xs h hz (.slice (some ⟨M.length, 0, none⟩) 0 0) (M ++ [⟨[], 3, 2⟩]) ⟨[M.length], List.prefix_append _ _, gr0 (t := ty_Block) (by simp [Ty.w]), by simp, by simp⟩
  simp only [Int.natCast_zero, Int.ofNat_zero] at e
  rw [aCall_eq T_spec_l13Copy]; unfold A_spec_l13Copy C_spec_l13Copy; simp [thenD_pp, sliceCells_sl, sliceCells_z, sliceCells_nil, take_full, appS_sl, appK_ok, appS_none, thenD_ag, agP_nil, agP_cons, zeroCells, e]
  obtain ⟨av, rfl⟩ := g1.shape
  rw [S_spec_l13Copy_0]; unfold B_spec_l13Copy_0; simp [thenD_pp, sliceCells_sl, sliceCells_z, sliceCells_nil, take_full, appS_sl, appK_ok, appS_none, thenD_ag, agP_nil, agP_cons]
  exact ⟨(_, X'), rfl, L, p1, g1, n1, k1⟩
def EvI (M : Mem) (xs : List ty_Block.D) (N : Nat) (vo vr : V) (s : List ty_Put.D × List ty_Block.D × Nat) (X : Mem) : Prop :=
  ∃ Lo Lr, M <+: X ∧ Gr (.sl ty_Put) X [vo] s.1 Lo ∧ Gr (.sl ty_Block) X [vr] s.2.1 Lr ∧ Lo.Nodup ∧ (∀ l ∈ Lo, M.length ≤ l) ∧ (∀ l ∈ Lr, M.length ≤ l) ∧ (∀ l ∈ Lo, l ∉ Lr) ∧ List.Sublist s.2.1 xs ∧ s.2.2 ≤ 4 ∧ s.1.length ≤ N
/-- Blocks whose leaves are in the tree. -/
def LfOk (m : Nat) (xs : List ty_Block.D) : Prop := ∀ x ∈ xs, x.2.1 = ((Int.toNat x.2.1 : Nat) : Int) ∧ Int.toNat x.2.1 < 2 ^ m
theorem pow2_cast (q : Nat) : ((2 : Int) ^ q) = ((2 ^ q : Nat) : Int) := by
  induction q with
  | zero => rfl
  | succ q ih => rw [Int.pow_succ, ih, Nat.pow_succ, Int.natCast_mul]; rfl
def outL (N j : Nat) : List Int := (List.range j).map fun i => ((N / 2 ^ (j - 1 - i) : Nat) : Int)
theorem outL_len (N j : Nat) : (outL N j).length = j := by simp [outL]
theorem outL_get {N j i : Nat} (hi : i < (outL N j).length) : (outL N j)[i] = ((N / 2 ^ (j - 1 - i) : Nat) : Int) := by simp [outL]
theorem outL_succ (N j : Nat) : outL N (j + 1) = ((N / 2 ^ j : Nat) : Int) :: outL N j := by
  unfold outL
  rw [List.range_succ_eq_map, List.map_cons, List.map_map]
  congr 1
  refine List.map_congr_left fun i _ => ?_
  simp only [Function.comp]
  congr 3
  omega
def Ic (xs : List Int) : List V := xs.map fun n => (.int .i64 n : V)
theorem Ic_len (xs : List Int) : (Ic xs).length = xs.length := by simp [Ic]
theorem Ic_one (xs : List Int) : (Ic xs).all one = true := by
  rw [List.all_eq_true]
  intro v hv
  obtain ⟨n, _, rfl⟩ := List.mem_map.1 hv
  rfl
def PnI (M : Mem) (N j : Nat) (v : V) (X : Mem) : Prop := M <+: X ∧ Grow M.length 1 X v j (Ic (outL N j))
theorem l_spec_PathNodes_0 (M : Mem) (N n : Nat) (hN : N < 128) (hn : n ≤ 7) (hge : ∀ j, j < n → 1 ≤ N / 2 ^ j) (v : V) (Z : Mem) (hZ : PnI M N 0 v Z) :
    ∃ v' X', PnI M N n v' X' ∧ lp (aCall T0) K_spec_PathNodes_0 L_spec_PathNodes_0 [und, und, und, und, und, v, .int .i64 ((N / 2 ^ 0 : Nat) : Int), und, und, und, und, und, und, und, und, und, und, und, und, und, und, und, und, und, und] Z = lp (aCall T0) K_spec_PathNodes_0 L_spec_PathNodes_0 [und, und, und, und, und, v', .int .i64 ((N / 2 ^ n : Nat) : Int), und, und, und, und, und, und, und, und, und, und, und, und, und, und, und, und, und, und] X' := by
  refine loop_to (call := aCall T0) (K := K_spec_PathNodes_0) (L := L_spec_PathNodes_0) (fun j v X => PnI M N j v X) (fun j v => [und, und, und, und, und, v, .int .i64 ((N / 2 ^ j : Nat) : Int), und, und, und, und, und, und, und, und, und, und, und, und, und, und, und, und, und, und]) (n := n) ?_ 0 v Z (by omega) hZ
  intro j v X hj ⟨pX, gX⟩
  have hq : (N / 2 ^ j) / 2 = N / 2 ^ (j + 1) := by rw [Nat.div_div_eq_div_mul, Nat.pow_succ]
  have hle := Nat.div_le_self N (2 ^ j)
  have h1 : (1 : Int) ≤ ((N / 2 ^ j : Nat) : Int) := by have := hge j hj; omega
  have hd : IntKind.i64.wrap (((N / 2 ^ j : Nat) : Int) / 2) = ((N / 2 ^ (j + 1) : Nat) : Int) := by rw [← hq, wrap_i64 (by omega) (by omega)]; rfl
  have hc := fun Y : Mem => (gX.pre (List.prefix_append X Y)).cells
  have hgl := gX.ge
  have hpl := pX.length_le
  unfold PnI
  rw [outL_succ]
  generalize N / 2 ^ (j + 1) = q2 at hd ⊢
  generalize N / 2 ^ j = q at hd h1 ⊢
  have hg1 : Grow M.length 1 (X ++ [(⟨[.int .i64 q], 1, 2⟩ : Blk)]) (.slice (some ⟨X.length, 0, none⟩) 1 1) 1 [.int .i64 q] := Grow.new hpl rfl
  obtain ⟨av, rfl⟩ := gX.shape
  by_cases h0 : j = 0
  · subst h0
    have e0 : outL N 0 = [] := rfl
    rw [e0] at hc ⊢
    rw [S_spec_PathNodes_0]; unfold B_spec_PathNodes_0; simp [thenD_pp, sliceCells_sl, sliceCells_z, sliceCells_nil, take_full, appS_sl, appK_ok, appS_none, thenD_ag, agP_nil, agP_cons, h1, hc, appS, hd, Ic]
    exact ⟨_, _, ⟨pf_app pX, hg1⟩, rfl⟩
  · rw [S_spec_PathNodes_0]; unfold B_spec_PathNodes_0; simp [thenD_pp, sliceCells_sl, sliceCells_z, sliceCells_nil, take_full, appS_sl, appK_ok, appS_none, thenD_ag, agP_nil, agP_cons, h1, hc]
    generalize hy : appS _ _ _ _ _ _ = xhy
    obtain ⟨a3, X3, rfl, g3, ag, l3⟩ := hg1.at hy (List.prefix_refl _) (by simp; omega) (by rw [Ic_len, outL_len]; omega) (by omega) (Ic_one _) (by omega) (by omega)
    clear hy
    have ec : 1 + j = j + 1 := by omega
    simp only [ec] at g3
    simp [thenD_pp, sliceCells_sl, sliceCells_z, sliceCells_nil, take_full, appS_sl, appK_ok, appS_none, thenD_ag, agP_nil, agP_cons, hd, ec]
    exact ⟨_, _, ⟨ag.pre (pf_app pX) fun b hb => hg1.ge b hb, g3⟩, rfl⟩
/-- The path of a leaf. -/
def PnD (M : Mem) (m a : Nat) (p : V × Mem) : Prop := ∃ av : Option Addr, p.1 = .slice av (m + 1) (m + 1) ∧ M <+: p.2 ∧ Grow M.length 1 p.2 (.slice av (m + 1) (m + 1)) (m + 1) (Ic (outL (2 ^ m + a) (m + 1)))
theorem c_spec_PathNodes (M : Mem) (m a : Nat) (hm : m ≤ 6) (ha : a < 2 ^ m) : Sat (aCall T0 F_spec_PathNodes [.int .i64 m, .int .i64 a] M) (PnD M m a) := by
  have hp : 2 ^ m ≤ 2 ^ 6 := Nat.pow_le_pow_right (by omega) hm
  have hL : leafB m a = true := by
    unfold leafB lgB
    have : (a : Int) < 2 ^ m := by rw [pow2_cast]; omega
    simp [this]; omega
  have e1 := fun M => c_spec_l11Leaf M m a
  rw [hL] at e1
  have e2 := fun M => c_spec_l02Pow M m (by omega)
  have e3 : IntKind.i64.wrap ((2 : Int) ^ m + a) = ((2 ^ m + a : Nat) : Int) := by rw [pow2_cast, wrap_i64 (by omega) (by omega)]; omega
  have hge : ∀ j, j < m + 1 → 1 ≤ (2 ^ m + a) / 2 ^ j := fun j hj => by
    have h1 : 2 ^ j ≤ 2 ^ m := Nat.pow_le_pow_right (by omega) (by omega)
    exact (Nat.le_div_iff_mul_le (Nat.two_pow_pos j)).2 (by omega)
  have hz : (2 ^ m + a) / 2 ^ (m + 1) = 0 := Nat.div_eq_of_lt (by rw [Nat.pow_succ]; omega)
  obtain ⟨v', X', ⟨pX, gX⟩, e⟩ := l_spec_PathNodes_0 M (2 ^ m + a) (m + 1) (by omega) (by omega) hge (.slice (some ⟨M.length, 0, none⟩) 0 0) (M ++ [⟨[], 1, 2⟩]) ⟨List.prefix_append _ _, Grow.new (Nat.le_refl _) rfl⟩
  simp only [Nat.pow_zero, Nat.div_one, hz] at e
  obtain ⟨av, rfl⟩ := gX.shape
  unfold PnD
  generalize 2 ^ m + a = N at e e3 gX
  rw [aCall_eq T_spec_PathNodes]; unfold A_spec_PathNodes C_spec_PathNodes; simp [thenD_pp, sliceCells_sl, sliceCells_z, sliceCells_nil, take_full, appS_sl, appK_ok, appS_none, thenD_ag, agP_nil, agP_cons, e1, e2, e3, zeroCells, e]
  rw [S_spec_PathNodes_0]; unfold B_spec_PathNodes_0; simp [thenD_pp, sliceCells_sl, sliceCells_z, sliceCells_nil, take_full, appS_sl, appK_ok, appS_none, thenD_ag, agP_nil, agP_cons]
  exact ⟨(_, X'), rfl, av, rfl, pX, gX⟩
theorem gc_intp {M M' : Mem} (hp : M <+: M') (k : IntKind) (n : Int) : gc M (some (.int k n, M')) = some (.int k n, M) := by
  obtain ⟨N, rfl⟩ := hp
  exact gc_int M N k n
theorem blen_le {x k : Nat} : blen x ≤ k ↔ x < 2 ^ k := by
  unfold blen
  by_cases h : x = 0
  · subst h
    simp [Nat.two_pow_pos]
  · rw [if_neg h, ← Nat.log2_lt h]
    omega
theorem xor_zero {a b : Nat} : a ^^^ b = 0 ↔ a = b := by
  constructor
  · intro h
    have e : a ^^^ b ^^^ b = 0 ^^^ b := by rw [h]
    simpa [Nat.xor_assoc] using e
  · rintro rfl
    exact Nat.xor_self a
theorem path_eq {m a b i : Nat} (hi : i ≤ m) (ha : a < 2 ^ m) (hb : b < 2 ^ m) : (2 ^ m + a) / 2 ^ (m - i) = (2 ^ m + b) / 2 ^ (m - i) ↔ i ≤ m - blen (a ^^^ b) := by
  have hx := blen_le.2 (Nat.xor_lt_two_pow ha hb)
  have hd : ∀ c, (2 ^ m + c) / 2 ^ (m - i) = 2 ^ i + c / 2 ^ (m - i) := fun c => by
    have e : 2 ^ m = 2 ^ i * 2 ^ (m - i) := by rw [← Nat.pow_add]; congr 1; omega
    rw [e, Nat.add_comm, Nat.add_mul_div_right _ _ (Nat.two_pow_pos _), Nat.add_comm]
  rw [hd, hd]
  have h1 : (2 ^ i + a / 2 ^ (m - i) = 2 ^ i + b / 2 ^ (m - i)) ↔ a >>> (m - i) = b >>> (m - i) := by rw [Nat.shiftRight_eq_div_pow, Nat.shiftRight_eq_div_pow]; omega
  rw [h1, ← xor_zero, ← Nat.shiftRight_xor_distrib, Nat.shiftRight_eq_div_pow, Nat.div_eq_zero_iff, ← blen_le]
  constructor
  · rintro (h | h)
    · have := Nat.two_pow_pos (m - i); omega
    · omega
  · intro h
    right; omega
theorem Ic_at {K : Nat} {M : Mem} {a : Option Addr} {n : Nat} {xs : List Int} (h : Grow K 1 M (.slice a n n) n (Ic xs)) {i : Nat} (hi : i < xs.length) : ∃ l o, a = some ⟨l, o, none⟩ ∧ rd1 M l (o + i) = some (.int .i64 xs[i]) := by
  obtain ⟨h1, ⟨h2, rfl⟩ | ⟨l, _, hv, hb⟩⟩ := h
  · rw [Ic_len] at h1; omega
  · cases hv
    exact ⟨l, 0, rfl, by simp [rd1, hb, Ic, hi]⟩
theorem c_spec_Meet (M : Mem) (m a b : Nat) (hm : m ≤ 6) (ha : a < 2 ^ m) (hb : b < 2 ^ m) : aCall T0 F_spec_Meet [.int .i64 m, .int .i64 a, .int .i64 b] M = some (.int .i64 ((m - blen (a ^^^ b) : Nat) : Int), M) := by
  have hL : ∀ x : Nat, x < 2 ^ m → leafB m x = true := fun x hx => by
    unfold leafB lgB
    have : (x : Int) < 2 ^ m := by rw [pow2_cast]; omega
    simp [this]; omega
  have e1 := fun M => (c_spec_l11Leaf M m a).trans (by rw [hL a ha])
  have e2 := fun M => (c_spec_l11Leaf M m b).trans (by rw [hL b hb])
  rw [aCall_eq T_spec_Meet]; unfold A_spec_Meet C_spec_Meet; simp [thenD_pp, sliceCells_sl, sliceCells_z, sliceCells_nil, take_full, appS_sl, appK_ok, appS_none, thenD_ag, agP_nil, agP_cons, e1, e2]
  generalize hx : aCall T0 F_spec_PathNodes _ _ = xhx
  obtain ⟨_, X1, rfl, av, rfl, p1, g1⟩ := of_call hx (c_spec_PathNodes M m a hm ha)
  clear hx
  simp [thenD_pp, sliceCells_sl, sliceCells_z, sliceCells_nil, take_full, appS_sl, appK_ok, appS_none, thenD_ag, agP_nil, agP_cons]
  generalize hx : aCall T0 F_spec_PathNodes _ _ = xhx
  obtain ⟨_, X2, rfl, bv, rfl, p2, g2⟩ := of_call hx (c_spec_PathNodes X1 m b hm hb)
  clear hx
  simp only at p1 g1 p2 g2
  have g1 := g1.pre p2
  have key := loop_to (call := aCall T0) (K := K_spec_Meet_0) (L := L_spec_Meet_0) (fun _ (_ : Unit) X => X = X2) (fun i _ => [und, und, und, und, und, und, und, .slice av (m + 1) (m + 1), .slice bv (m + 1) (m + 1), .int .i64 ((min (i - 1) (m - blen (a ^^^ b)) : Nat) : Int), .int .i64 i, und, und, und, und, und, und, und, und, und, und, und, und, und, und, und, und, und, und, und, und, und, und, und, und, und, und, und, und, und, und, und, und, und]) (n := m + 1) ?_ 0 () X2 (by omega) rfl
  · obtain ⟨_, X', rfl, e⟩ := key
    have e0 : min (m + 1 - 1) (m - blen (a ^^^ b)) = m - blen (a ^^^ b) := by omega
    simp only [e0, Nat.zero_sub, Nat.zero_min, Nat.min_eq_left, Nat.zero_le, Int.natCast_zero, Int.ofNat_zero] at e
    have gb := fun n : Int => gc_intp (p1.trans p2) .i64 n
    simp [thenD_pp, sliceCells_sl, sliceCells_z, sliceCells_nil, take_full, appS_sl, appK_ok, appS_none, thenD_ag, agP_nil, agP_cons, e]
    rw [S_spec_Meet_0]; unfold B_spec_Meet_0; simp [thenD_pp, sliceCells_sl, sliceCells_z, sliceCells_nil, take_full, appS_sl, appK_ok, appS_none, thenD_ag, agP_nil, agP_cons, gb]
  · intro i _ X hi hX
    subst hX
    have e6 : IntKind.i64.wrap ((i : Int) + 1) = i + 1 := wrap_i64 (by omega) (by omega)
    obtain ⟨l1, o1, rfl, q1⟩ := Ic_at g1 (i := i) (by rw [outL_len]; omega)
    obtain ⟨l2, o2, rfl, q2⟩ := Ic_at g2 (i := i) (by rw [outL_len]; omega)
    rw [outL_get] at q1 q2
    have hsub : m + 1 - 1 - i = m - i := by omega
    rw [hsub] at q1 q2
    have hlt : (i : Int) < (m : Int) + 1 := by omega
    have hlt' : i < m + 1 := by omega
    have hpe := path_eq (i := i) (by omega) ha hb
    refine ⟨(), X, rfl, ?_⟩
    by_cases he : i ≤ m - blen (a ^^^ b)
    · have hq := hpe.2 he
      have e7 : min (i + 1 - 1) (m - blen (a ^^^ b)) = i := by omega
      rw [e7]
      rw [hq] at q1
      rw [S_spec_Meet_0]; unfold B_spec_Meet_0; simp [thenD_pp, sliceCells_sl, sliceCells_z, sliceCells_nil, take_full, appS_sl, appK_ok, appS_none, thenD_ag, agP_nil, agP_cons, hlt, hlt', q1, q2, e6]
    · have hq : ¬ ((((2 ^ m + a) / 2 ^ (m - i) : Nat) : Int) = ((2 ^ m + b) / 2 ^ (m - i) : Nat)) := fun h => he (hpe.1 (by omega))
      have e7 : min (i + 1 - 1) (m - blen (a ^^^ b)) = min (i - 1) (m - blen (a ^^^ b)) := by omega
      rw [e7]
      generalize (2 ^ m + a) / 2 ^ (m - i) = x at q1 hq
      generalize (2 ^ m + b) / 2 ^ (m - i) = y at q2 hq
      rw [S_spec_Meet_0]; unfold B_spec_Meet_0; simp [thenD_pp, sliceCells_sl, sliceCells_z, sliceCells_nil, take_full, appS_sl, appK_ok, appS_none, thenD_ag, agP_nil, agP_cons, hlt, hlt', q1, q2, hq, e6]
/-- Headers of data that lies elsewhere, in a block that grows. -/
def Hg (t : Ty) (M : Mem) (v : V) (ys : List t.D) (X : Mem) : Prop := ∃ css : List (List V), M <+: X ∧ Grow M.length t.w X v ys.length css.flatten ∧ css.length = ys.length ∧ ∀ (i : Nat) (ds : List V) (x : t.D), css[i]? = some ds → ys[i]? = some x → Rep t M ds x
theorem Hg.rep {t : Ty} {M : Mem} {v : V} {ys : List t.D} {X : Mem} (h : Hg t M v ys X) : Rep (.sl t) X [v] ys := by
  obtain ⟨css, hp, ⟨h1, h2⟩, h3, h4⟩ := h
  rcases h2 with ⟨rfl, h0⟩ | ⟨l, _, rfl, hb⟩
  · exact .inl ⟨rfl, List.length_eq_zero_iff.1 h0⟩
  · exact .inr ⟨l, 0, _, _, css, rfl, hb, .inr (.inl rfl), rfl, h3, fun i ds x hd hx => (h4 i ds x hd hx).mono hp, by simp⟩
theorem rel_snoc {α β : Type} {R : α → β → Prop} {as : List α} {bs : List β} {a : α} {b : β} (hl : as.length = bs.length) (h : ∀ (i : Nat) (x : α) (y : β), as[i]? = some x → bs[i]? = some y → R x y) (hab : R a b) : ∀ (i : Nat) (x : α) (y : β), (as ++ [a])[i]? = some x → (bs ++ [b])[i]? = some y → R x y := by
  intro i x y hx hy
  rcases get_snoc hx with ⟨h1, hx⟩ | ⟨h1, rfl⟩
  · rcases get_snoc hy with ⟨h2, hy⟩ | ⟨h2, rfl⟩
    · exact h i x y hx hy
    · omega
  · rcases get_snoc hy with ⟨h2, hy⟩ | ⟨h2, rfl⟩
    · omega
    · exact hab
theorem l_spec_l13Without_0 (M : Mem) (a : Option Addr) (c : Nat) (xs : List ty_Block.D) (id : Int) (h : Rep (.sl ty_Block) M [.slice a xs.length c] xs) (hz : xs.length ≤ 1048576) (v : V) (Z : Mem) (hZ : Hg ty_Block M v [] Z) :
    ∃ v' X', Hg ty_Block M v' (withoutL id xs) X' ∧ lp (aCall T0) K_spec_l13Without_0 L_spec_l13Without_0 [.slice a xs.length c, .int .i64 id, und, und, und, v, .int .i64 (0 : Nat), und, und, und, und, und, und, und, und, und, und, und, und, und, und, und, und, und, und, und, und, und, und, und] Z = lp (aCall T0) K_spec_l13Without_0 L_spec_l13Without_0 [.slice a xs.length c, .int .i64 id, und, und, und, v', .int .i64 xs.length, und, und, und, und, und, und, und, und, und, und, und, und, und, und, und, und, und, und, und, und, und, und, und] X' := by
  have key := loop_to (call := aCall T0) (K := K_spec_l13Without_0) (L := L_spec_l13Without_0) (fun i v X => Hg ty_Block M v (withoutL id (xs.take i)) X) (fun i v => [.slice a xs.length c, .int .i64 id, und, und, und, v, .int .i64 i, und, und, und, und, und, und, und, und, und, und, und, und, und, und, und, und, und, und, und, und, und, und, und]) (n := xs.length) ?_ 0 v Z (by omega) (by simpa [withoutL] using hZ)
  · rw [List.take_length] at key
    exact key
  intro i v X hi ⟨css, pX, g0, hl0, hr0⟩
  obtain ⟨l, o, u, rfl, q1, q2, q3, q4, w0, w1, qu, qr⟩ := at_Block h hi
  have hw : withoutL id (xs.take (i + 1)) = withoutL id (xs.take i) ++ if xs[i].1 = id then [] else [xs[i]] := by
    unfold withoutL
    rw [List.take_succ_eq_append_getElem hi, List.filter_append]
    congr 1
    by_cases hx : xs[i].1 = id <;> simp [hx]
  have hle : (withoutL id (xs.take i)).length ≤ i := by
    refine Nat.le_trans (List.length_filter_le _ _) ?_
    rw [List.length_take]; omega
  have e6 : IntKind.i64.wrap ((i : Int) + 1) = i + 1 := wrap_i64 (by omega) (by omega)
  have q1 := r1_pre pX q1
  have q4 := rn_pre pX q4
  rw [hw]
  generalize withoutL id (xs.take i) = ys at g0 hl0 hr0 hle ⊢
  generalize xs[i] = b at q1 q4 qu qr ⊢
  obtain ⟨b1, b2, b3⟩ := b
  simp only at q1 q4 qr ⊢
  by_cases hb : b1 = id
  · rw [if_pos hb, List.append_nil]
    rw [S_spec_l13Without_0]; unfold B_spec_l13Without_0; simp [thenD_pp, sliceCells_sl, sliceCells_z, sliceCells_nil, take_full, appS_sl, appK_ok, appS_none, thenD_ag, agP_nil, agP_cons, hi, q1, hb, e6]
    exact ⟨_, _, ⟨css, pX, g0, hl0, hr0⟩, rfl⟩
  · rw [if_neg hb]
    obtain ⟨ua, uc, rfl⟩ := qu.slen
    obtain ⟨av, rfl⟩ := g0.shape
    rw [S_spec_l13Without_0]; unfold B_spec_l13Without_0; simp [thenD_pp, sliceCells_sl, sliceCells_z, sliceCells_nil, take_full, appS_sl, appK_ok, appS_none, thenD_ag, agP_nil, agP_cons, hi, q1, q4, hb, zeroCells]
    generalize hy : appS _ _ _ _ _ _ = xhy
    obtain ⟨a3, X3, rfl, g3, ag, l3⟩ := g0.at hy (List.prefix_append _ _) pX.length_le (by rfl) (by omega) (by rfl) (by omega) (by omega)
    clear hy
    simp [thenD_pp, sliceCells_sl, sliceCells_z, sliceCells_nil, take_full, appS_sl, appK_ok, appS_none, thenD_ag, agP_nil, agP_cons, e6]
    refine ⟨_, _, ⟨css ++ [[.int .i64 b1, .int .i64 b2, .slice ua (List.length (α := UInt8) b3) uc]], ag.pre (pf_app pX) fun b hb => g0.ge b hb, ?_, by simp [hl0], rel_snoc hl0 hr0 qr⟩, rfl⟩
    simpa using g3
theorem withoutL_sz {id : Int} {xs : List ty_Block.D} (h : BlkSz xs) : BlkSz (withoutL id xs) := ⟨Nat.le_trans (List.length_filter_le _ _) h.1, fun x hx => h.2 x (List.mem_filter.1 hx).1⟩
theorem c_spec_l13Without (M : Mem) (v : V) (xs : List ty_Block.D) (id : Int) (h : Rep (.sl ty_Block) M [v] xs) (hz : BlkSz xs) : Sat (aCall T0 F_spec_l13Without [v, .int .i64 id] M) (GrV ty_Block M (withoutL id xs)) := by
  obtain ⟨a, c, rfl⟩ := h.slen
  obtain ⟨v', X', hX, e⟩ := l_spec_l13Without_0 M a c xs id h hz.1 (.slice (some ⟨M.length, 0, none⟩) 0 0) (M ++ [⟨[], 3, 2⟩]) ⟨[], List.prefix_append _ _, Grow.new (Nat.le_refl _) rfl, rfl, by simp⟩
  simp only [Int.natCast_zero, Int.ofNat_zero] at e
  have hr := hX.rep
  have hpM : M <+: X' := by obtain ⟨_, hp, _⟩ := hX; exact hp
  obtain ⟨a', c', rfl⟩ := hr.slen
  rw [aCall_eq T_spec_l13Without]; unfold A_spec_l13Without C_spec_l13Without; simp [thenD_pp, sliceCells_sl, sliceCells_z, sliceCells_nil, take_full, appS_sl, appK_ok, appS_none, thenD_ag, agP_nil, agP_cons, zeroCells, e]
  rw [S_spec_l13Without_0]; unfold B_spec_l13Without_0; simp [thenD_pp, sliceCells_sl, sliceCells_z, sliceCells_nil, take_full, appS_sl, appK_ok, appS_none, thenD_ag, agP_nil, agP_cons]
  generalize hx : aCall T0 F_spec_l13Copy _ _ = xhx
  obtain ⟨v2, X2, rfl, L, p2, g2, n2, k2⟩ := of_call hx (c_spec_l13Copy X' _ _ hr (withoutL_sz hz))
  clear hx
  simp only at p2 g2
  obtain ⟨a2, rfl⟩ := g2.shape
  simp [thenD_pp, sliceCells_sl, sliceCells_z, sliceCells_nil, take_full, appS_sl, appK_ok, appS_none, thenD_ag, agP_nil, agP_cons]
  have := hpM.length_le
  exact ⟨(_, X2), rfl, L, hpM.trans p2, g2, n2, fun l hl => by have := k2 l hl; omega⟩
def FindD (M : Mem) (id : Int) (xs : List ty_Block.D) (p : V × Mem) : Prop :=
  (∃ (i : Nat) (hi : i < xs.length) (ds : List V) (L : List Nat), (∀ j (hj : j < i), (xs[j]'(by omega)).1 ≠ id) ∧ xs[i].1 = id ∧ p.1 = .tuple #[.agg ds.toArray, .bool true] ∧ M <+: p.2 ∧ Gr ty_Block p.2 ds xs[i] L ∧ L.Nodup ∧ ∀ l ∈ L, M.length ≤ l) ∨
  ((∀ b ∈ xs, b.1 ≠ id) ∧ p.1 = .tuple #[.agg #[.int .i64 0, .int .i64 0, .slice none 0 0], .bool false] ∧ M <+: p.2)
theorem rep_one {t : Ty} {M : Mem} {l o n c : Nat} {xs : List t.D} (h : Rep (.sl t) M [.slice (some ⟨l, o, none⟩) n c] xs) {i : Nat} (hi : i < xs.length) (c2 : Nat) : Rep (.sl t) M [.slice (some ⟨l, o + i * t.w, none⟩) 1 c2] [xs[i]] := by
  rcases h with ⟨e, rfl⟩ | ⟨l', o', c', blk, css, e, h2, h3, h4, h5, h6, h7⟩
  · simp at e
  · simp only [List.cons.injEq, Value.slice.injEq, Option.some.injEq, Addr.mk.injEq, and_true] at e
    obtain ⟨⟨rfl, rfl⟩, rfl, rfl⟩ := e
    have hw : ∀ ds ∈ css, ds.length = t.w := fun ds hd => by
      obtain ⟨j, hj, rfl⟩ := List.getElem_of_mem hd
      exact (h6 j css[j] (xs[j]'(by omega)) (by simp) (by simp)).len
    obtain ⟨r, hr⟩ := h7
    refine .inr ⟨l, o + i * t.w, c2, blk, [css[i]'(by omega)], rfl, h2, ?_, h4, rfl, ?_, ?_⟩
    · rcases h3 with h | h | h
      · exact .inl h
      · exact .inr (.inl h)
      · subst h; simp at hi
    · intro j ds x hd hx
      match j with
      | 0 =>
        simp only [List.getElem?_cons_zero, Option.some.injEq] at hd hx
        subst hd hx
        exact h6 i _ _ (by simp) (by simp)
      | j + 1 => simp at hd
    · have e := flat_atr css i (by omega) r hw
      rw [List.flatten_cons, List.flatten_nil, List.append_nil, ← List.drop_drop, ← hr, ← e]
      exact List.take_prefix _ _
theorem gr_Block_nd {M : Mem} {ds : List V} {x : ty_Block.D} {K : List Nat} (h : Gr ty_Block M ds x K) : K.Nodup := by
  obtain ⟨c1, c2, L1, L2, _, ⟨_, rfl⟩, ⟨c3, c4, L3, L4, _, ⟨_, rfl⟩, h, rfl⟩, rfl⟩ := h
  rcases h with ⟨_, _, rfl⟩ | ⟨l, css, Ls, _, _, h1, h2, h3, rfl⟩
  · simp
  · have : Ls.flatten = [] := by
      rw [List.flatten_eq_nil_iff]
      intro K hK
      obtain ⟨i, hi, rfl⟩ := List.getElem_of_mem hK
      exact (h3 i (css[i]'(by omega)) (x.2.2[i]'(by omega)) Ls[i] (by simp) (by simp) (by simp)).2
    simp [this]
def atB {α : Type} (p : α → Bool) (xs : List α) (i : Nat) : Bool := match xs[i]? with
  | some x => p x
  | none => true
theorem atB_get {α : Type} (p : α → Bool) {xs : List α} {i : Nat} (hi : i < xs.length) : atB p xs i = p xs[i] := by unfold atB; rw [List.getElem?_eq_getElem hi]
theorem l_spec_StashFind_0 (M : Mem) (a : Option Addr) (c : Nat) (xs : List ty_Block.D) (id : Int) (h : Rep (.sl ty_Block) M [.slice a xs.length c] xs) (hz : BlkSz xs) (hn : xs.length ≤ 128) :
    ((∀ i, i < xs.length → atB (fun b => decide (b.1 ≠ id)) xs i = true) ∧ lp (aCall T0) K_spec_StashFind_0 L_spec_StashFind_0 [.slice a xs.length c, .int .i64 id, und, und, .pointer (some ⟨M.length, 0, none⟩), und, .int .i64 (0 : Nat), und, und, und, und, und, und, und, und, und, und, und, und, und, und, und, und, und, und, und, und, und, und, und, und, und, und, und] (M ++ [⟨[.int .i64 0, .int .i64 0, .slice none 0 0], 1, 2⟩]) = lp (aCall T0) K_spec_StashFind_0 L_spec_StashFind_0 [.slice a xs.length c, .int .i64 id, und, und, .pointer (some ⟨M.length, 0, none⟩), und, .int .i64 xs.length, und, und, und, und, und, und, und, und, und, und, und, und, und, und, und, und, und, und, und, und, und, und, und, und, und, und, und] (M ++ [⟨[.int .i64 0, .int .i64 0, .slice none 0 0], 1, 2⟩])) ∨
    (∀ k, Sat (thenF M [.celln 4 3, .tmp 5] (thenS (blockR 0 (lp (aCall T0) K_spec_StashFind_0 L_spec_StashFind_0 [.slice a xs.length c, .int .i64 id, und, und, .pointer (some ⟨M.length, 0, none⟩), und, .int .i64 (0 : Nat), und, und, und, und, und, und, und, und, und, und, und, und, und, und, und, und, und, und, und, und, und, und, und, und, und, und, und] (M ++ [⟨[.int .i64 0, .int .i64 0, .slice none 0 0], 1, 2⟩]))) (aCall T0) k)) (FindD M id xs)) := by
  have key := loop_st (call := aCall T0) (K := K_spec_StashFind_0) (L := L_spec_StashFind_0) (fun i (_ : Unit) Y => Y = M ++ [⟨[.int .i64 0, .int .i64 0, .slice none 0 0], 1, 2⟩] ∧ ∀ j, j < i → atB (fun b => decide (b.1 ≠ id)) xs j = true) (fun i _ => [.slice a xs.length c, .int .i64 id, und, und, .pointer (some ⟨M.length, 0, none⟩), und, .int .i64 i, und, und, und, und, und, und, und, und, und, und, und, und, und, und, und, und, und, und, und, und, und, und, und, und, und, und, und]) (atB (fun b => decide (b.1 ≠ id)) xs) (FindD M id xs) (n := xs.length) (M0 := M) (rs := [.celln 4 3, .tmp 5]) (k0 := 0) () _ ⟨rfl, by omega⟩ ?_ ?_
  · rcases key with ⟨_, X', ⟨rfl, _⟩, h1, h2⟩ | ⟨_, h⟩
    · exact .inl ⟨h1, h2⟩
    · exact .inr h
  · intro i _ Y hi hq ⟨hY, hj⟩
    subst hY
    obtain ⟨l, o, u, rfl, q1, q2, q3, q4, w0, w1, qu, qr⟩ := at_Block h hi
    have hq0 := hq
    rw [atB_get _ hi] at hq
    have hq := of_decide_eq_true hq
    have e6 : IntKind.i64.wrap ((i : Int) + 1) = i + 1 := wrap_i64 (by omega) (by omega)
    have hn' : (xs.length : Int) ≤ 128 := by omega
    have q1' := fun N : Mem => rd1_old (N := N) q1
    refine ⟨(), _, ⟨rfl, fun j hj' => ?_⟩, ?_⟩
    · by_cases e : j = i
      · subst e; exact hq0
      · exact hj j (by omega)
    · rw [S_spec_StashFind_0]; unfold B_spec_StashFind_0; simp [thenD_pp, sliceCells_sl, sliceCells_z, sliceCells_nil, take_full, appS_sl, appK_ok, appS_none, thenD_ag, agP_nil, agP_cons, hi, hn, hn', q1', hq, e6]
  · intro i _ Y hi hq ⟨hY, hj⟩ k
    subst hY
    obtain ⟨l, o, u, rfl, q1, q2, q3, q4, w0, w1, qu, qr⟩ := at_Block h hi
    rw [atB_get _ hi] at hq
    have hq := of_decide_eq_false hq
    have hq : xs[i].1 = id := Classical.not_not.1 hq
    have e6 : IntKind.i64.wrap ((i : Int) + 1) = i + 1 := wrap_i64 (by omega) (by omega)
    have hn' : (xs.length : Int) ≤ 128 := by omega
    have q1' := fun N : Mem => rd1_old (N := N) q1
    obtain ⟨blk, hb1, hb2, _⟩ := rep_blk h
    have hb1' := fun N : Mem => get_pre' (N := N) hb1
    have hw3 : ty_Block.w = 3 := rfl
    rw [hw3] at hb2
    have hr := fun N : Mem => fun c2 => (rep_one h hi c2).mono (List.prefix_append M N)
    rw [hw3] at hr
    have hil : i + 1 ≤ xs.length := hi
    have hil' : (i : Int) + 1 ≤ (xs.length : Int) := by omega
    have hii : (i : Int) ≤ (i : Int) + 1 := by omega
    have hsub : ((i : Int) + 1 - (i : Int)).toNat = 1 := by omega
    rw [S_spec_StashFind_0]; unfold B_spec_StashFind_0; simp [thenD_pp, sliceCells_sl, sliceCells_z, sliceCells_nil, take_full, appS_sl, appK_ok, appS_none, thenD_ag, agP_nil, agP_cons, hi, hn, hn', q1', hq, e6, hb1', hb2, hil, hil', hsub, hii]
    generalize hx : aCall T0 F_spec_l13Copy _ _ = xhx
    obtain ⟨v2, X2, rfl, L, p2, g2, n2, k2⟩ := of_call hx (c_spec_l13Copy _ _ [xs[i]] (hr _ _) ⟨by simp, fun x hx => by simp at hx; subst hx; exact hz.2 _ (List.getElem_mem hi)⟩)
    clear hx
    simp only at p2 g2
    obtain ⟨l2, ds, K, hv2, hrd, hg, hK⟩ := g2.at (i := 0) (by simp)
    cases hv2
    simp only [List.getElem_cons_zero] at hg
    obtain ⟨u2, rfl, v0, v1, r2⟩ := rep_g_Block hg.rep
    obtain ⟨ua, uc, rfl⟩ := r2.slen
    have hbx : X2[M.length]? = some ⟨[.int .i64 0, .int .i64 0, .slice none 0 0], 1, 2⟩ := get_pre p2 (by simp)
    have hrd : rdn X2 l2 0 3 = some [.int .i64 xs[i].1, .int .i64 xs[i].2.1, .slice ua (List.length (α := UInt8) xs[i].2.2) uc] := by
      have : 0 * ty_Block.w = 0 := rfl
      rw [this] at hrd
      exact hrd
    simp [thenD_pp, sliceCells_sl, sliceCells_z, sliceCells_nil, take_full, appS_sl, appK_ok, appS_none, thenD_ag, agP_nil, agP_cons, hrd, hbx, gs_of hbx, rd1_K, rdJ_ok, rdn_K, rnJ_ok, wrn_K, wrJ_ok]
    rw [gc_not rfl]
    have hgt : ∀ l ∈ K, M.length + 1 ≤ l := fun l hl => by have := k2 l (hK l hl); simp at this; omega
    refine sat_some (.inl ⟨i, hi, _, K, fun j hj' => ?_, hq, rfl, pf_set (Nat.le_refl _) ((List.prefix_append _ _).trans p2), hg.set _ (fun hm => by have := hgt _ hm; omega), ?_, fun l hl => by have := hgt l hl; omega⟩)
    · have := hj j hj'
      rw [atB_get _ (by omega)] at this
      exact of_decide_eq_true this
    · exact gr_Block_nd hg
theorem c_spec_StashFind (M : Mem) (v : V) (xs : List ty_Block.D) (id : Int) (h : Rep (.sl ty_Block) M [v] xs) (hz : BlkSz xs) (hn : xs.length ≤ 128) : Sat (aCall T0 F_spec_StashFind [v, .int .i64 id] M) (FindD M id xs) := by
  obtain ⟨a, c, rfl⟩ := h.slen
  rcases l_spec_StashFind_0 M a c xs id h hz hn with ⟨hx, e⟩ | e
  · simp only [Int.natCast_zero, Int.ofNat_zero] at e
    rw [aCall_eq T_spec_StashFind]; unfold A_spec_StashFind C_spec_StashFind; simp [thenD_pp, sliceCells_sl, sliceCells_z, sliceCells_nil, take_full, appS_sl, appK_ok, appS_none, thenD_ag, agP_nil, agP_cons, e]
    rw [S_spec_StashFind_0]; unfold B_spec_StashFind_0; simp [thenD_pp, sliceCells_sl, sliceCells_z, sliceCells_nil, take_full, appS_sl, appK_ok, appS_none, thenD_ag, agP_nil, agP_cons]
    refine sat_some (.inr ⟨fun b hb => ?_, rfl, List.prefix_append _ _⟩)
    obtain ⟨i, hi, rfl⟩ := List.getElem_of_mem hb
    have := hx i hi
    rw [atB_get _ hi] at this
    exact of_decide_eq_true this
  · simp only [Int.natCast_zero, Int.ofNat_zero] at e
    rw [aCall_eq T_spec_StashFind]; unfold A_spec_StashFind C_spec_StashFind; simp [thenD_pp, sliceCells_sl, sliceCells_z, sliceCells_nil, take_full, appS_sl, appK_ok, appS_none, thenD_ag, agP_nil, agP_cons]
    exact e _
theorem sub_sz {xs ys : List ty_Block.D} (h : BlkSz xs) (hs : List.Sublist ys xs) : BlkSz ys := ⟨Nat.le_trans hs.length_le h.1, fun x hx => h.2 x (hs.subset hx)⟩
theorem hasId_find {M : Mem} {id : Int} {xs : List ty_Block.D} {p : V × Mem} (h : FindD M id xs p) : M <+: p.2 ∧ ∃ u0 u1 u2, p.1 = .tuple #[.agg #[u0, u1, u2], .bool (hasId id xs)] ∧ one u0 = true ∧ one u1 = true ∧ one u2 = true := by
  rcases h with ⟨i, hi, ds, L, h1, h2, h3, h4, h5, _⟩ | ⟨h1, h2, h3⟩
  · have : hasId id xs = true := List.any_eq_true.2 ⟨xs[i], List.getElem_mem hi, decide_eq_true h2⟩
    obtain ⟨u, rfl, _, _, hr⟩ := rep_g_Block h5.rep
    obtain ⟨_, _, rfl⟩ := hr.slen
    exact ⟨h4, _, _, _, by rw [h3, this], rfl, rfl, rfl⟩
  · have : hasId id xs = false := by
      unfold hasId
      rw [List.any_eq_false]
      intro b hb
      simpa using h1 b hb
    exact ⟨h3, _, _, _, by rw [h2, this], rfl, rfl, rfl⟩
theorem gr_Put {M : Mem} {a b : Int} (h0 : (Lit.int .i64 a).wf = true) (h1 : (Lit.int .i64 b).wf = true) : Gr ty_Put M [.int .i64 a, .int .i64 b] (a, b) [] :=
  ⟨[.int .i64 a], [.int .i64 b], [], [], rfl, ⟨⟨rfl, h0⟩, rfl⟩, ⟨⟨rfl, h1⟩, rfl⟩, rfl⟩
set_option maxHeartbeats 2000000 in
theorem l_spec_EvictPlan_1 (M : Mem) (a : Option Addr) (c : Nat) (xs : List ty_Block.D) (m leaf lv : Nat) (h : Rep (.sl ty_Block) M [.slice a xs.length c] xs) (hz : BlkSz xs) (hn : xs.length ≤ 128) (hL : LfOk m xs) (hm : m ≤ 6) (hlf : leaf < 2 ^ m) (hlv : lv ≤ m) (vo vr : V) (s : List ty_Put.D × List ty_Block.D × Nat) (Z : Mem) (N : Nat) (hN : N ≤ 10000) (hZ : EvI M xs N vo vr s Z) :
    ∃ vo' vr' X', EvI M xs (N + xs.length) vo' vr' (xs.foldl (stepE m leaf lv) s) X' ∧ lp (aCall T0) K_spec_EvictPlan_1 L_spec_EvictPlan_1 [.slice a xs.length c, .int .i64 m, und, .int .i64 leaf, und, und, und, und, und, vo, vr, .int .i64 lv, .int .i64 s.2.2, .int .i64 (0 : Nat), und, und, und, und, und, und, und, und, und, und, und, und, und, und, und, und, und, und, und, und, und, und, und, und, und, und, und, und, und, und, und, und, und, und, und, und, und, und, und, und, und, und, und, und, und, und, und, und, und, und, und, und, und, und, und, und, und, und, und, und, und, und, und, und, und, und, und, und, und, und, und, und, und, und] Z = lp (aCall T0) K_spec_EvictPlan_1 L_spec_EvictPlan_1 [.slice a xs.length c, .int .i64 m, und, .int .i64 leaf, und, und, und, und, und, vo', vr', .int .i64 lv, .int .i64 (xs.foldl (stepE m leaf lv) s).2.2, .int .i64 xs.length, und, und, und, und, und, und, und, und, und, und, und, und, und, und, und, und, und, und, und, und, und, und, und, und, und, und, und, und, und, und, und, und, und, und, und, und, und, und, und, und, und, und, und, und, und, und, und, und, und, und, und, und, und, und, und, und, und, und, und, und, und, und, und, und, und, und, und, und, und, und, und, und, und, und] X' := by
  have key := loop_to (call := aCall T0) (K := K_spec_EvictPlan_1) (L := L_spec_EvictPlan_1) (fun i (w : V × V) X => EvI M xs (N + i) w.1 w.2 ((xs.take i).foldl (stepE m leaf lv) s) X) (fun i (w : V × V) => [.slice a xs.length c, .int .i64 m, und, .int .i64 leaf, und, und, und, und, und, w.1, w.2, .int .i64 lv, .int .i64 ((xs.take i).foldl (stepE m leaf lv) s).2.2, .int .i64 i, und, und, und, und, und, und, und, und, und, und, und, und, und, und, und, und, und, und, und, und, und, und, und, und, und, und, und, und, und, und, und, und, und, und, und, und, und, und, und, und, und, und, und, und, und, und, und, und, und, und, und, und, und, und, und, und, und, und, und, und, und, und, und, und, und, und, und, und, und, und, und, und, und, und]) (n := xs.length) ?_ 0 (vo, vr) Z (by omega) (by simpa using hZ)
  · obtain ⟨⟨vo', vr'⟩, X', hX, e⟩ := key
    rw [List.take_length] at hX e
    exact ⟨vo', vr', X', hX, e⟩
  intro i w X hi hX
  obtain ⟨vo, vr⟩ := w
  rw [List.take_succ_eq_append_getElem hi, List.foldl_append]
  simp only [List.foldl_cons, List.foldl_nil] at hX ⊢
  generalize (xs.take i).foldl (stepE m leaf lv) s = st at hX ⊢
  obtain ⟨out, rest, n⟩ := st
  obtain ⟨Lo, Lr, pX, go, gr, nd, geo, ger, hdj, hsub, hn4, hoN⟩ := hX
  simp only at go gr hsub hn4 hoN ⊢
  obtain ⟨l, o, u, rfl, q1, q2, q3, q4, w0, w1, qu, qr⟩ := at_Block h hi
  obtain ⟨hl1, hl2⟩ := hL _ (List.getElem_mem hi)
  have e6 : IntKind.i64.wrap ((i : Int) + 1) = i + 1 := wrap_i64 (by omega) (by omega)
  have hll : l < M.length := rd1_lt q1
  have hst : stepE m leaf lv (out, rest, n) xs[i] = if hasId xs[i].1 rest = true ∧ n < 4 ∧ lv ≤ mtN m leaf xs[i] then (out ++ [((lv : Int), xs[i].1)], withoutL xs[i].1 rest, n + 1) else (out, rest, n) := rfl
  have hmt : mtN m leaf xs[i] = m - blen (Int.toNat xs[i].2.1 ^^^ leaf) := rfl
  rw [hst]
  have hrl : rest.length ≤ 128 := Nat.le_trans hsub.length_le hn
  have q1X := r1_pre pX q1
  have q2X := r1_pre pX q2
  have hS := c_spec_StashFind X vr rest xs[i].1 gr.rep (sub_sz hz hsub) hrl
  generalize xs[i] = b at *
  obtain ⟨b1, b2, b3⟩ := b
  simp only at *
  generalize Int.toNat b2 = b2n at *
  subst hl1
  obtain ⟨av, rfl⟩ := gr.shape
  obtain ⟨ao, rfl⟩ := go.shape
  rw [S_spec_EvictPlan_1]; unfold B_spec_EvictPlan_1; simp [thenD_pp, sliceCells_sl, sliceCells_z, sliceCells_nil, take_full, appS_sl, appK_ok, appS_none, thenD_ag, agP_nil, agP_cons, hi, q1X]
  generalize hx : aCall T0 F_spec_StashFind _ _ = xhx
  obtain ⟨v1, X1, rfl, hF⟩ := of_call hx hS
  clear hx
  obtain ⟨p1, u0, u1, u2, hv1, o0, o1, o2⟩ := hasId_find hF
  simp only at p1 hv1
  subst hv1
  have q1' := fun N : Mem => r1_pre (p1.trans (List.prefix_append X1 N)) q1X
  have q2' := fun N : Mem => r1_pre (p1.trans (List.prefix_append X1 N)) q2X
  have hM := fun N : Mem => c_spec_Meet N m b2n leaf hm hl2 hlf
  have hf : EvI M (xs) (N + (i + 1)) (.slice ao out.length out.length) (.slice av rest.length rest.length) (out, rest, n) (X1 ++ [⟨[u0, u1, u2], 1, 2⟩]) :=
    ⟨Lo, Lr, pf_app (pX.trans p1), go.grow (pf_app p1), gr.grow (pf_app p1), nd, geo, ger, hdj, hsub, hn4, by show out.length ≤ _; omega⟩
  cases hh : hasId b1 rest with
  | false =>
    simp only [Bool.false_eq_true, false_and, if_false]
    simp [thenD_pp, sliceCells_sl, sliceCells_z, sliceCells_nil, take_full, appS_sl, appK_ok, appS_none, thenD_ag, agP_nil, agP_cons, o0, o1, o2, e6, zeroCells]
    exact ⟨_, _, _, hf, rfl⟩
  | true =>
    simp only [true_and]
    rw [hmt]
    generalize m - blen (b2n ^^^ leaf) = mu at hM
    by_cases hc : n < 4
    · have hc' : (n : Int) < 4 := by omega
      by_cases hv : lv ≤ mu
      · have hv' : (lv : Int) ≤ (mu : Int) := by omega
        have e7 : IntKind.i64.wrap ((n : Int) + 1) = n + 1 := wrap_i64 (by omega) (by omega)
        rw [if_pos ⟨hc, hv⟩]
        simp [thenD_pp, sliceCells_sl, sliceCells_z, sliceCells_nil, take_full, appS_sl, appK_ok, appS_none, thenD_ag, agP_nil, agP_cons, o0, o1, o2, zeroCells, hi, q1', q2', hM, hc, hc', hv, hv']
        generalize hy : appS _ _ _ _ _ _ = xhy
        have hs1 : (out.length + 1) * 16 ≤ 140737488355328 := by omega
        have hwl : (Lit.int .i64 (lv : Int)).wf = true := wf_mk (by omega) (by omega)
        obtain ⟨l2, X3, L', rfl, go3, ag, hlen, hwo, nd3, hL3, hl2⟩ := go.app (t := ty_Put) (bytes := 16) hy (pf_app p1) (gr_Put (a := (lv : Int)) (b := b1) hwl w0) (by simp) nd (by simp) hs1 (by omega)
        clear hy
        have gr3 : Gr (.sl ty_Block) X3 [.slice av rest.length rest.length] rest Lr := (gr.grow (pf_app p1)).agree ag (fun j hj hm => hdj j (hwo j hm) hj)
        have p3 : M <+: X3 := ag.pre (pf_app (pX.trans p1)) (fun b hb => geo b (hwo b hb))
        have q13 := r1_pre p3 q1
        simp [thenD_pp, sliceCells_sl, sliceCells_z, sliceCells_nil, take_full, appS_sl, appK_ok, appS_none, thenD_ag, agP_nil, agP_cons, hi, q13]
        generalize hx : aCall T0 F_spec_l13Without _ _ = xhx
        obtain ⟨v4, X4, rfl, L4, p4, g4, n4, k4⟩ := of_call hx (c_spec_l13Without X3 _ rest b1 gr3.rep (sub_sz hz hsub))
        clear hx
        simp only at p4 g4
        simp [thenD_pp, sliceCells_sl, sliceCells_z, sliceCells_nil, take_full, appS_sl, appK_ok, appS_none, thenD_ag, agP_nil, agP_cons, e6, e7]
        have hx3 := p3.length_le
        refine ⟨_, _, _, ⟨L', L4, p3.trans p4, go3.grow p4, g4, nd3, fun j hj => ?_, fun j hj => Nat.le_trans hx3 (k4 j hj), fun j hj hm => ?_, (List.filter_sublist).trans hsub, by show n + 1 ≤ 4; omega, by simp; omega⟩, rfl⟩
        · rcases hL3 j hj with h | h | h
          · exact geo j h
          · simp at h
          · have := (pf_app (pX.trans p1) : M <+: X1 ++ [(⟨[u0, u1, u2], 1, 2⟩ : Blk)]).length_le
            simp at this hl2
            omega
        · have h1 := go3.lt j hj
          have h2 := k4 j hm
          omega
      · have hv' : ¬ (lv : Int) ≤ (mu : Int) := by omega
        rw [if_neg (fun h => hv h.2)]
        simp [thenD_pp, sliceCells_sl, sliceCells_z, sliceCells_nil, take_full, appS_sl, appK_ok, appS_none, thenD_ag, agP_nil, agP_cons, o0, o1, o2, e6, zeroCells, hi, q1', q2', hM, hc, hc', hv, hv']
        exact ⟨_, _, _, hf, rfl⟩
    · have hc' : ¬ (n : Int) < 4 := by omega
      rw [if_neg (fun h => hc h.1)]
      simp [thenD_pp, sliceCells_sl, sliceCells_z, sliceCells_nil, take_full, appS_sl, appK_ok, appS_none, thenD_ag, agP_nil, agP_cons, o0, o1, o2, e6, zeroCells, hi, q1', q2', hM, hc, hc']
      exact ⟨_, _, _, hf, rfl⟩
/-- One level. -/
theorem l_spec_EvictPlan_0 (M : Mem) (a : Option Addr) (c : Nat) (xs : List ty_Block.D) (m leaf : Nat) (h : Rep (.sl ty_Block) M [.slice a xs.length c] xs) (hz : BlkSz xs) (hn : xs.length ≤ 128) (hL : LfOk m xs) (hm : m ≤ 6) (hlf : leaf < 2 ^ m) (vo vr : V) (Z : Mem) (hZ : EvI M xs 0 vo vr ([], xs, 0) Z) :
    ∃ vo' vr' X', EvI M xs ((m + 1) * xs.length) vo' vr' ((levelsE m leaf xs (m + 1)).1, (levelsE m leaf xs (m + 1)).2, 0) X' ∧ lp (aCall T0) K_spec_EvictPlan_0 L_spec_EvictPlan_0 [.slice a xs.length c, .int .i64 m, und, .int .i64 leaf, und, und, und, und, und, vo, vr, .int .i64 ((m : Int) - (0 : Nat)), und, und, und, und, und, und, und, und, und, und, und, und, und, und, und, und, und, und, und, und, und, und, und, und, und, und, und, und, und, und, und, und, und, und, und, und, und, und, und, und, und, und, und, und, und, und, und, und, und, und, und, und, und, und, und, und, und, und, und, und, und, und, und, und, und, und, und, und, und, und, und, und, und, und, und, und] Z = lp (aCall T0) K_spec_EvictPlan_0 L_spec_EvictPlan_0 [.slice a xs.length c, .int .i64 m, und, .int .i64 leaf, und, und, und, und, und, vo', vr', .int .i64 ((m : Int) - (m + 1 : Nat)), und, und, und, und, und, und, und, und, und, und, und, und, und, und, und, und, und, und, und, und, und, und, und, und, und, und, und, und, und, und, und, und, und, und, und, und, und, und, und, und, und, und, und, und, und, und, und, und, und, und, und, und, und, und, und, und, und, und, und, und, und, und, und, und, und, und, und, und, und, und, und, und, und, und, und, und] X' := by
  have key := loop_to (call := aCall T0) (K := K_spec_EvictPlan_0) (L := L_spec_EvictPlan_0) (fun k (w : V × V) X => EvI M xs (k * xs.length) w.1 w.2 ((levelsE m leaf xs k).1, (levelsE m leaf xs k).2, 0) X) (fun k (w : V × V) => [.slice a xs.length c, .int .i64 m, und, .int .i64 leaf, und, und, und, und, und, w.1, w.2, .int .i64 ((m : Int) - (k : Nat)), und, und, und, und, und, und, und, und, und, und, und, und, und, und, und, und, und, und, und, und, und, und, und, und, und, und, und, und, und, und, und, und, und, und, und, und, und, und, und, und, und, und, und, und, und, und, und, und, und, und, und, und, und, und, und, und, und, und, und, und, und, und, und, und, und, und, und, und, und, und, und, und, und, und, und, und]) (n := m + 1) ?_ 0 (vo, vr) Z (by omega) (by simpa [levelsE] using hZ)
  · obtain ⟨⟨vo', vr'⟩, X', hX, e⟩ := key
    exact ⟨vo', vr', X', hX, e⟩
  intro k w X hk hX
  obtain ⟨vo, vr⟩ := w
  simp only at hX ⊢
  have hkm : k * xs.length ≤ 10000 := Nat.le_trans (Nat.mul_le_mul (show k ≤ 6 by omega) hn) (by omega)
  obtain ⟨vo', vr', X', hX', e⟩ := l_spec_EvictPlan_1 M a c xs m leaf (m - k) h hz hn hL hm hlf (by omega) vo vr _ X _ hkm hX
  rw [levelsE_succ]
  have hlv : ((m - k : Nat) : Int) = (m : Int) - k := by omega
  have hge : k ≤ m := by omega
  have e7 : IntKind.i64.wrap ((m : Int) - k - 1) = (m : Int) - (k + 1 : Nat) := by rw [wrap_i64 (by omega) (by omega)]; omega
  simp only [Int.natCast_zero, Int.ofNat_zero, hlv] at e
  have hfo : EvI M xs ((k + 1) * xs.length) vo' vr' ((levelE m leaf xs (levelsE m leaf xs k) (m - k)).1, (levelE m leaf xs (levelsE m leaf xs k) (m - k)).2, 0) X' := by
    obtain ⟨Lo, Lr, h1, h2, h3, h4, h5, h6, h7, h8, h9, h10⟩ := hX'
    exact ⟨Lo, Lr, h1, h2, h3, h4, h5, h6, h7, h8, by show 0 ≤ 4; omega, by rw [Nat.succ_mul]; exact h10⟩
  refine ⟨(vo', vr'), X', hfo, ?_⟩
  rw [S_spec_EvictPlan_0]; unfold B_spec_EvictPlan_0; simp [thenD_pp, sliceCells_sl, sliceCells_z, sliceCells_nil, take_full, appS_sl, appK_ok, appS_none, thenD_ag, agP_nil, agP_cons, hge, e]
  rw [S_spec_EvictPlan_1]; unfold B_spec_EvictPlan_1; simp [thenD_pp, sliceCells_sl, sliceCells_z, sliceCells_nil, take_full, appS_sl, appK_ok, appS_none, thenD_ag, agP_nil, agP_cons, e7]
theorem leaf_nat {m : Nat} {x : Int} (h : leafB m x = true) : x = ((Int.toNat x : Nat) : Int) ∧ Int.toNat x < 2 ^ m := by
  unfold leafB at h
  simp only [Bool.and_eq_true, decide_eq_true_eq] at h
  obtain ⟨_, h1, h2⟩ := h
  have : ((m : Int).toNat) = m := by omega
  rw [this, pow2_cast] at h2
  omega
theorem blocks_of {l w : Int} {xs : List ty_Block.D} (h : blocksB l w xs = true) : ∀ b ∈ xs, blockB l w b = true := by
  intro b hb
  obtain ⟨i, hi, rfl⟩ := List.getElem_of_mem hb
  unfold blocksB at h
  rw [Bool.and_eq_true] at h
  have := List.all_eq_true.1 h.2 i (List.mem_range.2 hi)
  unfold stepB at this
  rw [List.getElem?_eq_getElem hi] at this
  rw [Bool.and_eq_true] at this
  exact this.1
theorem lf_ok {m : Nat} {w : Int} {xs : List ty_Block.D} (h : blocksB m w xs = true) : LfOk m xs := fun b hb => by
  have := blocks_of h b hb
  unfold blockB at this
  simp only [Bool.and_eq_true] at this
  exact leaf_nat this.2.2.1
theorem ev_of {l w lf : Int} {xs : List ty_Block.D} (h : evB l w lf xs = true) : ∃ m n : Nat, l = m ∧ lf = n ∧ m ≤ 6 ∧ n < 2 ^ m ∧ LfOk m xs ∧ xs.length ≤ 128 ∧ blocksB m w xs = true := by
  unfold evB stashB at h
  simp only [Bool.and_eq_true, decide_eq_true_eq] at h
  obtain ⟨⟨h1, h2⟩, h3⟩ := h
  have hl : lgB l = true := by
    unfold leafB at h3
    rw [Bool.and_eq_true] at h3
    exact h3.1
  obtain ⟨m, rfl, hm⟩ := log_nat hl
  obtain ⟨q1, q2⟩ := leaf_nat h3
  exact ⟨m, lf.toNat, rfl, q1, hm, q2, lf_ok h2, h1, h2⟩
theorem c_spec_EvictPlan (M : Mem) (v : V) (xs : List ty_Block.D) (l w lf : Int) (h : Rep (.sl ty_Block) M [v] xs) (hz : BlkSz xs) : (evB l w lf xs = false ∧ aCall T0 F_spec_EvictPlan [v, .int .i64 l, .int .i64 w, .int .i64 lf] M = some (.slice none 0 0, M)) ∨
    (evB l w lf xs = true ∧ Sat (aCall T0 F_spec_EvictPlan [v, .int .i64 l, .int .i64 w, .int .i64 lf] M) (GrV ty_Put M (levelsE l.toNat lf.toNat xs (l.toNat + 1)).1)) := by
  have e1 := fun M' (hp : M <+: M') => c_spec_StashOk M' v xs l w (h.mono hp) hz.1
  have e1 := e1 M (List.prefix_refl _)
  have e2 := fun M => c_spec_l11Leaf M l lf
  obtain ⟨a, c, rfl⟩ := h.slen
  cases hb : evB l w lf xs with
  | false =>
    left
    refine ⟨rfl, ?_⟩
    unfold evB at hb
    cases h1 : stashB l w xs with
    | false =>
      rw [h1] at e1
      rw [aCall_eq T_spec_EvictPlan]; unfold A_spec_EvictPlan C_spec_EvictPlan; simp [thenD_pp, sliceCells_sl, sliceCells_z, sliceCells_nil, take_full, appS_sl, appK_ok, appS_none, thenD_ag, agP_nil, agP_cons, e1]
    | true =>
      rw [h1] at e1 hb
      rw [Bool.true_and] at hb
      rw [hb] at e2
      rw [aCall_eq T_spec_EvictPlan]; unfold A_spec_EvictPlan C_spec_EvictPlan; simp [thenD_pp, sliceCells_sl, sliceCells_z, sliceCells_nil, take_full, appS_sl, appK_ok, appS_none, thenD_ag, agP_nil, agP_cons, e1, e2]
  | true =>
    right
    refine ⟨rfl, ?_⟩
    obtain ⟨m, n, rfl, rfl, hm, hn, hL, hle, _⟩ := ev_of hb
    unfold evB at hb
    rw [Bool.and_eq_true] at hb
    rw [hb.1] at e1
    rw [hb.2] at e2
    have t1 : ((m : Int).toNat) = m := by omega
    have t2 : ((n : Int).toNat) = n := by omega
    rw [t1, t2]
    rw [aCall_eq T_spec_EvictPlan]; unfold A_spec_EvictPlan C_spec_EvictPlan; simp [thenD_pp, sliceCells_sl, sliceCells_z, sliceCells_nil, take_full, appS_sl, appK_ok, appS_none, thenD_ag, agP_nil, agP_cons, e1, e2, zeroCells]
    generalize hx : aCall T0 F_spec_l13Copy _ _ = xhx
    obtain ⟨v1, X1, rfl, L1, p1, g1, n1, k1⟩ := of_call hx (c_spec_l13Copy _ _ xs (h.mono (List.prefix_append M _)) hz)
    clear hx
    simp only at p1 g1
    have hZ : EvI M xs 0 (.slice (some ⟨M.length, 0, none⟩) 0 0) v1 ([], xs, 0) X1 := ⟨[M.length], L1, (List.prefix_append _ _).trans p1, gr0 (t := ty_Put) (get_pre p1 (by simp [Ty.w])), g1, by simp, by simp, fun l hl => by have := k1 l hl; simp at this; omega, fun l hl hm => by
      simp at hl
      have := k1 l hm
      simp at this
      omega, List.Sublist.refl _, by simp, by simp⟩
    obtain ⟨vo', vr', X', ⟨Lo, Lr, q1, q2, q3, q4, q5, _⟩, e⟩ := l_spec_EvictPlan_0 M a c xs m n h hz hle hL hm hn _ _ X1 hZ
    simp only [Int.natCast_zero, Int.ofNat_zero, Int.sub_zero] at e
    obtain ⟨av, rfl⟩ := g1.shape
    obtain ⟨ao, rfl⟩ := q2.shape
    have hneg : ¬ (m : Int) + 1 ≤ (m : Int) := by omega
    simp [thenD_pp, sliceCells_sl, sliceCells_z, sliceCells_nil, take_full, appS_sl, appK_ok, appS_none, thenD_ag, agP_nil, agP_cons, e]
    rw [S_spec_EvictPlan_0]; unfold B_spec_EvictPlan_0; simp [thenD_pp, sliceCells_sl, sliceCells_z, sliceCells_nil, take_full, appS_sl, appK_ok, appS_none, thenD_ag, agP_nil, agP_cons, hneg]
    exact ⟨(_, X'), rfl, Lo, q1, q2, q4, q5⟩
theorem blkSz_of {xs : List ty_Block.D} (h : Bd 1048576 (.sl ty_Block) xs) : BlkSz xs := ⟨h.1, fun x hx => (h.2 x hx).2.2.1⟩
theorem plan_len {l w lf : Int} {xs : List ty_Block.D} (h : evB l w lf xs = true) : (levelsE l.toNat lf.toNat xs (l.toNat + 1)).1.length ≤ 10000 := by
  obtain ⟨m, n, rfl, rfl, hm, hn, hL, hle, hbl⟩ := ev_of h
  have t1 : ((m : Int).toNat) = m := by omega
  have t2 : ((n : Int).toNat) = n := by omega
  rw [t1, t2]
  have key : ∀ k, (levelsE m n xs k).1.length ≤ k * 128 := by
    intro k
    induction k with
    | zero => simp [levelsE]
    | succ k ih =>
      rw [levelsE_succ]
      have h2 : ∀ (ys : List ty_Block.D) (s : List ty_Put.D × List ty_Block.D × Nat), (ys.foldl (stepE m n (m - k)) s).1.length ≤ s.1.length + ys.length := by
        intro ys
        induction ys with
        | nil => intro s; simp
        | cons y ys ih2 =>
          intro s
          rw [List.foldl_cons]
          have := ih2 (stepE m n (m - k) s y)
          have h3 : (stepE m n (m - k) s y).1.length ≤ s.1.length + 1 := by
            unfold stepE
            split
            · simp
            · omega
          simp only [List.length_cons]
          omega
      have := h2 xs ((levelsE m n xs k).1, (levelsE m n xs k).2, 0)
      simp only at this
      unfold levelE
      simp only
      omega
  have := key (m + 1)
  omega
abbrev enc_Put (x : ty_Put.D) : List V := [.int .i64 x.1, .int .i64 x.2]
theorem rep_Put {M : Mem} {cs : List V} {x : ty_Put.D} (h : Rep ty_Put M cs x) : cs = enc_Put x := by
  obtain ⟨_, _, rfl, ⟨rfl, _⟩, ⟨rfl, _⟩⟩ := h
  rfl
theorem at_Put {M : Mem} {a : Option Addr} {n c : Nat} {xs : List ty_Put.D} (h : Rep (.sl ty_Put) M [.slice a n c] xs) {i : Nat} (hi : i < xs.length) : ∃ l o, a = some ⟨l, o, none⟩ ∧ Rep ty_Put M (enc_Put xs[i]) xs[i] ∧ rdn M l (o + i * 2) 2 = some (enc_Put xs[i]) ∧ rd1 M l (o + i * 2) = some (.int .i64 xs[i].1) ∧ rd1 M l (o + i * 2 + 1) = some (.int .i64 xs[i].2) := by
  obtain ⟨_, l, o, rfl, cs, hrd, hrep⟩ := rep_at h hi
  have hcs := rep_Put hrep
  subst hcs
  have hw : ty_Put.w = 2 := rfl
  rw [hw] at hrd
  exact ⟨l, o, rfl, hrep, hrd, rd1_of_rdn hrd (k := 0) rfl, rd1_of_rdn hrd (k := 1) rfl⟩
def RsI (M : Mem) (v : V) (ys : List ty_Block.D) (X : Mem) : Prop := M <+: X ∧ Rep (.sl ty_Block) X [v] ys
theorem l_spec_EvictRest_0 (M : Mem) (a : Option Addr) (c : Nat) (ps : List ty_Put.D) (h : Rep (.sl ty_Put) M [.slice a ps.length c] ps) (hn : ps.length ≤ 1048576) (xs : List ty_Block.D) (hz : BlkSz xs) (v : V) (Z : Mem) (hZ : RsI M v xs Z) :
    ∃ v' X', RsI M v' (lessL xs ps) X' ∧ lp (aCall T0) K_spec_EvictRest_0 L_spec_EvictRest_0 [und, und, und, und, und, und, und, und, und, v, .slice a ps.length c, .int .i64 (0 : Nat), und, und, und, und, und, und, und, und, und, und, und, und, und, und, und, und, und, und, und, und, und, und, und, und, und, und, und, und, und, und, und, und] Z = lp (aCall T0) K_spec_EvictRest_0 L_spec_EvictRest_0 [und, und, und, und, und, und, und, und, und, v', .slice a ps.length c, .int .i64 ps.length, und, und, und, und, und, und, und, und, und, und, und, und, und, und, und, und, und, und, und, und, und, und, und, und, und, und, und, und, und, und, und, und] X' := by
  have key := loop_to (call := aCall T0) (K := K_spec_EvictRest_0) (L := L_spec_EvictRest_0) (fun i v X => RsI M v (lessL xs (ps.take i)) X) (fun i v => [und, und, und, und, und, und, und, und, und, v, .slice a ps.length c, .int .i64 i, und, und, und, und, und, und, und, und, und, und, und, und, und, und, und, und, und, und, und, und, und, und, und, und, und, und, und, und, und, und, und, und]) (n := ps.length) ?_ 0 v Z (by omega) (by simpa [lessL] using hZ)
  · obtain ⟨v', X', hX, e⟩ := key
    rw [List.take_length] at hX
    exact ⟨v', X', hX, e⟩
  intro i v X hi ⟨pX, hr⟩
  rw [List.take_succ_eq_append_getElem hi, lessL_snoc]
  have hsz : BlkSz (lessL xs (ps.take i)) := sub_sz hz (lessL_sub _ _)
  generalize lessL xs (ps.take i) = ys at *
  obtain ⟨l, o, rfl, q1, q2, q3, q4⟩ := at_Put h hi
  have q4X := r1_pre pX q4
  have e6 : IntKind.i64.wrap ((i : Int) + 1) = i + 1 := wrap_i64 (by omega) (by omega)
  have hW := c_spec_l13Without X _ ys ps[i].2 hr hsz
  obtain ⟨av, cv, rfl⟩ := hr.slen
  rw [S_spec_EvictRest_0]; unfold B_spec_EvictRest_0; simp [thenD_pp, sliceCells_sl, sliceCells_z, sliceCells_nil, take_full, appS_sl, appK_ok, appS_none, thenD_ag, agP_nil, agP_cons, hi, q4X]
  generalize hx : aCall T0 F_spec_l13Without _ _ = xhx
  obtain ⟨v1, X1, rfl, L1, p1, g1, n1, k1⟩ := of_call hx hW
  clear hx
  simp only at p1 g1
  simp [thenD_pp, sliceCells_sl, sliceCells_z, sliceCells_nil, take_full, appS_sl, appK_ok, appS_none, thenD_ag, agP_nil, agP_cons, e6]
  exact ⟨v1, X1, ⟨pX.trans p1, g1.rep⟩, rfl⟩
def RsV (M : Mem) (ys : List ty_Block.D) (p : V × Mem) : Prop := RsI M p.1 ys p.2
theorem d_spec_EvictRest (M : Mem) (v : V) (xs : List ty_Block.D) (h : Rep (.sl ty_Block) M [v] xs) (hb : Bd 1048576 (.sl ty_Block) xs) (l w lf : Int) :
    ∃ M' r, M <+: M' ∧ aCall T0 F_spec_EvictRest [v, .int .i64 l, .int .i64 w, .int .i64 lf] M = some (r, M') ∧ Rep (.sl ty_Block) M' [r] (restX xs l w lf) := by
  have hz := blkSz_of hb
  have e1 := c_spec_StashOk M v xs l w h hz.1
  have e2 := fun M => c_spec_l11Leaf M l lf
  cases hev : evB l w lf xs with
  | false =>
    rw [restX_f hev]
    unfold evB at hev
    obtain ⟨a, c, rfl⟩ := h.slen
    have key : aCall T0 F_spec_EvictRest [.slice a xs.length c, .int .i64 l, .int .i64 w, .int .i64 lf] M = some (.slice none 0 0, M) := by
      cases h1 : stashB l w xs with
      | false =>
        rw [h1] at e1
        rw [aCall_eq T_spec_EvictRest]; unfold A_spec_EvictRest C_spec_EvictRest; simp [thenD_pp, sliceCells_sl, sliceCells_z, sliceCells_nil, take_full, appS_sl, appK_ok, appS_none, thenD_ag, agP_nil, agP_cons, e1]
      | true =>
        rw [h1] at e1 hev
        rw [Bool.true_and] at hev
        rw [hev] at e2
        rw [aCall_eq T_spec_EvictRest]; unfold A_spec_EvictRest C_spec_EvictRest; simp [thenD_pp, sliceCells_sl, sliceCells_z, sliceCells_nil, take_full, appS_sl, appK_ok, appS_none, thenD_ag, agP_nil, agP_cons, e1, e2]
    exact ⟨M, _, List.prefix_refl _, key, .inl ⟨rfl, rfl⟩⟩
  | true =>
    rw [restX_t hev, levels_less]
    have hpl := plan_len hev
    have hP := fun M' (hp : M <+: M') => c_spec_EvictPlan M' v xs l w lf (h.mono hp) hz
    have hC := c_spec_l13Copy M v xs h hz
    have hev' := hev
    unfold evB at hev'
    rw [Bool.and_eq_true] at hev'
    rw [hev'.1] at e1
    rw [hev'.2] at e2
    obtain ⟨a, c, rfl⟩ := h.slen
    have key : Sat (aCall T0 F_spec_EvictRest [.slice a xs.length c, .int .i64 l, .int .i64 w, .int .i64 lf] M) (RsV M (lessL xs (levelsE l.toNat lf.toNat xs (l.toNat + 1)).1)) := by
      rw [aCall_eq T_spec_EvictRest]; unfold A_spec_EvictRest C_spec_EvictRest; simp [thenD_pp, sliceCells_sl, sliceCells_z, sliceCells_nil, take_full, appS_sl, appK_ok, appS_none, thenD_ag, agP_nil, agP_cons, e1, e2]
      generalize hx : aCall T0 F_spec_l13Copy _ _ = xhx
      obtain ⟨v1, X1, rfl, L1, p1, g1, n1, k1⟩ := of_call hx hC
      clear hx
      simp only at p1 g1
      obtain ⟨a1, rfl⟩ := g1.shape
      simp [thenD_pp, sliceCells_sl, sliceCells_z, sliceCells_nil, take_full, appS_sl, appK_ok, appS_none, thenD_ag, agP_nil, agP_cons]
      generalize hx : aCall T0 F_spec_EvictPlan _ _ = xhx
      rcases hP X1 p1 with ⟨hf, _⟩ | ⟨_, hS⟩
      · rw [hev] at hf; cases hf
      obtain ⟨v2, X2, rfl, L2, p2, g2, n2, k2⟩ := of_call hx hS
      clear hx
      simp only at p2 g2
      generalize (levelsE l.toNat lf.toNat xs (l.toNat + 1)).1 = plan at *
      obtain ⟨a2, rfl⟩ := g2.shape
      obtain ⟨v3, X3, ⟨p3, r3⟩, e⟩ := l_spec_EvictRest_0 X2 a2 plan.length plan g2.rep (by omega) xs hz _ X2 ⟨List.prefix_refl _, (g1.grow p2).rep⟩
      simp only [Int.natCast_zero, Int.ofNat_zero] at e
      obtain ⟨a3, c3, rfl⟩ := r3.slen
      simp [thenD_pp, sliceCells_sl, sliceCells_z, sliceCells_nil, take_full, appS_sl, appK_ok, appS_none, thenD_ag, agP_nil, agP_cons, e]
      rw [S_spec_EvictRest_0]; unfold B_spec_EvictRest_0; simp [thenD_pp, sliceCells_sl, sliceCells_z, sliceCells_nil, take_full, appS_sl, appK_ok, appS_none, thenD_ag, agP_nil, agP_cons]
      exact ⟨(_, X3), rfl, (p1.trans p2).trans p3, r3⟩
    obtain ⟨⟨r, M'⟩, e, q1, q2⟩ := key
    exact ⟨M', r, q1, e, q2⟩
theorem c_impl_within (M : Mem) (x a b : Int) : aCall T0 F_impl_within [.int .i64 x, .int .i64 a, .int .i64 b] M = some (.bool (decide (a ≤ x) && decide (x ≤ b)), M) := by
  rw [aCall_eq T_impl_within]; unfold A_impl_within C_impl_within; simp
  repeat' ((first | rw [selO_some] | rw [condR_bool] | rw [selD_some]); split <;> rename_i hq <;> (have hq2 := hq) <;> (try simp at hq2) <;> (try simp [*]))
theorem c_impl_isLog (M : Mem) (x : Int) : aCall T0 F_impl_isLog [.int .i64 x] M = some (.bool (decide (0 ≤ x) && decide (x ≤ 6)), M) := by
  rw [aCall_eq T_impl_isLog]; unfold A_impl_isLog C_impl_isLog; simp [c_impl_within]
theorem pow2_pos (n : Nat) : (0 : Int) < 2 ^ n := Int.pow_pos (by omega)
theorem pow6 {m : Nat} (h : m ≤ 6) : (1 : Int) ≤ 2 ^ m ∧ (2 : Int) ^ m ≤ 64 := ⟨by have := pow2_pos m; omega, by have := pow2_le h; omega⟩
theorem c_impl_isLeaf (M : Mem) (l x : Int) : aCall T0 F_impl_isLeaf [.int .i64 l, .int .i64 x] M = some (.bool (leafB l x), M) := by
  unfold leafB
  cases h : lgB l with
  | false =>
    have e : (decide (0 ≤ l) && decide (l ≤ 6)) = false := h
    rw [aCall_eq T_impl_isLeaf]; unfold A_impl_isLeaf C_impl_isLeaf; simp [c_impl_isLog, e]
  | true =>
    have e : (decide (0 ≤ l) && decide (l ≤ 6)) = true := h
    obtain ⟨m, rfl, hm⟩ := log_nat h
    have e2 := fun M => (c_impl_isLog M m).trans (by rw [e])
    have hp := pow6 hm
    have e1 : bshl .i64 1 m = 2 ^ m := by
      unfold bshl
      have h : min (m : Int).toNat IntKind.i64.bits = m := by show min _ 64 = m; omega
      rw [h, wrap_i64 (by omega) (by omega)]
      omega
    have e3 : IntKind.i64.wrap ((2 : Int) ^ m - 1) = 2 ^ m - 1 := wrap_i64 (by omega) (by omega)
    have e4 : decide (x ≤ 2 ^ m - 1) = decide (x < 2 ^ m) := by
      by_cases h : x < 2 ^ m
      · rw [decide_eq_true h, decide_eq_true (by omega)]
      · rw [decide_eq_false h, decide_eq_false (by omega)]
    rw [aCall_eq T_impl_isLeaf]; unfold A_impl_isLeaf C_impl_isLeaf; simp [e2, e1, e3, c_impl_within, e4]
theorem c_impl_isBlock (M : Mem) (cs : List V) (b : ty_Block.D) (h : Rep ty_Block M cs b) (l w : Int) : aCall T0 F_impl_isBlock [.agg cs.toArray, .int .i64 l, .int .i64 w] M = some (.bool (blockB l w b), M) := by
  obtain ⟨u, rfl, w0, w1, hr⟩ := rep_g_Block h
  obtain ⟨a, c, rfl⟩ := hr.slen
  have e2 := fun M => c_impl_isLeaf M l b.2.1
  have e3 := fun M => c_impl_within M w 1 200
  have e4 := fun M => c_impl_within M b.1 0 255
  have hb : blockB l w b = (leafB l b.2.1 && wdB w && bidB b.1 && decide ((List.length (α := UInt8) b.2.2 : Int) = w)) := by
    unfold blockB leafB
    cases lgB l <;> cases wdB w <;> cases bidB b.1 <;> simp
  rw [hb]
  clear hb
  cases h4 : leafB l b.2.1 with
  | false => rw [aCall_eq T_impl_isBlock]; unfold A_impl_isBlock C_impl_isBlock; simp [e2, h4]
  | true =>
    cases h5 : wdB w with
    | false =>
      have h5 : (decide (1 ≤ w) && decide (w ≤ 200)) = false := h5
      rw [aCall_eq T_impl_isBlock]; unfold A_impl_isBlock C_impl_isBlock; simp [e2, h4, e3, h5]
    | true =>
      have h5 : (decide (1 ≤ w) && decide (w ≤ 200)) = true := h5
      cases h6 : bidB b.1 with
      | false =>
        have h6 : (decide (0 ≤ b.1) && decide (b.1 ≤ 255)) = false := h6
        rw [aCall_eq T_impl_isBlock]; unfold A_impl_isBlock C_impl_isBlock; simp [e2, h4, e3, h5, e4, h6]
      | true =>
        have h6 : (decide (0 ≤ b.1) && decide (b.1 ≤ 255)) = true := h6
        rw [aCall_eq T_impl_isBlock]; unfold A_impl_isBlock C_impl_isBlock; simp [e2, h4, e3, h5, e4, h6]
theorem gc_boolp {M M' : Mem} (hp : M <+: M') (b : Bool) : gc M (some (.bool b, M')) = some (.bool b, M) := by
  obtain ⟨N, rfl⟩ := hp
  exact gc_bool M N b
theorem l_impl_areBlocks_0 (M : Mem) (a : Option Addr) (c : Nat) (xs : List ty_Block.D) (l w : Int) (h : Rep (.sl ty_Block) M [.slice a xs.length c] xs) (hn : xs.length ≤ 1048576) :
    (∃ X', M <+: X' ∧ (∀ i, i < xs.length → stepB l w xs i = true) ∧ lp (aCall T0) K_impl_areBlocks_0 L_impl_areBlocks_0 [.slice a xs.length c, .int .i64 l, .int .i64 w, und, und, und, und, und, und, .slice a xs.length c, .int .i64 xs.length, .int .i64 (0 : Nat), und, und, und, und, und, und, und, und, und, und, und, und, und, und, und, und, und, und, und, und, und, und, und, und, und, und, und, und, und, und, und] M = lp (aCall T0) K_impl_areBlocks_0 L_impl_areBlocks_0 [.slice a xs.length c, .int .i64 l, .int .i64 w, und, und, und, und, und, und, .slice a xs.length c, .int .i64 xs.length, .int .i64 xs.length, und, und, und, und, und, und, und, und, und, und, und, und, und, und, und, und, und, und, und, und, und, und, und, und, und, und, und, und, und, und, und] X') ∨
    ((∃ i, i < xs.length ∧ stepB l w xs i = false) ∧ ∀ k, thenF M [.tmp 6] (thenS (blockR 0 (lp (aCall T0) K_impl_areBlocks_0 L_impl_areBlocks_0 [.slice a xs.length c, .int .i64 l, .int .i64 w, und, und, und, und, und, und, .slice a xs.length c, .int .i64 xs.length, .int .i64 (0 : Nat), und, und, und, und, und, und, und, und, und, und, und, und, und, und, und, und, und, und, und, und, und, und, und, und, und, und, und, und, und, und, und] M)) (aCall T0) k) = some (.bool false, M)) := by
  have key := loop_ok (call := aCall T0) (K := K_impl_areBlocks_0) (L := L_impl_areBlocks_0) (fun _ Y => M <+: Y) (fun i => [.slice a xs.length c, .int .i64 l, .int .i64 w, und, und, und, und, und, und, .slice a xs.length c, .int .i64 xs.length, .int .i64 i, und, und, und, und, und, und, und, und, und, und, und, und, und, und, und, und, und, und, und, und, und, und, und, und, und, und, und, und, und, und, und]) (stepB l w xs) (n := xs.length) (M0 := M) (rs := [.tmp 6]) (k0 := 0) (a := .bool false) M (List.prefix_refl _) ?_ ?_
  · rcases key with ⟨X', hp, h1, h2⟩ | h
    · exact .inl ⟨X', hp, h1, h2⟩
    · exact .inr h
  · intro i Y hi hq hY
    have e6 : IntKind.i64.wrap ((i : Int) + 1) = i + 1 := wrap_i64 (by omega) (by omega)
    have e8 : IntKind.i64.wrap 1 = 1 := wrap_i64 (by omega) (by omega)
    obtain ⟨b, o, u, rfl, q1, q2, q3, q4, _, _, qu, qr⟩ := at_Block (h.mono hY) hi
    obtain ⟨ua, uc, rfl⟩ := qu.slen
    have hc := fun N : Mem => c_impl_isBlock (Y ++ N) _ _ (qr.mono (List.prefix_append Y N)) l w
    refine ⟨Y ++ [⟨[.int .i64 xs[i].1, .int .i64 xs[i].2.1, .slice ua (List.length (α := UInt8) xs[i].2.2) uc], 1, 2⟩], hY.trans (List.prefix_append _ _), ?_⟩
    rcases Nat.eq_zero_or_pos i with h0 | h0
    · subst h0
      rw [stepB_zero hi] at hq
      simp only [Int.natCast_zero, Int.ofNat_zero, Nat.zero_mul, Nat.add_zero] at *
      rw [S_impl_areBlocks_0]; unfold B_impl_areBlocks_0; simp [thenD_pp, sliceCells_sl, sliceCells_z, sliceCells_nil, take_full, appS_sl, appK_ok, appS_none, thenD_ag, agP_nil, agP_cons, hi, q4, hc, hq, e6, e8]
    · rw [stepB_pos hi h0, Bool.and_eq_true] at hq
      have hi' : (0 : Int) < (i : Int) := by omega
      have e7 : IntKind.i64.wrap ((i : Int) - 1) = ((i - 1 : Nat) : Int) := by rw [wrap_i64 (by omega) (by omega)]; omega
      obtain ⟨b', o', u', e, q1', _⟩ := at_Block (h.mono hY) (i := i - 1) (by omega)
      cases e
      have q1' := fun N : Mem => rd1_old (N := N) q1'
      have hlt := of_decide_eq_true hq.2
      have hge : ¬ (xs[i].1 ≤ (xs[i - 1]'(by omega)).1) := Int.not_le.2 hlt
      have hi1 : i - 1 < xs.length := by omega
      rw [S_impl_areBlocks_0]; unfold B_impl_areBlocks_0; simp [thenD_pp, sliceCells_sl, sliceCells_z, sliceCells_nil, take_full, appS_sl, appK_ok, appS_none, thenD_ag, agP_nil, agP_cons, hi, q4, hc, hq.1, e6, hi', h0, e7, q1', hge, hi1]
  · intro i Y hi hq hY k
    have e6 : IntKind.i64.wrap ((i : Int) + 1) = i + 1 := wrap_i64 (by omega) (by omega)
    have e8 : IntKind.i64.wrap 1 = 1 := wrap_i64 (by omega) (by omega)
    obtain ⟨b, o, u, rfl, q1, q2, q3, q4, _, _, qu, qr⟩ := at_Block (h.mono hY) hi
    obtain ⟨ua, uc, rfl⟩ := qu.slen
    have hc := fun N : Mem => c_impl_isBlock (Y ++ N) _ _ (qr.mono (List.prefix_append Y N)) l w
    have gb := fun (N : Mem) b => gc_boolp (hY.trans (List.prefix_append Y N)) b
    rcases Nat.eq_zero_or_pos i with h0 | h0
    · subst h0
      rw [stepB_zero hi] at hq
      simp only [Int.natCast_zero, Int.ofNat_zero, Nat.zero_mul, Nat.add_zero] at *
      rw [S_impl_areBlocks_0]; unfold B_impl_areBlocks_0; simp [thenD_pp, sliceCells_sl, sliceCells_z, sliceCells_nil, take_full, appS_sl, appK_ok, appS_none, thenD_ag, agP_nil, agP_cons, hi, q4, hc, hq, e6, e8, gb]
    · rw [stepB_pos hi h0] at hq
      have hi' : (0 : Int) < (i : Int) := by omega
      have e7 : IntKind.i64.wrap ((i : Int) - 1) = ((i - 1 : Nat) : Int) := by rw [wrap_i64 (by omega) (by omega)]; omega
      obtain ⟨b', o', u', e, q1', _⟩ := at_Block (h.mono hY) (i := i - 1) (by omega)
      cases e
      have q1' := fun N : Mem => rd1_old (N := N) q1'
      have hi1 : i - 1 < xs.length := by omega
      cases hb : blockB l w xs[i] with
      | false =>
        rw [hb] at hc
        rw [S_impl_areBlocks_0]; unfold B_impl_areBlocks_0; simp [thenD_pp, sliceCells_sl, sliceCells_z, sliceCells_nil, take_full, appS_sl, appK_ok, appS_none, thenD_ag, agP_nil, agP_cons, hi, q4, hc, e6, gb]
      | true =>
        rw [hb] at hc
        rw [hb, Bool.true_and] at hq
        have hlt := of_decide_eq_false hq
        have hge : xs[i].1 ≤ (xs[i - 1]'(by omega)).1 := Int.not_lt.1 hlt
        rw [S_impl_areBlocks_0]; unfold B_impl_areBlocks_0; simp [thenD_pp, sliceCells_sl, sliceCells_z, sliceCells_nil, take_full, appS_sl, appK_ok, appS_none, thenD_ag, agP_nil, agP_cons, hi, q4, hc, e6, hi', h0, e7, q1', hge, hi1, gb]
theorem c_impl_areBlocks (M : Mem) (v : V) (xs : List ty_Block.D) (l w : Int) (h : Rep (.sl ty_Block) M [v] xs) (hn : xs.length ≤ 1048576) : aCall T0 F_impl_areBlocks [v, .int .i64 l, .int .i64 w] M = some (.bool (blocksB l w xs), M) := by
  obtain ⟨a, c, rfl⟩ := h.slen
  have e1 := fun M => c_impl_isLog M l
  have e2 := fun M => c_impl_within M w 1 200
  unfold blocksB
  rcases l_impl_areBlocks_0 M a c xs l w h hn with ⟨X', hp, ha, e⟩ | ⟨hx, e⟩
  · simp only [Int.natCast_zero, Int.ofNat_zero] at e
    rw [rall_all ha, Bool.and_true]
    have gb := fun b => gc_boolp hp b
    unfold lgB wdB
    cases h1 : (decide (0 ≤ l) && decide (l ≤ 6)) with
    | false =>
      rw [aCall_eq T_impl_areBlocks]; unfold A_impl_areBlocks C_impl_areBlocks; simp [thenD_pp, sliceCells_sl, sliceCells_z, sliceCells_nil, take_full, appS_sl, appK_ok, appS_none, thenD_ag, agP_nil, agP_cons, e]
      rw [S_impl_areBlocks_0]; unfold B_impl_areBlocks_0; simp [thenD_pp, sliceCells_sl, sliceCells_z, sliceCells_nil, take_full, appS_sl, appK_ok, appS_none, thenD_ag, agP_nil, agP_cons, e1, h1, gb]
    | true =>
      rw [aCall_eq T_impl_areBlocks]; unfold A_impl_areBlocks C_impl_areBlocks; simp [thenD_pp, sliceCells_sl, sliceCells_z, sliceCells_nil, take_full, appS_sl, appK_ok, appS_none, thenD_ag, agP_nil, agP_cons, e]
      rw [S_impl_areBlocks_0]; unfold B_impl_areBlocks_0; simp [thenD_pp, sliceCells_sl, sliceCells_z, sliceCells_nil, take_full, appS_sl, appK_ok, appS_none, thenD_ag, agP_nil, agP_cons, e1, h1, e2, gb]
  · simp only [Int.natCast_zero, Int.ofNat_zero] at e
    rw [rall_not hx, Bool.and_false]
    rw [aCall_eq T_impl_areBlocks]; unfold A_impl_areBlocks C_impl_areBlocks; simp [thenD_pp, sliceCells_sl, sliceCells_z, sliceCells_nil, take_full, appS_sl, appK_ok, appS_none, thenD_ag, agP_nil, agP_cons, e]
theorem c_impl_isStash (M : Mem) (v : V) (xs : List ty_Block.D) (l w : Int) (h : Rep (.sl ty_Block) M [v] xs) (hn : xs.length ≤ 1048576) : aCall T0 F_impl_isStash [v, .int .i64 l, .int .i64 w] M = some (.bool (stashB l w xs), M) := by
  have e1 := c_impl_areBlocks M v xs l w h hn
  obtain ⟨a, c, rfl⟩ := h.slen
  unfold stashB
  by_cases hs : xs.length ≤ 128
  · have hs' : (xs.length : Int) ≤ 128 := by omega
    rw [aCall_eq T_impl_isStash]; unfold A_impl_isStash C_impl_isStash; simp [thenD_pp, sliceCells_sl, sliceCells_z, sliceCells_nil, take_full, appS_sl, appK_ok, appS_none, thenD_ag, agP_nil, agP_cons, e1, hs, hs']
  · have hs' : ¬ (xs.length : Int) ≤ 128 := by omega
    rw [aCall_eq T_impl_isStash]; unfold A_impl_isStash C_impl_isStash; simp [thenD_pp, sliceCells_sl, sliceCells_z, sliceCells_nil, take_full, appS_sl, appK_ok, appS_none, thenD_ag, agP_nil, agP_cons, e1, hs, hs']
/-- No Id is in a list twice. -/
def IdNd (xs : List ty_Block.D) : Prop := xs.Pairwise fun a b => a.1 ≠ b.1
theorem blocks_nd {l w : Int} {xs : List ty_Block.D} (h : blocksB l w xs = true) : IdNd xs := by
  unfold blocksB at h
  rw [Bool.and_eq_true] at h
  have h1 : ∀ i (hi : i + 1 < xs.length), (xs[i]'(by omega)).1 < xs[i + 1].1 := fun i hi => by
    have := List.all_eq_true.1 h.2 (i + 1) (List.mem_range.2 hi)
    rw [stepB_pos hi (by omega), Bool.and_eq_true] at this
    exact of_decide_eq_true this.2
  have h2 : ∀ d i (hi : i + d + 1 < xs.length), (xs[i]'(by omega)).1 < xs[i + d + 1].1 := by
    intro d
    induction d with
    | zero => intro i hi; exact h1 i hi
    | succ d ih => intro i hi; exact Int.lt_trans (ih i (by omega)) (h1 (i + d + 1) hi)
  unfold IdNd
  rw [List.pairwise_iff_getElem]
  intro i j hi hj hij
  obtain ⟨d, rfl⟩ : ∃ d, j = i + d + 1 := ⟨j - i - 1, by omega⟩
  exact Int.ne_of_lt (h2 d i hj)
def Zl (zs : List (List V × ty_Block.D)) : List V := (zs.map (·.1)).flatten
def hdf (zs : List (List V × ty_Block.D)) (q : Nat) : Option (List V) := (zs[q]?).map (·.1)
abbrev ty_Entry : Ty := .pr .str (.int .i64)
instance d_Entry : DecidableEq ty_Entry.D := Ty.deq ty_Entry
def okByte (b : UInt8) : Bool := decide (97 ≤ (b.toNat : Int)) && decide ((b.toNat : Int) ≤ 122)
def wordB (w : List UInt8) : Bool := w.all okByte && (decide (1 ≤ (w.length : Int)) && decide ((w.length : Int) ≤ 32))
def padL (w : List UInt8) : List UInt8 := if wordB w = true then UInt8.ofNat w.length :: (w ++ List.replicate (32 - w.length) 0) else List.replicate 33 0
def hashN (key : Nat) (w : List UInt8) (n : Nat) : Nat := ((padL w).take n).foldl hs key
def hashV (key : Nat) (w : List UInt8) : Nat := hashN key w 33 ^^^ (hashN key w 33 / 65536)
def sh (k : Int × Int × Int × Int) (w : List UInt8) : Nat := hashV k.1.toNat w % 2 ^ k.2.1.toNat
def cnt (k : Int × Int × Int × Int) (xs : List ty_Entry.D) (s : Nat) : Nat := xs.countP fun e => decide (sh k e.1 = s)
/-- Is a block kept? -/
def keepI (m leaf lv cnt : Nat) (b : ty_Block.D) : Bool := decide (cnt = 4) || decide (mtN m leaf b < lv)
def stepI (m leaf lv : Nat) (s : List ty_Put.D × List (List V × ty_Block.D) × Nat) (z : List V × ty_Block.D) : List ty_Put.D × List (List V × ty_Block.D) × Nat :=
  if keepI m leaf lv s.2.2 z.2 = true then (s.1, s.2.1 ++ [z], s.2.2) else (s.1 ++ [((lv : Int), z.2.1)], s.2.1, s.2.2 + 1)
def levI (m leaf : Nat) (s : List ty_Put.D × List (List V × ty_Block.D)) (lv : Nat) : List ty_Put.D × List (List V × ty_Block.D) :=
  ((s.2.foldl (stepI m leaf lv) (s.1, [], 0)).1, (s.2.foldl (stepI m leaf lv) (s.1, [], 0)).2.1)
def levsI (m leaf : Nat) (zs : List (List V × ty_Block.D)) (k : Nat) : List ty_Put.D × List (List V × ty_Block.D) := (List.range k).foldl (fun s j => levI m leaf s (m - j)) ([], zs)
theorem fold_len {m leaf lv : Nat} : ∀ (zs : List (List V × ty_Block.D)) (s : List ty_Put.D × List (List V × ty_Block.D) × Nat), (zs.foldl (stepI m leaf lv) s).2.1.length ≤ s.2.1.length + zs.length ∧ (zs.foldl (stepI m leaf lv) s).1.length ≤ s.1.length + zs.length
  | [], s => by simp
  | z :: zs, s => by
    rw [List.foldl_cons]
    have ih := fold_len (m := m) (leaf := leaf) (lv := lv) zs (stepI m leaf lv s z)
    have h : (stepI m leaf lv s z).2.1.length ≤ s.2.1.length + 1 ∧ (stepI m leaf lv s z).1.length ≤ s.1.length + 1 := by
      unfold stepI
      split
      · simp
      · simp
    simp only [List.length_cons]
    omega
theorem levsI_succ (m leaf : Nat) (zs : List (List V × ty_Block.D)) (k : Nat) : levsI m leaf zs (k + 1) = levI m leaf (levsI m leaf zs k) (m - k) := by
  unfold levsI
  rw [List.range_succ, List.foldl_append]
  rfl
theorem foldI_sub (m leaf lv : Nat) : ∀ (zs : List (List V × ty_Block.D)) (plan : List ty_Put.D) (ks : List (List V × ty_Block.D)) (cnt : Nat), ∃ ys, List.Sublist ys zs ∧ (zs.foldl (stepI m leaf lv) (plan, ks, cnt)).2.1 = ks ++ ys
  | [], plan, ks, cnt => ⟨[], List.Sublist.refl _, by simp⟩
  | z :: zs, plan, ks, cnt => by
    rw [List.foldl_cons]
    by_cases h : keepI m leaf lv cnt z.2 = true
    · have e : stepI m leaf lv (plan, ks, cnt) z = (plan, ks ++ [z], cnt) := if_pos h
      obtain ⟨ys, h1, h2⟩ := foldI_sub m leaf lv zs plan (ks ++ [z]) cnt
      exact ⟨z :: ys, h1.cons_cons z, by rw [e, h2]; simp⟩
    · have e : stepI m leaf lv (plan, ks, cnt) z = (plan ++ [((lv : Int), z.2.1)], ks, cnt + 1) := if_neg h
      obtain ⟨ys, h1, h2⟩ := foldI_sub m leaf lv zs (plan ++ [((lv : Int), z.2.1)]) ks (cnt + 1)
      exact ⟨ys, h1.cons z, by rw [e, h2]⟩
theorem levI_sub (m leaf lv : Nat) (s : List ty_Put.D × List (List V × ty_Block.D)) : List.Sublist (levI m leaf s lv).2 s.2 := by
  obtain ⟨ys, h1, h2⟩ := foldI_sub m leaf lv s.2 s.1 [] 0
  unfold levI
  simp only [h2, List.nil_append]
  exact h1
theorem levsI_sub (m leaf : Nat) (zs : List (List V × ty_Block.D)) : ∀ k, List.Sublist (levsI m leaf zs k).2 zs ∧ (levsI m leaf zs k).1.length ≤ k * zs.length
  | 0 => ⟨List.Sublist.refl _, by simp [levsI]⟩
  | k + 1 => by
    obtain ⟨h1, h2⟩ := levsI_sub m leaf zs k
    rw [levsI_succ]
    refine ⟨(levI_sub m leaf (m - k) _).trans h1, ?_⟩
    have h3 := (fold_len (m := m) (leaf := leaf) (lv := m - k) (levsI m leaf zs k).2 ((levsI m leaf zs k).1, [], 0)).2
    have h4 := h1.length_le
    unfold levI
    simp only at h3 ⊢
    rw [Nat.succ_mul]
    omega
theorem sl_pre {M X : Mem} {w : Nat} {v : V} {r : Nat × List V} (hp : M <+: X) (h : sliceCells M w v = some r) : sliceCells X w v = some r := by
  unfold sliceCells at h ⊢
  split at h
  · exact h
  · split at h
    · rename_i h0; rw [if_pos h0]; exact h
    · rename_i h0
      rw [if_neg h0]
      obtain ⟨y, hy, rfl⟩ := Option.map_eq_some_iff.1 h
      rw [rn_pre hp hy]
      rfl
  · cases h
/-- A clone of blocks. -/
def ClB (M : Mem) (zs : List (List V × ty_Block.D)) (p : V × Mem) : Prop := M <+: p.2 ∧ ((zs = [] ∧ ∃ La, Gr (.sl ty_Block) p.2 [p.1] [] La ∧ La.Nodup ∧ ∀ l ∈ La, M.length ≤ l) ∨ zs ≠ [] ∧ ∃ l, p.1 = .slice (some ⟨l, 0, none⟩) zs.length zs.length ∧ M.length ≤ l ∧ p.2[l]? = some ⟨Zl zs, 3, 2⟩)
theorem c_clone_Block (M0 M : Mem) (hp0 : M0 <+: M) (v : V) (zs : List (List V × ty_Block.D)) (hv : ∃ a c, v = .slice a zs.length c) (h2 : ∀ z ∈ zs, Rep ty_Block M0 z.1 z.2) (h3 : sliceCells M0 3 v = some (zs.length, Zl zs)) (hn : zs.length ≤ 1048576) :
    Sat (aCall T0 F_slices_Clone_impl_Block_impl_Block [v] M) (ClB M zs) := by
  have hc : ∀ N : Mem, sliceCells (M ++ N) 3 v = some (zs.length, Zl zs) := fun N => sl_pre (hp0.trans (List.prefix_append M N)) h3
  obtain ⟨a, c, rfl⟩ := hv
  have hfl : (Zl zs).length = zs.length * 3 := by
    unfold Zl
    rw [flat_len (w := 3)]
    · simp
    · intro c hc
      obtain ⟨z, hz, rfl⟩ := List.mem_map.1 hc
      exact (h2 z hz).len
  have hone : (Zl zs).all one = true := by
    unfold Zl
    rw [List.all_flatten, List.all_eq_true]
    intro c hc
    obtain ⟨z, hz, rfl⟩ := List.mem_map.1 hc
    exact (h2 z hz).one
  cases a with
  | none =>
    have hx : zs = [] := by
      cases zs with
      | nil => rfl
      | cons z zs => simp [sliceCells] at h3
    subst hx
    rw [aCall_eq T_slices_Clone_impl_Block_impl_Block]; unfold A_slices_Clone_impl_Block_impl_Block C_slices_Clone_impl_Block_impl_Block; simp [thenD_pp, sliceCells_sl, sliceCells_z, sliceCells_nil, take_full, appS_sl, appK_ok, appS_none, thenD_ag, agP_nil, agP_cons]
    exact ⟨_, rfl, List.prefix_refl _, .inl ⟨rfl, [], Gr.nil, by simp, by simp⟩⟩
  | some a =>
    by_cases h0 : zs = []
    · subst h0
      have hz : Zl [] = [] := rfl
      rw [hz] at hc
      simp only [List.length_nil] at hc
      rw [aCall_eq T_slices_Clone_impl_Block_impl_Block]; unfold A_slices_Clone_impl_Block_impl_Block C_slices_Clone_impl_Block_impl_Block; simp [thenD_pp, sliceCells_sl, sliceCells_z, sliceCells_nil, take_full, appS_sl, appK_ok, appS_none, thenD_ag, agP_nil, agP_cons, hc, zeroCells, appS]
      exact ⟨(_, M ++ [⟨[], 3, 2⟩]), rfl, List.prefix_append _ _, .inl ⟨rfl, [M.length], gr0 (t := ty_Block) (by simp [Ty.w]), by simp, by simp⟩⟩
    · have hpos := List.length_pos_iff.2 h0
      rw [aCall_eq T_slices_Clone_impl_Block_impl_Block]; unfold A_slices_Clone_impl_Block_impl_Block C_slices_Clone_impl_Block_impl_Block; simp [thenD_pp, sliceCells_sl, sliceCells_z, sliceCells_nil, take_full, appS_sl, appK_ok, appS_none, thenD_ag, agP_nil, agP_cons, hc, zeroCells]
      generalize hy : appS _ _ _ _ _ _ = xhy
      have hg1 : Grow M.length 3 (M ++ [(⟨[], 3, 2⟩ : Blk)]) (.slice (some ⟨M.length, 0, none⟩) 0 0) 0 [] := Grow.new (Nat.le_refl _) rfl
      obtain ⟨a3, X3, rfl, g3, ag, l3⟩ := hg1.at hy (List.prefix_refl _) (by simp) hfl hpos hone (by omega) (by omega)
      clear hy
      simp [thenD_pp, sliceCells_sl, sliceCells_z, sliceCells_nil, take_full, appS_sl, appK_ok, appS_none, thenD_ag, agP_nil, agP_cons]
      obtain ⟨_, ⟨e, e0⟩ | ⟨l, hl, e, hb⟩⟩ := g3
      · cases e
      · cases e
        simp only [Nat.zero_add, List.nil_append] at hb ⊢
        exact ⟨_, rfl, ag.pre (List.prefix_append _ _) (fun b hb => hg1.ge b hb), .inr ⟨h0, l, rfl, hl, hb⟩⟩
/-- What is known of the elements. -/
def ZOk (M0 : Mem) (m : Nat) (zs : List (List V × ty_Block.D)) : Prop := ∀ z ∈ zs, Rep ty_Block M0 z.1 z.2 ∧ z.2.2.1 = ((Int.toNat z.2.2.1 : Nat) : Int) ∧ Int.toNat z.2.2.1 < 2 ^ m
structure EvT (M0 : Mem) (l n pl pf pv pp : Nat) (m leaf : Nat) (lv : Int) (plan : List ty_Put.D) (f : Nat → Option (List V)) (X : Mem) : Prop where
  pre : M0 <+: X
  hd : ∃ cells, X[l]? = some ⟨cells, 3, 2⟩ ∧ cells.length = n * 3 ∧ ∀ q ds, f q = some ds → (cells.drop (q * 3)).take 3 = ds
  bl : X[pl]? = some ⟨[.int .i64 m], 1, 2⟩
  bf : X[pf]? = some ⟨[.int .i64 leaf], 1, 2⟩
  bv : X[pv]? = some ⟨[.int .i64 lv], 1, 2⟩
  bp : ∃ vp Lp, X[pp]? = some ⟨[vp], 1, 2⟩ ∧ Gr (.sl ty_Put) X [vp] plan Lp ∧ Lp.Nodup ∧ ∀ j ∈ Lp, M0.length ≤ j ∧ j ≠ l ∧ j ≠ pl ∧ j ≠ pf ∧ j ≠ pv ∧ j ≠ pp
def LvI (M0 : Mem) (l n pl pf pp : Nat) (m leaf : Nat) (zs : List (List V × ty_Block.D)) (k pv : Nat) (X : Mem) : Prop :=
  EvT M0 l n pl pf pv pp m leaf ((m : Int) - k) (levsI m leaf zs k).1 (hdf (levsI m leaf zs k).2) X ∧ M0.length ≤ pv ∧ pv ≠ l ∧ pv ≠ pl ∧ pv ≠ pf ∧ pv ≠ pp
/-- The boxes of evict. -/
structure EvP where
  l : Nat
  n : Nat
  pc : Nat
  pl : Nat
  pf : Nat
  pv : Nat
  pp : Nat
def EvP.apart (P : EvP) (K : Nat) : Prop := (K ≤ P.l ∧ K ≤ P.pc ∧ K ≤ P.pl ∧ K ≤ P.pf ∧ K ≤ P.pv ∧ K ≤ P.pp) ∧ P.l ≠ P.pc ∧ P.l ≠ P.pl ∧ P.l ≠ P.pf ∧ P.l ≠ P.pv ∧ P.l ≠ P.pp ∧ P.pc ≠ P.pl ∧ P.pc ≠ P.pf ∧ P.pc ≠ P.pv ∧ P.pc ≠ P.pp ∧ P.pl ≠ P.pp ∧ P.pf ≠ P.pp ∧ P.pv ≠ P.pp
structure EvS (M0 : Mem) (P : EvP) (m leaf lv : Nat) (plan : List ty_Put.D) (cnt : Nat) (f : Nat → Option (List V)) (X : Mem) : Prop where
  pre : M0 <+: X
  hd : ∃ cells, X[P.l]? = some ⟨cells, 3, 2⟩ ∧ cells.length = P.n * 3 ∧ ∀ q ds, f q = some ds → (cells.drop (q * 3)).take 3 = ds
  bc : X[P.pc]? = some ⟨[.int .i64 cnt], 1, 2⟩
  bl : X[P.pl]? = some ⟨[.int .i64 m], 1, 2⟩
  bf : X[P.pf]? = some ⟨[.int .i64 leaf], 1, 2⟩
  bv : X[P.pv]? = some ⟨[.int .i64 lv], 1, 2⟩
  bp : ∃ vp Lp, X[P.pp]? = some ⟨[vp], 1, 2⟩ ∧ Gr (.sl ty_Put) X [vp] plan Lp ∧ Lp.Nodup ∧ ∀ j ∈ Lp, M0.length ≤ j ∧ j ≠ P.l ∧ j ≠ P.pc ∧ j ≠ P.pl ∧ j ≠ P.pf ∧ j ≠ P.pv ∧ j ≠ P.pp
theorem EvS.grow {M0 : Mem} {P : EvP} {m leaf lv : Nat} {plan : List ty_Put.D} {cnt : Nat} {f : Nat → Option (List V)} {X Y : Mem} (h : EvS M0 P m leaf lv plan cnt f X) (hp : X <+: Y) : EvS M0 P m leaf lv plan cnt f Y := by
  obtain ⟨cells, h1, h2, h3⟩ := h.hd
  obtain ⟨vp, Lp, g1, g2, g3, g4⟩ := h.bp
  exact ⟨h.pre.trans hp, ⟨cells, get_pre hp h1, h2, h3⟩, get_pre hp h.bc, get_pre hp h.bl, get_pre hp h.bf, get_pre hp h.bv, ⟨vp, Lp, get_pre hp g1, g2.grow hp, g3, g4⟩⟩
theorem EvS.weak {M0 : Mem} {P : EvP} {m leaf lv : Nat} {plan : List ty_Put.D} {cnt : Nat} {f f2 : Nat → Option (List V)} {X : Mem} (h : EvS M0 P m leaf lv plan cnt f X) (hf : ∀ q ds, f2 q = some ds → f q = some ds) : EvS M0 P m leaf lv plan cnt f2 X := by
  obtain ⟨cells, h1, h2, h3⟩ := h.hd
  exact ⟨h.pre, ⟨cells, h1, h2, fun q ds hq => h3 q ds (hf q ds hq)⟩, h.bc, h.bl, h.bf, h.bv, h.bp⟩
theorem splice_len' (cells vs : List V) (o : Nat) (h : o + vs.length ≤ cells.length) : (splice cells o vs).length = cells.length := by
  unfold splice
  simp
  omega
theorem EvS.seth {M0 : Mem} {P : EvP} {m leaf lv : Nat} {plan : List ty_Put.D} {cnt : Nat} {f f2 : Nat → Option (List V)} {X : Mem} (h : EvS M0 P m leaf lv plan cnt f X) (ha : P.apart M0.length) {cells vs : List V} {o : Nat} (hb : X[P.l]? = some ⟨cells, 3, 2⟩) (ho : o + vs.length ≤ cells.length) (hf : ∀ q ds, f2 q = some ds → ((splice cells o vs).drop (q * 3)).take 3 = ds) : EvS M0 P m leaf lv plan cnt f2 (X.set P.l ⟨splice cells o vs, 3, 2⟩) := by
  obtain ⟨cells2, h1, h2, h3⟩ := h.hd
  rw [hb] at h1
  cases h1
  obtain ⟨⟨a1, a2, a3, a4, a5, a6⟩, d1, d2, d3, d4, d5, d6, d7, d8, d9, d10, d11, d12⟩ := ha
  obtain ⟨vp, Lp, g1, g2, g3, g4⟩ := h.bp
  exact ⟨pf_set a1 h.pre, ⟨_, gs_of hb _, by rw [splice_len' _ _ _ ho]; exact h2, hf⟩, by rw [gt_set d1]; exact h.bc, by rw [gt_set d2]; exact h.bl, by rw [gt_set d3]; exact h.bf, by rw [gt_set d4]; exact h.bv,
    ⟨vp, Lp, by rw [gt_set d5]; exact g1, g2.set _ (fun hm => (g4 _ hm).2.1 rfl), g3, g4⟩⟩
theorem EvS.read {M0 : Mem} {P : EvP} {m leaf lv : Nat} {plan : List ty_Put.D} {cnt : Nat} {f : Nat → Option (List V)} {X : Mem} (h : EvS M0 P m leaf lv plan cnt f X) {q : Nat} {ds : List V} (hq : f q = some ds) (hn : q < P.n) : rdn X P.l (q * 3) 3 = some ds := by
  obtain ⟨cells, h1, h2, h3⟩ := h.hd
  rw [rdn_K, h1, rnJ_ok, if_pos (by omega), h3 q ds hq]
theorem hd_splice (cells vs : List V) (o q : Nat) (h : o + vs.length ≤ cells.length) (hq : q * 3 + 3 ≤ o ∨ o + vs.length ≤ q * 3) : ((splice cells o vs).drop (q * 3)).take 3 = (cells.drop (q * 3)).take 3 := by
  apply List.ext_getElem?
  intro t
  rw [List.getElem?_take, List.getElem?_take]
  by_cases ht : t < 3
  · rw [if_pos ht, if_pos ht, List.getElem?_drop, List.getElem?_drop, spl_at _ _ _ _ h]
    rcases hq with hq | hq
    · rw [if_pos (by omega)]
    · rw [if_neg (by omega), if_neg (by omega)]
  · rw [if_neg ht, if_neg ht]
abbrev capE (P : EvP) : List V := [.pointer (some ⟨P.pc, 0, none⟩), .pointer (some ⟨P.pl, 0, none⟩), .pointer (some ⟨P.pf, 0, none⟩), .pointer (some ⟨P.pv, 0, none⟩), .pointer (some ⟨P.pp, 0, none⟩)]
abbrev clE (P : EvP) : V := .func (.func F_impl_evict_1) #[] (capE P).toArray
theorem blen6 {x : Nat} (h : x < 64) : blen x ≤ 6 := blen_le.2 (by simpa using h)
def len8 : List UInt8 := [0, 1, 2, 2, 3, 3, 3, 3, 4, 4, 4, 4, 4, 4, 4, 4, 5, 5, 5, 5, 5, 5, 5, 5, 5, 5, 5, 5, 5, 5, 5, 5, 6, 6, 6, 6, 6, 6, 6, 6, 6, 6, 6, 6, 6, 6, 6, 6, 6, 6, 6, 6, 6, 6, 6, 6, 6, 6, 6, 6, 6, 6, 6, 6, 7, 7, 7, 7, 7, 7, 7, 7, 7, 7, 7, 7, 7, 7, 7, 7, 7, 7, 7, 7, 7, 7, 7, 7, 7, 7, 7, 7, 7, 7, 7, 7, 7, 7, 7, 7, 7, 7, 7, 7, 7, 7, 7, 7, 7, 7, 7, 7, 7, 7, 7, 7, 7, 7, 7, 7, 7, 7, 7, 7, 7, 7, 7, 7, 8, 8, 8, 8, 8, 8, 8, 8, 8, 8, 8, 8, 8, 8, 8, 8, 8, 8, 8, 8, 8, 8, 8, 8, 8, 8, 8, 8, 8, 8, 8, 8, 8, 8, 8, 8, 8, 8, 8, 8, 8, 8, 8, 8, 8, 8, 8, 8, 8, 8, 8, 8, 8, 8, 8, 8, 8, 8, 8, 8, 8, 8, 8, 8, 8, 8, 8, 8, 8, 8, 8, 8, 8, 8, 8, 8, 8, 8, 8, 8, 8, 8, 8, 8, 8, 8, 8, 8, 8, 8, 8, 8, 8, 8, 8, 8, 8, 8, 8, 8, 8, 8, 8, 8, 8, 8, 8, 8, 8, 8, 8, 8, 8, 8, 8, 8, 8, 8, 8, 8, 8, 8, 8, 8, 8, 8, 8, 8]
set_option maxRecDepth 100000 in
theorem len8_all : ∀ x : Fin 64, len8[x.1]? = some (UInt8.ofNat (blen x.1)) := by decide +kernel
theorem len8_at {x : Nat} (hx : x < 64) : len8[x]? = some (UInt8.ofNat (blen x)) := len8_all ⟨x, hx⟩
set_option maxRecDepth 100000 in
set_option maxHeartbeats 4000000 in
theorem c_math_bits_Len64 (M : Mem) (x : Nat) (hx : x < 64) : aCall T0 F_math_bits_Len64 [.int .u64 x] M = some (.int .i64 (blen x), M) := by
  have h1 : ¬ (4294967296 : Int) ≤ x := by omega
  have h2 : ¬ (65536 : Int) ≤ x := by omega
  have h3 : ¬ (256 : Int) ≤ x := by omega
  have hb := blen6 hx
  have w1 : IntKind.u8.wrap (x : Int) = x := wrap_u8 (by omega) (by omega)
  have w2 : IntKind.i64.wrap ((blen x : Nat) : Int) = blen x := wrap_i64 (by omega) (by omega)
  have h0 : (0 : Int) ≤ x := by omega
  have w3 : (UInt8.ofNat (blen x)).toNat = blen x := by simp; omega
  have ht := len8_at hx
  unfold len8 at ht
  rw [aCall_eq T_math_bits_Len64]; unfold A_math_bits_Len64 C_math_bits_Len64; simp [thenD_pp, sliceCells_sl, sliceCells_z, sliceCells_nil, take_full, appS_sl, appK_ok, appS_none, thenD_ag, agP_nil, agP_cons, h1, h2, h3, w1, h0]
  simp only [ht]
  simp [thenD_pp, sliceCells_sl, sliceCells_z, sliceCells_nil, take_full, appS_sl, appK_ok, appS_none, thenD_ag, agP_nil, agP_cons, w2, w3, byteV]
theorem c_math_bits_Len (M : Mem) (x : Nat) (hx : x < 64) : aCall T0 F_math_bits_Len [.int .u64 x] M = some (.int .i64 (blen x), M) := by
  have e := fun M => c_math_bits_Len64 M x hx
  rw [aCall_eq T_math_bits_Len]; unfold A_math_bits_Len C_math_bits_Len; simp [thenD_pp, sliceCells_sl, sliceCells_z, sliceCells_nil, take_full, appS_sl, appK_ok, appS_none, thenD_ag, agP_nil, agP_cons, e]
theorem c_impl_meet (M : Mem) (m a b : Nat) (hm : m ≤ 6) (ha : a < 2 ^ m) (hb : b < 2 ^ m) : aCall T0 F_impl_meet [.int .i64 m, .int .i64 a, .int .i64 b] M = some (.int .i64 ((m - blen (a ^^^ b) : Nat) : Int), M) := by
  have hp : 2 ^ m ≤ 2 ^ 6 := Nat.pow_le_pow_right (by omega) hm
  have hx : a ^^^ b < 2 ^ m := Nat.xor_lt_two_pow ha hb
  have hl := blen_le.2 hx
  have e1 := xor_i64 (a := a) (b := b) (by omega) (by omega)
  generalize a ^^^ b = x at e1 hx hl ⊢
  have e2 : IntKind.u64.wrap (x : Int) = x := wrap_u64 (by omega) (by omega)
  have e3 := fun M => c_math_bits_Len M x (by omega)
  have e4 : IntKind.i64.wrap ((m : Int) - (blen x : Nat)) = ((m - blen x : Nat) : Int) := by rw [wrap_i64 (by omega) (by omega)]; omega
  rw [aCall_eq T_impl_meet]; unfold A_impl_meet C_impl_meet; simp [thenD_pp, sliceCells_sl, sliceCells_z, sliceCells_nil, take_full, appS_sl, appK_ok, appS_none, thenD_ag, agP_nil, agP_cons, e1, e2, e3, e4]
theorem c_evict_keep {M0 : Mem} {P : EvP} {m leaf lv : Nat} {plan : List ty_Put.D} {cnt : Nat} {f : Nat → Option (List V)} {X : Mem} (h : EvS M0 P m leaf lv plan cnt f X) (hm : m ≤ 6) (hlf : leaf < 2 ^ m) (hc4 : cnt ≤ 4) {b : ty_Block.D} {ds : List V} (hr : Rep ty_Block M0 ds b) (hb : b.2.1 = ((Int.toNat b.2.1 : Nat) : Int) ∧ Int.toNat b.2.1 < 2 ^ m) (hk : keepI m leaf lv cnt b = true) :
    aCall T0 F_impl_evict_1 (.agg ds.toArray :: capE P) X = some (.bool false, X) := by
  obtain ⟨u, rfl, w0, w1, qu⟩ := rep_g_Block hr
  obtain ⟨ua, uc, rfl⟩ := qu.slen
  obtain ⟨hb1, hb2⟩ := hb
  unfold keepI mtN at hk
  obtain ⟨b1, b2, b3⟩ := b
  simp only at *
  generalize Int.toNat b2 = b2n at *
  subst hb1
  have hM := fun N : Mem => c_impl_meet N m b2n leaf hm hb2 hlf
  have bc := fun N : Mem => get_pre' (N := N) h.bc
  have bl := fun N : Mem => get_pre' (N := N) h.bl
  have bf := fun N : Mem => get_pre' (N := N) h.bf
  have bv := fun N : Mem => get_pre' (N := N) h.bv
  by_cases hc : cnt = 4
  · have hc' : (cnt : Int) = 4 := by omega
    rw [aCall_eq T_impl_evict_1]; unfold A_impl_evict_1 C_impl_evict_1; simp [thenD_pp, sliceCells_sl, sliceCells_z, sliceCells_nil, take_full, appS_sl, appK_ok, appS_none, thenD_ag, agP_nil, agP_cons, bc, hc, hc', rd1_K, rdJ_ok]
  · have hc' : ¬ (cnt : Int) = 4 := by omega
    have hlt : m - blen (b2n ^^^ leaf) < lv := by simpa [hc] using hk
    generalize m - blen (b2n ^^^ leaf) = mu at hM hlt
    have hlt' : (mu : Int) < (lv : Int) := by omega
    rw [aCall_eq T_impl_evict_1]; unfold A_impl_evict_1 C_impl_evict_1; simp [thenD_pp, sliceCells_sl, sliceCells_z, sliceCells_nil, take_full, appS_sl, appK_ok, appS_none, thenD_ag, agP_nil, agP_cons, bc, bl, bf, bv, hc, hc', hM, hlt, hlt', rd1_K, rdJ_ok]
theorem gc_np {M M' : Mem} {v : V} (h : ¬ M <+: M') : gc M (some (v, M')) = some (v, M') := by
  simp only [gc]
  rw [if_neg (fun q => h q.2)]
set_option maxHeartbeats 1000000 in
theorem c_evict_take {M0 : Mem} {P : EvP} {m leaf lv : Nat} {plan : List ty_Put.D} {cnt : Nat} {f : Nat → Option (List V)} {X : Mem} (h : EvS M0 P m leaf lv plan cnt f X) (ha : P.apart M0.length) (hm : m ≤ 6) (hlv : lv ≤ m) (hlf : leaf < 2 ^ m) (hc4 : cnt ≤ 4) (hpl : plan.length ≤ 100000) {b : ty_Block.D} {ds : List V} (hr : Rep ty_Block M0 ds b) (hb : b.2.1 = ((Int.toNat b.2.1 : Nat) : Int) ∧ Int.toNat b.2.1 < 2 ^ m) (hk : keepI m leaf lv cnt b = false) :
    ∃ X', aCall T0 F_impl_evict_1 (.agg ds.toArray :: capE P) X = some (.bool true, X') ∧ EvS M0 P m leaf lv (plan ++ [((lv : Int), b.1)]) (cnt + 1) f X' ∧ X.length ≤ X'.length ∧ ¬ X <+: X' := by
  obtain ⟨u, rfl, w0, w1, qu⟩ := rep_g_Block hr
  obtain ⟨ua, uc, rfl⟩ := qu.slen
  obtain ⟨hb1, hb2⟩ := hb
  unfold keepI mtN at hk
  obtain ⟨b1, b2, b3⟩ := b
  simp only at *
  generalize Int.toNat b2 = b2n at *
  subst hb1
  have hM := fun N : Mem => c_impl_meet N m b2n leaf hm hb2 hlf
  have bc := fun N : Mem => get_pre' (N := N) h.bc
  have bl := fun N : Mem => get_pre' (N := N) h.bl
  have bf := fun N : Mem => get_pre' (N := N) h.bf
  have bv := fun N : Mem => get_pre' (N := N) h.bv
  rw [Bool.or_eq_false_iff] at hk
  have hc : ¬ cnt = 4 := of_decide_eq_false hk.1
  have hlt : ¬ m - blen (b2n ^^^ leaf) < lv := of_decide_eq_false hk.2
  have hc' : ¬ (cnt : Int) = 4 := by omega
  generalize m - blen (b2n ^^^ leaf) = mu at hM hlt
  have hlt' : ¬ (mu : Int) < (lv : Int) := by omega
  have e7 : IntKind.i64.wrap ((cnt : Int) + 1) = cnt + 1 := wrap_i64 (by omega) (by omega)
  have gs := gs_of (bc [⟨[.int .i64 b1, .int .i64 (b2n : Int), .slice ua (List.length (α := UInt8) b3) uc], 1, 2⟩])
  rw [aCall_eq T_impl_evict_1]; unfold A_impl_evict_1 C_impl_evict_1; simp [thenD_pp, sliceCells_sl, sliceCells_z, sliceCells_nil, take_full, appS_sl, appK_ok, appS_none, thenD_ag, agP_nil, agP_cons, bc, bl, bf, bv, hc, hc', hM, hlt, hlt', e7, gs, rd1_K, rdJ_ok, wrn_K, wrJ_ok]
  obtain ⟨Y, hY⟩ : ∃ Y : Mem, Y = (X ++ [(⟨[.int .i64 b1, .int .i64 (b2n : Int), .slice ua (List.length (α := UInt8) b3) uc], 1, 2⟩ : Blk)]).set P.pc ⟨[.int .i64 ((cnt : Int) + 1)], 1, 2⟩ := ⟨_, rfl⟩
  simp only [← hY]
  obtain ⟨⟨a1, a2, a3, a4, a5, a6⟩, d1, d2, d3, d4, d5, d6, d7, d8, d9, d10, d11, d12⟩ := ha
  obtain ⟨vp, Lp, g1, g2, g3, g4⟩ := h.bp
  obtain ⟨cells, hl1, hl2, hl3⟩ := h.hd
  have yset : ∀ (j : Nat) (k : Blk), j ≠ P.pc → X[j]? = some k → Y[j]? = some k := fun j k hj hk => by rw [hY, gt_set (fun e => hj e.symm)]; exact get_pre' hk
  have yc : Y[P.pc]? = some ⟨[.int .i64 ((cnt : Int) + 1)], 1, 2⟩ := by rw [hY]; exact gs _
  have yb : Y[X.length]? = some ⟨[.int .i64 b1, .int .i64 (b2n : Int), .slice ua (List.length (α := UInt8) b3) uc], 1, 2⟩ := by
    have := get_lt h.bc
    rw [hY, gt_set (by omega)]; simp
  have yl := yset _ _ d1 hl1
  have ym := yset _ _ d6.symm h.bl
  have yf := yset _ _ d7.symm h.bf
  have yv := yset _ _ d8.symm h.bv
  have yp := yset _ _ d9.symm g1
  have ylen : Y.length = X.length + 1 := by rw [hY]; simp
  have gY : Gr (.sl ty_Put) Y [vp] plan Lp := by
    rw [hY]
    exact (g2.grow (List.prefix_append _ _)).set _ (fun hm => (g4 _ hm).2.2.1 rfl)
  obtain ⟨ap, rfl⟩ := gY.shape
  have pM : M0 <+: Y := by
    rw [hY]
    exact pf_set a2 (pf_app h.pre)
  simp [thenD_pp, sliceCells_sl, sliceCells_z, sliceCells_nil, take_full, appS_sl, appK_ok, appS_none, thenD_ag, agP_nil, agP_cons, yp, yv, yb, zeroCells, rd1_K, rdJ_ok]
  generalize hy : appS _ _ _ _ _ _ = xhy
  have hs1 : (plan.length + 1) * 16 ≤ 140737488355328 := by omega
  have hwl : (Lit.int .i64 (lv : Int)).wf = true := wf_mk (by omega) (by omega)
  obtain ⟨l2, X3, L', rfl, go3, ag, hlen, hwo, nd3, hL3, hl2'⟩ := gY.app (t := ty_Put) (bytes := 16) hy (List.prefix_append _ _) (gr_Put (a := (lv : Int)) (b := b1) hwl w0) (by simp) g3 (by simp) hs1 (by omega)
  clear hy
  simp at hl2'
  have hno : ∀ j, (j = P.l ∨ j = P.pc ∨ j = P.pl ∨ j = P.pf ∨ j = P.pv ∨ j = P.pp) → j ∉ wfs (.slice ap plan.length plan.length) := by
    intro j hj hm
    have := g4 j (hwo j hm)
    omega
  have zp := ag.get (get_pre' yp) (hno _ (by simp))
  have zl := ag.get (get_pre' yl) (hno _ (by simp))
  have zc := ag.get (get_pre' yc) (hno _ (by simp))
  have zm := ag.get (get_pre' ym) (hno _ (by simp))
  have zf := ag.get (get_pre' yf) (hno _ (by simp))
  have zv := ag.get (get_pre' yv) (hno _ (by simp))
  simp [thenD_pp, sliceCells_sl, sliceCells_z, sliceCells_nil, take_full, appS_sl, appK_ok, appS_none, thenD_ag, agP_nil, agP_cons, zp, rd1_K, rdJ_ok, wrn_K, wrJ_ok]
  have hnp : ¬ X <+: X3.set P.pp ⟨[.slice (some ⟨l2, 0, none⟩) (plan.length + 1) (plan.length + 1)], 1, 2⟩ := fun hp => by
    have h1 := get_pre hp h.bc
    rw [gt_set d9.symm, zc] at h1
    simp at h1
    omega
  rw [gc_np hnp]
  have hx3 : M0 <+: X3 := ag.pre (pf_app pM) (fun b hb => (g4 b (hwo b hb)).1)
  have hlp : ∀ j, j < X.length → j ≠ l2 := fun j hj => by omega
  refine ⟨_, rfl, ⟨pf_set a6 hx3, ⟨cells, by rw [gt_set d5.symm]; exact zl, hl2, hl3⟩, by rw [gt_set d9.symm]; exact zc, by rw [gt_set d10.symm]; exact zm, by rw [gt_set d11.symm]; exact zf, by rw [gt_set d12.symm]; exact zv, ⟨_, L', gs_of zp _, go3.set _ (fun hm => ?_), nd3, fun j hj => ?_⟩⟩, ?_, hnp⟩
  · rcases hL3 _ hm with h1 | h1 | h1
    · exact (g4 _ h1).2.2.2.2.2.2 rfl
    · simp at h1
    · exact hlp _ (get_lt g1) h1
  · rcases hL3 _ hj with h1 | h1 | h1
    · exact g4 _ h1
    · simp at h1
    · have := h.pre.length_le
      have := get_lt hl1
      have := get_lt h.bc
      have := get_lt h.bl
      have := get_lt h.bf
      have := get_lt h.bv
      have := get_lt g1
      omega
  · rw [List.length_set]; simp at hlen; omega
theorem hdf_at {zs : List (List V × ty_Block.D)} {q : Nat} (h : q < zs.length) : hdf zs q = some zs[q].1 := by simp [hdf, h]
def IdxJ (M0 : Mem) (P : EvP) (m leaf lv : Nat) (plan : List ty_Put.D) (cnt : Nat) (zs : List (List V × ty_Block.D)) (p : V × Mem) : Prop :=
  ∃ j, ∃ hj : j < zs.length, p.1 = .int .i64 j ∧ (∀ i (hi : i < j), keepI m leaf lv cnt (zs[i]'(by omega)).2 = true) ∧ keepI m leaf lv cnt zs[j].2 = false ∧ EvS M0 P m leaf lv (plan ++ [((lv : Int), zs[j].2.1)]) (cnt + 1) (hdf zs) p.2
def IdxD (M0 : Mem) (P : EvP) (m leaf lv : Nat) (plan : List ty_Put.D) (cnt : Nat) (zs : List (List V × ty_Block.D)) (X : Mem) (p : V × Mem) : Prop :=
  (p.1 = .int .i64 (-1) ∧ p.2 = X ∧ ∀ i (hi : i < zs.length), keepI m leaf lv cnt zs[i].2 = true) ∨ IdxJ M0 P m leaf lv plan cnt zs p
theorem c_idx_Block (M0 : Mem) (P : EvP) (m leaf lv : Nat) (plan : List ty_Put.D) (cnt : Nat) (zs : List (List V × ty_Block.D)) (X : Mem) (h : EvS M0 P m leaf lv plan cnt (hdf zs) X) (ha : P.apart M0.length) (hm : m ≤ 6) (hlv : lv ≤ m) (hlf : leaf < 2 ^ m) (hc4 : cnt ≤ 4) (hpl : plan.length ≤ 100000) (hz : ZOk M0 m zs) (hk : zs.length ≤ P.n) (hn : P.n ≤ 1048576) :
    Sat (aCall T0 F_slices_IndexFunc_impl_Block_impl_Block [.slice (some ⟨P.l, 0, none⟩) zs.length P.n, clE P] X) (IdxD M0 P m leaf lv plan cnt zs X) := by
  have key := loop_st (call := aCall T0) (K := K_slices_IndexFunc_impl_Block_impl_Block_0) (L := L_slices_IndexFunc_impl_Block_impl_Block_0) (fun i (_ : Unit) Y => Y = X ∧ ∀ q (hq : q < i), ∀ hq2 : q < zs.length, keepI m leaf lv cnt zs[q].2 = true) (fun i _ => [.slice (some ⟨P.l, 0, none⟩) zs.length P.n, clE P, und, und, und, und, und, .int .i64 zs.length, .int .i64 i, und, und, und, und, und, und, und, und, und, und]) (atB (fun z => keepI m leaf lv cnt z.2) zs) (IdxJ M0 P m leaf lv plan cnt zs) (n := zs.length) (M0 := X) (rs := [.tmp 4]) (k0 := 0) () X ⟨rfl, by omega⟩ ?_ ?_
  · rcases key with ⟨_, X', ⟨rfl, h0⟩, h1, e⟩ | ⟨_, e⟩
    · simp only [Int.natCast_zero, Int.ofNat_zero] at e
      rw [aCall_eq T_slices_IndexFunc_impl_Block_impl_Block]; unfold A_slices_IndexFunc_impl_Block_impl_Block C_slices_IndexFunc_impl_Block_impl_Block; simp [thenD_pp, sliceCells_sl, sliceCells_z, sliceCells_nil, take_full, appS_sl, appK_ok, appS_none, thenD_ag, agP_nil, agP_cons, e]
      rw [S_slices_IndexFunc_impl_Block_impl_Block_0]; unfold B_slices_IndexFunc_impl_Block_impl_Block_0; simp [thenD_pp, sliceCells_sl, sliceCells_z, sliceCells_nil, take_full, appS_sl, appK_ok, appS_none, thenD_ag, agP_nil, agP_cons]
      exact sat_some (.inl ⟨rfl, rfl, fun i hi => h0 i hi hi⟩)
    · simp only [Int.natCast_zero, Int.ofNat_zero] at e
      rw [aCall_eq T_slices_IndexFunc_impl_Block_impl_Block]; unfold A_slices_IndexFunc_impl_Block_impl_Block C_slices_IndexFunc_impl_Block_impl_Block; simp [thenD_pp, sliceCells_sl, sliceCells_z, sliceCells_nil, take_full, appS_sl, appK_ok, appS_none, thenD_ag, agP_nil, agP_cons]
      exact (e _).mono fun p hp => .inr hp
  · intro i _ Y hi hq ⟨hY, hj⟩
    subst hY
    rw [atB_get _ hi] at hq
    have e6 : IntKind.i64.wrap ((i : Int) + 1) = i + 1 := wrap_i64 (by omega) (by omega)
    obtain ⟨z1, z2, z3⟩ := hz _ (List.getElem_mem hi)
    have hc := c_evict_keep h hm hlf hc4 z1 ⟨z2, z3⟩ hq
    have hrd := h.read (hdf_at hi) (by omega)
    refine ⟨(), _, ⟨rfl, fun q hq' hq2 => ?_⟩, ?_⟩
    · by_cases e : q = i
      · subst e; exact hq
      · exact hj q (by omega) hq2
    · rw [S_slices_IndexFunc_impl_Block_impl_Block_0]; unfold B_slices_IndexFunc_impl_Block_impl_Block_0; simp [thenD_pp, sliceCells_sl, sliceCells_z, sliceCells_nil, take_full, appS_sl, appK_ok, appS_none, thenD_ag, agP_nil, agP_cons, hi, hrd, hc, e6]
  · intro i _ Y hi hq ⟨hY, hj⟩ k
    subst hY
    rw [atB_get _ hi] at hq
    obtain ⟨z1, z2, z3⟩ := hz _ (List.getElem_mem hi)
    obtain ⟨X', hc, hE, hlen, hnp⟩ := c_evict_take h ha hm hlv hlf hc4 hpl z1 ⟨z2, z3⟩ hq
    have hrd := h.read (hdf_at hi) (by omega)
    have hg := fun v => gc_np (v := v) hnp
    rw [S_slices_IndexFunc_impl_Block_impl_Block_0]; unfold B_slices_IndexFunc_impl_Block_impl_Block_0; simp [thenD_pp, sliceCells_sl, sliceCells_z, sliceCells_nil, take_full, appS_sl, appK_ok, appS_none, thenD_ag, agP_nil, agP_cons, hi, hrd, hc, hg]
    exact ⟨_, rfl, i, hi, rfl, fun q hq' => hj q hq' (by omega), hq, hE⟩
theorem fold_keep (m leaf lv : Nat) (plan : List ty_Put.D) (cnt : Nat) : ∀ (zs ks : List (List V × ty_Block.D)), (∀ z ∈ zs, keepI m leaf lv cnt z.2 = true) → zs.foldl (stepI m leaf lv) (plan, ks, cnt) = (plan, ks ++ zs, cnt)
  | [], ks, _ => by simp
  | z :: zs, ks, h => by
    rw [List.foldl_cons]
    have : stepI m leaf lv (plan, ks, cnt) z = (plan, ks ++ [z], cnt) := if_pos (h z (by simp))
    rw [this, fold_keep m leaf lv plan cnt zs _ (fun z hz => h z (by simp [hz]))]
    simp
def delF (ks : List (List V × ty_Block.D)) (jj : Nat) (zs : List (List V × ty_Block.D)) (q : Nat) : Option (List V) := if q < ks.length then hdf ks q else if jj ≤ q then hdf zs q else none
theorem hd_self (cells ds : List V) (i : Nat) (h : i * 3 + 3 ≤ cells.length) (hd : ds.length = 3) : ((splice cells (i * 3) ds).drop (i * 3)).take 3 = ds := by
  apply List.ext_getElem?
  intro t
  rw [List.getElem?_take]
  by_cases ht : t < 3
  · rw [if_pos ht, List.getElem?_drop, spl_at _ _ _ _ (by omega), if_neg (by omega), if_pos (by omega)]
    congr 1
    omega
  · rw [if_neg ht, List.getElem?_eq_none (by omega)]
theorem hdf_snoc {ks : List (List V × ty_Block.D)} {z : List V × ty_Block.D} {q : Nat} : hdf (ks ++ [z]) q = if q < ks.length then hdf ks q else if q = ks.length then some z.1 else none := by
  unfold hdf
  rw [List.getElem?_append]
  by_cases h : q < ks.length
  · rw [if_pos h, if_pos h]
  · rw [if_neg h, if_neg h]
    by_cases h2 : q = ks.length
    · subst h2; simp
    · rw [if_neg h2, List.getElem?_eq_none (by simp; omega)]; rfl
def DlI (M0 : Mem) (P : EvP) (m leaf lv : Nat) (zs : List (List V × ty_Block.D)) (N jj : Nat) (s : List ty_Put.D × List (List V × ty_Block.D) × Nat) (X : Mem) : Prop :=
  EvS M0 P m leaf lv s.1 s.2.2 (delF s.2.1 jj zs) X ∧ s.2.1.length < jj ∧ s.2.2 ≤ 4 ∧ s.1.length ≤ N + jj
set_option maxHeartbeats 1000000 in
theorem l_del_Block (M0 : Mem) (P : EvP) (m leaf lv : Nat) (zs : List (List V × ty_Block.D)) (N : Nat) (hN : N ≤ 90000) (ha : P.apart M0.length) (hm : m ≤ 6) (hlv : lv ≤ m) (hlf : leaf < 2 ^ m) (hz : ZOk M0 m zs) (hk : zs.length ≤ P.n) (hn : P.n ≤ 1024) (s0 : List ty_Put.D × List (List V × ty_Block.D) × Nat) (j0 : Nat) (hj0 : j0 ≤ zs.length) (Z : Mem) (hZ : DlI M0 P m leaf lv zs N j0 ((zs.take j0).foldl (stepI m leaf lv) s0) Z) :
    ∃ X', DlI M0 P m leaf lv zs N zs.length (zs.foldl (stepI m leaf lv) s0) X' ∧ lp (aCall T0) K_slices_DeleteFunc_impl_Block_impl_Block_0 L_slices_DeleteFunc_impl_Block_impl_Block_0 [.slice (some ⟨P.l, 0, none⟩) zs.length P.n, clE P, und, und, und, .int .i64 ((zs.take j0).foldl (stepI m leaf lv) s0).2.1.length, .int .i64 j0, und, und, und, und, und, und, und, und, und, und, und, und, und, und, und, und, und, und, und, und, und, und, und, und, und, und, und, und, und, und, und, und, und, und, und] Z = lp (aCall T0) K_slices_DeleteFunc_impl_Block_impl_Block_0 L_slices_DeleteFunc_impl_Block_impl_Block_0 [.slice (some ⟨P.l, 0, none⟩) zs.length P.n, clE P, und, und, und, .int .i64 (zs.foldl (stepI m leaf lv) s0).2.1.length, .int .i64 zs.length, und, und, und, und, und, und, und, und, und, und, und, und, und, und, und, und, und, und, und, und, und, und, und, und, und, und, und, und, und, und, und, und, und, und, und] X' := by
  have key := loop_to (call := aCall T0) (K := K_slices_DeleteFunc_impl_Block_impl_Block_0) (L := L_slices_DeleteFunc_impl_Block_impl_Block_0) (fun jj (_ : Unit) X => DlI M0 P m leaf lv zs N jj ((zs.take jj).foldl (stepI m leaf lv) s0) X) (fun jj _ => [.slice (some ⟨P.l, 0, none⟩) zs.length P.n, clE P, und, und, und, .int .i64 ((zs.take jj).foldl (stepI m leaf lv) s0).2.1.length, .int .i64 jj, und, und, und, und, und, und, und, und, und, und, und, und, und, und, und, und, und, und, und, und, und, und, und, und, und, und, und, und, und, und, und, und, und, und, und]) (n := zs.length) ?_ j0 () Z hj0 hZ
  · obtain ⟨_, X', hX, e⟩ := key
    rw [List.take_length] at hX e
    exact ⟨X', hX, e⟩
  intro jj _ X hjj ⟨hE, hlt, hc4, hpl⟩
  rw [List.take_succ_eq_append_getElem hjj, List.foldl_append]
  simp only [List.foldl_cons, List.foldl_nil]
  generalize (zs.take jj).foldl (stepI m leaf lv) s0 = s at hE hlt hc4 hpl ⊢
  obtain ⟨plan, ks, cnt⟩ := s
  simp only at hE hlt hc4 hpl ⊢
  obtain ⟨z1, z2, z3⟩ := hz _ (List.getElem_mem hjj)
  have hrd := hE.read (q := jj) (ds := zs[jj].1) (by rw [delF, if_neg (by omega), if_pos (Nat.le_refl _), hdf_at hjj]) (by omega)
  have hst : stepI m leaf lv (plan, ks, cnt) zs[jj] = if keepI m leaf lv cnt zs[jj].2 = true then (plan, ks ++ [zs[jj]], cnt) else (plan ++ [((lv : Int), zs[jj].2.1)], ks, cnt + 1) := rfl
  rw [hst]
  have hdz : hdf zs jj = some zs[jj].1 := hdf_at hjj
  have e6 : IntKind.i64.wrap ((jj : Int) + 1) = jj + 1 := wrap_i64 (by omega) (by omega)
  have e7 : IntKind.i64.wrap ((ks.length : Int) + 1) = ks.length + 1 := wrap_i64 (by omega) (by omega)
  have hik : ks.length < zs.length := by omega
  generalize zs[jj] = z at *
  obtain ⟨ds, b⟩ := z
  simp only at *
  have z1' := z1
  obtain ⟨u, rfl, w0, w1, qu⟩ := rep_g_Block z1
  obtain ⟨ua, uc, rfl⟩ := qu.slen
  have hE1 := hE.grow (List.prefix_append X [(⟨[.int .i64 b.1, .int .i64 b.2.1, .slice ua (List.length (α := UInt8) b.2.2) uc], 1, 2⟩ : Blk)])
  obtain ⟨cells, hb1, hb2, hb3⟩ := hE1.hd
  have hbnd : ks.length * 3 + 3 ≤ cells.length := by omega
  cases hkp : keepI m leaf lv cnt b with
  | true =>
    have hc := c_evict_keep hE1 hm hlf hc4 z1' ⟨z2, z3⟩ hkp
    rw [if_pos rfl]
    rw [S_slices_DeleteFunc_impl_Block_impl_Block_0]; unfold B_slices_DeleteFunc_impl_Block_impl_Block_0; simp [thenD_pp, sliceCells_sl, sliceCells_z, sliceCells_nil, take_full, appS_sl, appK_ok, appS_none, thenD_ag, agP_nil, agP_cons, hjj, hrd, hc, hik, hb1, hbnd, e6, e7, rd1_K, rdJ_ok, wrn_K, wrJ_ok]
    have hsp : splice cells (ks.length * 3) [.int .i64 b.1, .int .i64 b.2.1, .slice ua (List.length (α := UInt8) b.2.2) uc] = List.take (ks.length * 3) cells ++ .int .i64 b.1 :: .int .i64 b.2.1 :: .slice ua (List.length (α := UInt8) b.2.2) uc :: List.drop (ks.length * 3 + 3) cells := by simp [splice]
    rw [← hsp]
    refine ⟨_, ⟨hE1.seth ha hb1 hbnd (fun q ds hq => ?_), by simp; omega, hc4, by show plan.length ≤ _; omega⟩, rfl⟩
    by_cases hqe : q = ks.length
    · subst hqe
      rw [hd_self _ _ _ (by omega) rfl]
      simp only [delF, List.length_append, List.length_singleton, Nat.lt_succ_self, if_true] at hq
      rw [hdf_snoc, if_neg (Nat.lt_irrefl _), if_pos rfl] at hq
      exact Option.some.inj hq
    · rw [hd_splice _ _ _ _ hbnd (by simp; omega)]
      refine hb3 q ds ?_
      simp only [delF, List.length_append, List.length_singleton] at hq ⊢
      rw [hdf_snoc, if_neg hqe] at hq
      by_cases h1 : q < ks.length
      · rw [if_pos h1]
        rw [if_pos (by omega), if_pos h1] at hq
        exact hq
      · rw [if_neg h1]
        rw [if_neg (by omega)] at hq
        split at hq
        · rw [if_pos (by omega)]; exact hq
        · cases hq
  | false =>
    obtain ⟨X', hc, hE', hlen, hnp⟩ := c_evict_take hE1 ha hm hlv hlf hc4 (by omega) z1' ⟨z2, z3⟩ hkp
    rw [if_neg (by decide)]
    rw [S_slices_DeleteFunc_impl_Block_impl_Block_0]; unfold B_slices_DeleteFunc_impl_Block_impl_Block_0; simp [thenD_pp, sliceCells_sl, sliceCells_z, sliceCells_nil, take_full, appS_sl, appK_ok, appS_none, thenD_ag, agP_nil, agP_cons, hjj, hrd, hc, e6]
    have hc3 : cnt + 1 ≤ 4 := by
      unfold keepI at hkp
      rw [Bool.or_eq_false_iff] at hkp
      have := of_decide_eq_false hkp.1
      omega
    refine ⟨_, ⟨hE'.weak fun q ds hq => ?_, by show ks.length < jj + 1; omega, hc3, by simp; omega⟩, rfl⟩
    simp only [delF] at hq ⊢
    split at hq
    · rename_i h1; rw [if_pos h1]; exact hq
    · rename_i h1
      rw [if_neg h1]
      split at hq
      · rw [if_pos (by omega)]; exact hq
      · cases hq
def DelD (M0 : Mem) (P : EvP) (m leaf lv : Nat) (s : List ty_Put.D × List (List V × ty_Block.D) × Nat) (p : V × Mem) : Prop :=
  p.1 = .slice (some ⟨P.l, 0, none⟩) s.2.1.length P.n ∧ EvS M0 P m leaf lv s.1 s.2.2 (hdf s.2.1) p.2 ∧ s.2.2 ≤ 4
theorem zero_cells3 (k : Nat) : (zeroCells [(.int .i64 0 : V), .int .i64 0, .slice none 0 0] k).length = k * 3 ∧ (zeroCells [(.int .i64 0 : V), .int .i64 0, .slice none 0 0] k).all one = true := by
  induction k with
  | zero => exact ⟨rfl, rfl⟩
  | succ k ih =>
    simp only [zeroCells]
    refine ⟨?_, ?_⟩
    · rw [List.length_append, ih.1]; simp; omega
    · rw [List.all_append, ih.2]; rfl
set_option maxHeartbeats 1000000 in
theorem c_del_Block (M0 : Mem) (P : EvP) (m leaf lv : Nat) (plan : List ty_Put.D) (cnt : Nat) (zs : List (List V × ty_Block.D)) (X : Mem) (h : EvS M0 P m leaf lv plan cnt (hdf zs) X) (ha : P.apart M0.length) (hm : m ≤ 6) (hlv : lv ≤ m) (hlf : leaf < 2 ^ m) (hc4 : cnt ≤ 4) (hpl : plan.length ≤ 90000) (hz : ZOk M0 m zs) (hk : zs.length ≤ P.n) (hn : P.n ≤ 1024) :
    Sat (aCall T0 F_slices_DeleteFunc_impl_Block_impl_Block [.slice (some ⟨P.l, 0, none⟩) zs.length P.n, clE P] X) (DelD M0 P m leaf lv (zs.foldl (stepI m leaf lv) (plan, [], cnt))) := by
  rw [aCall_eq T_slices_DeleteFunc_impl_Block_impl_Block]; unfold A_slices_DeleteFunc_impl_Block_impl_Block C_slices_DeleteFunc_impl_Block_impl_Block; simp [thenD_pp, sliceCells_sl, sliceCells_z, sliceCells_nil, take_full, appS_sl, appK_ok, appS_none, thenD_ag, agP_nil, agP_cons]
  generalize hx : aCall T0 F_slices_IndexFunc_impl_Block_impl_Block _ _ = xhx
  obtain ⟨v1, X1, rfl, hI⟩ := of_call hx (c_idx_Block M0 P m leaf lv plan cnt zs X h ha hm hlv hlf hc4 (by omega) hz hk (by omega))
  clear hx
  rcases hI with ⟨hv, hX, hall⟩ | ⟨j, hj, hv, hbef, hat, hE⟩
  · simp only at hv hX
    subst hv hX
    have hf := fold_keep m leaf lv plan cnt zs [] (fun z hz => by obtain ⟨i, hi, rfl⟩ := List.getElem_of_mem hz; exact hall i hi)
    rw [hf]
    simp [thenD_pp, sliceCells_sl, sliceCells_z, sliceCells_nil, take_full, appS_sl, appK_ok, appS_none, thenD_ag, agP_nil, agP_cons]
    exact ⟨_, rfl, rfl, h, hc4⟩
  · simp only at hv hE
    subst hv
    have hj1 : ¬ (j : Int) = -1 := by omega
    have e7 : IntKind.i64.wrap ((j : Int) + 1) = ((j + 1 : Nat) : Int) := by rw [wrap_i64 (by omega) (by omega)]; omega
    have hpre := fold_keep m leaf lv plan cnt (zs.take j) [] (fun z hz => by
      obtain ⟨i, hi, rfl⟩ := List.getElem_of_mem hz
      rw [List.length_take] at hi
      rw [List.getElem_take]
      exact hbef i (by omega))
    have hst : (zs.take (j + 1)).foldl (stepI m leaf lv) (plan, [], cnt) = (plan ++ [((lv : Int), zs[j].2.1)], zs.take j, cnt + 1) := by
      rw [List.take_succ_eq_append_getElem hj, List.foldl_append, hpre]
      simp only [List.foldl_cons, List.foldl_nil, List.nil_append]
      exact if_neg (by rw [hat]; decide)
    have hc3 : cnt + 1 ≤ 4 := by
      unfold keepI at hat
      rw [Bool.or_eq_false_iff] at hat
      have := of_decide_eq_false hat.1
      omega
    have htl : (zs.take j).length = j := by rw [List.length_take]; omega
    obtain ⟨X', ⟨hE2, hlt2, hc2, hp2⟩, e⟩ := l_del_Block M0 P m leaf lv zs plan.length (by omega) ha hm hlv hlf hz hk hn (plan, [], cnt) (j + 1) hj X1 (by
      rw [hst]
      refine ⟨hE.weak fun q ds hq => ?_, by show (zs.take j).length < _; omega, hc3, by simp⟩
      simp only [delF, htl] at hq
      split at hq
      · rename_i h1
        unfold hdf at hq ⊢
        rw [List.getElem?_take, if_pos h1] at hq
        exact hq
      · split at hq
        · exact hq
        · cases hq)
    rw [hst] at e
    simp only [htl] at e
    have hfl := fold_len (m := m) (leaf := leaf) (lv := lv) zs (plan, [], cnt)
    generalize zs.foldl (stepI m leaf lv) (plan, [], cnt) = s at e hE2 hlt2 hc2 hp2 hfl ⊢
    obtain ⟨plan', ks, cnt'⟩ := s
    simp only at e hE2 hlt2 hc2 hp2 hfl ⊢
    obtain ⟨cells, hb1, hb2, hb3⟩ := hE2.hd
    have hkl : ks.length ≤ zs.length := by omega
    have hkl' : (ks.length : Int) ≤ (zs.length : Int) := by omega
    have hsub : ((zs.length : Int) - (ks.length : Int)).toNat = zs.length - ks.length := by omega
    have hn0 : ¬ zs.length - ks.length = 0 := by omega
    have hmx : max zs.length P.n = P.n := by omega
    obtain ⟨zc1, zc2⟩ := zero_cells3 (zs.length - ks.length)
    have hbz : ks.length * 3 + (zeroCells [(.int .i64 0 : V), .int .i64 0, .slice none 0 0] (zs.length - ks.length)).length ≤ cells.length := by omega
    have ec : ((j + 1 : Nat) : Int) = (j : Int) + 1 := by omega
    simp only [ec] at e e7
    simp [thenD_pp, sliceCells_sl, sliceCells_z, sliceCells_nil, take_full, appS_sl, appK_ok, appS_none, thenD_ag, agP_nil, agP_cons, hj1, e7, e]
    rw [S_slices_DeleteFunc_impl_Block_impl_Block_0]; unfold B_slices_DeleteFunc_impl_Block_impl_Block_0; simp [thenD_pp, sliceCells_sl, sliceCells_z, sliceCells_nil, take_full, appS_sl, appK_ok, appS_none, thenD_ag, agP_nil, agP_cons, hb1, hkl, hkl', hsub, hn0, hmx, zc2, hbz, gs_of hb1, wrn_K, wrJ_ok]
    have hsp : splice cells (ks.length * 3) (zeroCells [(.int .i64 0 : V), .int .i64 0, .slice none 0 0] (zs.length - ks.length)) = List.take (ks.length * 3) cells ++ (zeroCells [(.int .i64 0 : V), .int .i64 0, .slice none 0 0] (zs.length - ks.length) ++ List.drop (ks.length * 3 + (zeroCells [(.int .i64 0 : V), .int .i64 0, .slice none 0 0] (zs.length - ks.length)).length) cells) := by simp [splice]
    rw [← hsp]
    refine ⟨_, rfl, rfl, hE2.seth ha hb1 hbz (fun q ds hq => ?_), hc2⟩
    have hql : q < ks.length := by
      unfold hdf at hq
      rcases Nat.lt_or_ge q ks.length with h | h
      · exact h
      · rw [List.getElem?_eq_none h] at hq; cases hq
    rw [hd_splice _ _ _ _ hbz (.inl (by omega))]
    refine hb3 q ds ?_
    rw [delF, if_pos hql]
    exact hq
set_option maxHeartbeats 1000000 in
theorem l_impl_evict_0 (M0 : Mem) (l n pl pf pp : Nat) (m leaf : Nat) (zs : List (List V × ty_Block.D)) (hm : m ≤ 6) (hlf : leaf < 2 ^ m) (hz : ZOk M0 m zs) (hn : zs.length = n) (hn2 : n ≤ 128) (hge : M0.length ≤ l ∧ M0.length ≤ pl ∧ M0.length ≤ pf ∧ M0.length ≤ pp) (hd : l ≠ pl ∧ l ≠ pf ∧ l ≠ pp ∧ pl ≠ pp ∧ pf ≠ pp) (pv : Nat) (Z : Mem) (hZ : LvI M0 l n pl pf pp m leaf zs 0 pv Z) :
    ∃ pv' X', LvI M0 l n pl pf pp m leaf zs (m + 1) pv' X' ∧ lp (aCall T0) K_impl_evict_0 L_impl_evict_0 [und, und, und, und, .pointer (some ⟨pl, 0, none⟩), .pointer (some ⟨pf, 0, none⟩), und, und, .pointer (some ⟨pp, 0, none⟩), .slice (some ⟨l, 0, none⟩) (levsI m leaf zs 0).2.length n, .pointer (some ⟨pv, 0, none⟩), und, und, und, und, und, und, und, und, und, und, und, und, und, und] Z = lp (aCall T0) K_impl_evict_0 L_impl_evict_0 [und, und, und, und, .pointer (some ⟨pl, 0, none⟩), .pointer (some ⟨pf, 0, none⟩), und, und, .pointer (some ⟨pp, 0, none⟩), .slice (some ⟨l, 0, none⟩) (levsI m leaf zs (m + 1)).2.length n, .pointer (some ⟨pv', 0, none⟩), und, und, und, und, und, und, und, und, und, und, und, und, und, und] X' := by
  refine loop_to (call := aCall T0) (K := K_impl_evict_0) (L := L_impl_evict_0) (fun k pv X => LvI M0 l n pl pf pp m leaf zs k pv X) (fun k pv => [und, und, und, und, .pointer (some ⟨pl, 0, none⟩), .pointer (some ⟨pf, 0, none⟩), und, und, .pointer (some ⟨pp, 0, none⟩), .slice (some ⟨l, 0, none⟩) (levsI m leaf zs k).2.length n, .pointer (some ⟨pv, 0, none⟩), und, und, und, und, und, und, und, und, und, und, und, und, und, und]) (n := m + 1) ?_ 0 pv Z (by omega) hZ
  intro k pv X hk ⟨hT, hp0, hp1, hp2, hp3, hp4⟩
  obtain ⟨hsub, hpl⟩ := levsI_sub m leaf zs k
  have hpl2 : (levsI m leaf zs k).1.length ≤ 90000 := Nat.le_trans hpl (Nat.le_trans (Nat.mul_le_mul (show k ≤ 6 by omega) (show zs.length ≤ 128 by omega)) (by omega))
  simp only [LvI, levsI_succ]
  have hlen := hsub.length_le
  have hz2 : ZOk M0 m (levsI m leaf zs k).2 := fun z h => hz z (hsub.subset h)
  generalize levsI m leaf zs k = s at *
  obtain ⟨plan, ys⟩ := s
  simp only at *
  have hlv : (m : Int) - k = ((m - k : Nat) : Int) := by omega
  rw [hlv] at hT
  obtain ⟨cells, hl1, hl2, hl3⟩ := hT.hd
  obtain ⟨vp, Lp, g1, g2, g3, g4⟩ := hT.bp
  have hS : EvS M0 ⟨l, n, X.length, pl, pf, pv, pp⟩ m leaf (m - k) plan 0 (hdf ys) (X ++ [⟨[.int .i64 0], 1, 2⟩]) :=
    ⟨pf_app hT.pre, ⟨cells, get_pre' hl1, hl2, hl3⟩, by simp, get_pre' hT.bl, get_pre' hT.bf, get_pre' hT.bv, ⟨vp, Lp, get_pre' g1, g2.grow (List.prefix_append _ _), g3, fun j hj => by
      obtain ⟨h1, h2, h3, h4, h5, h6⟩ := g4 j hj
      have := g2.lt j hj
      exact ⟨h1, h2, by show j ≠ X.length; omega, h3, h4, h5, h6⟩⟩⟩
  have hap : (⟨l, n, X.length, pl, pf, pv, pp⟩ : EvP).apart M0.length := by
    have := get_lt hl1
    have := get_lt hT.bl
    have := get_lt hT.bf
    have := get_lt hT.bv
    have := get_lt g1
    have := hT.pre.length_le
    unfold EvP.apart
    simp only
    omega
  have hc := c_del_Block M0 ⟨l, n, X.length, pl, pf, pv, pp⟩ m leaf (m - k) plan 0 ys _ hS hap hm (by omega) hlf (by omega) hpl2 hz2 (by show ys.length ≤ n; omega) (by show n ≤ 1024; omega)
  have hbv := hT.bv
  have hge0 : (0 : Int) ≤ ((m - k : Nat) : Int) := by omega
  rw [S_impl_evict_0]; unfold B_impl_evict_0; simp [thenD_pp, sliceCells_sl, sliceCells_z, sliceCells_nil, take_full, appS_sl, appK_ok, appS_none, thenD_ag, agP_nil, agP_cons, hbv, hge0, rd1_K, rdJ_ok]
  generalize hx : aCall T0 F_slices_DeleteFunc_impl_Block_impl_Block _ _ = xhx
  obtain ⟨v2, X2, rfl, hv2, hE2, _⟩ := of_call hx hc
  clear hx
  simp only at hv2 hE2
  subst hv2
  have hbv2 := hE2.bv
  simp only at hbv2
  have hbv3 := fun N : Mem => get_pre' (N := N) hbv2
  have e7 : IntKind.i64.wrap (((m - k : Nat) : Int) - 1) = (m : Int) - (k + 1 : Nat) := by rw [wrap_i64 (by omega) (by omega)]; omega
  simp [thenD_pp, sliceCells_sl, sliceCells_z, sliceCells_nil, take_full, appS_sl, appK_ok, appS_none, thenD_ag, agP_nil, agP_cons, hbv2, hbv3, e7, rd1_K, rdJ_ok]
  have hX2 := (hE2.pre).length_le
  have hpp := hE2.pre
  obtain ⟨cells2, q1, q2, q3⟩ := hE2.hd
  obtain ⟨vp2, Lp2, r1, r2, r3, r4⟩ := hE2.bp
  have t1 := get_lt q1
  have t2 := get_lt hE2.bl
  have t3 := get_lt hE2.bf
  have t4 := get_lt r1
  simp only at q1 q2 q3 r1 r4 t1 t2 t3 t4
  refine ⟨X2.length, _, ⟨⟨pf_app hpp, ⟨cells2, get_pre' q1, q2, q3⟩, get_pre' hE2.bl, get_pre' hE2.bf, by simp, ⟨vp2, Lp2, get_pre' r1, r2.grow (List.prefix_append _ _), r3, fun j hj => ?_⟩⟩, hX2, by omega, by omega, by omega, by omega⟩, rfl⟩
  obtain ⟨h1, h2, h3, h4, h5, h6, h7⟩ := r4 j hj
  have := r2.lt j hj
  exact ⟨h1, h2, h4, h5, by omega, h7⟩
/-- What evict hands back. -/
def EvD (M : Mem) (plan : List ty_Put.D) (zs : List (List V × ty_Block.D)) (n : Nat) (p : V × Mem) : Prop :=
  ∃ (vp : V) (l : Nat) (Lp : List Nat) (cells : List V), p.1 = .tuple #[vp, .slice (some ⟨l, 0, none⟩) zs.length n] ∧ M <+: p.2 ∧ Gr (.sl ty_Put) p.2 [vp] plan Lp ∧ Lp.Nodup ∧ (∀ j ∈ Lp, M.length ≤ j ∧ j ≠ l) ∧ M.length ≤ l ∧ p.2[l]? = some ⟨cells, 3, 2⟩ ∧ cells.length = n * 3 ∧ ∀ q ds, hdf zs q = some ds → (cells.drop (q * 3)).take 3 = ds
theorem zl_take {M : Mem} : ∀ {zs : List (List V × ty_Block.D)}, (∀ z ∈ zs, Rep ty_Block M z.1 z.2) → ∀ (q : Nat) (ds : List V), hdf zs q = some ds → ((Zl zs).drop (q * 3)).take 3 = ds
  | [], _, q, ds, h => by simp [hdf] at h
  | z :: zs, hz, 0, ds, h => by
    have hl := (hz z (by simp)).len
    have hw : ty_Block.w = 3 := rfl
    rw [hw] at hl
    simp only [hdf, List.getElem?_cons_zero, Option.map_some, Option.some.injEq] at h
    subst h
    show ((z.1 ++ Zl zs).drop 0).take 3 = z.1
    rw [List.drop_zero, ← hl, List.take_left']
    rfl
  | z :: zs, hz, q + 1, ds, h => by
    have hl := (hz z (by simp)).len
    have hw : ty_Block.w = 3 := rfl
    rw [hw] at hl
    have ih := zl_take (zs := zs) (fun y hy => hz y (List.mem_cons_of_mem _ hy)) q ds (by simpa [hdf] using h)
    show ((z.1 ++ Zl zs).drop ((q + 1) * 3)).take 3 = ds
    rw [List.drop_append, List.drop_of_length_le (by omega), List.nil_append]
    have : (q + 1) * 3 - z.1.length = q * 3 := by omega
    rw [this]
    exact ih
set_option maxHeartbeats 1000000 in
theorem c_impl_evict (M : Mem) (v : V) (zs : List (List V × ty_Block.D)) (m leaf : Nat) (hv : ∃ a c, v = .slice a zs.length c) (hz2 : ∀ z ∈ zs, Rep ty_Block M z.1 z.2) (h3 : sliceCells M 3 v = some (zs.length, Zl zs)) (hm : m ≤ 6) (hlf : leaf < 2 ^ m) (hL : LfOk m (zs.map (·.2))) (hn : zs.length ≤ 128) (h0 : zs ≠ []) :
    Sat (aCall T0 F_impl_evict [v, .int .i64 m, .int .i64 leaf] M) (EvD M (levsI m leaf zs (m + 1)).1 (levsI m leaf zs (m + 1)).2 zs.length) := by
  have hC := c_clone_Block M (M ++ [⟨[.int .i64 m], 1, 2⟩, ⟨[.int .i64 leaf], 1, 2⟩, ⟨[.slice none 0 0], 1, 2⟩]) (List.prefix_append _ _) v zs hv hz2 h3 (by omega)
  obtain ⟨av, cv, rfl⟩ := hv
  have hZ : ZOk M m zs := fun z hz => ⟨hz2 z hz, hL z.2 (List.mem_map_of_mem hz)⟩
  rw [aCall_eq T_impl_evict]; unfold A_impl_evict C_impl_evict; simp [thenD_pp, sliceCells_sl, sliceCells_z, sliceCells_nil, take_full, appS_sl, appK_ok, appS_none, thenD_ag, agP_nil, agP_cons]
  generalize hx : aCall T0 F_slices_Clone_impl_Block_impl_Block _ _ = xhx
  obtain ⟨v1, X1, rfl, p1, ⟨he, _⟩ | ⟨_, l, rfl, hl1, hl2⟩⟩ := of_call hx hC
  · exact absurd he h0
  clear hx
  simp only at p1 hl2
  have b0 : X1[M.length]? = some ⟨[.int .i64 m], 1, 2⟩ := get_pre p1 (by simp)
  have b1 : X1[M.length + 1]? = some ⟨[.int .i64 leaf], 1, 2⟩ := get_pre p1 (by simp)
  have b2 : X1[M.length + 2]? = some ⟨[.slice none 0 0], 1, 2⟩ := get_pre p1 (by simp)
  have pM : M <+: X1 := (List.prefix_append _ _).trans p1
  simp at hl1
  have hln := get_lt hl2
  have b0' := fun N : Mem => get_pre' (N := N) b0
  have hfl : (Zl zs).length = zs.length * 3 := by
    unfold Zl
    rw [flat_len (w := 3)]
    · simp
    · intro c hc
      obtain ⟨z, hz, rfl⟩ := List.mem_map.1 hc
      exact (hz2 z hz).len
  have hT : LvI M l zs.length M.length (M.length + 1) (M.length + 2) m leaf zs 0 X1.length (X1 ++ [⟨[.int .i64 m], 1, 2⟩]) := by
    refine ⟨⟨pf_app pM, ⟨Zl zs, get_pre' hl2, hfl, zl_take hz2⟩, get_pre' b0, get_pre' b1, by simp, ⟨.slice none 0 0, [], get_pre' b2, Gr.nil, by simp, by simp⟩⟩, pM.length_le, by omega, ?_, ?_, ?_⟩
    · have := get_lt b0; omega
    · have := get_lt b1; omega
    · have := get_lt b2; omega
  obtain ⟨pv', X', ⟨hT', _⟩, e⟩ := l_impl_evict_0 M l zs.length M.length (M.length + 1) (M.length + 2) m leaf zs hm hlf hZ rfl hn ⟨by omega, by omega, by omega, by omega⟩ ⟨by omega, by omega, by omega, by omega, by omega⟩ X1.length _ hT
  have e0 : (levsI m leaf zs 0).2.length = zs.length := rfl
  rw [e0] at e
  obtain ⟨vp, Lp, g1, g2, g3, g4⟩ := hT'.bp
  obtain ⟨cells, q1, q2, q3⟩ := hT'.hd
  have hbv := hT'.bv
  have hneg : ¬ (m : Int) + 1 ≤ (m : Int) := by omega
  obtain ⟨ap, rfl⟩ := g2.shape
  simp [thenD_pp, sliceCells_sl, sliceCells_z, sliceCells_nil, take_full, appS_sl, appK_ok, appS_none, thenD_ag, agP_nil, agP_cons, b0, b0', e, rd1_K, rdJ_ok]
  rw [S_impl_evict_0]; unfold B_impl_evict_0; simp [thenD_pp, sliceCells_sl, sliceCells_z, sliceCells_nil, take_full, appS_sl, appK_ok, appS_none, thenD_ag, agP_nil, agP_cons, hbv, hneg, g1, rd1_K, rdJ_ok]
  exact ⟨_, rfl, _, l, Lp, cells, rfl, hT'.pre, g2, g3, fun j hj => ⟨(g4 j hj).1, (g4 j hj).2.1⟩, by omega, q1, q2, q3⟩
theorem stepI_acc (m leaf lv : Nat) : ∀ (zs : List (List V × ty_Block.D)) (plan : List ty_Put.D) (ks : List (List V × ty_Block.D)) (n : Nat), zs.foldl (stepI m leaf lv) (plan, ks, n) = ((zs.foldl (stepI m leaf lv) (plan, [], n)).1, ks ++ (zs.foldl (stepI m leaf lv) (plan, [], n)).2.1, (zs.foldl (stepI m leaf lv) (plan, [], n)).2.2)
  | [], plan, ks, n => by simp
  | z :: zs, plan, ks, n => by
    rw [List.foldl_cons, List.foldl_cons]
    by_cases h : keepI m leaf lv n z.2 = true
    · have e1 : stepI m leaf lv (plan, ks, n) z = (plan, ks ++ [z], n) := if_pos h
      have e2 : stepI m leaf lv (plan, [], n) z = (plan, [z], n) := if_pos h
      rw [e1, e2, stepI_acc m leaf lv zs plan (ks ++ [z]) n, stepI_acc m leaf lv zs plan [z] n]
      simp
    · have e1 : stepI m leaf lv (plan, ks, n) z = (plan ++ [((lv : Int), z.2.1)], ks, n + 1) := if_neg h
      have e2 : stepI m leaf lv (plan, [], n) z = (plan ++ [((lv : Int), z.2.1)], [], n + 1) := if_neg h
      rw [e1, e2, stepI_acc m leaf lv zs _ ks (n + 1)]
theorem hasId_not {id : Int} {xs : List ty_Block.D} (h : ∀ b ∈ xs, b.1 ≠ id) : hasId id xs = false := by
  unfold hasId
  rw [List.any_eq_false]
  intro b hb
  simpa using h b hb
theorem without_same {id : Int} {xs : List ty_Block.D} (h : ∀ b ∈ xs, b.1 ≠ id) : withoutL id xs = xs := by
  unfold withoutL
  rw [List.filter_eq_self]
  intro b hb
  exact decide_eq_true (h b hb)
theorem withoutL_app (id : Int) (xs ys : List ty_Block.D) : withoutL id (xs ++ ys) = withoutL id xs ++ withoutL id ys := List.filter_append ..
theorem level_eq (m leaf lv : Nat) : ∀ (xs : List ty_Block.D) (zs : List (List V × ty_Block.D)) (ks : List ty_Block.D) (plan : List ty_Put.D) (n : Nat), n ≤ 4 → IdNd xs → List.Sublist (zs.map (·.2)) xs → (∀ a ∈ ks, ∀ b ∈ xs, a.1 ≠ b.1) →
    xs.foldl (stepE m leaf lv) (plan, ks ++ zs.map (·.2), n) = ((zs.foldl (stepI m leaf lv) (plan, [], n)).1, ks ++ (zs.foldl (stepI m leaf lv) (plan, [], n)).2.1.map (·.2), (zs.foldl (stepI m leaf lv) (plan, [], n)).2.2)
  | [], zs, ks, plan, n, hn, hd, hs, hk => by
    have : zs = [] := by
      have := hs.length_le
      simp at this
      exact this
    subst this
    simp
  | b :: xs, zs, ks, plan, n, hn, hd, hs, hk => by
    have hd' := List.pairwise_cons.1 hd
    rw [List.foldl_cons]
    match zs, hs with
    | [], _ =>
      have e : stepE m leaf lv (plan, ks ++ ([] : List (List V × ty_Block.D)).map (·.2), n) b = (plan, ks ++ ([] : List (List V × ty_Block.D)).map (·.2), n) := by
        refine if_neg fun h => ?_
        have := h.1
        rw [hasId_not (fun a ha => hk a (by simpa using ha) b (by simp))] at this
        cases this
      rw [e]
      exact level_eq m leaf lv xs [] ks plan n hn hd'.2 (by simp) (fun a ha c hc => hk a ha c (by simp [hc]))
    | z :: zs, hs =>
      by_cases hz : z.2 = b
      · have hs' : List.Sublist (zs.map (·.2)) xs := by
          rw [List.map_cons, hz] at hs
          exact List.cons_sublist_cons.1 hs
        have hid : hasId b.1 (ks ++ (z :: zs).map (·.2)) = true := List.any_eq_true.2 ⟨b, by simp [hz], by simp⟩
        have hrest : ∀ a ∈ zs.map (·.2), a.1 ≠ b.1 := fun a ha => (hd'.1 a (hs'.subset ha)).symm
        rw [List.foldl_cons]
        by_cases hkp : keepI m leaf lv n z.2 = true
        · have e1 : stepE m leaf lv (plan, ks ++ (z :: zs).map (·.2), n) b = (plan, ks ++ (z :: zs).map (·.2), n) := by
            refine if_neg fun h => ?_
            obtain ⟨_, h1, h2⟩ := h
            unfold keepI at hkp
            rw [hz, Bool.or_eq_true] at hkp
            simp only at h1
            rcases hkp with hkp | hkp
            · have := of_decide_eq_true hkp; omega
            · have := of_decide_eq_true hkp; omega
          have e2 : stepI m leaf lv (plan, [], n) z = (plan, [z], n) := if_pos hkp
          rw [e1, e2]
          have e3 : ks ++ (z :: zs).map (·.2) = (ks ++ [b]) ++ zs.map (·.2) := by simp [hz]
          rw [e3, level_eq m leaf lv xs zs (ks ++ [b]) plan n hn hd'.2 hs' (fun a ha c hc => by
            rcases List.mem_append.1 ha with h | h
            · exact hk a h c (by simp [hc])
            · simp at h; subst h; exact hd'.1 c hc), stepI_acc m leaf lv zs plan [z] n]
          simp [hz]
        · have hk2 : n < 4 ∧ lv ≤ mtN m leaf b := by
            have hkp : keepI m leaf lv n z.2 = false := by simpa using hkp
            unfold keepI at hkp
            rw [hz, Bool.or_eq_false_iff] at hkp
            have h1 := of_decide_eq_false hkp.1
            have h2 := of_decide_eq_false hkp.2
            omega
          have e1 : stepE m leaf lv (plan, ks ++ (z :: zs).map (·.2), n) b = (plan ++ [((lv : Int), b.1)], withoutL b.1 (ks ++ (z :: zs).map (·.2)), n + 1) := if_pos ⟨hid, hk2.1, hk2.2⟩
          have e2 : stepI m leaf lv (plan, [], n) z = (plan ++ [((lv : Int), z.2.1)], [], n + 1) := if_neg hkp
          have e3 : withoutL b.1 (ks ++ (z :: zs).map (·.2)) = ks ++ zs.map (·.2) := by
            rw [withoutL_app, without_same (fun a ha => hk a ha b (by simp)), List.map_cons, hz]
            have : withoutL b.1 (b :: zs.map (·.2)) = withoutL b.1 (zs.map (·.2)) := by simp [withoutL]
            rw [this, without_same hrest]
          rw [e1, e2, e3, hz]
          exact level_eq m leaf lv xs zs ks _ (n + 1) (by omega) hd'.2 hs' (fun a ha c hc => hk a ha c (by simp [hc]))
      · have hs' : List.Sublist ((z :: zs).map (·.2)) xs := by
          rw [List.map_cons] at hs ⊢
          cases hs with
          | cons _ h => exact h
          | cons_cons _ h => exact absurd rfl hz
        have e : stepE m leaf lv (plan, ks ++ (z :: zs).map (·.2), n) b = (plan, ks ++ (z :: zs).map (·.2), n) := by
          refine if_neg fun h => ?_
          have := h.1
          rw [hasId_not (fun a ha => ?_)] at this
          · cases this
          · rcases List.mem_append.1 ha with h | h
            · exact hk a h b (by simp)
            · exact (hd'.1 a (hs'.subset h)).symm
        rw [e]
        exact level_eq m leaf lv xs (z :: zs) ks plan n hn hd'.2 hs' (fun a ha c hc => hk a ha c (by simp [hc]))
theorem levels_eq (m leaf : Nat) (xs : List ty_Block.D) (zs : List (List V × ty_Block.D)) (hz : zs.map (·.2) = xs) (hd : IdNd xs) : ∀ k, levelsE m leaf xs k = ((levsI m leaf zs k).1, (levsI m leaf zs k).2.map (·.2))
  | 0 => by simp [levelsE, levsI, hz]
  | k + 1 => by
    have ih := levels_eq m leaf xs zs hz hd k
    rw [levelsE_succ, levsI_succ, ih]
    have hs : List.Sublist ((levsI m leaf zs k).2.map (·.2)) xs := by rw [← hz]; exact (levsI_sub m leaf zs k).1.map _
    have h := level_eq m leaf (m - k) xs (levsI m leaf zs k).2 [] (levsI m leaf zs k).1 0 (by omega) hd hs (by simp)
    simp only [List.nil_append] at h
    unfold levelE levI
    rw [h]
def EvZ (M : Mem) (pl pp pv : Nat) (m k : Nat) (X : Mem) : Prop := M <+: X ∧ X[pp]? = some ⟨[.slice none 0 0], 1, 2⟩ ∧ X[pv]? = some ⟨[.int .i64 ((m : Int) - k)], 1, 2⟩
theorem c_idx_none (M : Mem) (a : Option Addr) (c : Nat) (cl : V) : aCall T0 F_slices_IndexFunc_impl_Block_impl_Block [.slice a 0 c, cl] M = some (.int .i64 (-1), M) := by
  rw [aCall_eq T_slices_IndexFunc_impl_Block_impl_Block]; unfold A_slices_IndexFunc_impl_Block_impl_Block C_slices_IndexFunc_impl_Block_impl_Block; simp [thenD_pp, sliceCells_sl, sliceCells_z, sliceCells_nil, take_full, appS_sl, appK_ok, appS_none, thenD_ag, agP_nil, agP_cons]
  rw [S_slices_IndexFunc_impl_Block_impl_Block_0]; unfold B_slices_IndexFunc_impl_Block_impl_Block_0; simp [thenD_pp, sliceCells_sl, sliceCells_z, sliceCells_nil, take_full, appS_sl, appK_ok, appS_none, thenD_ag, agP_nil, agP_cons]
theorem c_del_none (M : Mem) (a : Option Addr) (c : Nat) (cl : V) : aCall T0 F_slices_DeleteFunc_impl_Block_impl_Block [.slice a 0 c, cl] M = some (.slice a 0 c, M) := by
  have e := c_idx_none M a c cl
  rw [aCall_eq T_slices_DeleteFunc_impl_Block_impl_Block]; unfold A_slices_DeleteFunc_impl_Block_impl_Block C_slices_DeleteFunc_impl_Block_impl_Block; simp [thenD_pp, sliceCells_sl, sliceCells_z, sliceCells_nil, take_full, appS_sl, appK_ok, appS_none, thenD_ag, agP_nil, agP_cons, e]
theorem l_evict_none (M : Mem) (pl pf pp : Nat) (m : Nat) (hm : m ≤ 6) (a : Option Addr) (c : Nat) (pv : Nat) (Z : Mem) (hZ : EvZ M pl pp pv m 0 Z) :
    ∃ pv' X', EvZ M pl pp pv' m (m + 1) X' ∧ lp (aCall T0) K_impl_evict_0 L_impl_evict_0 [und, und, und, und, .pointer (some ⟨pl, 0, none⟩), .pointer (some ⟨pf, 0, none⟩), und, und, .pointer (some ⟨pp, 0, none⟩), .slice a 0 c, .pointer (some ⟨pv, 0, none⟩), und, und, und, und, und, und, und, und, und, und, und, und, und, und] Z = lp (aCall T0) K_impl_evict_0 L_impl_evict_0 [und, und, und, und, .pointer (some ⟨pl, 0, none⟩), .pointer (some ⟨pf, 0, none⟩), und, und, .pointer (some ⟨pp, 0, none⟩), .slice a 0 c, .pointer (some ⟨pv', 0, none⟩), und, und, und, und, und, und, und, und, und, und, und, und, und, und] X' := by
  refine loop_to (call := aCall T0) (K := K_impl_evict_0) (L := L_impl_evict_0) (fun k pv X => EvZ M pl pp pv m k X) (fun k pv => [und, und, und, und, .pointer (some ⟨pl, 0, none⟩), .pointer (some ⟨pf, 0, none⟩), und, und, .pointer (some ⟨pp, 0, none⟩), .slice a 0 c, .pointer (some ⟨pv, 0, none⟩), und, und, und, und, und, und, und, und, und, und, und, und, und, und]) (n := m + 1) ?_ 0 pv Z (by omega) hZ
  intro k pv X hk ⟨pX, hp, hv⟩
  have hv' := fun N : Mem => get_pre' (N := N) hv
  have hge0 : k ≤ m := by omega
  have e7 : IntKind.i64.wrap ((m : Int) - k - 1) = (m : Int) - (k + 1 : Nat) := by rw [wrap_i64 (by omega) (by omega)]; omega
  have hd := fun N : Mem => fun cl => c_del_none (X ++ N) a c cl
  rw [S_impl_evict_0]; unfold B_impl_evict_0; simp [thenD_pp, sliceCells_sl, sliceCells_z, sliceCells_nil, take_full, appS_sl, appK_ok, appS_none, thenD_ag, agP_nil, agP_cons, hv, hv', hge0, hd, e7, rd1_K, rdJ_ok]
  refine ⟨X.length + 1, _, ⟨pf_app pX, get_pre' hp, ?_⟩, rfl⟩
  simp
/-- What evict of nothing hands back. -/
def EvN (M : Mem) (p : V × Mem) : Prop := ∃ vr La, p.1 = .tuple #[.slice none 0 0, vr] ∧ M <+: p.2 ∧ Gr (.sl ty_Block) p.2 [vr] [] La ∧ La.Nodup ∧ ∀ l ∈ La, M.length ≤ l
/-- evict of nothing. -/
theorem c_evict_none (M : Mem) (v : V) (m leaf : Nat) (hv : ∃ a c, v = .slice a 0 c) (h3 : sliceCells M 3 v = some (0, [])) (hm : m ≤ 6) :
    Sat (aCall T0 F_impl_evict [v, .int .i64 m, .int .i64 leaf] M) (EvN M) := by
  have hC := c_clone_Block M (M ++ [⟨[.int .i64 m], 1, 2⟩, ⟨[.int .i64 leaf], 1, 2⟩, ⟨[.slice none 0 0], 1, 2⟩]) (List.prefix_append _ _) v [] hv (by simp) h3 (by simp)
  obtain ⟨av, cv, rfl⟩ := hv
  rw [aCall_eq T_impl_evict]; unfold A_impl_evict C_impl_evict; simp [thenD_pp, sliceCells_sl, sliceCells_z, sliceCells_nil, take_full, appS_sl, appK_ok, appS_none, thenD_ag, agP_nil, agP_cons]
  generalize hx : aCall T0 F_slices_Clone_impl_Block_impl_Block _ _ = xhx
  obtain ⟨v1, X1, rfl, p1, ⟨_, La, g1, g2, g3⟩ | ⟨h0, _⟩⟩ := of_call hx hC
  · clear hx
    simp only at p1 g1
    obtain ⟨a, rfl⟩ := g1.shape
    have b0 : X1[M.length]? = some ⟨[.int .i64 m], 1, 2⟩ := get_pre p1 (by simp)
    have b2 : X1[M.length + 2]? = some ⟨[.slice none 0 0], 1, 2⟩ := get_pre p1 (by simp)
    have pM : M <+: X1 := (List.prefix_append _ _).trans p1
    have b0' := fun N : Mem => get_pre' (N := N) b0
    have hZ : EvZ X1 M.length (M.length + 2) X1.length m 0 (X1 ++ [⟨[.int .i64 m], 1, 2⟩]) := ⟨List.prefix_append _ _, get_pre' b2, by simp⟩
    obtain ⟨pv', X', ⟨hp', hb2, hbv⟩, e⟩ := l_evict_none X1 M.length (M.length + 1) (M.length + 2) m hm a 0 X1.length _ hZ
    have hneg : ¬ (m : Int) + 1 ≤ (m : Int) := by omega
    simp only [List.length_nil] at *
    simp [thenD_pp, sliceCells_sl, sliceCells_z, sliceCells_nil, take_full, appS_sl, appK_ok, appS_none, thenD_ag, agP_nil, agP_cons, b0, b0', e, rd1_K, rdJ_ok]
    rw [S_impl_evict_0]; unfold B_impl_evict_0; simp [thenD_pp, sliceCells_sl, sliceCells_z, sliceCells_nil, take_full, appS_sl, appK_ok, appS_none, thenD_ag, agP_nil, agP_cons, hbv, hneg, hb2, rd1_K, rdJ_ok]
    exact ⟨_, rfl, _, La, rfl, pM.trans hp', g1.grow hp', g2, fun l hl => by have := g3 l hl; simp at this; omega⟩
  · exact absurd rfl h0
theorem levelsE_nil (m leaf : Nat) : ∀ k, levelsE m leaf [] k = ([], [])
  | 0 => rfl
  | k + 1 => by
    rw [levelsE_succ, levelsE_nil m leaf k]
    rfl
end GoAm
