/- What the functions do that the law reaches. -/
import Derived.Test.YtlniheedmeaeeaaOramOkt
import Derived.Test.YtlniheedmeaeeaaAmGr
set_option autoImplicit false
set_option linter.unusedVariables false
set_option linter.unusedSimpArgs false
namespace GoAm
open Go
abbrev ty_Cell : Ty := .sl .u8
abbrev ty_Touch : Ty := .pr (.int .i64) (.pr (.int .i64) (.int .i64))
instance d_Touch : DecidableEq ty_Touch.D := Ty.deq ty_Touch
abbrev ty_Mem : Ty := .pr (.int .i64) (.pr (.sl ty_Cell) (.sl ty_Touch))
theorem own_g_Mem {M : Mem} {cs : List V} {x : ty_Mem.D} {L : List Nat} (h : Own ty_Mem M cs x L) : ∃ (u0 u1 : V) (L0 L1 : List Nat), cs = [.int .i64 x.1, u0, u1] ∧ (Lit.int .i64 x.1).wf = true ∧ Own (.sl ty_Cell) M [u0] x.2.1 L0 ∧ Own (.sl ty_Touch) M [u1] x.2.2 L1 ∧ L = L0 ++ L1 := by
  obtain ⟨c0, d0, K0, J0, rfl, h0, h, rfl⟩ := h
  obtain ⟨⟨rfl, w0⟩, rfl⟩ := h0
  obtain ⟨c1, d1, K1, J1, rfl, h1, h, rfl⟩ := h
  obtain ⟨u0, rfl⟩ : ∃ u, c1 = [u] := by
    have l0 := Rep.len ((h1).rep)
    exact List.length_eq_one_iff.1 l0
  have r0 := h1
  obtain ⟨u1, rfl⟩ : ∃ u, d1 = [u] := by
    have l1 := Rep.len ((h).rep)
    exact List.length_eq_one_iff.1 l1
  have r1 := h
  exact ⟨u0, u1, _, _, rfl, w0, r0, r1, by simp⟩
theorem mkrep_g_Mem {M : Mem} {x : ty_Mem.D} {u0 u1 : V} (w0 : (Lit.int .i64 x.1).wf = true) (r0 : Rep (.sl ty_Cell) M [u0] x.2.1) (r1 : Rep (.sl ty_Touch) M [u1] x.2.2) : Rep ty_Mem M [.int .i64 x.1, u0, u1] x := by
  exact ⟨[.int .i64 x.1], ([u0] ++ [u1]), rfl, ⟨rfl, w0⟩, ⟨[u0], ([u1]), rfl, r0, r1⟩⟩
theorem rep_g_Mem {M : Mem} {cs : List V} {x : ty_Mem.D} (h : Rep ty_Mem M cs x) : ∃ u0 u1 : V, cs = [.int .i64 x.1, u0, u1] ∧ (Lit.int .i64 x.1).wf = true ∧ Rep (.sl ty_Cell) M [u0] x.2.1 ∧ Rep (.sl ty_Touch) M [u1] x.2.2 := by
  obtain ⟨c0, d0, rfl, h0, h⟩ := h
  obtain ⟨rfl, w0⟩ := h0
  obtain ⟨c1, d1, rfl, h1, h⟩ := h
  obtain ⟨u0, rfl⟩ : ∃ u, c1 = [u] := by
    have l0 := Rep.len (h1)
    exact List.length_eq_one_iff.1 l0
  have r0 := h1
  obtain ⟨u1, rfl⟩ : ∃ u, d1 = [u] := by
    have l1 := Rep.len (h)
    exact List.length_eq_one_iff.1 l1
  have r1 := h
  exact ⟨u0, u1, rfl, w0, r0, r1⟩
theorem mkown_g_Mem {M : Mem} {x : ty_Mem.D} {u0 u1 : V} {L0 L1 : List Nat} (w0 : (Lit.int .i64 x.1).wf = true) (r0 : Own (.sl ty_Cell) M [u0] x.2.1 L0) (r1 : Own (.sl ty_Touch) M [u1] x.2.2 L1) : Own ty_Mem M [.int .i64 x.1, u0, u1] x (L0 ++ L1) := by
  have h : Own ty_Mem M [.int .i64 x.1, u0, u1] x _ := ⟨[.int .i64 x.1], ([u0] ++ [u1]), _, _, rfl, ⟨⟨rfl, w0⟩, rfl⟩, ⟨[u0], ([u1]), _, _, rfl, r0, r1, rfl⟩, rfl⟩
  simpa only [List.append_nil, List.nil_append, List.append_assoc] using h
abbrev enc_Touch (x : ty_Touch.D) : List V := [.int .i64 x.1, .int .i64 x.2.1, .int .i64 x.2.2]
theorem own_Touch (M : Mem) (x : ty_Touch.D) (h0 : (Lit.int .i64 x.1).wf = true) (h1 : (Lit.int .i64 x.2.1).wf = true) (h2 : (Lit.int .i64 x.2.2).wf = true) : Own ty_Touch M (enc_Touch x) x [] := ⟨[.int .i64 x.1], [.int .i64 x.2.1, .int .i64 x.2.2], [], [], rfl, ⟨⟨rfl, h0⟩, rfl⟩, ⟨[.int .i64 x.2.1], [.int .i64 x.2.2], [], [], rfl, ⟨⟨rfl, h1⟩, rfl⟩, ⟨⟨rfl, h2⟩, rfl⟩, rfl⟩, rfl⟩
theorem rown_Touch {M : Mem} {x : ty_Touch.D} (h : Rep ty_Touch M (enc_Touch x) x) : Own ty_Touch M (enc_Touch x) x [] := by
  obtain ⟨_, _, _, ⟨_, w1⟩, c3, c4, _, ⟨_, w2⟩, ⟨_, w3⟩⟩ := h
  exact own_Touch M x w1 w2 w3
theorem rep_Touch {M : Mem} {cs : List V} {x : ty_Touch.D} (h : Rep ty_Touch M cs x) : cs = enc_Touch x := by
  obtain ⟨_, _, rfl, ⟨rfl, _⟩, ⟨_, _, rfl, ⟨rfl, _⟩, ⟨rfl, _⟩⟩⟩ := h
  rfl
theorem c_laws_toTouch_f (M : Mem) (x : ty_Touch.D) : aCall T0 F_laws_toTouch [.agg (enc_Touch x).toArray] M = some (.agg (enc_Touch x).toArray, M) := by
  rw [aCall_eq T_laws_toTouch]; unfold A_laws_toTouch C_laws_toTouch; simp
theorem k_laws_toTouch : ToF T0 ty_Touch F_laws_toTouch := fun M cs x h hb => by
  obtain rfl := rep_Touch h
  exact ⟨M, _, [], List.prefix_refl _, c_laws_toTouch_f M x, rown_Touch h, by simp, by simp⟩
def z_Touch : List V := [(.int .i64 0), (.int .i64 0), (.int .i64 0)]
theorem k_laws_toTouchS : ToS T0 ty_Touch F_laws_toTouchS := to_sl (w := 3) (bytes := 24) (zero := z_Touch) T_laws_toTouchS rfl rfl rfl (by decide) k_laws_toTouch
abbrev ty_Byte : Ty := .u8
theorem rep_g_Cell {M : Mem} {cs : List V} {x : ty_Cell.D} (h : Rep ty_Cell M cs x) : ∃ u0 : V, cs = [u0] ∧ Rep (.sl ty_Byte) M [u0] x := by
  obtain ⟨u0, rfl⟩ : ∃ u, cs = [u] := by
    have l0 := Rep.len (h)
    exact List.length_eq_one_iff.1 l0
  have r0 := h
  exact ⟨u0, rfl, r0⟩
theorem mkown_g_Cell {M : Mem} {x : ty_Cell.D} {u0 : V} {L0 : List Nat} (r0 : Own (.sl ty_Byte) M [u0] x L0) : Own ty_Cell M [u0] x (L0) := by
  have h : Own ty_Cell M [u0] x _ := r0
  simpa only [List.append_nil, List.nil_append, List.append_assoc] using h
theorem nodup_flat {t : Ty} (hf : ∀ (M : Mem) (cs : List V) (x : t.D) (K : List Nat), Own t M cs x K → K = []) {M : Mem} {v : V} {xs : List t.D} {L : List Nat} (h : Own (.sl t) M [v] xs L) : L.Nodup := by
  rcases own_flat hf h with ⟨_, rfl, _⟩ | ⟨l, _, _, _, _, _, _, _, _, _, rfl⟩ <;> simp
theorem ownf_Byte (M : Mem) (cs : List V) (x : ty_Byte.D) (K : List Nat) (h : Own ty_Byte M cs x K) : K = [] := h.2
abbrev enc_Byte (x : ty_Byte.D) : List V := [byteV x]
def z_Byte : List V := [.int .u8 0]
theorem at_Byte {M : Mem} {a : Option Addr} {n c : Nat} {xs : List ty_Byte.D} (h : Rep (.sl ty_Byte) M [.slice a n c] xs) {i : Nat} (hi : i < xs.length) : ∃ l o, a = some ⟨l, o, none⟩ ∧ Rep ty_Byte M (enc_Byte xs[i]) xs[i] ∧ rd1 M l (o + i) = some (byteV xs[i]) := by
  obtain ⟨_, l, o, rfl, cs, hrd, hrep⟩ := rep_at h hi
  have hcs : cs = enc_Byte xs[i] := hrep
  subst hcs
  have hw1 : ty_Byte.w = 1 := rfl
  rw [hw1, Nat.mul_one] at hrd
  exact ⟨l, o, rfl, hrep, rd1_of_one hrd⟩
theorem r_laws_toByteS (M : Mem) (a : Option Addr) (c : Nat) (xs : List ty_Byte.D) (h : Rep (.sl ty_Byte) M [.slice a xs.length c] xs) (hn : xs.length ≤ 1048576) (i : Nat) (hi : i < xs.length) :
    lp (aCall T0) K_laws_toByteS_0 L_laws_toByteS_0 [.slice a xs.length c, und, und, .slice (some ⟨M.length, 0, none⟩) xs.length xs.length, .int .i64 i, und, und, und, und, und, und, und, und, und, und, und, und, und, und, und, und, und] (M ++ [⟨tcells enc_Byte z_Byte xs i, 1, 2⟩]) =
    lp (aCall T0) K_laws_toByteS_0 L_laws_toByteS_0 [.slice a xs.length c, und, und, .slice (some ⟨M.length, 0, none⟩) xs.length xs.length, .int .i64 (i + 1 : Nat), und, und, und, und, und, und, und, und, und, und, und, und, und, und, und, und, und] (M ++ [⟨tcells enc_Byte z_Byte xs (i + 1), 1, 2⟩]) := by
  obtain ⟨l, o, rfl, hrep, hrd⟩ := at_Byte h hi
  have hrd2 : rd1 (M ++ [⟨tcells enc_Byte z_Byte xs i, 1, 2⟩]) l (o + i) = some (byteV xs[i]) := rd1_old hrd
  have e2 := tcells_len (enc := enc_Byte) (z := z_Byte) (xs := xs) (fun x _ => rfl) (i := i) (by omega)
  have e3 := tcells_step (enc := enc_Byte) (z := z_Byte) (xs := xs) (fun x _ => rfl) hi
  have e4 : z_Byte.length = 1 := rfl
  rw [e4, Nat.mul_one] at e2 e3
  have e5 : i + 1 ≤ xs.length := by omega
  have e6 : IntKind.i64.wrap ((i : Int) + 1) = i + 1 := wrap_i64 (by omega) (by omega)
  unfold splice at e3
  simp at e3
  rw [S_laws_toByteS_0]; unfold B_laws_toByteS_0; simp [hrd2, e2, e3, e5, e6, hi]
theorem c_laws_toByteS (M : Mem) (v : V) (xs : List ty_Byte.D) (h : Rep (.sl ty_Byte) M [v] xs) (hn : xs.length ≤ 1048576) :
    aCall T0 F_laws_toByteS [v] M = some (.slice (some ⟨M.length, 0, none⟩) xs.length xs.length, M ++ [⟨(xs.map enc_Byte).flatten, 1, 2⟩]) := by
  obtain ⟨a, c, rfl⟩ := h.slen
  have hl := chain (g := fun i : Nat => lp (aCall T0) K_laws_toByteS_0 L_laws_toByteS_0 [.slice a xs.length c, und, und, .slice (some ⟨M.length, 0, none⟩) xs.length xs.length, .int .i64 i, und, und, und, und, und, und, und, und, und, und, und, und, und, und, und, und, und] (M ++ [⟨tcells enc_Byte z_Byte xs i, 1, 2⟩])) (n := xs.length) fun i hi => r_laws_toByteS M a c xs h hn i hi
  simp only [Int.natCast_zero, Int.ofNat_zero, tcells_zero, tcells_full] at hl
  unfold z_Byte at hl
  simp only [zeroCells_zc] at hl
  have e1 : (xs.length : Int) ≤ 281474976710656 := by omega
  have e2 : (xs.length : Int) ≤ 9223372036854775807 := by omega
  rw [aCall_eq T_laws_toByteS]; unfold A_laws_toByteS C_laws_toByteS; simp [e1, e2]
  rw [hl]
  rw [S_laws_toByteS_0]; unfold B_laws_toByteS_0; simp
theorem own_Byte (M : Mem) (x : ty_Byte.D) : Own ty_Byte M (enc_Byte x) x [] := ⟨rfl, rfl⟩
theorem d_laws_toByteS (M : Mem) (v : V) (xs : List ty_Byte.D) (h : Rep (.sl ty_Byte) M [v] xs) (hn : xs.length ≤ 1048576) : ∃ M' u L, M <+: M' ∧ aCall T0 F_laws_toByteS [v] M = some (u, M') ∧ Own (.sl ty_Byte) M' [u] xs L ∧ ∀ l ∈ L, M.length ≤ l ∧ l < M'.length := by
  have e := c_laws_toByteS M v xs h hn
  obtain ⟨L, o1, o2⟩ := own_blk (t := ty_Byte) (M := M ++ [⟨(xs.map enc_Byte).flatten, 1, 2⟩]) (l := M.length) (c := xs.length) (enc := enc_Byte) (ys := xs) (by simp; rfl) (fun y _ => own_Byte _ y)
  exact ⟨_, _, L, List.prefix_append _ _, e, o1, fun l hl => by rw [o2 l hl]; simp⟩
theorem k_laws_toByteS : ToS T0 ty_Byte F_laws_toByteS := fun M v xs h hb => by
  obtain ⟨M', u, L, p, e, o, f⟩ := d_laws_toByteS M v xs h hb.1
  exact ⟨M', u, L, p, e, o, nodup_flat ownf_Byte o, f⟩
set_option maxHeartbeats 4000000 in
theorem k_laws_toCell : ToF T0 ty_Cell F_laws_toCell := by
  intro M cs x h hb
  obtain ⟨u0, rfl, r0⟩ := rep_g_Cell h
  have i0 := one_head r0.one
  show ToG ty_Cell M x _
  rw [aCall_eq T_laws_toCell]; unfold A_laws_toCell C_laws_toCell; simp [thenD_pp, sliceCells_sl, sliceCells_z, sliceCells_nil, take_full, appS_sl, appK_ok, appS_none, thenD_ag, agP_nil, agP_cons, i0]
  generalize hx1 : aCall T0 F_laws_toByteS _ _ = x_1
  obtain ⟨M1, v0, K1, rfl, p1, o1, F1⟩ := ToS.at k_laws_toByteS hx1 (r0.mono (List.prefix_append _ _)) hb
  have f1 := F1.2
  clear hx1
  have b0_1 : M1[M.length]? = some ⟨[u0], 1, 2⟩ := get_pre p1 (by simp)
  have b1_1 : M1[M.length + 1]? = some ⟨[(.slice none 0 0)], 1, 2⟩ := get_pre p1 (by simp)
  have b2_1 : M1[M.length + 2]? = some ⟨[(.slice none 0 0)], 1, 2⟩ := get_pre p1 (by simp)
  have l_1 := get_lt b2_1
  have y1 : M <+: M1 := (List.prefix_append _ _).trans p1
  simp only [List.length_append, List.length_cons, List.length_nil] at f1
  have z1 : M <+: M1.set (M.length + 2) ⟨[v0], 1, 2⟩ := pf_set (by omega) y1
  have q1 := one_head (o1.rep.one)
  have qc1 := cells_sl o1
  have hb1 : (M1.set (M.length + 2) ⟨[v0], 1, 2⟩)[M.length + 1]? = some ⟨[(.slice none 0 0)], 1, 2⟩ := by simp [b1_1]
  have g1 := ((o1.set (b2 := ⟨[v0], 1, 2⟩) b2_1 rfl (fun hm => by have := f1 _ hm; omega)).set (b2 := ⟨[v0], 1, 2⟩) hb1 rfl (fun hm => by have := f1 _ hm; omega))
  have hh := mkown_g_Cell (x := x) g1
  try simp only [List.append_assoc] at hh
  obtain ⟨_, _, rfl⟩ := o1.rep.slen
  have gs2 : ∀ B C : Blk, ((M1.set (M.length + 2) B).set (M.length + 1) C)[M.length + 1]? = some C := fun B C => List.getElem?_set_self (by rw [List.length_set]; omega)
  simp [thenD_pp, sliceCells_sl, sliceCells_z, sliceCells_nil, take_full, appS_sl, appK_ok, appS_none, thenD_ag, agP_nil, agP_cons, b0_1, b1_1, b2_1, gs_of b2_1, gs2, rd1_K, rdJ_ok, rdn_K, rnJ_ok, wrn_K, wrJ_ok]
  refine ⟨_, _, K1, ?_, rfl, ?_, ?_⟩
  · exact pf_set (by omega) (pf_set (by omega) y1)
  · first | exact hh | (simp only [List.append_assoc]; exact hh)
  · refine ⟨F1.1, fun l hl => ?_⟩
    have := F1.2 l hl
    simp only [List.length_append, List.length_cons, List.length_nil, List.length_set] at this ⊢
    omega
theorem k_laws_toCellS : ToS T0 ty_Cell F_laws_toCellS := to_sl (w := 1) (bytes := 24) (zero := [.slice none 0 0]) T_laws_toCellS rfl rfl rfl (by decide) k_laws_toCell
set_option maxHeartbeats 4000000 in
theorem k_laws_toMem : ToF T0 ty_Mem F_laws_toMem := by
  intro M cs x h hb
  obtain ⟨u0, u1, rfl, w0, r0, r1⟩ := rep_g_Mem h
  have i0 := one_head r0.one
  have i1 := one_head r1.one
  show ToG ty_Mem M x _
  rw [aCall_eq T_laws_toMem]; unfold A_laws_toMem C_laws_toMem; simp [thenD_pp, sliceCells_sl, sliceCells_z, sliceCells_nil, take_full, appS_sl, appK_ok, appS_none, thenD_ag, agP_nil, agP_cons, i0, i1]
  generalize hx1 : aCall T0 F_laws_toCellS _ _ = x_1
  obtain ⟨M1, v0, K1, rfl, p1, o1, F1⟩ := ToS.at k_laws_toCellS hx1 (r0.mono (List.prefix_append _ _)) hb.2.1
  have f1 := F1.2
  clear hx1
  have b0_1 : M1[M.length]? = some ⟨[.int .i64 x.1, u0, u1], 1, 2⟩ := get_pre p1 (by simp)
  have b1_1 : M1[M.length + 1]? = some ⟨[(.int .i64 0), (.slice none 0 0), (.slice none 0 0)], 1, 2⟩ := get_pre p1 (by simp)
  have b2_1 : M1[M.length + 2]? = some ⟨[.int .i64 x.1, (.slice none 0 0), (.slice none 0 0)], 1, 2⟩ := get_pre p1 (by simp)
  have l_1 := get_lt b2_1
  have y1 : M <+: M1 := (List.prefix_append _ _).trans p1
  simp only [List.length_append, List.length_cons, List.length_nil] at f1
  have z1 : M <+: M1.set (M.length + 2) ⟨[.int .i64 x.1, v0, (.slice none 0 0)], 1, 2⟩ := pf_set (by omega) y1
  have q1 := one_head (o1.rep.one)
  have qc1 := cells_sl o1
  simp [thenD_pp, sliceCells_sl, sliceCells_z, sliceCells_nil, take_full, appS_sl, appK_ok, appS_none, thenD_ag, agP_nil, agP_cons, b0_1, b1_1, b2_1, gs_of b2_1, q1, qc1, rd1_K, rdJ_ok, rdn_K, rnJ_ok, wrn_K, wrJ_ok]
  generalize hx2 : aCall T0 F_laws_toTouchS _ _ = x_2
  obtain ⟨M2, v1, K2, rfl, p2, o2, F2⟩ := ToS.at k_laws_toTouchS hx2 (r1.mono z1) hb.2.2
  have f2 := F2.2
  clear hx2
  have b0_2 : M2[M.length]? = some ⟨[.int .i64 x.1, u0, u1], 1, 2⟩ := get_pre p2 (by simp [b0_1])
  have b1_2 : M2[M.length + 1]? = some ⟨[(.int .i64 0), (.slice none 0 0), (.slice none 0 0)], 1, 2⟩ := get_pre p2 (by simp [b1_1])
  have b2_2 : M2[M.length + 2]? = some ⟨[.int .i64 x.1, v0, (.slice none 0 0)], 1, 2⟩ := get_pre p2 (by simp [l_1])
  have l_2 := get_lt b2_2
  have y2 : M <+: M2 := z1.trans p2
  simp only [List.length_set] at f2
  have G2 := F1.app (by simp) F2 p1.length_le p2
  have g0_2 := Nat.le_trans p1.length_le (Nat.le_trans (Nat.le_of_eq (List.length_set).symm) p2.length_le)
  have o1 := (o1.set (b2 := ⟨[.int .i64 x.1, v0, (.slice none 0 0)], 1, 2⟩) b2_1 rfl (fun hm => by have := f1 _ hm; omega)).grow p2
  have f1 : ∀ l ∈ K1, M.length + 3 ≤ l ∧ l < M2.length := fun l hl => by have := f1 l hl; have := p2.length_le; simp only [List.length_set] at this; omega
  have z2 : M <+: M2.set (M.length + 2) ⟨[.int .i64 x.1, v0, v1], 1, 2⟩ := pf_set (by omega) y2
  have q2 := one_head (o2.rep.one)
  have qc2 := cells_sl o2
  have hb1 : (M2.set (M.length + 2) ⟨[.int .i64 x.1, v0, v1], 1, 2⟩)[M.length + 1]? = some ⟨[(.int .i64 0), (.slice none 0 0), (.slice none 0 0)], 1, 2⟩ := by simp [b1_2]
  have g1 := ((o1.set (b2 := ⟨[.int .i64 x.1, v0, v1], 1, 2⟩) b2_2 rfl (fun hm => by have := f1 _ hm; omega)).set (b2 := ⟨[.int .i64 x.1, v0, v1], 1, 2⟩) hb1 rfl (fun hm => by have := f1 _ hm; omega))
  have g2 := ((o2.set (b2 := ⟨[.int .i64 x.1, v0, v1], 1, 2⟩) b2_2 rfl (fun hm => by have := f2 _ hm; omega)).set (b2 := ⟨[.int .i64 x.1, v0, v1], 1, 2⟩) hb1 rfl (fun hm => by have := f2 _ hm; omega))
  have hh := mkown_g_Mem (x := x) w0 g1 g2
  try simp only [List.append_assoc] at hh
  obtain ⟨_, _, rfl⟩ := o1.rep.slen
  obtain ⟨_, _, rfl⟩ := o2.rep.slen
  have gs2 : ∀ B C : Blk, ((M2.set (M.length + 2) B).set (M.length + 1) C)[M.length + 1]? = some C := fun B C => List.getElem?_set_self (by rw [List.length_set]; omega)
  simp [thenD_pp, sliceCells_sl, sliceCells_z, sliceCells_nil, take_full, appS_sl, appK_ok, appS_none, thenD_ag, agP_nil, agP_cons, b0_2, b1_2, b2_2, gs_of b2_2, gs2, rd1_K, rdJ_ok, rdn_K, rnJ_ok, wrn_K, wrJ_ok]
  refine ⟨_, _, K1 ++ K2, ?_, rfl, ?_, ?_⟩
  · exact pf_set (by omega) (pf_set (by omega) y2)
  · first | exact hh | (simp only [List.append_assoc]; exact hh)
  · refine ⟨G2.1, fun l hl => ?_⟩
    have := G2.2 l hl
    simp only [List.length_append, List.length_cons, List.length_nil, List.length_set] at this ⊢
    omega
abbrev ty_Block : Ty := .pr (.int .i64) (.pr (.int .i64) (.sl ty_Byte))
instance d_Block : DecidableEq ty_Block.D := inferInstanceAs (DecidableEq (Int × Int × List UInt8))
abbrev ty_Oram : Ty := .pr (.int .i64) (.pr (.int .i64) (.pr (.int .i64) (.pr ty_Mem (.sl ty_Block))))
instance d_Oram0 : DecidableEq (ty_Mem.D × List ty_Block.D) := inferInstance
instance d_Oram1 : DecidableEq (Int × ty_Mem.D × List ty_Block.D) := @instDecidableEqProd _ _ inferInstance d_Oram0
instance d_Oram2 : DecidableEq (Int × Int × ty_Mem.D × List ty_Block.D) := @instDecidableEqProd _ _ inferInstance d_Oram1
instance d_Oram : DecidableEq ty_Oram.D := @instDecidableEqProd _ _ inferInstance d_Oram2
theorem rep_g_Oram {M : Mem} {cs : List V} {x : ty_Oram.D} (h : Rep ty_Oram M cs x) : ∃ u0 u1 u2 : V, cs = [.int .i64 x.1, .int .i64 x.2.1, .int .i64 x.2.2.1, .int .i64 x.2.2.2.1.1, u0, u1, u2] ∧ (Lit.int .i64 x.1).wf = true ∧ (Lit.int .i64 x.2.1).wf = true ∧ (Lit.int .i64 x.2.2.1).wf = true ∧ (Lit.int .i64 x.2.2.2.1.1).wf = true ∧ Rep (.sl ty_Cell) M [u0] x.2.2.2.1.2.1 ∧ Rep (.sl ty_Touch) M [u1] x.2.2.2.1.2.2 ∧ Rep (.sl ty_Block) M [u2] x.2.2.2.2 := by
  obtain ⟨c0, d0, rfl, h0, h⟩ := h
  obtain ⟨rfl, w0⟩ := h0
  obtain ⟨c1, d1, rfl, h1, h⟩ := h
  obtain ⟨rfl, w1⟩ := h1
  obtain ⟨c2, d2, rfl, h2, h⟩ := h
  obtain ⟨rfl, w2⟩ := h2
  obtain ⟨c3, d3, rfl, h3, h⟩ := h
  obtain ⟨u0, u1, rfl, w3, r0, r1⟩ := rep_g_Mem h3
  obtain ⟨u2, rfl⟩ : ∃ u, d3 = [u] := by
    have l2 := Rep.len (h)
    exact List.length_eq_one_iff.1 l2
  have r2 := h
  exact ⟨u0, u1, u2, rfl, w0, w1, w2, w3, r0, r1, r2⟩
theorem mkown_g_Oram {M : Mem} {x : ty_Oram.D} {u0 u1 u2 : V} {L0 L1 L2 : List Nat} (w0 : (Lit.int .i64 x.1).wf = true) (w1 : (Lit.int .i64 x.2.1).wf = true) (w2 : (Lit.int .i64 x.2.2.1).wf = true) (w3 : (Lit.int .i64 x.2.2.2.1.1).wf = true) (r0 : Own (.sl ty_Cell) M [u0] x.2.2.2.1.2.1 L0) (r1 : Own (.sl ty_Touch) M [u1] x.2.2.2.1.2.2 L1) (r2 : Own (.sl ty_Block) M [u2] x.2.2.2.2 L2) : Own ty_Oram M [.int .i64 x.1, .int .i64 x.2.1, .int .i64 x.2.2.1, .int .i64 x.2.2.2.1.1, u0, u1, u2] x (L0 ++ L1 ++ L2) := by
  have h : Own ty_Oram M [.int .i64 x.1, .int .i64 x.2.1, .int .i64 x.2.2.1, .int .i64 x.2.2.2.1.1, u0, u1, u2] x _ := ⟨[.int .i64 x.1], ([.int .i64 x.2.1] ++ [.int .i64 x.2.2.1] ++ [.int .i64 x.2.2.2.1.1, u0, u1] ++ [u2]), _, _, rfl, ⟨⟨rfl, w0⟩, rfl⟩, ⟨[.int .i64 x.2.1], ([.int .i64 x.2.2.1] ++ [.int .i64 x.2.2.2.1.1, u0, u1] ++ [u2]), _, _, rfl, ⟨⟨rfl, w1⟩, rfl⟩, ⟨[.int .i64 x.2.2.1], ([.int .i64 x.2.2.2.1.1, u0, u1] ++ [u2]), _, _, rfl, ⟨⟨rfl, w2⟩, rfl⟩, ⟨[.int .i64 x.2.2.2.1.1, u0, u1], ([u2]), _, _, rfl, (mkown_g_Mem w3 r0 r1), r2, rfl⟩, rfl⟩, rfl⟩, rfl⟩
  simpa only [List.append_nil, List.nil_append, List.append_assoc] using h
theorem rep_g_Block {M : Mem} {cs : List V} {x : ty_Block.D} (h : Rep ty_Block M cs x) : ∃ u0 : V, cs = [.int .i64 x.1, .int .i64 x.2.1, u0] ∧ (Lit.int .i64 x.1).wf = true ∧ (Lit.int .i64 x.2.1).wf = true ∧ Rep (.sl ty_Byte) M [u0] x.2.2 := by
  obtain ⟨c0, d0, rfl, h0, h⟩ := h
  obtain ⟨rfl, w0⟩ := h0
  obtain ⟨c1, d1, rfl, h1, h⟩ := h
  obtain ⟨rfl, w1⟩ := h1
  obtain ⟨u0, rfl⟩ : ∃ u, d1 = [u] := by
    have l0 := Rep.len (h)
    exact List.length_eq_one_iff.1 l0
  have r0 := h
  exact ⟨u0, rfl, w0, w1, r0⟩
theorem mkown_g_Block {M : Mem} {x : ty_Block.D} {u0 : V} {L0 : List Nat} (w0 : (Lit.int .i64 x.1).wf = true) (w1 : (Lit.int .i64 x.2.1).wf = true) (r0 : Own (.sl ty_Byte) M [u0] x.2.2 L0) : Own ty_Block M [.int .i64 x.1, .int .i64 x.2.1, u0] x (L0) := by
  have h : Own ty_Block M [.int .i64 x.1, .int .i64 x.2.1, u0] x _ := ⟨[.int .i64 x.1], ([.int .i64 x.2.1] ++ [u0]), _, _, rfl, ⟨⟨rfl, w0⟩, rfl⟩, ⟨[.int .i64 x.2.1], ([u0]), _, _, rfl, ⟨⟨rfl, w1⟩, rfl⟩, r0, rfl⟩, rfl⟩
  simpa only [List.append_nil, List.nil_append, List.append_assoc] using h
set_option maxHeartbeats 4000000 in
theorem k_laws_toBlock : ToF T0 ty_Block F_laws_toBlock := by
  intro M cs x h hb
  obtain ⟨u0, rfl, w0, w1, r0⟩ := rep_g_Block h
  have i0 := one_head r0.one
  show ToG ty_Block M x _
  rw [aCall_eq T_laws_toBlock]; unfold A_laws_toBlock C_laws_toBlock; simp [thenD_pp, sliceCells_sl, sliceCells_z, sliceCells_nil, take_full, appS_sl, appK_ok, appS_none, thenD_ag, agP_nil, agP_cons, i0]
  generalize hx1 : aCall T0 F_laws_toByteS _ _ = x_1
  obtain ⟨M1, v0, K1, rfl, p1, o1, F1⟩ := ToS.at k_laws_toByteS hx1 (r0.mono (List.prefix_append _ _)) hb.2.2
  have f1 := F1.2
  clear hx1
  have b0_1 : M1[M.length]? = some ⟨[.int .i64 x.1, .int .i64 x.2.1, u0], 1, 2⟩ := get_pre p1 (by simp)
  have b1_1 : M1[M.length + 1]? = some ⟨[(.int .i64 0), (.int .i64 0), (.slice none 0 0)], 1, 2⟩ := get_pre p1 (by simp)
  have b2_1 : M1[M.length + 2]? = some ⟨[.int .i64 x.1, .int .i64 x.2.1, (.slice none 0 0)], 1, 2⟩ := get_pre p1 (by simp)
  have l_1 := get_lt b2_1
  have y1 : M <+: M1 := (List.prefix_append _ _).trans p1
  simp only [List.length_append, List.length_cons, List.length_nil] at f1
  have z1 : M <+: M1.set (M.length + 2) ⟨[.int .i64 x.1, .int .i64 x.2.1, v0], 1, 2⟩ := pf_set (by omega) y1
  have q1 := one_head (o1.rep.one)
  have qc1 := cells_sl o1
  have hb1 : (M1.set (M.length + 2) ⟨[.int .i64 x.1, .int .i64 x.2.1, v0], 1, 2⟩)[M.length + 1]? = some ⟨[(.int .i64 0), (.int .i64 0), (.slice none 0 0)], 1, 2⟩ := by simp [b1_1]
  have g1 := ((o1.set (b2 := ⟨[.int .i64 x.1, .int .i64 x.2.1, v0], 1, 2⟩) b2_1 rfl (fun hm => by have := f1 _ hm; omega)).set (b2 := ⟨[.int .i64 x.1, .int .i64 x.2.1, v0], 1, 2⟩) hb1 rfl (fun hm => by have := f1 _ hm; omega))
  have hh := mkown_g_Block (x := x) w0 w1 g1
  try simp only [List.append_assoc] at hh
  obtain ⟨_, _, rfl⟩ := o1.rep.slen
  have gs2 : ∀ B C : Blk, ((M1.set (M.length + 2) B).set (M.length + 1) C)[M.length + 1]? = some C := fun B C => List.getElem?_set_self (by rw [List.length_set]; omega)
  simp [thenD_pp, sliceCells_sl, sliceCells_z, sliceCells_nil, take_full, appS_sl, appK_ok, appS_none, thenD_ag, agP_nil, agP_cons, b0_1, b1_1, b2_1, gs_of b2_1, gs2, rd1_K, rdJ_ok, rdn_K, rnJ_ok, wrn_K, wrJ_ok]
  refine ⟨_, _, K1, ?_, rfl, ?_, ?_⟩
  · exact pf_set (by omega) (pf_set (by omega) y1)
  · first | exact hh | (simp only [List.append_assoc]; exact hh)
  · refine ⟨F1.1, fun l hl => ?_⟩
    have := F1.2 l hl
    simp only [List.length_append, List.length_cons, List.length_nil, List.length_set] at this ⊢
    omega
theorem k_laws_toBlockS : ToS T0 ty_Block F_laws_toBlockS := to_sl (w := 3) (bytes := 40) (zero := [.int .i64 0, .int .i64 0, .slice none 0 0]) T_laws_toBlockS rfl rfl rfl (by decide) k_laws_toBlock
set_option maxHeartbeats 4000000 in
theorem k_laws_toOram : ToF T0 ty_Oram F_laws_toOram := by
  intro M cs x h hb
  obtain ⟨u0, u1, u2, rfl, w0, w1, w2, w3, r0, r1, r2⟩ := rep_g_Oram h
  have i0 := one_head r0.one
  have i1 := one_head r1.one
  have i2 := one_head r2.one
  show ToG ty_Oram M x _
  rw [aCall_eq T_laws_toOram]; unfold A_laws_toOram C_laws_toOram; simp [thenD_pp, sliceCells_sl, sliceCells_z, sliceCells_nil, take_full, appS_sl, appK_ok, appS_none, thenD_ag, agP_nil, agP_cons, i0, i1, i2]
  generalize hx1 : aCall T0 F_laws_toMem _ _ = x_1
  obtain ⟨M1, ds1, K1, rfl, p1, o1, F1⟩ := ToF.at k_laws_toMem hx1 ((mkrep_g_Mem w3 (r0.mono (List.prefix_append _ _)) (r1.mono (List.prefix_append _ _)))) hb.2.2.2.1
  have f1 := F1.2
  obtain ⟨v0, v1, K1_0, K1_1, rfl, _, o1_0, o1_1, eK1⟩ := own_g_Mem o1
  clear hx1
  have b0_1 : M1[M.length]? = some ⟨[.int .i64 x.1, .int .i64 x.2.1, .int .i64 x.2.2.1, .int .i64 x.2.2.2.1.1, u0, u1, u2], 1, 2⟩ := get_pre p1 (by simp)
  have b1_1 : M1[M.length + 1]? = some ⟨[(.int .i64 0), (.int .i64 0), (.int .i64 0), (.int .i64 0), (.slice none 0 0), (.slice none 0 0), (.slice none 0 0)], 1, 2⟩ := get_pre p1 (by simp)
  have b2_1 : M1[M.length + 2]? = some ⟨[.int .i64 x.1, .int .i64 x.2.1, .int .i64 x.2.2.1, (.int .i64 0), (.slice none 0 0), (.slice none 0 0), (.slice none 0 0)], 1, 2⟩ := get_pre p1 (by simp)
  have l_1 := get_lt b2_1
  have y1 : M <+: M1 := (List.prefix_append _ _).trans p1
  simp only [List.length_append, List.length_cons, List.length_nil] at f1
  have z1 : M <+: M1.set (M.length + 2) ⟨[.int .i64 x.1, .int .i64 x.2.1, .int .i64 x.2.2.1, .int .i64 x.2.2.2.1.1, v0, v1, (.slice none 0 0)], 1, 2⟩ := pf_set (by omega) y1
  have q1_0 := one_head (o1_0.rep.one)
  have qc1_0 := cells_sl o1_0
  have q1_1 := one_head (o1_1.rep.one)
  have qc1_1 := cells_sl o1_1
  simp [thenD_pp, sliceCells_sl, sliceCells_z, sliceCells_nil, take_full, appS_sl, appK_ok, appS_none, thenD_ag, agP_nil, agP_cons, b0_1, b1_1, b2_1, gs_of b2_1, q1_0, q1_1, qc1_0, qc1_1, rd1_K, rdJ_ok, rdn_K, rnJ_ok, wrn_K, wrJ_ok]
  generalize hx2 : aCall T0 F_laws_toBlockS _ _ = x_2
  obtain ⟨M2, v2, K2, rfl, p2, o2, F2⟩ := ToS.at k_laws_toBlockS hx2 (r2.mono z1) hb.2.2.2.2
  have f2 := F2.2
  clear hx2
  have b0_2 : M2[M.length]? = some ⟨[.int .i64 x.1, .int .i64 x.2.1, .int .i64 x.2.2.1, .int .i64 x.2.2.2.1.1, u0, u1, u2], 1, 2⟩ := get_pre p2 (by simp [b0_1])
  have b1_2 : M2[M.length + 1]? = some ⟨[(.int .i64 0), (.int .i64 0), (.int .i64 0), (.int .i64 0), (.slice none 0 0), (.slice none 0 0), (.slice none 0 0)], 1, 2⟩ := get_pre p2 (by simp [b1_1])
  have b2_2 : M2[M.length + 2]? = some ⟨[.int .i64 x.1, .int .i64 x.2.1, .int .i64 x.2.2.1, .int .i64 x.2.2.2.1.1, v0, v1, (.slice none 0 0)], 1, 2⟩ := get_pre p2 (by simp [l_1])
  have l_2 := get_lt b2_2
  have y2 : M <+: M2 := z1.trans p2
  simp only [List.length_set] at f2
  have G2 := F1.app (by simp) F2 p1.length_le p2
  have g0_2 := Nat.le_trans p1.length_le (Nat.le_trans (Nat.le_of_eq (List.length_set).symm) p2.length_le)
  have o1 := (o1.set (b2 := ⟨[.int .i64 x.1, .int .i64 x.2.1, .int .i64 x.2.2.1, .int .i64 x.2.2.2.1.1, v0, v1, (.slice none 0 0)], 1, 2⟩) b2_1 rfl (fun hm => by have := f1 _ hm; omega)).grow p2
  have f1 : ∀ l ∈ K1, M.length + 3 ≤ l ∧ l < M2.length := fun l hl => by have := f1 l hl; have := p2.length_le; simp only [List.length_set] at this; omega
  have z2 : M <+: M2.set (M.length + 2) ⟨[.int .i64 x.1, .int .i64 x.2.1, .int .i64 x.2.2.1, .int .i64 x.2.2.2.1.1, v0, v1, v2], 1, 2⟩ := pf_set (by omega) y2
  have q2 := one_head (o2.rep.one)
  have qc2 := cells_sl o2
  have hb1 : (M2.set (M.length + 2) ⟨[.int .i64 x.1, .int .i64 x.2.1, .int .i64 x.2.2.1, .int .i64 x.2.2.2.1.1, v0, v1, v2], 1, 2⟩)[M.length + 1]? = some ⟨[(.int .i64 0), (.int .i64 0), (.int .i64 0), (.int .i64 0), (.slice none 0 0), (.slice none 0 0), (.slice none 0 0)], 1, 2⟩ := by simp [b1_2]
  have g1 := ((o1.set (b2 := ⟨[.int .i64 x.1, .int .i64 x.2.1, .int .i64 x.2.2.1, .int .i64 x.2.2.2.1.1, v0, v1, v2], 1, 2⟩) b2_2 rfl (fun hm => by have := f1 _ hm; omega)).set (b2 := ⟨[.int .i64 x.1, .int .i64 x.2.1, .int .i64 x.2.2.1, .int .i64 x.2.2.2.1.1, v0, v1, v2], 1, 2⟩) hb1 rfl (fun hm => by have := f1 _ hm; omega))
  have g2 := ((o2.set (b2 := ⟨[.int .i64 x.1, .int .i64 x.2.1, .int .i64 x.2.2.1, .int .i64 x.2.2.2.1.1, v0, v1, v2], 1, 2⟩) b2_2 rfl (fun hm => by have := f2 _ hm; omega)).set (b2 := ⟨[.int .i64 x.1, .int .i64 x.2.1, .int .i64 x.2.2.1, .int .i64 x.2.2.2.1.1, v0, v1, v2], 1, 2⟩) hb1 rfl (fun hm => by have := f2 _ hm; omega))
  obtain ⟨s1_0, s1_1, H1_0, H1_1, es1, _, j1_0, j1_1, eK1⟩ := own_g_Mem g1
  simp only [List.cons.injEq, and_true, true_and] at es1
  obtain ⟨rfl, rfl⟩ := es1
  have hh := mkown_g_Oram (x := x) w0 w1 w2 w3 j1_0 j1_1 g2
  try simp only [List.append_assoc] at hh
  obtain ⟨s1_0, s1_1, _, _, es1, _, t1_0, t1_1, _⟩ := own_g_Mem o1
  simp only [List.cons.injEq, and_true, true_and] at es1
  obtain ⟨rfl, rfl⟩ := es1
  obtain ⟨_, _, rfl⟩ := t1_0.rep.slen
  obtain ⟨_, _, rfl⟩ := t1_1.rep.slen
  obtain ⟨_, _, rfl⟩ := o2.rep.slen
  have gs2 : ∀ B C : Blk, ((M2.set (M.length + 2) B).set (M.length + 1) C)[M.length + 1]? = some C := fun B C => List.getElem?_set_self (by rw [List.length_set]; omega)
  simp [thenD_pp, sliceCells_sl, sliceCells_z, sliceCells_nil, take_full, appS_sl, appK_ok, appS_none, thenD_ag, agP_nil, agP_cons, b0_2, b1_2, b2_2, gs_of b2_2, gs2, rd1_K, rdJ_ok, rdn_K, rnJ_ok, wrn_K, wrJ_ok]
  refine ⟨_, _, K1 ++ K2, ?_, rfl, ?_, ?_⟩
  · exact pf_set (by omega) (pf_set (by omega) y2)
  · first | exact hh | (simp only [List.append_assoc]; exact hh) | (simp only [eK1]; exact hh) | (simp only [eK1, List.append_assoc]; exact hh)
  · refine ⟨G2.1, fun l hl => ?_⟩
    have := G2.2 l hl
    simp only [List.length_append, List.length_cons, List.length_nil, List.length_set] at this ⊢
    omega
theorem deq_Touch (x y : ty_Touch.D) : decide (x = y) = (decide (x.1 = y.1) && (decide (x.2.1 = y.2.1) && (decide (x.2.2 = y.2.2)))) := by
  obtain ⟨x0, x1, x2⟩ := x
  obtain ⟨y0, y1, y2⟩ := y
  simp
theorem c_laws_eqTouch (M : Mem) (x y : ty_Touch.D) : aCall T0 F_laws_eqTouch [.agg (enc_Touch x).toArray, .agg (enc_Touch y).toArray] M = some (.bool (decide (x = y)), M) := by
  rw [deq_Touch]
  rw [aCall_eq T_laws_eqTouch]; unfold A_laws_eqTouch C_laws_eqTouch; simp
  repeat' ((first | rw [selO_some] | rw [condR_bool] | rw [selD_some]); split <;> rename_i hq <;> (have hq2 := hq) <;> (try simp at hq2) <;> (try simp [*]))
theorem k_laws_eqTouch : EqF T0 ty_Touch F_laws_eqTouch := fun M cs ds x y h h2 hb => by
  obtain rfl := rep_Touch h
  obtain rfl := rep_Touch h2
  exact c_laws_eqTouch M x y
theorem k_laws_eqTouchS : EqS T0 ty_Touch F_laws_eqTouchS := eq_sl (w := 3) T_laws_eqTouchS rfl k_laws_eqTouch
theorem r_laws_eqByteS (M : Mem) (a b : Option Addr) (c d : Nat) (xs ys : List ty_Byte.D) (h : Rep (.sl ty_Byte) M [.slice a xs.length c] xs) (h2 : Rep (.sl ty_Byte) M [.slice b ys.length d] ys) (hn : xs.length ≤ 9223372036854775807) (i : Nat) (hi : i < xs.length) (hj : i < ys.length) (he : xs[i] = ys[i]) :
    lp (aCall T0) K_laws_eqByteS_0 L_laws_eqByteS_0 [.slice a xs.length c, .slice b ys.length d, und, und, und, .int .i64 i, und, und, und, und, und, und, und, und, und, und, und, und, und, und, und, und, und, und, und, und] M = lp (aCall T0) K_laws_eqByteS_0 L_laws_eqByteS_0 [.slice a xs.length c, .slice b ys.length d, und, und, und, .int .i64 (i + 1 : Nat), und, und, und, und, und, und, und, und, und, und, und, und, und, und, und, und, und, und, und, und] M := by
  obtain ⟨l, o, rfl, _, hrd⟩ := at_Byte h hi
  obtain ⟨l2, o2, rfl, _, hrd2⟩ := at_Byte h2 hj
  have e6 : IntKind.i64.wrap ((i : Int) + 1) = i + 1 := wrap_i64 (by omega) (by omega)
  rw [S_laws_eqByteS_0]; unfold B_laws_eqByteS_0; simp [hrd, hrd2, e6, hi, hj, he, byteV]
theorem eq_byteV (x y : UInt8) : ((x.toNat : Int) = (y.toNat : Int)) = (x = y) := by
  apply propext
  constructor
  · intro h; exact UInt8.toNat_inj.1 (by omega)
  · rintro rfl; rfl
theorem x_laws_eqByteS (M : Mem) (a b : Option Addr) (c d : Nat) (xs ys : List ty_Byte.D) (h : Rep (.sl ty_Byte) M [.slice a xs.length c] xs) (h2 : Rep (.sl ty_Byte) M [.slice b ys.length d] ys) (hn : xs.length ≤ 9223372036854775807) (i : Nat) (hi : i < xs.length) (hj : i < ys.length) (he : xs[i] ≠ ys[i]) (k : ACode) :
    thenF M [.tmp 4] (thenS (blockR 0 (lp (aCall T0) K_laws_eqByteS_0 L_laws_eqByteS_0 [.slice a xs.length c, .slice b ys.length d, und, und, und, .int .i64 i, und, und, und, und, und, und, und, und, und, und, und, und, und, und, und, und, und, und, und, und] M)) (aCall T0) k) = some (.bool false, M) := by
  obtain ⟨l, o, rfl, _, hrd⟩ := at_Byte h hi
  obtain ⟨l2, o2, rfl, _, hrd2⟩ := at_Byte h2 hj
  have hne : ¬ (((xs[i] : UInt8).toNat : Int) = ((ys[i] : UInt8).toNat : Int)) := by rw [eq_byteV]; exact he
  rw [S_laws_eqByteS_0]; unfold B_laws_eqByteS_0; simp [hrd, hrd2, hi, hj, hne, byteV]
theorem c_laws_eqByteS (M : Mem) (v u : V) (xs ys : List ty_Byte.D) (h : Rep (.sl ty_Byte) M [v] xs) (h2 : Rep (.sl ty_Byte) M [u] ys) (hn : xs.length ≤ 9223372036854775807) : aCall T0 F_laws_eqByteS [v, u] M = some (.bool (decide (xs = ys)), M) := by
  obtain ⟨a, c, rfl⟩ := h.slen
  obtain ⟨b, d, rfl⟩ := h2.slen
  by_cases hl : xs.length = ys.length
  · rcases list_eq_iff hl with he | ⟨j, hj, h3, h4⟩
    · subst he
      have hc := chain (g := fun i : Nat => lp (aCall T0) K_laws_eqByteS_0 L_laws_eqByteS_0 [.slice a xs.length c, .slice b xs.length d, und, und, und, .int .i64 i, und, und, und, und, und, und, und, und, und, und, und, und, und, und, und, und, und, und, und, und] M) (n := xs.length) fun i hi => r_laws_eqByteS M a b c d xs xs h h2 hn i hi hi rfl
      simp only [Int.natCast_zero, Int.ofNat_zero] at hc
      rw [aCall_eq T_laws_eqByteS]; unfold A_laws_eqByteS C_laws_eqByteS; simp [hc]
      rw [S_laws_eqByteS_0]; unfold B_laws_eqByteS_0; simp
    · have hc := chain (g := fun i : Nat => lp (aCall T0) K_laws_eqByteS_0 L_laws_eqByteS_0 [.slice a xs.length c, .slice b ys.length d, und, und, und, .int .i64 i, und, und, und, und, und, und, und, und, und, und, und, und, und, und, und, und, und, und, und, und] M) (n := j) fun i hi => r_laws_eqByteS M a b c d xs ys h h2 hn i (by omega) (by omega) (h3 i (by omega) hi)
      simp only [Int.natCast_zero, Int.ofNat_zero] at hc
      have hx := x_laws_eqByteS M a b c d xs ys h h2 hn j hj (by omega) h4
      have hne : xs ≠ ys := fun e => h4 (by simp [e])
      simp only [← hl] at hc hx
      simp only [← hl]
      rw [aCall_eq T_laws_eqByteS]; unfold A_laws_eqByteS C_laws_eqByteS; simp [hc, hx, hne]
  · have hne : xs ≠ ys := fun e => hl (by rw [e])
    have hl2 : ¬ ((xs.length : Int) = ys.length) := by omega
    rw [aCall_eq T_laws_eqByteS]; unfold A_laws_eqByteS C_laws_eqByteS; simp [hl2, hl, hne]
theorem k_laws_eqByteS : EqS T0 ty_Byte F_laws_eqByteS := fun M v u xs ys h h2 hb => c_laws_eqByteS M v u xs ys h h2 (Nat.le_trans hb.1 (by decide))
set_option maxHeartbeats 4000000 in
theorem k_laws_eqCell : EqF T0 ty_Cell F_laws_eqCell := by
  intro M cs ds x y h h2 hb
  obtain ⟨u0, rfl, r0⟩ := rep_g_Cell h
  obtain ⟨v0, rfl, s0⟩ := rep_g_Cell h2
  try dsimp only at *
  have e0 := k_laws_eqByteS (M ++ [⟨[u0], 1, 2⟩, ⟨[v0], 1, 2⟩]) _ _ x y (r0.mono (List.prefix_append _ _)) (s0.mono (List.prefix_append _ _)) hb
  have i0 := one_head r0.one
  have j0 := one_head s0.one
  by_cases q0 : x = y
  rotate_left
  · have hne := q0
    refine ans_f hne ?_
    have e0 := (ans_of e0).2 q0
    rw [aCall_eq T_laws_eqCell]; unfold A_laws_eqCell C_laws_eqCell; simp [thenD_pp, sliceCells_sl, sliceCells_z, sliceCells_nil, take_full, appS_sl, appK_ok, appS_none, thenD_ag, agP_nil, agP_cons, i0, j0, e0]
  have e0 := (ans_of e0).1 q0
  have he := q0
  refine ans_t he ?_
  rw [aCall_eq T_laws_eqCell]; unfold A_laws_eqCell C_laws_eqCell; simp [thenD_pp, sliceCells_sl, sliceCells_z, sliceCells_nil, take_full, appS_sl, appK_ok, appS_none, thenD_ag, agP_nil, agP_cons, i0, j0, e0]
theorem k_laws_eqCellS : EqS T0 ty_Cell F_laws_eqCellS := eq_sl (w := 1) T_laws_eqCellS rfl k_laws_eqCell
set_option maxHeartbeats 4000000 in
theorem k_laws_eqMem : EqF T0 ty_Mem F_laws_eqMem := by
  intro M cs ds x y h h2 hb
  obtain ⟨a0, a1, a2⟩ := x
  obtain ⟨b0, b1, b2⟩ := y
  obtain ⟨u0, u1, rfl, w0, r0, r1⟩ := rep_g_Mem h
  obtain ⟨v0, v1, rfl, _w0, s0, s1⟩ := rep_g_Mem h2
  try dsimp only at *
  have e1 := k_laws_eqCellS (M ++ [⟨[.int .i64 a0, u0, u1], 1, 2⟩, ⟨[.int .i64 b0, v0, v1], 1, 2⟩]) _ _ a1 b1 (r0.mono (List.prefix_append _ _)) (s0.mono (List.prefix_append _ _)) hb.2.1
  have e2 := k_laws_eqTouchS (M ++ [⟨[.int .i64 a0, u0, u1], 1, 2⟩, ⟨[.int .i64 b0, v0, v1], 1, 2⟩]) _ _ a2 b2 (r1.mono (List.prefix_append _ _)) (s1.mono (List.prefix_append _ _)) hb.2.2
  have i0 := one_head r0.one
  have i1 := one_head r1.one
  have j0 := one_head s0.one
  have j1 := one_head s1.one
  by_cases q0 : a0 = b0
  rotate_left
  · have hne : ¬ ((a0, a1, a2) : ty_Mem.D) = (b0, b1, b2) := fun e => q0 (by simp only [Prod.mk.injEq] at e; simp only [e])
    refine ans_f hne ?_
    rw [aCall_eq T_laws_eqMem]; unfold A_laws_eqMem C_laws_eqMem; simp [thenD_pp, sliceCells_sl, sliceCells_z, sliceCells_nil, take_full, appS_sl, appK_ok, appS_none, thenD_ag, agP_nil, agP_cons, i0, i1, j0, j1, q0]
  subst q0
  by_cases q1 : a1 = b1
  rotate_left
  · have hne : ¬ ((a0, a1, a2) : ty_Mem.D) = (a0, b1, b2) := fun e => q1 (by simp only [Prod.mk.injEq] at e; simp only [e])
    refine ans_f hne ?_
    have e1 := (ans_of e1).2 q1
    rw [aCall_eq T_laws_eqMem]; unfold A_laws_eqMem C_laws_eqMem; simp [thenD_pp, sliceCells_sl, sliceCells_z, sliceCells_nil, take_full, appS_sl, appK_ok, appS_none, thenD_ag, agP_nil, agP_cons, i0, i1, j0, j1, e1]
  have e1 := (ans_of e1).1 q1
  by_cases q2 : a2 = b2
  rotate_left
  · have hne : ¬ ((a0, a1, a2) : ty_Mem.D) = (a0, b1, b2) := fun e => q2 (by simp only [Prod.mk.injEq] at e; simp only [e])
    refine ans_f hne ?_
    have e2 := (ans_of e2).2 q2
    rw [aCall_eq T_laws_eqMem]; unfold A_laws_eqMem C_laws_eqMem; simp [thenD_pp, sliceCells_sl, sliceCells_z, sliceCells_nil, take_full, appS_sl, appK_ok, appS_none, thenD_ag, agP_nil, agP_cons, i0, i1, j0, j1, e1, e2]
  have e2 := (ans_of e2).1 q2
  have he : ((a0, a1, a2) : ty_Mem.D) = (a0, b1, b2) := by simp only [q1, q2]
  refine ans_t he ?_
  rw [aCall_eq T_laws_eqMem]; unfold A_laws_eqMem C_laws_eqMem; simp [thenD_pp, sliceCells_sl, sliceCells_z, sliceCells_nil, take_full, appS_sl, appK_ok, appS_none, thenD_ag, agP_nil, agP_cons, i0, i1, j0, j1, e1, e2]
set_option maxHeartbeats 4000000 in
theorem k_laws_eqBlock : EqF T0 ty_Block F_laws_eqBlock := by
  intro M cs ds x y h h2 hb
  obtain ⟨a0, a1, a2⟩ := x
  obtain ⟨b0, b1, b2⟩ := y
  obtain ⟨u0, rfl, w0, w1, r0⟩ := rep_g_Block h
  obtain ⟨v0, rfl, _w0, _w1, s0⟩ := rep_g_Block h2
  try dsimp only at *
  have e2 := k_laws_eqByteS (M ++ [⟨[.int .i64 a0, .int .i64 a1, u0], 1, 2⟩, ⟨[.int .i64 b0, .int .i64 b1, v0], 1, 2⟩]) _ _ a2 b2 (r0.mono (List.prefix_append _ _)) (s0.mono (List.prefix_append _ _)) hb.2.2
  have i0 := one_head r0.one
  have j0 := one_head s0.one
  by_cases q0 : a0 = b0
  rotate_left
  · have hne : ¬ ((a0, a1, a2) : ty_Block.D) = (b0, b1, b2) := fun e => q0 (by simp only [Prod.mk.injEq] at e; simp only [e])
    refine ans_f hne ?_
    rw [aCall_eq T_laws_eqBlock]; unfold A_laws_eqBlock C_laws_eqBlock; simp [thenD_pp, sliceCells_sl, sliceCells_z, sliceCells_nil, take_full, appS_sl, appK_ok, appS_none, thenD_ag, agP_nil, agP_cons, i0, j0, q0]
  subst q0
  by_cases q1 : a1 = b1
  rotate_left
  · have hne : ¬ ((a0, a1, a2) : ty_Block.D) = (a0, b1, b2) := fun e => q1 (by simp only [Prod.mk.injEq] at e; simp only [e])
    refine ans_f hne ?_
    rw [aCall_eq T_laws_eqBlock]; unfold A_laws_eqBlock C_laws_eqBlock; simp [thenD_pp, sliceCells_sl, sliceCells_z, sliceCells_nil, take_full, appS_sl, appK_ok, appS_none, thenD_ag, agP_nil, agP_cons, i0, j0, q1]
  subst q1
  by_cases q2 : a2 = b2
  rotate_left
  · have hne : ¬ ((a0, a1, a2) : ty_Block.D) = (a0, a1, b2) := fun e => q2 (by simp only [Prod.mk.injEq] at e; simp only [e])
    refine ans_f hne ?_
    have e2 := (ans_of e2).2 q2
    rw [aCall_eq T_laws_eqBlock]; unfold A_laws_eqBlock C_laws_eqBlock; simp [thenD_pp, sliceCells_sl, sliceCells_z, sliceCells_nil, take_full, appS_sl, appK_ok, appS_none, thenD_ag, agP_nil, agP_cons, i0, j0, e2]
  have e2 := (ans_of e2).1 q2
  have he : ((a0, a1, a2) : ty_Block.D) = (a0, a1, b2) := by simp only [q2]
  refine ans_t he ?_
  rw [aCall_eq T_laws_eqBlock]; unfold A_laws_eqBlock C_laws_eqBlock; simp [thenD_pp, sliceCells_sl, sliceCells_z, sliceCells_nil, take_full, appS_sl, appK_ok, appS_none, thenD_ag, agP_nil, agP_cons, i0, j0, e2]
theorem k_laws_eqBlockS : EqS T0 ty_Block F_laws_eqBlockS := eq_sl (w := 3) T_laws_eqBlockS rfl k_laws_eqBlock
set_option maxHeartbeats 4000000 in
theorem k_laws_eqOram : EqF T0 ty_Oram F_laws_eqOram := by
  intro M cs ds x y h h2 hb
  obtain ⟨a0, a1, a2, a3, a4⟩ := x
  obtain ⟨b0, b1, b2, b3, b4⟩ := y
  obtain ⟨u0, u1, u2, rfl, w0, w1, w2, w3, r0, r1, r2⟩ := rep_g_Oram h
  obtain ⟨v0, v1, v2, rfl, _w0, _w1, _w2, _w3, s0, s1, s2⟩ := rep_g_Oram h2
  try dsimp only at *
  have e3 := k_laws_eqMem (M ++ [⟨[.int .i64 a0, .int .i64 a1, .int .i64 a2, .int .i64 a3.1, u0, u1, u2], 1, 2⟩, ⟨[.int .i64 b0, .int .i64 b1, .int .i64 b2, .int .i64 b3.1, v0, v1, v2], 1, 2⟩]) _ _ a3 b3 ((mkrep_g_Mem w3 (r0.mono (List.prefix_append _ _)) (r1.mono (List.prefix_append _ _)))) ((mkrep_g_Mem _w3 (s0.mono (List.prefix_append _ _)) (s1.mono (List.prefix_append _ _)))) hb.2.2.2.1
  have e4 := k_laws_eqBlockS (M ++ [⟨[.int .i64 a0, .int .i64 a1, .int .i64 a2, .int .i64 a3.1, u0, u1, u2], 1, 2⟩, ⟨[.int .i64 b0, .int .i64 b1, .int .i64 b2, .int .i64 b3.1, v0, v1, v2], 1, 2⟩]) _ _ a4 b4 (r2.mono (List.prefix_append _ _)) (s2.mono (List.prefix_append _ _)) hb.2.2.2.2
  have i0 := one_head r0.one
  have i1 := one_head r1.one
  have i2 := one_head r2.one
  have j0 := one_head s0.one
  have j1 := one_head s1.one
  have j2 := one_head s2.one
  by_cases q0 : a0 = b0
  rotate_left
  · have hne : ¬ ((a0, a1, a2, a3, a4) : ty_Oram.D) = (b0, b1, b2, b3, b4) := fun e => q0 (by simp only [Prod.mk.injEq] at e; simp only [e])
    refine ans_f hne ?_
    rw [aCall_eq T_laws_eqOram]; unfold A_laws_eqOram C_laws_eqOram; simp [thenD_pp, sliceCells_sl, sliceCells_z, sliceCells_nil, take_full, appS_sl, appK_ok, appS_none, thenD_ag, agP_nil, agP_cons, i0, i1, i2, j0, j1, j2, q0]
  subst q0
  by_cases q1 : a1 = b1
  rotate_left
  · have hne : ¬ ((a0, a1, a2, a3, a4) : ty_Oram.D) = (a0, b1, b2, b3, b4) := fun e => q1 (by simp only [Prod.mk.injEq] at e; simp only [e])
    refine ans_f hne ?_
    rw [aCall_eq T_laws_eqOram]; unfold A_laws_eqOram C_laws_eqOram; simp [thenD_pp, sliceCells_sl, sliceCells_z, sliceCells_nil, take_full, appS_sl, appK_ok, appS_none, thenD_ag, agP_nil, agP_cons, i0, i1, i2, j0, j1, j2, q1]
  subst q1
  by_cases q2 : a2 = b2
  rotate_left
  · have hne : ¬ ((a0, a1, a2, a3, a4) : ty_Oram.D) = (a0, a1, b2, b3, b4) := fun e => q2 (by simp only [Prod.mk.injEq] at e; simp only [e])
    refine ans_f hne ?_
    rw [aCall_eq T_laws_eqOram]; unfold A_laws_eqOram C_laws_eqOram; simp [thenD_pp, sliceCells_sl, sliceCells_z, sliceCells_nil, take_full, appS_sl, appK_ok, appS_none, thenD_ag, agP_nil, agP_cons, i0, i1, i2, j0, j1, j2, q2]
  subst q2
  by_cases q3 : a3 = b3
  rotate_left
  · have hne : ¬ ((a0, a1, a2, a3, a4) : ty_Oram.D) = (a0, a1, a2, b3, b4) := fun e => q3 (by simp only [Prod.mk.injEq] at e; simp only [e])
    refine ans_f hne ?_
    have e3 := (ans_of e3).2 q3
    rw [aCall_eq T_laws_eqOram]; unfold A_laws_eqOram C_laws_eqOram; simp [thenD_pp, sliceCells_sl, sliceCells_z, sliceCells_nil, take_full, appS_sl, appK_ok, appS_none, thenD_ag, agP_nil, agP_cons, i0, i1, i2, j0, j1, j2, e3]
  have e3 := (ans_of e3).1 q3
  by_cases q4 : a4 = b4
  rotate_left
  · have hne : ¬ ((a0, a1, a2, a3, a4) : ty_Oram.D) = (a0, a1, a2, b3, b4) := fun e => q4 (by simp only [Prod.mk.injEq] at e; simp only [e])
    refine ans_f hne ?_
    have e4 := (ans_of e4).2 q4
    rw [aCall_eq T_laws_eqOram]; unfold A_laws_eqOram C_laws_eqOram; simp [thenD_pp, sliceCells_sl, sliceCells_z, sliceCells_nil, take_full, appS_sl, appK_ok, appS_none, thenD_ag, agP_nil, agP_cons, i0, i1, i2, j0, j1, j2, e3, e4]
  have e4 := (ans_of e4).1 q4
  have he : ((a0, a1, a2, a3, a4) : ty_Oram.D) = (a0, a1, a2, b3, b4) := by simp only [q3, q4]
  refine ans_t he ?_
  rw [aCall_eq T_laws_eqOram]; unfold A_laws_eqOram C_laws_eqOram; simp [thenD_pp, sliceCells_sl, sliceCells_z, sliceCells_nil, take_full, appS_sl, appK_ok, appS_none, thenD_ag, agP_nil, agP_cons, i0, i1, i2, j0, j1, j2, e3, e4]
def sz_Touch (x : ty_Touch.D) : Int := 0
def szs_Touch : List ty_Touch.D → Int
  | [] => 0
  | x :: xs => sz_Touch x + szs_Touch xs
theorem szs_pos_Touch : ∀ xs, 0 ≤ szs_Touch xs
  | [] => by simp [szs_Touch]
  | x :: xs => by have := szs_pos_Touch xs; unfold szs_Touch sz_Touch; omega
theorem c_laws_szTouchS (M : Mem) (v : V) (xs : List ty_Touch.D) (h : Rep (.sl ty_Touch) M [v] xs) (left : Int) (h0 : 0 ≤ left) (h1 : left ≤ 1048576) (hx : xs.length ≤ 9223372036854775807) :
    ∃ l : Int, aCall T0 F_laws_szTouchS [v, .int .i64 left] M = some (.int .i64 l, M) ∧ (0 ≤ l → xs.length + szs_Touch xs + l ≤ left) := by
  obtain ⟨a, c, rfl⟩ := h.slen
  have e0 : IntKind.i64.wrap (left - xs.length) = left - xs.length := wrap_i64 (by omega) (by omega)
  have hz : szs_Touch xs = 0 := by
    have : ∀ xs, szs_Touch xs = 0 := fun xs => by induction xs with | nil => rfl | cons x xs ih => simp [szs_Touch, sz_Touch, ih]
    exact this xs
  by_cases hc : left - (xs.length : Int) < 0
  · refine ⟨-1, ?_, by omega⟩
    rw [aCall_eq T_laws_szTouchS]; unfold A_laws_szTouchS C_laws_szTouchS; simp [e0, hc]
  · refine ⟨left - xs.length, ?_, by omega⟩
    rw [aCall_eq T_laws_szTouchS]; unfold A_laws_szTouchS C_laws_szTouchS; simp [e0, hc]
theorem k_laws_szTouchS : SzS T0 ty_Touch F_laws_szTouchS := fun M v xs left h hb h0 h1 => by
  obtain ⟨l, e, f⟩ := c_laws_szTouchS M v xs h left h0 h1 hb.1
  have hp := szs_pos_Touch xs
  refine ⟨l, ?_, e, fun hl => ⟨?_, fun _ _ => ⟨trivial, trivial, trivial⟩⟩⟩
  · by_cases hl : 0 ≤ l
    · have := f hl; omega
    · omega
  · have := f hl; omega
theorem k_laws_szByteS : SzS T0 ty_Byte F_laws_szByteS := fun M v xs left h hb h0 h1 => by
  obtain ⟨a, c, rfl⟩ := h.slen
  have hx : xs.length ≤ 9223372036854775807 := hb.1
  have e : IntKind.i64.wrap (left - (xs.length : Int)) = left - xs.length := wrap_i64 (by omega) (by omega)
  by_cases hl : left - (xs.length : Int) < 0
  · refine ⟨-1, by omega, ?_, by omega⟩
    have hl2 : left < (xs.length : Int) := by omega
    rw [aCall_eq T_laws_szByteS]; unfold A_laws_szByteS C_laws_szByteS; simp [e, hl, hl2]
  · refine ⟨left - xs.length, by omega, ?_, fun _ => ⟨by omega, fun _ _ => trivial⟩⟩
    have hl2 : ¬ left < (xs.length : Int) := by omega
    rw [aCall_eq T_laws_szByteS]; unfold A_laws_szByteS C_laws_szByteS; simp [e, hl, hl2]
theorem k_laws_szCell : SzF T0 ty_Cell F_laws_szCell := by
  intro M cs x left h hb h0 h1
  obtain ⟨u0, rfl, r0⟩ := rep_g_Cell h
  have i0 := one_head r0.one
  obtain ⟨l0, a0, e0, g0⟩ := k_laws_szByteS (M ++ [⟨[u0], 1, 2⟩]) _ _ left (r0.mono (List.prefix_append _ _)) hb (by omega) (by omega)
  by_cases h_0 : l0 < 0
  · refine ⟨-1, by omega, ?_, by omega⟩
    rw [aCall_eq T_laws_szCell]; unfold A_laws_szCell C_laws_szCell; simp [thenD_pp, sliceCells_sl, sliceCells_z, sliceCells_nil, take_full, appS_sl, appK_ok, appS_none, thenD_ag, agP_nil, agP_cons, i0, e0, h_0]
  refine ⟨l0, by omega, ?_, fun _ => g0 (by omega)⟩
  rw [aCall_eq T_laws_szCell]; unfold A_laws_szCell C_laws_szCell; simp [thenD_pp, sliceCells_sl, sliceCells_z, sliceCells_nil, take_full, appS_sl, appK_ok, appS_none, thenD_ag, agP_nil, agP_cons, i0, e0, h_0]
theorem k_laws_szCellS : SzS T0 ty_Cell F_laws_szCellS := sz_sl (w := 1) T_laws_szCellS rfl k_laws_szCell
theorem k_laws_szMem : SzF T0 ty_Mem F_laws_szMem := by
  intro M cs x left h hb h0 h1
  obtain ⟨u0, u1, rfl, w0, r0, r1⟩ := rep_g_Mem h
  have i0 := one_head r0.one
  have i1 := one_head r1.one
  obtain ⟨l0, a0, e0, g0⟩ := k_laws_szCellS (M ++ [⟨[.int .i64 x.1, u0, u1], 1, 2⟩]) _ _ left (r0.mono (List.prefix_append _ _)) hb.2.1 (by omega) (by omega)
  by_cases h_0 : l0 < 0
  · refine ⟨-1, by omega, ?_, by omega⟩
    rw [aCall_eq T_laws_szMem]; unfold A_laws_szMem C_laws_szMem; simp [thenD_pp, sliceCells_sl, sliceCells_z, sliceCells_nil, take_full, appS_sl, appK_ok, appS_none, thenD_ag, agP_nil, agP_cons, i0, i1, e0, h_0]
  obtain ⟨l1, a1, e1, g1⟩ := k_laws_szTouchS (M ++ [⟨[.int .i64 x.1, u0, u1], 1, 2⟩]) _ _ l0 (r1.mono (List.prefix_append _ _)) hb.2.2 (by omega) (by omega)
  by_cases h_1 : l1 < 0
  · refine ⟨-1, by omega, ?_, by omega⟩
    rw [aCall_eq T_laws_szMem]; unfold A_laws_szMem C_laws_szMem; simp [thenD_pp, sliceCells_sl, sliceCells_z, sliceCells_nil, take_full, appS_sl, appK_ok, appS_none, thenD_ag, agP_nil, agP_cons, i0, i1, e0, h_0, e1, h_1]
  refine ⟨l1, by omega, ?_, fun _ => ⟨trivial, g0 (by omega), g1 (by omega)⟩⟩
  rw [aCall_eq T_laws_szMem]; unfold A_laws_szMem C_laws_szMem; simp [thenD_pp, sliceCells_sl, sliceCells_z, sliceCells_nil, take_full, appS_sl, appK_ok, appS_none, thenD_ag, agP_nil, agP_cons, i0, i1, e0, h_0, e1, h_1]
theorem k_laws_szBlock : SzF T0 ty_Block F_laws_szBlock := by
  intro M cs x left h hb h0 h1
  obtain ⟨u0, rfl, w0, w1, r0⟩ := rep_g_Block h
  have i0 := one_head r0.one
  obtain ⟨l0, a0, e0, g0⟩ := k_laws_szByteS (M ++ [⟨[.int .i64 x.1, .int .i64 x.2.1, u0], 1, 2⟩]) _ _ left (r0.mono (List.prefix_append _ _)) hb.2.2 (by omega) (by omega)
  by_cases h_0 : l0 < 0
  · refine ⟨-1, by omega, ?_, by omega⟩
    rw [aCall_eq T_laws_szBlock]; unfold A_laws_szBlock C_laws_szBlock; simp [thenD_pp, sliceCells_sl, sliceCells_z, sliceCells_nil, take_full, appS_sl, appK_ok, appS_none, thenD_ag, agP_nil, agP_cons, i0, e0, h_0]
  refine ⟨l0, by omega, ?_, fun _ => ⟨trivial, trivial, g0 (by omega)⟩⟩
  rw [aCall_eq T_laws_szBlock]; unfold A_laws_szBlock C_laws_szBlock; simp [thenD_pp, sliceCells_sl, sliceCells_z, sliceCells_nil, take_full, appS_sl, appK_ok, appS_none, thenD_ag, agP_nil, agP_cons, i0, e0, h_0]
theorem k_laws_szBlockS : SzS T0 ty_Block F_laws_szBlockS := sz_sl (w := 3) T_laws_szBlockS rfl k_laws_szBlock
theorem k_laws_szOram : SzF T0 ty_Oram F_laws_szOram := by
  intro M cs x left h hb h0 h1
  obtain ⟨u0, u1, u2, rfl, w0, w1, w2, w3, r0, r1, r2⟩ := rep_g_Oram h
  have i0 := one_head r0.one
  have i1 := one_head r1.one
  have i2 := one_head r2.one
  obtain ⟨l0, a0, e0, g0⟩ := k_laws_szMem (M ++ [⟨[.int .i64 x.1, .int .i64 x.2.1, .int .i64 x.2.2.1, .int .i64 x.2.2.2.1.1, u0, u1, u2], 1, 2⟩]) _ _ left ((mkrep_g_Mem w3 (r0.mono (List.prefix_append _ _)) (r1.mono (List.prefix_append _ _)))) hb.2.2.2.1 (by omega) (by omega)
  by_cases h_0 : l0 < 0
  · refine ⟨-1, by omega, ?_, by omega⟩
    rw [aCall_eq T_laws_szOram]; unfold A_laws_szOram C_laws_szOram; simp [thenD_pp, sliceCells_sl, sliceCells_z, sliceCells_nil, take_full, appS_sl, appK_ok, appS_none, thenD_ag, agP_nil, agP_cons, i0, i1, i2, e0, h_0]
  obtain ⟨l1, a1, e1, g1⟩ := k_laws_szBlockS (M ++ [⟨[.int .i64 x.1, .int .i64 x.2.1, .int .i64 x.2.2.1, .int .i64 x.2.2.2.1.1, u0, u1, u2], 1, 2⟩]) _ _ l0 (r2.mono (List.prefix_append _ _)) hb.2.2.2.2 (by omega) (by omega)
  by_cases h_1 : l1 < 0
  · refine ⟨-1, by omega, ?_, by omega⟩
    rw [aCall_eq T_laws_szOram]; unfold A_laws_szOram C_laws_szOram; simp [thenD_pp, sliceCells_sl, sliceCells_z, sliceCells_nil, take_full, appS_sl, appK_ok, appS_none, thenD_ag, agP_nil, agP_cons, i0, i1, i2, e0, h_0, e1, h_1]
  refine ⟨l1, by omega, ?_, fun _ => ⟨trivial, trivial, trivial, g0 (by omega), g1 (by omega)⟩⟩
  rw [aCall_eq T_laws_szOram]; unfold A_laws_szOram C_laws_szOram; simp [thenD_pp, sliceCells_sl, sliceCells_z, sliceCells_nil, take_full, appS_sl, appK_ok, appS_none, thenD_ag, agP_nil, agP_cons, i0, i1, i2, e0, h_0, e1, h_1]
theorem rdn_box {M : Mem} {l n : Nat} {cs : List V} (h : M[l]? = some ⟨cs, 1, 2⟩) (hn : n = cs.length) : rdn M l 0 n = some cs := by
  unfold rdn
  rw [h]
  simp [hn]
theorem gc_ex (M M' : Mem) (v : V) : ∃ X, gc M (some (v, M')) = some (v, X) := by
  simp only [gc]
  split
  · exact ⟨_, rfl⟩
  · exact ⟨_, rfl⟩
def blkAt (w : Nat) (ys : List UInt8) (j : Nat) : ty_Block.D := (((ys.getD (j * (w + 3) + 1) 0).toNat : Int), ((ys.getD (j * (w + 3) + 2) 0).toNat : Int), (ys.drop (j * (w + 3) + 3)).take w)
def nbF (w : Nat) (ys : List UInt8) : Nat → Nat → Nat
  | 0, j => j
  | k + 1, j => if ys.getD (j * (w + 3)) 0 = 1 then nbF w ys k (j + 1) else j
/-- How many blocks a node's bytes tell. -/
def nbC (w : Nat) (ys : List UInt8) : Nat := nbF w ys 4 0
def ndB (w : Nat) (ys : List UInt8) : List ty_Block.D := (List.range (nbC w ys)).map (blkAt w ys)
def lgB (l : Int) : Bool := decide (0 ≤ l) && decide (l ≤ 6)
def wdB (w : Int) : Bool := decide (1 ≤ w) && decide (w ≤ 200)
def leafB (l x : Int) : Bool := lgB l && (decide (0 ≤ x) && decide (x < 2 ^ l.toNat))
def bidB (i : Int) : Bool := decide (0 ≤ i) && decide (i ≤ 255)
def blockB (l w : Int) (b : ty_Block.D) : Bool := (lgB l && wdB w) && (bidB b.1 && (leafB l b.2.1 && decide ((List.length (α := UInt8) b.2.2 : Int) = w)))
def stepB (l w : Int) (xs : List ty_Block.D) (i : Nat) : Bool := match xs[i]? with
  | some b => blockB l w b && (i == 0 || match xs[i - 1]? with
    | some p => decide (p.1 < b.1)
    | none => true)
  | none => true
def blocksB (l w : Int) (xs : List ty_Block.D) : Bool := (lgB l && wdB w) && (List.range xs.length).all (stepB l w xs)
def blkY (b : ty_Block.D) : List UInt8 := 1 :: UInt8.ofNat (Int.toNat b.1) :: UInt8.ofNat (Int.toNat b.2.1) :: b.2.2
def blksY (bs : List ty_Block.D) : List UInt8 := bs.flatMap blkY
def ndY (w : Nat) (bs : List ty_Block.D) : List UInt8 := blksY bs ++ List.replicate (4 * (w + 3) - (blksY bs).length) 0
/-- Are bytes a node's? -/
def ndOk (l w : Int) (ys : List UInt8) : Bool := (lgB l && wdB w) && (decide ((ys.length : Int) = 4 * (w + 3)) && (blocksB l w (ndB (Int.toNat w) ys) && decide (ndY (Int.toNat w) (ndB (Int.toNat w) ys) = ys)))
def hasId (id : Int) (xs : List ty_Block.D) : Bool := xs.any fun r => decide (r.1 = id)
def withoutL (id : Int) (xs : List ty_Block.D) : List ty_Block.D := xs.filter fun b => decide (b.1 ≠ id)
/-- The place of an Id. -/
def lbB (id : Int) (xs : List ty_Block.D) : Nat := (xs.takeWhile fun b => decide (b.1 < id)).length
def insL (b : ty_Block.D) (ys : List ty_Block.D) : List ty_Block.D := ys.take (lbB b.1 ys) ++ b :: ys.drop (lbB b.1 ys)
/-- A block is put. -/
def putL (b : ty_Block.D) (xs : List ty_Block.D) : List ty_Block.D := insL b (withoutL b.1 xs)
def blen (x : Nat) : Nat := if x = 0 then 0 else Nat.log2 x + 1
/-- Does a node lie on a leaf's path? -/
def onP (m node leaf : Nat) : Bool := decide ((2 ^ m + leaf) / 2 ^ (m - (blen node - 1)) = node)
/-- One node's blocks come in. -/
def inO (m nd : Nat) (all : List ty_Block.D) : List ty_Block.D → Option (List ty_Block.D)
  | [] => some all
  | b :: bs => if (onP m nd (Int.toNat b.2.1) && !(hasId b.1 all)) = true then inO m nd (putL b all) bs else none
/-- All nodes' blocks come in. -/
def outO (m : Nat) (w : Int) : Nat → List ty_Cell.D → List ty_Block.D → Option (List ty_Block.D)
  | _, [], all => some all
  | nd, c :: cs, all => if ndOk m w c = true then (match inO m nd all (ndB (Int.toNat w) c) with
    | some a => outO m w (nd + 1) cs a
    | none => none) else none
def stashB (l w : Int) (xs : List ty_Block.D) : Bool := decide (xs.length ≤ 128) && blocksB l w xs
def bdB (b : Int) : Bool := decide (0 ≤ b) && decide (b ≤ 64)
def touch0 (sz n a b c : Int) : Bool := decide ((a = 1 ∨ a = 2) ∧ 0 ≤ b ∧ b < n ∧ c = sz)
def touchB (m : ty_Mem.D) (t : ty_Touch.D) : Bool := touch0 m.1 (m.2.1.length : Int) t.1 t.2.1 t.2.2
def cellB (m : ty_Mem.D) (c : ty_Cell.D) : Bool := decide (((List.length (α := UInt8) c : Nat) : Int) = (m.1 : Int))
def mem0 (sz : Int) (n k : Nat) : Bool := decide ((1 ≤ sz ∧ sz ≤ 1000) ∧ n ≤ 128 ∧ k ≤ 6000)
def memB (m : ty_Mem.D) : Bool := mem0 m.1 m.2.1.length m.2.2.length && (m.2.1.all (cellB m) && m.2.2.all (touchB m))
/-- Does an Oram's frame hold? -/
def frO (l w b : Int) (m : ty_Mem.D) (st : List ty_Block.D) : Bool := lgB l && (wdB w && (bdB b && (memB m && (decide (m.2.1.length = 2 * 2 ^ Int.toNat l - 1) && (decide ((m.1 : Int) = 4 * (w + 3)) && (decide ((st.length : Int) ≤ b) && stashB l w st))))))
/-- An Oram's blocks, if it is one. -/
def orX (l w b : Int) (m : ty_Mem.D) (st : List ty_Block.D) : Option (List ty_Block.D) := if frO l w b m st = true then outO (Int.toNat l) w 1 m.2.1 st else none
def orO (x : ty_Oram.D) : Option (List ty_Block.D) := orX x.1 x.2.1 x.2.2.1 x.2.2.2.1 x.2.2.2.2
/-- Sizes of blocks. -/
def BlkSz (xs : List ty_Block.D) : Prop := xs.length ≤ 1048576 ∧ ∀ x ∈ xs, List.length (α := UInt8) x.2.2 ≤ 1048576
abbrev aO (l w b : Int) (sz : Int) (aC : Option Addr) (nC cC : Nat) (aT : Option Addr) (nT cT : Nat) (aS : Option Addr) (nS cS : Nat) : List V := [.int .i64 l, .int .i64 w, .int .i64 b, .int .i64 sz, .slice aC nC cC, .slice aT nT cT, .slice aS nS cS]
theorem c_impl_within (M : Mem) (x a b : Int) : aCall T0 F_impl_within [.int .i64 x, .int .i64 a, .int .i64 b] M = some (.bool (decide (a ≤ x) && decide (x ≤ b)), M) := by
  rw [aCall_eq T_impl_within]; unfold A_impl_within C_impl_within; simp
  repeat' ((first | rw [selO_some] | rw [condR_bool] | rw [selD_some]); split <;> rename_i hq <;> (have hq2 := hq) <;> (try simp at hq2) <;> (try simp [*]))
theorem c_impl_isLog (M : Mem) (x : Int) : aCall T0 F_impl_isLog [.int .i64 x] M = some (.bool (decide (0 ≤ x) && decide (x ≤ 6)), M) := by
  rw [aCall_eq T_impl_isLog]; unfold A_impl_isLog C_impl_isLog; simp [c_impl_within]
theorem log_nat {l : Int} (h : lgB l = true) : ∃ m : Nat, l = m ∧ m ≤ 6 := by
  unfold lgB at h
  simp at h
  exact ⟨l.toNat, by omega, by omega⟩
def hs (h : Nat) (b : UInt8) : Nat := ((h ^^^ b.toNat) * 16777619) % 4294967296
theorem rall_all {n : Nat} {p : Nat → Bool} (h : ∀ i, i < n → p i = true) : (List.range n).all p = true := List.all_eq_true.2 fun i hi => h i (List.mem_range.1 hi)
theorem rall_not {n : Nat} {p : Nat → Bool} (h : ∃ i, i < n ∧ p i = false) : (List.range n).all p = false := by
  obtain ⟨i, hi, hp⟩ := h
  rw [List.all_eq_false]
  exact ⟨i, List.mem_range.2 hi, by rw [hp]; decide⟩
theorem at_Block {M : Mem} {a : Option Addr} {n c : Nat} {xs : List ty_Block.D} (h : Rep (.sl ty_Block) M [.slice a n c] xs) {i : Nat} (hi : i < xs.length) : ∃ l o u, a = some ⟨l, o, none⟩ ∧ rd1 M l (o + i * 3) = some (.int .i64 xs[i].1) ∧ rd1 M l (o + i * 3 + 1) = some (.int .i64 xs[i].2.1) ∧ rd1 M l (o + i * 3 + 2) = some u ∧ rdn M l (o + i * 3) 3 = some [.int .i64 xs[i].1, .int .i64 xs[i].2.1, u] ∧ (Lit.int .i64 xs[i].1).wf = true ∧ (Lit.int .i64 xs[i].2.1).wf = true ∧ Rep (.sl ty_Byte) M [u] xs[i].2.2 ∧ Rep ty_Block M [.int .i64 xs[i].1, .int .i64 xs[i].2.1, u] xs[i] := by
  obtain ⟨_, l, o, rfl, cs, hrd, hrep⟩ := rep_at h hi
  obtain ⟨u, rfl, w0, w1, hr⟩ := rep_g_Block hrep
  have hw : ty_Block.w = 3 := rfl
  rw [hw] at hrd
  exact ⟨l, o, u, rfl, rd1_of_rdn hrd (k := 0) rfl, rd1_of_rdn hrd (k := 1) rfl, rd1_of_rdn hrd (k := 2) rfl, hrd, w0, w1, hr, hrep⟩
theorem pow2_pos (n : Nat) : (0 : Int) < 2 ^ n := Int.pow_pos (by omega)
theorem pow2_le {n m : Nat} (h : n ≤ m) : (2 : Int) ^ n ≤ 2 ^ m := by
  have := Nat.pow_le_pow_right (show 0 < 2 by omega) h
  exact_mod_cast this
theorem pow6 {m : Nat} (h : m ≤ 6) : (1 : Int) ≤ 2 ^ m ∧ (2 : Int) ^ m ≤ 64 := ⟨by have := pow2_pos m; omega, by have := pow2_le h; omega⟩
theorem c_impl_isLeaf (M : Mem) (l x : Int) : aCall T0 F_impl_isLeaf [.int .i64 l, .int .i64 x] M = some (.bool (leafB l x), M) := by
  unfold leafB
  cases h : lgB l with
  | false =>
    have e : (decide (0 ≤ l) && decide (l ≤ 6)) = false := h
    rw [aCall_eq T_impl_isLeaf]; unfold A_impl_isLeaf C_impl_isLeaf; simp [c_impl_isLog, e]
  | true =>
    have e : (decide (0 ≤ l) && decide (l ≤ 6)) = true := h
    obtain ⟨m, rfl, hm⟩ := log_nat h
    have e2 := fun M => (c_impl_isLog M m).trans (by rw [e])
    have hp := pow6 hm
    have e1 : bshl .i64 1 m = 2 ^ m := by
      unfold bshl
      have h : min (m : Int).toNat IntKind.i64.bits = m := by show min _ 64 = m; omega
      rw [h, wrap_i64 (by omega) (by omega)]
      omega
    have e3 : IntKind.i64.wrap ((2 : Int) ^ m - 1) = 2 ^ m - 1 := wrap_i64 (by omega) (by omega)
    have e4 : decide (x ≤ 2 ^ m - 1) = decide (x < 2 ^ m) := by
      by_cases h : x < 2 ^ m
      · rw [decide_eq_true h, decide_eq_true (by omega)]
      · rw [decide_eq_false h, decide_eq_false (by omega)]
    rw [aCall_eq T_impl_isLeaf]; unfold A_impl_isLeaf C_impl_isLeaf; simp [e2, e1, e3, c_impl_within, e4]
theorem c_impl_isBlock (M : Mem) (cs : List V) (b : ty_Block.D) (h : Rep ty_Block M cs b) (l w : Int) : aCall T0 F_impl_isBlock [.agg cs.toArray, .int .i64 l, .int .i64 w] M = some (.bool (blockB l w b), M) := by
  obtain ⟨u, rfl, w0, w1, hr⟩ := rep_g_Block h
  obtain ⟨a, c, rfl⟩ := hr.slen
  have e2 := fun M => c_impl_isLeaf M l b.2.1
  have e3 := fun M => c_impl_within M w 1 200
  have e4 := fun M => c_impl_within M b.1 0 255
  have hb : blockB l w b = (leafB l b.2.1 && wdB w && bidB b.1 && decide ((List.length (α := UInt8) b.2.2 : Int) = w)) := by
    unfold blockB leafB
    cases lgB l <;> cases wdB w <;> cases bidB b.1 <;> simp
  rw [hb]
  clear hb
  cases h4 : leafB l b.2.1 with
  | false => rw [aCall_eq T_impl_isBlock]; unfold A_impl_isBlock C_impl_isBlock; simp [e2, h4]
  | true =>
    cases h5 : wdB w with
    | false =>
      have h5 : (decide (1 ≤ w) && decide (w ≤ 200)) = false := h5
      rw [aCall_eq T_impl_isBlock]; unfold A_impl_isBlock C_impl_isBlock; simp [e2, h4, e3, h5]
    | true =>
      have h5 : (decide (1 ≤ w) && decide (w ≤ 200)) = true := h5
      cases h6 : bidB b.1 with
      | false =>
        have h6 : (decide (0 ≤ b.1) && decide (b.1 ≤ 255)) = false := h6
        rw [aCall_eq T_impl_isBlock]; unfold A_impl_isBlock C_impl_isBlock; simp [e2, h4, e3, h5, e4, h6]
      | true =>
        have h6 : (decide (0 ≤ b.1) && decide (b.1 ≤ 255)) = true := h6
        rw [aCall_eq T_impl_isBlock]; unfold A_impl_isBlock C_impl_isBlock; simp [e2, h4, e3, h5, e4, h6]
theorem stepB_zero {l w : Int} {xs : List ty_Block.D} (h : 0 < xs.length) : stepB l w xs 0 = blockB l w xs[0] := by
  unfold stepB
  rw [List.getElem?_eq_getElem h]
  simp
theorem stepB_pos {l w : Int} {xs : List ty_Block.D} {i : Nat} (h : i < xs.length) (h0 : 0 < i) : stepB l w xs i = (blockB l w xs[i] && decide ((xs[i - 1]'(by omega)).1 < xs[i].1)) := by
  unfold stepB
  rw [List.getElem?_eq_getElem h, List.getElem?_eq_getElem (by omega)]
  have : (i == 0) = false := by simp; omega
  simp [this]
theorem gc_boolp {M M' : Mem} (hp : M <+: M') (b : Bool) : gc M (some (.bool b, M')) = some (.bool b, M) := by
  obtain ⟨N, rfl⟩ := hp
  exact gc_bool M N b
theorem l_impl_areBlocks_0 (M : Mem) (a : Option Addr) (c : Nat) (xs : List ty_Block.D) (l w : Int) (h : Rep (.sl ty_Block) M [.slice a xs.length c] xs) (hn : xs.length ≤ 1048576) :
    (∃ X', M <+: X' ∧ (∀ i, i < xs.length → stepB l w xs i = true) ∧ lp (aCall T0) K_impl_areBlocks_0 L_impl_areBlocks_0 [.slice a xs.length c, .int .i64 l, .int .i64 w, und, und, und, und, und, und, .slice a xs.length c, .int .i64 xs.length, .int .i64 (0 : Nat), und, und, und, und, und, und, und, und, und, und, und, und, und, und, und, und, und, und, und, und, und, und, und, und, und, und, und, und, und, und, und] M = lp (aCall T0) K_impl_areBlocks_0 L_impl_areBlocks_0 [.slice a xs.length c, .int .i64 l, .int .i64 w, und, und, und, und, und, und, .slice a xs.length c, .int .i64 xs.length, .int .i64 xs.length, und, und, und, und, und, und, und, und, und, und, und, und, und, und, und, und, und, und, und, und, und, und, und, und, und, und, und, und, und, und, und] X') ∨
    ((∃ i, i < xs.length ∧ stepB l w xs i = false) ∧ ∀ k, thenF M [.tmp 6] (thenS (blockR 0 (lp (aCall T0) K_impl_areBlocks_0 L_impl_areBlocks_0 [.slice a xs.length c, .int .i64 l, .int .i64 w, und, und, und, und, und, und, .slice a xs.length c, .int .i64 xs.length, .int .i64 (0 : Nat), und, und, und, und, und, und, und, und, und, und, und, und, und, und, und, und, und, und, und, und, und, und, und, und, und, und, und, und, und, und, und] M)) (aCall T0) k) = some (.bool false, M)) := by
  have key := loop_ok (call := aCall T0) (K := K_impl_areBlocks_0) (L := L_impl_areBlocks_0) (fun _ Y => M <+: Y) (fun i => [.slice a xs.length c, .int .i64 l, .int .i64 w, und, und, und, und, und, und, .slice a xs.length c, .int .i64 xs.length, .int .i64 i, und, und, und, und, und, und, und, und, und, und, und, und, und, und, und, und, und, und, und, und, und, und, und, und, und, und, und, und, und, und, und]) (stepB l w xs) (n := xs.length) (M0 := M) (rs := [.tmp 6]) (k0 := 0) (a := .bool false) M (List.prefix_refl _) ?_ ?_
  · rcases key with ⟨X', hp, h1, h2⟩ | h
    · exact .inl ⟨X', hp, h1, h2⟩
    · exact .inr h
  · intro i Y hi hq hY
    have e6 : IntKind.i64.wrap ((i : Int) + 1) = i + 1 := wrap_i64 (by omega) (by omega)
    have e8 : IntKind.i64.wrap 1 = 1 := wrap_i64 (by omega) (by omega)
    obtain ⟨b, o, u, rfl, q1, q2, q3, q4, _, _, qu, qr⟩ := at_Block (h.mono hY) hi
    obtain ⟨ua, uc, rfl⟩ := qu.slen
    have hc := fun N : Mem => c_impl_isBlock (Y ++ N) _ _ (qr.mono (List.prefix_append Y N)) l w
    refine ⟨Y ++ [⟨[.int .i64 xs[i].1, .int .i64 xs[i].2.1, .slice ua (List.length (α := UInt8) xs[i].2.2) uc], 1, 2⟩], hY.trans (List.prefix_append _ _), ?_⟩
    rcases Nat.eq_zero_or_pos i with h0 | h0
    · subst h0
      rw [stepB_zero hi] at hq
      simp only [Int.natCast_zero, Int.ofNat_zero, Nat.zero_mul, Nat.add_zero] at *
      rw [S_impl_areBlocks_0]; unfold B_impl_areBlocks_0; simp [thenD_pp, sliceCells_sl, sliceCells_z, sliceCells_nil, take_full, appS_sl, appK_ok, appS_none, thenD_ag, agP_nil, agP_cons, hi, q4, hc, hq, e6, e8]
    · rw [stepB_pos hi h0, Bool.and_eq_true] at hq
      have hi' : (0 : Int) < (i : Int) := by omega
      have e7 : IntKind.i64.wrap ((i : Int) - 1) = ((i - 1 : Nat) : Int) := by rw [wrap_i64 (by omega) (by omega)]; omega
      obtain ⟨b', o', u', e, q1', _⟩ := at_Block (h.mono hY) (i := i - 1) (by omega)
      cases e
      have q1' := fun N : Mem => rd1_old (N := N) q1'
      have hlt := of_decide_eq_true hq.2
      have hge : ¬ (xs[i].1 ≤ (xs[i - 1]'(by omega)).1) := Int.not_le.2 hlt
      have hi1 : i - 1 < xs.length := by omega
      rw [S_impl_areBlocks_0]; unfold B_impl_areBlocks_0; simp [thenD_pp, sliceCells_sl, sliceCells_z, sliceCells_nil, take_full, appS_sl, appK_ok, appS_none, thenD_ag, agP_nil, agP_cons, hi, q4, hc, hq.1, e6, hi', h0, e7, q1', hge, hi1]
  · intro i Y hi hq hY k
    have e6 : IntKind.i64.wrap ((i : Int) + 1) = i + 1 := wrap_i64 (by omega) (by omega)
    have e8 : IntKind.i64.wrap 1 = 1 := wrap_i64 (by omega) (by omega)
    obtain ⟨b, o, u, rfl, q1, q2, q3, q4, _, _, qu, qr⟩ := at_Block (h.mono hY) hi
    obtain ⟨ua, uc, rfl⟩ := qu.slen
    have hc := fun N : Mem => c_impl_isBlock (Y ++ N) _ _ (qr.mono (List.prefix_append Y N)) l w
    have gb := fun (N : Mem) b => gc_boolp (hY.trans (List.prefix_append Y N)) b
    rcases Nat.eq_zero_or_pos i with h0 | h0
    · subst h0
      rw [stepB_zero hi] at hq
      simp only [Int.natCast_zero, Int.ofNat_zero, Nat.zero_mul, Nat.add_zero] at *
      rw [S_impl_areBlocks_0]; unfold B_impl_areBlocks_0; simp [thenD_pp, sliceCells_sl, sliceCells_z, sliceCells_nil, take_full, appS_sl, appK_ok, appS_none, thenD_ag, agP_nil, agP_cons, hi, q4, hc, hq, e6, e8, gb]
    · rw [stepB_pos hi h0] at hq
      have hi' : (0 : Int) < (i : Int) := by omega
      have e7 : IntKind.i64.wrap ((i : Int) - 1) = ((i - 1 : Nat) : Int) := by rw [wrap_i64 (by omega) (by omega)]; omega
      obtain ⟨b', o', u', e, q1', _⟩ := at_Block (h.mono hY) (i := i - 1) (by omega)
      cases e
      have q1' := fun N : Mem => rd1_old (N := N) q1'
      have hi1 : i - 1 < xs.length := by omega
      cases hb : blockB l w xs[i] with
      | false =>
        rw [hb] at hc
        rw [S_impl_areBlocks_0]; unfold B_impl_areBlocks_0; simp [thenD_pp, sliceCells_sl, sliceCells_z, sliceCells_nil, take_full, appS_sl, appK_ok, appS_none, thenD_ag, agP_nil, agP_cons, hi, q4, hc, e6, gb]
      | true =>
        rw [hb] at hc
        rw [hb, Bool.true_and] at hq
        have hlt := of_decide_eq_false hq
        have hge : xs[i].1 ≤ (xs[i - 1]'(by omega)).1 := Int.not_lt.1 hlt
        rw [S_impl_areBlocks_0]; unfold B_impl_areBlocks_0; simp [thenD_pp, sliceCells_sl, sliceCells_z, sliceCells_nil, take_full, appS_sl, appK_ok, appS_none, thenD_ag, agP_nil, agP_cons, hi, q4, hc, e6, hi', h0, e7, q1', hge, hi1, gb]
theorem c_impl_areBlocks (M : Mem) (v : V) (xs : List ty_Block.D) (l w : Int) (h : Rep (.sl ty_Block) M [v] xs) (hn : xs.length ≤ 1048576) : aCall T0 F_impl_areBlocks [v, .int .i64 l, .int .i64 w] M = some (.bool (blocksB l w xs), M) := by
  obtain ⟨a, c, rfl⟩ := h.slen
  have e1 := fun M => c_impl_isLog M l
  have e2 := fun M => c_impl_within M w 1 200
  unfold blocksB
  rcases l_impl_areBlocks_0 M a c xs l w h hn with ⟨X', hp, ha, e⟩ | ⟨hx, e⟩
  · simp only [Int.natCast_zero, Int.ofNat_zero] at e
    rw [rall_all ha, Bool.and_true]
    have gb := fun b => gc_boolp hp b
    unfold lgB wdB
    cases h1 : (decide (0 ≤ l) && decide (l ≤ 6)) with
    | false =>
      rw [aCall_eq T_impl_areBlocks]; unfold A_impl_areBlocks C_impl_areBlocks; simp [thenD_pp, sliceCells_sl, sliceCells_z, sliceCells_nil, take_full, appS_sl, appK_ok, appS_none, thenD_ag, agP_nil, agP_cons, e]
      rw [S_impl_areBlocks_0]; unfold B_impl_areBlocks_0; simp [thenD_pp, sliceCells_sl, sliceCells_z, sliceCells_nil, take_full, appS_sl, appK_ok, appS_none, thenD_ag, agP_nil, agP_cons, e1, h1, gb]
    | true =>
      rw [aCall_eq T_impl_areBlocks]; unfold A_impl_areBlocks C_impl_areBlocks; simp [thenD_pp, sliceCells_sl, sliceCells_z, sliceCells_nil, take_full, appS_sl, appK_ok, appS_none, thenD_ag, agP_nil, agP_cons, e]
      rw [S_impl_areBlocks_0]; unfold B_impl_areBlocks_0; simp [thenD_pp, sliceCells_sl, sliceCells_z, sliceCells_nil, take_full, appS_sl, appK_ok, appS_none, thenD_ag, agP_nil, agP_cons, e1, h1, e2, gb]
  · simp only [Int.natCast_zero, Int.ofNat_zero] at e
    rw [rall_not hx, Bool.and_false]
    rw [aCall_eq T_impl_areBlocks]; unfold A_impl_areBlocks C_impl_areBlocks; simp [thenD_pp, sliceCells_sl, sliceCells_z, sliceCells_nil, take_full, appS_sl, appK_ok, appS_none, thenD_ag, agP_nil, agP_cons, e]
theorem c_impl_isStash (M : Mem) (v : V) (xs : List ty_Block.D) (l w : Int) (h : Rep (.sl ty_Block) M [v] xs) (hn : xs.length ≤ 1048576) : aCall T0 F_impl_isStash [v, .int .i64 l, .int .i64 w] M = some (.bool (stashB l w xs), M) := by
  have e1 := c_impl_areBlocks M v xs l w h hn
  obtain ⟨a, c, rfl⟩ := h.slen
  unfold stashB
  by_cases hs : xs.length ≤ 128
  · have hs' : (xs.length : Int) ≤ 128 := by omega
    rw [aCall_eq T_impl_isStash]; unfold A_impl_isStash C_impl_isStash; simp [thenD_pp, sliceCells_sl, sliceCells_z, sliceCells_nil, take_full, appS_sl, appK_ok, appS_none, thenD_ag, agP_nil, agP_cons, e1, hs, hs']
  · have hs' : ¬ (xs.length : Int) ≤ 128 := by omega
    rw [aCall_eq T_impl_isStash]; unfold A_impl_isStash C_impl_isStash; simp [thenD_pp, sliceCells_sl, sliceCells_z, sliceCells_nil, take_full, appS_sl, appK_ok, appS_none, thenD_ag, agP_nil, agP_cons, e1, hs, hs']
def Zl (zs : List (List V × ty_Block.D)) : List V := (zs.map (·.1)).flatten
theorem gr0 {t : Ty} {M : Mem} {l : Nat} (hb : M[l]? = some ⟨[], t.w, 2⟩) : Gr (.sl t) M [.slice (some ⟨l, 0, none⟩) 0 0] [] [l] :=
  .inr ⟨l, [], [], rfl, hb, rfl, rfl, by simp, by simp⟩
theorem sl_pre {M X : Mem} {w : Nat} {v : V} {r : Nat × List V} (hp : M <+: X) (h : sliceCells M w v = some r) : sliceCells X w v = some r := by
  unfold sliceCells at h ⊢
  split at h
  · exact h
  · split at h
    · rename_i h0; rw [if_pos h0]; exact h
    · rename_i h0
      rw [if_neg h0]
      obtain ⟨y, hy, rfl⟩ := Option.map_eq_some_iff.1 h
      rw [rn_pre hp hy]
      rfl
  · cases h
/-- A clone of blocks. -/
def ClB (M : Mem) (zs : List (List V × ty_Block.D)) (p : V × Mem) : Prop := M <+: p.2 ∧ ((zs = [] ∧ ∃ La, Gr (.sl ty_Block) p.2 [p.1] [] La ∧ La.Nodup ∧ ∀ l ∈ La, M.length ≤ l) ∨ zs ≠ [] ∧ ∃ l, p.1 = .slice (some ⟨l, 0, none⟩) zs.length zs.length ∧ M.length ≤ l ∧ p.2[l]? = some ⟨Zl zs, 3, 2⟩)
theorem c_clone_Block (M0 M : Mem) (hp0 : M0 <+: M) (v : V) (zs : List (List V × ty_Block.D)) (hv : ∃ a c, v = .slice a zs.length c) (h2 : ∀ z ∈ zs, Rep ty_Block M0 z.1 z.2) (h3 : sliceCells M0 3 v = some (zs.length, Zl zs)) (hn : zs.length ≤ 1048576) :
    Sat (aCall T0 F_slices_Clone_impl_Block_impl_Block [v] M) (ClB M zs) := by
  have hc : ∀ N : Mem, sliceCells (M ++ N) 3 v = some (zs.length, Zl zs) := fun N => sl_pre (hp0.trans (List.prefix_append M N)) h3
  obtain ⟨a, c, rfl⟩ := hv
  have hfl : (Zl zs).length = zs.length * 3 := by
    unfold Zl
    rw [flat_len (w := 3)]
    · simp
    · intro c hc
      obtain ⟨z, hz, rfl⟩ := List.mem_map.1 hc
      exact (h2 z hz).len
  have hone : (Zl zs).all one = true := by
    unfold Zl
    rw [List.all_flatten, List.all_eq_true]
    intro c hc
    obtain ⟨z, hz, rfl⟩ := List.mem_map.1 hc
    exact (h2 z hz).one
  cases a with
  | none =>
    have hx : zs = [] := by
      cases zs with
      | nil => rfl
      | cons z zs => simp [sliceCells] at h3
    subst hx
    rw [aCall_eq T_slices_Clone_impl_Block_impl_Block]; unfold A_slices_Clone_impl_Block_impl_Block C_slices_Clone_impl_Block_impl_Block; simp [thenD_pp, sliceCells_sl, sliceCells_z, sliceCells_nil, take_full, appS_sl, appK_ok, appS_none, thenD_ag, agP_nil, agP_cons]
    exact ⟨_, rfl, List.prefix_refl _, .inl ⟨rfl, [], Gr.nil, by simp, by simp⟩⟩
  | some a =>
    by_cases h0 : zs = []
    · subst h0
      have hz : Zl [] = [] := rfl
      rw [hz] at hc
      simp only [List.length_nil] at hc
      rw [aCall_eq T_slices_Clone_impl_Block_impl_Block]; unfold A_slices_Clone_impl_Block_impl_Block C_slices_Clone_impl_Block_impl_Block; simp [thenD_pp, sliceCells_sl, sliceCells_z, sliceCells_nil, take_full, appS_sl, appK_ok, appS_none, thenD_ag, agP_nil, agP_cons, hc, zeroCells, appS]
      exact ⟨(_, M ++ [⟨[], 3, 2⟩]), rfl, List.prefix_append _ _, .inl ⟨rfl, [M.length], gr0 (t := ty_Block) (by simp [Ty.w]), by simp, by simp⟩⟩
    · have hpos := List.length_pos_iff.2 h0
      rw [aCall_eq T_slices_Clone_impl_Block_impl_Block]; unfold A_slices_Clone_impl_Block_impl_Block C_slices_Clone_impl_Block_impl_Block; simp [thenD_pp, sliceCells_sl, sliceCells_z, sliceCells_nil, take_full, appS_sl, appK_ok, appS_none, thenD_ag, agP_nil, agP_cons, hc, zeroCells]
      generalize hy : appS _ _ _ _ _ _ = xhy
      have hg1 : Grow M.length 3 (M ++ [(⟨[], 3, 2⟩ : Blk)]) (.slice (some ⟨M.length, 0, none⟩) 0 0) 0 [] := Grow.new (Nat.le_refl _) rfl
      obtain ⟨a3, X3, rfl, g3, ag, l3⟩ := hg1.at hy (List.prefix_refl _) (by simp) hfl hpos hone (by omega) (by omega)
      clear hy
      simp [thenD_pp, sliceCells_sl, sliceCells_z, sliceCells_nil, take_full, appS_sl, appK_ok, appS_none, thenD_ag, agP_nil, agP_cons]
      obtain ⟨_, ⟨e, e0⟩ | ⟨l, hl, e, hb⟩⟩ := g3
      · cases e
      · cases e
        simp only [Nat.zero_add, List.nil_append] at hb ⊢
        exact ⟨_, rfl, ag.pre (List.prefix_append _ _) (fun b hb => hg1.ge b hb), .inr ⟨h0, l, rfl, hl, hb⟩⟩
theorem rep_hdz {t : Ty} {M : Mem} {v : V} {xs : List t.D} (h : Rep (.sl t) M [v] xs) : ∃ zs : List (List V × t.D), zs.map (·.2) = xs ∧ (∀ z ∈ zs, Rep t M z.1 z.2) ∧ sliceCells M t.w v = some (xs.length, (zs.map (·.1)).flatten) := by
  rcases h with ⟨e, rfl⟩ | ⟨l, o, c, blk, css, e, h2, h3, h4, h5, h6, h7⟩
  · cases e
    exact ⟨[], rfl, by simp, rfl⟩
  · cases e
    refine ⟨css.zip xs, List.map_snd_zip (by omega), ?_, ?_⟩
    · intro z hz
      obtain ⟨i, hi, rfl⟩ := List.getElem_of_mem hz
      rw [List.length_zip] at hi
      rw [List.getElem_zip]
      exact h6 i _ _ (List.getElem?_eq_getElem (by omega)) (List.getElem?_eq_getElem (by omega))
    · have hm : ((css.zip xs).map (·.1)) = css := List.map_fst_zip (by omega)
      rw [hm]
      have hl : css.flatten.length = xs.length * t.w := by
        rw [flat_len (w := t.w), h5]
        intro ds hd
        obtain ⟨i, hi, rfl⟩ := List.getElem_of_mem hd
        exact (h6 i css[i] (xs[i]'(by omega)) (by simp) (by simp)).len
      by_cases h0 : xs.length * t.w = 0
      · have : css.flatten = [] := List.length_eq_zero_iff.1 (by omega)
        simp [sliceCells, h0, this]
      · obtain ⟨r, hr⟩ := h7
        have hne : xs ≠ [] := by rintro rfl; simp at h0
        have hle : o + xs.length * t.w ≤ blk.cells.length := by
          have := congrArg List.length hr
          rw [List.length_append, List.length_drop, hl] at this
          omega
        have hst : blk.st = 1 ∨ blk.st = 2 := by
          rcases h3 with h | h | h
          · exact .inl h
          · exact .inr h
          · exact absurd h hne
        simp only [sliceCells, h0, if_false, rdn, h2]
        rw [if_pos ⟨hst, hle⟩, ← hr, ← hl, List.take_left]
        rfl
theorem zl_of {M : Mem} {v : V} {xs : List ty_Block.D} (h : Rep (.sl ty_Block) M [v] xs) : ∃ zs : List (List V × ty_Block.D), zs.map (·.2) = xs ∧ (∃ a c, v = .slice a zs.length c) ∧ (∀ z ∈ zs, Rep ty_Block M z.1 z.2) ∧ sliceCells M 3 v = some (zs.length, Zl zs) := by
  obtain ⟨zs, h1, h2, h3⟩ := rep_hdz h
  have hl : xs.length = zs.length := by rw [← h1]; simp
  rw [hl] at h3
  obtain ⟨a, c, rfl⟩ := h.slen
  exact ⟨zs, h1, ⟨a, c, by rw [hl]⟩, h2, h3⟩
theorem gr_Block {M : Mem} {x : ty_Block.D} {u : V} {L : List Nat} (w0 : (Lit.int .i64 x.1).wf = true) (w1 : (Lit.int .i64 x.2.1).wf = true) (r0 : Gr (.sl ty_Byte) M [u] x.2.2 L) : Gr ty_Block M [.int .i64 x.1, .int .i64 x.2.1, u] x L :=
  ⟨[.int .i64 x.1], [.int .i64 x.2.1, u], [], L, rfl, ⟨⟨rfl, w0⟩, rfl⟩, ⟨[.int .i64 x.2.1], [u], [], L, rfl, ⟨⟨rfl, w1⟩, rfl⟩, r0, rfl⟩, rfl⟩
def CkI (M : Mem) (l : Nat) (zs : List (List V × ty_Block.D)) (i : Nat) (X : Mem) : Prop :=
  ∃ (ds : List (List V)) (Ls : List (List Nat)), M <+: X ∧ X[l]? = some ⟨ds.flatten ++ Zl (zs.drop i), 3, 2⟩ ∧ ds.length = i ∧ Ls.length = i ∧ (∀ (k : Nat) (d : List V) (z : List V × ty_Block.D) (K : List Nat), ds[k]? = some d → zs[k]? = some z → Ls[k]? = some K → Gr ty_Block X d z.2 K) ∧ (l :: Ls.flatten).Nodup ∧ ∀ j ∈ Ls.flatten, M.length ≤ j
theorem Zl_cons (z : List V × ty_Block.D) (zs : List (List V × ty_Block.D)) : Zl (z :: zs) = z.1 ++ Zl zs := by simp [Zl]
theorem splice1 {cs : List V} {o : Nat} {v : V} (h : o < cs.length) : splice cs o [v] = cs.set o v := by
  unfold splice
  rw [List.set_eq_take_append_cons_drop, if_pos h]
  simp
theorem splice_mid (A : List V) (x y u w : V) (B : List V) : splice (A ++ ([x, y, u] ++ B)) (A.length + 2) [w] = A ++ ([x, y, w] ++ B) := by
  rw [splice1 (by simp), List.set_append_right _ _ (by omega)]
  have : A.length + 2 - A.length = 2 := by omega
  rw [this]
  rfl
theorem fl_Byte : FlatE .u8 enc_Byte (fun _ => True) := ⟨fun M x _ => ⟨rfl, rfl⟩, fun M cs x h => ⟨h, trivial⟩⟩
theorem l_impl_cloneBlocks_0 (M : Mem) (l : Nat) (zs : List (List V × ty_Block.D)) (hl : M.length ≤ l) (hz : ∀ z ∈ zs, Rep ty_Block M z.1 z.2) (hn : zs.length ≤ 1048576) (hs : ∀ z ∈ zs, List.length (α := UInt8) z.2.2.2 ≤ 1048576) (Z : Mem) (hZ : CkI M l zs 0 Z) :
    ∃ (u : Unit) (X' : Mem), CkI M l zs zs.length X' ∧ lp (aCall T0) K_impl_cloneBlocks_0 L_impl_cloneBlocks_0 [und, und, und, .slice (some ⟨l, 0, none⟩) zs.length zs.length, und, und, und, und, .slice (some ⟨l, 0, none⟩) zs.length zs.length, .int .i64 zs.length, .int .i64 (0 : Nat), und, und, und, und, und, und, und, und, und, und, und, und, und] Z = lp (aCall T0) K_impl_cloneBlocks_0 L_impl_cloneBlocks_0 [und, und, und, .slice (some ⟨l, 0, none⟩) zs.length zs.length, und, und, und, und, .slice (some ⟨l, 0, none⟩) zs.length zs.length, .int .i64 zs.length, .int .i64 zs.length, und, und, und, und, und, und, und, und, und, und, und, und, und] X' := by
  refine loop_to (call := aCall T0) (K := K_impl_cloneBlocks_0) (L := L_impl_cloneBlocks_0) (fun i (_ : Unit) X => CkI M l zs i X) (fun i (_ : Unit) => [und, und, und, .slice (some ⟨l, 0, none⟩) zs.length zs.length, und, und, und, und, .slice (some ⟨l, 0, none⟩) zs.length zs.length, .int .i64 zs.length, .int .i64 i, und, und, und, und, und, und, und, und, und, und, und, und, und]) (n := zs.length) ?_ 0 () Z (by omega) hZ
  intro i _ X hi ⟨ds, Ls, pX, hb, hd, hL, hg, nd, hge⟩
  have e6 : IntKind.i64.wrap ((i : Int) + 1) = i + 1 := wrap_i64 (by omega) (by omega)
  have hzm := List.getElem_mem hi
  have hR := hz _ hzm
  have hsz := hs _ hzm
  obtain ⟨u, hu, w0, w1, qu⟩ := rep_g_Block hR
  have hdr : zs.drop i = zs[i] :: zs.drop (i + 1) := List.drop_eq_getElem_cons hi
  rw [hdr, Zl_cons, hu] at hb
  have hdl : ds.flatten.length = i * 3 := by
    rw [flat_len (w := 3), hd]
    intro c hc
    obtain ⟨k, hk, rfl⟩ := List.getElem_of_mem hc
    exact (hg k _ (zs[k]'(by omega)) (Ls[k]'(by omega)) (by simp) (by simp) (by simp)).len
  generalize hzi : zs[i] = z at *
  obtain ⟨z1, b1, b2, b3⟩ := z
  simp only at hu w0 w1 qu hsz hb hR
  subst hu
  have hl3 : ∀ u : V, (ds.flatten ++ ([(.int .i64 b1 : V), .int .i64 b2, u] ++ Zl (zs.drop (i + 1)))).length = i * 3 + 3 + (Zl (zs.drop (i + 1))).length := fun u => by
    rw [List.length_append, hdl, List.length_append]
    simp only [List.length_cons, List.length_nil]
    omega
  have hrd : rdn X l (i * 3) 3 = some [.int .i64 b1, .int .i64 b2, u] := by
    simp only [rdn, hb]
    rw [if_pos (by rw [hl3]; refine ⟨by simp, by omega⟩), List.drop_left' hdl]
    rfl
  have hrd' := fun N : Mem => rn_pre (List.prefix_append X N) hrd
  have s1 := clone_sl (M := X ++ [(⟨[.int .i64 b1, .int .i64 b2, u], 1, 2⟩ : Blk)]) T_bytes_Clone (t := .u8) fl_Byte rfl (qu.mono (pX.trans (List.prefix_append _ _))) (by omega) (by omega)
  obtain ⟨ua, uc, rfl⟩ := qu.slen
  have hlX := get_lt hb
  rw [S_impl_cloneBlocks_0]; unfold B_impl_cloneBlocks_0; simp [thenD_pp, sliceCells_sl, sliceCells_z, sliceCells_nil, take_full, appS_sl, appK_ok, appS_none, thenD_ag, agP_nil, agP_cons, hi, hrd, hrd', zeroCells, rdJ_ok, rd1_K]
  generalize hx : aCall T0 F_bytes_Clone _ _ = xhx
  obtain ⟨w1', X3, rfl, K2, p3', gb, ndb, geb⟩ := of_call hx s1
  clear hx
  simp only at p3' gb geb
  have p3 : X <+: X3 := (List.prefix_append _ _).trans p3'
  obtain ⟨a7, rfl⟩ := gb.shape
  have hb3 := get_pre p3 hb
  have hwr : wrn X3 l (i * 3 + 2) [.slice a7 (List.length (α := UInt8) b3) (List.length (α := UInt8) b3)] = some (X3.set l ⟨ds.flatten ++ ([.int .i64 b1, .int .i64 b2, .slice a7 (List.length (α := UInt8) b3) (List.length (α := UInt8) b3)] ++ Zl (zs.drop (i + 1))), 3, 2⟩) := by
    simp only [wrn, hb3]
    rw [if_pos (by rw [hl3]; refine ⟨by simp, by simp only [List.length_cons, List.length_nil]; omega, rfl⟩), ← hdl, splice_mid]
  simp [thenD_pp, sliceCells_sl, sliceCells_z, sliceCells_nil, take_full, appS_sl, appK_ok, appS_none, thenD_ag, agP_nil, agP_cons, hi, hwr, e6]
  have hlK : l ∉ K2 := fun hm => by have := geb l hm; simp at this; omega
  have hlt : ∀ K ∈ Ls, ∀ j ∈ K, j < X.length := by
    intro K hK j hj
    obtain ⟨k, hk, rfl⟩ := List.getElem_of_mem hK
    exact (hg k (ds[k]'(by omega)) (zs[k]'(by omega)) _ (by simp) (by simp) (by simp)).lt j hj
  have hnd := List.nodup_cons.1 nd
  refine ⟨_, ⟨ds ++ [[.int .i64 b1, .int .i64 b2, .slice a7 (List.length (α := UInt8) b3) (List.length (α := UInt8) b3)]], Ls ++ [K2], pf_set hl (pX.trans p3), ?_, by simp [hd], by simp [hL], ?_, ?_, ?_⟩, rfl⟩
  · rw [gs_of hb3]; simp
  · intro k d z K hdk hzk hKk
    by_cases hk : k < i
    · rw [List.getElem?_append_left (by omega)] at hdk hKk
      have g := hg k d z K hdk hzk hKk
      refine (g.grow p3).set _ (fun hm => hnd.1 (List.mem_flatten.2 ⟨K, List.mem_of_getElem? hKk, hm⟩))
    · have hki : k = i := by
        have := (List.getElem?_eq_some_iff.1 hdk).1
        simp at this
        omega
      subst hki
      rw [List.getElem?_append_right (by omega)] at hdk hKk
      simp [hd] at hdk
      simp [hL] at hKk
      rw [List.getElem?_eq_getElem hi, hzi] at hzk
      cases hzk
      subst hdk
      subst hKk
      exact gr_Block (x := (b1, b2, b3)) w0 w1 (gb.set _ hlK)
  · rw [List.flatten_append, List.flatten_cons, List.flatten_nil, List.append_nil]
    refine List.nodup_cons.2 ⟨fun hm => ?_, List.nodup_append.2 ⟨hnd.2, ndb, fun a ha b hb2 e => ?_⟩⟩
    · rcases List.mem_append.1 hm with h | h
      · exact hnd.1 h
      · exact hlK h
    · subst e
      obtain ⟨K, hK, ha⟩ := List.mem_flatten.1 ha
      have h1 := hlt K hK a ha
      have h2 := geb a hb2
      simp at h2
      omega
  · intro j hj
    rw [List.flatten_append, List.flatten_cons, List.flatten_nil, List.append_nil] at hj
    rcases List.mem_append.1 hj with h | h
    · exact hge j h
    · have := geb j h
      have := pX.length_le
      simp at *
      omega
theorem c_impl_cloneBlocks (M : Mem) (v : V) (xs : List ty_Block.D) (h : Rep (.sl ty_Block) M [v] xs) (hz : BlkSz xs) : Sat (aCall T0 F_impl_cloneBlocks [v] M) (GrV ty_Block M xs) := by
  obtain ⟨zs, rfl, hv, hz2, h3⟩ := zl_of h
  have hn : zs.length ≤ 1048576 := by have := hz.1; simpa using this
  have hs : ∀ z ∈ zs, List.length (α := UInt8) z.2.2.2 ≤ 1048576 := fun z hm => hz.2 z.2 (List.mem_map_of_mem hm)
  have hC := c_clone_Block M M (List.prefix_refl _) v zs hv hz2 h3 hn
  obtain ⟨av, cv, rfl⟩ := hv
  rw [aCall_eq T_impl_cloneBlocks]; unfold A_impl_cloneBlocks C_impl_cloneBlocks; simp [thenD_pp, sliceCells_sl, sliceCells_z, sliceCells_nil, take_full, appS_sl, appK_ok, appS_none, thenD_ag, agP_nil, agP_cons]
  generalize hx : aCall T0 F_slices_Clone_impl_Block_impl_Block _ _ = xhx
  obtain ⟨v1, X1, rfl, p1, ⟨h0, La, g1, g2, g3⟩ | ⟨h0, l, rfl, hl, hb⟩⟩ := of_call hx hC
  · clear hx
    subst h0
    simp only at p1 g1
    obtain ⟨a, rfl⟩ := g1.shape
    simp only [List.length_nil]
    simp [thenD_pp, sliceCells_sl, sliceCells_z, sliceCells_nil, take_full, appS_sl, appK_ok, appS_none, thenD_ag, agP_nil, agP_cons]
    rw [S_impl_cloneBlocks_0]; unfold B_impl_cloneBlocks_0; simp [thenD_pp, sliceCells_sl, sliceCells_z, sliceCells_nil, take_full, appS_sl, appK_ok, appS_none, thenD_ag, agP_nil, agP_cons]
    exact ⟨(_, X1), rfl, La, p1, g1, g2, g3⟩
  · clear hx
    simp only at p1 hb
    have hlt := get_lt hb
    obtain ⟨_, X', ⟨ds, Ls, pX, hb', hd, hL, hg, nd, hge⟩, e⟩ := l_impl_cloneBlocks_0 M l zs hl hz2 hn hs X1 ⟨[], [], p1, by simpa using hb, rfl, rfl, by simp, by simp, by simp⟩
    simp only [Int.natCast_zero, Int.ofNat_zero] at e
    simp [thenD_pp, sliceCells_sl, sliceCells_z, sliceCells_nil, take_full, appS_sl, appK_ok, appS_none, thenD_ag, agP_nil, agP_cons, e]
    rw [S_impl_cloneBlocks_0]; unfold B_impl_cloneBlocks_0; simp [thenD_pp, sliceCells_sl, sliceCells_z, sliceCells_nil, take_full, appS_sl, appK_ok, appS_none, thenD_ag, agP_nil, agP_cons]
    refine ⟨(_, X'), rfl, l :: Ls.flatten, pX, .inr ⟨l, ds, Ls, by simp, ?_, by simp [hd], by simp [hL], ?_, rfl⟩, nd, ?_⟩
    · show X'[l]? = _
      rw [hb']
      simp [Zl, Ty.w]
    · intro k d x K hdk hxk hKk
      rw [List.getElem?_map] at hxk
      obtain ⟨z, hz, rfl⟩ := Option.map_eq_some_iff.1 hxk
      exact hg k d z K hdk hz hKk
    · intro j hj
      rcases List.mem_cons.1 hj with rfl | hj
      · exact hl
      · exact hge j hj
/-- Ids that grow. -/
def IdLt (xs : List ty_Block.D) : Prop := xs.Pairwise fun a b => a.1 < b.1
theorem blocks_lt {l w : Int} {xs : List ty_Block.D} (h : blocksB l w xs = true) : IdLt xs := by
  unfold blocksB at h
  rw [Bool.and_eq_true] at h
  have h1 : ∀ i (hi : i + 1 < xs.length), (xs[i]'(by omega)).1 < xs[i + 1].1 := fun i hi => by
    have := List.all_eq_true.1 h.2 (i + 1) (List.mem_range.2 hi)
    rw [stepB_pos hi (by omega), Bool.and_eq_true] at this
    exact of_decide_eq_true this.2
  have h2 : ∀ d i (hi : i + d + 1 < xs.length), (xs[i]'(by omega)).1 < xs[i + d + 1].1 := by
    intro d
    induction d with
    | zero => intro i hi; exact h1 i hi
    | succ d ih => intro i hi; exact Int.lt_trans (ih i (by omega)) (h1 (i + d + 1) hi)
  unfold IdLt
  rw [List.pairwise_iff_getElem]
  intro i j hi hj hij
  obtain ⟨d, rfl⟩ : ∃ d, j = i + d + 1 := ⟨j - i - 1, by omega⟩
  exact h2 d i hj
theorem blocks_of {l w : Int} {xs : List ty_Block.D} (h : blocksB l w xs = true) : ∀ b ∈ xs, blockB l w b = true := by
  intro b hb
  obtain ⟨i, hi, rfl⟩ := List.getElem_of_mem hb
  unfold blocksB at h
  rw [Bool.and_eq_true] at h
  have := List.all_eq_true.1 h.2 i (List.mem_range.2 hi)
  unfold stepB at this
  rw [List.getElem?_eq_getElem hi] at this
  rw [Bool.and_eq_true] at this
  exact this.1
def IdsR (xs : List ty_Block.D) : Prop := ∀ x ∈ xs, 0 ≤ x.1 ∧ x.1 ≤ 255
theorem bid_of {l w : Int} {b : ty_Block.D} (h : blockB l w b = true) : 0 ≤ b.1 ∧ b.1 ≤ 255 := by
  unfold blockB bidB at h
  simp only [Bool.and_eq_true] at h
  exact ⟨of_decide_eq_true h.2.1.1, of_decide_eq_true h.2.1.2⟩
theorem ids_of {l w : Int} {xs : List ty_Block.D} (h : blocksB l w xs = true) : IdsR xs := fun x hx => bid_of (blocks_of h x hx)
abbrev FoO (p : Nat) (v : V) (aC : Option Addr) (nC cC : Nat) (i : Nat) : List V := [und, .pointer (some ⟨p, 0, none⟩), und, und, v, und, und, und, und, und, und, und, und, und, und, und, und, und, und, und, und, und, und, und, und, und, und, und, und, und, und, und, und, und, und, und, und, und, und, und, und, und, und, und, und, und, und, und, und, und, und, und, und, und, und, und, und, und, und, und, und, und, und, und, und, und, und, und, und, und, und, und, und, und, und, und, .slice aC nC cC, .int .i64 nC, .int .i64 i, und, und, und, und, und, und, und, und, und, und, und, und, und, und, und, und, und, und, und, und, und, und, und, und, und, und, und, und, und, und, und, und, und, und, und, und, und, und, und, und, und, und, und]
def FoOn (p : Nat) (aC : Option Addr) (nC cC : Nat) (i : Nat) (v : V) : List V := FoO p v aC nC cC i
structure OuI (M : Mem) (all : List ty_Block.D) (v : V) (X : Mem) : Prop where
  pre : M <+: X
  gr : ∃ L, Gr (.sl ty_Block) X [v] all L ∧ L.Nodup ∧ (∀ j ∈ L, M.length ≤ j)
  lt : IdLt all
  rg : IdsR all
def nxO (m : Nat) (w : Int) (nd : Nat) (c : ty_Cell.D) (all : List ty_Block.D) : Option (List ty_Block.D) := if ndOk m w c = true then inO m nd all (ndB (Int.toNat w) c) else none
def RtF (M : Mem) (r : R) : Prop := ∃ fr X', r = some (.ret, fr, X') ∧ resOf fr X' [.tmp 2, .tmp 3] = some (.tuple #[.slice none 0 0, .bool false]) ∧ M <+: X'
def StO (M : Mem) (Lp : List V → Mem → R) (F : V → List V) : Option (List ty_Block.D) → R → Prop
  | some a, r => ∃ v' X', OuI M a v' X' ∧ r = Lp (F v') X'
  | none, r => RtF M r
theorem at_Cell {M : Mem} {a : Option Addr} {n c : Nat} {xs : List ty_Cell.D} (h : Rep (.sl ty_Cell) M [.slice a n c] xs) {i : Nat} (hi : i < xs.length) : ∃ l o u, a = some ⟨l, o, none⟩ ∧ rd1 M l (o + i) = some u ∧ rdn M l (o + i) 1 = some [u] ∧ Rep (.sl ty_Byte) M [u] xs[i] := by
  obtain ⟨_, l, o, rfl, cs, hrd, hrep⟩ := rep_at h hi
  have hl := hrep.len
  have hw1 : ty_Cell.w = 1 := rfl
  rw [hw1, Nat.mul_one] at hrd
  match cs, hl, hrd, hrep with
  | [u], _, hrd, hrep => exact ⟨l, o, u, rfl, rd1_of_one hrd, hrd, hrep⟩
def ndP (w : Nat) (ys : List UInt8) (k : Nat) : List ty_Block.D := (List.range k).map (blkAt w ys)
theorem ndP_len (w : Nat) (ys : List UInt8) (k : Nat) : (ndP w ys k).length = k := by simp [ndP]
theorem nbF_le (w : Nat) (ys : List UInt8) : ∀ (k j : Nat), j ≤ nbF w ys k j ∧ nbF w ys k j ≤ j + k
  | 0, j => by simp [nbF]
  | k + 1, j => by
    have ih := nbF_le w ys k (j + 1)
    unfold nbF
    split <;> omega
theorem nbC_le (w : Nat) (ys : List UInt8) : nbC w ys ≤ 4 := by have := (nbF_le w ys 4 0).2; unfold nbC; omega
theorem ndB_eq (w : Nat) (ys : List UInt8) : ndP w ys (nbC w ys) = ndB w ys := rfl
theorem ndB_len (w : Nat) (ys : List UInt8) : (ndB w ys).length ≤ 4 := by rw [← ndB_eq, ndP_len]; exact nbC_le w ys
def ndX (l w : Int) (ys : List UInt8) : List ty_Block.D := if ndOk l w ys = true then ndB (Int.toNat w) ys else []
theorem pow2_cast (q : Nat) : ((2 : Int) ^ q) = ((2 ^ q : Nat) : Int) := by
  induction q with
  | zero => rfl
  | succ q ih => rw [Int.pow_succ, ih, Nat.pow_succ, Int.natCast_mul]; rfl
theorem leaf_nat {m : Nat} {x : Int} (h : leafB m x = true) : x = ((Int.toNat x : Nat) : Int) ∧ Int.toNat x < 2 ^ m := by
  unfold leafB at h
  simp only [Bool.and_eq_true, decide_eq_true_eq] at h
  obtain ⟨_, h1, h2⟩ := h
  have : ((m : Int).toNat) = m := by omega
  rw [this, pow2_cast] at h2
  omega
/-- Blocks that fit in bytes. -/
def BkOk (w : Nat) (bs : List ty_Block.D) : Prop := ∀ b ∈ bs, (0 ≤ b.1 ∧ b.1 ≤ 255) ∧ (0 ≤ b.2.1 ∧ b.2.1 ≤ 255) ∧ List.length (α := UInt8) b.2.2 = w
theorem bk_of {m w : Nat} {bs : List ty_Block.D} (hm : m ≤ 6) (h : blocksB m w bs = true) : BkOk w bs := fun b hb => by
  have h1 := blocks_of h b hb
  unfold blockB bidB at h1
  simp only [Bool.and_eq_true] at h1
  obtain ⟨_, ⟨h2, h3⟩, h4, h5⟩ := h1
  obtain ⟨h6, h7⟩ := leaf_nat h4
  have h8 : 2 ^ m ≤ 2 ^ 6 := Nat.pow_le_pow_right (by omega) hm
  refine ⟨⟨of_decide_eq_true h2, of_decide_eq_true h3⟩, ?_, by have := of_decide_eq_true h5; omega⟩
  have key : ∀ q : Int, q = ((Int.toNat q : Nat) : Int) → Int.toNat q < 2 ^ m → 0 ≤ q ∧ q ≤ 255 := by
    intro q q1 q2
    omega
  exact key _ h6 h7
theorem blkY_len (b : ty_Block.D) : (blkY b).length = 3 + List.length (α := UInt8) b.2.2 := by
  unfold blkY
  simp only [List.length_cons]
  omega
theorem blksY_len {w : Nat} : ∀ {bs : List ty_Block.D}, BkOk w bs → (blksY bs).length = bs.length * (w + 3)
  | [], _ => by simp [blksY]
  | b :: bs, h => by
    have ih := blksY_len (w := w) (bs := bs) (fun x hx => h x (List.mem_cons_of_mem _ hx))
    have h1 := (h b (by simp)).2.2
    have h2 := blkY_len b
    have e : blksY (b :: bs) = blkY b ++ blksY bs := by simp [blksY]
    rw [e, List.length_append, ih, List.length_cons, Nat.succ_mul]
    omega
theorem grow_app {K w : Nat} {X X2 : Mem} {v : V} {n : Nat} {cs : List V} (h : Grow K w X v n cs) {m bytes : Nat} {ys : List V} {x : Option (V × Mem)} (hx : appS X2 w bytes v m ys = x) (hp : X <+: X2) (hk : K ≤ X.length) (hm : ys.length = m * w) (h1 : ys.all one = true) (hs : (n + m) * bytes ≤ 140737488355328) (hs2 : n + m ≤ 9223372036854775807) :
    ∃ a X3, x = some (.slice a (n + m) (n + m), X3) ∧ Grow K w X3 (.slice a (n + m) (n + m)) (n + m) (cs ++ ys) ∧ Agree X2 X3 (wfs v) ∧ X2.length ≤ X3.length ∧ ∀ b ∈ wfs (.slice a (n + m) (n + m)), b ∈ wfs v ∨ b = X2.length := by
  by_cases h0 : m = 0
  · subst h0
    have hy : ys = [] := List.length_eq_zero_iff.1 (by omega)
    subst hy
    have e : appS X2 w bytes v 0 [] = some (v, X2) := by
      obtain ⟨_, ⟨rfl, rfl⟩ | ⟨l, _, rfl, _⟩⟩ := h <;> simp [appS]
    obtain ⟨a, rfl⟩ := h.shape
    exact ⟨a, X2, hx.symm.trans e, by simpa using h.pre hp, ⟨Nat.le_refl _, fun _ _ _ => rfl⟩, Nat.le_refl _, fun b hb => .inl hb⟩
  · have h2 := h.pre hp
    have e := h2.app hm (by omega) h1 hs hs2
    refine ⟨_, _, hx.symm.trans e, h2.next hm (by have := hp.length_le; omega) [], kill_agree _ _ _, by rw [List.length_append, kill_len]; simp, fun b hb => .inr (by simpa [wfs] using hb)⟩
theorem blksY_succ {bs : List ty_Block.D} {i : Nat} (hi : i < bs.length) : blksY (bs.take (i + 1)) = blksY (bs.take i) ++ blkY bs[i] := by
  unfold blksY
  rw [List.take_succ_eq_append_getElem hi, List.flatMap_append]
  simp
theorem byte_int {n : Int} (h : 0 ≤ n ∧ n ≤ 255) : byteV (UInt8.ofNat (Int.toNat n)) = .int .u8 n ∧ IntKind.u8.wrap n = n := by
  rw [byteV_len (by omega), Int.toNat_of_nonneg h.1]
  exact ⟨rfl, wrap_u8 (by omega) (by omega)⟩
theorem byteV_one : byteV 1 = .int .u8 1 := rfl
def NoI (M0 : Mem) (bs : List ty_Block.D) (v : V) (X : Mem) : Prop := M0 <+: X ∧ Grow M0.length 1 X v (blksY bs).length ((blksY bs).map byteV)
theorem rep_cells {t : Ty} {M : Mem} {enc : t.D → List V} (henc : ∀ (cs : List V) (x : t.D), Rep t M cs x → cs = enc x) {a : Option Addr} {n c : Nat} {xs : List t.D} (h : Rep (.sl t) M [.slice a n c] xs) {k c2 : Nat} (hk : k ≤ xs.length) :
    sliceCells M t.w (.slice a k c2) = some (k, ((xs.take k).map enc).flatten) := by
  rcases h with ⟨h, rfl⟩ | ⟨l', o', c', blk, css, e, h2, h3, h4, h5, h6, h7⟩
  · simp at h hk
    obtain ⟨rfl, rfl, rfl⟩ := h
    subst hk
    simp [sliceCells]
  · simp only [List.cons.injEq, Value.slice.injEq, and_true] at e
    obtain ⟨rfl, rfl, rfl⟩ := e
    by_cases hk0 : k = 0
    · subst hk0
      simp [sliceCells]
    have hw := Rep.css_w h5 h6
    have hcs : css = xs.map enc := by
      apply List.ext_getElem (by simp [h5])
      intro i h1 h2
      rw [List.getElem_map]
      exact henc _ _ (h6 i _ _ (by simp [h1]) (by simp))
    have hlen := flat_len hw
    have hpos := t.w_pos
    have h3' : blk.st = 1 ∨ blk.st = 2 := by
      rcases h3 with h3 | h3 | h3
      · exact .inl h3
      · exact .inr h3
      · subst h3; simp at hk; omega
    obtain ⟨r, hr⟩ := h7
    have hdl : css.flatten.length + r.length = blk.cells.length - o' := by rw [← List.length_drop, ← hr, List.length_append]
    have hle : k * t.w ≤ css.length * t.w := Nat.mul_le_mul_right _ (by omega)
    have hpos2 : 0 < k * t.w := Nat.mul_pos (by omega) hpos
    unfold sliceCells
    simp only
    rw [if_neg (by omega)]
    unfold rdn
    rw [h2]
    simp only
    rw [if_pos ⟨h3', by omega⟩]
    simp only [Option.map_some]
    congr 2
    rw [← hr, List.take_append_of_le_length (by omega)]
    have e2 : css = (xs.take k).map enc ++ (xs.drop k).map enc := by rw [hcs, ← List.map_append, List.take_append_drop]
    have e3 : (((xs.take k).map enc).flatten).length = k * t.w := by
      rw [flat_len (w := t.w) (fun cs hc => hw cs (by rw [e2]; exact List.mem_append_left _ hc))]
      simp [Nat.min_eq_left hk]
    rw [e2, List.flatten_append, ← e3, List.take_left']
    rfl
theorem flat_Byte (xs : List ty_Byte.D) : (xs.map enc_Byte).flatten = xs.map byteV := by
  induction xs with
  | nil => rfl
  | cons x xs ih => simp [ih]
theorem cells_Byte {M : Mem} {v : V} {ys : List UInt8} (h : Rep (.sl ty_Byte) M [v] ys) : ∃ a c, v = .slice a ys.length c ∧ sliceCells M 1 (.slice a ys.length c) = some (ys.length, ys.map byteV) := by
  obtain ⟨a, c, rfl⟩ := h.slen
  have := rep_cells (enc := enc_Byte) (fun cs x hx => hx) h (k := ys.length) (Nat.le_refl _) (c2 := c)
  rw [List.take_length] at this
  refine ⟨a, c, rfl, ?_⟩
  rw [← flat_Byte]
  exact this
theorem hits_ne {xs ys : List Nat} (h : ∀ x ∈ xs, ∀ y ∈ ys, x ≠ y) : hits xs ys = false := by
  unfold hits
  rw [List.any_eq_false]
  intro x hx
  simp only [Bool.not_eq_true]
  rw [List.any_eq_false]
  intro y hy
  have := h x hx y hy
  simp [this]
set_option maxHeartbeats 1000000 in
theorem l_impl_nodeOf_0 (M0 : Mem) (w : Nat) (a : Option Addr) (c : Nat) (bs : List ty_Block.D) (h : Rep (.sl ty_Block) M0 [.slice a bs.length c] bs) (hn : bs.length ≤ 1000) (hw : w ≤ 200) (hk : BkOk w bs) (v : V) (Z : Mem) (hZ : NoI M0 [] v Z) :
    ∃ v' X', NoI M0 bs v' X' ∧ lp (aCall T0) K_impl_nodeOf_0 L_impl_nodeOf_0 [und, .int .i64 (w : Int), und, und, und, v, und, und, .slice a bs.length c, .int .i64 bs.length, .int .i64 (0 : Nat), und, und, und, und, und, und, und, und, und, und, und, und, und, und, und, und, und, und, und, und, und, und, und, und] Z = lp (aCall T0) K_impl_nodeOf_0 L_impl_nodeOf_0 [und, .int .i64 (w : Int), und, und, und, v', und, und, .slice a bs.length c, .int .i64 bs.length, .int .i64 bs.length, und, und, und, und, und, und, und, und, und, und, und, und, und, und, und, und, und, und, und, und, und, und, und, und] X' := by
  have key := loop_to (call := aCall T0) (K := K_impl_nodeOf_0) (L := L_impl_nodeOf_0) (fun i v X => NoI M0 (bs.take i) v X) (fun i v => [und, .int .i64 (w : Int), und, und, und, v, und, und, .slice a bs.length c, .int .i64 bs.length, .int .i64 i, und, und, und, und, und, und, und, und, und, und, und, und, und, und, und, und, und, und, und, und, und, und, und, und]) (n := bs.length) ?_ 0 v Z (by omega) (by simpa using hZ)
  · rw [List.take_length] at key
    exact key
  intro i v X hi ⟨pX, hg⟩
  have e6 : IntKind.i64.wrap ((i : Int) + 1) = i + 1 := wrap_i64 (by omega) (by omega)
  have hkt : BkOk w (bs.take i) := fun b hb => hk b (List.mem_of_mem_take hb)
  have hlen := blksY_len hkt
  have hle : (bs.take i).length * (w + 3) ≤ 1000 * 203 := Nat.mul_le_mul (by rw [List.length_take]; omega) (by omega)
  obtain ⟨l, o, u, rfl, _, _, _, hrd, _, _, qu, _⟩ := at_Block (h.mono pX) hi
  obtain ⟨_, _, u9, e9, _, _, _, hrd9, _, _, hq0, _⟩ := at_Block h hi
  cases e9
  have hu9 : u9 = u := by have := rn_pre pX hrd9; rw [hrd] at this; simp at this; exact this.symm
  subst hu9
  have hki := hk _ (List.getElem_mem hi)
  unfold NoI
  rw [blksY_succ hi]
  generalize bs[i] = b at *
  generalize blksY (bs.take i) = ys at *
  obtain ⟨b1, b2, b3⟩ := b
  simp only at hrd qu hki hq0
  obtain ⟨h1, h2, h3⟩ := hki
  obtain ⟨y1, z1⟩ := byte_int h1
  obtain ⟨y2, z2⟩ := byte_int h2
  obtain ⟨ua, uc, hu, hsc⟩ := cells_Byte qu
  cases hu
  have hrd' := fun N : Mem => rn_pre (List.prefix_append X N) hrd
  obtain ⟨av, rfl⟩ := hg.shape
  have hll := hg.lt
  rw [S_impl_nodeOf_0]; unfold B_impl_nodeOf_0; simp [thenD_pp, sliceCells_sl, sliceCells_z, sliceCells_nil, take_full, appS_sl, appK_ok, appS_none, thenD_ag, agP_nil, agP_cons, hi, hrd, hrd', zeroCells, z1, z2]
  generalize hy : appS _ _ _ _ _ _ = xhy
  obtain ⟨a2, X2, rfl, hg2, ag2, hl2, hw2⟩ := grow_app hg hy (List.prefix_append _ _) (by have := pX.length_le; omega) (by rfl) (by rfl) (by omega) (by omega)
  clear hy
  have hpX : M0 <+: X2 := ag2.pre (pf_app pX) hg.ge
  have hbx : X2[X.length]? = some ⟨[.int .i64 b1, .int .i64 b2, .slice ua (List.length (α := UInt8) b3) uc], 1, 2⟩ := ag2.get (by simp) (fun hm => by have := hll _ hm; omega)
  have hr2 : rd1 X2 X.length 2 = some (.slice ua (List.length (α := UInt8) b3) uc) := rd1_of_rdn (rdn_box hbx rfl) (k := 2) rfl
  have hA : ∀ zs : List Nat, (∀ y ∈ zs, y = X.length) → hits (wfs (.slice av ys.length ys.length)) zs = false := fun zs hz => hits_ne fun x hx y hy e => by
    have := hll x hx
    have := hz y hy
    omega
  have hA2 := hA [X.length, X.length] (by simp)
  have hB : hits [X.length] (wfs (.slice av ys.length ys.length)) = false := hits_ne fun x hx y hy e => by
    have := hll y hy
    simp at hx
    omega
  have hC : hits (wfs (.slice a2 (ys.length + 3) (ys.length + 3))) [X.length, X.length, X.length] = false := hits_ne fun x hx y hy e => by
    simp at hy
    rcases hw2 x hx with h | h
    · have := hll x h; omega
    · simp at h; omega
  have qu2 : Rep (.sl ty_Byte) X2 [.slice ua (List.length (α := UInt8) b3) uc] b3 := (hq0 : Rep (.sl ty_Byte) M0 _ _).mono hpX
  obtain ⟨_, _, hu2, hsc2⟩ := cells_Byte qu2
  cases hu2
  simp [thenD_pp, sliceCells_sl, sliceCells_z, sliceCells_nil, take_full, appS_sl, appK_ok, appS_none, thenD_ag, agP_nil, agP_cons, thenD_agree, ag2, hA2, hB, hr2, hsc2]
  generalize hy : appS _ _ _ _ _ _ = xhy
  obtain ⟨a3, X3, rfl, hg3, ag3, hl3, hw3⟩ := grow_app hg2 hy (List.prefix_refl _) (by have := hpX.length_le; omega) (by simp) (map_byte_all _) (by omega) (by omega)
  clear hy
  have hpX3 : M0 <+: X3 := ag3.pre hpX hg2.ge
  simp [thenD_pp, sliceCells_sl, sliceCells_z, sliceCells_nil, take_full, appS_sl, appK_ok, appS_none, thenD_ag, agP_nil, agP_cons, thenD_agree, ag3, hC, e6]
  refine ⟨_, X3, ⟨hpX3, ?_⟩, rfl⟩
  have hl4 : (blkY (b1, b2, b3)).length = 3 + List.length (α := UInt8) b3 := blkY_len _
  have hc4 : (blkY (b1, b2, b3)).map byteV = [.int .u8 1, .int .u8 b1, .int .u8 b2] ++ List.map byteV b3 := by
    unfold blkY
    simp only [List.map_cons, byteV_one, y1, y2]
    rfl
  rw [hl4, hc4]
  simpa [Nat.add_assoc] using hg3
def BG (M0 X : Mem) (v : V) (ys : List UInt8) : Prop := ∃ n, ys.length = n ∧ M0 <+: X ∧ Grow M0.length 1 X v n (ys.map byteV)
theorem BG.le {M M0 X : Mem} {v : V} {ys : List UInt8} (h : BG M0 X v ys) (hp : M <+: M0) : BG M X v ys := by
  obtain ⟨n, h1, h2, h3⟩ := h
  exact ⟨n, h1, hp.trans h2, h3.le hp.length_le⟩
theorem BG.pre {M0 X : Mem} {v : V} {ys : List UInt8} (h : BG M0 X v ys) : M0 <+: X := by
  obtain ⟨n, h1, h2, h3⟩ := h
  exact h2
theorem BG.sl {M0 X : Mem} {v : V} {ys : List UInt8} (h : BG M0 X v ys) : ∃ a n, v = .slice a n n ∧ ys.length = n := by
  obtain ⟨n, h1, h2, h3⟩ := h
  obtain ⟨a, e⟩ := h3.shape
  exact ⟨a, n, e, h1⟩
/-- A slice of bytes made anew. -/
def Bytes (M : Mem) (ys : List UInt8) (p : V × Mem) : Prop := BG M p.2 p.1 ys
theorem Bytes.get {M X : Mem} {v : V} {ys : List UInt8} {m : Nat} (h : Bytes M ys (v, X)) (hm : ys.length = m) : M <+: X ∧ (∃ a, v = .slice a m m) ∧ sliceCells X 1 v = some (m, ys.map byteV) := by
  obtain ⟨n, rfl, hp, hg⟩ := h
  subst hm
  exact ⟨hp, hg.shape, hg.cells⟩
theorem bg_app {M0 X X1 : Mem} {v : V} {n m : Nat} {ys zs : List UInt8} (hp : M0 <+: X) (hg : Grow M0.length 1 X v n (ys.map byteV)) (hn : ys.length = n) (hx : X <+: X1) (hz : zs.length = m) (h0 : 0 < m) (hs : n + m ≤ 1000000000) :
    appS X1 1 1 v m (zs.map byteV) = some (.slice (some ⟨X1.length, 0, none⟩) (n + m) (n + m), kill X1 v ++ [⟨(ys ++ zs).map byteV, 1, 2⟩]) ∧ ∀ N, BG M0 (kill X1 v ++ ⟨(ys ++ zs).map byteV, 1, 2⟩ :: N) (.slice (some ⟨X1.length, 0, none⟩) (n + m) (n + m)) (ys ++ zs) := by
  have g := hg.pre hx
  have a1 := g.app (m := m) (bytes := 1) (ys := zs.map byteV) (by simp [hz]) h0 (map_byte_all _) (by omega) (by omega)
  rw [List.map_append]
  refine ⟨a1, fun N => ⟨n + m, by rw [List.length_append, hn, hz], pf_app (pf_kill hg.ge (hp.trans hx)), ?_⟩⟩
  rw [List.map_append]
  exact g.next (m := m) (ys := zs.map byteV) (by simp [hz]) (by have := (hp.trans hx).length_le; omega) N
/-- The zeros at the end. -/
theorem bg_pad {M0 X : Mem} {v : V} {n : Nat} {ys : List UInt8} (hp : M0 <+: X) (hg : Grow M0.length 1 X v n (ys.map byteV)) (hn : ys.length = n) (m : Nat) (hs : n + m ≤ 1000000000) :
    ∃ v' X', appS X 1 1 v m (zc (.int .u8 0) m) = some (v', X') ∧ BG M0 X' v' (ys ++ List.replicate m 0) := by
  by_cases h0 : m = 0
  · subst h0
    refine ⟨v, X, ?_, n, by simpa using hn, hp, by simpa using hg⟩
    obtain ⟨a, rfl⟩ := hg.shape
    unfold appS
    rcases hg.2 with ⟨h1, h2⟩ | ⟨l, _, h1, _⟩
    · cases h1; rfl
    · cases h1; rfl
  · obtain ⟨a1, a2⟩ := bg_app (X1 := X) (m := m) (zs := List.replicate m 0) hp hg hn (List.prefix_refl _) (by simp) (by omega) hs
    rw [map_byte_rep] at a1
    exact ⟨_, _, a1, a2 []⟩
theorem bg_padz {M0 X : Mem} {v : V} {ys : List UInt8} (h : BG M0 X v ys) {n : Nat} (hn : ys.length = n) (m : Nat) (hs : n + m ≤ 1000000000) :
    ∃ v' X', appS X 1 1 v m (zc (.int .u8 0) m) = some (v', X') ∧ BG M0 X' v' (ys ++ List.replicate m 0) := by
  obtain ⟨n', h1, h2, h3⟩ := h
  exact bg_pad h2 h3 h1 m (by omega)
theorem c_impl_nodeOf (M : Mem) (v : V) (bs : List ty_Block.D) (w : Nat) (h : Rep (.sl ty_Block) M [v] bs) (hn : bs.length ≤ 4) (hw : w ≤ 200) (hk : BkOk w bs) : Sat (aCall T0 F_impl_nodeOf [v, .int .i64 (w : Int)] M) (Bytes M (ndY w bs)) := by
  obtain ⟨a, c, rfl⟩ := h.slen
  obtain ⟨v', X', ⟨pX, hg⟩, e⟩ := l_impl_nodeOf_0 M w a c bs h (by omega) hw hk (.slice none 0 0) M ⟨List.prefix_refl _, Grow.nil⟩
  simp only [Int.natCast_zero, Int.ofNat_zero] at e
  have hlen := blksY_len hk
  have hle : bs.length * (w + 3) ≤ 4 * (w + 3) := Nat.mul_le_mul_right _ hn
  have e1 : IntKind.i64.wrap ((w : Int) + 3) = (w : Int) + 3 := wrap_i64 (by omega) (by omega)
  have e2 : IntKind.i64.wrap (4 * ((w : Int) + 3)) = 4 * ((w : Int) + 3) := wrap_i64 (by omega) (by omega)
  have e3 : IntKind.i64.wrap (4 * ((w : Int) + 3) - ((blksY bs).length : Int)) = ((4 * (w + 3) - (blksY bs).length : Nat) : Int) := by rw [wrap_i64 (by omega) (by omega)]; omega
  obtain ⟨v2, X2, q, g2⟩ := bg_padz (⟨_, rfl, pX, hg⟩ : BG M X' v' (blksY bs)) rfl (4 * (w + 3) - (blksY bs).length) (by omega)
  obtain ⟨av, rfl⟩ := hg.shape
  obtain ⟨n2, _, _, hg2⟩ := id g2
  obtain ⟨a2, rfl⟩ := hg2.shape
  have hbd1 : (((4 * (w + 3) - (blksY bs).length : Nat) : Int)) ≤ 9223372036854775807 := by omega
  have hbd2 : (((4 * (w + 3) - (blksY bs).length : Nat) : Int)) ≤ 281474976710656 := by omega
  generalize hm : 4 * (w + 3) - (blksY bs).length = m at *
  rw [aCall_eq T_impl_nodeOf]; unfold A_impl_nodeOf C_impl_nodeOf; simp [thenD_pp, sliceCells_sl, sliceCells_z, sliceCells_nil, take_full, appS_sl, appK_ok, appS_none, thenD_ag, agP_nil, agP_cons, e]
  rw [S_impl_nodeOf_0]; unfold B_impl_nodeOf_0; simp [thenD_pp, sliceCells_sl, sliceCells_z, sliceCells_nil, take_full, appS_sl, appK_ok, appS_none, thenD_ag, agP_nil, agP_cons, e1, e2, e3, q, hbd1, hbd2]
  exact ⟨(_, X2), rfl, by unfold ndY; rw [hm]; exact g2⟩
theorem rep_blk {t : Ty} {M : Mem} {l o n c : Nat} {xs : List t.D} (h : Rep (.sl t) M [.slice (some ⟨l, o, none⟩) n c] xs) : ∃ blk, M[l]? = some blk ∧ blk.w = t.w ∧ n = xs.length := by
  rcases h with ⟨h, _⟩ | ⟨l', o', c', blk, css, e, h2, h3, h4, h5, h6, h7⟩
  · simp at h
  · simp only [List.cons.injEq, Value.slice.injEq, Option.some.injEq, Addr.mk.injEq, and_true, true_and] at e
    obtain ⟨⟨rfl, rfl⟩, rfl, rfl⟩ := e
    exact ⟨blk, h2, h4, rfl⟩
def CbI (M : Mem) (v : V) (xs : List ty_Block.D) (X : Mem) : Prop := ∃ L, M <+: X ∧ Gr (.sl ty_Block) X [v] xs L ∧ L.Nodup ∧ ∀ l ∈ L, M.length ≤ l
theorem wf_mk {z : Int} (h1 : -9223372036854775808 ≤ z) (h2 : z ≤ 9223372036854775807) : (Lit.int .i64 z).wf = true := by
  show (decide (_ ≤ z) && decide (z ≤ _)) = true
  simp only [Bool.and_eq_true, decide_eq_true_eq]
  exact ⟨h1, h2⟩
def rfS : V → List Nat
  | .slice (some a) _ _ => [a.block]
  | _ => []
theorem rfp_slc2 (fr : List V) (w : Nat) (x : Opd) (lo hi : Option Opd) : rfp fr (.slc w x lo hi) = rfS (ev fr x) := by
  unfold rfp rfS
  rfl
theorem rfS_some (l o n c : Nat) : rfS (.slice (some ⟨l, o, none⟩) n c) = [l] := rfl
theorem nbF_one (w : Nat) (ys : List UInt8) : ∀ (k j i : Nat), j ≤ i → i < nbF w ys k j → ys.getD (i * (w + 3)) 0 = 1
  | 0, j, i, h1, h2 => by simp [nbF] at h2; omega
  | k + 1, j, i, h1, h2 => by
    unfold nbF at h2
    split at h2
    · rename_i h
      by_cases e : i = j
      · subst e; exact h
      · exact nbF_one w ys k (j + 1) i (by omega) h2
    · omega
theorem ndP_succ (w : Nat) (ys : List UInt8) (k : Nat) : ndP w ys (k + 1) = ndP w ys k ++ [blkAt w ys k] := by
  unfold ndP
  rw [List.range_succ, List.map_append]
  rfl
theorem byte_at {M : Mem} {l o n c : Nat} {ys : List UInt8} (h : Rep (.sl ty_Byte) M [.slice (some ⟨l, o, none⟩) n c] ys) {i : Nat} (hi : i < ys.length) : rd1 M l (o + i) = some (.int .u8 ((ys.getD i 0).toNat : Int)) := by
  obtain ⟨l', o', e, _, hr⟩ := at_Byte h hi
  cases e
  have : ys.getD i 0 = ys[i] := by rw [List.getD_eq_getElem?_getD, List.getElem?_eq_getElem hi]; rfl
  rw [hr, this]
  rfl
theorem rep_sub {M : Mem} {b o n c : Nat} {ys : List UInt8} (h : Rep (.sl ty_Byte) M [.slice (some ⟨b, o, none⟩) n c] ys) (l k : Nat) (hk : l + k ≤ ys.length) (c2 : Nat) : Rep (.sl ty_Byte) M [.slice (some ⟨b, o + l, none⟩) k c2] ((ys.drop l).take k) := by
  rcases h with ⟨e, rfl⟩ | ⟨l', o', c', blk, css, e, h2, h3, h4, h5, h6, h7⟩
  · simp at e
  · simp only [List.cons.injEq, Value.slice.injEq, Option.some.injEq, Addr.mk.injEq, and_true] at e
    obtain ⟨⟨rfl, rfl⟩, rfl, rfl⟩ := e
    have he : css = ys.map enc_Byte := by
      apply List.ext_getElem (by simp [h5])
      intro i p q
      have hx : i < ys.length := by omega
      have := h6 i css[i] ys[i] (List.getElem?_eq_getElem p) (List.getElem?_eq_getElem hx)
      rw [List.getElem_map]
      exact this
    rw [he, flat_Byte] at h7
    refine .inr ⟨b, o + l, c2, blk, ((ys.drop l).take k).map enc_Byte, ?_, h2, ?_, h4, ?_, ?_, ?_⟩
    · have : ((ys.drop l).take k).length = k := by rw [List.length_take, List.length_drop]; omega
      rw [this]
    · rcases h3 with h3 | h3 | h3
      · exact .inl h3
      · exact .inr (.inl h3)
      · exact .inr (.inr (by subst h3; simp))
    · rw [List.length_map]
    · intro i ds x hd hx
      rw [List.getElem?_map, hx] at hd
      cases hd
      rfl
    · rw [flat_Byte, List.map_take, List.map_drop, ← List.drop_drop]
      obtain ⟨t, ht⟩ := h7
      rw [← ht, List.drop_append]
      exact (List.take_prefix _ _).trans (List.prefix_append _ _)
set_option maxHeartbeats 2000000 in
theorem l_impl_nodeRead_0 (M : Mem) (a : Option Addr) (c : Nat) (ys : List UInt8) (w : Nat) (lg : V) (h : Rep (.sl ty_Byte) M [.slice a ys.length c] ys) (hw : w ≤ 200) (hw1 : 1 ≤ w) (hl : ys.length = 4 * (w + 3)) (v : V) (Z : Mem) (hZ : CbI M v [] Z) :
    ∃ v' X', CbI M v' (ndB w ys) X' ∧ lp (aCall T0) K_impl_nodeRead_0 L_impl_nodeRead_0 [.slice a ys.length c, lg, .int .i64 (w : Int), und, und, und, und, und, v, .int .i64 ((0 * (w + 3) : Nat) : Int), und, und, und, und, und, und, und, und, und, und, und, und, und, und, und, und, und, und, und, und, und, und, und, und, und, und, und, und, und, und, und, und, und, und, und, und, und, und, und, und, und, und, und, und, und, und, und, und, und, und, und, und, und, und, und, und, und, und, und, und, und, und, und, und, und, und, und, und, und, und] Z = lp (aCall T0) K_impl_nodeRead_0 L_impl_nodeRead_0 [.slice a ys.length c, lg, .int .i64 (w : Int), und, und, und, und, und, v', .int .i64 ((nbC w ys * (w + 3) : Nat) : Int), und, und, und, und, und, und, und, und, und, und, und, und, und, und, und, und, und, und, und, und, und, und, und, und, und, und, und, und, und, und, und, und, und, und, und, und, und, und, und, und, und, und, und, und, und, und, und, und, und, und, und, und, und, und, und, und, und, und, und, und, und, und, und, und, und, und, und, und, und, und] X' := by
  refine loop_to (call := aCall T0) (K := K_impl_nodeRead_0) (L := L_impl_nodeRead_0) (fun i v X => CbI M v (ndP w ys i) X) (fun i v => [.slice a ys.length c, lg, .int .i64 (w : Int), und, und, und, und, und, v, .int .i64 ((i * (w + 3) : Nat) : Int), und, und, und, und, und, und, und, und, und, und, und, und, und, und, und, und, und, und, und, und, und, und, und, und, und, und, und, und, und, und, und, und, und, und, und, und, und, und, und, und, und, und, und, und, und, und, und, und, und, und, und, und, und, und, und, und, und, und, und, und, und, und, und, und, und, und, und, und, und, und]) (n := nbC w ys) ?_ 0 v Z (by omega) (by simpa [ndP] using hZ)
  intro i v X hi ⟨L, pX, g0, nd, ge0⟩
  have hi4 := nbC_le w ys
  have hone := nbF_one w ys 4 0 i (by omega) hi
  have hbnd : i * (w + 3) + (w + 3) ≤ 4 * (w + 3) := by rw [← Nat.succ_mul]; exact Nat.mul_le_mul_right _ (by omega)
  rw [ndP_succ]
  have hlen := ndP_len w ys i
  generalize ndP w ys i = xs at g0 hlen ⊢
  obtain ⟨l, o, rfl, _, _⟩ := at_Byte h (i := 0) (by omega)
  have hlM : l < M.length := by obtain ⟨blk, hbk, _⟩ := rep_blk h; exact get_lt hbk
  have b0 := r1_pre pX (byte_at h (i := i * (w + 3)) (by omega))
  have b1 := r1_pre pX (byte_at h (i := i * (w + 3) + 1) (by omega))
  have b2 := r1_pre pX (byte_at h (i := i * (w + 3) + 2) (by omega))
  rw [hone] at b0
  have hnxt : (i + 1) * (w + 3) = i * (w + 3) + (w + 3) := Nat.succ_mul _ _
  have hsub := rep_sub (h.mono pX) (i * (w + 3) + 3) w (by omega)
  have hbd : blkAt w ys i = (((ys.getD (i * (w + 3) + 1) 0).toNat : Int), ((ys.getD (i * (w + 3) + 2) 0).toNat : Int), (ys.drop (i * (w + 3) + 3)).take w) := rfl
  have hdl : List.length (α := UInt8) ((ys.drop (i * (w + 3) + 3)).take w) = w := by rw [List.length_take, List.length_drop]; omega
  have n1 : (ys.getD (i * (w + 3) + 1) 0).toNat < 256 := UInt8.toNat_lt _
  have n2 : (ys.getD (i * (w + 3) + 2) 0).toNat < 256 := UInt8.toNat_lt _
  rw [hbd]
  generalize (ys.drop (i * (w + 3) + 3)).take w = dat at *
  generalize (ys.getD (i * (w + 3) + 1) 0).toNat = q1 at *
  generalize (ys.getD (i * (w + 3) + 2) 0).toNat = q2 at *
  generalize hat : i * (w + 3) = at0 at *
  have e1 : IntKind.i64.wrap ((at0 : Int) + 1) = (at0 : Int) + 1 := wrap_i64 (by omega) (by omega)
  have e2 : IntKind.i64.wrap ((at0 : Int) + 2) = (at0 : Int) + 2 := wrap_i64 (by omega) (by omega)
  have e3 : IntKind.i64.wrap ((at0 : Int) + 3) = (at0 : Int) + 3 := wrap_i64 (by omega) (by omega)
  have e4 : IntKind.i64.wrap ((at0 : Int) + 3 + (w : Int)) = (at0 : Int) + 3 + (w : Int) := wrap_i64 (by omega) (by omega)
  have e5 : IntKind.i64.wrap ((w : Int) + 3) = (w : Int) + 3 := wrap_i64 (by omega) (by omega)
  have e6 : IntKind.i64.wrap ((at0 : Int) + ((w : Int) + 3)) = (at0 : Int) + ((w : Int) + 3) := wrap_i64 (by omega) (by omega)
  have d1 : (0 : Int) ≤ (at0 : Int) + 1 ∧ (at0 : Int) + 1 < (ys.length : Int) := by omega
  have d2 : (0 : Int) ≤ (at0 : Int) + 2 ∧ (at0 : Int) + 2 < (ys.length : Int) := by omega
  have d3 : (0 : Int) ≤ (at0 : Int) + 3 ∧ (at0 : Int) + 3 ≤ (at0 : Int) + 3 + (w : Int) ∧ ((at0 : Int) + 3 + (w : Int) ≤ (ys.length : Int) ∨ (at0 : Int) + 3 + (w : Int) ≤ (c : Int)) := by omega
  have d5 : ((at0 : Int) + 2).toNat = at0 + 2 := by omega
  have d6 : ((at0 : Int) + 3).toNat = at0 + 3 := by omega
  have d7 : ((at0 : Int) + 1).toNat = at0 + 1 := by omega
  have d4 : ((at0 : Int) + 3 + (w : Int) - ((at0 : Int) + 3)).toNat = w := by omega
  have c1 : IntKind.i64.wrap (q1 : Int) = q1 := wrap_i64 (by omega) (by omega)
  have c2 : IntKind.i64.wrap (q2 : Int) = q2 := wrap_i64 (by omega) (by omega)
  have g1 : at0 < ys.length := by omega
  have g2 : at0 + 1 < ys.length := by omega
  have g3 : at0 + 2 < ys.length := by omega
  have g4 : at0 + 3 + w ≤ ys.length := by omega
  obtain ⟨blk, hbk, hbw⟩ := rep_blk h
  have hbX := get_pre pX hbk
  obtain ⟨av, rfl⟩ := g0.shape
  have hwL : ∀ b ∈ wfs (.slice av xs.length xs.length), M.length ≤ b := by
    obtain ⟨_, _, hw⟩ := g0.gr (K := 0) (by simp)
    exact fun b hb => ge0 b (hw b hb)
  have hbw1 : blk.w = 1 := hbw.1
  have s1 := clone_sl (M := X) T_bytes_Clone (t := .u8) fl_Byte rfl (hsub (max ys.length c - (at0 + 3))) (by omega) (by omega)
  have hh2 : ∀ zs : List Nat, (∀ y ∈ zs, y = l) → hits (wfs (.slice av xs.length xs.length)) zs = false := fun zs hy => hits_ge (K := M.length) hwL (fun y h => by rw [hy y h]; exact hlM)
  have t3 := hh2 [l, l, l] (by simp)
  rw [S_impl_nodeRead_0]; unfold B_impl_nodeRead_0; simp [thenD_pp, sliceCells_sl, sliceCells_z, sliceCells_nil, take_full, appS_sl, appK_ok, appS_none, thenD_ag, agP_nil, agP_cons, b0, b1, b2, g1, d1, d2, d3, d4, d5, d6, d7, e1, e2, e3, e4, c1, c2, hbX, hbw1, rfp_slc2, rfS_some]
  generalize hx : aCall T0 F_bytes_Clone _ _ = xhx
  obtain ⟨v1, X3, rfl, K2, p3, gb, ndb, geb⟩ := of_call hx s1
  clear hx
  simp only at p3 gb geb
  obtain ⟨a7, rfl⟩ := gb.shape
  simp [thenD_pp, sliceCells_sl, sliceCells_z, sliceCells_nil, take_full, appS_sl, appK_ok, appS_none, thenD_ag, agP_nil, agP_cons, thenD_pre, p3, zeroCells]
  generalize hy : appS _ _ _ _ _ _ = xhy
  have hdl2 : List.length (α := UInt8) dat = w := hdl
  have w0 : (Lit.int .i64 (q1 : Int)).wf = true := wf_mk (by omega) (by omega)
  have w1 : (Lit.int .i64 (q2 : Int)).wf = true := wf_mk (by omega) (by omega)
  obtain ⟨l4, X4, L', rfl, g4, ag2, len2, hw4, nd4, sub4, hl4⟩ := g0.app (t := ty_Block) hy (p3.trans (List.prefix_append _ _)) (gr_Block (x := ((q1 : Int), (q2 : Int), dat)) w0 w1 (gb.grow (List.prefix_append _ _))) (fun j hj => geb j hj) nd ndb (by rw [hlen]; omega) (by rw [hlen]; omega)
  clear hy
  have pX4 : M <+: X4 := ag2.pre (pf_app (pX.trans p3)) hwL
  simp [thenD_pp, sliceCells_sl, sliceCells_z, sliceCells_nil, take_full, appS_sl, appK_ok, appS_none, thenD_ag, agP_nil, agP_cons, thenD_agree, ag2, t3, e5, e6]
  have hfin : ((i : Int) + 1) * ((w : Int) + 3) = (at0 : Int) + ((w : Int) + 3) := by
    have e9 : ((i * (w + 3) : Nat) : Int) = (i : Int) * ((w : Int) + 3) := by rw [Int.natCast_mul]; rfl
    rw [Int.add_mul, Int.one_mul, ← e9, hat]
  refine ⟨_, _, ⟨L', pX4, g4, nd4, fun j hj => ?_⟩, ?_⟩
  · have hx3 := p3.length_le
    have hpl := pX.length_le
    rcases sub4 j hj with h | h | h
    · exact ge0 j h
    · have := geb j h; omega
    · simp at hl4; omega
  · rw [hfin]
def NrV (M : Mem) (ok : Bool) (bs : List ty_Block.D) (p : V × Mem) : Prop := ∃ r L, p.1 = .tuple #[r, .bool ok] ∧ M <+: p.2 ∧ Gr (.sl ty_Block) p.2 [r] bs L ∧ L.Nodup ∧ ∀ j ∈ L, M.length ≤ j
theorem nbF_not (w : Nat) (ys : List UInt8) : ∀ (k j : Nat), nbF w ys k j < j + k → ¬ ys.getD (nbF w ys k j * (w + 3)) 0 = 1
  | 0, j, h => by simp [nbF] at h
  | k + 1, j, h => by
    unfold nbF at h ⊢
    split
    · rename_i h1
      rw [if_pos h1] at h
      exact nbF_not w ys k (j + 1) (by omega)
    · rename_i h1
      exact h1
theorem exit_byte {M : Mem} {l o c : Nat} {ys : List UInt8} {w : Nat} (h : Rep (.sl ty_Byte) M [.slice (some ⟨l, o, none⟩) ys.length c] ys) (hl : ys.length = 4 * (w + 3)) :
    nbC w ys * (w + 3) = ys.length ∨ (nbC w ys * (w + 3) < ys.length ∧ ∃ b : Nat, rd1 M l (o + nbC w ys * (w + 3)) = some (.int .u8 (b : Int)) ∧ ¬ (b : Int) = 1) := by
  by_cases h4 : nbC w ys = 4
  · left; rw [h4, hl]
  · right
    have hle := nbC_le w ys
    have hlt : nbC w ys * (w + 3) + (w + 3) ≤ 4 * (w + 3) := by rw [← Nat.succ_mul]; exact Nat.mul_le_mul_right _ (by omega)
    refine ⟨by omega, (ys.getD (nbC w ys * (w + 3)) 0).toNat, byte_at h (by omega), ?_⟩
    have hn := nbF_not w ys 4 0 (by show nbC w ys < 0 + 4; omega)
    intro e
    refine hn ?_
    show ys.getD (nbC w ys * (w + 3)) 0 = 1
    have e2 : (ys.getD (nbC w ys * (w + 3)) 0).toNat = 1 := by omega
    exact UInt8.toNat_inj.1 e2
theorem toBytes_map : ∀ ys : List UInt8, toBytes (ys.map byteV) = some ys
  | [] => rfl
  | y :: ys => by
    simp [toBytes, byteV, toBytes_map ys]
theorem c_bytes_Equal (M : Mem) (u v : V) (xs ys : List UInt8) (h : Rep (.sl ty_Byte) M [u] xs) (h2 : Rep (.sl ty_Byte) M [v] ys) : aCall T0 F_bytes_Equal [u, v] M = some (.bool (decide (xs = ys)), M) := by
  obtain ⟨a, c, rfl, s1⟩ := cells_Byte h
  obtain ⟨b, d, rfl, s2⟩ := cells_Byte h2
  rw [aCall_eq T_bytes_Equal]; unfold A_bytes_Equal C_bytes_Equal; simp [s1, s2, toBytes_map]
theorem bg_rep {M0 X : Mem} {v : V} {ys : List UInt8} (h : BG M0 X v ys) : ∃ L, M0 <+: X ∧ Own (.sl ty_Byte) X [v] ys L ∧ Fresh M0 X L := by
  obtain ⟨n, rfl, hp, hg⟩ := h
  rcases hg.2 with ⟨rfl, h0⟩ | ⟨l, hl, rfl, hb⟩
  · have : ys = [] := List.length_eq_zero_iff.1 h0
    subst this
    exact ⟨[], hp, .inl ⟨rfl, rfl, .inl ⟨rfl, rfl⟩⟩, by simp, by simp⟩
  · obtain ⟨L, o1, o2⟩ := own_blk (t := ty_Byte) (M := X) (l := l) (c := ys.length) (enc := enc_Byte) (ys := ys) (by rw [flat_Byte]; exact hb) (fun y _ => own_Byte _ y)
    refine ⟨L, hp, o1, nodup_flat ownf_Byte o1, fun j hj => ?_⟩
    rw [o2 j hj]
    exact ⟨hl, get_lt hb⟩
set_option maxHeartbeats 1000000 in
theorem c_impl_nodeRead (M : Mem) (v : V) (ys : List UInt8) (l w : Int) (h : Rep (.sl ty_Byte) M [v] ys) (hn : ys.length ≤ 1048576) : Sat (aCall T0 F_impl_nodeRead [v, .int .i64 l, .int .i64 w] M) (NrV M (ndOk l w ys) (ndX l w ys)) := by
  have e1 := fun M => c_impl_isLog M l
  have e2 := fun M => c_impl_within M w 1 200
  have hlg : (decide (0 ≤ l) && decide (l ≤ 6)) = lgB l := rfl
  have hwd : (decide (1 ≤ w) && decide (w ≤ 200)) = wdB w := rfl
  rw [hlg] at e1
  rw [hwd] at e2
  obtain ⟨a, c, rfl⟩ := h.slen
  have hnil : ∀ {X : Mem}, Gr (.sl ty_Block) X [.slice none 0 0] [] [] := Gr.nil
  cases h1 : lgB l with
  | false =>
    have hs : ndOk l w ys = false := by simp [ndOk, h1]
    have hx : ndX l w ys = [] := by simp [ndX, hs]
    rw [hs, hx]
    rw [h1] at e1
    rw [aCall_eq T_impl_nodeRead]; unfold A_impl_nodeRead C_impl_nodeRead; simp [thenD_pp, sliceCells_sl, sliceCells_z, sliceCells_nil, take_full, appS_sl, appK_ok, appS_none, thenD_ag, agP_nil, agP_cons, e1]
    exact ⟨(_, _), rfl, _, [], rfl, List.prefix_refl _, hnil, by simp, by simp⟩
  | true =>
    rw [h1] at e1
    cases h2 : wdB w with
    | false =>
      have hs : ndOk l w ys = false := by simp [ndOk, h2]
      have hx : ndX l w ys = [] := by simp [ndX, hs]
      rw [hs, hx]
      rw [h2] at e2
      rw [aCall_eq T_impl_nodeRead]; unfold A_impl_nodeRead C_impl_nodeRead; simp [thenD_pp, sliceCells_sl, sliceCells_z, sliceCells_nil, take_full, appS_sl, appK_ok, appS_none, thenD_ag, agP_nil, agP_cons, e1, e2]
      exact ⟨(_, _), rfl, _, [], rfl, List.prefix_refl _, hnil, by simp, by simp⟩
    | true =>
      rw [h2] at e2
      have hw : 1 ≤ w ∧ w ≤ 200 := by unfold wdB at h2; simpa using h2
      obtain ⟨W, rfl⟩ : ∃ W : Nat, w = (W : Int) := ⟨Int.toNat w, by omega⟩
      have hW : Int.toNat (W : Int) = W := by omega
      have w1 : IntKind.i64.wrap ((W : Int) + 3) = (W : Int) + 3 := wrap_i64 (by omega) (by omega)
      have w2 : IntKind.i64.wrap (4 * ((W : Int) + 3)) = 4 * ((W : Int) + 3) := wrap_i64 (by omega) (by omega)
      by_cases h3 : (ys.length : Int) = 4 * ((W : Int) + 3)
      · have h3n : ys.length = 4 * (W + 3) := by omega
        obtain ⟨m, rfl, hm⟩ := log_nat h1
        obtain ⟨v1, X1, ⟨L1, p1, g1, n1, k1⟩, e⟩ := l_impl_nodeRead_0 M a c ys W (.int .i64 (m : Int)) h (by omega) (by omega) h3n (.slice none 0 0) M ⟨[], List.prefix_refl _, Gr.nil, by simp, by simp⟩
        simp only [Nat.zero_mul, Int.natCast_zero, Int.ofNat_zero] at e
        have hblen := ndB_len W ys
        have e3 := c_impl_areBlocks X1 v1 _ m W g1.rep (by omega)
        obtain ⟨l0, o0, rfl, _, _⟩ := at_Byte h (i := 0) (by omega)
        have hex := exit_byte h h3n
        have hO : ndOk m W ys = (blocksB m W (ndB W ys) && decide (ndY W (ndB W ys) = ys)) := by
          unfold ndOk
          rw [h1, h2, hW]
          simp [h3]
        have hX : ndX m W ys = if ndOk m W ys = true then ndB W ys else [] := by unfold ndX; rw [hW]
        rw [hX, hO]
        have hNO := fun (hb : blocksB m W (ndB W ys) = true) => c_impl_nodeOf X1 v1 (ndB W ys) W g1.rep hblen (by omega) (bk_of hm hb)
        have hyl := fun (hb : blocksB m W (ndB W ys) = true) => ndB_len W ys
        generalize ndB W ys = bs at *
        generalize hat : nbC W ys * (W + 3) = at0 at *
        obtain ⟨a1, rfl⟩ := g1.shape
        have hcase : (((¬ (at0 : Int) < (ys.length : Int)) ∧ (¬ at0 < ys.length)) ∧ (¬ at0 < ys.length)) ∨ (at0 < ys.length ∧ ∃ b : Nat, rd1 X1 l0 (o0 + at0) = some (.int .u8 (b : Int)) ∧ ¬ (b : Int) = 1) := by
          rcases hex with hh | ⟨hh, b, q1, q2⟩
          · exact .inl ⟨⟨by omega, by omega⟩, by omega⟩
          · exact .inr ⟨hh, b, r1_pre p1 q1, q2⟩
        rcases hcase with ⟨⟨F1, F2⟩, F3⟩ | ⟨F1, b, F2, F3⟩
        all_goals
          cases hb : blocksB m W bs with
          | false =>
            rw [hb] at e3
            rw [Bool.false_and, if_neg (by simp)]
            rw [aCall_eq T_impl_nodeRead]; unfold A_impl_nodeRead C_impl_nodeRead; simp [thenD_pp, sliceCells_sl, sliceCells_z, sliceCells_nil, take_full, appS_sl, appK_ok, appS_none, thenD_ag, agP_nil, agP_cons, e1, e2, w1, w2, h3, e]
            rw [S_impl_nodeRead_0]; unfold B_impl_nodeRead_0; simp [thenD_pp, sliceCells_sl, sliceCells_z, sliceCells_nil, take_full, appS_sl, appK_ok, appS_none, thenD_ag, agP_nil, agP_cons, F1, F2, F3, e3]
            exact ⟨(_, X1), rfl, _, [], rfl, p1, hnil, by simp, by simp⟩
          | true =>
            rw [hb] at e3
            rw [Bool.true_and]
            rw [aCall_eq T_impl_nodeRead]; unfold A_impl_nodeRead C_impl_nodeRead; simp [thenD_pp, sliceCells_sl, sliceCells_z, sliceCells_nil, take_full, appS_sl, appK_ok, appS_none, thenD_ag, agP_nil, agP_cons, e1, e2, w1, w2, h3, e]
            rw [S_impl_nodeRead_0]; unfold B_impl_nodeRead_0; simp [thenD_pp, sliceCells_sl, sliceCells_z, sliceCells_nil, take_full, appS_sl, appK_ok, appS_none, thenD_ag, agP_nil, agP_cons, F1, F2, F3, e3]
            generalize hx : aCall T0 F_impl_nodeOf _ _ = xhx
            obtain ⟨v2, X2, rfl, g2⟩ := of_call hx (hNO hb)
            clear hx
            obtain ⟨L2, p2, o2, _⟩ := bg_rep g2
            have e5 := c_bytes_Equal X2 v2 _ _ ys o2.rep (h.mono (p1.trans p2))
            obtain ⟨_, _, rfl⟩ := o2.rep.slen
            by_cases hq : ndY W bs = ys
            · rw [decide_eq_true hq] at e5
              rw [decide_eq_true hq, if_pos hq]
              simp [thenD_pp, sliceCells_sl, sliceCells_z, sliceCells_nil, take_full, appS_sl, appK_ok, appS_none, thenD_ag, agP_nil, agP_cons, e5]
              exact ⟨(_, X2), rfl, _, L1, rfl, p1.trans p2, g1.grow p2, n1, k1⟩
            · rw [decide_eq_false hq] at e5
              rw [decide_eq_false hq, if_neg hq]
              simp [thenD_pp, sliceCells_sl, sliceCells_z, sliceCells_nil, take_full, appS_sl, appK_ok, appS_none, thenD_ag, agP_nil, agP_cons, e5]
              exact ⟨(_, X2), rfl, _, [], rfl, p1.trans p2, hnil, by simp, by simp⟩
      · have hs : ndOk l W ys = false := by simp [ndOk, h3]
        have hx : ndX l W ys = [] := by simp [ndX, hs]
        rw [hs, hx]
        rw [aCall_eq T_impl_nodeRead]; unfold A_impl_nodeRead C_impl_nodeRead; simp [thenD_pp, sliceCells_sl, sliceCells_z, sliceCells_nil, take_full, appS_sl, appK_ok, appS_none, thenD_ag, agP_nil, agP_cons, e1, e2, w1, w2, h3]
        exact ⟨(_, _), rfl, _, [], rfl, List.prefix_refl _, hnil, by simp, by simp⟩
abbrev FoB (p : Nat) (v : V) (nd0 : Nat) (a76 n77 i78 : V) (l2 n : Nat) (i : Nat) : List V := [und, .pointer (some ⟨p, 0, none⟩), und, und, v, .int .i64 nd0, und, und, und, und, und, und, und, und, und, und, und, und, und, und, und, und, und, und, und, und, und, und, und, und, und, und, und, und, und, und, und, und, und, und, und, und, und, und, und, und, und, und, und, und, und, und, und, und, und, und, und, und, und, und, und, und, und, und, und, und, und, und, und, und, und, und, und, und, und, und, a76, n77, i78, und, und, und, und, und, und, und, und, und, und, und, und, und, und, und, und, .slice (some ⟨l2, 0, none⟩) n n, .int .i64 n, .int .i64 i, und, und, und, und, und, und, und, und, und, und, und, und, und, und, und, und, und, und, und, und, und, und, und, und]
structure InI (M : Mem) (bs : List ty_Block.D) (l2 : Nat) (css : List (List V)) (Ls : List (List Nat)) (i : Nat) (all : List ty_Block.D) (v : V) (X : Mem) : Prop where
  pre : M <+: X
  gr : ∃ L, Gr (.sl ty_Block) X [v] all L ∧ L.Nodup ∧ (∀ j ∈ L, M.length ≤ j) ∧ (∀ j ∈ L, j ≠ l2 ∧ ∀ (k : Nat) (K : List Nat), i ≤ k → Ls[k]? = some K → j ∉ K)
  hb : X[l2]? = some ⟨css.flatten, 3, 2⟩
  el : ∀ (k : Nat) (ds : List V) (x : ty_Block.D) (K : List Nat), i ≤ k → css[k]? = some ds → bs[k]? = some x → Ls[k]? = some K → Gr ty_Block X ds x K ∧ (∀ j ∈ K, M.length ≤ j ∧ j ≠ l2)
  lt : IdLt all
  rg : IdsR all
theorem gr_Block_nd {M : Mem} {ds : List V} {x : ty_Block.D} {K : List Nat} (h : Gr ty_Block M ds x K) : K.Nodup := by
  obtain ⟨c1, c2, L1, L2, _, ⟨_, rfl⟩, ⟨c3, c4, L3, L4, _, ⟨_, rfl⟩, h, rfl⟩, rfl⟩ := h
  rcases h with ⟨_, _, rfl⟩ | ⟨l, css, Ls, _, _, h1, h2, h3, rfl⟩
  · simp
  · have : Ls.flatten = [] := by
      rw [List.flatten_eq_nil_iff]
      intro K hK
      obtain ⟨i, hi, rfl⟩ := List.getElem_of_mem hK
      exact (h3 i (css[i]'(by omega)) (x.2.2[i]'(by omega)) Ls[i] (by simp) (by simp) (by simp)).2
    simp [this]
abbrev tgB (t1 t2 : Int) (ta : Option Addr) (tn tc : Nat) : List V := [.int .i64 t1, .int .i64 t2, .slice ta tn tc]
theorem c_impl_blockPut_1 (M : Mem) (a a2 b b2 : Int) (ua ub : Option Addr) (na ca nb cb : Nat) (ha : 0 ≤ a ∧ a ≤ 255) (hb : 0 ≤ b ∧ b ≤ 255) : aCall T0 F_impl_blockPut_1 [.agg (tgB a a2 ua na ca).toArray, .agg (tgB b b2 ub nb cb).toArray] M = some (.int .i64 (a - b), M) := by
  have e : IntKind.i64.wrap (a - b) = a - b := wrap_i64 (by omega) (by omega)
  rw [aCall_eq T_impl_blockPut_1]; unfold A_impl_blockPut_1 C_impl_blockPut_1; simp [e]
theorem r_bsB (M : Mem) (a : Option Addr) (c : Nat) (xs : List ty_Block.D) (h : Rep (.sl ty_Block) M [.slice a xs.length c] xs) (hn : xs.length ≤ 1048576) (hr : IdsR xs) (pt : Nat) (t1 t2 : Int) (ta : Option Addr) (tn tc : Nat) (hpt : M[pt]? = some ⟨tgB t1 t2 ta tn tc, 1, 2⟩) (ht : 0 ≤ t1 ∧ t1 ≤ 255) (i j : Nat) (hij : i < j) (hj : j ≤ xs.length) (hi : (i + j) / 2 < xs.length) :
    lp (aCall T0) K_slices_BinarySearchFunc_impl_Block_impl_Block_impl_Block_0 L_slices_BinarySearchFunc_impl_Block_impl_Block_impl_Block_0 [.slice a xs.length c, und, .func (.func F_impl_blockPut_1) #[] #[], und, .pointer (some ⟨pt, 0, none⟩), und, und, und, .int .i64 xs.length, .int .i64 i, .int .i64 j, und, und, und, und, und, und, und, und, und, und, und, und, und, und, und, und, und, und, und, und, und, und, und, und, und, und, und, und, und, und, und, und, und, und, und, und, und, und] M =
    lp (aCall T0) K_slices_BinarySearchFunc_impl_Block_impl_Block_impl_Block_0 L_slices_BinarySearchFunc_impl_Block_impl_Block_impl_Block_0 [.slice a xs.length c, und, .func (.func F_impl_blockPut_1) #[] #[], und, .pointer (some ⟨pt, 0, none⟩), und, und, und, .int .i64 xs.length, .int .i64 (if (xs[(i + j) / 2]).1 < t1 then (((i + j) / 2 + 1 : Nat) : Int) else (i : Int)), .int .i64 (if (xs[(i + j) / 2]).1 < t1 then (j : Int) else (((i + j) / 2 : Nat) : Int)), und, und, und, und, und, und, und, und, und, und, und, und, und, und, und, und, und, und, und, und, und, und, und, und, und, und, und, und, und, und, und, und, und, und, und, und, und, und] M := by
  obtain ⟨m, hm⟩ : ∃ m, m = (i + j) / 2 := ⟨_, rfl⟩
  simp only [← hm] at hi ⊢
  obtain ⟨l, o, u, rfl, _, _, _, hrd, _, _, qu, _⟩ := at_Block h hi
  have hx := hr _ (List.getElem_mem hi)
  generalize xs[m] = b at *
  obtain ⟨b1, b2, b3⟩ := b
  simp only at *
  obtain ⟨ua, uc, rfl⟩ := qu.slen
  have s1 := c_impl_blockPut_1 M b1 b2 t1 t2 ua ta (List.length (α := UInt8) b3) uc tn tc hx ht
  simp only [tgB] at s1 hpt
  have g0 : (i : Int) < j := by omega
  have e1 : IntKind.i64.wrap ((i : Int) + j) = (i : Int) + j := wrap_i64 (by omega) (by omega)
  have e2 : IntKind.u64.wrap ((i : Int) + j) = (i : Int) + j := wrap_u64 (by omega) (by omega)
  have e4 : bshr .u64 ((i : Int) + j) 1 = (m : Int) := by
    unfold bshr
    have hm2 : min (1 : Int).toNat IntKind.u64.bits = 1 := rfl
    rw [hm2, hm]
    show ((i : Int) + j).fdiv (2 ^ 1) = _
    rw [Int.fdiv_eq_ediv_of_nonneg _ (by omega)]
    omega
  have e3 : IntKind.i64.wrap ((m : Nat) : Int) = m := wrap_i64 (by omega) (by omega)
  have e6 : IntKind.i64.wrap ((m : Int) + 1) = m + 1 := wrap_i64 (by omega) (by omega)
  have hpr : rdn M pt 0 3 = some [.int .i64 t1, .int .i64 t2, .slice ta tn tc] := rdn_box hpt rfl
  by_cases hq : b1 < t1
  · have hq2 : b1 - t1 < 0 := Int.sub_neg_of_lt hq
    rw [S_slices_BinarySearchFunc_impl_Block_impl_Block_impl_Block_0]; unfold B_slices_BinarySearchFunc_impl_Block_impl_Block_impl_Block_0; simp [g0, hij, e1, e2, e4, e3, hi, hrd, hpr, s1, hq, hq2, e6]
  · have hq2 : ¬ b1 - t1 < 0 := fun hh => hq (Int.lt_of_sub_neg hh)
    rw [S_slices_BinarySearchFunc_impl_Block_impl_Block_impl_Block_0]; unfold B_slices_BinarySearchFunc_impl_Block_impl_Block_impl_Block_0; simp [g0, hij, e1, e2, e4, e3, hi, hrd, hpr, s1, hq, hq2, e6]
theorem l_bsB (M : Mem) (a : Option Addr) (c : Nat) (xs : List ty_Block.D) (h : Rep (.sl ty_Block) M [.slice a xs.length c] xs) (hn : xs.length ≤ 1048576) (hr : IdsR xs) (pt : Nat) (t1 t2 : Int) (ta : Option Addr) (tn tc : Nat) (hpt : M[pt]? = some ⟨tgB t1 t2 ta tn tc, 1, 2⟩) (ht : 0 ≤ t1 ∧ t1 ≤ 255) : ∀ (d i j : Nat), j - i ≤ d → i ≤ j → j ≤ xs.length →
    (∀ (q : 0 < i) (hq : i - 1 < xs.length), (xs[i - 1]).1 < t1) → (∀ (hq : j < xs.length), ¬ (xs[j]).1 < t1) →
    ∃ r : Nat, r ≤ xs.length ∧ (∀ (q : 0 < r) (hq : r - 1 < xs.length), (xs[r - 1]).1 < t1) ∧ (∀ (hq : r < xs.length), ¬ (xs[r]).1 < t1) ∧
    lp (aCall T0) K_slices_BinarySearchFunc_impl_Block_impl_Block_impl_Block_0 L_slices_BinarySearchFunc_impl_Block_impl_Block_impl_Block_0 [.slice a xs.length c, und, .func (.func F_impl_blockPut_1) #[] #[], und, .pointer (some ⟨pt, 0, none⟩), und, und, und, .int .i64 xs.length, .int .i64 i, .int .i64 j, und, und, und, und, und, und, und, und, und, und, und, und, und, und, und, und, und, und, und, und, und, und, und, und, und, und, und, und, und, und, und, und, und, und, und, und, und, und] M =
    lp (aCall T0) K_slices_BinarySearchFunc_impl_Block_impl_Block_impl_Block_0 L_slices_BinarySearchFunc_impl_Block_impl_Block_impl_Block_0 [.slice a xs.length c, und, .func (.func F_impl_blockPut_1) #[] #[], und, .pointer (some ⟨pt, 0, none⟩), und, und, und, .int .i64 xs.length, .int .i64 r, .int .i64 r, und, und, und, und, und, und, und, und, und, und, und, und, und, und, und, und, und, und, und, und, und, und, und, und, und, und, und, und, und, und, und, und, und, und, und, und, und, und] M
  | 0, i, j, hd, hij, hj, h1, h2 => by
    have e : i = j := by omega
    subst e
    exact ⟨i, hj, h1, h2, rfl⟩
  | d + 1, i, j, hd, hij, hj, h1, h2 => by
    by_cases e : i = j
    · subst e
      exact ⟨i, hj, h1, h2, rfl⟩
    have hm : (i + j) / 2 < xs.length := by omega
    have hrr := r_bsB M a c xs h hn hr pt t1 t2 ta tn tc hpt ht i j (by omega) hj hm
    by_cases hq : (xs[(i + j) / 2]).1 < t1
    · rw [if_pos hq, if_pos hq] at hrr
      rw [hrr]
      exact l_bsB M a c xs h hn hr pt t1 t2 ta tn tc hpt ht d ((i + j) / 2 + 1) j (by omega) (by omega) hj (fun _ _ => hq) h2
    · rw [if_neg hq, if_neg hq] at hrr
      rw [hrr]
      exact l_bsB M a c xs h hn hr pt t1 t2 ta tn tc hpt ht d i ((i + j) / 2) (by omega) (by omega) (by omega) h1 (fun _ => hq)
/-- slices.BinarySearchFunc: the place, and is it there. -/
theorem c_bsB (M : Mem) (v : V) (xs : List ty_Block.D) (h : Rep (.sl ty_Block) M [v] xs) (hn : xs.length ≤ 1048576) (hr : IdsR xs) (t1 t2 : Int) (ta : Option Addr) (tn tc : Nat) (ht : 0 ≤ t1 ∧ t1 ≤ 255) :
    ∃ r : Nat, r ≤ xs.length ∧ (∀ (q : 0 < r) (hq : r - 1 < xs.length), (xs[r - 1]).1 < t1) ∧ (∀ (hq : r < xs.length), ¬ (xs[r]).1 < t1) ∧
    aCall T0 F_slices_BinarySearchFunc_impl_Block_impl_Block_impl_Block [v, .agg (tgB t1 t2 ta tn tc).toArray, .func (.func F_impl_blockPut_1) #[] #[]] M = some (.tuple #[.int .i64 r, .bool (decide (∃ hq : r < xs.length, (xs[r]).1 = t1))], M) := by
  obtain ⟨a, c, rfl⟩ := h.slen
  obtain ⟨r, h1, h2, h3, h4⟩ := l_bsB (M ++ [⟨tgB t1 t2 ta tn tc, 1, 2⟩]) a c xs (h.mono (List.prefix_append _ _)) hn hr M.length t1 t2 ta tn tc (by simp) ht xs.length 0 xs.length (by omega) (by omega) (Nat.le_refl _) (fun q => by omega) (fun q => by omega)
  refine ⟨r, h1, h2, h3, ?_⟩
  simp only [Int.natCast_zero, Int.ofNat_zero] at h4
  have hpr : rdn (M ++ [⟨tgB t1 t2 ta tn tc, 1, 2⟩]) M.length 0 3 = some [.int .i64 t1, .int .i64 t2, .slice ta tn tc] := rdn_box (by simp) rfl
  simp only [tgB] at h4 hpr ⊢
  by_cases hr2 : r < xs.length
  · obtain ⟨l, o, u, rfl, _, _, _, hrd, _, _, qu, _⟩ := at_Block (h.mono (List.prefix_append M [⟨[.int .i64 t1, .int .i64 t2, .slice ta tn tc], 1, 2⟩])) hr2
    have hx := hr _ (List.getElem_mem hr2)
    have hd : decide (∃ hq : r < xs.length, (xs[r]).1 = t1) = decide (xs[r].1 - t1 = 0) := by
      rw [decide_eq_decide]
      exact ⟨fun ⟨_, q⟩ => Int.sub_eq_zero.2 q, fun q => ⟨hr2, Int.sub_eq_zero.1 q⟩⟩
    have g : ¬ r < r := by omega
    rw [hd]
    generalize xs[r] = b at *
    obtain ⟨b1, b2, b3⟩ := b
    simp only at *
    obtain ⟨ua, uc, rfl⟩ := qu.slen
    have s1 := c_impl_blockPut_1 (M ++ [⟨[.int .i64 t1, .int .i64 t2, .slice ta tn tc], 1, 2⟩]) b1 b2 t1 t2 ua ta (List.length (α := UInt8) b3) uc tn tc hx ht
    simp only [tgB] at s1
    rw [aCall_eq T_slices_BinarySearchFunc_impl_Block_impl_Block_impl_Block]; unfold A_slices_BinarySearchFunc_impl_Block_impl_Block_impl_Block C_slices_BinarySearchFunc_impl_Block_impl_Block_impl_Block; simp [h4]
    rw [S_slices_BinarySearchFunc_impl_Block_impl_Block_impl_Block_0]; unfold B_slices_BinarySearchFunc_impl_Block_impl_Block_impl_Block_0; simp [hr2, hrd, hpr, s1]
  · have hd : decide (∃ hq : r < xs.length, (xs[r]).1 = t1) = false := by
      rw [decide_eq_false_iff_not]
      exact fun ⟨q, _⟩ => hr2 q
    rw [hd]
    rw [aCall_eq T_slices_BinarySearchFunc_impl_Block_impl_Block_impl_Block]; unfold A_slices_BinarySearchFunc_impl_Block_impl_Block_impl_Block C_slices_BinarySearchFunc_impl_Block_impl_Block_impl_Block; simp [h4]
    rw [S_slices_BinarySearchFunc_impl_Block_impl_Block_impl_Block_0]; unfold B_slices_BinarySearchFunc_impl_Block_impl_Block_impl_Block_0; simp [hr2]
def InsD (M : Mem) (L J : List Nat) (zs : List ty_Block.D) (p : V × Mem) : Prop := ∃ L', Gr (.sl ty_Block) p.2 [p.1] zs L' ∧ L'.Nodup ∧ (∀ j ∈ L', j ∈ L ∨ j ∈ J ∨ M.length ≤ j) ∧ Agree M p.2 L ∧ M.length < p.2.length
theorem agree_sub {M M' : Mem} {w w' : List Nat} (h : Agree M M' w) (hs : ∀ b ∈ w, b ∈ w') : Agree M M' w' := ⟨h.1, fun b hb hn => h.2 b hb (fun hm => hn (hs b hm))⟩
theorem c_insB (M : Mem) (v : V) (xs : List ty_Block.D) (L : List Nat) (i : Nat) (ds : List V) (y : ty_Block.D) (J : List Nat) (l2 : Nat) (h : Gr (.sl ty_Block) M [v] xs L) (hi : i ≤ xs.length) (hy : Gr ty_Block M ds y J) (hb2 : M[l2]? = some ⟨ds, 3, 2⟩) (hl2 : l2 ∉ L) (hj : ∀ j ∈ J, j ∉ L) (hn : L.Nodup) (hnj : J.Nodup) (hs : xs.length ≤ 10000) :
    Sat (aCall T0 F_slices_Insert_impl_Block_impl_Block [v, .int .i64 (i : Int), .slice (some ⟨l2, 0, none⟩) 1 1] M) (InsD M L J (xs.take i ++ y :: xs.drop i)) := by
  have hlen := hy.len
  have hw : ty_Block.w = 3 := rfl
  rw [hw] at hlen
  obtain ⟨a, rfl⟩ := h.shape
  by_cases he : i = xs.length
  · subst he
    have hr2 : sliceCells M 3 (.slice (some ⟨l2, 0, none⟩) 1 1) = some (1, ds) := by
      simp only [sliceCells, rdn, hb2]
      rw [if_neg (by omega), if_pos (by refine ⟨by simp, by omega⟩), List.drop_zero, List.take_of_length_le (by omega)]
      rfl
    have hfin : xs.take xs.length ++ y :: xs.drop xs.length = xs ++ [y] := by simp
    rw [hfin]
    have key : ∀ x, appS M 3 40 (.slice a xs.length xs.length) 1 ds = x → Sat x (InsD M L J (xs ++ [y])) := by
      intro x hx
      obtain ⟨l, X3, L', rfl, g, ag, hl, hw2, nd, hL, _⟩ := h.app2 (t := ty_Block) (bytes := 40) hx (List.prefix_refl _) hy hj hn hnj (by omega) (by omega)
      exact ⟨_, rfl, L', g, nd, fun j hm => (hL j hm).elim .inl (fun h => h.elim (fun h => .inr (.inl h)) (fun h => .inr (.inr (by omega)))), agree_sub ag hw2, hl⟩
    have hle : (xs.length : Int) ≤ (xs.length : Int) := Int.le_refl _
    have hk : (a = none ∧ xs.length = 0) ∨ ∃ l k, a = some ⟨l, 0, none⟩ ∧ M[l]? = some k ∧ k.w = 3 := by
      rcases h with ⟨e, rfl, _⟩ | ⟨l, css, Ls, e, hb, _⟩
      · cases e; exact .inl ⟨rfl, rfl⟩
      · cases e; exact .inr ⟨l, _, rfl, hb, rfl⟩
    rcases hk with ⟨rfl, h0⟩ | ⟨l, k, rfl, hk, hkw⟩
    · rw [aCall_eq T_slices_Insert_impl_Block_impl_Block]; unfold A_slices_Insert_impl_Block_impl_Block C_slices_Insert_impl_Block_impl_Block; simp [thenD_pp, sliceCells_sl, sliceCells_z, sliceCells_nil, take_full, appS_sl, appK_ok, appS_none, thenD_ag, agP_nil, agP_cons, hr2]
      generalize hy2 : appS _ _ _ _ _ _ = xhy2
      obtain ⟨⟨v3, X3⟩, rfl, L', g, nd, hL, ag, hlen3⟩ := key _ hy2
      clear hy2
      try simp only at g ag hlen3
      obtain ⟨a3, rfl⟩ := g.shape
      have hq : (xs ++ [y]).length = xs.length + 1 := by simp
      rw [hq] at g ⊢
      simp [thenD_pp, sliceCells_sl, sliceCells_z, sliceCells_nil, take_full, appS_sl, appK_ok, appS_none, thenD_ag, agP_nil, agP_cons]
      exact ⟨_, rfl, L', g, nd, hL, ag, hlen3⟩
    · obtain ⟨⟨v3, X3⟩, hap, L', g, nd, hL, ag, hlen3⟩ := key _ rfl
      simp only at g ag hlen3
      rw [appS_sl _ _ _ _ _ _ _ _ _ (by omega), hk] at hap
      obtain ⟨a3, rfl⟩ := g.shape
      have hq : (xs ++ [y]).length = xs.length + 1 := by simp
      rw [hq] at g hap
      rw [aCall_eq T_slices_Insert_impl_Block_impl_Block]; unfold A_slices_Insert_impl_Block_impl_Block C_slices_Insert_impl_Block_impl_Block; simp [thenD_pp, sliceCells_sl, sliceCells_z, sliceCells_nil, take_full, appS_sl, appK_ok, appS_none, thenD_ag, agP_nil, agP_cons, hk, hkw, hr2, hap]
      exact ⟨_, rfl, L', g, nd, hL, ag, hlen3⟩
  · have hlt : i < xs.length := by omega
    obtain ⟨X', L', e, g, ag, hxl, hwl, nd, hL⟩ := h.ins (bytes := 40) hlt hy hb2 hl2 (by show 1 < 3; omega) hj hn hnj (by omega) (by omega)
    have hne : ¬ (i : Int) = (xs.length : Int) := by omega
    have hle : (i : Int) ≤ (xs.length : Int) := by omega
    have hkb : ∃ l k, a = some ⟨l, 0, none⟩ ∧ M[l]? = some k ∧ k.w = 3 := by
      rcases h with ⟨_, rfl, _⟩ | ⟨l, css, Ls, e, hb, _⟩
      · simp at hlt
      · cases e
        exact ⟨l, _, rfl, hb, rfl⟩
    obtain ⟨l, k, rfl, hk, hkw⟩ := hkb
    rw [hw] at e
    rw [aCall_eq T_slices_Insert_impl_Block_impl_Block]; unfold A_slices_Insert_impl_Block_impl_Block C_slices_Insert_impl_Block_impl_Block; simp [thenD_pp, sliceCells_sl, sliceCells_z, sliceCells_nil, take_full, appS_sl, appK_ok, appS_none, thenD_ag, agP_nil, agP_cons, hk, hkw, hne, hle, hlt, he, e]
    exact ⟨(_, X'), rfl, L', g, nd, fun j hm => (hL j hm).elim .inl (fun h => h.elim (fun h => .inr (.inl h)) (fun h => .inr (.inr (by omega)))), agree_sub ag hwl, by show M.length < X'.length; omega⟩
theorem sorted_below {xs : List ty_Block.D} {id : Int} {r : Nat} (hs : IdLt xs) (hr : r ≤ xs.length) (h1 : ∀ (q : 0 < r) (hq : r - 1 < xs.length), (xs[r - 1]).1 < id) : ∀ k (hk : k < xs.length), k < r → xs[k].1 < id := by
  intro k hk hkr
  have h := h1 (by omega) (by omega)
  by_cases e : k = r - 1
  · subst e; exact h
  · exact Int.lt_trans (List.pairwise_iff_getElem.1 hs k (r - 1) hk (by omega) (by omega)) h
theorem without_same {id : Int} {xs : List ty_Block.D} (h : ∀ b ∈ xs, b.1 ≠ id) : withoutL id xs = xs := by
  unfold withoutL
  rw [List.filter_eq_self]
  intro b hb
  exact decide_eq_true (h b hb)
theorem withoutL_app (id : Int) (xs ys : List ty_Block.D) : withoutL id (xs ++ ys) = withoutL id xs ++ withoutL id ys := List.filter_append ..
theorem lbB_eq {id : Int} : ∀ {xs : List ty_Block.D} {r : Nat}, r ≤ xs.length → (∀ k (hk : k < xs.length), k < r → xs[k].1 < id) → (∀ hr : r < xs.length, ¬ xs[r].1 < id) → lbB id xs = r
  | [], r, h, _, _ => by simp at h; simp [lbB, h]
  | b :: xs, 0, _, _, h2 => by
    have h := h2 (by simp)
    simp only [List.getElem_cons_zero] at h
    simp [lbB, List.takeWhile_cons, decide_eq_false h]
  | b :: xs, r + 1, hl, h1, h2 => by
    have h := h1 0 (by simp) (by omega)
    simp only [List.getElem_cons_zero] at h
    have ih := lbB_eq (id := id) (xs := xs) (r := r) (by simpa using hl) (fun k hk hkr => h1 (k + 1) (by simpa using hk) (by omega)) (fun hr => h2 (by simpa using hr))
    unfold lbB at ih ⊢
    simp only [List.takeWhile_cons, decide_eq_true h, if_true, List.length_cons, ih]
theorem sorted_above {xs : List ty_Block.D} {r : Nat} (hs : IdLt xs) (hr : r < xs.length) : ∀ k (hk : k < xs.length), r < k → xs[r].1 < xs[k].1 := fun k hk hkr => List.pairwise_iff_getElem.1 hs r k hr hk hkr
theorem put_found {b : ty_Block.D} {xs : List ty_Block.D} {r : Nat} (hs : IdLt xs) (hr : r < xs.length) (he : xs[r].1 = b.1) : putL b xs = xs.set r b ∧ (withoutL b.1 xs).length + 1 = xs.length := by
  have e : xs = xs.take r ++ xs[r] :: xs.drop (r + 1) := by rw [← List.drop_eq_getElem_cons hr, List.take_append_drop]
  have hlo : ∀ c ∈ xs.take r, c.1 < b.1 := by
    intro c hc
    obtain ⟨k, hk, rfl⟩ := List.getElem_of_mem hc
    rw [List.length_take] at hk
    rw [List.getElem_take, ← he]
    exact sorted_above hs (r := k) (by omega) r hr (by omega)
  have hhi : ∀ c ∈ xs.drop (r + 1), b.1 < c.1 := by
    intro c hc
    obtain ⟨k, hk, rfl⟩ := List.getElem_of_mem hc
    rw [List.length_drop] at hk
    rw [List.getElem_drop, ← he]
    exact sorted_above hs hr _ (by omega) (by omega)
  have hw : withoutL b.1 xs = xs.take r ++ xs.drop (r + 1) := by
    have h1 : withoutL b.1 [xs[r]] = [] := by simp [withoutL, he]
    have h2 : xs.take r ++ xs[r] :: xs.drop (r + 1) = xs.take r ++ ([xs[r]] ++ xs.drop (r + 1)) := by simp
    conv => lhs; rw [e, h2]
    rw [withoutL_app, withoutL_app, h1, List.nil_append, without_same (fun c hc => Int.ne_of_lt (hlo c hc)), without_same (fun c hc => (Int.ne_of_lt (hhi c hc)).symm)]
  have hlt : (xs.take r).length = r := by rw [List.length_take]; omega
  have hlb : lbB b.1 (xs.take r ++ xs.drop (r + 1)) = r := by
    refine lbB_eq (by rw [List.length_append]; omega) (fun k hk hkr => ?_) (fun hrr => ?_)
    · rw [List.getElem_append_left (by omega)]
      exact hlo _ (List.getElem_mem _)
    · rw [List.getElem_append_right (by omega)]
      exact fun h => Int.lt_irrefl _ (Int.lt_trans h (hhi _ (List.getElem_mem _)))
  unfold putL insL
  rw [hw, hlb]
  refine ⟨?_, ?_⟩
  · rw [List.take_left' hlt, List.drop_left' hlt, List.set_eq_take_append_cons_drop, if_pos hr]
  · rw [List.length_append, List.length_take, List.length_drop]
    omega
theorem put_new {b : ty_Block.D} {xs : List ty_Block.D} {r : Nat} (hs : IdLt xs) (hr : r ≤ xs.length) (h1 : ∀ k (hk : k < xs.length), k < r → xs[k].1 < b.1) (h2 : ∀ hq : r < xs.length, ¬ xs[r].1 < b.1) (hn : ¬ ∃ hq : r < xs.length, xs[r].1 = b.1) : putL b xs = xs.take r ++ b :: xs.drop r ∧ withoutL b.1 xs = xs := by
  have hw : withoutL b.1 xs = xs := by
    refine without_same fun c hc => ?_
    obtain ⟨k, hk, rfl⟩ := List.getElem_of_mem hc
    by_cases hkr : k < r
    · exact Int.ne_of_lt (h1 k hk hkr)
    · by_cases e : k = r
      · subst e
        exact fun e => hn ⟨hk, e⟩
      · have h3 := sorted_above hs (r := r) (by omega) k hk (by omega)
        have h4 := h2 (by omega)
        exact fun e => h4 (by rw [← e]; exact h3)
  unfold putL insL
  rw [hw, lbB_eq hr h1 h2]
  exact ⟨rfl, rfl⟩
def BpD (M : Mem) (L J : List Nat) (zs : List ty_Block.D) (p : V × Mem) : Prop := ∃ L', Gr (.sl ty_Block) p.2 [p.1] zs L' ∧ L'.Nodup ∧ (∀ j ∈ L', j ∈ L ∨ j ∈ J ∨ M.length ≤ j) ∧ Agree M p.2 L ∧ M.length ≤ p.2.length
theorem c_impl_blockPut (M : Mem) (v : V) (xs : List ty_Block.D) (L : List Nat) (ds : List V) (y : ty_Block.D) (J : List Nat) (h : Gr (.sl ty_Block) M [v] xs L) (hy : Gr ty_Block M ds y J) (hj : ∀ j ∈ J, j ∉ L) (hn : L.Nodup) (hnj : J.Nodup) (hs : xs.length ≤ 10000) (hlt : IdLt xs) (hr : IdsR xs) (hyr : 0 ≤ y.1 ∧ y.1 ≤ 255) :
    Sat (aCall T0 F_impl_blockPut [v, .agg ds.toArray] M) (BpD M L J (putL y xs)) := by
  obtain ⟨u, rfl, w0, w1, qu⟩ := rep_g_Block hy.rep
  obtain ⟨ua, uc, rfl⟩ := qu.slen
  obtain ⟨r, r1, r2, r3, r4⟩ := c_bsB (M ++ [⟨[.int .i64 y.1, .int .i64 y.2.1, .slice ua (List.length (α := UInt8) y.2.2) uc], 1, 2⟩]) v xs (h.rep.mono (List.prefix_append _ _)) (by omega) hr y.1 y.2.1 ua (List.length (α := UInt8) y.2.2) uc hyr
  have hb := sorted_below hlt r1 r2
  have hpr : rdn (M ++ [⟨[.int .i64 y.1, .int .i64 y.2.1, .slice ua (List.length (α := UInt8) y.2.2) uc], 1, 2⟩]) M.length 0 3 = some [.int .i64 y.1, .int .i64 y.2.1, .slice ua (List.length (α := UInt8) y.2.2) uc] := rdn_box (by simp) rfl
  obtain ⟨a, rfl⟩ := h.shape
  simp only [tgB] at r4
  by_cases hf : ∃ hq : r < xs.length, (xs[r]).1 = y.1
  · rw [decide_eq_true hf] at r4
    obtain ⟨hq, he⟩ := hf
    rw [(put_found hlt hq he).1]
    obtain ⟨l, cs, L', e, hbl, hle, hlL, g, nd, hL⟩ := (h.grow (List.prefix_append M [(⟨[.int .i64 y.1, .int .i64 y.2.1, .slice ua (List.length (α := UInt8) y.2.2) uc], 1, 2⟩ : Blk)])).put hq (hy.grow (List.prefix_append _ _)) hj hn hnj
    cases e
    have hw : ty_Block.w = 3 := rfl
    rw [hw] at hbl hle g
    have hwr := wrn_eq (o := r * 3) hbl rfl hle hy.one
    have hlX := h.lt l hlL
    generalize splice cs (r * 3) [.int .i64 y.1, .int .i64 y.2.1, .slice ua (List.length (α := UInt8) y.2.2) uc] = cs2 at g hwr
    rw [aCall_eq T_impl_blockPut]; unfold A_impl_blockPut C_impl_blockPut; simp [thenD_pp, sliceCells_sl, sliceCells_z, sliceCells_nil, take_full, appS_sl, appK_ok, appS_none, thenD_ag, agP_nil, agP_cons, r4, hpr, hq, hwr]
    refine ⟨(_, _), rfl, L', g, nd, fun j hm => (hL j hm).elim .inl (fun h => .inr (.inl h)), ⟨by simp, fun b hb1 hb2 => ?_⟩, by simp⟩
    show (List.set _ l _)[b]? = _
    rw [List.getElem?_set_ne (fun e => hb2 (by rw [← e]; exact hlL)), List.getElem?_append_left hb1]
  · rw [decide_eq_false hf] at r4
    rw [(put_new hlt r1 hb r3 hf).1]
    have hI := c_insB (M ++ [⟨[.int .i64 y.1, .int .i64 y.2.1, .slice ua (List.length (α := UInt8) y.2.2) uc], 1, 2⟩, ⟨[.int .i64 y.1, .int .i64 y.2.1, .slice ua (List.length (α := UInt8) y.2.2) uc], 3, 2⟩]) (.slice a xs.length xs.length) xs L r [.int .i64 y.1, .int .i64 y.2.1, .slice ua (List.length (α := UInt8) y.2.2) uc] y J (M.length + 1)
      (h.grow (List.prefix_append _ _)) r1 (hy.grow (List.prefix_append _ _)) (by simp) (fun hm => by have := h.lt _ hm; omega) hj hn hnj hs
    rw [aCall_eq T_impl_blockPut]; unfold A_impl_blockPut C_impl_blockPut; simp [thenD_pp, sliceCells_sl, sliceCells_z, sliceCells_nil, take_full, appS_sl, appK_ok, appS_none, thenD_ag, agP_nil, agP_cons, r4, hpr, zeroCells]
    generalize hx : aCall T0 F_slices_Insert_impl_Block_impl_Block _ _ = xhx
    obtain ⟨v5, X5, rfl, L', g, nd, hL, ag, hl5⟩ := of_call hx hI
    clear hx
    try simp only at g ag hl5
    generalize xs.take r ++ y :: xs.drop r = zz at g ⊢
    obtain ⟨a5, rfl⟩ := g.shape
    simp [thenD_pp, sliceCells_sl, sliceCells_z, sliceCells_nil, take_full, appS_sl, appK_ok, appS_none, thenD_ag, agP_nil, agP_cons]
    try simp at hl5
    refine ⟨(_, X5), rfl, L', g, nd, fun j hm => (hL j hm).elim .inl (fun h => h.elim (fun h => .inr (.inl h)) (fun h => .inr (.inr (by simp at h; omega)))), ⟨by show M.length ≤ X5.length; omega, fun b hb1 hb2 => ?_⟩, by show M.length ≤ X5.length; omega⟩
    have := ag.2 b (by simp; omega) hb2
    rw [this, List.getElem?_append_left hb1]
theorem blen_le {x k : Nat} : blen x ≤ k ↔ x < 2 ^ k := by
  unfold blen
  by_cases h : x = 0
  · subst h
    simp [Nat.two_pow_pos]
  · rw [if_neg h, ← Nat.log2_lt h]
    omega
theorem blen7 {x : Nat} (h : x < 128) : blen x ≤ 7 := blen_le.2 (by simpa using h)
def len8 : List UInt8 := [0, 1, 2, 2, 3, 3, 3, 3, 4, 4, 4, 4, 4, 4, 4, 4, 5, 5, 5, 5, 5, 5, 5, 5, 5, 5, 5, 5, 5, 5, 5, 5, 6, 6, 6, 6, 6, 6, 6, 6, 6, 6, 6, 6, 6, 6, 6, 6, 6, 6, 6, 6, 6, 6, 6, 6, 6, 6, 6, 6, 6, 6, 6, 6, 7, 7, 7, 7, 7, 7, 7, 7, 7, 7, 7, 7, 7, 7, 7, 7, 7, 7, 7, 7, 7, 7, 7, 7, 7, 7, 7, 7, 7, 7, 7, 7, 7, 7, 7, 7, 7, 7, 7, 7, 7, 7, 7, 7, 7, 7, 7, 7, 7, 7, 7, 7, 7, 7, 7, 7, 7, 7, 7, 7, 7, 7, 7, 7, 8, 8, 8, 8, 8, 8, 8, 8, 8, 8, 8, 8, 8, 8, 8, 8, 8, 8, 8, 8, 8, 8, 8, 8, 8, 8, 8, 8, 8, 8, 8, 8, 8, 8, 8, 8, 8, 8, 8, 8, 8, 8, 8, 8, 8, 8, 8, 8, 8, 8, 8, 8, 8, 8, 8, 8, 8, 8, 8, 8, 8, 8, 8, 8, 8, 8, 8, 8, 8, 8, 8, 8, 8, 8, 8, 8, 8, 8, 8, 8, 8, 8, 8, 8, 8, 8, 8, 8, 8, 8, 8, 8, 8, 8, 8, 8, 8, 8, 8, 8, 8, 8, 8, 8, 8, 8, 8, 8, 8, 8, 8, 8, 8, 8, 8, 8, 8, 8, 8, 8, 8, 8, 8, 8, 8, 8, 8, 8]
set_option maxRecDepth 100000 in
theorem len8_all : ∀ x : Fin 128, len8[x.1]? = some (UInt8.ofNat (blen x.1)) := by decide +kernel
theorem len8_at {x : Nat} (hx : x < 128) : len8[x]? = some (UInt8.ofNat (blen x)) := len8_all ⟨x, hx⟩
set_option maxRecDepth 100000 in
set_option maxHeartbeats 4000000 in
theorem c_math_bits_Len64 (M : Mem) (x : Nat) (hx : x < 128) : aCall T0 F_math_bits_Len64 [.int .u64 x] M = some (.int .i64 (blen x), M) := by
  have h1 : ¬ (4294967296 : Int) ≤ x := by omega
  have h2 : ¬ (65536 : Int) ≤ x := by omega
  have h3 : ¬ (256 : Int) ≤ x := by omega
  have hb := blen7 hx
  have w1 : IntKind.u8.wrap (x : Int) = x := wrap_u8 (by omega) (by omega)
  have w2 : IntKind.i64.wrap ((blen x : Nat) : Int) = blen x := wrap_i64 (by omega) (by omega)
  have h0 : (0 : Int) ≤ x := by omega
  have w3 : (UInt8.ofNat (blen x)).toNat = blen x := by simp; omega
  have ht := len8_at hx
  unfold len8 at ht
  rw [aCall_eq T_math_bits_Len64]; unfold A_math_bits_Len64 C_math_bits_Len64; simp [thenD_pp, sliceCells_sl, sliceCells_z, sliceCells_nil, take_full, appS_sl, appK_ok, appS_none, thenD_ag, agP_nil, agP_cons, h1, h2, h3, w1, h0]
  simp only [ht]
  simp [thenD_pp, sliceCells_sl, sliceCells_z, sliceCells_nil, take_full, appS_sl, appK_ok, appS_none, thenD_ag, agP_nil, agP_cons, w2, w3, byteV]
theorem c_math_bits_Len (M : Mem) (x : Nat) (hx : x < 128) : aCall T0 F_math_bits_Len [.int .u64 x] M = some (.int .i64 (blen x), M) := by
  have e := fun M => c_math_bits_Len64 M x hx
  rw [aCall_eq T_math_bits_Len]; unfold A_math_bits_Len C_math_bits_Len; simp [thenD_pp, sliceCells_sl, sliceCells_z, sliceCells_nil, take_full, appS_sl, appK_ok, appS_none, thenD_ag, agP_nil, agP_cons, e]
theorem blen_pos {x : Nat} (h : 0 < x) : 1 ≤ blen x := by
  unfold blen
  rw [if_neg (by omega)]
  omega
theorem shr_i64 {x k : Nat} (hx : x < 9223372036854775807) (hk : k ≤ 63) : bshr .i64 (x : Int) (k : Int) = ((x / 2 ^ k : Nat) : Int) := by
  unfold bshr
  have h1 : min ((k : Int).toNat) IntKind.i64.bits = k := by
    have : ((k : Int).toNat) = k := by omega
    rw [this]
    show min k 64 = k
    omega
  rw [h1, Int.fdiv_eq_ediv_of_nonneg _ (by exact_mod_cast Nat.zero_le _)]
  have e : ((2 : Int) ^ k) = ((2 ^ k : Nat) : Int) := by simp
  rw [e]
  rfl
theorem c_impl_nodeAt (M : Mem) (m leaf lv : Nat) (hm : m ≤ 6) (hl : leaf < 2 ^ m) (hv : lv ≤ m) : aCall T0 F_impl_nodeAt [.int .i64 m, .int .i64 leaf, .int .i64 lv] M = some (.int .i64 (((2 ^ m + leaf) / 2 ^ (m - lv) : Nat) : Int), M) := by
  have hp : 2 ^ m ≤ 2 ^ 6 := Nat.pow_le_pow_right (by omega) hm
  have e1 : bshl .i64 1 m = ((2 ^ m : Nat) : Int) := by
    unfold bshl
    have h1 : min ((m : Int).toNat) IntKind.i64.bits = m := by
      have : ((m : Int).toNat) = m := by omega
      rw [this]
      show min m 64 = m
      omega
    rw [h1]
    have e : (1 : Int) * 2 ^ m = ((2 ^ m : Nat) : Int) := by simp
    rw [e]
    exact wrap_i64 (by omega) (by omega)
  have e2 : IntKind.i64.wrap (((2 ^ m : Nat) : Int) + (leaf : Int)) = ((2 ^ m + leaf : Nat) : Int) := by rw [wrap_i64 (by omega) (by omega)]; omega
  have e3 : IntKind.i64.wrap ((m : Int) - (lv : Int)) = ((m - lv : Nat) : Int) := by rw [wrap_i64 (by omega) (by omega)]; omega
  have e4 := shr_i64 (x := 2 ^ m + leaf) (k := m - lv) (by omega) (by omega)
  have h0 : ¬ ((m - lv : Nat) : Int) < 0 := by omega
  have h00 : ¬ (m : Int) < 0 := by omega
  generalize 2 ^ m + leaf = N at *
  generalize (2 : Nat) ^ m = q at *
  generalize m - lv = k at *
  generalize N / 2 ^ k = r at *
  rw [aCall_eq T_impl_nodeAt]; unfold A_impl_nodeAt C_impl_nodeAt; simp [thenD_pp, sliceCells_sl, sliceCells_z, sliceCells_nil, take_full, appS_sl, appK_ok, appS_none, thenD_ag, agP_nil, agP_cons, e1, e2, e3, e4, h0, h00]
theorem c_impl_onPath (M : Mem) (m node leaf : Nat) (hm : m ≤ 6) (hl : leaf < 2 ^ m) (h1 : 1 ≤ node) (h2 : node < 2 * 2 ^ m) : aCall T0 F_impl_onPath [.int .i64 m, .int .i64 node, .int .i64 leaf] M = some (.bool (onP m node leaf), M) := by
  have hp : 2 ^ m ≤ 2 ^ 6 := Nat.pow_le_pow_right (by omega) hm
  have hb : blen node ≤ m + 1 := blen_le.2 (by rw [Nat.pow_succ]; omega)
  have hb1 := blen_pos (x := node) (by omega)
  have e1 : IntKind.u64.wrap (node : Int) = node := wrap_u64 (by omega) (by omega)
  have e2 := fun M => c_math_bits_Len M node (by omega)
  have e3 : IntKind.i64.wrap (((blen node : Nat) : Int) - 1) = ((blen node - 1 : Nat) : Int) := by rw [wrap_i64 (by omega) (by omega)]; omega
  have e4 := fun M => c_impl_nodeAt M m leaf (blen node - 1) hm hl (by omega)
  unfold onP
  generalize (2 ^ m + leaf) / 2 ^ (m - (blen node - 1)) = q at *
  by_cases hq : q = node
  · have hq' : (q : Int) = (node : Int) := by omega
    rw [decide_eq_true hq]
    rw [aCall_eq T_impl_onPath]; unfold A_impl_onPath C_impl_onPath; simp [thenD_pp, sliceCells_sl, sliceCells_z, sliceCells_nil, take_full, appS_sl, appK_ok, appS_none, thenD_ag, agP_nil, agP_cons, e1, e2, e3, e4, hq, hq']
  · have hq' : ¬ (q : Int) = (node : Int) := by omega
    rw [decide_eq_false hq]
    rw [aCall_eq T_impl_onPath]; unfold A_impl_onPath C_impl_onPath; simp [thenD_pp, sliceCells_sl, sliceCells_z, sliceCells_nil, take_full, appS_sl, appK_ok, appS_none, thenD_ag, agP_nil, agP_cons, e1, e2, e3, e4, hq, hq']
theorem first_of {p : Nat → Bool} : ∀ {n : Nat}, (∃ i, i < n ∧ p i = true) → ∃ i, i < n ∧ p i = true ∧ ∀ j, j < i → p j = false
  | 0, ⟨i, hi, _⟩ => by omega
  | n + 1, ⟨i, hi, hp⟩ => by
    by_cases h : ∃ j, j < n ∧ p j = true
    · obtain ⟨j, h1, h2, h3⟩ := first_of h
      exact ⟨j, by omega, h2, h3⟩
    · have e : i = n := by
        apply Classical.byContradiction
        intro hne
        exact h ⟨i, by omega, hp⟩
      subst e
      refine ⟨i, by omega, hp, fun j hj => ?_⟩
      cases hh : p j with
      | false => rfl
      | true => exact absurd ⟨j, hj, hh⟩ h
theorem c_impl_blockIndex_1 (M : Mem) (p : Nat) (id b1 b2 : Int) (ua : Option Addr) (n c : Nat) (hp : rd1 M p 0 = some (.int .i64 id)) : aCall T0 F_impl_blockIndex_1 [.agg (tgB b1 b2 ua n c).toArray, .pointer (some ⟨p, 0, none⟩)] M = some (.bool (decide (b1 = id)), M) := by
  have hp' := fun N : Mem => r1_pre (List.prefix_append M N) hp
  by_cases h : b1 = id
  · rw [decide_eq_true h]
    rw [aCall_eq T_impl_blockIndex_1]; unfold A_impl_blockIndex_1 C_impl_blockIndex_1; simp [hp', h]
  · rw [decide_eq_false h]
    rw [aCall_eq T_impl_blockIndex_1]; unfold A_impl_blockIndex_1 C_impl_blockIndex_1; simp [hp', h]
theorem l_idxB (M : Mem) (p : Nat) (id : Int) (a : Option Addr) (c : Nat) (xs : List ty_Block.D) (h : Rep (.sl ty_Block) M [.slice a xs.length c] xs) (hp : rd1 M p 0 = some (.int .i64 id)) (hn : xs.length ≤ 1048576) (r : Nat) (hr : r ≤ xs.length) (hlt : ∀ k (hk : k < xs.length), k < r → xs[k].1 ≠ id) :
    lp (aCall T0) K_slices_IndexFunc_impl_Block_impl_Block_0 L_slices_IndexFunc_impl_Block_impl_Block_0 [.slice a xs.length c, .func (.func F_impl_blockIndex_1) #[] #[.pointer (some ⟨p, 0, none⟩)], und, und, und, und, und, .int .i64 xs.length, .int .i64 (0 : Nat), und, und, und, und, und, und, und, und, und, und] M = lp (aCall T0) K_slices_IndexFunc_impl_Block_impl_Block_0 L_slices_IndexFunc_impl_Block_impl_Block_0 [.slice a xs.length c, .func (.func F_impl_blockIndex_1) #[] #[.pointer (some ⟨p, 0, none⟩)], und, und, und, und, und, .int .i64 xs.length, .int .i64 r, und, und, und, und, und, und, und, und, und, und] M := by
  have key := loop_to (call := aCall T0) (K := K_slices_IndexFunc_impl_Block_impl_Block_0) (L := L_slices_IndexFunc_impl_Block_impl_Block_0) (fun i (_ : Nat) Y => Y = M) (fun i (_ : Nat) => [.slice a xs.length c, .func (.func F_impl_blockIndex_1) #[] #[.pointer (some ⟨p, 0, none⟩)], und, und, und, und, und, .int .i64 xs.length, .int .i64 i, und, und, und, und, und, und, und, und, und, und]) (n := r) ?_ 0 0 M (by omega) rfl
  · obtain ⟨_, X', rfl, e⟩ := key
    exact e
  intro i _ Y hi hY
  subst hY
  have hix : i < xs.length := by omega
  obtain ⟨l, o, u, rfl, _, _, _, hrd, _, _, qu, _⟩ := at_Block h hix
  have hb := hlt i hix hi
  generalize xs[i] = b at *
  obtain ⟨b1, b2, b3⟩ := b
  simp only at *
  obtain ⟨ua, uc, rfl⟩ := qu.slen
  have s1 := c_impl_blockIndex_1 Y p id b1 b2 ua (List.length (α := UInt8) b3) uc hp
  simp only [tgB] at s1
  rw [decide_eq_false hb] at s1
  have e6 : IntKind.i64.wrap ((i : Int) + 1) = i + 1 := wrap_i64 (by omega) (by omega)
  refine ⟨0, Y, rfl, ?_⟩
  rw [S_slices_IndexFunc_impl_Block_impl_Block_0]; unfold B_slices_IndexFunc_impl_Block_impl_Block_0; simp [thenD_pp, sliceCells_sl, sliceCells_z, sliceCells_nil, take_full, appS_sl, appK_ok, appS_none, thenD_ag, agP_nil, agP_cons, hix, hrd, s1, e6]
theorem c_impl_blockIndex (M : Mem) (v : V) (xs : List ty_Block.D) (id : Int) (h : Rep (.sl ty_Block) M [v] xs) (hn : xs.length ≤ 1048576) : ∃ r : Int, aCall T0 F_impl_blockIndex [v, .int .i64 id] M = some (.int .i64 r, M) ∧ decide (0 ≤ r) = hasId id xs ∧ (0 ≤ r ∨ r = -1) := by
  obtain ⟨a, c, rfl⟩ := h.slen
  have hm := h.mono (List.prefix_append M [(⟨[.int .i64 id], 1, 2⟩ : Blk)])
  have hp : rd1 (M ++ [(⟨[.int .i64 id], 1, 2⟩ : Blk)]) M.length 0 = some (.int .i64 id) := by simp [rd1]
  cases hh : hasId id xs with
  | false =>
    have hlt : ∀ k (hk : k < xs.length), k < xs.length → xs[k].1 ≠ id := fun k hk _ e => by
      have : hasId id xs = true := List.any_eq_true.2 ⟨xs[k], List.getElem_mem hk, decide_eq_true e⟩
      rw [hh] at this
      cases this
    have e := l_idxB _ M.length id a c xs hm hp hn xs.length (Nat.le_refl _) hlt
    simp only [Int.natCast_zero, Int.ofNat_zero] at e
    have e2 : aCall T0 F_slices_IndexFunc_impl_Block_impl_Block [.slice a xs.length c, .func (.func F_impl_blockIndex_1) #[] #[.pointer (some ⟨M.length, 0, none⟩)]] (M ++ [(⟨[.int .i64 id], 1, 2⟩ : Blk)]) = some (.int .i64 (-1), M ++ [(⟨[.int .i64 id], 1, 2⟩ : Blk)]) := by
      rw [aCall_eq T_slices_IndexFunc_impl_Block_impl_Block]; unfold A_slices_IndexFunc_impl_Block_impl_Block C_slices_IndexFunc_impl_Block_impl_Block; simp [thenD_pp, sliceCells_sl, sliceCells_z, sliceCells_nil, take_full, appS_sl, appK_ok, appS_none, thenD_ag, agP_nil, agP_cons, e]
      rw [S_slices_IndexFunc_impl_Block_impl_Block_0]; unfold B_slices_IndexFunc_impl_Block_impl_Block_0; simp [thenD_pp, sliceCells_sl, sliceCells_z, sliceCells_nil, take_full, appS_sl, appK_ok, appS_none, thenD_ag, agP_nil, agP_cons]
    refine ⟨-1, ?_, by simp, .inr rfl⟩
    rw [aCall_eq T_impl_blockIndex]; unfold A_impl_blockIndex C_impl_blockIndex; simp [thenD_pp, sliceCells_sl, sliceCells_z, sliceCells_nil, take_full, appS_sl, appK_ok, appS_none, thenD_ag, agP_nil, agP_cons, e2]
  | true =>
    obtain ⟨b, hb1, hb2⟩ := List.any_eq_true.1 hh
    obtain ⟨i0, hi0, rfl⟩ := List.getElem_of_mem hb1
    obtain ⟨i, hi, hq, hlt⟩ := first_of (p := fun k => match xs[k]? with | some b => decide (b.1 = id) | none => false) (n := xs.length) ⟨i0, hi0, by rw [List.getElem?_eq_getElem hi0]; exact hb2⟩
    rw [List.getElem?_eq_getElem hi] at hq
    have hq : xs[i].1 = id := of_decide_eq_true hq
    have hlt2 : ∀ k (hk : k < xs.length), k < i → xs[k].1 ≠ id := fun k hk hki e => by
      have := hlt k hki
      rw [List.getElem?_eq_getElem hk] at this
      exact absurd e (of_decide_eq_false this)
    have e := l_idxB _ M.length id a c xs hm hp hn i (by omega) hlt2
    simp only [Int.natCast_zero, Int.ofNat_zero] at e
    obtain ⟨l, o, u, rfl, _, _, _, hrd, _, _, qu, _⟩ := at_Block hm hi
    generalize xs[i] = b at *
    obtain ⟨b1, b2, b3⟩ := b
    simp only at *
    obtain ⟨ua, uc, rfl⟩ := qu.slen
    have s1 := c_impl_blockIndex_1 _ M.length id b1 b2 ua (List.length (α := UInt8) b3) uc hp
    simp only [tgB] at s1
    rw [decide_eq_true hq] at s1
    have e2 : aCall T0 F_slices_IndexFunc_impl_Block_impl_Block [.slice (some ⟨l, o, none⟩) xs.length c, .func (.func F_impl_blockIndex_1) #[] #[.pointer (some ⟨M.length, 0, none⟩)]] (M ++ [(⟨[.int .i64 id], 1, 2⟩ : Blk)]) = some (.int .i64 (i : Int), M ++ [(⟨[.int .i64 id], 1, 2⟩ : Blk)]) := by
      rw [aCall_eq T_slices_IndexFunc_impl_Block_impl_Block]; unfold A_slices_IndexFunc_impl_Block_impl_Block C_slices_IndexFunc_impl_Block_impl_Block; simp [thenD_pp, sliceCells_sl, sliceCells_z, sliceCells_nil, take_full, appS_sl, appK_ok, appS_none, thenD_ag, agP_nil, agP_cons, e]
      rw [S_slices_IndexFunc_impl_Block_impl_Block_0]; unfold B_slices_IndexFunc_impl_Block_impl_Block_0; simp [thenD_pp, sliceCells_sl, sliceCells_z, sliceCells_nil, take_full, appS_sl, appK_ok, appS_none, thenD_ag, agP_nil, agP_cons, hi, hrd, s1]
    refine ⟨i, ?_, by simp, .inl (by omega)⟩
    rw [aCall_eq T_impl_blockIndex]; unfold A_impl_blockIndex C_impl_blockIndex; simp [thenD_pp, sliceCells_sl, sliceCells_z, sliceCells_nil, take_full, appS_sl, appK_ok, appS_none, thenD_ag, agP_nil, agP_cons, e2]
theorem lbB_le (id : Int) : ∀ (xs : List ty_Block.D), lbB id xs ≤ xs.length
  | [] => by simp [lbB]
  | b :: xs => by
    have ih := lbB_le id xs
    unfold lbB at ih ⊢
    by_cases h : b.1 < id
    · simp only [List.takeWhile_cons, decide_eq_true h, if_true, List.length_cons]; omega
    · simp only [List.takeWhile_cons, decide_eq_false h, Bool.false_eq_true, if_false, List.length_nil]; omega
theorem lbB_low (id : Int) : ∀ (xs : List ty_Block.D) (k : Nat) (hk : k < xs.length), k < lbB id xs → xs[k].1 < id
  | [], k, hk, _ => by simp at hk
  | b :: xs, k, hk, h => by
    unfold lbB at h
    by_cases hb : b.1 < id
    · simp only [List.takeWhile_cons, decide_eq_true hb, if_true, List.length_cons] at h
      cases k with
      | zero => exact hb
      | succ k => exact lbB_low id xs k (by simpa using hk) (by unfold lbB; omega)
    · simp only [List.takeWhile_cons, decide_eq_false hb, Bool.false_eq_true, if_false, List.length_nil] at h
      omega
theorem lbB_up (id : Int) : ∀ (xs : List ty_Block.D) (h : lbB id xs < xs.length), ¬ (xs[lbB id xs]).1 < id
  | [], h => by simp at h
  | b :: xs, h => by
    by_cases hb : b.1 < id
    · have e : lbB id (b :: xs) = lbB id xs + 1 := by
        unfold lbB
        simp only [List.takeWhile_cons, decide_eq_true hb, if_true, List.length_cons]
      have h2 : lbB id xs < xs.length := by rw [e] at h; simpa using h
      have ih := lbB_up id xs h2
      have : (b :: xs)[lbB id (b :: xs)] = xs[lbB id xs] := by
        simp only [e]
        rfl
      rw [this]
      exact ih
    · have e : lbB id (b :: xs) = 0 := by
        unfold lbB
        simp only [List.takeWhile_cons, decide_eq_false hb, Bool.false_eq_true, if_false, List.length_nil]
      have : (b :: xs)[lbB id (b :: xs)] = b := by
        simp only [e]
        rfl
      rw [this]
      exact hb
theorem ids_ne {id : Int} {xs : List ty_Block.D} (h : hasId id xs = false) : ∀ c ∈ xs, c.1 ≠ id := fun c hc e => by
  have : hasId id xs = true := List.any_eq_true.2 ⟨c, hc, decide_eq_true e⟩
  rw [h] at this
  cases this
theorem insL_len (b : ty_Block.D) (ys : List ty_Block.D) : (insL b ys).length = ys.length + 1 := by
  unfold insL
  have := lbB_le b.1 ys
  simp only [List.length_append, List.length_take, List.length_cons, List.length_drop]
  omega
theorem putL_len (b : ty_Block.D) (xs : List ty_Block.D) : (putL b xs).length = (withoutL b.1 xs).length + 1 := insL_len _ _
theorem putL_new {b : ty_Block.D} {xs : List ty_Block.D} (h : hasId b.1 xs = false) : putL b xs = insL b xs ∧ (putL b xs).length = xs.length + 1 := by
  have e := without_same (ids_ne h)
  refine ⟨by unfold putL; rw [e], by rw [putL_len, e]⟩
theorem putL_lt {b : ty_Block.D} {xs : List ty_Block.D} (hs : IdLt xs) (h : hasId b.1 xs = false) : IdLt (putL b xs) := by
  rw [(putL_new h).1]
  unfold insL
  have hle := lbB_le b.1 xs
  have h1 := lbB_low b.1 xs
  have h2 := lbB_up b.1 xs
  generalize lbB b.1 xs = r at *
  have ha : ∀ c ∈ xs.take r, c.1 < b.1 := fun c hc => by
    obtain ⟨k, hk, rfl⟩ := List.getElem_of_mem hc
    rw [List.length_take] at hk
    rw [List.getElem_take]
    exact h1 k (by omega) (by omega)
  have hb : ∀ c ∈ xs.drop r, b.1 < c.1 := fun c hc => by
    obtain ⟨k, hk, rfl⟩ := List.getElem_of_mem hc
    rw [List.length_drop] at hk
    rw [List.getElem_drop]
    have hr : r < xs.length := by omega
    have h3 := h2 hr
    have h4 := ids_ne h _ (List.getElem_mem hr)
    have h5 : b.1 < xs[r].1 := Int.lt_iff_le_and_ne.2 ⟨Int.not_lt.1 h3, fun e => h4 e.symm⟩
    by_cases hk0 : k = 0
    · subst hk0; exact h5
    · exact Int.lt_trans h5 (sorted_above hs hr _ (by omega) (by omega))
  unfold IdLt
  refine List.pairwise_append.2 ⟨hs.sublist (List.take_sublist _ _), List.pairwise_cons.2 ⟨hb, hs.sublist (List.drop_sublist _ _)⟩, fun a h7 c hc => ?_⟩
  rcases List.mem_cons.1 hc with rfl | hc
  · exact ha a h7
  · exact Int.lt_trans (ha a h7) (hb c hc)
theorem insL_mem {b c : ty_Block.D} {ys : List ty_Block.D} (h : c ∈ insL b ys) : c = b ∨ c ∈ ys := by
  unfold insL at h
  rcases List.mem_append.1 h with h | h
  · exact .inr (List.mem_of_mem_take h)
  · rcases List.mem_cons.1 h with h | h
    · exact .inl h
    · exact .inr (List.mem_of_mem_drop h)
theorem putL_ids {b : ty_Block.D} {xs : List ty_Block.D} (hs : IdsR xs) (hb : 0 ≤ b.1 ∧ b.1 ≤ 255) : IdsR (putL b xs) := fun x hx => by
  unfold putL at hx
  rcases insL_mem hx with rfl | h
  · exact hb
  · exact hs x (List.mem_filter.1 h).1
theorem flat_atr {w : Nat} : ∀ (css : List (List V)) (i : Nat) (hi : i < css.length) (r : List V), (∀ c ∈ css, c.length = w) → ((css.flatten ++ r).drop (i * w)).take w = css[i] := by
  intro css
  induction css with
  | nil => intro i hi; simp at hi
  | cons c cs ih =>
    intro i hi r hc
    cases i with
    | zero =>
      rw [Nat.zero_mul, List.drop_zero, List.flatten_cons, List.append_assoc, List.take_left' (hc c (by simp))]
      rfl
    | succ i =>
      rw [List.flatten_cons, Nat.add_mul, Nat.one_mul, Nat.add_comm, ← List.drop_drop, List.append_assoc, List.drop_left' (hc c (by simp))]
      exact ih i (by simpa using hi) r (fun d hd => hc d (by simp [hd]))
set_option maxHeartbeats 2000000 in
theorem s_oramBlocks_1 (M : Mem) (p m nd0 : Nat) (a76 n77 i78 : V) (bs : List ty_Block.D) (l2 : Nat) (css : List (List V)) (Ls : List (List Nat)) (i : Nat) (hi : i < bs.length) (hp : rd1 M p 0 = some (.int .i64 (m : Int))) (hm : m ≤ 6) (hnd : nd0 + 1 < 2 * 2 ^ m) (h1 : css.length = bs.length) (h2 : Ls.length = bs.length) (hw : ∀ c ∈ css, c.length = 3)
    (hbs : ∀ b ∈ bs, (0 ≤ b.1 ∧ b.1 ≤ 255) ∧ b.2.1 = ((Int.toNat b.2.1 : Nat) : Int) ∧ Int.toNat b.2.1 < 2 ^ m) (hnl : bs.length ≤ 4) (hnd2 : Ls.flatten.Nodup) (hj : ∀ (a b : Nat) (A B : List Nat), a ≠ b → Ls[a]? = some A → Ls[b]? = some B → ∀ j ∈ A, j ∉ B)
    (all : List ty_Block.D) (hal : all.length ≤ 5000) (v : V) (X : Mem) (h : InI M bs l2 css Ls i all v X) :
    ((onP m (nd0 + 1) (Int.toNat bs[i].2.1) && !(hasId bs[i].1 all)) = true ∧ ∃ v' X', InI M bs l2 css Ls (i + 1) (putL bs[i] all) v' X' ∧ lp (aCall T0) K_impl_oramBlocks_1 L_impl_oramBlocks_1 (FoB p v nd0 a76 n77 i78 l2 bs.length i) X = lp (aCall T0) K_impl_oramBlocks_1 L_impl_oramBlocks_1 (FoB p v' nd0 a76 n77 i78 l2 bs.length (i + 1)) X') ∨
    ((onP m (nd0 + 1) (Int.toNat bs[i].2.1) && !(hasId bs[i].1 all)) = false ∧ RtF M (lp (aCall T0) K_impl_oramBlocks_1 L_impl_oramBlocks_1 (FoB p v nd0 a76 n77 i78 l2 bs.length i) X)) := by
  obtain ⟨L, g, nd, hge, hdis⟩ := h.gr
  have hp6 : 2 ^ m ≤ 2 ^ 6 := Nat.pow_le_pow_right (by omega) hm
  have hki := hbs _ (List.getElem_mem hi)
  have hds := h.el i (css[i]'(by omega)) bs[i] (Ls[i]'(by omega)) (Nat.le_refl _) (by simp) (by simp) (by simp)
  have hfl : css.flatten.length = bs.length * 3 := by rw [flat_len hw, h1]
  have hrd : rdn X l2 (i * 3) 3 = some (css[i]'(by omega)) := by
    have := flat_atr (w := 3) css i (by omega) [] hw
    simp only [rdn, h.hb]
    rw [List.append_nil] at this
    rw [if_pos (by refine ⟨by simp, by omega⟩), this]
  obtain ⟨gb, gk⟩ := hds
  obtain ⟨u, hu, w0, w1, qu⟩ := rep_g_Block gb.rep
  obtain ⟨ua, uc, rfl⟩ := qu.slen
  have hon : ∀ Y, aCall T0 F_impl_onPath [.int .i64 m, .int .i64 ((nd0 : Int) + 1), .int .i64 (Int.toNat bs[i].2.1 : Int)] Y = some (.bool (onP m (nd0 + 1) (Int.toNat bs[i].2.1)), Y) := fun Y => c_impl_onPath Y m (nd0 + 1) (Int.toNat bs[i].2.1) hm (by exact hki.2.2) (by omega) hnd
  obtain ⟨a, rfl⟩ := g.shape
  have e6 : IntKind.i64.wrap ((i : Int) + 1) = i + 1 := wrap_i64 (by omega) (by omega)
  have e7 : IntKind.i64.wrap ((nd0 : Int) + 1) = nd0 + 1 := wrap_i64 (by omega) (by omega)
  have hp' := fun N : Mem => r1_pre (h.pre.trans (List.prefix_append X N)) hp
  rw [hu] at hrd gb
  have hlf := hki.2.1
  have hidR := hki.1
  have hnbi := hdis
  generalize hbi : bs[i] = b at *
  obtain ⟨b1, b2, b3⟩ := b
  simp only at hlf hidR hon hrd gb w0 w1 qu ⊢
  generalize Int.toNat b2 = lf at *
  subst hlf
  have hxp : X <+: X ++ [(⟨[.int .i64 b1, .int .i64 (lf : Int), .slice ua (List.length (α := UInt8) b3) uc], 1, 2⟩ : Blk)] := List.prefix_append _ _
  obtain ⟨r, hr1, hr2, hr3⟩ := c_impl_blockIndex _ _ all b1 (g.grow hxp).rep (by omega)
  have hpr : rdn (X ++ [(⟨[.int .i64 b1, .int .i64 (lf : Int), .slice ua (List.length (α := UInt8) b3) uc], 1, 2⟩ : Blk)]) X.length 0 3 = some [.int .i64 b1, .int .i64 (lf : Int), .slice ua (List.length (α := UInt8) b3) uc] := rdn_box (by simp) rfl
  cases h3 : onP m (nd0 + 1) lf with
  | false =>
    rw [h3] at hon
    right
    refine ⟨rfl, ?_⟩
    rw [S_impl_oramBlocks_1]; unfold B_impl_oramBlocks_1; simp [thenD_pp, sliceCells_sl, sliceCells_z, sliceCells_nil, take_full, appS_sl, appK_ok, appS_none, thenD_ag, agP_nil, agP_cons, hi, hrd, hp', e7, hon, zeroCells]
    refine ⟨_, _, rfl, ?_, h.pre.trans hxp⟩
    rfl
  | true =>
    rw [h3] at hon
    cases h4 : hasId b1 all with
    | true =>
      rw [h4] at hr2
      have hr2 := of_decide_eq_true hr2
      right
      refine ⟨rfl, ?_⟩
      rw [S_impl_oramBlocks_1]; unfold B_impl_oramBlocks_1; simp [thenD_pp, sliceCells_sl, sliceCells_z, sliceCells_nil, take_full, appS_sl, appK_ok, appS_none, thenD_ag, agP_nil, agP_cons, hi, hrd, hp', e7, hon, hr1, hr2, zeroCells]
      refine ⟨_, _, rfl, ?_, h.pre.trans hxp⟩
      rfl
    | false =>
      rw [h4] at hr2
      have hr2 : ¬ 0 ≤ r := of_decide_eq_false hr2
      have hB := c_impl_blockPut _ (.slice a all.length all.length) all L [.int .i64 b1, .int .i64 (lf : Int), .slice ua (List.length (α := UInt8) b3) uc] (b1, (lf : Int), b3) _ (g.grow hxp) (gb.grow hxp) (fun j hj hm => by
        have q1 := (hdis j hm).2 i _ (Nat.le_refl _) (List.getElem?_eq_getElem (by omega))
        exact q1 hj) nd (gr_Block_nd gb) (by omega) h.lt h.rg hidR
      left
      refine ⟨rfl, ?_⟩
      rw [S_impl_oramBlocks_1]; unfold B_impl_oramBlocks_1; simp [thenD_pp, sliceCells_sl, sliceCells_z, sliceCells_nil, take_full, appS_sl, appK_ok, appS_none, thenD_ag, agP_nil, agP_cons, hi, hrd, hp', e7, hon, hr1, hr2, hpr, zeroCells]
      generalize hx : aCall T0 F_impl_blockPut _ _ = xhx
      obtain ⟨v3, X3, rfl, L3, g3, n3, hL3, ag, hl3⟩ := of_call hx hB
      clear hx
      simp only at g3 ag hl3
      simp [thenD_pp, sliceCells_sl, sliceCells_z, sliceCells_nil, take_full, appS_sl, appK_ok, appS_none, thenD_ag, agP_nil, agP_cons, e6]
      have hlX := get_lt h.hb
      have hlen : (X ++ [(⟨[.int .i64 b1, .int .i64 (lf : Int), .slice ua (List.length (α := UInt8) b3) uc], 1, 2⟩ : Blk)]).length = X.length + 1 := by simp
      have hL2 : l2 ∉ L := fun hm => (hdis l2 hm).1 rfl
      have hpM := (h.pre.trans hxp).length_le
      have hgetL : Ls[i]? = some (Ls[i]'(by omega)) := List.getElem?_eq_getElem (by omega)
      refine ⟨v3, X3, ⟨ag.pre (h.pre.trans hxp) hge, ⟨L3, g3, n3, fun j hm => ?_, fun j hm => ?_⟩, ?_, ?_, putL_lt h.lt h4, putL_ids h.rg hidR⟩, rfl⟩
      · rcases hL3 j hm with q | q | q
        · exact hge j q
        · exact (gk j q).1
        · have := h.pre.length_le; omega
      · rcases hL3 j hm with q | q | q
        · exact ⟨(hdis j q).1, fun k K hk hK => (hdis j q).2 k K (by omega) hK⟩
        · exact ⟨(gk j q).2, fun k K hk hK => hj i k _ K (by omega) hgetL hK j q⟩
        · refine ⟨by omega, fun k K hk hK hjK => ?_⟩
          have hk2 : k < Ls.length := (List.getElem?_eq_some_iff.1 hK).1
          have := (h.el k (css[k]'(by omega)) (bs[k]'(by omega)) K (by omega) (List.getElem?_eq_getElem (by omega)) (List.getElem?_eq_getElem (by omega)) hK).1.lt j hjK
          omega
      · rw [ag.2 l2 (by omega) hL2]
        exact get_pre hxp h.hb
      · intro k ds x K hk hd hx hK
        obtain ⟨q1, q2⟩ := h.el k ds x K (by omega) hd hx hK
        exact ⟨(q1.grow hxp).agree ag (fun j hm hmL => (hdis j hmL).2 k K (by omega) hK hm), q2⟩
theorem int_lt_len {xs : List Int} (h : xs.Pairwise (· < ·)) (hr : ∀ y ∈ xs, 0 ≤ y ∧ y ≤ 255) : xs.length ≤ 256 := by
  have key : ∀ i (hi : i < xs.length), (i : Int) ≤ xs[i] := by
    intro i
    induction i with
    | zero => intro hi; exact (hr _ (List.getElem_mem hi)).1
    | succ i ih =>
      intro hi
      have h1 := ih (by omega)
      have h2 := List.pairwise_iff_getElem.1 h i (i + 1) (by omega) hi (by omega)
      omega
  by_cases h0 : xs.length = 0
  · omega
  · have h1 := key (xs.length - 1) (by omega)
    have h2 := (hr _ (List.getElem_mem (show xs.length - 1 < xs.length by omega))).2
    omega
theorem lt_len {xs : List ty_Block.D} (h : IdLt xs) (hr : IdsR xs) : xs.length ≤ 256 := by
  have := int_lt_len (xs := xs.map fun b => (b.1 : Int)) ((List.pairwise_map (f := fun b : ty_Block.D => (b.1 : Int)) (R := (· < ·))).2 h) (fun y hy => by
    obtain ⟨b, hb, rfl⟩ := List.mem_map.1 hy
    exact hr b hb)
  simpa using this
theorem l_oramBlocks_1 (M : Mem) (p m nd0 : Nat) (a76 n77 i78 : V) (bs : List ty_Block.D) (l2 : Nat) (css : List (List V)) (Ls : List (List Nat)) (hp : rd1 M p 0 = some (.int .i64 (m : Int))) (hm : m ≤ 6) (hnd : nd0 + 1 < 2 * 2 ^ m) (h1 : css.length = bs.length) (h2 : Ls.length = bs.length) (hw : ∀ c ∈ css, c.length = 3)
    (hbs : ∀ b ∈ bs, (0 ≤ b.1 ∧ b.1 ≤ 255) ∧ b.2.1 = ((Int.toNat b.2.1 : Nat) : Int) ∧ Int.toNat b.2.1 < 2 ^ m) (hnl : bs.length ≤ 4) (hnd2 : Ls.flatten.Nodup) (hj : ∀ (a b : Nat) (A B : List Nat), a ≠ b → Ls[a]? = some A → Ls[b]? = some B → ∀ j ∈ A, j ∉ B) :
    ∀ (d i : Nat), i + d = bs.length → ∀ (all : List ty_Block.D) (v : V) (X : Mem), InI M bs l2 css Ls i all v X →
    (∃ all' v' X', inO m (nd0 + 1) all (bs.drop i) = some all' ∧ InI M bs l2 css Ls bs.length all' v' X' ∧ lp (aCall T0) K_impl_oramBlocks_1 L_impl_oramBlocks_1 (FoB p v nd0 a76 n77 i78 l2 bs.length i) X = lp (aCall T0) K_impl_oramBlocks_1 L_impl_oramBlocks_1 (FoB p v' nd0 a76 n77 i78 l2 bs.length bs.length) X') ∨
    (inO m (nd0 + 1) all (bs.drop i) = none ∧ RtF M (lp (aCall T0) K_impl_oramBlocks_1 L_impl_oramBlocks_1 (FoB p v nd0 a76 n77 i78 l2 bs.length i) X))
  | 0, i, hd, all, v, X, h => by
    have e : i = bs.length := by omega
    subst e
    exact .inl ⟨all, v, X, by simp [inO], h, rfl⟩
  | d + 1, i, hd, all, v, X, h => by
    have hi : i < bs.length := by omega
    have hlen := lt_len h.lt h.rg
    have hdr : bs.drop i = bs[i] :: bs.drop (i + 1) := List.drop_eq_getElem_cons hi
    rw [hdr]
    unfold inO
    rcases s_oramBlocks_1 M p m nd0 a76 n77 i78 bs l2 css Ls i hi hp hm hnd h1 h2 hw hbs hnl hnd2 hj all (by omega) v X h with ⟨q, v', X', h', e⟩ | ⟨q, r⟩
    · rw [if_pos q, e]
      exact l_oramBlocks_1 M p m nd0 a76 n77 i78 bs l2 css Ls hp hm hnd h1 h2 hw hbs hnl hnd2 hj d (i + 1) (by omega) _ v' X' h'
    · rw [if_neg (by rw [q]; simp)]
      exact .inr ⟨rfl, r⟩
theorem leafs_of {m : Nat} {w : Int} {bs : List ty_Block.D} (h : blocksB m w bs = true) : ∀ b ∈ bs, (0 ≤ b.1 ∧ b.1 ≤ 255) ∧ b.2.1 = ((Int.toNat b.2.1 : Nat) : Int) ∧ Int.toNat b.2.1 < 2 ^ m := by
  intro b hb
  refine ⟨ids_of h b hb, ?_⟩
  have h1 := blocks_of h b hb
  unfold blockB at h1
  simp only [Bool.and_eq_true] at h1
  exact leaf_nat h1.2.2.1
theorem in_bs {M X : Mem} {w : V} {bs : List ty_Block.D} {K : List Nat} (hp : M <+: X) (h : Gr (.sl ty_Block) X [w] bs K) (nd : K.Nodup) (hK : ∀ j ∈ K, M.length ≤ j) (hne : bs ≠ []) : ∃ l2 css Ls, w = .slice (some ⟨l2, 0, none⟩) bs.length bs.length ∧ css.length = bs.length ∧ Ls.length = bs.length ∧ (∀ c ∈ css, c.length = 3) ∧ (∀ (a b : Nat) (A B : List Nat), a ≠ b → Ls[a]? = some A → Ls[b]? = some B → ∀ j ∈ A, j ∉ B) ∧ Ls.flatten.Nodup ∧ K = l2 :: Ls.flatten ∧
    ∀ (all : List ty_Block.D) (v : V) (L : List Nat), Gr (.sl ty_Block) X [v] all L → L.Nodup → (∀ j ∈ L, M.length ≤ j) → (∀ j ∈ L, j ∉ K) → IdLt all → IdsR all → InI M bs l2 css Ls 0 all v X := by
  rcases h with ⟨_, rfl, _⟩ | ⟨l2, css, Ls, e, hb, h1, h2, h3, rfl⟩
  · exact absurd rfl hne
  cases e
  have hnd := List.nodup_cons.1 nd
  have hfl := hnd.2
  have hw : ∀ c ∈ css, c.length = 3 := fun c hc => by
    obtain ⟨k, hk, rfl⟩ := List.getElem_of_mem hc
    exact (h3 k _ (bs[k]'(by omega)) (Ls[k]'(by omega)) (by simp) (by simp) (by simp)).len
  refine ⟨l2, css, Ls, rfl, h1, h2, hw, ?_, hfl, rfl, fun all v L g1 g2 g3 g4 g5 g6 => ⟨hp, ⟨L, g1, g2, g3, fun j hj => ⟨fun e => g4 j hj (by rw [e]; exact List.mem_cons_self ..), fun k K _ hK hm => g4 j hj (List.mem_cons_of_mem _ (List.mem_flatten.2 ⟨K, List.mem_of_getElem? hK, hm⟩))⟩⟩, hb, fun k ds x K _ q1 q2 q3 => ⟨h3 k ds x K q1 q2 q3, fun j hj => ⟨hK j (List.mem_cons_of_mem _ (List.mem_flatten.2 ⟨K, List.mem_of_getElem? q3, hj⟩)), fun e => hnd.1 (by rw [← e]; exact List.mem_flatten.2 ⟨K, List.mem_of_getElem? q3, hj⟩)⟩⟩, g5, g6⟩⟩
  intro a b A B hab hA hB j hjA hjB
  have hfl := List.pairwise_flatten.1 hfl
  obtain ⟨ha, rfl⟩ := List.getElem?_eq_some_iff.1 hA
  obtain ⟨hb2, rfl⟩ := List.getElem?_eq_some_iff.1 hB
  have hpw := List.pairwise_iff_getElem.1 hfl.2
  rcases Nat.lt_or_ge a b with h | h
  · exact hpw a b ha hb2 h j hjA j hjB rfl
  · exact hpw b a hb2 ha (by omega) j hjB j hjA rfl
theorem sto_some {M : Mem} {Lp : List V → Mem → R} {F : V → List V} {o : Option (List ty_Block.D)} {a : List ty_Block.D} {r : R} (ho : o = some a) (h : ∃ v' X', OuI M a v' X' ∧ r = Lp (F v') X') : StO M Lp F o r := by subst ho; exact h
theorem sto_none {M : Mem} {Lp : List V → Mem → R} {F : V → List V} {o : Option (List ty_Block.D)} {r : R} (ho : o = none) (h : RtF M r) : StO M Lp F o r := by subst ho; exact h
set_option maxHeartbeats 2000000 in
theorem s_oramBlocks_0 (M : Mem) (p m : Nat) (w : Int) (aC : Option Addr) (cC : Nat) (cells : List ty_Cell.D) (hC : Rep (.sl ty_Cell) M [.slice aC cells.length cC] cells) (i : Nat) (hi : i < cells.length) (hp : rd1 M p 0 = some (.int .i64 (m : Int))) (hpw : rd1 M p 1 = some (.int .i64 w)) (hm : m ≤ 6) (hlen : cells.length + 1 = 2 * 2 ^ m) (hsz : ∀ c ∈ cells, List.length (α := UInt8) c ≤ 1048576)
    (all : List ty_Block.D) (v : V) (X : Mem) (h : OuI M all v X) :
    StO M (lp (aCall T0) K_impl_oramBlocks_0 L_impl_oramBlocks_0) (FoOn p aC cells.length cC (i + 1)) (nxO m w (i + 1) cells[i] all) (lp (aCall T0) K_impl_oramBlocks_0 L_impl_oramBlocks_0 (FoO p v aC cells.length cC i) X) := by
  obtain ⟨L, g, nd, hge⟩ := h.gr
  obtain ⟨l, o, u, rfl, hrd, hrn, hu⟩ := at_Cell (hC.mono h.pre) hi
  have hszi := hsz _ (List.getElem_mem hi)
  have hp6 : 2 ^ m ≤ 2 ^ 6 := Nat.pow_le_pow_right (by omega) hm
  obtain ⟨ua, uc, rfl⟩ := hu.slen
  generalize hcl : cells[i] = c at *
  have e6 : IntKind.i64.wrap ((i : Int) + 1) = i + 1 := wrap_i64 (by omega) (by omega)
  have hp' := fun N : Mem => r1_pre (h.pre.trans (List.prefix_append X N)) hp
  have hpw' := fun N : Mem => r1_pre (h.pre.trans (List.prefix_append X N)) hpw
  have hNR := c_impl_nodeRead (X ++ [(⟨[.slice ua (List.length (α := UInt8) c) uc], 1, 2⟩ : Blk)]) (.slice ua (List.length (α := UInt8) c) uc) c m w (hu.mono (List.prefix_append _ _)) hszi
  rw [S_impl_oramBlocks_0]; unfold B_impl_oramBlocks_0; simp [thenD_pp, sliceCells_sl, sliceCells_z, sliceCells_nil, take_full, appS_sl, appK_ok, appS_none, thenD_ag, agP_nil, agP_cons, hi, hrd, hrn, hp', hpw', zeroCells]
  generalize hx : aCall T0 F_impl_nodeRead _ _ = xhx
  obtain ⟨_, X1, rfl, r, L1, rfl, p1, g1, n1, k1⟩ := of_call hx hNR
  clear hx
  simp only at p1 g1
  have pX : X <+: X1 := (List.prefix_append _ _).trans p1
  have pM := h.pre.trans pX
  have hk1 : ∀ j ∈ L1, X.length ≤ j := fun j hj => by have := k1 j hj; simp at this; omega
  unfold nxO
  cases hok : ndOk m w c with
  | false =>
    refine sto_none (by simp) ?_
    simp [thenD_pp, sliceCells_sl, sliceCells_z, sliceCells_nil, take_full, appS_sl, appK_ok, appS_none, thenD_ag, agP_nil, agP_cons]
    refine ⟨_, _, rfl, ?_, pM⟩
    rfl
  | true =>
    have hx : ndX m w c = ndB (Int.toNat w) c := by unfold ndX; rw [if_pos hok]
    have hbl : blocksB m w (ndB (Int.toNat w) c) = true := by
      unfold ndOk at hok
      simp only [Bool.and_eq_true] at hok
      exact hok.2.2.1
    have hbs := leafs_of hbl
    have hnl := ndB_len (Int.toNat w) c
    rw [hx] at g1
    rw [if_pos rfl]
    generalize ndB (Int.toNat w) c = bs at *
    obtain ⟨a1, rfl⟩ := g1.shape
    have g' := g.grow pX
    by_cases hne : bs = []
    · subst hne
      refine sto_some (a := all) rfl ?_
      simp only [List.length_nil]
      simp [thenD_pp, sliceCells_sl, sliceCells_z, sliceCells_nil, take_full, appS_sl, appK_ok, appS_none, thenD_ag, agP_nil, agP_cons]
      rw [S_impl_oramBlocks_1]; unfold B_impl_oramBlocks_1; simp [thenD_pp, sliceCells_sl, sliceCells_z, sliceCells_nil, take_full, appS_sl, appK_ok, appS_none, thenD_ag, agP_nil, agP_cons, e6]
      exact ⟨_, X1, ⟨pM, ⟨L, g', nd, hge⟩, h.lt, h.rg⟩, rfl⟩
    · obtain ⟨l2, css, Ls, e, h1, h2, hw, hj, hfl, rfl, hI⟩ := in_bs pM g1 n1 (fun j hj => by have := hk1 j hj; have := h.pre.length_le; omega) hne
      cases e
      have hI0 := hI all v L g' nd hge (fun j hj hm => by have := hk1 j hm; have := g.lt j hj; omega) h.lt h.rg
      have key := l_oramBlocks_1 M p m i (.slice (some ⟨l, o, none⟩) cells.length cC) (.int .i64 cells.length) (.int .i64 i) bs l2 css Ls hp hm (by omega) h1 h2 hw hbs hnl hfl hj bs.length 0 (by omega) all v X1 hI0
      rw [List.drop_zero] at key
      simp only [FoB, Int.natCast_zero, Int.ofNat_zero] at key
      rcases key with ⟨all', v', X', q1, q2, e⟩ | ⟨q1, fr, X', e, q2, q3⟩
      · refine sto_some q1 ?_
        simp [thenD_pp, sliceCells_sl, sliceCells_z, sliceCells_nil, take_full, appS_sl, appK_ok, appS_none, thenD_ag, agP_nil, agP_cons, e]
        rw [S_impl_oramBlocks_1]; unfold B_impl_oramBlocks_1; simp [thenD_pp, sliceCells_sl, sliceCells_z, sliceCells_nil, take_full, appS_sl, appK_ok, appS_none, thenD_ag, agP_nil, agP_cons, e6]
        obtain ⟨L', g2, n2, k2, _⟩ := q2.gr
        exact ⟨_, X', ⟨q2.pre, ⟨L', g2, n2, k2⟩, q2.lt, q2.rg⟩, rfl⟩
      · refine sto_none q1 ?_
        simp [thenD_pp, sliceCells_sl, sliceCells_z, sliceCells_nil, take_full, appS_sl, appK_ok, appS_none, thenD_ag, agP_nil, agP_cons, e]
        exact ⟨fr, X', rfl, q2, q3⟩
theorem l_oramBlocks_0 (M : Mem) (p m : Nat) (w : Int) (aC : Option Addr) (cC : Nat) (cells : List ty_Cell.D) (hC : Rep (.sl ty_Cell) M [.slice aC cells.length cC] cells) (hp : rd1 M p 0 = some (.int .i64 (m : Int))) (hpw : rd1 M p 1 = some (.int .i64 w)) (hm : m ≤ 6) (hlen : cells.length + 1 = 2 * 2 ^ m) (hsz : ∀ c ∈ cells, List.length (α := UInt8) c ≤ 1048576) :
    ∀ (d i : Nat), i + d = cells.length → ∀ (all : List ty_Block.D) (v : V) (X : Mem), OuI M all v X →
    StO M (lp (aCall T0) K_impl_oramBlocks_0 L_impl_oramBlocks_0) (FoOn p aC cells.length cC cells.length) (outO m w (i + 1) (cells.drop i) all) (lp (aCall T0) K_impl_oramBlocks_0 L_impl_oramBlocks_0 (FoO p v aC cells.length cC i) X)
  | 0, i, hd, all, v, X, h => by
    have e : i = cells.length := by omega
    subst e
    rw [List.drop_length]
    exact ⟨v, X, h, rfl⟩
  | d + 1, i, hd, all, v, X, h => by
    have hi : i < cells.length := by omega
    have hdr : cells.drop i = cells[i] :: cells.drop (i + 1) := List.drop_eq_getElem_cons hi
    rw [hdr]
    have key := s_oramBlocks_0 M p m w aC cC cells hC i hi hp hpw hm hlen hsz all v X h
    unfold outO
    unfold nxO at key
    by_cases hok : ndOk m w cells[i] = true
    · rw [if_pos hok] at key ⊢
      cases hq : inO m (i + 1) all (ndB (Int.toNat w) cells[i]) with
      | none =>
        rw [hq] at key
        exact key
      | some a =>
        rw [hq] at key
        obtain ⟨v', X', h', e⟩ := key
        rw [e]
        exact l_oramBlocks_0 M p m w aC cC cells hC hp hpw hm hlen hsz d (i + 1) (by omega) a v' X' h'
    · rw [if_neg hok] at key ⊢
      exact key
def OrV (M : Mem) (o : Option (List ty_Block.D)) (p : V × Mem) : Prop := ∃ r L, p.1 = .tuple #[r, .bool o.isSome] ∧ M <+: p.2 ∧ Gr (.sl ty_Block) p.2 [r] (o.getD []) L ∧ L.Nodup ∧ ∀ j ∈ L, M.length ≤ j
theorem mem_bnd {m : ty_Mem.D} (h : memB m = true) : m.2.1.length ≤ 128 ∧ m.2.2.length ≤ 6000 ∧ ∀ c ∈ m.2.1, List.length (α := UInt8) c ≤ 1000 := by
  unfold memB mem0 at h
  simp only [Bool.and_eq_true, decide_eq_true_eq] at h
  obtain ⟨⟨⟨h1, h2⟩, h3, h4⟩, h5, h6⟩ := h
  refine ⟨h3, h4, fun c hc => ?_⟩
  have := List.all_eq_true.1 h5 c hc
  unfold cellB at this
  have := of_decide_eq_true this
  generalize m.1 = sz at *
  omega
theorem c_impl_treeNodes (M : Mem) (m n : Nat) (h : m ≤ 6) (hn : n = 2 * 2 ^ m - 1) : aCall T0 F_impl_treeNodes [.int .i64 m] M = some (.int .i64 n, M) := by
  subst hn
  match m, h with
  | 0, _ => rw [aCall_eq T_impl_treeNodes]; unfold A_impl_treeNodes C_impl_treeNodes; simp; decide
  | 1, _ => rw [aCall_eq T_impl_treeNodes]; unfold A_impl_treeNodes C_impl_treeNodes; simp; decide
  | 2, _ => rw [aCall_eq T_impl_treeNodes]; unfold A_impl_treeNodes C_impl_treeNodes; simp; decide
  | 3, _ => rw [aCall_eq T_impl_treeNodes]; unfold A_impl_treeNodes C_impl_treeNodes; simp; decide
  | 4, _ => rw [aCall_eq T_impl_treeNodes]; unfold A_impl_treeNodes C_impl_treeNodes; simp; decide
  | 5, _ => rw [aCall_eq T_impl_treeNodes]; unfold A_impl_treeNodes C_impl_treeNodes; simp; decide
  | 6, _ => rw [aCall_eq T_impl_treeNodes]; unfold A_impl_treeNodes C_impl_treeNodes; simp; decide
def atB {α : Type} (p : α → Bool) (xs : List α) (i : Nat) : Bool := match xs[i]? with
  | some x => p x
  | none => true
theorem atB_get {α : Type} (p : α → Bool) {xs : List α} {i : Nat} (hi : i < xs.length) : atB p xs i = p xs[i] := by unfold atB; rw [List.getElem?_eq_getElem hi]
theorem atB_all {α : Type} {p : α → Bool} {xs : List α} (h : ∀ i, i < xs.length → atB p xs i = true) : xs.all p = true := by
  rw [List.all_eq_true]
  intro x hx
  obtain ⟨i, hi, rfl⟩ := List.getElem_of_mem hx
  rw [← atB_get p hi]
  exact h i hi
theorem atB_not {α : Type} {p : α → Bool} {xs : List α} (h : ∃ i, i < xs.length ∧ atB p xs i = false) : xs.all p = false := by
  obtain ⟨i, hi, hq⟩ := h
  rw [atB_get p hi] at hq
  rw [List.all_eq_false]
  exact ⟨xs[i], List.getElem_mem hi, by rw [hq]; decide⟩
theorem mem_shape {M : Mem} {cs : List V} {m : ty_Mem.D} (h : Rep ty_Mem M cs m) : ∃ (a b : Option Addr) (c d : Nat), cs = [.int .i64 m.1, .slice a m.2.1.length c, .slice b m.2.2.length d] ∧ Rep (.sl ty_Cell) M [.slice a m.2.1.length c] m.2.1 ∧ Rep (.sl ty_Touch) M [.slice b m.2.2.length d] m.2.2 := by
  obtain ⟨u0, u1, rfl, _, r0, r1⟩ := rep_g_Mem h
  obtain ⟨a, c, rfl⟩ := r0.slen
  obtain ⟨b, d, rfl⟩ := r1.slen
  exact ⟨a, b, c, d, rfl, r0, r1⟩
theorem mem_cases (sz : Int) (n k : Nat) : (mem0 sz n k = false ∧ ((sz < 1 ∧ ¬ 1 ≤ sz) ∨ ((1 ≤ sz ∧ ¬ sz < 1) ∧ 1000 < sz ∧ ¬ sz ≤ 1000) ∨ ((1 ≤ sz ∧ ¬ sz < 1) ∧ (¬ 1000 < sz ∧ sz ≤ 1000) ∧ 128 < n ∧ (128 : Int) < n) ∨ ((1 ≤ sz ∧ ¬ sz < 1) ∧ (¬ 1000 < sz ∧ sz ≤ 1000) ∧ (¬ 128 < n ∧ ¬ (128 : Int) < n) ∧ 6000 < k ∧ (6000 : Int) < k))) ∨
    (mem0 sz n k = true ∧ (1 ≤ sz ∧ ¬ sz < 1) ∧ (¬ 1000 < sz ∧ sz ≤ 1000) ∧ (¬ 128 < n ∧ ¬ (128 : Int) < n) ∧ (¬ 6000 < k ∧ ¬ (6000 : Int) < k)) := by
  unfold mem0
  by_cases h : (1 ≤ sz ∧ sz ≤ 1000) ∧ n ≤ 128 ∧ k ≤ 6000
  · rw [decide_eq_true h]
    right
    exact ⟨rfl, by omega, by omega, by omega, by omega⟩
  · rw [decide_eq_false h]
    left
    refine ⟨rfl, ?_⟩
    omega
theorem win_ok (M : Mem) (x a b : Int) : aCall T0 F_impl_within [.int .i64 x, .int .i64 a, .int .i64 b] M = some (.bool (decide (a ≤ x ∧ x ≤ b)), M) := by
  rw [c_impl_within, Bool.decide_and]
theorem within_ok {a lo hi : Int} (h1 : lo ≤ a) (h2 : a ≤ hi) : decide (lo ≤ a ∧ a ≤ hi) = true := decide_eq_true ⟨h1, h2⟩
theorem at_Touch {M : Mem} {a : Option Addr} {n c : Nat} {xs : List ty_Touch.D} (h : Rep (.sl ty_Touch) M [.slice a n c] xs) {i : Nat} (hi : i < xs.length) : ∃ l o, a = some ⟨l, o, none⟩ ∧ Rep ty_Touch M (enc_Touch xs[i]) xs[i] ∧ rdn M l (o + i * 3) 3 = some (enc_Touch xs[i]) ∧ rd1 M l (o + i * 3) = some (.int .i64 xs[i].1) ∧ rd1 M l (o + i * 3 + 1) = some (.int .i64 xs[i].2.1) ∧ rd1 M l (o + i * 3 + 2) = some (.int .i64 xs[i].2.2) := by
  obtain ⟨_, l, o, rfl, cs, hrd, hrep⟩ := rep_at h hi
  have hcs := rep_Touch hrep
  subst hcs
  have hw : ty_Touch.w = 3 := rfl
  rw [hw] at hrd
  exact ⟨l, o, rfl, hrep, hrd, rd1_of_rdn hrd (k := 0) rfl, rd1_of_rdn hrd (k := 1) rfl, rd1_of_rdn hrd (k := 2) rfl⟩
theorem touch_ok {sz n a b c : Int} (h : touch0 sz n a b c = true) : (a = 1 ∨ a = 2) ∧ ¬ b < 0 ∧ 0 ≤ b ∧ ¬ n ≤ b ∧ b < n ∧ b ≤ n - 1 ∧ c = sz := by
  have h := of_decide_eq_true h
  omega
theorem touch_cases {sz n a b c : Int} (h : touch0 sz n a b c = false) : (¬ a = 1 ∧ ¬ a = 2) ∨ ((a = 1 ∨ a = 2) ∧ b < 0 ∧ ¬ 0 ≤ b) ∨ ((a = 1 ∨ a = 2) ∧ (¬ b < 0 ∧ 0 ≤ b) ∧ n ≤ b ∧ ¬ b < n ∧ ¬ b ≤ n - 1) ∨ ((a = 1 ∨ a = 2) ∧ (¬ b < 0 ∧ 0 ≤ b) ∧ (¬ n ≤ b ∧ b < n ∧ b ≤ n - 1) ∧ ¬ c = sz) := by
  have h := of_decide_eq_false h
  omega
theorem l_impl_isMem_0 (M X : Mem) (m : ty_Mem.D) (a b : Option Addr) (c d p : Nat) (hM : M <+: X) (hb : X[p]? = some ⟨[.int .i64 m.1, .slice a m.2.1.length c, .slice b m.2.2.length d], 1, 2⟩) (h : Rep (.sl ty_Touch) M [.slice b m.2.2.length d] m.2.2) (hn : m.2.2.length ≤ 6000) (hn2 : m.2.1.length ≤ 128) :
    (∃ X', M <+: X' ∧ X <+: X' ∧ (∀ i, i < m.2.2.length → atB (touchB m) m.2.2 i = true) ∧ lp (aCall T0) K_impl_isMem_0 L_impl_isMem_0 [und, .pointer (some ⟨p, 0, none⟩), und, und, und, und, und, und, und, und, und, und, und, und, und, und, und, und, und, und, und, und, .slice b m.2.2.length d, .int .i64 m.2.2.length, .int .i64 (0 : Nat), und, und, und, und, und, und, und, und, und, und, und, und, und, und, und, und, und, und, und, und, und, und, und, und, und, und, und, und, und, und] X = lp (aCall T0) K_impl_isMem_0 L_impl_isMem_0 [und, .pointer (some ⟨p, 0, none⟩), und, und, und, und, und, und, und, und, und, und, und, und, und, und, und, und, und, und, und, und, .slice b m.2.2.length d, .int .i64 m.2.2.length, .int .i64 m.2.2.length, und, und, und, und, und, und, und, und, und, und, und, und, und, und, und, und, und, und, und, und, und, und, und, und, und, und, und, und, und, und] X' ∧ X'[p]? = some ⟨[.int .i64 m.1, .slice a m.2.1.length c, .slice b m.2.2.length d], 1, 2⟩) ∨
    ((∃ i, i < m.2.2.length ∧ atB (touchB m) m.2.2 i = false) ∧ ∀ k, thenF M [.tmp 2] (thenS (blockR 0 (lp (aCall T0) K_impl_isMem_0 L_impl_isMem_0 [und, .pointer (some ⟨p, 0, none⟩), und, und, und, und, und, und, und, und, und, und, und, und, und, und, und, und, und, und, und, und, .slice b m.2.2.length d, .int .i64 m.2.2.length, .int .i64 (0 : Nat), und, und, und, und, und, und, und, und, und, und, und, und, und, und, und, und, und, und, und, und, und, und, und, und, und, und, und, und, und, und] X)) (aCall T0) k) = some (.bool false, M)) := by
  have key := loop_ok (call := aCall T0) (K := K_impl_isMem_0) (L := L_impl_isMem_0) (fun _ Y => X <+: Y) (fun i => [und, .pointer (some ⟨p, 0, none⟩), und, und, und, und, und, und, und, und, und, und, und, und, und, und, und, und, und, und, und, und, .slice b m.2.2.length d, .int .i64 m.2.2.length, .int .i64 i, und, und, und, und, und, und, und, und, und, und, und, und, und, und, und, und, und, und, und, und, und, und, und, und, und, und, und, und, und, und]) (atB (touchB m) m.2.2) (n := m.2.2.length) (M0 := M) (rs := [.tmp 2]) (k0 := 0) (a := .bool false) X (List.prefix_refl _) ?_ ?_
  · rcases key with ⟨X', h0, h1, h2⟩ | h
    · exact .inl ⟨X', hM.trans h0, h0, h1, h2, get_pre h0 hb⟩
    · exact .inr h
  · intro i Y hi hq hY
    obtain ⟨l, o, rfl, _, q1, _⟩ := at_Touch (h.mono (hM.trans hY)) hi
    have hbY := get_pre hY hb
    have hbY2 : ∀ N : Mem, (Y ++ N)[p]? = some ⟨[.int .i64 m.1, .slice a m.2.1.length c, .slice (some ⟨l, o, none⟩) m.2.2.length d], 1, 2⟩ := fun N => get_pre' hbY
    rw [atB_get _ hi] at hq
    have hq := touch_ok hq
    generalize m.2.2[i] = t at q1 hq
    obtain ⟨t1, t2, t3⟩ := t
    simp only at hq q1
    obtain ⟨g1, g2, g2', g3, g3', g3'', g4⟩ := hq
    have e5 : IntKind.i64.wrap ((m.2.1.length : Int) - 1) = m.2.1.length - 1 := wrap_i64 (by omega) (by omega)
    have e6 : IntKind.i64.wrap ((i : Int) + 1) = i + 1 := wrap_i64 (by omega) (by omega)
    have w1 := fun N : Mem => win_ok (Y ++ N) t1 1 2
    rw [within_ok (by omega) (by omega)] at w1
    have w2 := fun N : Mem => win_ok (Y ++ N) t2 0 (m.2.1.length - 1)
    rw [within_ok g2' g3''] at w2
    refine ⟨Y ++ [⟨enc_Touch (t1, t2, t3), 1, 2⟩], hY.trans (List.prefix_append _ _), ?_⟩
    clear g1
    rw [S_impl_isMem_0]; unfold B_impl_isMem_0; simp [thenD_pp, sliceCells_sl, sliceCells_z, sliceCells_nil, take_full, appS_sl, appK_ok, appS_none, thenD_ag, agP_nil, agP_cons, hbY, hbY2, hi, q1, w1, w2, e5, g4, e6, rd1_K, rdJ_ok]
  · intro i Y hi hq hY k
    obtain ⟨l, o, rfl, _, q1, _⟩ := at_Touch (h.mono (hM.trans hY)) hi
    have hbY := get_pre hY hb
    have hbY2 : ∀ N : Mem, (Y ++ N)[p]? = some ⟨[.int .i64 m.1, .slice a m.2.1.length c, .slice (some ⟨l, o, none⟩) m.2.2.length d], 1, 2⟩ := fun N => get_pre' hbY
    rw [atB_get _ hi] at hq
    have hq := touch_cases hq
    generalize m.2.2[i] = t at q1 hq
    obtain ⟨t1, t2, t3⟩ := t
    simp only at hq q1
    have gb := fun (cs : List V) b => gc_boolp (hM.trans (hY.trans (List.prefix_append Y [⟨cs, 1, 2⟩]))) b
    have e5 : IntKind.i64.wrap ((m.2.1.length : Int) - 1) = m.2.1.length - 1 := wrap_i64 (by omega) (by omega)
    have w1 := fun N : Mem => win_ok (Y ++ N) t1 1 2
    have w2 := fun N : Mem => win_ok (Y ++ N) t2 0 (m.2.1.length - 1)
    rcases hq with ⟨g1, g2⟩ | ⟨g1, _, g2⟩ | ⟨g1, ⟨_, g2⟩, _, _, g3⟩ | ⟨g1, ⟨_, g2⟩, ⟨_, _, g3⟩, g4⟩
    · rw [decide_eq_false (by omega)] at w1
      rw [S_impl_isMem_0]; unfold B_impl_isMem_0; simp [thenD_pp, sliceCells_sl, sliceCells_z, sliceCells_nil, take_full, appS_sl, appK_ok, appS_none, thenD_ag, agP_nil, agP_cons, hbY, hbY2, hi, q1, w1, gb, rd1_K, rdJ_ok]
    · rw [within_ok (by omega) (by omega)] at w1
      rw [decide_eq_false (by omega)] at w2
      clear g1
      rw [S_impl_isMem_0]; unfold B_impl_isMem_0; simp [thenD_pp, sliceCells_sl, sliceCells_z, sliceCells_nil, take_full, appS_sl, appK_ok, appS_none, thenD_ag, agP_nil, agP_cons, hbY, hbY2, hi, q1, w1, w2, e5, gb, rd1_K, rdJ_ok]
    · rw [within_ok (by omega) (by omega)] at w1
      rw [decide_eq_false (by omega)] at w2
      clear g1
      rw [S_impl_isMem_0]; unfold B_impl_isMem_0; simp [thenD_pp, sliceCells_sl, sliceCells_z, sliceCells_nil, take_full, appS_sl, appK_ok, appS_none, thenD_ag, agP_nil, agP_cons, hbY, hbY2, hi, q1, w1, w2, e5, gb, rd1_K, rdJ_ok]
    · rw [within_ok (by omega) (by omega)] at w1
      rw [within_ok g2 g3] at w2
      clear g1
      rw [S_impl_isMem_0]; unfold B_impl_isMem_0; simp [thenD_pp, sliceCells_sl, sliceCells_z, sliceCells_nil, take_full, appS_sl, appK_ok, appS_none, thenD_ag, agP_nil, agP_cons, hbY, hbY2, hi, q1, w1, w2, e5, g4, gb, rd1_K, rdJ_ok]
theorem c_impl_isMem_1 (M : Mem) (u : V) (x : ty_Cell.D) (h : Rep (.sl ty_Byte) M [u] x) (p : Nat) (sz : Int) (hp : rd1 M p 0 = some (.int .i64 sz)) : aCall T0 F_impl_isMem_1 [.agg #[u], .pointer (some ⟨p, 0, none⟩)] M = some (.bool (decide (¬ ((List.length (α := UInt8) x : Nat) : Int) = sz)), M) := by
  have h2 : ∀ N, rd1 (M ++ N) p 0 = some (.int .i64 sz) := fun N => rd1_old hp
  obtain ⟨_, _, rfl⟩ := h.slen
  rw [aCall_eq T_impl_isMem_1]; unfold A_impl_isMem_1 C_impl_isMem_1; simp [thenD_pp, sliceCells_sl, sliceCells_z, sliceCells_nil, take_full, appS_sl, appK_ok, appS_none, thenD_ag, agP_nil, agP_cons, h2]
theorem rep_cell1 {M : Mem} {cs : List V} {x : ty_Cell.D} (h : Rep ty_Cell M cs x) : ∃ u, cs = [u] := by
  rcases h with ⟨rfl, _⟩ | ⟨_, _, _, _, _, rfl, _⟩
  · exact ⟨_, rfl⟩
  · exact ⟨_, rfl⟩
end GoAm
