/- What the functions do that the law reaches. -/
import Derived.Test.YtlcggckcfaiolaaScanPutt
import Derived.Test.YtlcggckcfaiolaaAmGr
set_option autoImplicit false
set_option linter.unusedVariables false
set_option linter.unusedSimpArgs false
namespace GoAm
open Go
abbrev ty_Cell : Ty := .sl .u8
abbrev ty_Touch : Ty := .pr (.int .i64) (.pr (.int .i64) (.int .i64))
instance d_Touch : DecidableEq ty_Touch.D := Ty.deq ty_Touch
abbrev ty_Mem : Ty := .pr (.int .i64) (.pr (.sl ty_Cell) (.sl ty_Touch))
abbrev ty_Scan : Ty := ty_Mem
theorem own_g_Mem {M : Mem} {cs : List V} {x : ty_Mem.D} {L : List Nat} (h : Own ty_Mem M cs x L) : ∃ (u0 u1 : V) (L0 L1 : List Nat), cs = [.int .i64 x.1, u0, u1] ∧ (Lit.int .i64 x.1).wf = true ∧ Own (.sl ty_Cell) M [u0] x.2.1 L0 ∧ Own (.sl ty_Touch) M [u1] x.2.2 L1 ∧ L = L0 ++ L1 := by
  obtain ⟨c0, d0, K0, J0, rfl, h0, h, rfl⟩ := h
  obtain ⟨⟨rfl, w0⟩, rfl⟩ := h0
  obtain ⟨c1, d1, K1, J1, rfl, h1, h, rfl⟩ := h
  obtain ⟨u0, rfl⟩ : ∃ u, c1 = [u] := by
    have l0 := Rep.len ((h1).rep)
    exact List.length_eq_one_iff.1 l0
  have r0 := h1
  obtain ⟨u1, rfl⟩ : ∃ u, d1 = [u] := by
    have l1 := Rep.len ((h).rep)
    exact List.length_eq_one_iff.1 l1
  have r1 := h
  exact ⟨u0, u1, _, _, rfl, w0, r0, r1, by simp⟩
theorem mkrep_g_Mem {M : Mem} {x : ty_Mem.D} {u0 u1 : V} (w0 : (Lit.int .i64 x.1).wf = true) (r0 : Rep (.sl ty_Cell) M [u0] x.2.1) (r1 : Rep (.sl ty_Touch) M [u1] x.2.2) : Rep ty_Mem M [.int .i64 x.1, u0, u1] x := by
  exact ⟨[.int .i64 x.1], ([u0] ++ [u1]), rfl, ⟨rfl, w0⟩, ⟨[u0], ([u1]), rfl, r0, r1⟩⟩
theorem rep_g_Mem {M : Mem} {cs : List V} {x : ty_Mem.D} (h : Rep ty_Mem M cs x) : ∃ u0 u1 : V, cs = [.int .i64 x.1, u0, u1] ∧ (Lit.int .i64 x.1).wf = true ∧ Rep (.sl ty_Cell) M [u0] x.2.1 ∧ Rep (.sl ty_Touch) M [u1] x.2.2 := by
  obtain ⟨c0, d0, rfl, h0, h⟩ := h
  obtain ⟨rfl, w0⟩ := h0
  obtain ⟨c1, d1, rfl, h1, h⟩ := h
  obtain ⟨u0, rfl⟩ : ∃ u, c1 = [u] := by
    have l0 := Rep.len (h1)
    exact List.length_eq_one_iff.1 l0
  have r0 := h1
  obtain ⟨u1, rfl⟩ : ∃ u, d1 = [u] := by
    have l1 := Rep.len (h)
    exact List.length_eq_one_iff.1 l1
  have r1 := h
  exact ⟨u0, u1, rfl, w0, r0, r1⟩
theorem mkown_g_Mem {M : Mem} {x : ty_Mem.D} {u0 u1 : V} {L0 L1 : List Nat} (w0 : (Lit.int .i64 x.1).wf = true) (r0 : Own (.sl ty_Cell) M [u0] x.2.1 L0) (r1 : Own (.sl ty_Touch) M [u1] x.2.2 L1) : Own ty_Mem M [.int .i64 x.1, u0, u1] x (L0 ++ L1) := by
  have h : Own ty_Mem M [.int .i64 x.1, u0, u1] x _ := ⟨[.int .i64 x.1], ([u0] ++ [u1]), _, _, rfl, ⟨⟨rfl, w0⟩, rfl⟩, ⟨[u0], ([u1]), _, _, rfl, r0, r1, rfl⟩, rfl⟩
  simpa only [List.append_nil, List.nil_append, List.append_assoc] using h
abbrev enc_Touch (x : ty_Touch.D) : List V := [.int .i64 x.1, .int .i64 x.2.1, .int .i64 x.2.2]
theorem own_Touch (M : Mem) (x : ty_Touch.D) (h0 : (Lit.int .i64 x.1).wf = true) (h1 : (Lit.int .i64 x.2.1).wf = true) (h2 : (Lit.int .i64 x.2.2).wf = true) : Own ty_Touch M (enc_Touch x) x [] := ⟨[.int .i64 x.1], [.int .i64 x.2.1, .int .i64 x.2.2], [], [], rfl, ⟨⟨rfl, h0⟩, rfl⟩, ⟨[.int .i64 x.2.1], [.int .i64 x.2.2], [], [], rfl, ⟨⟨rfl, h1⟩, rfl⟩, ⟨⟨rfl, h2⟩, rfl⟩, rfl⟩, rfl⟩
theorem rown_Touch {M : Mem} {x : ty_Touch.D} (h : Rep ty_Touch M (enc_Touch x) x) : Own ty_Touch M (enc_Touch x) x [] := by
  obtain ⟨_, _, _, ⟨_, w1⟩, c3, c4, _, ⟨_, w2⟩, ⟨_, w3⟩⟩ := h
  exact own_Touch M x w1 w2 w3
theorem rep_Touch {M : Mem} {cs : List V} {x : ty_Touch.D} (h : Rep ty_Touch M cs x) : cs = enc_Touch x := by
  obtain ⟨_, _, rfl, ⟨rfl, _⟩, ⟨_, _, rfl, ⟨rfl, _⟩, ⟨rfl, _⟩⟩⟩ := h
  rfl
theorem c_laws_toTouch_f (M : Mem) (x : ty_Touch.D) : aCall T0 F_laws_toTouch [.agg (enc_Touch x).toArray] M = some (.agg (enc_Touch x).toArray, M) := by
  rw [aCall_eq T_laws_toTouch]; unfold A_laws_toTouch C_laws_toTouch; simp
theorem k_laws_toTouch : ToF T0 ty_Touch F_laws_toTouch := fun M cs x h hb => by
  obtain rfl := rep_Touch h
  exact ⟨M, _, [], List.prefix_refl _, c_laws_toTouch_f M x, rown_Touch h, by simp, by simp⟩
def z_Touch : List V := [(.int .i64 0), (.int .i64 0), (.int .i64 0)]
theorem k_laws_toTouchS : ToS T0 ty_Touch F_laws_toTouchS := to_sl (w := 3) (bytes := 24) (zero := z_Touch) T_laws_toTouchS rfl rfl rfl (by decide) k_laws_toTouch
abbrev ty_Byte : Ty := .u8
theorem rep_g_Cell {M : Mem} {cs : List V} {x : ty_Cell.D} (h : Rep ty_Cell M cs x) : ∃ u0 : V, cs = [u0] ∧ Rep (.sl ty_Byte) M [u0] x := by
  obtain ⟨u0, rfl⟩ : ∃ u, cs = [u] := by
    have l0 := Rep.len (h)
    exact List.length_eq_one_iff.1 l0
  have r0 := h
  exact ⟨u0, rfl, r0⟩
theorem mkown_g_Cell {M : Mem} {x : ty_Cell.D} {u0 : V} {L0 : List Nat} (r0 : Own (.sl ty_Byte) M [u0] x L0) : Own ty_Cell M [u0] x (L0) := by
  have h : Own ty_Cell M [u0] x _ := r0
  simpa only [List.append_nil, List.nil_append, List.append_assoc] using h
theorem nodup_flat {t : Ty} (hf : ∀ (M : Mem) (cs : List V) (x : t.D) (K : List Nat), Own t M cs x K → K = []) {M : Mem} {v : V} {xs : List t.D} {L : List Nat} (h : Own (.sl t) M [v] xs L) : L.Nodup := by
  rcases own_flat hf h with ⟨_, rfl, _⟩ | ⟨l, _, _, _, _, _, _, _, _, _, rfl⟩ <;> simp
theorem ownf_Byte (M : Mem) (cs : List V) (x : ty_Byte.D) (K : List Nat) (h : Own ty_Byte M cs x K) : K = [] := h.2
abbrev enc_Byte (x : ty_Byte.D) : List V := [byteV x]
def z_Byte : List V := [.int .u8 0]
theorem at_Byte {M : Mem} {a : Option Addr} {n c : Nat} {xs : List ty_Byte.D} (h : Rep (.sl ty_Byte) M [.slice a n c] xs) {i : Nat} (hi : i < xs.length) : ∃ l o, a = some ⟨l, o, none⟩ ∧ Rep ty_Byte M (enc_Byte xs[i]) xs[i] ∧ rd1 M l (o + i) = some (byteV xs[i]) := by
  obtain ⟨_, l, o, rfl, cs, hrd, hrep⟩ := rep_at h hi
  have hcs : cs = enc_Byte xs[i] := hrep
  subst hcs
  have hw1 : ty_Byte.w = 1 := rfl
  rw [hw1, Nat.mul_one] at hrd
  exact ⟨l, o, rfl, hrep, rd1_of_one hrd⟩
theorem r_laws_toByteS (M : Mem) (a : Option Addr) (c : Nat) (xs : List ty_Byte.D) (h : Rep (.sl ty_Byte) M [.slice a xs.length c] xs) (hn : xs.length ≤ 1048576) (i : Nat) (hi : i < xs.length) :
    lp (aCall T0) K_laws_toByteS_0 L_laws_toByteS_0 [.slice a xs.length c, und, und, .slice (some ⟨M.length, 0, none⟩) xs.length xs.length, .int .i64 i, und, und, und, und, und, und, und, und, und, und, und, und, und, und, und, und, und] (M ++ [⟨tcells enc_Byte z_Byte xs i, 1, 2⟩]) =
    lp (aCall T0) K_laws_toByteS_0 L_laws_toByteS_0 [.slice a xs.length c, und, und, .slice (some ⟨M.length, 0, none⟩) xs.length xs.length, .int .i64 (i + 1 : Nat), und, und, und, und, und, und, und, und, und, und, und, und, und, und, und, und, und] (M ++ [⟨tcells enc_Byte z_Byte xs (i + 1), 1, 2⟩]) := by
  obtain ⟨l, o, rfl, hrep, hrd⟩ := at_Byte h hi
  have hrd2 : rd1 (M ++ [⟨tcells enc_Byte z_Byte xs i, 1, 2⟩]) l (o + i) = some (byteV xs[i]) := rd1_old hrd
  have e2 := tcells_len (enc := enc_Byte) (z := z_Byte) (xs := xs) (fun x _ => rfl) (i := i) (by omega)
  have e3 := tcells_step (enc := enc_Byte) (z := z_Byte) (xs := xs) (fun x _ => rfl) hi
  have e4 : z_Byte.length = 1 := rfl
  rw [e4, Nat.mul_one] at e2 e3
  have e5 : i + 1 ≤ xs.length := by omega
  have e6 : IntKind.i64.wrap ((i : Int) + 1) = i + 1 := wrap_i64 (by omega) (by omega)
  unfold splice at e3
  simp at e3
  rw [S_laws_toByteS_0]; unfold B_laws_toByteS_0; simp [hrd2, e2, e3, e5, e6, hi]
theorem c_laws_toByteS (M : Mem) (v : V) (xs : List ty_Byte.D) (h : Rep (.sl ty_Byte) M [v] xs) (hn : xs.length ≤ 1048576) :
    aCall T0 F_laws_toByteS [v] M = some (.slice (some ⟨M.length, 0, none⟩) xs.length xs.length, M ++ [⟨(xs.map enc_Byte).flatten, 1, 2⟩]) := by
  obtain ⟨a, c, rfl⟩ := h.slen
  have hl := chain (g := fun i : Nat => lp (aCall T0) K_laws_toByteS_0 L_laws_toByteS_0 [.slice a xs.length c, und, und, .slice (some ⟨M.length, 0, none⟩) xs.length xs.length, .int .i64 i, und, und, und, und, und, und, und, und, und, und, und, und, und, und, und, und, und] (M ++ [⟨tcells enc_Byte z_Byte xs i, 1, 2⟩])) (n := xs.length) fun i hi => r_laws_toByteS M a c xs h hn i hi
  simp only [Int.natCast_zero, Int.ofNat_zero, tcells_zero, tcells_full] at hl
  unfold z_Byte at hl
  simp only [zeroCells_zc] at hl
  have e1 : (xs.length : Int) ≤ 281474976710656 := by omega
  have e2 : (xs.length : Int) ≤ 9223372036854775807 := by omega
  rw [aCall_eq T_laws_toByteS]; unfold A_laws_toByteS C_laws_toByteS; simp [e1, e2]
  rw [hl]
  rw [S_laws_toByteS_0]; unfold B_laws_toByteS_0; simp
theorem own_Byte (M : Mem) (x : ty_Byte.D) : Own ty_Byte M (enc_Byte x) x [] := ⟨rfl, rfl⟩
theorem d_laws_toByteS (M : Mem) (v : V) (xs : List ty_Byte.D) (h : Rep (.sl ty_Byte) M [v] xs) (hn : xs.length ≤ 1048576) : ∃ M' u L, M <+: M' ∧ aCall T0 F_laws_toByteS [v] M = some (u, M') ∧ Own (.sl ty_Byte) M' [u] xs L ∧ ∀ l ∈ L, M.length ≤ l ∧ l < M'.length := by
  have e := c_laws_toByteS M v xs h hn
  obtain ⟨L, o1, o2⟩ := own_blk (t := ty_Byte) (M := M ++ [⟨(xs.map enc_Byte).flatten, 1, 2⟩]) (l := M.length) (c := xs.length) (enc := enc_Byte) (ys := xs) (by simp; rfl) (fun y _ => own_Byte _ y)
  exact ⟨_, _, L, List.prefix_append _ _, e, o1, fun l hl => by rw [o2 l hl]; simp⟩
theorem k_laws_toByteS : ToS T0 ty_Byte F_laws_toByteS := fun M v xs h hb => by
  obtain ⟨M', u, L, p, e, o, f⟩ := d_laws_toByteS M v xs h hb.1
  exact ⟨M', u, L, p, e, o, nodup_flat ownf_Byte o, f⟩
set_option maxHeartbeats 4000000 in
theorem k_laws_toCell : ToF T0 ty_Cell F_laws_toCell := by
  intro M cs x h hb
  obtain ⟨u0, rfl, r0⟩ := rep_g_Cell h
  have i0 := one_head r0.one
  show ToG ty_Cell M x _
  rw [aCall_eq T_laws_toCell]; unfold A_laws_toCell C_laws_toCell; simp [thenD_pp, sliceCells_sl, sliceCells_z, sliceCells_nil, take_full, appS_sl, appK_ok, appS_none, thenD_ag, agP_nil, agP_cons, i0]
  generalize hx1 : aCall T0 F_laws_toByteS _ _ = x_1
  obtain ⟨M1, v0, K1, rfl, p1, o1, F1⟩ := ToS.at k_laws_toByteS hx1 (r0.mono (List.prefix_append _ _)) hb
  have f1 := F1.2
  clear hx1
  have b0_1 : M1[M.length]? = some ⟨[u0], 1, 2⟩ := get_pre p1 (by simp)
  have b1_1 : M1[M.length + 1]? = some ⟨[(.slice none 0 0)], 1, 2⟩ := get_pre p1 (by simp)
  have b2_1 : M1[M.length + 2]? = some ⟨[(.slice none 0 0)], 1, 2⟩ := get_pre p1 (by simp)
  have l_1 := get_lt b2_1
  have y1 : M <+: M1 := (List.prefix_append _ _).trans p1
  simp only [List.length_append, List.length_cons, List.length_nil] at f1
  have z1 : M <+: M1.set (M.length + 2) ⟨[v0], 1, 2⟩ := pf_set (by omega) y1
  have q1 := one_head (o1.rep.one)
  have qc1 := cells_sl o1
  have hb1 : (M1.set (M.length + 2) ⟨[v0], 1, 2⟩)[M.length + 1]? = some ⟨[(.slice none 0 0)], 1, 2⟩ := by simp [b1_1]
  have g1 := ((o1.set (b2 := ⟨[v0], 1, 2⟩) b2_1 rfl (fun hm => by have := f1 _ hm; omega)).set (b2 := ⟨[v0], 1, 2⟩) hb1 rfl (fun hm => by have := f1 _ hm; omega))
  have hh := mkown_g_Cell (x := x) g1
  try simp only [List.append_assoc] at hh
  obtain ⟨_, _, rfl⟩ := o1.rep.slen
  have gs2 : ∀ B C : Blk, ((M1.set (M.length + 2) B).set (M.length + 1) C)[M.length + 1]? = some C := fun B C => List.getElem?_set_self (by rw [List.length_set]; omega)
  simp [thenD_pp, sliceCells_sl, sliceCells_z, sliceCells_nil, take_full, appS_sl, appK_ok, appS_none, thenD_ag, agP_nil, agP_cons, b0_1, b1_1, b2_1, gs_of b2_1, gs2, rd1_K, rdJ_ok, rdn_K, rnJ_ok, wrn_K, wrJ_ok]
  refine ⟨_, _, K1, ?_, rfl, ?_, ?_⟩
  · exact pf_set (by omega) (pf_set (by omega) y1)
  · first | exact hh | (simp only [List.append_assoc]; exact hh)
  · refine ⟨F1.1, fun l hl => ?_⟩
    have := F1.2 l hl
    simp only [List.length_append, List.length_cons, List.length_nil, List.length_set] at this ⊢
    omega
theorem k_laws_toCellS : ToS T0 ty_Cell F_laws_toCellS := to_sl (w := 1) (bytes := 24) (zero := [.slice none 0 0]) T_laws_toCellS rfl rfl rfl (by decide) k_laws_toCell
set_option maxHeartbeats 4000000 in
theorem k_laws_toMem : ToF T0 ty_Mem F_laws_toMem := by
  intro M cs x h hb
  obtain ⟨u0, u1, rfl, w0, r0, r1⟩ := rep_g_Mem h
  have i0 := one_head r0.one
  have i1 := one_head r1.one
  show ToG ty_Mem M x _
  rw [aCall_eq T_laws_toMem]; unfold A_laws_toMem C_laws_toMem; simp [thenD_pp, sliceCells_sl, sliceCells_z, sliceCells_nil, take_full, appS_sl, appK_ok, appS_none, thenD_ag, agP_nil, agP_cons, i0, i1]
  generalize hx1 : aCall T0 F_laws_toCellS _ _ = x_1
  obtain ⟨M1, v0, K1, rfl, p1, o1, F1⟩ := ToS.at k_laws_toCellS hx1 (r0.mono (List.prefix_append _ _)) hb.2.1
  have f1 := F1.2
  clear hx1
  have b0_1 : M1[M.length]? = some ⟨[.int .i64 x.1, u0, u1], 1, 2⟩ := get_pre p1 (by simp)
  have b1_1 : M1[M.length + 1]? = some ⟨[(.int .i64 0), (.slice none 0 0), (.slice none 0 0)], 1, 2⟩ := get_pre p1 (by simp)
  have b2_1 : M1[M.length + 2]? = some ⟨[.int .i64 x.1, (.slice none 0 0), (.slice none 0 0)], 1, 2⟩ := get_pre p1 (by simp)
  have l_1 := get_lt b2_1
  have y1 : M <+: M1 := (List.prefix_append _ _).trans p1
  simp only [List.length_append, List.length_cons, List.length_nil] at f1
  have z1 : M <+: M1.set (M.length + 2) ⟨[.int .i64 x.1, v0, (.slice none 0 0)], 1, 2⟩ := pf_set (by omega) y1
  have q1 := one_head (o1.rep.one)
  have qc1 := cells_sl o1
  simp [thenD_pp, sliceCells_sl, sliceCells_z, sliceCells_nil, take_full, appS_sl, appK_ok, appS_none, thenD_ag, agP_nil, agP_cons, b0_1, b1_1, b2_1, gs_of b2_1, q1, qc1, rd1_K, rdJ_ok, rdn_K, rnJ_ok, wrn_K, wrJ_ok]
  generalize hx2 : aCall T0 F_laws_toTouchS _ _ = x_2
  obtain ⟨M2, v1, K2, rfl, p2, o2, F2⟩ := ToS.at k_laws_toTouchS hx2 (r1.mono z1) hb.2.2
  have f2 := F2.2
  clear hx2
  have b0_2 : M2[M.length]? = some ⟨[.int .i64 x.1, u0, u1], 1, 2⟩ := get_pre p2 (by simp [b0_1])
  have b1_2 : M2[M.length + 1]? = some ⟨[(.int .i64 0), (.slice none 0 0), (.slice none 0 0)], 1, 2⟩ := get_pre p2 (by simp [b1_1])
  have b2_2 : M2[M.length + 2]? = some ⟨[.int .i64 x.1, v0, (.slice none 0 0)], 1, 2⟩ := get_pre p2 (by simp [l_1])
  have l_2 := get_lt b2_2
  have y2 : M <+: M2 := z1.trans p2
  simp only [List.length_set] at f2
  have G2 := F1.app (by simp) F2 p1.length_le p2
  have g0_2 := Nat.le_trans p1.length_le (Nat.le_trans (Nat.le_of_eq (List.length_set).symm) p2.length_le)
  have o1 := (o1.set (b2 := ⟨[.int .i64 x.1, v0, (.slice none 0 0)], 1, 2⟩) b2_1 rfl (fun hm => by have := f1 _ hm; omega)).grow p2
  have f1 : ∀ l ∈ K1, M.length + 3 ≤ l ∧ l < M2.length := fun l hl => by have := f1 l hl; have := p2.length_le; simp only [List.length_set] at this; omega
  have z2 : M <+: M2.set (M.length + 2) ⟨[.int .i64 x.1, v0, v1], 1, 2⟩ := pf_set (by omega) y2
  have q2 := one_head (o2.rep.one)
  have qc2 := cells_sl o2
  have hb1 : (M2.set (M.length + 2) ⟨[.int .i64 x.1, v0, v1], 1, 2⟩)[M.length + 1]? = some ⟨[(.int .i64 0), (.slice none 0 0), (.slice none 0 0)], 1, 2⟩ := by simp [b1_2]
  have g1 := ((o1.set (b2 := ⟨[.int .i64 x.1, v0, v1], 1, 2⟩) b2_2 rfl (fun hm => by have := f1 _ hm; omega)).set (b2 := ⟨[.int .i64 x.1, v0, v1], 1, 2⟩) hb1 rfl (fun hm => by have := f1 _ hm; omega))
  have g2 := ((o2.set (b2 := ⟨[.int .i64 x.1, v0, v1], 1, 2⟩) b2_2 rfl (fun hm => by have := f2 _ hm; omega)).set (b2 := ⟨[.int .i64 x.1, v0, v1], 1, 2⟩) hb1 rfl (fun hm => by have := f2 _ hm; omega))
  have hh := mkown_g_Mem (x := x) w0 g1 g2
  try simp only [List.append_assoc] at hh
  obtain ⟨_, _, rfl⟩ := o1.rep.slen
  obtain ⟨_, _, rfl⟩ := o2.rep.slen
  have gs2 : ∀ B C : Blk, ((M2.set (M.length + 2) B).set (M.length + 1) C)[M.length + 1]? = some C := fun B C => List.getElem?_set_self (by rw [List.length_set]; omega)
  simp [thenD_pp, sliceCells_sl, sliceCells_z, sliceCells_nil, take_full, appS_sl, appK_ok, appS_none, thenD_ag, agP_nil, agP_cons, b0_2, b1_2, b2_2, gs_of b2_2, gs2, rd1_K, rdJ_ok, rdn_K, rnJ_ok, wrn_K, wrJ_ok]
  refine ⟨_, _, K1 ++ K2, ?_, rfl, ?_, ?_⟩
  · exact pf_set (by omega) (pf_set (by omega) y2)
  · first | exact hh | (simp only [List.append_assoc]; exact hh)
  · refine ⟨G2.1, fun l hl => ?_⟩
    have := G2.2 l hl
    simp only [List.length_append, List.length_cons, List.length_nil, List.length_set] at this ⊢
    omega
theorem rep_g_Scan {M : Mem} {cs : List V} {x : ty_Scan.D} (h : Rep ty_Scan M cs x) : ∃ u0 u1 : V, cs = [.int .i64 x.1, u0, u1] ∧ (Lit.int .i64 x.1).wf = true ∧ Rep (.sl ty_Cell) M [u0] x.2.1 ∧ Rep (.sl ty_Touch) M [u1] x.2.2 := by
  obtain ⟨u0, u1, rfl, w0, r0, r1⟩ := rep_g_Mem h
  exact ⟨u0, u1, rfl, w0, r0, r1⟩
theorem mkown_g_Scan {M : Mem} {x : ty_Scan.D} {u0 u1 : V} {L0 L1 : List Nat} (w0 : (Lit.int .i64 x.1).wf = true) (r0 : Own (.sl ty_Cell) M [u0] x.2.1 L0) (r1 : Own (.sl ty_Touch) M [u1] x.2.2 L1) : Own ty_Scan M [.int .i64 x.1, u0, u1] x (L0 ++ L1) := by
  have h : Own ty_Scan M [.int .i64 x.1, u0, u1] x _ := (mkown_g_Mem w0 r0 r1)
  simpa only [List.append_nil, List.nil_append, List.append_assoc] using h
set_option maxHeartbeats 4000000 in
theorem k_laws_toScan : ToF T0 ty_Scan F_laws_toScan := by
  intro M cs x h hb
  obtain ⟨u0, u1, rfl, w0, r0, r1⟩ := rep_g_Scan h
  have i0 := one_head r0.one
  have i1 := one_head r1.one
  show ToG ty_Scan M x _
  rw [aCall_eq T_laws_toScan]; unfold A_laws_toScan C_laws_toScan; simp [thenD_pp, sliceCells_sl, sliceCells_z, sliceCells_nil, take_full, appS_sl, appK_ok, appS_none, thenD_ag, agP_nil, agP_cons, i0, i1]
  generalize hx1 : aCall T0 F_laws_toMem _ _ = x_1
  obtain ⟨M1, ds1, K1, rfl, p1, o1, F1⟩ := ToF.at k_laws_toMem hx1 ((mkrep_g_Mem w0 (r0.mono (List.prefix_append _ _)) (r1.mono (List.prefix_append _ _)))) hb
  have f1 := F1.2
  obtain ⟨v0, v1, K1_0, K1_1, rfl, _, o1_0, o1_1, eK1⟩ := own_g_Mem o1
  clear hx1
  have b0_1 : M1[M.length]? = some ⟨[.int .i64 x.1, u0, u1], 1, 2⟩ := get_pre p1 (by simp)
  have b1_1 : M1[M.length + 1]? = some ⟨[(.int .i64 0), (.slice none 0 0), (.slice none 0 0)], 1, 2⟩ := get_pre p1 (by simp)
  have b2_1 : M1[M.length + 2]? = some ⟨[(.int .i64 0), (.slice none 0 0), (.slice none 0 0)], 1, 2⟩ := get_pre p1 (by simp)
  have l_1 := get_lt b2_1
  have y1 : M <+: M1 := (List.prefix_append _ _).trans p1
  simp only [List.length_append, List.length_cons, List.length_nil] at f1
  have z1 : M <+: M1.set (M.length + 2) ⟨[.int .i64 x.1, v0, v1], 1, 2⟩ := pf_set (by omega) y1
  have q1_0 := one_head (o1_0.rep.one)
  have qc1_0 := cells_sl o1_0
  have q1_1 := one_head (o1_1.rep.one)
  have qc1_1 := cells_sl o1_1
  have hb1 : (M1.set (M.length + 2) ⟨[.int .i64 x.1, v0, v1], 1, 2⟩)[M.length + 1]? = some ⟨[(.int .i64 0), (.slice none 0 0), (.slice none 0 0)], 1, 2⟩ := by simp [b1_1]
  have g1 := ((o1.set (b2 := ⟨[.int .i64 x.1, v0, v1], 1, 2⟩) b2_1 rfl (fun hm => by have := f1 _ hm; omega)).set (b2 := ⟨[.int .i64 x.1, v0, v1], 1, 2⟩) hb1 rfl (fun hm => by have := f1 _ hm; omega))
  obtain ⟨s1_0, s1_1, H1_0, H1_1, es1, _, j1_0, j1_1, eK1⟩ := own_g_Mem g1
  simp only [List.cons.injEq, and_true, true_and] at es1
  obtain ⟨rfl, rfl⟩ := es1
  have hh := mkown_g_Scan (x := x) w0 j1_0 j1_1
  try simp only [List.append_assoc] at hh
  obtain ⟨s1_0, s1_1, _, _, es1, _, t1_0, t1_1, _⟩ := own_g_Mem o1
  simp only [List.cons.injEq, and_true, true_and] at es1
  obtain ⟨rfl, rfl⟩ := es1
  obtain ⟨_, _, rfl⟩ := t1_0.rep.slen
  obtain ⟨_, _, rfl⟩ := t1_1.rep.slen
  have gs2 : ∀ B C : Blk, ((M1.set (M.length + 2) B).set (M.length + 1) C)[M.length + 1]? = some C := fun B C => List.getElem?_set_self (by rw [List.length_set]; omega)
  simp [thenD_pp, sliceCells_sl, sliceCells_z, sliceCells_nil, take_full, appS_sl, appK_ok, appS_none, thenD_ag, agP_nil, agP_cons, b0_1, b1_1, b2_1, gs_of b2_1, gs2, rd1_K, rdJ_ok, rdn_K, rnJ_ok, wrn_K, wrJ_ok]
  refine ⟨_, _, K1, ?_, rfl, ?_, ?_⟩
  · exact pf_set (by omega) (pf_set (by omega) y1)
  · first | exact hh | (simp only [List.append_assoc]; exact hh) | (simp only [eK1]; exact hh) | (simp only [eK1, List.append_assoc]; exact hh)
  · refine ⟨F1.1, fun l hl => ?_⟩
    have := F1.2 l hl
    simp only [List.length_append, List.length_cons, List.length_nil, List.length_set] at this ⊢
    omega
theorem deq_Touch (x y : ty_Touch.D) : decide (x = y) = (decide (x.1 = y.1) && (decide (x.2.1 = y.2.1) && (decide (x.2.2 = y.2.2)))) := by
  obtain ⟨x0, x1, x2⟩ := x
  obtain ⟨y0, y1, y2⟩ := y
  simp
theorem c_laws_eqTouch (M : Mem) (x y : ty_Touch.D) : aCall T0 F_laws_eqTouch [.agg (enc_Touch x).toArray, .agg (enc_Touch y).toArray] M = some (.bool (decide (x = y)), M) := by
  rw [deq_Touch]
  rw [aCall_eq T_laws_eqTouch]; unfold A_laws_eqTouch C_laws_eqTouch; simp
  repeat' ((first | rw [selO_some] | rw [condR_bool] | rw [selD_some]); split <;> rename_i hq <;> (have hq2 := hq) <;> (try simp at hq2) <;> (try simp [*]))
theorem k_laws_eqTouch : EqF T0 ty_Touch F_laws_eqTouch := fun M cs ds x y h h2 hb => by
  obtain rfl := rep_Touch h
  obtain rfl := rep_Touch h2
  exact c_laws_eqTouch M x y
theorem k_laws_eqTouchS : EqS T0 ty_Touch F_laws_eqTouchS := eq_sl (w := 3) T_laws_eqTouchS rfl k_laws_eqTouch
theorem r_laws_eqByteS (M : Mem) (a b : Option Addr) (c d : Nat) (xs ys : List ty_Byte.D) (h : Rep (.sl ty_Byte) M [.slice a xs.length c] xs) (h2 : Rep (.sl ty_Byte) M [.slice b ys.length d] ys) (hn : xs.length ≤ 9223372036854775807) (i : Nat) (hi : i < xs.length) (hj : i < ys.length) (he : xs[i] = ys[i]) :
    lp (aCall T0) K_laws_eqByteS_0 L_laws_eqByteS_0 [.slice a xs.length c, .slice b ys.length d, und, und, und, .int .i64 i, und, und, und, und, und, und, und, und, und, und, und, und, und, und, und, und, und, und, und, und] M = lp (aCall T0) K_laws_eqByteS_0 L_laws_eqByteS_0 [.slice a xs.length c, .slice b ys.length d, und, und, und, .int .i64 (i + 1 : Nat), und, und, und, und, und, und, und, und, und, und, und, und, und, und, und, und, und, und, und, und] M := by
  obtain ⟨l, o, rfl, _, hrd⟩ := at_Byte h hi
  obtain ⟨l2, o2, rfl, _, hrd2⟩ := at_Byte h2 hj
  have e6 : IntKind.i64.wrap ((i : Int) + 1) = i + 1 := wrap_i64 (by omega) (by omega)
  rw [S_laws_eqByteS_0]; unfold B_laws_eqByteS_0; simp [hrd, hrd2, e6, hi, hj, he, byteV]
theorem eq_byteV (x y : UInt8) : ((x.toNat : Int) = (y.toNat : Int)) = (x = y) := by
  apply propext
  constructor
  · intro h; exact UInt8.toNat_inj.1 (by omega)
  · rintro rfl; rfl
theorem x_laws_eqByteS (M : Mem) (a b : Option Addr) (c d : Nat) (xs ys : List ty_Byte.D) (h : Rep (.sl ty_Byte) M [.slice a xs.length c] xs) (h2 : Rep (.sl ty_Byte) M [.slice b ys.length d] ys) (hn : xs.length ≤ 9223372036854775807) (i : Nat) (hi : i < xs.length) (hj : i < ys.length) (he : xs[i] ≠ ys[i]) (k : ACode) :
    thenF M [.tmp 4] (thenS (blockR 0 (lp (aCall T0) K_laws_eqByteS_0 L_laws_eqByteS_0 [.slice a xs.length c, .slice b ys.length d, und, und, und, .int .i64 i, und, und, und, und, und, und, und, und, und, und, und, und, und, und, und, und, und, und, und, und] M)) (aCall T0) k) = some (.bool false, M) := by
  obtain ⟨l, o, rfl, _, hrd⟩ := at_Byte h hi
  obtain ⟨l2, o2, rfl, _, hrd2⟩ := at_Byte h2 hj
  have hne : ¬ (((xs[i] : UInt8).toNat : Int) = ((ys[i] : UInt8).toNat : Int)) := by rw [eq_byteV]; exact he
  rw [S_laws_eqByteS_0]; unfold B_laws_eqByteS_0; simp [hrd, hrd2, hi, hj, hne, byteV]
theorem c_laws_eqByteS (M : Mem) (v u : V) (xs ys : List ty_Byte.D) (h : Rep (.sl ty_Byte) M [v] xs) (h2 : Rep (.sl ty_Byte) M [u] ys) (hn : xs.length ≤ 9223372036854775807) : aCall T0 F_laws_eqByteS [v, u] M = some (.bool (decide (xs = ys)), M) := by
  obtain ⟨a, c, rfl⟩ := h.slen
  obtain ⟨b, d, rfl⟩ := h2.slen
  by_cases hl : xs.length = ys.length
  · rcases list_eq_iff hl with he | ⟨j, hj, h3, h4⟩
    · subst he
      have hc := chain (g := fun i : Nat => lp (aCall T0) K_laws_eqByteS_0 L_laws_eqByteS_0 [.slice a xs.length c, .slice b xs.length d, und, und, und, .int .i64 i, und, und, und, und, und, und, und, und, und, und, und, und, und, und, und, und, und, und, und, und] M) (n := xs.length) fun i hi => r_laws_eqByteS M a b c d xs xs h h2 hn i hi hi rfl
      simp only [Int.natCast_zero, Int.ofNat_zero] at hc
      rw [aCall_eq T_laws_eqByteS]; unfold A_laws_eqByteS C_laws_eqByteS; simp [hc]
      rw [S_laws_eqByteS_0]; unfold B_laws_eqByteS_0; simp
    · have hc := chain (g := fun i : Nat => lp (aCall T0) K_laws_eqByteS_0 L_laws_eqByteS_0 [.slice a xs.length c, .slice b ys.length d, und, und, und, .int .i64 i, und, und, und, und, und, und, und, und, und, und, und, und, und, und, und, und, und, und, und, und] M) (n := j) fun i hi => r_laws_eqByteS M a b c d xs ys h h2 hn i (by omega) (by omega) (h3 i (by omega) hi)
      simp only [Int.natCast_zero, Int.ofNat_zero] at hc
      have hx := x_laws_eqByteS M a b c d xs ys h h2 hn j hj (by omega) h4
      have hne : xs ≠ ys := fun e => h4 (by simp [e])
      simp only [← hl] at hc hx
      simp only [← hl]
      rw [aCall_eq T_laws_eqByteS]; unfold A_laws_eqByteS C_laws_eqByteS; simp [hc, hx, hne]
  · have hne : xs ≠ ys := fun e => hl (by rw [e])
    have hl2 : ¬ ((xs.length : Int) = ys.length) := by omega
    rw [aCall_eq T_laws_eqByteS]; unfold A_laws_eqByteS C_laws_eqByteS; simp [hl2, hl, hne]
theorem k_laws_eqByteS : EqS T0 ty_Byte F_laws_eqByteS := fun M v u xs ys h h2 hb => c_laws_eqByteS M v u xs ys h h2 (Nat.le_trans hb.1 (by decide))
set_option maxHeartbeats 4000000 in
theorem k_laws_eqCell : EqF T0 ty_Cell F_laws_eqCell := by
  intro M cs ds x y h h2 hb
  obtain ⟨u0, rfl, r0⟩ := rep_g_Cell h
  obtain ⟨v0, rfl, s0⟩ := rep_g_Cell h2
  try dsimp only at *
  have e0 := k_laws_eqByteS (M ++ [⟨[u0], 1, 2⟩, ⟨[v0], 1, 2⟩]) _ _ x y (r0.mono (List.prefix_append _ _)) (s0.mono (List.prefix_append _ _)) hb
  have i0 := one_head r0.one
  have j0 := one_head s0.one
  by_cases q0 : x = y
  rotate_left
  · have hne := q0
    refine ans_f hne ?_
    have e0 := (ans_of e0).2 q0
    rw [aCall_eq T_laws_eqCell]; unfold A_laws_eqCell C_laws_eqCell; simp [thenD_pp, sliceCells_sl, sliceCells_z, sliceCells_nil, take_full, appS_sl, appK_ok, appS_none, thenD_ag, agP_nil, agP_cons, i0, j0, e0]
  have e0 := (ans_of e0).1 q0
  have he := q0
  refine ans_t he ?_
  rw [aCall_eq T_laws_eqCell]; unfold A_laws_eqCell C_laws_eqCell; simp [thenD_pp, sliceCells_sl, sliceCells_z, sliceCells_nil, take_full, appS_sl, appK_ok, appS_none, thenD_ag, agP_nil, agP_cons, i0, j0, e0]
theorem k_laws_eqCellS : EqS T0 ty_Cell F_laws_eqCellS := eq_sl (w := 1) T_laws_eqCellS rfl k_laws_eqCell
set_option maxHeartbeats 4000000 in
theorem k_laws_eqMem : EqF T0 ty_Mem F_laws_eqMem := by
  intro M cs ds x y h h2 hb
  obtain ⟨a0, a1, a2⟩ := x
  obtain ⟨b0, b1, b2⟩ := y
  obtain ⟨u0, u1, rfl, w0, r0, r1⟩ := rep_g_Mem h
  obtain ⟨v0, v1, rfl, _w0, s0, s1⟩ := rep_g_Mem h2
  try dsimp only at *
  have e1 := k_laws_eqCellS (M ++ [⟨[.int .i64 a0, u0, u1], 1, 2⟩, ⟨[.int .i64 b0, v0, v1], 1, 2⟩]) _ _ a1 b1 (r0.mono (List.prefix_append _ _)) (s0.mono (List.prefix_append _ _)) hb.2.1
  have e2 := k_laws_eqTouchS (M ++ [⟨[.int .i64 a0, u0, u1], 1, 2⟩, ⟨[.int .i64 b0, v0, v1], 1, 2⟩]) _ _ a2 b2 (r1.mono (List.prefix_append _ _)) (s1.mono (List.prefix_append _ _)) hb.2.2
  have i0 := one_head r0.one
  have i1 := one_head r1.one
  have j0 := one_head s0.one
  have j1 := one_head s1.one
  by_cases q0 : a0 = b0
  rotate_left
  · have hne : ¬ ((a0, a1, a2) : ty_Mem.D) = (b0, b1, b2) := fun e => q0 (by simp only [Prod.mk.injEq] at e; simp only [e])
    refine ans_f hne ?_
    rw [aCall_eq T_laws_eqMem]; unfold A_laws_eqMem C_laws_eqMem; simp [thenD_pp, sliceCells_sl, sliceCells_z, sliceCells_nil, take_full, appS_sl, appK_ok, appS_none, thenD_ag, agP_nil, agP_cons, i0, i1, j0, j1, q0]
  subst q0
  by_cases q1 : a1 = b1
  rotate_left
  · have hne : ¬ ((a0, a1, a2) : ty_Mem.D) = (a0, b1, b2) := fun e => q1 (by simp only [Prod.mk.injEq] at e; simp only [e])
    refine ans_f hne ?_
    have e1 := (ans_of e1).2 q1
    rw [aCall_eq T_laws_eqMem]; unfold A_laws_eqMem C_laws_eqMem; simp [thenD_pp, sliceCells_sl, sliceCells_z, sliceCells_nil, take_full, appS_sl, appK_ok, appS_none, thenD_ag, agP_nil, agP_cons, i0, i1, j0, j1, e1]
  have e1 := (ans_of e1).1 q1
  by_cases q2 : a2 = b2
  rotate_left
  · have hne : ¬ ((a0, a1, a2) : ty_Mem.D) = (a0, b1, b2) := fun e => q2 (by simp only [Prod.mk.injEq] at e; simp only [e])
    refine ans_f hne ?_
    have e2 := (ans_of e2).2 q2
    rw [aCall_eq T_laws_eqMem]; unfold A_laws_eqMem C_laws_eqMem; simp [thenD_pp, sliceCells_sl, sliceCells_z, sliceCells_nil, take_full, appS_sl, appK_ok, appS_none, thenD_ag, agP_nil, agP_cons, i0, i1, j0, j1, e1, e2]
  have e2 := (ans_of e2).1 q2
  have he : ((a0, a1, a2) : ty_Mem.D) = (a0, b1, b2) := by simp only [q1, q2]
  refine ans_t he ?_
  rw [aCall_eq T_laws_eqMem]; unfold A_laws_eqMem C_laws_eqMem; simp [thenD_pp, sliceCells_sl, sliceCells_z, sliceCells_nil, take_full, appS_sl, appK_ok, appS_none, thenD_ag, agP_nil, agP_cons, i0, i1, j0, j1, e1, e2]
set_option maxHeartbeats 4000000 in
theorem k_laws_eqScan : EqF T0 ty_Scan F_laws_eqScan := by
  intro M cs ds x y h h2 hb
  obtain ⟨u0, u1, rfl, w0, r0, r1⟩ := rep_g_Scan h
  obtain ⟨v0, v1, rfl, _w0, s0, s1⟩ := rep_g_Scan h2
  try dsimp only at *
  have e0 := k_laws_eqMem (M ++ [⟨[.int .i64 x.1, u0, u1], 1, 2⟩, ⟨[.int .i64 y.1, v0, v1], 1, 2⟩]) _ _ x y ((mkrep_g_Mem w0 (r0.mono (List.prefix_append _ _)) (r1.mono (List.prefix_append _ _)))) ((mkrep_g_Mem _w0 (s0.mono (List.prefix_append _ _)) (s1.mono (List.prefix_append _ _)))) hb
  have i0 := one_head r0.one
  have i1 := one_head r1.one
  have j0 := one_head s0.one
  have j1 := one_head s1.one
  by_cases q0 : x = y
  rotate_left
  · have hne := q0
    refine ans_f hne ?_
    have e0 := (ans_of e0).2 q0
    rw [aCall_eq T_laws_eqScan]; unfold A_laws_eqScan C_laws_eqScan; simp [thenD_pp, sliceCells_sl, sliceCells_z, sliceCells_nil, take_full, appS_sl, appK_ok, appS_none, thenD_ag, agP_nil, agP_cons, i0, i1, j0, j1, e0]
  have e0 := (ans_of e0).1 q0
  have he := q0
  refine ans_t he ?_
  rw [aCall_eq T_laws_eqScan]; unfold A_laws_eqScan C_laws_eqScan; simp [thenD_pp, sliceCells_sl, sliceCells_z, sliceCells_nil, take_full, appS_sl, appK_ok, appS_none, thenD_ag, agP_nil, agP_cons, i0, i1, j0, j1, e0]
def sz_Touch (x : ty_Touch.D) : Int := 0
def szs_Touch : List ty_Touch.D → Int
  | [] => 0
  | x :: xs => sz_Touch x + szs_Touch xs
theorem szs_pos_Touch : ∀ xs, 0 ≤ szs_Touch xs
  | [] => by simp [szs_Touch]
  | x :: xs => by have := szs_pos_Touch xs; unfold szs_Touch sz_Touch; omega
theorem c_laws_szTouchS (M : Mem) (v : V) (xs : List ty_Touch.D) (h : Rep (.sl ty_Touch) M [v] xs) (left : Int) (h0 : 0 ≤ left) (h1 : left ≤ 1048576) (hx : xs.length ≤ 9223372036854775807) :
    ∃ l : Int, aCall T0 F_laws_szTouchS [v, .int .i64 left] M = some (.int .i64 l, M) ∧ (0 ≤ l → xs.length + szs_Touch xs + l ≤ left) := by
  obtain ⟨a, c, rfl⟩ := h.slen
  have e0 : IntKind.i64.wrap (left - xs.length) = left - xs.length := wrap_i64 (by omega) (by omega)
  have hz : szs_Touch xs = 0 := by
    have : ∀ xs, szs_Touch xs = 0 := fun xs => by induction xs with | nil => rfl | cons x xs ih => simp [szs_Touch, sz_Touch, ih]
    exact this xs
  by_cases hc : left - (xs.length : Int) < 0
  · refine ⟨-1, ?_, by omega⟩
    rw [aCall_eq T_laws_szTouchS]; unfold A_laws_szTouchS C_laws_szTouchS; simp [e0, hc]
  · refine ⟨left - xs.length, ?_, by omega⟩
    rw [aCall_eq T_laws_szTouchS]; unfold A_laws_szTouchS C_laws_szTouchS; simp [e0, hc]
theorem k_laws_szTouchS : SzS T0 ty_Touch F_laws_szTouchS := fun M v xs left h hb h0 h1 => by
  obtain ⟨l, e, f⟩ := c_laws_szTouchS M v xs h left h0 h1 hb.1
  have hp := szs_pos_Touch xs
  refine ⟨l, ?_, e, fun hl => ⟨?_, fun _ _ => ⟨trivial, trivial, trivial⟩⟩⟩
  · by_cases hl : 0 ≤ l
    · have := f hl; omega
    · omega
  · have := f hl; omega
theorem k_laws_szByteS : SzS T0 ty_Byte F_laws_szByteS := fun M v xs left h hb h0 h1 => by
  obtain ⟨a, c, rfl⟩ := h.slen
  have hx : xs.length ≤ 9223372036854775807 := hb.1
  have e : IntKind.i64.wrap (left - (xs.length : Int)) = left - xs.length := wrap_i64 (by omega) (by omega)
  by_cases hl : left - (xs.length : Int) < 0
  · refine ⟨-1, by omega, ?_, by omega⟩
    have hl2 : left < (xs.length : Int) := by omega
    rw [aCall_eq T_laws_szByteS]; unfold A_laws_szByteS C_laws_szByteS; simp [e, hl, hl2]
  · refine ⟨left - xs.length, by omega, ?_, fun _ => ⟨by omega, fun _ _ => trivial⟩⟩
    have hl2 : ¬ left < (xs.length : Int) := by omega
    rw [aCall_eq T_laws_szByteS]; unfold A_laws_szByteS C_laws_szByteS; simp [e, hl, hl2]
theorem k_laws_szCell : SzF T0 ty_Cell F_laws_szCell := by
  intro M cs x left h hb h0 h1
  obtain ⟨u0, rfl, r0⟩ := rep_g_Cell h
  have i0 := one_head r0.one
  obtain ⟨l0, a0, e0, g0⟩ := k_laws_szByteS (M ++ [⟨[u0], 1, 2⟩]) _ _ left (r0.mono (List.prefix_append _ _)) hb (by omega) (by omega)
  by_cases h_0 : l0 < 0
  · refine ⟨-1, by omega, ?_, by omega⟩
    rw [aCall_eq T_laws_szCell]; unfold A_laws_szCell C_laws_szCell; simp [thenD_pp, sliceCells_sl, sliceCells_z, sliceCells_nil, take_full, appS_sl, appK_ok, appS_none, thenD_ag, agP_nil, agP_cons, i0, e0, h_0]
  refine ⟨l0, by omega, ?_, fun _ => g0 (by omega)⟩
  rw [aCall_eq T_laws_szCell]; unfold A_laws_szCell C_laws_szCell; simp [thenD_pp, sliceCells_sl, sliceCells_z, sliceCells_nil, take_full, appS_sl, appK_ok, appS_none, thenD_ag, agP_nil, agP_cons, i0, e0, h_0]
theorem k_laws_szCellS : SzS T0 ty_Cell F_laws_szCellS := sz_sl (w := 1) T_laws_szCellS rfl k_laws_szCell
theorem k_laws_szMem : SzF T0 ty_Mem F_laws_szMem := by
  intro M cs x left h hb h0 h1
  obtain ⟨u0, u1, rfl, w0, r0, r1⟩ := rep_g_Mem h
  have i0 := one_head r0.one
  have i1 := one_head r1.one
  obtain ⟨l0, a0, e0, g0⟩ := k_laws_szCellS (M ++ [⟨[.int .i64 x.1, u0, u1], 1, 2⟩]) _ _ left (r0.mono (List.prefix_append _ _)) hb.2.1 (by omega) (by omega)
  by_cases h_0 : l0 < 0
  · refine ⟨-1, by omega, ?_, by omega⟩
    rw [aCall_eq T_laws_szMem]; unfold A_laws_szMem C_laws_szMem; simp [thenD_pp, sliceCells_sl, sliceCells_z, sliceCells_nil, take_full, appS_sl, appK_ok, appS_none, thenD_ag, agP_nil, agP_cons, i0, i1, e0, h_0]
  obtain ⟨l1, a1, e1, g1⟩ := k_laws_szTouchS (M ++ [⟨[.int .i64 x.1, u0, u1], 1, 2⟩]) _ _ l0 (r1.mono (List.prefix_append _ _)) hb.2.2 (by omega) (by omega)
  by_cases h_1 : l1 < 0
  · refine ⟨-1, by omega, ?_, by omega⟩
    rw [aCall_eq T_laws_szMem]; unfold A_laws_szMem C_laws_szMem; simp [thenD_pp, sliceCells_sl, sliceCells_z, sliceCells_nil, take_full, appS_sl, appK_ok, appS_none, thenD_ag, agP_nil, agP_cons, i0, i1, e0, h_0, e1, h_1]
  refine ⟨l1, by omega, ?_, fun _ => ⟨trivial, g0 (by omega), g1 (by omega)⟩⟩
  rw [aCall_eq T_laws_szMem]; unfold A_laws_szMem C_laws_szMem; simp [thenD_pp, sliceCells_sl, sliceCells_z, sliceCells_nil, take_full, appS_sl, appK_ok, appS_none, thenD_ag, agP_nil, agP_cons, i0, i1, e0, h_0, e1, h_1]
theorem k_laws_szScan : SzF T0 ty_Scan F_laws_szScan := by
  intro M cs x left h hb h0 h1
  obtain ⟨u0, u1, rfl, w0, r0, r1⟩ := rep_g_Scan h
  have i0 := one_head r0.one
  have i1 := one_head r1.one
  obtain ⟨l0, a0, e0, g0⟩ := k_laws_szMem (M ++ [⟨[.int .i64 x.1, u0, u1], 1, 2⟩]) _ _ left ((mkrep_g_Mem w0 (r0.mono (List.prefix_append _ _)) (r1.mono (List.prefix_append _ _)))) hb (by omega) (by omega)
  by_cases h_0 : l0 < 0
  · refine ⟨-1, by omega, ?_, by omega⟩
    rw [aCall_eq T_laws_szScan]; unfold A_laws_szScan C_laws_szScan; simp [thenD_pp, sliceCells_sl, sliceCells_z, sliceCells_nil, take_full, appS_sl, appK_ok, appS_none, thenD_ag, agP_nil, agP_cons, i0, i1, e0, h_0]
  refine ⟨l0, by omega, ?_, fun _ => g0 (by omega)⟩
  rw [aCall_eq T_laws_szScan]; unfold A_laws_szScan C_laws_szScan; simp [thenD_pp, sliceCells_sl, sliceCells_z, sliceCells_nil, take_full, appS_sl, appK_ok, appS_none, thenD_ag, agP_nil, agP_cons, i0, i1, e0, h_0]
abbrev gt_TouchS (xs : List ty_Touch.D) : Int := 3 * (xs.length : Int)
def gtS {D : Type} (tot : D → Int) : List D → Int
  | [] => 0
  | x :: xs => tot x + gtS tot xs
abbrev gt_ByteS (xs : List ty_Byte.D) : Int := (xs.length : Int)
abbrev gt_Cell (x : ty_Cell.D) : Int := gt_ByteS x
abbrev gt_CellS (xs : List ty_Cell.D) : Int := gtS gt_Cell xs
def gt_Mem (x : ty_Mem.D) : Int := gt_CellS x.2.1 + gt_TouchS x.2.2
def gt_Scan (x : ty_Scan.D) : Int := gt_Mem x
theorem tot_TouchS : TotO (.sl ty_Touch) gt_TouchS 5000000 := fun xs hb => by have := hb.1; unfold gt_TouchS; omega
theorem gtS_bound {D : Type} {tot : D → Int} {B : Int} {xs : List D} (h : ∀ x ∈ xs, 0 ≤ tot x ∧ tot x ≤ B) : 0 ≤ gtS tot xs ∧ gtS tot xs ≤ xs.length * B := by
  induction xs with
  | nil => simp [gtS]
  | cons x xs ih =>
    have h1 := h x (by simp)
    have h2 := ih (fun y hy => h y (by simp [hy]))
    have e : ((x :: xs).length : Int) * B = B + xs.length * B := by
      rw [List.length_cons, Int.natCast_add, Int.add_mul]
      simp
      omega
    rw [e]
    unfold gtS
    omega
theorem tot_CellS : TotO (.sl ty_Cell) gt_CellS 1099511627776 := fun xs hb => by
  have h := gtS_bound (tot := gt_Cell) (B := 1048576) (xs := xs) (fun x hx => by
    have := (hb.2 x hx).1
    show 0 ≤ (List.length (α := UInt8) x : Int) ∧ (List.length (α := UInt8) x : Int) ≤ 1048576
    omega)
  have h1 := hb.1
  show 0 ≤ gtS gt_Cell xs ∧ gtS gt_Cell xs ≤ 1099511627776
  omega
theorem tot_Mem : TotO ty_Mem gt_Mem (1100000000000 + 5000000) := fun x hb => by
  have t0 := tot_CellS _ hb.2.1
  have t1 := tot_TouchS _ hb.2.2
  unfold gt_Mem
  omega
theorem tot_Scan : TotO ty_Scan gt_Scan (1100005000000) := fun x hb => by
  have t0 := tot_Mem _ hb
  unfold gt_Scan
  omega
def mk_Touch (k : Int) : ty_Touch.D := (k, k + 1, k + 2)
def marks_Touch (k : Int) (n : Nat) : List ty_Touch.D := (List.range n).map fun (j : Nat) => mk_Touch (k + 3 * (j : Int))
abbrev gm_TouchS (k : Int) (xs : List ty_Touch.D) : List ty_Touch.D := marks_Touch k xs.length
def gmS {D : Type} (mk : Int → D → D) (tot : D → Int) : Int → List D → List D
  | _, [] => []
  | k, x :: xs => mk k x :: gmS mk tot (k + tot x) xs
def mkY (k : Int) : UInt8 := UInt8.ofNat (k.toNat % 256)
def marksY (k : Int) (n : Nat) : List ty_Byte.D := (List.range n).map fun (j : Nat) => mkY (k + (j : Int))
abbrev gm_ByteS (k : Int) (xs : List ty_Byte.D) : List ty_Byte.D := marksY k xs.length
abbrev gm_Cell (k : Int) (x : ty_Cell.D) : ty_Cell.D := gm_ByteS k x
abbrev gm_CellS (k : Int) (xs : List ty_Cell.D) : List ty_Cell.D := gmS gm_Cell gt_Cell k xs
def gm_Mem (k : Int) (x : ty_Mem.D) : ty_Mem.D := (x.1, gm_CellS (k) x.2.1, gm_TouchS (k + gt_CellS x.2.1) x.2.2)
theorem marks_Touch_len (k : Int) (n : Nat) : (marks_Touch k n).length = n := by simp [marks_Touch]
theorem marks_Touch_get (k : Int) (n i : Nat) (hi : i < (marks_Touch k n).length) : (marks_Touch k n)[i] = mk_Touch (k + 3 * (i : Int)) := by simp [marks_Touch]
def mcs_Touch (k : Int) (i : Nat) : List V := ((marks_Touch k i).map enc_Touch).flatten
theorem ownf_Touch (M : Mem) (cs : List V) (x : ty_Touch.D) (K : List Nat) (h : Own ty_Touch M cs x K) : K = [] := by
  obtain ⟨_, _, _, _, _, ⟨_, rfl⟩, ⟨_, _, _, _, _, ⟨_, rfl⟩, ⟨_, rfl⟩, rfl⟩, rfl⟩ := h
  rfl
theorem mcs_Touch_len (k : Int) (i : Nat) : (mcs_Touch k i).length = i * 3 := by
  unfold mcs_Touch
  rw [flat_enc_len (w := 3) (fun x _ => rfl), marks_Touch_len]
theorem mcs_Touch_succ (k : Int) (i : Nat) : mcs_Touch k (i + 1) = mcs_Touch k i ++ [.int .i64 ((k + 3 * (i : Int)))] ++ [.int .i64 ((k + 3 * (i : Int)) + 1)] ++ [.int .i64 ((k + 3 * (i : Int)) + 2)] := by
  unfold mcs_Touch marks_Touch
  rw [List.range_succ]
  simp [mk_Touch]
theorem r_laws_markTouchS (M : Mem) (l o n c : Nat) (blk : Blk) (hb : M[l]? = some blk) (h2 : blk.st = 2) (k : Int) (hk : 0 < k) (hk2 : k + 3 * n ≤ 4611686018427387904) (ho : o + n * 3 ≤ blk.cells.length) (i : Nat) (hi : i < n) :
    lp (aCall T0) K_laws_markTouchS_0 L_laws_markTouchS_0 [.slice (some ⟨l, o, none⟩) n c, .int .i64 (k + 3 * (i : Int)), und, und, und, .int .i64 i, und, und, und, und, und, und, und, und, und, und, und, und, und, und, und, und, und, und, und, und, und, und, und, und, und, und, und, und] (M.set l (spB blk o (mcs_Touch k i))) =
    lp (aCall T0) K_laws_markTouchS_0 L_laws_markTouchS_0 [.slice (some ⟨l, o, none⟩) n c, .int .i64 (k + 3 * ((i + 1 : Nat) : Int)), und, und, und, .int .i64 (i + 1 : Nat), und, und, und, und, und, und, und, und, und, und, und, und, und, und, und, und, und, und, und, und, und, und, und, und, und, und, und, und] (M.set l (spB blk o (mcs_Touch k (i + 1)))) := by
  have el := mcs_Touch_len k i
  obtain ⟨q, hq⟩ : ∃ q, q = k + 3 * (i : Int) := ⟨_, rfl⟩
  have e0 := wrn_sp M l o blk hb h2 (mcs_Touch k i) (.int .i64 (q)) rfl (by rw [el]; omega)
  have e1 := wrn_sp M l o blk hb h2 (mcs_Touch k i ++ [.int .i64 (q)]) (.int .i64 (q + 1)) rfl (by simp only [List.length_append, List.length_cons, List.length_nil, el]; omega)
  have e2 := wrn_sp M l o blk hb h2 (mcs_Touch k i ++ [.int .i64 (q)] ++ [.int .i64 (q + 1)]) (.int .i64 (q + 2)) rfl (by simp only [List.length_append, List.length_cons, List.length_nil, el]; omega)
  have es := mcs_Touch_succ k i
  rw [← hq] at es
  rw [← es] at e2
  simp only [List.length_append, List.length_cons, List.length_nil, el, Nat.zero_add, Nat.add_assoc, Nat.reduceAdd, List.append_assoc, List.cons_append, List.nil_append] at e0 e1 e2
  have a1 : o + (i * 3 + 1) = o + i * 3 + 1 := by omega
  rw [a1] at e1
  have a2 : o + (i * 3 + 2) = o + i * 3 + 2 := by omega
  rw [a2] at e2
  have f6 : IntKind.i64.wrap ((i : Int) + 1) = i + 1 := wrap_i64 (by omega) (by omega)
  have g0 : IntKind.i64.wrap (q + 1) = q + 1 := by rw [wrap_i64 (by omega) (by omega)]
  have g1 : IntKind.i64.wrap (q + 1 + 1) = q + 2 := by rw [wrap_i64 (by omega) (by omega)]; omega
  have g2 : IntKind.i64.wrap (q + 2 + 1) = k + 3 * ((i : Int) + 1) := by rw [wrap_i64 (by omega) (by omega)]; omega
  rw [← hq]
  rw [S_laws_markTouchS_0]; unfold B_laws_markTouchS_0; simp [e0, e1, e2, f6, g0, g1, g2, hi]
theorem wf_range {z : Int} (h : -9223372036854775808 ≤ z ∧ z ≤ 9223372036854775807) : (Lit.int .i64 z).wf = true := by
  simp [Lit.wf, IntKind.min, IntKind.max, IntKind.signed, IntKind.bits]; omega
theorem d_laws_markTouchS (M : Mem) (v : V) (xs : List ty_Touch.D) (L : List Nat) (h : Own (.sl ty_Touch) M [v] xs L) (k : Int) (hk : 0 < k) (hk2 : k + 3 * xs.length ≤ 4611686018427387904) :
    ∃ M', aCall T0 F_laws_markTouchS [v, .int .i64 k] M = some (.int .i64 (k + 3 * xs.length), M') ∧ UpdG M M' (· ∈ L) ∧ Own (.sl ty_Touch) M' [v] (marks_Touch k xs.length) L := by
  rcases own_flat ownf_Touch h with ⟨rfl, rfl, hr⟩ | ⟨l, o, c, blk, hx, rfl, hb, h2, hw, ho, rfl⟩
  · refine ⟨M, ?_, pre_g (List.prefix_refl _) _, .inl ⟨rfl, rfl, hr⟩⟩
    obtain ⟨a, c, rfl⟩ := hr.slen
    rw [aCall_eq T_laws_markTouchS]; unfold A_laws_markTouchS C_laws_markTouchS; simp
    rw [S_laws_markTouchS_0]; unfold B_laws_markTouchS_0; simp
  · have hw2 : ty_Touch.w = 3 := rfl
    rw [hw2] at ho
    have hl := chain (g := fun i : Nat => lp (aCall T0) K_laws_markTouchS_0 L_laws_markTouchS_0 [.slice (some ⟨l, o, none⟩) xs.length c, .int .i64 (k + 3 * (i : Int)), und, und, und, .int .i64 i, und, und, und, und, und, und, und, und, und, und, und, und, und, und, und, und, und, und, und, und, und, und, und, und, und, und, und, und] (M.set l (spB blk o (mcs_Touch k i)))) (n := xs.length) fun i hi => r_laws_markTouchS M l o xs.length c blk hb h2 k hk hk2 ho i hi
    have e0 : mcs_Touch k 0 = [] := rfl
    simp only [Int.natCast_zero, Int.ofNat_zero, e0, spB_nil, set_same hb, Int.mul_zero, Int.add_zero] at hl
    have hlt := (List.getElem?_eq_some_iff.1 hb).1
    refine ⟨M.set l (spB blk o (mcs_Touch k xs.length)), ?_, Upd.g (upd_set hb rfl), ?_⟩
    · rw [aCall_eq T_laws_markTouchS]; unfold A_laws_markTouchS C_laws_markTouchS; simp [hl]
      rw [S_laws_markTouchS_0]; unfold B_laws_markTouchS_0; simp
      exact gc_len (by simp)
    · refine own_sp (blk := blk) (enc := enc_Touch) ?_ (marks_Touch_len _ _) (by simp [hlt, mcs_Touch]) h2 hw (by omega) ?_
      · intro e; have := congrArg List.length e; rw [marks_Touch_len] at this; exact hx (List.length_eq_zero_iff.1 this)
      · intro y hy
        obtain ⟨i, hi, rfl⟩ := List.getElem_of_mem hy
        rw [marks_Touch_get]
        have hi2 : i < xs.length := by rw [marks_Touch_len] at hi; exact hi
        obtain ⟨q, hq⟩ : ∃ q, q = k + 3 * (i : Int) := ⟨_, rfl⟩
        rw [← hq]
        exact own_Touch _ _ (wf_range (show -9223372036854775808 ≤ q ∧ q ≤ 9223372036854775807 by omega)) (wf_range (show -9223372036854775808 ≤ q + 1 ∧ q + 1 ≤ 9223372036854775807 by omega)) (wf_range (show -9223372036854775808 ≤ q + 2 ∧ q + 2 ≤ 9223372036854775807 by omega))
theorem k_laws_markTouchS : MarkS T0 ty_Touch F_laws_markTouchS gm_TouchS gt_TouchS := fun M v xs L k h _ hb hk hk2 => d_laws_markTouchS M v xs L h k hk hk2
theorem marksY_len (k : Int) (n : Nat) : (marksY k n).length = n := by simp [marksY]
def mcs_Byte (k : Int) (i : Nat) : List V := ((marksY k i).map enc_Byte).flatten
theorem mkY_val (k : Int) (hk : 0 < k) : Value.int .u8 (IntKind.u8.wrap k) = byteV (mkY k) := by
  unfold mkY
  rw [byteV_len (by omega)]
  congr 1
  simp [IntKind.wrap, IntKind.min, IntKind.max, IntKind.signed, IntKind.bits]
  omega
theorem mkY_wrap (k : Int) (hk : 0 < k) : IntKind.u8.wrap k = ((mkY k).toNat : Int) := by
  have h := mkY_val k hk
  unfold byteV at h
  injection h
theorem mcs_Byte_len (k : Int) (i : Nat) : (mcs_Byte k i).length = i := by
  unfold mcs_Byte
  rw [flat_enc_len (w := 1) (fun x _ => rfl), marksY_len, Nat.mul_one]
theorem mcs_Byte_succ (k : Int) (i : Nat) : mcs_Byte k (i + 1) = mcs_Byte k i ++ [byteV (mkY (k + (i : Int)))] := by
  unfold mcs_Byte marksY
  rw [List.range_succ]
  simp
theorem r_laws_markByteS (M : Mem) (l o n c : Nat) (blk : Blk) (hb : M[l]? = some blk) (h2 : blk.st = 2) (k : Int) (hk : 0 < k) (hk2 : k + n ≤ 4611686018427387904) (ho : o + n ≤ blk.cells.length) (i : Nat) (hi : i < n) :
    lp (aCall T0) K_laws_markByteS_0 L_laws_markByteS_0 [.slice (some ⟨l, o, none⟩) n c, .int .i64 (k + (i : Int)), und, und, und, .int .i64 i, und, und, und, und, und, und, und, und, und, und, und, und, und, und] (M.set l (spB blk o (mcs_Byte k i))) =
    lp (aCall T0) K_laws_markByteS_0 L_laws_markByteS_0 [.slice (some ⟨l, o, none⟩) n c, .int .i64 (k + ((i + 1 : Nat) : Int)), und, und, und, .int .i64 (i + 1 : Nat), und, und, und, und, und, und, und, und, und, und, und, und, und, und] (M.set l (spB blk o (mcs_Byte k (i + 1)))) := by
  have el := mcs_Byte_len k i
  have e1 := wrn_sp M l o blk hb h2 (mcs_Byte k i) (byteV (mkY (k + (i : Int)))) rfl (by omega)
  rw [← mcs_Byte_succ, el] at e1
  have e6 : IntKind.i64.wrap ((i : Int) + 1) = i + 1 := wrap_i64 (by omega) (by omega)
  have e7 : IntKind.i64.wrap (k + (i : Int) + 1) = k + ((i : Int) + 1) := by rw [wrap_i64 (by omega) (by omega)]; omega
  have e8 := mkY_wrap (k + (i : Int)) (by omega)
  unfold byteV at e1
  rw [S_laws_markByteS_0]; unfold B_laws_markByteS_0; simp [e1, e6, e7, e8, hi]
theorem d_laws_markByteS (M : Mem) (v : V) (xs : List ty_Byte.D) (L : List Nat) (h : Own (.sl ty_Byte) M [v] xs L) (k : Int) (hk : 0 < k) (hk2 : k + xs.length ≤ 4611686018427387904) :
    ∃ M', aCall T0 F_laws_markByteS [v, .int .i64 k] M = some (.int .i64 (k + xs.length), M') ∧ UpdG M M' (· ∈ L) ∧ Own (.sl ty_Byte) M' [v] (marksY k xs.length) L := by
  rcases own_flat ownf_Byte h with ⟨rfl, rfl, hr⟩ | ⟨l, o, c, blk, hx, rfl, hb, h2, hw, ho, rfl⟩
  · refine ⟨M, ?_, pre_g (List.prefix_refl _) _, .inl ⟨rfl, rfl, hr⟩⟩
    obtain ⟨a, c, rfl⟩ := hr.slen
    rw [aCall_eq T_laws_markByteS]; unfold A_laws_markByteS C_laws_markByteS; simp
    rw [S_laws_markByteS_0]; unfold B_laws_markByteS_0; simp
  · have hw2 : ty_Byte.w = 1 := rfl
    rw [hw2, Nat.mul_one] at ho
    have hl := chain (g := fun i : Nat => lp (aCall T0) K_laws_markByteS_0 L_laws_markByteS_0 [.slice (some ⟨l, o, none⟩) xs.length c, .int .i64 (k + (i : Int)), und, und, und, .int .i64 i, und, und, und, und, und, und, und, und, und, und, und, und, und, und] (M.set l (spB blk o (mcs_Byte k i)))) (n := xs.length) fun i hi => r_laws_markByteS M l o xs.length c blk hb h2 k hk hk2 ho i hi
    have e0 : mcs_Byte k 0 = [] := rfl
    simp only [Int.natCast_zero, Int.ofNat_zero, e0, spB_nil, set_same hb, Int.add_zero] at hl
    have hlt := (List.getElem?_eq_some_iff.1 hb).1
    refine ⟨M.set l (spB blk o (mcs_Byte k xs.length)), ?_, Upd.g (upd_set hb rfl), ?_⟩
    · rw [aCall_eq T_laws_markByteS]; unfold A_laws_markByteS C_laws_markByteS; simp [hl]
      rw [S_laws_markByteS_0]; unfold B_laws_markByteS_0; simp
      exact gc_len (by simp)
    · refine own_sp (blk := blk) (enc := enc_Byte) ?_ (marksY_len _ _) (by simp [hlt, mcs_Byte]) h2 hw (by omega) (fun y _ => own_Byte _ y)
      intro e; have := congrArg List.length e; rw [marksY_len] at this; exact hx (List.length_eq_zero_iff.1 this)
theorem k_laws_markByteS : MarkS T0 ty_Byte F_laws_markByteS gm_ByteS gt_ByteS := fun M v xs L k h _ hb hk hk2 => d_laws_markByteS M v xs L h k hk hk2
theorem splice_drop (cs ys : List V) (o p : Nat) (ho : o ≤ cs.length) : (splice cs (o + p) ys).drop o = splice (cs.drop o) p ys := by
  unfold splice
  have h1 : (cs.take (o + p)).drop o = (cs.drop o).take p := by rw [List.drop_take]; congr 1; omega
  rw [List.append_assoc, List.append_assoc, List.drop_append, h1, List.drop_drop]
  have h2 : o - (cs.take (o + p)).length = 0 := by simp; omega
  rw [h2, List.drop_zero]
  congr 3
  omega
theorem splice_app (xs r ys : List V) (p : Nat) (hp : p + ys.length ≤ xs.length) : splice (xs ++ r) p ys = splice xs p ys ++ r := by
  unfold splice
  rw [List.take_append_of_le_length (by omega), List.drop_append_of_le_length hp]
  simp [List.append_assoc]
theorem flat_atr {w : Nat} : ∀ (css : List (List V)) (i : Nat) (hi : i < css.length) (r : List V), (∀ c ∈ css, c.length = w) → ((css.flatten ++ r).drop (i * w)).take w = css[i] := by
  intro css
  induction css with
  | nil => intro i hi; simp at hi
  | cons c cs ih =>
    intro i hi r hc
    cases i with
    | zero =>
      rw [Nat.zero_mul, List.drop_zero, List.flatten_cons, List.append_assoc, List.take_left' (hc c (by simp))]
      rfl
    | succ i =>
      rw [List.flatten_cons, Nat.add_mul, Nat.one_mul, Nat.add_comm, ← List.drop_drop, List.append_assoc, List.drop_left' (hc c (by simp))]
      exact ih i (by simpa using hi) r (fun d hd => hc d (by simp [hd]))
theorem Own.elem {t : Ty} {X : Mem} {v : V} {xs : List t.D} {L : List Nat} (h : Own (.sl t) X [v] xs L) (nd : L.Nodup) {i : Nat} (hi : i < xs.length) :
    ∃ (l o c : Nat) (blk : Blk) (cs : List V) (K : List Nat), v = .slice (some ⟨l, o, none⟩) xs.length c ∧ X[l]? = some blk ∧ blk.st = 2 ∧ blk.w = t.w ∧ o + i * t.w + t.w ≤ blk.cells.length ∧ (blk.cells.drop (o + i * t.w)).take t.w = cs ∧ cs.length = t.w ∧ Own t X cs xs[i] K ∧ K.Nodup ∧ l ∉ K ∧ (∀ j ∈ K, j ∈ L) ∧ l ∈ L ∧
    ∀ (X' : Mem) (cs' : List V) (y : t.D), UpdG X X' (fun j => j = l ∨ j ∈ K) → X'[l]? = some (spB blk (o + i * t.w) cs') → cs'.length = t.w → Own t X' cs' y K → Own (.sl t) X' [v] (xs.set i y) L := by
  rcases h with ⟨rfl, _, _⟩ | ⟨l, o, c, blk, css, Ls, hne, e, hb, h2, hw, hc, hLs, hel, hp, rfl⟩
  · simp at hi
  cases e
  have hone : ∀ cs ∈ css, cs.length = t.w := by
    intro cs hcs
    obtain ⟨i, hi, rfl⟩ := List.getElem_of_mem hcs
    exact (hel i css[i] (xs[i]'(by omega)) (Ls[i]'(by omega)) (by simp) (by simp) (by simp)).rep.len
  have hfl := flat_len hone
  obtain ⟨r, hr⟩ := hp
  have hle : i * t.w + t.w ≤ css.length * t.w := by
    rw [← Nat.succ_mul]
    exact Nat.mul_le_mul_right _ (by omega)
  have hlen : css.flatten.length + r.length = blk.cells.length - o := by rw [← List.length_append, hr, List.length_drop]
  have hw0 := t.w_pos
  have hcs := flat_atr css i (by omega) r hone
  obtain ⟨hln, hnf⟩ := List.nodup_cons.1 nd
  have hmem : ∀ (k : Nat) (hk : k < Ls.length), ∀ j ∈ Ls[k], j ∈ Ls.flatten := fun k hk j hj => List.mem_flatten.2 ⟨_, List.getElem_mem hk, hj⟩
  have hndK : ∀ (Ls : List (List Nat)), Ls.flatten.Nodup → (∀ K ∈ Ls, K.Nodup) ∧ ∀ (a b : Nat) (K J : List Nat), Ls[a]? = some K → Ls[b]? = some J → a ≠ b → ∀ j ∈ K, j ∉ J := by
    intro Ls
    induction Ls with
    | nil => intro _; exact ⟨by simp, fun a b K J h => by simp at h⟩
    | cons A As ih =>
      intro hn
      rw [List.flatten_cons] at hn
      obtain ⟨n1, n2, n3⟩ := List.nodup_append.1 hn
      obtain ⟨i1, i2⟩ := ih n2
      refine ⟨fun K hK => ?_, fun a b K J ha hb hab j hj hj2 => ?_⟩
      · rcases List.mem_cons.1 hK with rfl | hK
        · exact n1
        · exact i1 K hK
      · cases a with
        | zero =>
          cases b with
          | zero => exact hab rfl
          | succ b =>
            simp at ha hb
            subst ha
            exact n3 j hj j (List.mem_flatten.2 ⟨J, List.mem_of_getElem? hb, hj2⟩) rfl
        | succ a =>
          cases b with
          | zero =>
            simp at ha hb
            subst hb
            exact n3 j hj2 j (List.mem_flatten.2 ⟨K, List.mem_of_getElem? ha, hj⟩) rfl
          | succ b =>
            simp at ha hb
            exact i2 a b K J ha hb (by omega) j hj hj2
  obtain ⟨hk1, hk2⟩ := hndK Ls hnf
  refine ⟨l, o, c, blk, css[i]'(by omega), Ls[i]'(by omega), rfl, hb, h2, hw, by omega, ?_, hone _ (List.getElem_mem _), hel i _ xs[i] _ (by simp) (by simp) (by simp), hk1 _ (List.getElem_mem _), fun hm => hln (hmem _ _ _ hm), fun j hj => List.mem_cons_of_mem _ (hmem _ _ _ hj), by simp, ?_⟩
  · rw [← List.drop_drop, ← hr]
    exact hcs
  · intro X' cs' y hu hb' hl' hy
    refine .inr ⟨l, o, c, spB blk (o + i * t.w) cs', css.set i cs', Ls, ?_, by simp, hb', h2, hw, by simp [hc], by simp [hLs], fun k ds x K hds hx hK => ?_, ?_, rfl⟩
    · intro e
      have := congrArg List.length e
      simp at this
      exact hne this
    · by_cases hk : i = k
      · subst hk
        rw [List.getElem?_set_self (by omega)] at hds hx
        rw [List.getElem?_eq_getElem (by omega)] at hK
        cases hds; cases hx; cases hK
        exact hy
      · rw [List.getElem?_set_ne hk] at hds hx
        refine (hel k ds x K hds hx hK).updg hu (fun j hj hm => ?_)
        rcases hm with rfl | hm
        · exact hln (List.mem_flatten.2 ⟨K, List.mem_of_getElem? hK, hj⟩)
        · exact hk2 i k (Ls[i]'(by omega)) K (by simp) hK hk j hm hj
    · unfold spB
      simp only
      rw [splice_drop _ _ _ _ (by omega), ← hr, splice_app _ _ _ _ (by omega), splice_el css i t.w cs' (by omega) hone hl']
      exact List.prefix_append _ _
theorem gmS_len {D : Type} (mk : Int → D → D) (tot : D → Int) : ∀ (xs : List D) (k : Int), (gmS mk tot k xs).length = xs.length
  | [], _ => rfl
  | x :: xs, k => by simp [gmS, gmS_len mk tot xs]
theorem gtS_app {D : Type} (tot : D → Int) : ∀ (xs ys : List D), gtS tot (xs ++ ys) = gtS tot xs + gtS tot ys
  | [], ys => by simp [gtS]
  | x :: xs, ys => by simp [gtS, gtS_app tot xs ys]; omega
theorem gtS_step {D : Type} (tot : D → Int) {xs : List D} {i : Nat} (hi : i < xs.length) : gtS tot (xs.take (i + 1)) = gtS tot (xs.take i) + tot xs[i] := by
  rw [List.take_succ_eq_append_getElem hi, gtS_app]
  simp [gtS]
theorem gmS_app {D : Type} (mk : Int → D → D) (tot : D → Int) : ∀ (xs ys : List D) (k : Int), gmS mk tot k (xs ++ ys) = gmS mk tot k xs ++ gmS mk tot (k + gtS tot xs) ys
  | [], ys, k => by simp [gmS, gtS]
  | x :: xs, ys, k => by
    have : k + tot x + gtS tot xs = k + (tot x + gtS tot xs) := by omega
    simp [gmS, gtS, gmS_app mk tot xs ys, this]
theorem gmS_step {D : Type} (mk : Int → D → D) (tot : D → Int) {xs : List D} {i : Nat} (hi : i < xs.length) (k : Int) : (gmS mk tot k (xs.take i) ++ xs.drop i).set i (mk (k + gtS tot (xs.take i)) xs[i]) = gmS mk tot k (xs.take (i + 1)) ++ xs.drop (i + 1) := by
  have hl : (gmS mk tot k (xs.take i)).length = i := by rw [gmS_len, List.length_take]; omega
  rw [List.set_append_right _ _ (by omega), hl, Nat.sub_self, List.take_succ_eq_append_getElem hi, gmS_app, List.append_assoc, List.drop_eq_getElem_cons hi]
  rfl
theorem gtS_take {D : Type} {tot : D → Int} {xs : List D} (h : ∀ x ∈ xs, 0 ≤ tot x) {i : Nat} (hi : i < xs.length) : 0 ≤ gtS tot (xs.take i) ∧ gtS tot (xs.take i) + tot xs[i] ≤ gtS tot xs := by
  have h0 : ∀ ys : List D, (∀ y ∈ ys, 0 ≤ tot y) → 0 ≤ gtS tot ys := by
    intro ys
    induction ys with
    | nil => intro _; simp [gtS]
    | cons y ys ih =>
      intro hy
      have := hy y (by simp)
      have := ih (fun z hz => hy z (by simp [hz]))
      unfold gtS
      omega
  have e : xs = xs.take i ++ (xs[i] :: xs.drop (i + 1)) := by
    rw [← List.drop_eq_getElem_cons hi, List.take_append_drop]
  have e2 : gtS tot xs = gtS tot (xs.take i) + (tot xs[i] + gtS tot (xs.drop (i + 1))) := by
    conv => lhs; rw [e]
    rw [gtS_app]
    rfl
  have h1 := h0 (xs.take i) (fun y hy => h y (List.mem_of_mem_take hy))
  have h2 := h0 (xs.drop (i + 1)) (fun y hy => h y (List.mem_of_mem_drop hy))
  omega
theorem splice_self {cs ys : List V} {p : Nat} (h : (cs.drop p).take ys.length = ys) : splice cs p ys = cs := by
  unfold splice
  conv => rhs; rw [← List.take_append_drop p cs, ← List.take_append_drop ys.length (cs.drop p), h, List.drop_drop]
  rw [List.append_assoc]
theorem spB_self {blk : Blk} {ys : List V} {p : Nat} (h : (blk.cells.drop p).take ys.length = ys) : spB blk p ys = blk := by
  unfold spB
  rw [splice_self h]
theorem take_getE {cs ys : List V} {p w : Nat} (h : (cs.drop p).take w = ys) {j : Nat} (hj : j < w) : cs[p + j]? = ys[j]? := by
  subst h
  rw [List.getElem?_take, if_pos hj, List.getElem?_drop]
theorem k_laws_markCellS : MarkS T0 ty_Cell F_laws_markCellS gm_CellS gt_CellS := fun M v xs L k h nd hb hk hk2 => by
  have hpos : ∀ x ∈ xs, 0 ≤ gt_Cell x := fun x hx => Int.natCast_nonneg _
  have hk3 : k + gtS gt_Cell xs ≤ 4611686018427387904 := hk2
  have hn := hb.1
  have hn2 : (xs.length : Int) ≤ 1048576 := by omega
  obtain ⟨a, c, rfl⟩ := h.rep.slen
  have key := loop_to (call := aCall T0) (K := K_laws_markCellS_0) (L := L_laws_markCellS_0) (fun i (_ : Unit) X => UpdG M X (· ∈ L) ∧ Own (.sl ty_Cell) X [.slice a xs.length c] (gmS gm_Cell gt_Cell k (xs.take i) ++ xs.drop i) L) (fun i _ => [.slice a xs.length c, .int .i64 (k + gtS gt_Cell (xs.take i)), und, und, und, .int .i64 i, und, und, und, und, und, und, und, und, und, und, und, und, und, und]) (n := xs.length) ?_ 0 () M (by omega) ⟨pre_g (List.prefix_refl _) _, by simpa [gmS] using h⟩
  · obtain ⟨_, X', ⟨h1, h2⟩, e⟩ := key
    simp only [List.take_length, List.drop_length, List.append_nil] at h2 e
    have e0 : k + gtS gt_Cell (xs.take 0) = k := by simp [gtS]
    simp only [e0, Int.natCast_zero, Int.ofNat_zero] at e
    obtain ⟨M2, g1, g2, g3⟩ := gc_num h1 h h2 (k + gtS gt_Cell xs)
    refine ⟨M2, ?_, g2, g3⟩
    rw [aCall_eq T_laws_markCellS]; unfold A_laws_markCellS C_laws_markCellS; simp [thenD_pp, sliceCells_sl, sliceCells_z, sliceCells_nil, take_full, appS_sl, appK_ok, appS_none, thenD_ag, agP_nil, agP_cons, e]
    rw [S_laws_markCellS_0]; unfold B_laws_markCellS_0; simp [thenD_pp, sliceCells_sl, sliceCells_z, sliceCells_nil, take_full, appS_sl, appK_ok, appS_none, thenD_ag, agP_nil, agP_cons]
    exact g1
  intro i _ X hi ⟨hu, ho⟩
  have hys : (gmS gm_Cell gt_Cell k (xs.take i)).length = i := by rw [gmS_len, List.length_take]; omega
  have hyl : (gmS gm_Cell gt_Cell k (xs.take i) ++ xs.drop i).length = xs.length := by simp [hys]; omega
  have hyi : (gmS gm_Cell gt_Cell k (xs.take i) ++ xs.drop i)[i]'(by omega) = xs[i] := by
    rw [List.getElem_append_right (by omega)]
    simp [hys]
  obtain ⟨l, o, c2, blk, cs, K, ev, hbl, hst, hw, hle, hcs, hcl, hoe, ndk, hlk, hKL, hlL, hre⟩ := Own.elem ho nd (i := i) (by omega)
  rw [hyi] at hoe
  rw [hyl] at ev
  cases ev
  have e6 : IntKind.i64.wrap ((i : Int) + 1) = i + 1 := wrap_i64 (by omega) (by omega)
  have ht := gtS_take (tot := gt_Cell) hpos hi
  have hw1 : ty_Cell.w = 1 := rfl
  match cs, hcl with
  | [u], _ =>
  have hrd : rd1 X l (o + i) = some u := by
    rw [rd1_K, hbl]
    have := take_getE hcs (j := 0) (by decide)
    simp only [rdJ]
    rw [if_pos (.inr hst)]
    simpa [hw1] using this
  obtain ⟨X', e1, u1, o1⟩ := k_laws_markByteS X u xs[i] K (k + gtS gt_Cell (xs.take i)) hoe ndk (hb.2 _ (List.getElem_mem hi)) (by omega) (by show _ + gt_Cell xs[i] ≤ _; omega)
  have hX'l : X'[l]? = some blk := u1.get hbl hlk
  have hown := hre X' [u] (gm_Cell (k + gtS gt_Cell (xs.take i)) xs[i]) (u1.weak (fun j hj => .inr hj)) (by rw [hX'l, spB_self (by rw [List.length_singleton]; exact hcs)]) rfl o1
  rw [gmS_step gm_Cell gt_Cell hi] at hown
  refine ⟨(), X', ⟨?_, hown⟩, ?_⟩
  · exact (hu.trans u1).weak (fun j hj => by
      rcases hj with hj | hj
      · exact hj
      · exact hKL j hj)
  · have es := gtS_step gt_Cell hi
    have es2 : k + gtS gt_Cell (xs.take (i + 1)) = k + gtS gt_Cell (xs.take i) + gt_ByteS xs[i] := by rw [es]; exact (Int.add_assoc _ _ _).symm
    rw [es2]
    rw [S_laws_markCellS_0]; unfold B_laws_markCellS_0; simp [thenD_pp, sliceCells_sl, sliceCells_z, sliceCells_nil, take_full, appS_sl, appK_ok, appS_none, thenD_ag, agP_nil, agP_cons, hi, hrd, e1, e6]
set_option maxHeartbeats 4000000 in
theorem k_laws_markMem : MarkF T0 ty_Mem F_laws_markMem gm_Mem gt_Mem := by
  intro M cs x L k h hnd hb hk hk2
  have hwhole := h
  obtain ⟨u0, u1, L0, L1, rfl, w0, r0, r1, rfl⟩ := own_g_Mem h
  have t0 := tot_CellS _ hb.2.1
  have t1 := tot_TouchS _ hb.2.2
  unfold gt_Mem at hk2 ⊢
  have hlt := own_lt hwhole
  have hp0 : M <+: M ++ [(⟨[.int .i64 x.1, u0, u1], 1, 2⟩ : Blk)] := List.prefix_append _ _
  have b0 : (M ++ [(⟨[.int .i64 x.1, u0, u1], 1, 2⟩ : Blk)])[M.length]? = some ⟨[.int .i64 x.1, u0, u1], 1, 2⟩ := by simp
  have o0_0 := r0.grow hp0
  have o0_1 := r1.grow hp0
  have hnd2 := hnd
  simp only [List.nodup_append, List.mem_append] at hnd2
  have i0 := one_head r0.rep.one
  have i1 := one_head r1.rep.one
  obtain ⟨N0, e0, up0, ow0⟩ := k_laws_markCellS (M ++ [(⟨[.int .i64 x.1, u0, u1], 1, 2⟩ : Blk)]) _ _ _ (k) o0_0 (by have := hnd; simp only [List.nodup_append] at this; simp [this]) hb.2.1 (by omega) (by omega)
  have b1 : N0[M.length]? = some ⟨[.int .i64 x.1, u0, u1], 1, 2⟩ := up0.get b0 (fun hm => by have := hlt M.length (by simp only [List.mem_append] at hm ⊢; simp [hm]); omega)
  have o1_1 := Own.updg up0 o0_1 (fun l hl hm => by have := hnd; simp only [List.nodup_append, List.mem_append] at this hm; grind)
  have o1_0 := ow0
  obtain ⟨N1, e1, up1, ow1⟩ := k_laws_markTouchS N0 _ _ _ (k + gt_CellS x.2.1) o1_1 (by have := hnd; simp only [List.nodup_append] at this; simp [this]) hb.2.2 (by omega) (by omega)
  have b2 : N1[M.length]? = some ⟨[.int .i64 x.1, u0, u1], 1, 2⟩ := up1.get b1 (fun hm => by have := hlt M.length (by simp only [List.mem_append] at hm ⊢; simp [hm]); omega)
  have o2_0 := Own.updg up1 o1_0 (fun l hl hm => by have := hnd; simp only [List.nodup_append, List.mem_append] at this hm; grind)
  have o2_1 := ow1
  have uu : UpdG M N1 (· ∈ L0 ++ L1) := by
    refine (UpdG.weak ((UpdG.trans up0 up1).grow hp0) fun l hl => ?_)
    simp only [List.mem_append]
    grind
  have oo := mkown_g_Mem (x := gm_Mem k x) w0 o2_0 o2_1
  obtain ⟨N, g1, g2, g3⟩ := gc_num uu hwhole oo (k + (gt_CellS x.2.1 + gt_TouchS x.2.2))
  refine ⟨N, ?_, g2, g3⟩
  have hadd : k + gt_CellS x.2.1 + gt_TouchS x.2.2 = k + (gt_CellS x.2.1 + gt_TouchS x.2.2) := by omega
  rw [← hadd] at g1 ⊢
  rw [aCall_eq T_laws_markMem]; unfold A_laws_markMem C_laws_markMem; simp [thenD_pp, sliceCells_sl, sliceCells_z, sliceCells_nil, take_full, appS_sl, appK_ok, appS_none, thenD_ag, agP_nil, agP_cons, i0, i1, e0, b1, e1, b2, g1, rd1_K, rdJ_ok, rdn_K, rnJ_ok, wrn_K, wrJ_ok]
theorem own_g_Scan {M : Mem} {cs : List V} {x : ty_Scan.D} {L : List Nat} (h : Own ty_Scan M cs x L) : ∃ (u0 u1 : V) (L0 L1 : List Nat), cs = [.int .i64 x.1, u0, u1] ∧ (Lit.int .i64 x.1).wf = true ∧ Own (.sl ty_Cell) M [u0] x.2.1 L0 ∧ Own (.sl ty_Touch) M [u1] x.2.2 L1 ∧ L = L0 ++ L1 := by
  obtain ⟨u0, u1, Q0_0, Q0_1, rfl, w0, r0, r1, rfl⟩ := own_g_Mem h
  exact ⟨u0, u1, _, _, rfl, w0, r0, r1, by simp⟩
def gm_Scan (k : Int) (x : ty_Scan.D) : ty_Scan.D := gm_Mem (k) x
set_option maxHeartbeats 4000000 in
theorem k_laws_markScan : MarkF T0 ty_Scan F_laws_markScan gm_Scan gt_Scan := by
  intro M cs x L k h hnd hb hk hk2
  have hwhole := h
  obtain ⟨u0, u1, L0, L1, rfl, w0, r0, r1, rfl⟩ := own_g_Scan h
  have t0 := tot_Mem _ hb
  unfold gt_Scan at hk2 ⊢
  have hlt := own_lt hwhole
  have hp0 : M <+: M ++ [(⟨[.int .i64 x.1, u0, u1], 1, 2⟩ : Blk)] := List.prefix_append _ _
  have b0 : (M ++ [(⟨[.int .i64 x.1, u0, u1], 1, 2⟩ : Blk)])[M.length]? = some ⟨[.int .i64 x.1, u0, u1], 1, 2⟩ := by simp
  have o0_0 := r0.grow hp0
  have o0_1 := r1.grow hp0
  have hnd2 := hnd
  simp only [List.nodup_append, List.mem_append] at hnd2
  have i0 := one_head r0.rep.one
  have i1 := one_head r1.rep.one
  obtain ⟨N0, e0, up0, ow0⟩ := k_laws_markMem (M ++ [(⟨[.int .i64 x.1, u0, u1], 1, 2⟩ : Blk)]) _ _ _ (k) (mkown_g_Mem w0 o0_0 o0_1) (by have := hnd; simp only [List.nodup_append, List.mem_append] at this ⊢; simp_all) hb (by omega) (by omega)
  have b1 : N0[M.length]? = some ⟨[.int .i64 x.1, u0, u1], 1, 2⟩ := up0.get b0 (fun hm => by have := hlt M.length (by simp only [List.mem_append] at hm ⊢; simp [hm]); omega)
  have uu : UpdG M N0 (· ∈ L0 ++ L1) := up0.grow hp0
  have oo : Own ty_Scan N0 [.int .i64 x.1, u0, u1] (gm_Scan k x) (L0 ++ L1) := ow0
  obtain ⟨N, g1, g2, g3⟩ := gc_num uu hwhole oo (k + (gt_Mem x))
  refine ⟨N, ?_, g2, g3⟩
  have hadd : k + gt_Mem x = k + (gt_Mem x) := by omega
  rw [← hadd] at g1 ⊢
  rw [aCall_eq T_laws_markScan]; unfold A_laws_markScan C_laws_markScan; simp [thenD_pp, sliceCells_sl, sliceCells_z, sliceCells_nil, take_full, appS_sl, appK_ok, appS_none, thenD_ag, agP_nil, agP_cons, i0, i1, e0, b1, g1, rd1_K, rdJ_ok, rdn_K, rnJ_ok, wrn_K, wrJ_ok]
theorem at_Touch {M : Mem} {a : Option Addr} {n c : Nat} {xs : List ty_Touch.D} (h : Rep (.sl ty_Touch) M [.slice a n c] xs) {i : Nat} (hi : i < xs.length) : ∃ l o, a = some ⟨l, o, none⟩ ∧ Rep ty_Touch M (enc_Touch xs[i]) xs[i] ∧ rdn M l (o + i * 3) 3 = some (enc_Touch xs[i]) ∧ rd1 M l (o + i * 3) = some (.int .i64 xs[i].1) ∧ rd1 M l (o + i * 3 + 1) = some (.int .i64 xs[i].2.1) ∧ rd1 M l (o + i * 3 + 2) = some (.int .i64 xs[i].2.2) := by
  obtain ⟨_, l, o, rfl, cs, hrd, hrep⟩ := rep_at h hi
  have hcs := rep_Touch hrep
  subst hcs
  have hw : ty_Touch.w = 3 := rfl
  rw [hw] at hrd
  exact ⟨l, o, rfl, hrep, hrd, rd1_of_rdn hrd (k := 0) rfl, rd1_of_rdn hrd (k := 1) rfl, rd1_of_rdn hrd (k := 2) rfl⟩
theorem d_laws_heldTouchS (M : Mem) (v : V) (k : Int) (n : Nat) (h : Rep (.sl ty_Touch) M [v] (marks_Touch k n)) (hk : 0 < k) (hk2 : k + 3 * n ≤ 4611686018427387904) : aCall T0 F_laws_heldTouchS [v, .int .i64 k] M = some (.int .i64 (k + 3 * n), M) := by
  obtain ⟨a, c, rfl⟩ := h.slen
  have hlen := marks_Touch_len k n
  have hc := chain (g := fun i : Nat => lp (aCall T0) K_laws_heldTouchS_0 L_laws_heldTouchS_0 [.slice a (marks_Touch k n).length c, .int .i64 (k + 3 * (i : Int)), und, und, und, .int .i64 i, und, und, und, und, und, und, und, und, und, und, und, und, und, und, und, und, und, und, und, und, und, und, und, und, und, und, und, und, und, und, und, und, und, und] M) (n := n) fun i hi => by
    obtain ⟨l, o, rfl, _, _, hf0, hf1, hf2⟩ := at_Touch h (i := i) (by omega)
    rw [marks_Touch_get] at hf0 hf1 hf2
    obtain ⟨q, hq⟩ : ∃ q, q = k + 3 * (i : Int) := ⟨_, rfl⟩
    rw [← hq] at hf0 hf1 hf2 ⊢
    have c0 : (mk_Touch q).1 = q := rfl
    rw [c0] at hf0
    have c1 : (mk_Touch q).2.1 = q + 1 := rfl
    rw [c1] at hf1
    have c2 : (mk_Touch q).2.2 = q + 2 := rfl
    rw [c2] at hf2
    have f6 : IntKind.i64.wrap ((i : Int) + 1) = i + 1 := wrap_i64 (by omega) (by omega)
    have g0 : IntKind.i64.wrap (q + 1) = q + 1 := by rw [wrap_i64 (by omega) (by omega)]
    have g1 : IntKind.i64.wrap (q + 1 + 1) = q + 2 := by rw [wrap_i64 (by omega) (by omega)]; omega
    have g2 : IntKind.i64.wrap (q + 2 + 1) = k + 3 * ((i : Int) + 1) := by rw [wrap_i64 (by omega) (by omega)]; omega
    rw [hlen]
    rw [S_laws_heldTouchS_0]; unfold B_laws_heldTouchS_0; simp [hf0, hf1, hf2, hi, f6, g0, g1, g2]
  simp only [Int.natCast_zero, Int.ofNat_zero, Int.mul_zero, Int.add_zero] at hc
  rw [hlen] at hc ⊢
  rw [aCall_eq T_laws_heldTouchS]; unfold A_laws_heldTouchS C_laws_heldTouchS; simp [hc]
  rw [S_laws_heldTouchS_0]; unfold B_laws_heldTouchS_0; simp
theorem k_laws_heldTouchS : HeldS T0 ty_Touch F_laws_heldTouchS gm_TouchS gt_TouchS := fun M v xs k h hb hk hk2 => d_laws_heldTouchS M v k xs.length h hk hk2
theorem marksY_get (k : Int) (n i : Nat) (hi : i < (marksY k n).length) : (marksY k n)[i] = mkY (k + i) := by simp [marksY]
theorem d_laws_heldByteS (M : Mem) (v : V) (k : Int) (n : Nat) (h : Rep (.sl ty_Byte) M [v] (marksY k n)) (hk : 0 < k) (hk2 : k + n ≤ 4611686018427387904) : aCall T0 F_laws_heldByteS [v, .int .i64 k] M = some (.int .i64 (k + n), M) := by
  obtain ⟨a, c, rfl⟩ := h.slen
  have hlen := marksY_len k n
  have hc := chain (g := fun i : Nat => lp (aCall T0) K_laws_heldByteS_0 L_laws_heldByteS_0 [.slice a (marksY k n).length c, .int .i64 (k + (i : Int)), und, und, und, .int .i64 i, und, und, und, und, und, und, und, und, und, und, und, und, und, und, und, und] M) (n := n) fun i hi => by
    obtain ⟨l, o, rfl, _, hf0⟩ := at_Byte h (i := i) (by omega)
    rw [marksY_get] at hf0
    have e6 : IntKind.i64.wrap ((i : Int) + 1) = i + 1 := wrap_i64 (by omega) (by omega)
    have e7 : IntKind.i64.wrap (k + (i : Int) + 1) = k + ((i : Int) + 1) := by rw [wrap_i64 (by omega) (by omega)]; omega
    have e8 := mkY_wrap (k + (i : Int)) (by omega)
    unfold byteV at hf0
    rw [hlen]
    rw [S_laws_heldByteS_0]; unfold B_laws_heldByteS_0; simp [hf0, hi, e6, e7, e8]
  simp only [Int.natCast_zero, Int.ofNat_zero, Int.add_zero] at hc
  rw [hlen] at hc ⊢
  rw [aCall_eq T_laws_heldByteS]; unfold A_laws_heldByteS C_laws_heldByteS; simp [hc]
  rw [S_laws_heldByteS_0]; unfold B_laws_heldByteS_0; simp
theorem k_laws_heldByteS : HeldS T0 ty_Byte F_laws_heldByteS gm_ByteS gt_ByteS := fun M v xs k h hb hk hk2 => d_laws_heldByteS M v k xs.length h hk hk2
theorem gmS_get {D : Type} (mk : Int → D → D) (tot : D → Int) {xs : List D} {i : Nat} (hi : i < xs.length) (k : Int) (h : i < (gmS mk tot k xs).length) : (gmS mk tot k xs)[i] = mk (k + gtS tot (xs.take i)) xs[i] := by
  have e : xs = xs.take i ++ (xs[i] :: xs.drop (i + 1)) := by
    rw [← List.drop_eq_getElem_cons hi, List.take_append_drop]
  have hl : (gmS mk tot k (xs.take i)).length = i := by rw [gmS_len, List.length_take]; omega
  have e2 : gmS mk tot k xs = gmS mk tot k (xs.take i) ++ gmS mk tot (k + gtS tot (xs.take i)) (xs[i] :: xs.drop (i + 1)) := by
    conv => lhs; rw [e]
    exact gmS_app mk tot _ _ _
  have e3 : (gmS mk tot k xs)[i]? = some (mk (k + gtS tot (xs.take i)) xs[i]) := by
    rw [e2, List.getElem?_append_right (by omega), hl, Nat.sub_self]
    rfl
  rw [List.getElem?_eq_getElem h] at e3
  exact Option.some.inj e3
theorem k_laws_heldCellS : HeldS T0 ty_Cell F_laws_heldCellS gm_CellS gt_CellS := fun M v xs k h hb hk hk2 => by
  have hpos : ∀ x ∈ xs, 0 ≤ gt_Cell x := fun x hx => Int.natCast_nonneg _
  have hk3 : k + gtS gt_Cell xs ≤ 4611686018427387904 := hk2
  have hn := hb.1
  have hn2 : (xs.length : Int) ≤ 1048576 := by omega
  have hgl : (gm_CellS k xs).length = xs.length := gmS_len _ _ _ _
  obtain ⟨a, c, rfl⟩ := h.slen
  rw [hgl]
  have hl := chain (g := fun i => lp (aCall T0) K_laws_heldCellS_0 L_laws_heldCellS_0 [.slice a xs.length c, .int .i64 (k + gtS gt_Cell (xs.take i)), und, und, und, .int .i64 i, und, und, und, und, und, und, und, und, und, und, und, und, und, und, und, und] M) (n := xs.length) fun i hi => by
    have e6 : IntKind.i64.wrap ((i : Int) + 1) = i + 1 := wrap_i64 (by omega) (by omega)
    have ht := gtS_take (tot := gt_Cell) hpos hi
    obtain ⟨_, l, o, rfl, cs, hrd, hrep⟩ := rep_at h (i := i) (by omega)
    rw [gmS_get gm_Cell gt_Cell hi] at hrep
    obtain ⟨u, rfl, hr⟩ := rep_g_Cell hrep
    have e1 := k_laws_heldByteS M u xs[i] (k + gtS gt_Cell (xs.take i)) hr (hb.2 _ (List.getElem_mem hi)) (by omega) (by show _ + gt_Cell xs[i] ≤ _; omega)
    have hrd' : rd1 M l (o + i) = some u := by
      have := rd1_of_rdn hrd (k := 0) (v := u) rfl
      simpa [Ty.w] using this
    have es := gtS_step gt_Cell hi
    have es2 : k + gtS gt_Cell (xs.take (i + 1)) = k + gtS gt_Cell (xs.take i) + gt_ByteS xs[i] := by rw [es]; exact (Int.add_assoc _ _ _).symm
    have hnn : ¬ (k + gtS gt_Cell (xs.take i) + gt_ByteS xs[i] < 0) := by
      have := ht.1
      have := hpos _ (List.getElem_mem hi)
      show ¬ (_ + gt_Cell xs[i] < 0)
      omega
    simp only [es2]
    rw [S_laws_heldCellS_0]; unfold B_laws_heldCellS_0; simp [thenD_pp, sliceCells_sl, sliceCells_z, sliceCells_nil, take_full, appS_sl, appK_ok, appS_none, thenD_ag, agP_nil, agP_cons, hi, hrd', e1, e6, hnn]
  have e0 : k + gtS gt_Cell (xs.take 0) = k := by simp [gtS]
  simp only [e0, Int.natCast_zero, Int.ofNat_zero, List.take_length] at hl
  rw [aCall_eq T_laws_heldCellS]; unfold A_laws_heldCellS C_laws_heldCellS; simp [thenD_pp, sliceCells_sl, sliceCells_z, sliceCells_nil, take_full, appS_sl, appK_ok, appS_none, thenD_ag, agP_nil, agP_cons, hl]
  rw [S_laws_heldCellS_0]; unfold B_laws_heldCellS_0; simp [thenD_pp, sliceCells_sl, sliceCells_z, sliceCells_nil, take_full, appS_sl, appK_ok, appS_none, thenD_ag, agP_nil, agP_cons]
set_option maxHeartbeats 4000000 in
theorem k_laws_heldMem : HeldF T0 ty_Mem F_laws_heldMem gm_Mem gt_Mem := by
  intro M cs x k h hb hk hk2
  obtain ⟨u0, u1, rfl, w0, r0, r1⟩ := rep_g_Mem h
  have t0 := tot_CellS _ hb.2.1
  have t1 := tot_TouchS _ hb.2.2
  unfold gt_Mem at hk2 ⊢
  obtain ⟨cs, hcs⟩ : ∃ cs, cs = [.int .i64 (gm_Mem k x).1, u0, u1] := ⟨_, rfl⟩
  have i0 := one_head r0.one
  have i1 := one_head r1.one
  have e0 := k_laws_heldCellS (M ++ [⟨[.int .i64 (gm_Mem k x).1, u0, u1], 1, 2⟩]) _ x.2.1 (k) (r0.mono (List.prefix_append _ _)) hb.2.1 (by omega) (by omega)
  have c0 : ¬ (k + gt_CellS x.2.1 < 0) := by omega
  have e1 := k_laws_heldTouchS (M ++ [⟨[.int .i64 (gm_Mem k x).1, u0, u1], 1, 2⟩]) _ x.2.2 (k + gt_CellS x.2.1) (r1.mono (List.prefix_append _ _)) hb.2.2 (by omega) (by omega)
  have c1 : ¬ (k + gt_CellS x.2.1 + gt_TouchS x.2.2 < 0) := by omega
  have hadd : k + gt_CellS x.2.1 + gt_TouchS x.2.2 = k + (gt_CellS x.2.1 + gt_TouchS x.2.2) := by omega
  rw [← hadd]
  rw [aCall_eq T_laws_heldMem]; unfold A_laws_heldMem C_laws_heldMem; simp [thenD_pp, sliceCells_sl, sliceCells_z, sliceCells_nil, take_full, appS_sl, appK_ok, appS_none, thenD_ag, agP_nil, agP_cons, i0, i1, e0, c0, e1, c1]
set_option maxHeartbeats 4000000 in
theorem k_laws_heldScan : HeldF T0 ty_Scan F_laws_heldScan gm_Scan gt_Scan := by
  intro M cs x k h hb hk hk2
  have h : Rep ty_Mem M cs (gm_Mem k x) := h
  obtain ⟨u0, u1, rfl, w0, r0, r1⟩ := rep_g_Mem h
  have t0 := tot_Mem _ hb
  unfold gt_Scan at hk2 ⊢
  obtain ⟨cs, hcs⟩ : ∃ cs, cs = [.int .i64 (gm_Mem k x).1, u0, u1] := ⟨_, rfl⟩
  have i0 := one_head r0.one
  have i1 := one_head r1.one
  have e0 := k_laws_heldMem (M ++ [⟨[.int .i64 (gm_Mem k x).1, u0, u1], 1, 2⟩]) _ x (k) ((mkrep_g_Mem w0 (r0.mono (List.prefix_append _ _)) (r1.mono (List.prefix_append _ _)))) hb (by omega) (by omega)
  have c0 : ¬ (k + gt_Mem x < 0) := by omega
  have hadd : k + gt_Mem x = k + (gt_Mem x) := by omega
  rw [← hadd]
  rw [aCall_eq T_laws_heldScan]; unfold A_laws_heldScan C_laws_heldScan; simp [thenD_pp, sliceCells_sl, sliceCells_z, sliceCells_nil, take_full, appS_sl, appK_ok, appS_none, thenD_ag, agP_nil, agP_cons, i0, i1, e0, c0]
abbrev ty_Entry : Ty := .pr .str (.int .i64)
instance d_Entry : DecidableEq ty_Entry.D := Ty.deq ty_Entry
abbrev enc_Entry (x : ty_Entry.D) : List V := [strV x.1, .int .i64 x.2]
theorem rep_Entry {M : Mem} {cs : List V} {x : ty_Entry.D} (h : Rep ty_Entry M cs x) : cs = enc_Entry x := by
  obtain ⟨_, _, rfl, rfl, ⟨rfl, _⟩⟩ := h
  rfl
def sz_Entry (x : ty_Entry.D) : Int := (x.1.length : Int)
theorem z_laws_szEntry (M : Mem) (x : ty_Entry.D) (left : Int) (h0 : 0 ≤ left) (h1 : left ≤ 1048576) (f0 : x.1.length ≤ 9223372036854775807) : ∃ l : Int, aCall T0 F_laws_szEntry [.agg (enc_Entry x).toArray, .int .i64 left] M = some (.int .i64 l, M) ∧ (0 ≤ l → sz_Entry x + l ≤ left) := by
  unfold sz_Entry
  have w0 : -9223372036854775808 ≤ left - (x.1.length : Int) ∧ left - (x.1.length : Int) ≤ 9223372036854775807 := by omega
  have e0 : IntKind.i64.wrap (left - (x.1.length : Int)) = left - (x.1.length : Int) := wrap_i64 w0.1 w0.2
  by_cases c0 : left - (x.1.length : Int) < 0
  · refine ⟨-1, ?_, by omega⟩
    rw [aCall_eq T_laws_szEntry]; unfold A_laws_szEntry C_laws_szEntry; simp [e0, c0]
  refine ⟨left - (x.1.length : Int), ?_, by omega⟩
  rw [aCall_eq T_laws_szEntry]; unfold A_laws_szEntry C_laws_szEntry; simp [e0, c0]
theorem k_laws_szEntry : SzF T0 ty_Entry F_laws_szEntry := fun M cs x left h hb h0 h1 => by
  obtain rfl := rep_Entry h
  obtain ⟨l, e, f⟩ := z_laws_szEntry M x left h0 h1 hb.1
  refine ⟨l, ?_, e, fun hl => ⟨?_, trivial⟩⟩
  · by_cases hl : 0 ≤ l
    · have := f hl; unfold sz_Entry at this; omega
    · omega
  · have := f hl
    unfold sz_Entry at this
    show List.length _ ≤ _
    omega
theorem rdn_box {M : Mem} {l n : Nat} {cs : List V} (h : M[l]? = some ⟨cs, 1, 2⟩) (hn : n = cs.length) : rdn M l 0 n = some cs := by
  unfold rdn
  rw [h]
  simp [hn]
theorem gc_ex (M M' : Mem) (v : V) : ∃ X, gc M (some (v, M')) = some (v, X) := by
  simp only [gc]
  split
  · exact ⟨_, rfl⟩
  · exact ⟨_, rfl⟩
def okByte (b : UInt8) : Bool := decide (97 ≤ (b.toNat : Int)) && decide ((b.toNat : Int) ≤ 122)
def wordB (w : List UInt8) : Bool := w.all okByte && (decide (1 ≤ (w.length : Int)) && decide ((w.length : Int) ≤ 32))
def padL (w : List UInt8) : List UInt8 := if wordB w = true then UInt8.ofNat w.length :: (w ++ List.replicate (32 - w.length) 0) else List.replicate 33 0
abbrev ty_Rec : Ty := .pr .bool (.pr (.int .i64) (.pr (.int .i64) .str))
instance d_Rec : DecidableEq ty_Rec.D := Ty.deq ty_Rec
def recT (r : ty_Rec.D) : List UInt8 := [if r.1 = true then 1 else 0, UInt8.ofNat (r.2.1 : Int).toNat, UInt8.ofNat ((r.2.2.1 : Int).toNat / 256), UInt8.ofNat ((r.2.2.1 : Int).toNat % 256)] ++ padL r.2.2.2
def zRec : ty_Rec.D := (false, (0 : Int), (0 : Int), ([] : List UInt8))
def unL (ys : List UInt8) : Nat := match ys with
  | y :: _ => y.toNat
  | [] => 0
def unC (ys : List UInt8) : List UInt8 := (ys.drop 1).take (unL ys)
def unB (ys : List UInt8) : Bool := decide (unL ys ≤ 32) && (wordB (unC ys) && decide (padL (unC ys) = ys))
def unW (ys : List UInt8) : List UInt8 := if unB ys = true then unC ys else []
def atN (ys : List UInt8) (i : Nat) : Nat := (ys.getD i 0).toNat
def recI (ys : List UInt8) : ty_Rec.D := (decide (atN ys 0 = 1), (atN ys 1 : Int), ((256 * atN ys 2 + atN ys 3 : Nat) : Int), unW (ys.drop 4))
def recB (r : ty_Rec.D) : Bool := decide (r = zRec) || (r.1 && (decide (0 ≤ (r.2.1 : Int)) && decide ((r.2.1 : Int) ≤ 7)) && (decide (0 ≤ (r.2.2.1 : Int)) && decide ((r.2.2.1 : Int) ≤ 65535)) && wordB r.2.2.2)
def recR (ys : List UInt8) : Bool := decide (ys.length = 37) && (recB (recI ys) && decide (recT (recI ys) = ys))
def recX (ys : List UInt8) : ty_Rec.D := if recR ys = true then recI ys else zRec
def logP (sz : Int) (log : List ty_Touch.D) : Nat → List ty_Touch.D
  | 0 => log
  | i + 1 => (logP sz log i ++ [((1 : Int), (i : Int), sz)]) ++ [((2 : Int), (i : Int), sz)]
def entB (e : ty_Entry.D) : Bool := wordB e.1 && (decide (0 ≤ (e.2 : Int)) && decide ((e.2 : Int) ≤ 65535))
def liveW (w : List UInt8) (r : ty_Rec.D) : Bool := r.1 && decide (r.2.2.2 = w)
def isRe (e r : ty_Rec.D) : Bool := ((e.1 : Bool) == r.1) && (decide ((e.2.1 : Int) = r.2.1) && (decide ((e.2.2.1 : Int) = r.2.2.1) && decide (e.2.2.2 = r.2.2.2)))
def placeX (rs : List ty_Rec.D) (op : Int) (e : ty_Entry.D) : Int × Int :=
  if entB e = false then (-1, 1)
  else if op ≠ 3 ∧ idx (liveW e.1) rs < 0 then (-1, 8)
  else if op ≠ 3 then (idx (liveW e.1) rs, 0)
  else if 0 ≤ idx (liveW e.1) rs then (-1, 5)
  else if idx (isRe zRec) rs < 0 then (-1, 6)
  else (idx (isRe zRec) rs, 0)
def nowX (op : Int) (e : ty_Entry.D) : ty_Rec.D := if op = 4 then zRec else (true, (0 : Int), e.2, e.1)
def putR (rs : List ty_Rec.D) (op : Int) (e : ty_Entry.D) : List ty_Rec.D := if op ≠ 0 ∧ (placeX rs op e).2 = 0 then rs.set (placeX rs op e).1.toNat (nowX op e) else rs
def zScan : ty_Scan.D := ((0 : Int), ([] : List ty_Cell.D), ([] : List ty_Touch.D))
def touch0 (sz n a b c : Int) : Bool := decide ((a = 1 ∨ a = 2) ∧ 0 ≤ b ∧ b < n ∧ c = sz)
def touchB (m : ty_Mem.D) (t : ty_Touch.D) : Bool := touch0 m.1 (m.2.1.length : Int) t.1 t.2.1 t.2.2
def cellB (m : ty_Mem.D) (c : ty_Cell.D) : Bool := decide (((List.length (α := UInt8) c : Nat) : Int) = (m.1 : Int))
def mem0 (sz : Int) (n k : Nat) : Bool := decide ((1 ≤ sz ∧ sz ≤ 1000) ∧ n ≤ 128 ∧ k ≤ 6000)
def memB (m : ty_Mem.D) : Bool := mem0 m.1 m.2.1.length m.2.2.length && (m.2.1.all (cellB m) && m.2.2.all (touchB m))
def recOk (c : List UInt8) : Bool := recR c && decide ((recX c).2.1 = (0 : Int))
/-- The first with its word. -/
def frB (rs : List ty_Rec.D) (r : ty_Rec.D) (i : Nat) : Bool := !(r.1 && decide (idx (liveW r.2.2.2) rs < (i : Int)))
def fr1 (rs : List ty_Rec.D) (i : Nat) : Bool := match rs[i]? with
  | some r => frB rs r i
  | none => true
def scanB (m : ty_Scan.D) : Bool := (decide ((m.1 : Int) = 37 ∧ 1 ≤ m.2.1.length ∧ m.2.1.length ≤ 64) && memB m) && (m.2.1.all recOk && (List.range m.2.1.length).all (fr1 (m.2.1.map recX)))
def putBad (m : ty_Scan.D) (op : Int) : Bool := !scanB m || decide (op ≠ 0 ∧ op ≠ 3 ∧ op ≠ 4 ∧ op ≠ 5)
def putFull (m : ty_Scan.D) : Bool := decide (6000 < m.2.2.length + 2 * m.2.1.length)
def putX (m : ty_Scan.D) (op : Int) (e : ty_Entry.D) : ty_Scan.D := if putBad m op = true ∨ putFull m = true then zScan else (m.1, (putR (m.2.1.map recX) op e).map recT, logP m.1 m.2.2 m.2.1.length)
theorem c_laws_toEntry_f (M : Mem) (x : ty_Entry.D) : aCall T0 F_laws_toEntry [.agg (enc_Entry x).toArray] M = some (.agg (enc_Entry x).toArray, M) := by
  rw [aCall_eq T_laws_toEntry]; unfold A_laws_toEntry C_laws_toEntry; simp
theorem toflat_Entry (N : Mem) {M : Mem} (cs : List V) (x : ty_Entry.D) (h : Rep ty_Entry M cs x) : aCall T0 F_laws_toEntry [.agg cs.toArray] N = some (.agg cs.toArray, N) := by
  have := rep_Entry h
  subst this
  exact c_laws_toEntry_f N x
def putC (rs : List ty_Rec.D) (op : Int) (e : ty_Entry.D) : Int := if op = 0 then 0 else (placeX rs op e).2
def putA (m : ty_Scan.D) (op : Int) (e : ty_Entry.D) : Int := if putBad m op = true ∨ putFull m = true then 0 else putC (m.2.1.map recX) op e
def putB (m : ty_Scan.D) (op : Int) : Int := if putBad m op = true then 1 else if putFull m = true then 4 else 0
def hs (h : Nat) (b : UInt8) : Nat := ((h ^^^ b.toNat) * 16777619) % 4294967296
theorem mem_shape {M : Mem} {cs : List V} {m : ty_Mem.D} (h : Rep ty_Mem M cs m) : ∃ (a b : Option Addr) (c d : Nat), cs = [.int .i64 m.1, .slice a m.2.1.length c, .slice b m.2.2.length d] ∧ Rep (.sl ty_Cell) M [.slice a m.2.1.length c] m.2.1 ∧ Rep (.sl ty_Touch) M [.slice b m.2.2.length d] m.2.2 := by
  obtain ⟨u0, u1, rfl, _, r0, r1⟩ := rep_g_Mem h
  obtain ⟨a, c, rfl⟩ := r0.slen
  obtain ⟨b, d, rfl⟩ := r1.slen
  exact ⟨a, b, c, d, rfl, r0, r1⟩
theorem atN_lt (ys : List UInt8) (i : Nat) : atN ys i < 256 := UInt8.toNat_lt _
theorem unW_len (ys : List UInt8) : (unW ys).length ≤ ys.length := by
  unfold unW
  split
  · unfold unC
    rw [List.length_take, List.length_drop]
    omega
  · simp
theorem recX_bd (c : List UInt8) (hc : c.length = 37) : ((-9223372036854775808 ≤ (recX c).2.1 ∧ (recX c).2.1 ≤ 9223372036854775807) ∧ (-9223372036854775808 ≤ (recX c).2.2.1 ∧ (recX c).2.2.1 ≤ 9223372036854775807)) ∧ (recX c).2.2.2.length ≤ 37 := by
  unfold recX
  split
  · have t1 := atN_lt c 1
    have t2 := atN_lt c 2
    have t3 := atN_lt c 3
    have := unW_len (c.drop 4)
    rw [List.length_drop] at this
    exact ⟨⟨⟨by show (-9223372036854775808 : Int) ≤ (atN c 1 : Nat); omega, by show ((atN c 1 : Nat) : Int) ≤ _; omega⟩, ⟨by show (-9223372036854775808 : Int) ≤ ((256 * atN c 2 + atN c 3 : Nat) : Int); omega, by show ((256 * atN c 2 + atN c 3 : Nat) : Int) ≤ _; omega⟩⟩, by show (unW (c.drop 4)).length ≤ _; omega⟩
  · exact ⟨by decide, by decide⟩
theorem recX_bd2 (c : List UInt8) : ((-9223372036854775808 ≤ (recX c).2.1 ∧ (recX c).2.1 ≤ 9223372036854775807) ∧ (-9223372036854775808 ≤ (recX c).2.2.1 ∧ (recX c).2.2.1 ≤ 9223372036854775807)) ∧ (recX c).2.2.2.length ≤ 37 := by
  cases hq : recR c with
  | true =>
    have : c.length = 37 := by
      unfold recR at hq
      rw [Bool.and_eq_true] at hq
      exact of_decide_eq_true hq.1
    exact recX_bd c this
  | false =>
    unfold recX
    rw [hq, if_neg (by decide)]
    exact ⟨by decide, by decide⟩
theorem recs_bd {m : List ty_Cell.D} : ∀ r ∈ m.map recX, ((-9223372036854775808 ≤ r.2.1 ∧ r.2.1 ≤ 9223372036854775807) ∧ (-9223372036854775808 ≤ r.2.2.1 ∧ r.2.2.1 ≤ 9223372036854775807)) ∧ r.2.2.2.length ≤ 37 := by
  intro r hr
  obtain ⟨c, _, rfl⟩ := List.mem_map.1 hr
  exact recX_bd2 c
def scanR (m : ty_Scan.D) : List ty_Rec.D := if scanB m = true then m.2.1.map recX else []
theorem range_all {n : Nat} {p : Nat → Bool} (h : ∀ i, i < n → p i = true) : (List.range n).all p = true := by
  rw [List.all_eq_true]
  intro i hi
  exact h i (List.mem_range.1 hi)
theorem range_not {n j : Nat} {p : Nat → Bool} (hj : j < n) (h : p j = false) : (List.range n).all p = false := by
  rw [List.all_eq_false]
  exact ⟨j, List.mem_range.2 hj, by simp [h]⟩
theorem c_impl_within (M : Mem) (x a b : Int) : aCall T0 F_impl_within [.int .i64 x, .int .i64 a, .int .i64 b] M = some (.bool (decide (a ≤ x) && decide (x ≤ b)), M) := by
  rw [aCall_eq T_impl_within]; unfold A_impl_within C_impl_within; simp
  repeat' ((first | rw [selO_some] | rw [condR_bool] | rw [selD_some]); split <;> rename_i hq <;> (have hq2 := hq) <;> (try simp at hq2) <;> (try simp [*]))
theorem win_ok (M : Mem) (x a b : Int) : aCall T0 F_impl_within [.int .i64 x, .int .i64 a, .int .i64 b] M = some (.bool (decide (a ≤ x ∧ x ≤ b)), M) := by
  rw [c_impl_within, Bool.decide_and]
theorem gc_boolp {M M' : Mem} (hp : M <+: M') (b : Bool) : gc M (some (.bool b, M')) = some (.bool b, M) := by
  obtain ⟨N, rfl⟩ := hp
  exact gc_bool M N b
def atB {α : Type} (p : α → Bool) (xs : List α) (i : Nat) : Bool := match xs[i]? with
  | some x => p x
  | none => true
theorem atB_get {α : Type} (p : α → Bool) {xs : List α} {i : Nat} (hi : i < xs.length) : atB p xs i = p xs[i] := by unfold atB; rw [List.getElem?_eq_getElem hi]
theorem atB_all {α : Type} {p : α → Bool} {xs : List α} (h : ∀ i, i < xs.length → atB p xs i = true) : xs.all p = true := by
  rw [List.all_eq_true]
  intro x hx
  obtain ⟨i, hi, rfl⟩ := List.getElem_of_mem hx
  rw [← atB_get p hi]
  exact h i hi
theorem atB_not {α : Type} {p : α → Bool} {xs : List α} (h : ∃ i, i < xs.length ∧ atB p xs i = false) : xs.all p = false := by
  obtain ⟨i, hi, hq⟩ := h
  rw [atB_get p hi] at hq
  rw [List.all_eq_false]
  exact ⟨xs[i], List.getElem_mem hi, by rw [hq]; decide⟩
theorem mem_cases (sz : Int) (n k : Nat) : (mem0 sz n k = false ∧ ((sz < 1 ∧ ¬ 1 ≤ sz) ∨ ((1 ≤ sz ∧ ¬ sz < 1) ∧ 1000 < sz ∧ ¬ sz ≤ 1000) ∨ ((1 ≤ sz ∧ ¬ sz < 1) ∧ (¬ 1000 < sz ∧ sz ≤ 1000) ∧ 128 < n ∧ (128 : Int) < n) ∨ ((1 ≤ sz ∧ ¬ sz < 1) ∧ (¬ 1000 < sz ∧ sz ≤ 1000) ∧ (¬ 128 < n ∧ ¬ (128 : Int) < n) ∧ 6000 < k ∧ (6000 : Int) < k))) ∨
    (mem0 sz n k = true ∧ (1 ≤ sz ∧ ¬ sz < 1) ∧ (¬ 1000 < sz ∧ sz ≤ 1000) ∧ (¬ 128 < n ∧ ¬ (128 : Int) < n) ∧ (¬ 6000 < k ∧ ¬ (6000 : Int) < k)) := by
  unfold mem0
  by_cases h : (1 ≤ sz ∧ sz ≤ 1000) ∧ n ≤ 128 ∧ k ≤ 6000
  · rw [decide_eq_true h]
    right
    exact ⟨rfl, by omega, by omega, by omega, by omega⟩
  · rw [decide_eq_false h]
    left
    refine ⟨rfl, ?_⟩
    omega
theorem within_ok {a lo hi : Int} (h1 : lo ≤ a) (h2 : a ≤ hi) : decide (lo ≤ a ∧ a ≤ hi) = true := decide_eq_true ⟨h1, h2⟩
theorem touch_ok {sz n a b c : Int} (h : touch0 sz n a b c = true) : (a = 1 ∨ a = 2) ∧ ¬ b < 0 ∧ 0 ≤ b ∧ ¬ n ≤ b ∧ b < n ∧ b ≤ n - 1 ∧ c = sz := by
  have h := of_decide_eq_true h
  omega
theorem touch_cases {sz n a b c : Int} (h : touch0 sz n a b c = false) : (¬ a = 1 ∧ ¬ a = 2) ∨ ((a = 1 ∨ a = 2) ∧ b < 0 ∧ ¬ 0 ≤ b) ∨ ((a = 1 ∨ a = 2) ∧ (¬ b < 0 ∧ 0 ≤ b) ∧ n ≤ b ∧ ¬ b < n ∧ ¬ b ≤ n - 1) ∨ ((a = 1 ∨ a = 2) ∧ (¬ b < 0 ∧ 0 ≤ b) ∧ (¬ n ≤ b ∧ b < n ∧ b ≤ n - 1) ∧ ¬ c = sz) := by
  have h := of_decide_eq_false h
  omega
theorem l_impl_isMem_0 (M X : Mem) (m : ty_Mem.D) (a b : Option Addr) (c d p : Nat) (hM : M <+: X) (hb : X[p]? = some ⟨[.int .i64 m.1, .slice a m.2.1.length c, .slice b m.2.2.length d], 1, 2⟩) (h : Rep (.sl ty_Touch) M [.slice b m.2.2.length d] m.2.2) (hn : m.2.2.length ≤ 6000) (hn2 : m.2.1.length ≤ 128) :
    (∃ X', M <+: X' ∧ X <+: X' ∧ (∀ i, i < m.2.2.length → atB (touchB m) m.2.2 i = true) ∧ lp (aCall T0) K_impl_isMem_0 L_impl_isMem_0 [und, .pointer (some ⟨p, 0, none⟩), und, und, und, und, und, und, und, und, und, und, und, und, und, und, und, und, und, und, und, und, .slice b m.2.2.length d, .int .i64 m.2.2.length, .int .i64 (0 : Nat), und, und, und, und, und, und, und, und, und, und, und, und, und, und, und, und, und, und, und, und, und, und, und, und, und, und, und, und, und, und] X = lp (aCall T0) K_impl_isMem_0 L_impl_isMem_0 [und, .pointer (some ⟨p, 0, none⟩), und, und, und, und, und, und, und, und, und, und, und, und, und, und, und, und, und, und, und, und, .slice b m.2.2.length d, .int .i64 m.2.2.length, .int .i64 m.2.2.length, und, und, und, und, und, und, und, und, und, und, und, und, und, und, und, und, und, und, und, und, und, und, und, und, und, und, und, und, und, und] X' ∧ X'[p]? = some ⟨[.int .i64 m.1, .slice a m.2.1.length c, .slice b m.2.2.length d], 1, 2⟩) ∨
    ((∃ i, i < m.2.2.length ∧ atB (touchB m) m.2.2 i = false) ∧ ∀ k, thenF M [.tmp 2] (thenS (blockR 0 (lp (aCall T0) K_impl_isMem_0 L_impl_isMem_0 [und, .pointer (some ⟨p, 0, none⟩), und, und, und, und, und, und, und, und, und, und, und, und, und, und, und, und, und, und, und, und, .slice b m.2.2.length d, .int .i64 m.2.2.length, .int .i64 (0 : Nat), und, und, und, und, und, und, und, und, und, und, und, und, und, und, und, und, und, und, und, und, und, und, und, und, und, und, und, und, und, und] X)) (aCall T0) k) = some (.bool false, M)) := by
  have key := loop_ok (call := aCall T0) (K := K_impl_isMem_0) (L := L_impl_isMem_0) (fun _ Y => X <+: Y) (fun i => [und, .pointer (some ⟨p, 0, none⟩), und, und, und, und, und, und, und, und, und, und, und, und, und, und, und, und, und, und, und, und, .slice b m.2.2.length d, .int .i64 m.2.2.length, .int .i64 i, und, und, und, und, und, und, und, und, und, und, und, und, und, und, und, und, und, und, und, und, und, und, und, und, und, und, und, und, und, und]) (atB (touchB m) m.2.2) (n := m.2.2.length) (M0 := M) (rs := [.tmp 2]) (k0 := 0) (a := .bool false) X (List.prefix_refl _) ?_ ?_
  · rcases key with ⟨X', h0, h1, h2⟩ | h
    · exact .inl ⟨X', hM.trans h0, h0, h1, h2, get_pre h0 hb⟩
    · exact .inr h
  · intro i Y hi hq hY
    obtain ⟨l, o, rfl, _, q1, _⟩ := at_Touch (h.mono (hM.trans hY)) hi
    have hbY := get_pre hY hb
    have hbY2 : ∀ N : Mem, (Y ++ N)[p]? = some ⟨[.int .i64 m.1, .slice a m.2.1.length c, .slice (some ⟨l, o, none⟩) m.2.2.length d], 1, 2⟩ := fun N => get_pre' hbY
    rw [atB_get _ hi] at hq
    have hq := touch_ok hq
    generalize m.2.2[i] = t at q1 hq
    obtain ⟨t1, t2, t3⟩ := t
    simp only at hq q1
    obtain ⟨g1, g2, g2', g3, g3', g3'', g4⟩ := hq
    have e5 : IntKind.i64.wrap ((m.2.1.length : Int) - 1) = m.2.1.length - 1 := wrap_i64 (by omega) (by omega)
    have e6 : IntKind.i64.wrap ((i : Int) + 1) = i + 1 := wrap_i64 (by omega) (by omega)
    have w1 := fun N : Mem => win_ok (Y ++ N) t1 1 2
    rw [within_ok (by omega) (by omega)] at w1
    have w2 := fun N : Mem => win_ok (Y ++ N) t2 0 (m.2.1.length - 1)
    rw [within_ok g2' g3''] at w2
    refine ⟨Y ++ [⟨enc_Touch (t1, t2, t3), 1, 2⟩], hY.trans (List.prefix_append _ _), ?_⟩
    clear g1
    rw [S_impl_isMem_0]; unfold B_impl_isMem_0; simp [thenD_pp, sliceCells_sl, sliceCells_z, sliceCells_nil, take_full, appS_sl, appK_ok, appS_none, thenD_ag, agP_nil, agP_cons, hbY, hbY2, hi, q1, w1, w2, e5, g4, e6, rd1_K, rdJ_ok]
  · intro i Y hi hq hY k
    obtain ⟨l, o, rfl, _, q1, _⟩ := at_Touch (h.mono (hM.trans hY)) hi
    have hbY := get_pre hY hb
    have hbY2 : ∀ N : Mem, (Y ++ N)[p]? = some ⟨[.int .i64 m.1, .slice a m.2.1.length c, .slice (some ⟨l, o, none⟩) m.2.2.length d], 1, 2⟩ := fun N => get_pre' hbY
    rw [atB_get _ hi] at hq
    have hq := touch_cases hq
    generalize m.2.2[i] = t at q1 hq
    obtain ⟨t1, t2, t3⟩ := t
    simp only at hq q1
    have gb := fun (cs : List V) b => gc_boolp (hM.trans (hY.trans (List.prefix_append Y [⟨cs, 1, 2⟩]))) b
    have e5 : IntKind.i64.wrap ((m.2.1.length : Int) - 1) = m.2.1.length - 1 := wrap_i64 (by omega) (by omega)
    have w1 := fun N : Mem => win_ok (Y ++ N) t1 1 2
    have w2 := fun N : Mem => win_ok (Y ++ N) t2 0 (m.2.1.length - 1)
    rcases hq with ⟨g1, g2⟩ | ⟨g1, _, g2⟩ | ⟨g1, ⟨_, g2⟩, _, _, g3⟩ | ⟨g1, ⟨_, g2⟩, ⟨_, _, g3⟩, g4⟩
    · rw [decide_eq_false (by omega)] at w1
      rw [S_impl_isMem_0]; unfold B_impl_isMem_0; simp [thenD_pp, sliceCells_sl, sliceCells_z, sliceCells_nil, take_full, appS_sl, appK_ok, appS_none, thenD_ag, agP_nil, agP_cons, hbY, hbY2, hi, q1, w1, gb, rd1_K, rdJ_ok]
    · rw [within_ok (by omega) (by omega)] at w1
      rw [decide_eq_false (by omega)] at w2
      clear g1
      rw [S_impl_isMem_0]; unfold B_impl_isMem_0; simp [thenD_pp, sliceCells_sl, sliceCells_z, sliceCells_nil, take_full, appS_sl, appK_ok, appS_none, thenD_ag, agP_nil, agP_cons, hbY, hbY2, hi, q1, w1, w2, e5, gb, rd1_K, rdJ_ok]
    · rw [within_ok (by omega) (by omega)] at w1
      rw [decide_eq_false (by omega)] at w2
      clear g1
      rw [S_impl_isMem_0]; unfold B_impl_isMem_0; simp [thenD_pp, sliceCells_sl, sliceCells_z, sliceCells_nil, take_full, appS_sl, appK_ok, appS_none, thenD_ag, agP_nil, agP_cons, hbY, hbY2, hi, q1, w1, w2, e5, gb, rd1_K, rdJ_ok]
    · rw [within_ok (by omega) (by omega)] at w1
      rw [within_ok g2 g3] at w2
      clear g1
      rw [S_impl_isMem_0]; unfold B_impl_isMem_0; simp [thenD_pp, sliceCells_sl, sliceCells_z, sliceCells_nil, take_full, appS_sl, appK_ok, appS_none, thenD_ag, agP_nil, agP_cons, hbY, hbY2, hi, q1, w1, w2, e5, g4, gb, rd1_K, rdJ_ok]
theorem c_impl_isMem_1 (M : Mem) (u : V) (x : ty_Cell.D) (h : Rep (.sl ty_Byte) M [u] x) (p : Nat) (sz : Int) (hp : rd1 M p 0 = some (.int .i64 sz)) : aCall T0 F_impl_isMem_1 [.agg #[u], .pointer (some ⟨p, 0, none⟩)] M = some (.bool (decide (¬ ((List.length (α := UInt8) x : Nat) : Int) = sz)), M) := by
  have h2 : ∀ N, rd1 (M ++ N) p 0 = some (.int .i64 sz) := fun N => rd1_old hp
  obtain ⟨_, _, rfl⟩ := h.slen
  rw [aCall_eq T_impl_isMem_1]; unfold A_impl_isMem_1 C_impl_isMem_1; simp [thenD_pp, sliceCells_sl, sliceCells_z, sliceCells_nil, take_full, appS_sl, appK_ok, appS_none, thenD_ag, agP_nil, agP_cons, h2]
theorem rep_cell1 {M : Mem} {cs : List V} {x : ty_Cell.D} (h : Rep ty_Cell M cs x) : ∃ u, cs = [u] := by
  rcases h with ⟨rfl, _⟩ | ⟨_, _, _, _, _, rfl, _⟩
  · exact ⟨_, rfl⟩
  · exact ⟨_, rfl⟩
theorem c_impl_isMem (M : Mem) (cs : List V) (m : ty_Mem.D) (h : Rep ty_Mem M cs m) : aCall T0 F_impl_isMem [.agg cs.toArray] M = some (.bool (memB m), M) := by
  obtain ⟨a, b, c, d, rfl, r0, r1⟩ := mem_shape h
  unfold memB
  have hp : M <+: M ++ [⟨[.int .i64 m.1, .slice a m.2.1.length c, .slice b m.2.2.length d], 1, 2⟩] := List.prefix_append _ _
  have w1 := fun N : Mem => win_ok (M ++ N) m.1 1 1000
  rcases mem_cases m.1 m.2.1.length m.2.2.length with ⟨h0, hh⟩ | ⟨h0, ⟨h1, _⟩, ⟨_, h2⟩, ⟨h3, h3'⟩, ⟨h4, h4'⟩⟩
  · rw [h0, Bool.false_and]
    clear h0
    rcases hh with ⟨_, h1⟩ | ⟨⟨h1, _⟩, _, h2⟩ | ⟨⟨h1, _⟩, ⟨_, h2⟩, h3, h3'⟩ | ⟨⟨h1, _⟩, ⟨_, h2⟩, ⟨h3, h3'⟩, h4, h4'⟩
    · rw [decide_eq_false (fun q => h1 q.1)] at w1
      rw [aCall_eq T_impl_isMem]; unfold A_impl_isMem C_impl_isMem; simp [thenD_pp, sliceCells_sl, sliceCells_z, sliceCells_nil, take_full, appS_sl, appK_ok, appS_none, thenD_ag, agP_nil, agP_cons, w1]
    · rw [decide_eq_false (fun q => h2 q.2)] at w1
      rw [aCall_eq T_impl_isMem]; unfold A_impl_isMem C_impl_isMem; simp [thenD_pp, sliceCells_sl, sliceCells_z, sliceCells_nil, take_full, appS_sl, appK_ok, appS_none, thenD_ag, agP_nil, agP_cons, w1]
    · rw [within_ok h1 h2] at w1
      rw [aCall_eq T_impl_isMem]; unfold A_impl_isMem C_impl_isMem; simp [thenD_pp, sliceCells_sl, sliceCells_z, sliceCells_nil, take_full, appS_sl, appK_ok, appS_none, thenD_ag, agP_nil, agP_cons, w1, h3, h3']
    · rw [within_ok h1 h2] at w1
      rw [aCall_eq T_impl_isMem]; unfold A_impl_isMem C_impl_isMem; simp [thenD_pp, sliceCells_sl, sliceCells_z, sliceCells_nil, take_full, appS_sl, appK_ok, appS_none, thenD_ag, agP_nil, agP_cons, w1, h3, h3', h4, h4']
  rw [h0, Bool.true_and]
  rw [within_ok h1 h2] at w1
  rcases l_impl_isMem_0 M _ m a b c d M.length hp (by simp) r1 (by omega) (by omega) with ⟨X', hX, hX2, ha2, e2, hb⟩ | ⟨hn2, e2⟩
  · simp only [Int.natCast_zero, Int.ofNat_zero] at e2
    rw [atB_all ha2, Bool.and_true]
    have gb := fun b => gc_boolp hX b
    have ha := any_sl T_slices_ContainsFunc_impl_Cell_impl_Cell T_slices_IndexFunc_impl_Cell_impl_Cell rfl (r0.mono hX) (by omega) F_impl_isMem_1 [.pointer (some ⟨M.length, 0, none⟩)] (fun x => decide (¬ ((List.length (α := UInt8) x : Nat) : Int) = m.1)) (fun i hi cs hr => by
      obtain ⟨u, rfl⟩ := rep_cell1 hr
      exact c_impl_isMem_1 X' u _ hr M.length m.1 (by rw [rd1_K, hb]; rfl))
    have hall : (m.2.1.any (fun x => decide (¬ ((List.length (α := UInt8) x : Nat) : Int) = m.1))) = !(m.2.1.all (cellB m)) := by
      rw [List.any_eq_not_all_not]
      congr 2
      funext x
      unfold cellB
      simp
    rw [hall] at ha
    cases hq : m.2.1.all (cellB m) with
    | true =>
      rw [hq] at ha
      rw [aCall_eq T_impl_isMem]; unfold A_impl_isMem C_impl_isMem; simp [thenD_pp, sliceCells_sl, sliceCells_z, sliceCells_nil, take_full, appS_sl, appK_ok, appS_none, thenD_ag, agP_nil, agP_cons, w1, h3, h3', h4, h4', e2]
      rw [S_impl_isMem_0]; unfold B_impl_isMem_0; simp [thenD_pp, sliceCells_sl, sliceCells_z, sliceCells_nil, take_full, appS_sl, appK_ok, appS_none, thenD_ag, agP_nil, agP_cons, rd1_K, rdJ_ok, hb, gb, ha]
    | false =>
      rw [hq] at ha
      rw [aCall_eq T_impl_isMem]; unfold A_impl_isMem C_impl_isMem; simp [thenD_pp, sliceCells_sl, sliceCells_z, sliceCells_nil, take_full, appS_sl, appK_ok, appS_none, thenD_ag, agP_nil, agP_cons, w1, h3, h3', h4, h4', e2]
      rw [S_impl_isMem_0]; unfold B_impl_isMem_0; simp [thenD_pp, sliceCells_sl, sliceCells_z, sliceCells_nil, take_full, appS_sl, appK_ok, appS_none, thenD_ag, agP_nil, agP_cons, rd1_K, rdJ_ok, hb, gb, ha]
  · simp only [Int.natCast_zero, Int.ofNat_zero] at e2
    rw [atB_not hn2, Bool.and_false]
    rw [aCall_eq T_impl_isMem]; unfold A_impl_isMem C_impl_isMem; simp [thenD_pp, sliceCells_sl, sliceCells_z, sliceCells_nil, take_full, appS_sl, appK_ok, appS_none, thenD_ag, agP_nil, agP_cons, w1, h3, h3', h4, h4', e2]
abbrev enc_Rec (x : ty_Rec.D) : List V := [.bool x.1, .int .i64 x.2.1, .int .i64 x.2.2.1, strV x.2.2.2]
def RecsD (M : Mem) (rs : List ty_Rec.D) (ok : Bool) (p : V × Mem) : Prop := ∃ v n, p.1 = .tuple #[v, .bool ok] ∧ M <+: p.2 ∧ rs.length = n ∧ Grow M.length 4 p.2 v n (rs.map enc_Rec).flatten
theorem recsD_nil {M X : Mem} {b : Bool} (h : M <+: X) : RecsD M [] b (.tuple #[.slice none 0 0, .bool b], X) := ⟨_, 0, rfl, h, rfl, Grow.nil⟩
def implR (m : ty_Mem.D) : List ty_Rec.D := if m.2.1.all recR = true then m.2.1.map recX else []
/-- Records so far. -/
def RL (M : Mem) (k : Nat) (X : Mem) (v : V) (rs : List ty_Rec.D) : Prop := ∃ n, rs.length = n ∧ M <+: X ∧ Grow k 4 X v n (rs.map enc_Rec).flatten
theorem rl_D {M X : Mem} {v : V} {rs : List ty_Rec.D} {k : List V} {ok : Bool} (h : RL (M ++ [⟨k, 1, 2⟩]) (M.length + 1) X v rs) : RecsD M rs ok (.tuple #[v, .bool ok], X) := by
  obtain ⟨n, hn, hp, hg⟩ := h
  exact ⟨v, n, rfl, (List.prefix_append _ _).trans hp, hn, hg.le (by omega)⟩
theorem at_Cell {M : Mem} {a : Option Addr} {n c : Nat} {xs : List ty_Cell.D} (h : Rep (.sl ty_Cell) M [.slice a n c] xs) {i : Nat} (hi : i < xs.length) : ∃ l o u, a = some ⟨l, o, none⟩ ∧ rd1 M l (o + i) = some u ∧ rdn M l (o + i) 1 = some [u] ∧ Rep (.sl ty_Byte) M [u] xs[i] := by
  obtain ⟨_, l, o, rfl, cs, hrd, hrep⟩ := rep_at h hi
  have hl := hrep.len
  have hw1 : ty_Cell.w = 1 := rfl
  rw [hw1, Nat.mul_one] at hrd
  match cs, hl, hrd, hrep with
  | [u], _, hrd, hrep => exact ⟨l, o, u, rfl, rd1_of_one hrd, hrd, hrep⟩
theorem rep_blk {t : Ty} {M : Mem} {l o n c : Nat} {xs : List t.D} (h : Rep (.sl t) M [.slice (some ⟨l, o, none⟩) n c] xs) : ∃ blk, M[l]? = some blk ∧ blk.w = t.w ∧ n = xs.length := by
  rcases h with ⟨h, _⟩ | ⟨l', o', c', blk, css, e, h2, h3, h4, h5, h6, h7⟩
  · simp at h
  · simp only [List.cons.injEq, Value.slice.injEq, Option.some.injEq, Addr.mk.injEq, and_true, true_and] at e
    obtain ⟨⟨rfl, rfl⟩, rfl, rfl⟩ := e
    exact ⟨blk, h2, h4, rfl⟩
theorem rep_cells {t : Ty} {M : Mem} {enc : t.D → List V} (henc : ∀ (cs : List V) (x : t.D), Rep t M cs x → cs = enc x) {a : Option Addr} {n c : Nat} {xs : List t.D} (h : Rep (.sl t) M [.slice a n c] xs) {k c2 : Nat} (hk : k ≤ xs.length) :
    sliceCells M t.w (.slice a k c2) = some (k, ((xs.take k).map enc).flatten) := by
  rcases h with ⟨h, rfl⟩ | ⟨l', o', c', blk, css, e, h2, h3, h4, h5, h6, h7⟩
  · simp at h hk
    obtain ⟨rfl, rfl, rfl⟩ := h
    subst hk
    simp [sliceCells]
  · simp only [List.cons.injEq, Value.slice.injEq, and_true] at e
    obtain ⟨rfl, rfl, rfl⟩ := e
    by_cases hk0 : k = 0
    · subst hk0
      simp [sliceCells]
    have hw := Rep.css_w h5 h6
    have hcs : css = xs.map enc := by
      apply List.ext_getElem (by simp [h5])
      intro i h1 h2
      rw [List.getElem_map]
      exact henc _ _ (h6 i _ _ (by simp [h1]) (by simp))
    have hlen := flat_len hw
    have hpos := t.w_pos
    have h3' : blk.st = 1 ∨ blk.st = 2 := by
      rcases h3 with h3 | h3 | h3
      · exact .inl h3
      · exact .inr h3
      · subst h3; simp at hk; omega
    obtain ⟨r, hr⟩ := h7
    have hdl : css.flatten.length + r.length = blk.cells.length - o' := by rw [← List.length_drop, ← hr, List.length_append]
    have hle : k * t.w ≤ css.length * t.w := Nat.mul_le_mul_right _ (by omega)
    have hpos2 : 0 < k * t.w := Nat.mul_pos (by omega) hpos
    unfold sliceCells
    simp only
    rw [if_neg (by omega)]
    unfold rdn
    rw [h2]
    simp only
    rw [if_pos ⟨h3', by omega⟩]
    simp only [Option.map_some]
    congr 2
    rw [← hr, List.take_append_of_le_length (by omega)]
    have e2 : css = (xs.take k).map enc ++ (xs.drop k).map enc := by rw [hcs, ← List.map_append, List.take_append_drop]
    have e3 : (((xs.take k).map enc).flatten).length = k * t.w := by
      rw [flat_len (w := t.w) (fun cs hc => hw cs (by rw [e2]; exact List.mem_append_left _ hc))]
      simp [Nat.min_eq_left hk]
    rw [e2, List.flatten_append, ← e3, List.take_left']
    rfl
theorem flat_Byte (xs : List ty_Byte.D) : (xs.map enc_Byte).flatten = xs.map byteV := by
  induction xs with
  | nil => rfl
  | cons x xs ih => simp [ih]
theorem cells_Byte {M : Mem} {v : V} {ys : List UInt8} (h : Rep (.sl ty_Byte) M [v] ys) : ∃ a c, v = .slice a ys.length c ∧ sliceCells M 1 (.slice a ys.length c) = some (ys.length, ys.map byteV) := by
  obtain ⟨a, c, rfl⟩ := h.slen
  have := rep_cells (enc := enc_Byte) (fun cs x hx => hx) h (k := ys.length) (Nat.le_refl _) (c2 := c)
  rw [List.take_length] at this
  refine ⟨a, c, rfl, ?_⟩
  rw [← flat_Byte]
  exact this
theorem toBytes_map : ∀ ys : List UInt8, toBytes (ys.map byteV) = some ys
  | [] => rfl
  | y :: ys => by
    simp [toBytes, byteV, toBytes_map ys]
theorem c_bytes_Equal (M : Mem) (u v : V) (xs ys : List UInt8) (h : Rep (.sl ty_Byte) M [u] xs) (h2 : Rep (.sl ty_Byte) M [v] ys) : aCall T0 F_bytes_Equal [u, v] M = some (.bool (decide (xs = ys)), M) := by
  obtain ⟨a, c, rfl, s1⟩ := cells_Byte h
  obtain ⟨b, d, rfl, s2⟩ := cells_Byte h2
  rw [aCall_eq T_bytes_Equal]; unfold A_bytes_Equal C_bytes_Equal; simp [s1, s2, toBytes_map]
theorem all_false {w : List UInt8} {j : Nat} (hj : j < w.length) (h : okByte w[j] = false) : w.all okByte = false := by
  rw [List.all_eq_false]
  exact ⟨w[j], List.getElem_mem hj, by simp [h]⟩
theorem all_true {w : List UInt8} (h : ∀ i (hi : i < w.length), okByte w[i] = true) : w.all okByte = true := by
  rw [List.all_eq_true]
  intro b hb
  obtain ⟨i, hi, rfl⟩ := List.getElem_of_mem hb
  exact h i hi
theorem first_byte (w : List UInt8) : w.all okByte = true ∨ (w.all okByte = false ∧ ∃ j, ∃ hj : j < w.length, (∀ i (hi : i < w.length), i < j → okByte w[i] = true) ∧ okByte w[j] = false) := by
  rcases first_bad (fun i => (w[i]?).any okByte) w.length with h | ⟨j, h1, h2, h3⟩
  · left; exact all_true fun i hi => by have := h i hi; simpa [hi] using this
  · right
    have h3' : okByte w[j] = false := by simpa [h1] using h3
    exact ⟨all_false h1 h3', j, h1, fun i hi hij => by have := h2 i hij; simpa [hi] using this, h3'⟩
theorem okByte_t {b : UInt8} (h : okByte b = true) : ¬ ((b.toNat : Int) < 97) ∧ ¬ (122 < (b.toNat : Int)) := by
  simp only [okByte, Bool.and_eq_true, decide_eq_true_eq] at h; omega
theorem r_impl_isWord (M : Mem) (w : List UInt8) (hw : w.length ≤ 9223372036854775807) (i : Nat) (hi : i < w.length) (hb : okByte w[i] = true) :
    lp (aCall T0) K_impl_isWord_0 L_impl_isWord_0 [strV w, und, und, und, und, .int .i64 w.length, .int .i64 i, und, und, und, und, und, und, und, und, und, und, und, und, und, und, und, und] M = lp (aCall T0) K_impl_isWord_0 L_impl_isWord_0 [strV w, und, und, und, und, .int .i64 w.length, .int .i64 (i + 1 : Nat), und, und, und, und, und, und, und, und, und, und, und, und, und, und, und, und] M := by
  obtain ⟨h1, h2⟩ := okByte_t hb
  rw [S_impl_isWord_0]; unfold B_impl_isWord_0; simp [hi, byteV, h1, h2]
  rw [wrap_i64 (by omega) (by omega)]
theorem okByte_f {b : UInt8} (h : okByte b = false) : (b.toNat : Int) < 97 ∨ (¬ ((b.toNat : Int) < 97) ∧ (122 < (b.toNat : Int))) := by
  simp only [okByte, Bool.and_eq_false_iff, decide_eq_false_iff_not] at h; omega
theorem x_impl_isWord (M : Mem) (w : List UInt8) (hw : w.length ≤ 9223372036854775807) (i : Nat) (hi : i < w.length) (hb : okByte w[i] = false) (k : ACode) :
    thenF M [.tmp 2] (thenS (blockR 0 (lp (aCall T0) K_impl_isWord_0 L_impl_isWord_0 [strV w, und, und, und, und, .int .i64 w.length, .int .i64 i, und, und, und, und, und, und, und, und, und, und, und, und, und, und, und, und] M)) (aCall T0) k) = some (.bool false, M) := by
  rcases okByte_f hb with h1 | ⟨h1, h2⟩
  · rw [S_impl_isWord_0]; unfold B_impl_isWord_0; simp [hi, byteV, h1]
  · rw [S_impl_isWord_0]; unfold B_impl_isWord_0; simp [hi, byteV, h1, h2]
theorem c_impl_isWord (M : Mem) (w : List UInt8) (hw : w.length ≤ 9223372036854775807) : aCall T0 F_impl_isWord [strV w] M = some (.bool (wordB w), M) := by
  unfold wordB
  rcases first_byte w with ha | ⟨ha, j, hj, h1, h2⟩
  · have hl := chain (g := fun i : Nat => lp (aCall T0) K_impl_isWord_0 L_impl_isWord_0 [strV w, und, und, und, und, .int .i64 w.length, .int .i64 i, und, und, und, und, und, und, und, und, und, und, und, und, und, und, und, und] M) (n := w.length) fun i hi => r_impl_isWord M w hw i hi (List.all_eq_true.1 ha _ (List.getElem_mem hi))
    simp only [Int.natCast_zero, Int.ofNat_zero] at hl
    rw [ha]
    rw [aCall_eq T_impl_isWord]; unfold A_impl_isWord C_impl_isWord; simp [hl]
    rw [S_impl_isWord_0]; unfold B_impl_isWord_0; simp [c_impl_within]
  · have hl := chain (g := fun i : Nat => lp (aCall T0) K_impl_isWord_0 L_impl_isWord_0 [strV w, und, und, und, und, .int .i64 w.length, .int .i64 i, und, und, und, und, und, und, und, und, und, und, und, und, und, und, und, und] M) (n := j) fun i hi => r_impl_isWord M w hw i (by omega) (h1 i (by omega) hi)
    simp only [Int.natCast_zero, Int.ofNat_zero] at hl
    rw [ha]
    rw [aCall_eq T_impl_isWord]; unfold A_impl_isWord C_impl_isWord; simp [hl, x_impl_isWord M w hw j hj h2]
theorem wordB_len {w : List UInt8} (h : wordB w = true) : 1 ≤ w.length ∧ w.length ≤ 32 := by
  simp [wordB] at h; omega
theorem padL_len (w : List UInt8) : (padL w).length = 33 := by
  unfold padL
  split
  · rename_i h; have := wordB_len h; simp; omega
  · simp
abbrev padB (w : List UInt8) : Blk := ⟨(padL w).map byteV, 1, 2⟩
theorem padL_f {w : List UInt8} (h : wordB w = false) : (padL w).map byteV = zc (.int .u8 0) 33 := by
  unfold padL
  rw [h]
  simp only [Bool.false_eq_true, if_false]
  exact map_byte_rep 33
theorem padL_t {w : List UInt8} (h : wordB w = true) : (padL w).map byteV = .int .u8 w.length :: (w.map byteV ++ zc (.int .u8 0) (32 - w.length)) := by
  have := wordB_len h
  unfold padL
  rw [h]
  simp only [if_true]
  rw [List.map_cons, List.map_append, map_byte_rep, byteV_len (by omega)]
theorem c_impl_pad (M : Mem) (w : List UInt8) (hw : w.length ≤ 9223372036854775807) : aCall T0 F_impl_pad [strV w] M = some (.slice (some ⟨M.length, 0, none⟩) 33 33, M ++ [padB w]) := by
  unfold padB
  cases hb : wordB w with
  | false => rw [padL_f hb]; rw [aCall_eq T_impl_pad]; unfold A_impl_pad C_impl_pad; simp [c_impl_isWord _ _ hw, hb]
  | true =>
    obtain ⟨h1, h2⟩ := wordB_len hb
    rw [padL_t hb]
    have e1 : min w.length 32 = w.length := by omega
    have e2 : w ≠ [] := by rintro rfl; simp at h1
    rw [aCall_eq T_impl_pad]; unfold A_impl_pad C_impl_pad; simp [c_impl_isWord _ _ hw, hb, e1, e2]
    (simp (disch := omega) only [wrap_i64, wrap_u64, wrap_u8, wrap_u32, if_pos, if_neg]; try simp)
theorem rep_sub {M : Mem} {b o n c : Nat} {ys : List UInt8} (h : Rep (.sl ty_Byte) M [.slice (some ⟨b, o, none⟩) n c] ys) (l k : Nat) (hk : l + k ≤ ys.length) (c2 : Nat) : Rep (.sl ty_Byte) M [.slice (some ⟨b, o + l, none⟩) k c2] ((ys.drop l).take k) := by
  rcases h with ⟨e, rfl⟩ | ⟨l', o', c', blk, css, e, h2, h3, h4, h5, h6, h7⟩
  · simp at e
  · simp only [List.cons.injEq, Value.slice.injEq, Option.some.injEq, Addr.mk.injEq, and_true] at e
    obtain ⟨⟨rfl, rfl⟩, rfl, rfl⟩ := e
    have he : css = ys.map enc_Byte := by
      apply List.ext_getElem (by simp [h5])
      intro i p q
      have hx : i < ys.length := by omega
      have := h6 i css[i] ys[i] (List.getElem?_eq_getElem p) (List.getElem?_eq_getElem hx)
      rw [List.getElem_map]
      exact this
    rw [he, flat_Byte] at h7
    refine .inr ⟨b, o + l, c2, blk, ((ys.drop l).take k).map enc_Byte, ?_, h2, ?_, h4, ?_, ?_, ?_⟩
    · have : ((ys.drop l).take k).length = k := by rw [List.length_take, List.length_drop]; omega
      rw [this]
    · rcases h3 with h3 | h3 | h3
      · exact .inl h3
      · exact .inr (.inl h3)
      · exact .inr (.inr (by subst h3; simp))
    · rw [List.length_map]
    · intro i ds x hd hx
      rw [List.getElem?_map, hx] at hd
      cases hd
      rfl
    · rw [flat_Byte, List.map_take, List.map_drop, ← List.drop_drop]
      obtain ⟨t, ht⟩ := h7
      rw [← ht, List.drop_append]
      exact (List.take_prefix _ _).trans (List.prefix_append _ _)
theorem rep_blkB {M : Mem} {l : Nat} {ys : List UInt8} (c : Nat) (hb : M[l]? = some ⟨ys.map byteV, 1, 2⟩) : Rep (.sl ty_Byte) M [.slice (some ⟨l, 0, none⟩) ys.length c] ys := by
  obtain ⟨L, o1, _⟩ := own_blk (t := ty_Byte) (M := M) (l := l) (c := c) (enc := enc_Byte) (ys := ys) (by rw [flat_Byte]; exact hb) (fun y _ => own_Byte _ y)
  exact o1.rep
theorem c_impl_Unpad (M : Mem) (v : V) (ys : List UInt8) (h : Rep (.sl ty_Byte) M [v] ys) (hl : ys.length = 33) : aCall T0 F_impl_Unpad [v] M = some (.tuple #[strV (unW ys), .bool (unB ys)], M) := by
  obtain ⟨a, c, rfl⟩ := h.slen
  have h0 : 0 < ys.length := by omega
  obtain ⟨l, o, rfl, _, hrd⟩ := at_Byte h h0
  obtain ⟨blk, hb, hbw, _⟩ := rep_blk h
  have e0 : unL ys = ys[0].toNat := by
    match ys, h0 with
    | y :: ys, _ => rfl
  rw [Nat.add_zero] at hrd
  have hbw : blk.w = 1 := hbw
  unfold unW unB
  obtain ⟨d, hd⟩ : ∃ d, d = unL ys := ⟨_, rfl⟩
  have hby : byteV ys[0] = .int .u8 d := by rw [hd, e0]; rfl
  rw [hby] at hrd
  rw [← hd]
  by_cases h32 : d ≤ 32
  · have g1 : ¬ 32 < (d : Int) := by omega
    have e1 : IntKind.u8.wrap (1 + (d : Int)) = 1 + d := wrap_u8 (by omega) (by omega)
    have g2 : d ≤ 32 := h32
    have hs := rep_sub h 1 d (by omega) (max ys.length c - 1)
    have hs2 : Rep (.sl ty_Byte) M [.slice (some ⟨l, o + 1, none⟩) d (max ys.length c - 1)] (unC ys) := by unfold unC; rw [← hd]; exact hs
    have hul : (unC ys).length = d := by
      unfold unC
      rw [← hd, List.length_take, List.length_drop]
      omega
    obtain ⟨a1, c1, z1, z2⟩ := cells_Byte hs2
    rw [hul] at z1 z2
    cases z1
    rw [hl] at z2
    have b1 : (1 : Int) ≤ 1 + d := by omega
    have b2 : (1 : Int) + d ≤ 33 := by omega
    have b3 : ((1 : Int) + d).toNat - 1 = d := by omega
    rw [decide_eq_true h32]
    have w1 := fun M => c_impl_isWord M (unC ys) (by omega)
    have w2 := c_impl_pad M (unC ys) (by omega)
    have w3 := c_bytes_Equal (M ++ [padB (unC ys)]) _ _ (padL (unC ys)) ys (rep_blkB (l := M.length) 33 (by simp)) (h.mono (List.prefix_append _ _))
    rw [padL_len] at w3
    generalize decide (padL (unC ys) = ys) = q at w3 ⊢
    cases hw : wordB (unC ys) with
    | false =>
      rw [hw] at w1
      rw [aCall_eq T_impl_Unpad]; unfold A_impl_Unpad C_impl_Unpad; simp [hl, hrd, g1, e1, b1, b2, b3, hb, hbw, z2, toBytes_map, w1]
    | true =>
      rw [hw] at w1
      rw [hl] at w3
      cases q with
      | false => rw [aCall_eq T_impl_Unpad]; unfold A_impl_Unpad C_impl_Unpad; simp [hl, hrd, g1, e1, b1, b2, b3, hb, hbw, z2, toBytes_map, w1, w2, w3]
      | true => rw [aCall_eq T_impl_Unpad]; unfold A_impl_Unpad C_impl_Unpad; simp [hl, hrd, g1, e1, b1, b2, b3, hb, hbw, z2, toBytes_map, w1, w2, w3]
  · have g1 : 32 < (d : Int) := by omega
    rw [decide_eq_false h32]
    rw [aCall_eq T_impl_Unpad]; unfold A_impl_Unpad C_impl_Unpad; simp [hl, hrd, g1]
theorem at_B {M : Mem} {l o n c : Nat} {ys : List UInt8} (h : Rep (.sl ty_Byte) M [.slice (some ⟨l, o, none⟩) n c] ys) {i : Nat} (hi : i < ys.length) : rd1 M l (o + i) = some (.int .u8 (atN ys i : Nat)) := by
  obtain ⟨_, _, e, _, hrd⟩ := at_Byte h hi
  simp at e
  obtain ⟨rfl, rfl⟩ := e
  rw [hrd]
  unfold atN
  rw [List.getD_eq_getElem?_getD, List.getElem?_eq_getElem hi]
  rfl
theorem or_i64 {a b : Nat} (ha : a < 256) (hb : b < 256) : bor .i64 ((256 * a : Nat) : Int) (b : Nat) = ((256 * a + b : Nat) : Int) := by
  have e : 256 * a ||| b = 256 * a + b := by
    have := Nat.shiftLeft_add_eq_or_of_lt (show b < 2 ^ 8 by omega) a
    rw [Nat.shiftLeft_eq] at this
    rw [Nat.mul_comm, ← this]
  unfold bor
  rw [ofInt_nat, ofInt_nat, BitVec.toNat_or, BitVec.toNat_ofNat, BitVec.toNat_ofNat]
  show IntKind.i64.wrap (((256 * a) % 2 ^ 64 ||| b % 2 ^ 64 : Nat) : Int) = _
  rw [Nat.mod_eq_of_lt (by omega), Nat.mod_eq_of_lt (by omega), e]
  exact wrap_i64 (by omega) (by omega)
theorem shl_8 {a : Nat} (ha : a < 256) : bshl .i64 (a : Int) 8 = ((256 * a : Nat) : Int) := by
  unfold bshl
  have : min (8 : Int).toNat IntKind.i64.bits = 8 := by decide
  rw [this, wrap_i64 (by omega) (by omega)]
  omega
theorem z_rec (r : ty_Rec.D) : decide (r = zRec) = (decide (r.1 = false) && (decide ((r.2.1 : Int) = 0) && (decide ((r.2.2.1 : Int) = 0) && decide (r.2.2.2 = [])))) := by
  obtain ⟨a, b, c, d⟩ := r
  simp [zRec]
theorem eq_rec (r : ty_Rec.D) : eqCells [0, 1, 1, 2] [.bool r.1, .int .i64 r.2.1, .int .i64 r.2.2.1, strV r.2.2.2] [.bool false, .int .i64 0, .int .i64 0, .string ⟨#[]⟩] = some (decide (r = zRec)) := by
  rw [z_rec]
  simp [eqCells]
  cases r.1 <;> simp
  by_cases h2 : (r.2.1 : Int) = 0 <;> simp [h2]
  by_cases h3 : (r.2.2.1 : Int) = 0 <;> simp [h3]
  by_cases h4 : r.2.2.2 = [] <;> simp [h4]
theorem c_impl_isRec (M : Mem) (r : ty_Rec.D) (hw : r.2.2.2.length ≤ 9223372036854775807) : aCall T0 F_impl_isRec [.agg (enc_Rec r).toArray] M = some (.bool (recB r), M) := by
  unfold recB
  have h2 := fun M => c_impl_isWord M r.2.2.2 hw
  cases he : decide (r = zRec) with
  | true =>
    have h3 := eq_rec r
    rw [he] at h3
    rw [aCall_eq T_impl_isRec]; unfold A_impl_isRec C_impl_isRec; simp [h3]
  | false =>
    have h3 := eq_rec r
    rw [he] at h3
    rw [aCall_eq T_impl_isRec]; unfold A_impl_isRec C_impl_isRec; simp [h3, h2, c_impl_within]
    repeat' ((first | rw [selO_some] | rw [condR_bool] | rw [selD_some]); split <;> rename_i hq <;> (have hq2 := hq) <;> (try simp at hq2) <;> (try simp [*, h2, c_impl_within]))
theorem recT_len (r : ty_Rec.D) : (recT r).length = 37 := by
  unfold recT
  rw [List.length_append, padL_len]
  rfl
def BG (M0 X : Mem) (v : V) (ys : List UInt8) : Prop := ∃ n, ys.length = n ∧ M0 <+: X ∧ Grow M0.length 1 X v n (ys.map byteV)
theorem BG.le {M M0 X : Mem} {v : V} {ys : List UInt8} (h : BG M0 X v ys) (hp : M <+: M0) : BG M X v ys := by
  obtain ⟨n, h1, h2, h3⟩ := h
  exact ⟨n, h1, hp.trans h2, h3.le hp.length_le⟩
theorem BG.pre {M0 X : Mem} {v : V} {ys : List UInt8} (h : BG M0 X v ys) : M0 <+: X := by
  obtain ⟨n, h1, h2, h3⟩ := h
  exact h2
theorem BG.sl {M0 X : Mem} {v : V} {ys : List UInt8} (h : BG M0 X v ys) : ∃ a n, v = .slice a n n ∧ ys.length = n := by
  obtain ⟨n, h1, h2, h3⟩ := h
  obtain ⟨a, e⟩ := h3.shape
  exact ⟨a, n, e, h1⟩
/-- A slice of bytes made anew. -/
def Bytes (M : Mem) (ys : List UInt8) (p : V × Mem) : Prop := BG M p.2 p.1 ys
theorem Bytes.get {M X : Mem} {v : V} {ys : List UInt8} {m : Nat} (h : Bytes M ys (v, X)) (hm : ys.length = m) : M <+: X ∧ (∃ a, v = .slice a m m) ∧ sliceCells X 1 v = some (m, ys.map byteV) := by
  obtain ⟨n, rfl, hp, hg⟩ := h
  subst hm
  exact ⟨hp, hg.shape, hg.cells⟩
theorem wrap_u8_mod (n : Nat) : IntKind.u8.wrap (n : Int) = ((n % 256 : Nat) : Int) := by
  simp [IntKind.wrap, IntKind.min, IntKind.max, IntKind.signed, IntKind.bits]
theorem shr8 (w : Nat) : bshr .i64 (w : Int) 8 = ((w / 256 : Nat) : Int) := by
  unfold bshr
  have : min (8 : Int).toNat IntKind.i64.bits = 8 := by decide
  rw [this, Int.fdiv_eq_ediv_of_nonneg _ (by decide)]
  simp
theorem rec_bounds {r : ty_Rec.D} (h : recB r = true) : (∃ d : Nat, r.2.1 = (d : Int) ∧ d ≤ 7) ∧ (∃ w : Nat, r.2.2.1 = (w : Int) ∧ w ≤ 65535) ∧ r.2.2.2.length ≤ 32 := by
  unfold recB at h
  rw [Bool.or_eq_true] at h
  rcases h with h | h
  · have h := of_decide_eq_true h
    subst h
    exact ⟨⟨0, rfl, by omega⟩, ⟨0, rfl, by omega⟩, by decide⟩
  · simp only [Bool.and_eq_true, decide_eq_true_eq] at h
    obtain ⟨⟨⟨_, h1, h2⟩, h3, h4⟩, h5⟩ := h
    have h5 := (wordB_len h5).2
    obtain ⟨a, d, w, s⟩ := r
    exact ⟨⟨Int.toNat d, (Int.toNat_of_nonneg h1).symm, Int.toNat_le.2 h2⟩, ⟨Int.toNat w, (Int.toNat_of_nonneg h3).symm, Int.toNat_le.2 h4⟩, h5⟩
theorem bytes_of {M N : Mem} {k n : Nat} {ys : List UInt8} {cs : List V} (h : N[k]? = some ⟨cs, 1, 2⟩) (hc : cs = ys.map byteV) (hn : ys.length = n) : Bytes M ys (.slice (some ⟨M.length + k, 0, none⟩) n n, M ++ N) := by
  subst hn hc
  refine ⟨_, rfl, List.prefix_append _ _, by simp, .inr ⟨M.length + k, by omega, rfl, ?_⟩⟩
  rw [List.getElem?_append_right (by omega), Nat.add_sub_cancel_left]
  exact h
theorem recT_cells (f : Bool) (d w : Nat) (s : List UInt8) (hd : d ≤ 7) (hw : w ≤ 65535) : (recT (f, (d : Int), (w : Int), s)).map byteV = Value.int .u8 (if f = true then 1 else 0) :: .int .u8 d :: .int .u8 ((w / 256 : Nat) : Int) :: .int .u8 ((w % 256 : Nat) : Int) :: (padL s).map byteV := by
  unfold recT
  simp only [List.map_append, List.map_cons, List.map_nil, Int.toNat_natCast]
  rw [byteV_len (by omega), byteV_len (by omega), byteV_len (by omega)]
  cases f <;> rfl
theorem c_impl_recOf (M : Mem) (r : ty_Rec.D) (hr : recB r = true) : Sat (aCall T0 F_impl_recOf [.agg (enc_Rec r).toArray] M) (Bytes M (recT r)) := by
  obtain ⟨⟨d, hd, hd7⟩, ⟨w, hw, hw7⟩, hs⟩ := rec_bounds hr
  have g1 := c_impl_pad (M ++ [⟨enc_Rec r, 1, 2⟩]) r.2.2.2 (by omega)
  obtain ⟨q, hq⟩ : ∃ q, q = w / 256 := ⟨_, rfl⟩
  obtain ⟨p, hp⟩ : ∃ p, p = w % 256 := ⟨_, rfl⟩
  have e1 : IntKind.u8.wrap (d : Int) = d := wrap_u8 (by omega) (by omega)
  have e2 : IntKind.u8.wrap (q : Int) = q := wrap_u8 (by omega) (by omega)
  have e3 := wrap_u8_mod w
  have e4 := shr8 w
  have hpl := padL_len r.2.2.2
  have hal := map_byte_all (padL r.2.2.2)
  obtain ⟨r1, r2, r3, r4⟩ := r
  simp only at hd hw
  subst hd hw
  have hc := recT_cells r1 d w r4 hd7 hw7
  rw [← hq] at e4 hc
  rw [← hp] at e3 hc
  dsimp only at g1 hpl hal
  cases r1 with
  | true =>
    rw [aCall_eq T_impl_recOf]; unfold A_impl_recOf C_impl_recOf; simp [thenD_pp, sliceCells_sl, sliceCells_z, sliceCells_nil, take_full, appS_sl, appK_ok, appS_none, thenD_ag, agP_nil, agP_cons, g1, e1, e2, e3, e4, hpl, hal]
    exact sat_some (bytes_of rfl hc.symm (recT_len _))
  | false =>
    rw [aCall_eq T_impl_recOf]; unfold A_impl_recOf C_impl_recOf; simp [thenD_pp, sliceCells_sl, sliceCells_z, sliceCells_nil, take_full, appS_sl, appK_ok, appS_none, thenD_ag, agP_nil, agP_cons, g1, e1, e2, e3, e4, hpl, hal]
    exact sat_some (bytes_of rfl hc.symm (recT_len _))
theorem bg_rep {M0 X : Mem} {v : V} {ys : List UInt8} (h : BG M0 X v ys) : ∃ L, M0 <+: X ∧ Own (.sl ty_Byte) X [v] ys L ∧ Fresh M0 X L := by
  obtain ⟨n, rfl, hp, hg⟩ := h
  rcases hg.2 with ⟨rfl, h0⟩ | ⟨l, hl, rfl, hb⟩
  · have : ys = [] := List.length_eq_zero_iff.1 h0
    subst this
    exact ⟨[], hp, .inl ⟨rfl, rfl, .inl ⟨rfl, rfl⟩⟩, by simp, by simp⟩
  · obtain ⟨L, o1, o2⟩ := own_blk (t := ty_Byte) (M := X) (l := l) (c := ys.length) (enc := enc_Byte) (ys := ys) (by rw [flat_Byte]; exact hb) (fun y _ => own_Byte _ y)
    refine ⟨L, hp, o1, nodup_flat ownf_Byte o1, fun j hj => ?_⟩
    rw [o2 j hj]
    exact ⟨hl, get_lt hb⟩
def RecD (M : Mem) (r : ty_Rec.D) (b : Bool) (p : V × Mem) : Prop := p.1 = .tuple #[.agg (enc_Rec r).toArray, .bool b] ∧ M <+: p.2
theorem rep_drop {M : Mem} {b o n c : Nat} {ys : List UInt8} (h : Rep (.sl ty_Byte) M [.slice (some ⟨b, o, none⟩) n c] ys) (l : Nat) (hl : l ≤ ys.length) (k : Nat) (hk : k = ys.length - l) (c2 : Nat) : Rep (.sl ty_Byte) M [.slice (some ⟨b, o + l, none⟩) k c2] (ys.drop l) := by
  have := rep_sub h l k (by omega) c2
  rwa [List.take_of_length_le (by rw [List.length_drop]; omega)] at this
theorem c_impl_RecRead (M : Mem) (v : V) (ys : List UInt8) (h : Rep (.sl ty_Byte) M [v] ys) : Sat (aCall T0 F_impl_RecRead [v] M) (RecD M (recX ys) (recR ys)) := by
  obtain ⟨a, c, rfl⟩ := h.slen
  unfold recX recR
  by_cases hl : ys.length = 37
  rotate_left
  · rw [decide_eq_false hl]
    have hl2 : ¬ (ys.length : Int) = 37 := by omega
    rw [aCall_eq T_impl_RecRead]; unfold A_impl_RecRead C_impl_RecRead; simp [thenD_pp, sliceCells_sl, sliceCells_z, sliceCells_nil, take_full, appS_sl, appK_ok, appS_none, thenD_ag, agP_nil, agP_cons, hl, hl2, prim]
    exact sat_some ⟨rfl, List.prefix_append _ _⟩
  rw [decide_eq_true hl]
  rw [hl] at h ⊢
  obtain ⟨l, o, rfl, _⟩ := at_Byte h (show 0 < ys.length by omega)
  have q0 := at_B h (show 0 < ys.length by omega)
  have q1 := at_B h (show 1 < ys.length by omega)
  have q2 := at_B h (show 2 < ys.length by omega)
  have q3 := at_B h (show 3 < ys.length by omega)
  have t1 := atN_lt ys 1
  have t2 := atN_lt ys 2
  have t3 := atN_lt ys 3
  have t0 := atN_lt ys 0
  have e1 : IntKind.i64.wrap (atN ys 1 : Int) = atN ys 1 := wrap_i64 (by omega) (by omega)
  have e2 : IntKind.i64.wrap (atN ys 2 : Int) = atN ys 2 := wrap_i64 (by omega) (by omega)
  have e3 : IntKind.i64.wrap (atN ys 3 : Int) = atN ys 3 := wrap_i64 (by omega) (by omega)
  have e4 := shl_8 t2
  have e5 := or_i64 t2 t3
  obtain ⟨blk, hb, hbw, _⟩ := rep_blk h
  have hbw : blk.w = 1 := hbw
  have hd := rep_drop h 4 (by omega) 33 (by omega) (max 37 c - 4)
  have hdl : (ys.drop 4).length = 33 := by rw [List.length_drop, hl]
  have s1 := fun N : Mem => c_impl_Unpad (M ++ N) _ _ (hd.mono (List.prefix_append M N)) hdl
  have hw := unW_len (ys.drop 4)
  have hrI : recI ys = ((decide ((atN ys 0 : Int) = 1), (atN ys 1 : Int), 256 * (atN ys 2 : Int) + (atN ys 3 : Int), unW (ys.drop 4)) : ty_Rec.D) := by
    unfold recI
    rw [show decide (atN ys 0 = 1) = decide ((atN ys 0 : Int) = 1) from decide_eq_decide.2 (by omega)]
    simp
  rw [hrI]
  simp only [Int.natCast_mul, Int.natCast_add, Int.cast_ofNat_Int] at e4 e5
  rw [Nat.add_zero] at q0
  have k0 := fun N : Mem => rd1_old (N := N) q0
  have k1 := fun N : Mem => rd1_old (N := N) q1
  have k2 := fun N : Mem => rd1_old (N := N) q2
  have k3 := fun N : Mem => rd1_old (N := N) q3
  have hlt := get_lt hb
  have hb2 := fun N : Mem => (gt_app (N := N) hlt).trans hb
  rw [aCall_eq T_impl_RecRead]; unfold A_impl_RecRead C_impl_RecRead; simp [thenD_pp, sliceCells_sl, sliceCells_z, sliceCells_nil, take_full, appS_sl, appK_ok, appS_none, thenD_ag, agP_nil, agP_cons, hl, k0, k1, k2, k3, e1, e2, e3, e4, e5, hb2, hbw, s1, prim]
  generalize hx : aCall T0 F_impl_isRec _ _ = xhx
  have hx := hx.symm.trans (c_impl_isRec _ ((decide ((atN ys 0 : Int) = 1), (atN ys 1 : Int), 256 * (atN ys 2 : Int) + (atN ys 3 : Int), unW (ys.drop 4)) : ty_Rec.D) (by show (unW (ys.drop 4)).length ≤ _; omega))
  subst hx
  cases hq : recB ((decide ((atN ys 0 : Int) = 1), (atN ys 1 : Int), 256 * (atN ys 2 : Int) + (atN ys 3 : Int), unW (ys.drop 4)) : ty_Rec.D) with
  | false =>
    simp [thenD_pp, sliceCells_sl, sliceCells_z, sliceCells_nil, take_full, appS_sl, appK_ok, appS_none, thenD_ag, agP_nil, agP_cons, prim]
    exact sat_some ⟨rfl, List.prefix_append _ _⟩
  | true =>
    simp [thenD_pp, sliceCells_sl, sliceCells_z, sliceCells_nil, take_full, appS_sl, appK_ok, appS_none, thenD_ag, agP_nil, agP_cons]
    generalize hx : aCall T0 F_impl_recOf _ _ = xhx
    obtain ⟨v1, X1, rfl, g1⟩ := of_call hx (c_impl_recOf _ ((decide ((atN ys 0 : Int) = 1), (atN ys 1 : Int), 256 * (atN ys 2 : Int) + (atN ys 3 : Int), unW (ys.drop 4)) : ty_Rec.D) hq)
    clear hx
    obtain ⟨p1, ⟨_, rfl⟩, _⟩ := Bytes.get g1 (recT_len _)
    obtain ⟨L, _, o1, _⟩ := bg_rep g1
    have pM : M <+: X1 := (List.prefix_append _ _).trans p1
    have b0 : X1[M.length]? = some ⟨_, 1, 2⟩ := get_pre p1 (by simp; rfl)
    have b1 : X1[M.length + 1]? = some ⟨_, 1, 2⟩ := get_pre p1 (by simp; rfl)
    have s3 := c_bytes_Equal X1 _ _ _ ys o1.rep (h.mono pM)
    generalize hrt : recT ((decide ((atN ys 0 : Int) = 1), (atN ys 1 : Int), 256 * (atN ys 2 : Int) + (atN ys 3 : Int), unW (ys.drop 4)) : ty_Rec.D) = rt at s3 ⊢
    by_cases hbq : rt = ys
    · rw [decide_eq_true hbq] at s3
      clear hrt
      subst hbq
      simp [thenD_pp, sliceCells_sl, sliceCells_z, sliceCells_nil, take_full, appS_sl, appK_ok, appS_none, thenD_ag, agP_nil, agP_cons, s3, b0, b1, gs_of b0, prim, rd1_K, rdJ_ok, rdn_K, rnJ_ok, wrn_K, wrJ_ok]
      exact sat_some ⟨rfl, pf_set (Nat.le_refl _) pM⟩
    · rw [decide_eq_false hbq] at s3
      simp [thenD_pp, sliceCells_sl, sliceCells_z, sliceCells_nil, take_full, appS_sl, appK_ok, appS_none, thenD_ag, agP_nil, agP_cons, s3, hbq, b0, b1, gs_of b0, prim, rd1_K, rdJ_ok, rdn_K, rnJ_ok, wrn_K, wrJ_ok]
      exact sat_some ⟨rfl, pf_set (Nat.le_refl _) pM⟩
theorem scanL {P : ty_Cell.D → Bool} {cs : List ty_Cell.D} {i : Nat} (hi : i < cs.length) : (cs.take (i + 1)).map recX = (cs.take i).map recX ++ [recX cs[i]] := by
  rw [List.take_succ_eq_append_getElem hi, List.map_append]
  rfl
theorem l_impl_recsOf_0 (M Z : Mem) (m : ty_Mem.D) (a b : Option Addr) (c d : Nat) (h : Rep (.sl ty_Cell) M [.slice a m.2.1.length c] m.2.1) (hn : m.2.1.length ≤ 128) (v : V) (hZ : RL (M ++ [⟨[.int .i64 m.1, .slice a m.2.1.length c, .slice b m.2.2.length d], 1, 2⟩]) (M.length + 1) Z v []) :
    (∃ v' X', RL (M ++ [⟨[.int .i64 m.1, .slice a m.2.1.length c, .slice b m.2.2.length d], 1, 2⟩]) (M.length + 1) X' v' (m.2.1.map recX) ∧ (∀ i, i < m.2.1.length → atB recR m.2.1 i = true) ∧ lp (aCall T0) K_impl_recsOf_0 L_impl_recsOf_0 [und, und, und, und, v, und, und, und, und, und, .slice a m.2.1.length c, .int .i64 m.2.1.length, .int .i64 (0 : Nat), und, und, und, und, und, und, und, und, und, und, und, und, und, und, und, und, und] Z = lp (aCall T0) K_impl_recsOf_0 L_impl_recsOf_0 [und, und, und, und, v', und, und, und, und, und, .slice a m.2.1.length c, .int .i64 m.2.1.length, .int .i64 m.2.1.length, und, und, und, und, und, und, und, und, und, und, und, und, und, und, und, und, und] X') ∨
    ((∃ i, i < m.2.1.length ∧ atB recR m.2.1 i = false) ∧ ∀ k, Sat (thenF M [.tmp 2, .tmp 3] (thenS (blockR 0 (lp (aCall T0) K_impl_recsOf_0 L_impl_recsOf_0 [und, und, und, und, v, und, und, und, und, und, .slice a m.2.1.length c, .int .i64 m.2.1.length, .int .i64 (0 : Nat), und, und, und, und, und, und, und, und, und, und, und, und, und, und, und, und, und] Z)) (aCall T0) k)) (RecsD M [] false)) := by
  have key := loop_st (call := aCall T0) (K := K_impl_recsOf_0) (L := L_impl_recsOf_0) (fun i w Y => RL (M ++ [⟨[.int .i64 m.1, .slice a m.2.1.length c, .slice b m.2.2.length d], 1, 2⟩]) (M.length + 1) Y w ((m.2.1.take i).map recX)) (fun i w => [und, und, und, und, w, und, und, und, und, und, .slice a m.2.1.length c, .int .i64 m.2.1.length, .int .i64 i, und, und, und, und, und, und, und, und, und, und, und, und, und, und, und, und, und]) (atB recR m.2.1) (RecsD M [] false) (n := m.2.1.length) (M0 := M) (rs := [.tmp 2, .tmp 3]) (k0 := 0) v Z (by simpa using hZ) ?_ ?_
  · rcases key with ⟨v', X', h0, h1, h2⟩ | h
    · rw [List.take_length] at h0
      exact .inl ⟨v', X', h0, h1, h2⟩
    · exact .inr h
  · intro i w Y hi hq hY
    obtain ⟨n, hn1, pY, gY⟩ := hY
    have hn2 : n ≤ 128 := by rw [← hn1]; simp; omega
    have pM : M <+: Y := (List.prefix_append _ _).trans pY
    have b0 : Y[M.length]? = some ⟨[.int .i64 m.1, .slice a m.2.1.length c, .slice b m.2.2.length d], 1, 2⟩ := get_pre pY (by simp)
    have lb := get_lt b0
    obtain ⟨l, o, u, rfl, _, q1, q3⟩ := at_Cell (h.mono pM) hi
    rw [scanL (P := recR) hi]
    generalize (m.2.1.take i).map recX = rs at hn1 gY ⊢
    rw [atB_get _ hi] at hq
    generalize m.2.1[i] = cell at q3 hq ⊢
    have q4 := q3.mono (List.prefix_append Y [⟨[u], 1, 2⟩])
    have e6 : IntKind.i64.wrap ((i : Int) + 1) = i + 1 := wrap_i64 (by omega) (by omega)
    have q1' := rdn_old (N := [⟨[u], 1, 2⟩]) q1
    obtain ⟨_, _, rfl⟩ := q3.slen
    rw [S_impl_recsOf_0]; unfold B_impl_recsOf_0; simp [thenD_pp, sliceCells_sl, sliceCells_z, sliceCells_nil, take_full, appS_sl, appK_ok, appS_none, thenD_ag, agP_nil, agP_cons, hi, q1]
    generalize hx : aCall T0 F_impl_RecRead _ _ = xhx
    obtain ⟨w1, X1, rfl, rfl, p1⟩ := of_call hx (c_impl_RecRead _ _ _ q4)
    clear hx
    generalize recX cell = rr
    have p2 := (List.prefix_append _ _).trans p1
    obtain ⟨_, rfl⟩ := gY.shape
    simp [thenD_pp, sliceCells_sl, sliceCells_z, sliceCells_nil, take_full, appS_sl, appK_ok, appS_none, thenD_ag, agP_nil, agP_cons, hq, zeroCells]
    generalize hy : appS _ _ _ _ _ _ = xhy
    obtain ⟨a3, X3, rfl, g3, ag, l3⟩ := gY.at hy (p2.trans (List.prefix_append _ _)) (by omega) (by rfl) (by omega) (by rfl) (by omega) (by omega)
    clear hy
    simp [thenD_pp, sliceCells_sl, sliceCells_z, sliceCells_nil, take_full, appS_sl, appK_ok, appS_none, thenD_ag, agP_nil, agP_cons, e6]
    refine ⟨_, _, ⟨n + 1, by rw [List.length_append, hn1]; rfl, ag.pre (pf_app (pY.trans p2)) fun j hj => by have := gY.ge j hj; simp; omega, ?_⟩, rfl⟩
    rw [List.map_append, List.flatten_append]
    simpa using g3
  · intro i w Y hi hq hY k
    obtain ⟨n, hn1, pY, gY⟩ := hY
    have pM : M <+: Y := (List.prefix_append _ _).trans pY
    obtain ⟨l, o, u, rfl, _, q1, q3⟩ := at_Cell (h.mono pM) hi
    rw [atB_get _ hi] at hq
    generalize m.2.1[i] = cell at q3 hq ⊢
    have q4 := q3.mono (List.prefix_append Y [⟨[u], 1, 2⟩])
    obtain ⟨_, _, rfl⟩ := q3.slen
    rw [S_impl_recsOf_0]; unfold B_impl_recsOf_0; simp [thenD_pp, sliceCells_sl, sliceCells_z, sliceCells_nil, take_full, appS_sl, appK_ok, appS_none, thenD_ag, agP_nil, agP_cons, hi, q1]
    generalize hx : aCall T0 F_impl_RecRead _ _ = xhx
    obtain ⟨w1, X1, rfl, rfl, p1⟩ := of_call hx (c_impl_RecRead _ _ _ q4)
    clear hx
    generalize recX cell = rr at hq ⊢
    have p2 := (List.prefix_append _ _).trans p1
    simp [thenD_pp, sliceCells_sl, sliceCells_z, sliceCells_nil, take_full, appS_sl, appK_ok, appS_none, thenD_ag, agP_nil, agP_cons, hq]
    exact sat_some (recsD_nil (pf_app (pM.trans p2)))
theorem c_impl_recsOf (M : Mem) (cs : List V) (m : ty_Mem.D) (h : Rep ty_Mem M cs m) (hn : m.2.1.length ≤ 128) : Sat (aCall T0 F_impl_recsOf [.agg cs.toArray] M) (RecsD M (implR m) (m.2.1.all recR)) := by
  obtain ⟨a, b, c, d, rfl, r0, r1⟩ := mem_shape h
  unfold implR
  rcases l_impl_recsOf_0 M _ m a b c d r0 hn (.slice none 0 0) ⟨0, rfl, List.prefix_refl _, Grow.nil⟩ with ⟨v', X', h0, h1, e⟩ | ⟨hb, e⟩
  · simp only [Int.natCast_zero, Int.ofNat_zero] at e
    rw [atB_all h1, if_pos rfl]
    rw [aCall_eq T_impl_recsOf]; unfold A_impl_recsOf C_impl_recsOf; simp [thenD_pp, sliceCells_sl, sliceCells_z, sliceCells_nil, take_full, appS_sl, appK_ok, appS_none, thenD_ag, agP_nil, agP_cons, e]
    have hs := rl_D (ok := true) h0
    obtain ⟨_, _, hg⟩ := h0
    obtain ⟨_, rfl⟩ := hg.2.shape
    rw [S_impl_recsOf_0]; unfold B_impl_recsOf_0; simp [thenD_pp, sliceCells_sl, sliceCells_z, sliceCells_nil, take_full, appS_sl, appK_ok, appS_none, thenD_ag, agP_nil, agP_cons]
    exact sat_some hs
  · simp only [Int.natCast_zero, Int.ofNat_zero] at e
    rw [atB_not hb, if_neg (by decide)]
    rw [aCall_eq T_impl_recsOf]; unfold A_impl_recsOf C_impl_recsOf; simp [thenD_pp, sliceCells_sl, sliceCells_z, sliceCells_nil, take_full, appS_sl, appK_ok, appS_none, thenD_ag, agP_nil, agP_cons]
    exact e _
theorem own_Rec (M : Mem) (x : ty_Rec.D) (h1 : (Lit.int .i64 x.2.1).wf = true) (h2 : (Lit.int .i64 x.2.2.1).wf = true) : Own ty_Rec M (enc_Rec x) x [] := ⟨[.bool x.1], [.int .i64 x.2.1, .int .i64 x.2.2.1, strV x.2.2.2], [], [], rfl, ⟨rfl, rfl⟩, ⟨[.int .i64 x.2.1], [.int .i64 x.2.2.1, strV x.2.2.2], [], [], rfl, ⟨⟨rfl, h1⟩, rfl⟩, ⟨[.int .i64 x.2.2.1], [strV x.2.2.2], [], [], rfl, ⟨⟨rfl, h2⟩, rfl⟩, ⟨rfl, rfl⟩, rfl⟩, rfl⟩, rfl⟩
theorem grow_Rec {k n : Nat} {X : Mem} {v : V} {rs : List ty_Rec.D} (hg : Grow k 4 X v n (rs.map enc_Rec).flatten) (hn : rs.length = n) (hb : ∀ r ∈ rs, ((-9223372036854775808 ≤ r.2.1 ∧ r.2.1 ≤ 9223372036854775807) ∧ (-9223372036854775808 ≤ r.2.2.1 ∧ r.2.2.1 ≤ 9223372036854775807)) ∧ r.2.2.2.length ≤ 37) : Rep (.sl ty_Rec) X [v] rs := by
  subst hn
  obtain ⟨hl, hg⟩ := hg
  rcases hg with ⟨rfl, h0⟩ | ⟨l, hl2, rfl, hbl⟩
  · have : rs = [] := List.length_eq_zero_iff.1 h0
    subst this
    exact .inl ⟨rfl, rfl⟩
  · obtain ⟨L, o1, o2⟩ := own_blk (t := ty_Rec) (M := X) (l := l) (c := rs.length) (enc := enc_Rec) (ys := rs) hbl (fun y hy => own_Rec X y (wf_range (hb y hy).1.1) (wf_range (hb y hy).1.2))
    exact o1.rep
theorem rep_Rec {M : Mem} {cs : List V} {x : ty_Rec.D} (h : Rep ty_Rec M cs x) : cs = enc_Rec x := by
  obtain ⟨_, _, rfl, rfl, ⟨_, _, rfl, ⟨rfl, _⟩, ⟨_, _, rfl, ⟨rfl, _⟩, rfl⟩⟩⟩ := h
  rfl
theorem at_Rec {M : Mem} {a : Option Addr} {n c : Nat} {xs : List ty_Rec.D} (h : Rep (.sl ty_Rec) M [.slice a n c] xs) {i : Nat} (hi : i < xs.length) : ∃ l o, a = some ⟨l, o, none⟩ ∧ Rep ty_Rec M (enc_Rec xs[i]) xs[i] ∧ rdn M l (o + i * 4) 4 = some (enc_Rec xs[i]) ∧ rd1 M l (o + i * 4) = some (.bool xs[i].1) ∧ rd1 M l (o + i * 4 + 1) = some (.int .i64 xs[i].2.1) ∧ rd1 M l (o + i * 4 + 2) = some (.int .i64 xs[i].2.2.1) ∧ rd1 M l (o + i * 4 + 3) = some (strV xs[i].2.2.2) := by
  obtain ⟨_, l, o, rfl, cs, hrd, hrep⟩ := rep_at h hi
  have hcs := rep_Rec hrep
  subst hcs
  have hw : ty_Rec.w = 4 := rfl
  rw [hw] at hrd
  exact ⟨l, o, rfl, hrep, hrd, rd1_of_rdn hrd (k := 0) rfl, rd1_of_rdn hrd (k := 1) rfl, rd1_of_rdn hrd (k := 2) rfl, rd1_of_rdn hrd (k := 3) rfl⟩
theorem c_impl_recIndex_1 (M : Mem) (r : ty_Rec.D) (p : Nat) (w : List UInt8) (hp : rd1 M p 0 = some (strV w)) : aCall T0 F_impl_recIndex_1 [.agg (enc_Rec r).toArray, .pointer (some ⟨p, 0, none⟩)] M = some (.bool (liveW w r), M) := by
  have h2 : ∀ N, rd1 (M ++ N) p 0 = some (strV w) := fun N => rd1_old hp
  unfold liveW
  obtain ⟨r1, r2, r3, r4⟩ := r
  cases r1 with
  | false => rw [aCall_eq T_impl_recIndex_1]; unfold A_impl_recIndex_1 C_impl_recIndex_1; simp [thenD_pp, sliceCells_sl, sliceCells_z, sliceCells_nil, take_full, appS_sl, appK_ok, appS_none, thenD_ag, agP_nil, agP_cons, h2]
  | true => rw [aCall_eq T_impl_recIndex_1]; unfold A_impl_recIndex_1 C_impl_recIndex_1; simp [thenD_pp, sliceCells_sl, sliceCells_z, sliceCells_nil, take_full, appS_sl, appK_ok, appS_none, thenD_ag, agP_nil, agP_cons, h2]
theorem c_impl_recIndex (M : Mem) (v : V) (xs : List ty_Rec.D) (w : List UInt8) (h : Rep (.sl ty_Rec) M [v] xs) (hn : xs.length ≤ 1048576) : aCall T0 F_impl_recIndex [v, strV w] M = some (.int .i64 (idx (liveW w) xs), M) := by
  have hi := idx_sl T_slices_IndexFunc_impl_Rec_impl_Rec rfl (h.mono (List.prefix_append M [⟨[strV w], 1, 2⟩])) (by omega) F_impl_recIndex_1 [.pointer (some ⟨M.length, 0, none⟩)] (liveW w) (fun i hi cs hr => by
    have := rep_Rec hr
    subst this
    exact c_impl_recIndex_1 _ _ M.length w (by simp))
  rw [aCall_eq T_impl_recIndex]; unfold A_impl_recIndex C_impl_recIndex; simp [thenD_pp, sliceCells_sl, sliceCells_z, sliceCells_nil, take_full, appS_sl, appK_ok, appS_none, thenD_ag, agP_nil, agP_cons, hi]
def fr2 (rs : List ty_Rec.D) (i : Nat) : Bool := match rs[i]? with
  | some r => decide (r.2.1 = (0 : Int)) && frB rs r i
  | none => true
theorem fr2_get {rs : List ty_Rec.D} {i : Nat} (hi : i < rs.length) : fr2 rs i = (decide (rs[i].2.1 = (0 : Int)) && frB rs rs[i] i) := by unfold fr2; rw [List.getElem?_eq_getElem hi]
theorem l_impl_scanRecs_0 (M X : Mem) (hM : M <+: X) (v : V) (k : Nat) (rs : List ty_Rec.D) (h : Rep (.sl ty_Rec) X [v] rs) (hn : rs.length ≤ 1048576) (hv : v = .slice none 0 0 ∨ k = rs.length) (ok : V) :
    (∃ X', X <+: X' ∧ (∀ i, i < rs.length → fr2 rs i = true) ∧ lp (aCall T0) K_impl_scanRecs_0 L_impl_scanRecs_0 [und, und, und, und, v, ok, und, und, und, und, und, und, und, und, und, und, und, und, und, und, und, und, und, und, und, und, und, und, und, und, und, und, v, .int .i64 rs.length, .int .i64 (0 : Nat), und, und, und, und, und, und, und, und, und, und, und, und, und, und, und, und, und, und, und, und, und, und] X = lp (aCall T0) K_impl_scanRecs_0 L_impl_scanRecs_0 [und, und, und, und, v, ok, und, und, und, und, und, und, und, und, und, und, und, und, und, und, und, und, und, und, und, und, und, und, und, und, und, und, v, .int .i64 rs.length, .int .i64 rs.length, und, und, und, und, und, und, und, und, und, und, und, und, und, und, und, und, und, und, und, und, und, und] X') ∨
    ((∃ i, i < rs.length ∧ fr2 rs i = false) ∧ ∀ k, Sat (thenF M [.tmp 2, .tmp 3] (thenS (blockR 0 (lp (aCall T0) K_impl_scanRecs_0 L_impl_scanRecs_0 [und, und, und, und, v, ok, und, und, und, und, und, und, und, und, und, und, und, und, und, und, und, und, und, und, und, und, und, und, und, und, und, und, v, .int .i64 rs.length, .int .i64 (0 : Nat), und, und, und, und, und, und, und, und, und, und, und, und, und, und, und, und, und, und, und, und, und, und] X)) (aCall T0) k)) (RecsD M [] false)) := by
  have key := loop_st (call := aCall T0) (K := K_impl_scanRecs_0) (L := L_impl_scanRecs_0) (fun _ (_ : Unit) Y => X <+: Y) (fun i _ => [und, und, und, und, v, ok, und, und, und, und, und, und, und, und, und, und, und, und, und, und, und, und, und, und, und, und, und, und, und, und, und, und, v, .int .i64 rs.length, .int .i64 i, und, und, und, und, und, und, und, und, und, und, und, und, und, und, und, und, und, und, und, und, und, und]) (fr2 rs) (RecsD M [] false) (n := rs.length) (M0 := M) (rs := [.tmp 2, .tmp 3]) (k0 := 0) () X (List.prefix_refl _) ?_ ?_
  · rcases key with ⟨_, X', h0, h1, h2⟩ | h
    · exact .inl ⟨X', h0, h1, h2⟩
    · exact .inr h
  · intro i _ Y hi hq hY
    have s1 := fun (N : Mem) (w : List UInt8) => c_impl_recIndex (Y ++ N) v rs w (h.mono (hY.trans (List.prefix_append _ _))) hn
    obtain ⟨a, c, rfl⟩ := h.slen
    obtain ⟨l, o, rfl, _, q0, _⟩ := at_Rec (h.mono hY) hi
    have e6 : IntKind.i64.wrap ((i : Int) + 1) = i + 1 := wrap_i64 (by omega) (by omega)
    rw [fr2_get hi] at hq
    unfold frB at hq
    generalize rs[i] = r at q0 hq
    obtain ⟨r1, r2, r3, r4⟩ := r
    refine ⟨(), Y ++ [⟨enc_Rec (r1, r2, r3, r4), 1, 2⟩], hY.trans (List.prefix_append _ _), ?_⟩
    rw [Bool.and_eq_true] at hq
    obtain ⟨hd, hq⟩ := hq
    have hd := of_decide_eq_true hd
    simp only at hd
    subst hd
    cases r1 with
    | false =>
      rw [S_impl_scanRecs_0]; unfold B_impl_scanRecs_0; simp [thenD_pp, sliceCells_sl, sliceCells_z, sliceCells_nil, take_full, appS_sl, appK_ok, appS_none, thenD_ag, agP_nil, agP_cons, hi, q0, e6]
    | true =>
      simp only [Bool.true_and, Bool.not_eq_true', decide_eq_false_iff_not] at hq
      rw [S_impl_scanRecs_0]; unfold B_impl_scanRecs_0; simp [thenD_pp, sliceCells_sl, sliceCells_z, sliceCells_nil, take_full, appS_sl, appK_ok, appS_none, thenD_ag, agP_nil, agP_cons, hi, q0, s1, hq, e6]
  · intro i _ Y hi hq hY k
    have s1 := fun (N : Mem) (w : List UInt8) => c_impl_recIndex (Y ++ N) v rs w (h.mono (hY.trans (List.prefix_append _ _))) hn
    obtain ⟨a, c, rfl⟩ := h.slen
    obtain ⟨l, o, rfl, _, q0, _⟩ := at_Rec (h.mono hY) hi
    rw [fr2_get hi] at hq
    unfold frB at hq
    generalize rs[i] = r at q0 hq
    obtain ⟨r1, r2, r3, r4⟩ := r
    by_cases hd : (r2 : Int) = 0
    rotate_left
    · rw [S_impl_scanRecs_0]; unfold B_impl_scanRecs_0; simp [thenD_pp, sliceCells_sl, sliceCells_z, sliceCells_nil, take_full, appS_sl, appK_ok, appS_none, thenD_ag, agP_nil, agP_cons, hi, q0, hd]
      exact sat_some (recsD_nil (pf_app (hM.trans hY)))
    · have hd2 : decide (r2 = (0 : Int)) = true := decide_eq_true hd
      simp only [hd2, Bool.true_and, Bool.not_eq_false', Bool.and_eq_true, decide_eq_true_eq] at hq
      obtain ⟨rfl, hq⟩ := hq
      rw [S_impl_scanRecs_0]; unfold B_impl_scanRecs_0; simp [thenD_pp, sliceCells_sl, sliceCells_z, sliceCells_nil, take_full, appS_sl, appK_ok, appS_none, thenD_ag, agP_nil, agP_cons, hi, q0, hd, s1, hq]
      exact sat_some (recsD_nil (pf_app (hM.trans hY)))
theorem fr1_get {rs : List ty_Rec.D} {i : Nat} (hi : i < rs.length) : fr1 rs i = frB rs rs[i] i := by unfold fr1; rw [List.getElem?_eq_getElem hi]
theorem range_all2 {p : Nat → Bool} {n : Nat} (h : (List.range n).all p = true) : ∀ i, i < n → p i = true := fun i hi => List.all_eq_true.1 h i (List.mem_range.2 hi)
theorem fr2_all {cs : List ty_Cell.D} (hr : cs.all recR = true) : (List.range cs.length).all (fr2 (cs.map recX)) = (cs.all recOk && (List.range cs.length).all (fr1 (cs.map recX))) := by
  have hn : (cs.map recX).length = cs.length := List.length_map _
  rw [Bool.eq_iff_iff, Bool.and_eq_true]
  simp only [List.all_eq_true] at hr
  constructor
  · intro h
    have h := range_all2 h
    refine ⟨atB_all fun i hi => ?_, List.all_eq_true.2 fun i hi => ?_⟩
    · have := h i hi
      rw [fr2_get (by omega), Bool.and_eq_true] at this
      rw [atB_get _ hi]
      unfold recOk
      rw [hr _ (List.getElem_mem hi)]
      simpa using this.1
    · have hi := List.mem_range.1 hi
      have := h i hi
      rw [fr2_get (by omega), Bool.and_eq_true] at this
      rw [fr1_get (by omega)]
      exact this.2
  · intro ⟨h1, h2⟩
    have h2 := range_all2 h2
    simp only [List.all_eq_true] at h1
    refine List.all_eq_true.2 fun i hi => ?_
    have hi := List.mem_range.1 hi
    have q2 := h2 i hi
    rw [fr1_get (by omega)] at q2
    rw [fr2_get (by omega), q2, Bool.and_true]
    have := h1 _ (List.getElem_mem hi)
    unfold recOk at this
    rw [Bool.and_eq_true] at this
    simpa using this.2
theorem not_recR {cs : List ty_Cell.D} (h : cs.all recR = false) : cs.all recOk = false := by
  rw [List.all_eq_false] at h ⊢
  obtain ⟨c, hc, hq⟩ := h
  refine ⟨c, hc, ?_⟩
  unfold recOk
  simp only [Bool.not_eq_true] at hq
  rw [hq]
  simp
theorem c_impl_scanRecs (M : Mem) (cs : List V) (m : ty_Scan.D) (h : Rep ty_Scan M cs m) : Sat (aCall T0 F_impl_scanRecs [.agg cs.toArray] M) (RecsD M (scanR m) (scanB m)) := by
  have s1 := fun N : Mem => c_impl_isMem (M ++ N) cs m (h.mono (List.prefix_append _ _))
  have s2 := fun N : Mem => c_impl_recsOf (M ++ N) cs m (h.mono (List.prefix_append _ _))
  obtain ⟨a, b, c, d, rfl, r0, r1⟩ := mem_shape h
  have w1 := fun N : Mem => win_ok (M ++ N) m.2.1.length 1 64
  have hbad : ∀ x, scanB m = false → x = some (.tuple #[.slice none 0 0, .bool false], M ++ [⟨[.int .i64 m.1, .slice a m.2.1.length c, .slice b m.2.2.length d], 1, 2⟩]) → Sat x (RecsD M (scanR m) (scanB m)) := by
    intro x hb hx
    unfold scanR
    rw [hb, if_neg (by decide), hx]
    exact sat_some (recsD_nil (List.prefix_append _ _))
  cases h4 : memB m with
  | false =>
    refine hbad _ (by unfold scanB; rw [h4, Bool.and_false, Bool.false_and]) ?_
    rw [h4] at s1
    rw [aCall_eq T_impl_scanRecs]; unfold A_impl_scanRecs C_impl_scanRecs; simp [thenD_pp, sliceCells_sl, sliceCells_z, sliceCells_nil, take_full, appS_sl, appK_ok, appS_none, thenD_ag, agP_nil, agP_cons, s1]
  | true =>
  rw [h4] at s1
  by_cases h2 : 1 ≤ m.2.1.length ∧ m.2.1.length ≤ 64
  rotate_left
  · refine hbad _ (by unfold scanB; rw [decide_eq_false (fun q => h2 q.2), Bool.false_and, Bool.false_and]) ?_
    rw [decide_eq_false (by omega)] at w1
    rw [aCall_eq T_impl_scanRecs]; unfold A_impl_scanRecs C_impl_scanRecs; simp [thenD_pp, sliceCells_sl, sliceCells_z, sliceCells_nil, take_full, appS_sl, appK_ok, appS_none, thenD_ag, agP_nil, agP_cons, s1, w1]
  rw [decide_eq_true (by omega)] at w1
  by_cases h1 : (m.1 : Int) = 37
  rotate_left
  · refine hbad _ (by unfold scanB; rw [decide_eq_false (fun q => h1 q.1), Bool.false_and, Bool.false_and]) ?_
    rw [aCall_eq T_impl_scanRecs]; unfold A_impl_scanRecs C_impl_scanRecs; simp [thenD_pp, sliceCells_sl, sliceCells_z, sliceCells_nil, take_full, appS_sl, appK_ok, appS_none, thenD_ag, agP_nil, agP_cons, s1, w1, h1]
  have e0 : scanB m = (m.2.1.all recOk && (List.range m.2.1.length).all (fr1 (m.2.1.map recX))) := by
    unfold scanB
    rw [h4, decide_eq_true ⟨h1, h2⟩]
    rfl
  have nilD : ∀ {X : Mem}, M <+: X → scanB m = false → RecsD M (scanR m) (scanB m) (.tuple #[.slice none 0 0, .bool false], X) := by
    intro X hX hb
    unfold scanR
    rw [hb, if_neg (by decide)]
    exact recsD_nil hX
  clear hbad
  rw [aCall_eq T_impl_scanRecs]; unfold A_impl_scanRecs C_impl_scanRecs; simp [thenD_pp, sliceCells_sl, sliceCells_z, sliceCells_nil, take_full, appS_sl, appK_ok, appS_none, thenD_ag, agP_nil, agP_cons, s1, w1, eq_true h1]
  generalize hx : aCall T0 F_impl_recsOf _ _ = xhx
  obtain ⟨w2, X1, rfl, v, n, e1, p1, hn1, g1⟩ := of_call hx (s2 _ (by omega))
  clear hx
  simp only at e1
  subst e1
  have pM : M <+: X1 := (List.prefix_append _ _).trans p1
  unfold implR at hn1 g1
  cases h5 : m.2.1.all recR with
  | false =>
    rw [h5, if_neg (by decide)] at hn1 g1
    have hr := grow_Rec g1 hn1 (by simp)
    have hb : scanB m = false := by rw [e0, not_recR h5, Bool.false_and]
    have : scanR m = [] := by unfold scanR; rw [hb, if_neg (by decide)]
    rw [this, hb]
    simp only [List.length_nil] at hn1
    subst hn1
    obtain ⟨_, rfl⟩ := g1.shape
    simp [thenD_pp, sliceCells_sl, sliceCells_z, sliceCells_nil, take_full, appS_sl, appK_ok, appS_none, thenD_ag, agP_nil, agP_cons]
    rw [S_impl_scanRecs_0]; unfold B_impl_scanRecs_0; simp [thenD_pp, sliceCells_sl, sliceCells_z, sliceCells_nil, take_full, appS_sl, appK_ok, appS_none, thenD_ag, agP_nil, agP_cons]
    exact sat_some ⟨_, _, rfl, pM, rfl, g1.le (by simp)⟩
  | true =>
  rw [h5, if_pos rfl] at hn1 g1
  have hr := grow_Rec g1 hn1 recs_bd
  have hf := fr2_all h5
  rw [← e0] at hf
  have hn2 : (m.2.1.map recX).length = m.2.1.length := List.length_map _
  have hR : scanB m = true → scanR m = m.2.1.map recX := fun q => by unfold scanR; rw [if_pos q]
  rw [← hn2] at hf
  generalize m.2.1.map recX = rs at hn1 g1 hr hn2 hf hR
  obtain ⟨a1, rfl⟩ := g1.shape
  rw [← hn1] at hr g1 ⊢
  rcases l_impl_scanRecs_0 M X1 pM _ rs.length rs hr (by omega) (.inr rfl) (.bool true) with ⟨X', hX, ha, e⟩ | ⟨hb, e⟩
  · simp only [Int.natCast_zero, Int.ofNat_zero] at e
    rw [range_all ha] at hf
    rw [← hf, hR hf.symm]
    simp [thenD_pp, sliceCells_sl, sliceCells_z, sliceCells_nil, take_full, appS_sl, appK_ok, appS_none, thenD_ag, agP_nil, agP_cons, e]
    rw [S_impl_scanRecs_0]; unfold B_impl_scanRecs_0; simp [thenD_pp, sliceCells_sl, sliceCells_z, sliceCells_nil, take_full, appS_sl, appK_ok, appS_none, thenD_ag, agP_nil, agP_cons]
    exact sat_some ⟨_, _, rfl, pM.trans hX, rfl, (g1.pre hX).le (by simp)⟩
  · simp only [Int.natCast_zero, Int.ofNat_zero] at e
    obtain ⟨i, hi, hq⟩ := hb
    rw [range_not hi hq] at hf
    have : scanR m = [] := by unfold scanR; rw [← hf, if_neg (by decide)]
    rw [← hf, this]
    simp [thenD_pp, sliceCells_sl, sliceCells_z, sliceCells_nil, take_full, appS_sl, appK_ok, appS_none, thenD_ag, agP_nil, agP_cons]
    exact e _
def wfR (x : ty_Rec.D) : Prop := (Lit.int .i64 x.2.1).wf = true ∧ (Lit.int .i64 x.2.2.1).wf = true
theorem fl_Rec : FlatE ty_Rec enc_Rec wfR := ⟨fun M x h => ⟨[.bool x.1], [.int .i64 x.2.1, .int .i64 x.2.2.1, strV x.2.2.2], [], [], rfl, ⟨rfl, rfl⟩, ⟨[.int .i64 x.2.1], [.int .i64 x.2.2.1, strV x.2.2.2], [], [], rfl, ⟨⟨rfl, h.1⟩, rfl⟩, ⟨[.int .i64 x.2.2.1], [strV x.2.2.2], [], [], rfl, ⟨⟨rfl, h.2⟩, rfl⟩, ⟨rfl, rfl⟩, rfl⟩, rfl⟩, rfl⟩, fun M cs x h => by
  obtain ⟨_, _, rfl, rfl, ⟨_, _, rfl, ⟨rfl, w1⟩, ⟨_, _, rfl, ⟨rfl, w2⟩, rfl⟩⟩⟩ := h
  exact ⟨rfl, w1, w2⟩⟩
theorem gr_Mem {M : Mem} {x : ty_Mem.D} {u0 u1 : V} {L0 L1 : List Nat} (w0 : (Lit.int .i64 x.1).wf = true) (r0 : Gr (.sl ty_Cell) M [u0] x.2.1 L0) (r1 : Gr (.sl ty_Touch) M [u1] x.2.2 L1) : Gr ty_Mem M [.int .i64 x.1, u0, u1] x (L0 ++ L1) :=
  ⟨[.int .i64 x.1], [u0, u1], [], L0 ++ L1, rfl, ⟨⟨rfl, w0⟩, rfl⟩, ⟨[u0], [u1], L0, L1, rfl, r0, r1, rfl⟩, rfl⟩
def wf3 (x : ty_Touch.D) : Prop := (Lit.int .i64 x.1).wf = true ∧ (Lit.int .i64 x.2.1).wf = true ∧ (Lit.int .i64 x.2.2).wf = true
theorem fl_Touch : FlatE ty_Touch enc_Touch wf3 := ⟨fun M x h => ⟨[.int .i64 x.1], [.int .i64 x.2.1, .int .i64 x.2.2], [], [], rfl, ⟨⟨rfl, h.1⟩, rfl⟩, ⟨[.int .i64 x.2.1], [.int .i64 x.2.2], [], [], rfl, ⟨⟨rfl, h.2.1⟩, rfl⟩, ⟨⟨rfl, h.2.2⟩, rfl⟩, rfl⟩, rfl⟩, fun M cs x h => by
  obtain ⟨_, _, rfl, ⟨rfl, w1⟩, ⟨_, _, rfl, ⟨rfl, w2⟩, ⟨rfl, w3⟩⟩⟩ := h
  exact ⟨rfl, w1, w2, w3⟩⟩
/-- Sizes that a copy asks for. -/
def MemSz (m : ty_Mem.D) : Prop := m.2.1.length ≤ 128 ∧ m.2.2.length ≤ 6000 ∧ ∀ x ∈ m.2.1, x.length ≤ 1048576
theorem mem_wf {M : Mem} {cs : List V} {m : ty_Mem.D} (h : Rep ty_Mem M cs m) : (Lit.int .i64 m.1).wf = true := by
  obtain ⟨_, _, _, w, _⟩ := rep_g_Mem h
  exact w
def CpI (M : Mem) (m : ty_Mem.D) (p : Nat) (L1 : List Nat) (X : Mem) (u0 u1 : V) (xs : List ty_Cell.D) : Prop := ∃ L, M <+: X ∧ X[M.length + 1]? = some ⟨[.int .i64 0, .slice none 0 0, .slice none 0 0], 1, 2⟩ ∧ X[p]? = some ⟨[.int .i64 m.1, u0, u1], 1, 2⟩ ∧ Gr (.sl ty_Cell) X [u0] xs L ∧ L.Nodup ∧ (∀ l ∈ L, p < l) ∧ Gr (.sl ty_Touch) X [u1] m.2.2 L1
theorem fl_Byte : FlatE .u8 enc_Byte (fun _ => True) := ⟨fun M x _ => ⟨rfl, rfl⟩, fun M cs x h => ⟨h, trivial⟩⟩
theorem hits_ne {xs ys : List Nat} (h : ∀ x ∈ xs, ∀ y ∈ ys, x ≠ y) : hits xs ys = false := by
  unfold hits
  rw [List.any_eq_false]
  intro x hx
  simp only [Bool.not_eq_true]
  rw [List.any_eq_false]
  intro y hy
  have := h x hx y hy
  simp [this]
theorem l_impl_cloneMem_0 (M : Mem) (m : ty_Mem.D) (a : Option Addr) (c p : Nat) (L1 : List Nat) (h : Rep (.sl ty_Cell) M [.slice a m.2.1.length c] m.2.1) (hn : m.2.1.length ≤ 128) (hm : ∀ x ∈ m.2.1, x.length ≤ 1048576) (u0 u1 : V) (Z : Mem) (hp : M.length + 2 ≤ p) (hl2 : ∀ l ∈ L1, l < p) (hZ : CpI M m p L1 Z u0 u1 []) :
    ∃ u0' X', CpI M m p L1 X' u0' u1 m.2.1 ∧ lp (aCall T0) K_impl_cloneMem_0 L_impl_cloneMem_0 [und, und, .pointer (some ⟨M.length + 1, 0, none⟩), .pointer (some ⟨p, 0, none⟩), und, und, und, und, und, und, und, und, und, .slice a m.2.1.length c, .int .i64 m.2.1.length, .int .i64 (0 : Nat), und, und, und, und, und, und, und, und, und, und, und, und, und, und] Z = lp (aCall T0) K_impl_cloneMem_0 L_impl_cloneMem_0 [und, und, .pointer (some ⟨M.length + 1, 0, none⟩), .pointer (some ⟨p, 0, none⟩), und, und, und, und, und, und, und, und, und, .slice a m.2.1.length c, .int .i64 m.2.1.length, .int .i64 m.2.1.length, und, und, und, und, und, und, und, und, und, und, und, und, und, und] X' := by
  have key := loop_to (call := aCall T0) (K := K_impl_cloneMem_0) (L := L_impl_cloneMem_0) (fun i u0 X => CpI M m p L1 X u0 u1 (m.2.1.take i)) (fun i _ => [und, und, .pointer (some ⟨M.length + 1, 0, none⟩), .pointer (some ⟨p, 0, none⟩), und, und, und, und, und, und, und, und, und, .slice a m.2.1.length c, .int .i64 m.2.1.length, .int .i64 i, und, und, und, und, und, und, und, und, und, und, und, und, und, und]) (n := m.2.1.length) ?_ 0 u0 Z (by omega) (by simpa using hZ)
  · rw [List.take_length] at key
    exact key
  intro i u X hi hX
  obtain ⟨L, pX, b1, b2, g0, hnd, hge, g1⟩ := hX
  obtain ⟨l, o, w, rfl, _, q1, q3⟩ := at_Cell (h.mono pX) hi
  rw [List.take_succ_eq_append_getElem hi]
  have hlen : (m.2.1.take i).length = i := by rw [List.length_take]; omega
  generalize m.2.1.take i = xs at g0 hlen ⊢
  have hmc := hm _ (List.getElem_mem hi)
  generalize m.2.1[i] = cell at q3 hmc ⊢
  have e6 : IntKind.i64.wrap ((i : Int) + 1) = i + 1 := wrap_i64 (by omega) (by omega)
  have hlX := get_lt b2
  have s1 := clone_sl (M := X ++ [(⟨[w], 1, 2⟩ : Blk)]) T_bytes_Clone (t := .u8) fl_Byte rfl (q3.mono (List.prefix_append _ _)) (by omega) (by omega)
  have b2' := fun N : Mem => get_pre' (N := N) b2
  obtain ⟨_, _, rfl⟩ := q3.slen
  obtain ⟨a3, rfl⟩ := g0.shape
  rw [S_impl_cloneMem_0]; unfold B_impl_cloneMem_0; simp [thenD_pp, sliceCells_sl, sliceCells_z, sliceCells_nil, take_full, appS_sl, appK_ok, appS_none, thenD_ag, agP_nil, agP_cons, b2, b2', hi, q1, rd1_K, rdJ_ok]
  generalize hx : aCall T0 F_bytes_Clone _ _ = xhx
  obtain ⟨w1, X3, rfl, K2, p3', gb, ndb, geb⟩ := of_call hx s1
  clear hx
  simp only at p3' gb geb
  have p3 : X <+: X3 := (List.prefix_append _ _).trans p3'
  obtain ⟨a7, rfl⟩ := gb.shape
  have hwL : ∀ b ∈ wfs (.slice a3 xs.length xs.length), p < b := by
    obtain ⟨_, _, hw⟩ := g0.gr (K := 0) (by simp)
    exact fun b hb => hge b (hw b hb)
  have hh2 : ∀ ys : List Nat, (∀ y ∈ ys, y ≤ p) → hits (wfs (.slice a3 xs.length xs.length)) ys = false := fun ys hy => hits_ge (K := p + 1) (fun b hb => hwL b hb) (fun y h => by have := hy y h; omega)
  simp [thenD_pp, sliceCells_sl, sliceCells_z, sliceCells_nil, take_full, appS_sl, appK_ok, appS_none, thenD_ag, agP_nil, agP_cons, thenD_pre, p3', zeroCells]
  generalize hy : appS _ _ _ _ _ _ = xhy
  have hcg : Gr ty_Cell (X3 ++ [(⟨[.slice a7 (List.length (α := UInt8) cell) (List.length (α := UInt8) cell)], 1, 2⟩ : Blk)]) [.slice a7 (List.length (α := UInt8) cell) (List.length (α := UInt8) cell)] cell K2 := gb.grow (List.prefix_append _ _)
  obtain ⟨l4, X4, L', rfl, g4, ag2, len2, hw4, nd4, sub4, hl4⟩ := g0.app (t := ty_Cell) hy (p3.trans (List.prefix_append _ _)) hcg (fun l hl => by have := geb l hl; simp at this; omega) hnd ndb (by rw [hlen]; omega) (by rw [hlen]; omega)
  clear hy
  have hnw : ∀ j, j ≤ p → j ∉ wfs (.slice a3 xs.length xs.length) := fun j hj hm => by have := hwL j hm; omega
  have y1 := ag2.get (get_pre' (get_pre p3 b1)) (hnw _ (by omega))
  have y2 := ag2.get (get_pre' (get_pre p3 b2)) (hnw _ (Nat.le_refl _))
  have gl := (((g1.grow p3).grow (List.prefix_append X3 [(⟨[.slice a7 (List.length (α := UInt8) cell) (List.length (α := UInt8) cell)], 1, 2⟩ : Blk)])).agree ag2 (by
    intro j hj hm
    have := hwL j hm
    have := hl2 j hj
    omega))
  have pX4 : M <+: X4 := ag2.pre (pf_app (pX.trans p3)) (fun j hj => by have := hwL j hj; omega)
  have hgt : ∀ j ∈ L', p < j := fun j hj => by
    have hx3 := p3.length_le
    rcases sub4 j hj with h | h | h
    · exact hge j h
    · have := geb j h; simp at this; omega
    · simp at hl4; omega
  have hwX : ∀ b ∈ wfs (.slice a3 xs.length xs.length), b < X.length := by
    obtain ⟨_, _, hw⟩ := g0.gr (K := 0) (by simp)
    exact fun b hb => g0.lt b (hw b hb)
  have hh3 : hits (wfs (.slice a3 xs.length xs.length)) [X.length, p] = false := hits_ne fun x hx y hy e => by
    have := hwL x hx
    have := hwX x hx
    simp at hy
    omega
  simp [thenD_pp, sliceCells_sl, sliceCells_z, sliceCells_nil, take_full, appS_sl, appK_ok, appS_none, thenD_ag, agP_nil, agP_cons, y2, e6, thenD_agree, ag2, hh3, rd1_K, rdJ_ok, wrn_K, wrJ_ok]
  refine ⟨_, _, ⟨L', pf_set (by omega) pX4, ?_, gs_of y2 _, ?_, nd4, hgt, ?_⟩, rfl⟩
  · rw [gt_set (by omega)]; exact y1
  · exact g4.set _ (fun hm => by have := hgt _ hm; omega)
  · exact gl.set _ (fun hm => by have := hl2 _ hm; omega)
set_option maxHeartbeats 1000000 in
theorem c_impl_cloneMem (M : Mem) (cs : List V) (m : ty_Mem.D) (h : Rep ty_Mem M cs m) (hz : MemSz m) : Sat (aCall T0 F_impl_cloneMem [.agg cs.toArray] M) (GrD ty_Mem M m) := by
  have hw := mem_wf h
  obtain ⟨a, b, c, d, rfl, r0, r1⟩ := mem_shape h
  obtain ⟨z1, z2, z3⟩ := hz
  have s1 := fun N : Mem => clone_sl (M := M ++ N) T_slices_Clone_impl_Touch_impl_Touch (t := ty_Touch) fl_Touch rfl (r1.mono (List.prefix_append _ _)) (by omega) (by omega)
  rw [aCall_eq T_impl_cloneMem]; unfold A_impl_cloneMem C_impl_cloneMem; simp [thenD_pp, sliceCells_sl, sliceCells_z, sliceCells_nil, take_full, appS_sl, appK_ok, appS_none, thenD_ag, agP_nil, agP_cons]
  generalize hx : aCall T0 F_slices_Clone_impl_Touch_impl_Touch _ _ = xhx
  obtain ⟨u1, X3, rfl, L1, p3, g1, nd1, ge1⟩ := of_call hx (s1 _)
  clear hx
  simp only at p3 g1 ge1
  have b0 : X3[M.length]? = some ⟨[.int .i64 m.1, .slice a m.2.1.length c, .slice b m.2.2.length d], 1, 2⟩ := get_pre p3 (by simp)
  have b1 : X3[M.length + 1]? = some ⟨[.int .i64 0, .slice none 0 0, .slice none 0 0], 1, 2⟩ := get_pre p3 (by simp)
  have p3' : M <+: X3 := (List.prefix_append _ _).trans p3
  obtain ⟨a6, rfl⟩ := g1.shape
  simp [thenD_pp, sliceCells_sl, sliceCells_z, sliceCells_nil, take_full, appS_sl, appK_ok, appS_none, thenD_ag, agP_nil, agP_cons, thenD_pre, p3, zeroCells]
  have hZ : CpI M m X3.length L1 (X3 ++ [⟨[.int .i64 m.1, .slice none 0 0, .slice a6 m.2.2.length m.2.2.length], 1, 2⟩]) (.slice none 0 0) (.slice a6 m.2.2.length m.2.2.length) [] :=
    ⟨[], pf_app p3', get_pre' b1, by simp, Gr.nil, by simp, by simp, g1.grow (List.prefix_append _ _)⟩
  obtain ⟨u0', X', ⟨L, q1, q3, q4, q5, q6, q7, q8⟩, e⟩ := l_impl_cloneMem_0 M m a c X3.length L1 r0 z1 z3 (.slice none 0 0) (.slice a6 m.2.2.length m.2.2.length) _ (by have := get_lt b1; omega) (fun l hl => g1.lt l hl) hZ
  simp only [Int.natCast_zero, Int.ofNat_zero] at e
  have b0' := fun N : Mem => get_pre' (N := N) b0
  simp [thenD_pp, sliceCells_sl, sliceCells_z, sliceCells_nil, take_full, appS_sl, appK_ok, appS_none, thenD_ag, agP_nil, agP_cons, e, b0', rd1_K, rdJ_ok]
  obtain ⟨a5, rfl⟩ := q5.shape
  rw [S_impl_cloneMem_0]; unfold B_impl_cloneMem_0; simp [thenD_pp, sliceCells_sl, sliceCells_z, sliceCells_nil, take_full, appS_sl, appK_ok, appS_none, thenD_ag, agP_nil, agP_cons, q4, rd1_K, rdJ_ok]
  simp [thenD_pp, sliceCells_sl, sliceCells_z, sliceCells_nil, take_full, appS_sl, appK_ok, appS_none, thenD_ag, agP_nil, agP_cons, q3, q4, gs_of q3, rd1_K, rdJ_ok, rdn_K, rnJ_ok, wrn_K, wrJ_ok]
  have hlb := get_lt b1
  simp at ge1
  refine sat_some ⟨_, L ++ L1, rfl, pf_set (by omega) q1, ?_, ?_, ?_⟩
  · refine gr_Mem hw (q5.set _ fun hm => ?_) (q8.set _ fun hm => ?_)
    · have := q7 _ hm
      omega
    · have := ge1 _ hm
      omega
  · refine List.nodup_append.2 ⟨q6, nd1, fun x hx y hy e => ?_⟩
    have := q7 x hx
    have := g1.lt y hy
    omega
  · intro l hl
    rcases List.mem_append.1 hl with hl | hl
    · have := q7 l hl
      omega
    · have := ge1 l hl
      omega
def wrP (cells : List ty_Cell.D) (rs : List ty_Rec.D) (i : Nat) : List ty_Cell.D := (rs.take i).map recT ++ cells.drop i
theorem putR_len (rs : List ty_Rec.D) (op : Int) (e : ty_Entry.D) : (putR rs op e).length = rs.length := by
  unfold putR
  split <;> simp
theorem gr_wfs {t : Ty} {X : Mem} {u : V} {xs : List t.D} {L : List Nat} (h : Gr (.sl t) X [u] xs L) : ∀ b ∈ wfs u, b ∈ L := by
  obtain ⟨_, _, hw⟩ := h.gr (K := 0) (by simp)
  exact hw
theorem gc_np {M M' : Mem} {v : V} (h : ¬ M <+: M') : gc M (some (v, M')) = some (v, M') := by
  simp only [gc]
  rw [if_neg (fun q => h q.2)]
theorem c_impl_isEntry (M : Mem) (e : ty_Entry.D) (he : e.1.length ≤ 9223372036854775807) : aCall T0 F_impl_isEntry [.agg (enc_Entry e).toArray] M = some (.bool (entB e), M) := by
  unfold entB
  have h := fun M => c_impl_isWord M e.1 he
  rw [aCall_eq T_impl_isEntry]; unfold A_impl_isEntry C_impl_isEntry; simp [h, c_impl_within]
  repeat' ((first | rw [selO_some] | rw [condR_bool] | rw [selD_some]); split <;> rename_i hq <;> (have hq2 := hq) <;> (try simp at hq2) <;> (try simp [*, h, c_impl_within]))
theorem c_index_Rec (M : Mem) (v : V) (xs : List ty_Rec.D) (h : Rep (.sl ty_Rec) M [v] xs) (hn : xs.length ≤ 1048576) (e : ty_Rec.D) :
    aCall T0 F_slices_Index_impl_Rec_impl_Rec [v, .agg (enc_Rec e).toArray] M = some (.int .i64 (idx (isRe e) xs), M) := by
  have h' : Rep (.sl ty_Rec) (M ++ [⟨enc_Rec e, 1, 2⟩]) [v] xs := h.mono (List.prefix_append _ _)
  obtain ⟨a, c, rfl⟩ := h.slen
  have hr : ∀ i, (hi : i < xs.length) → isRe e xs[i] = false → lp (aCall T0) K_slices_Index_impl_Rec_impl_Rec_0 L_slices_Index_impl_Rec_impl_Rec_0 [.slice a xs.length c, und, und, .pointer (some ⟨M.length, 0, none⟩), und, und, und, .int .i64 xs.length, .int .i64 i, und, und, und, und, und, und, und, und, und, und] (M ++ [⟨enc_Rec e, 1, 2⟩]) =
      lp (aCall T0) K_slices_Index_impl_Rec_impl_Rec_0 L_slices_Index_impl_Rec_impl_Rec_0 [.slice a xs.length c, und, und, .pointer (some ⟨M.length, 0, none⟩), und, und, und, .int .i64 xs.length, .int .i64 (i + 1 : Nat), und, und, und, und, und, und, und, und, und, und] (M ++ [⟨enc_Rec e, 1, 2⟩]) := by
    intro i hi hq
    obtain ⟨l, o, rfl, hrep, hrd, _⟩ := at_Rec h' hi
    have e6 : IntKind.i64.wrap ((i : Int) + 1) = i + 1 := wrap_i64 (by omega) (by omega)
    unfold isRe at hq
    rw [S_slices_Index_impl_Rec_impl_Rec_0]; unfold B_slices_Index_impl_Rec_impl_Rec_0; simp [hrd, e6, hi, hq]
  rcases idx_cases (isRe e) xs with ⟨ha, h1⟩ | ⟨j, hj, ha, h1, h2⟩
  · have hc := chain (n := xs.length) fun i hi => hr i hi (h1 i hi)
    simp only [Int.natCast_zero, Int.ofNat_zero] at hc
    rw [ha]
    rw [aCall_eq T_slices_Index_impl_Rec_impl_Rec]; unfold A_slices_Index_impl_Rec_impl_Rec C_slices_Index_impl_Rec_impl_Rec; simp [hc]
    rw [S_slices_Index_impl_Rec_impl_Rec_0]; unfold B_slices_Index_impl_Rec_impl_Rec_0; simp
  · have hc := chain (n := j) fun i hi => hr i (by omega) (h1 i (by omega) hi)
    simp only [Int.natCast_zero, Int.ofNat_zero] at hc
    rw [ha]
    rw [aCall_eq T_slices_Index_impl_Rec_impl_Rec]; unfold A_slices_Index_impl_Rec_impl_Rec C_slices_Index_impl_Rec_impl_Rec; simp [hc]
    obtain ⟨l, o, rfl, hrep, hrd, _⟩ := at_Rec h' hj
    unfold isRe at h2
    rw [S_slices_Index_impl_Rec_impl_Rec_0]; unfold B_slices_Index_impl_Rec_impl_Rec_0; simp [hrd, hj, h2]
theorem c_impl_scanPlace (M : Mem) (v : V) (rs : List ty_Rec.D) (op : Int) (e : ty_Entry.D) (h : Rep (.sl ty_Rec) M [v] rs) (hn : rs.length ≤ 1048576) (he : e.1.length ≤ 9223372036854775807) :
    aCall T0 F_impl_scanPlace [v, .int .i64 op, .agg (enc_Entry e).toArray] M = some (.tuple #[.int .i64 (placeX rs op e).1, .int .i64 (placeX rs op e).2], M) := by
  have s1 := fun N : Mem => c_impl_isEntry (M ++ N) e he
  have s2 := fun N : Mem => c_impl_recIndex (M ++ N) v rs e.1 (h.mono (List.prefix_append _ _)) hn
  have s3 := fun N : Mem => c_index_Rec (M ++ N) v rs (h.mono (List.prefix_append _ _)) hn zRec
  have s3 : ∀ N : Mem, aCall T0 F_slices_Index_impl_Rec_impl_Rec [v, .agg #[.bool false, .int .i64 0, .int .i64 0, .string ⟨#[]⟩]] (M ++ N) = some (.int .i64 (idx (isRe zRec) rs), M ++ N) := s3
  obtain ⟨a, c, rfl⟩ := h.slen
  unfold placeX
  generalize idx (isRe zRec) rs = f at s3 ⊢
  generalize idx (liveW e.1) rs = k at s2 ⊢
  cases h1 : entB e with
  | false =>
    rw [h1] at s1
    rw [aCall_eq T_impl_scanPlace]; unfold A_impl_scanPlace C_impl_scanPlace; simp [thenD_pp, sliceCells_sl, sliceCells_z, sliceCells_nil, take_full, appS_sl, appK_ok, appS_none, thenD_ag, agP_nil, agP_cons, s1]
  | true =>
  rw [h1] at s1
  by_cases h3 : op = 3
  · subst h3
    by_cases h4 : 0 ≤ k
    · rw [aCall_eq T_impl_scanPlace]; unfold A_impl_scanPlace C_impl_scanPlace; simp [thenD_pp, sliceCells_sl, sliceCells_z, sliceCells_nil, take_full, appS_sl, appK_ok, appS_none, thenD_ag, agP_nil, agP_cons, s1, s2, h4]
    · by_cases h5 : f < 0
      · rw [aCall_eq T_impl_scanPlace]; unfold A_impl_scanPlace C_impl_scanPlace; simp [thenD_pp, sliceCells_sl, sliceCells_z, sliceCells_nil, take_full, appS_sl, appK_ok, appS_none, thenD_ag, agP_nil, agP_cons, s1, s2, h4, s3, h5]
      · rw [aCall_eq T_impl_scanPlace]; unfold A_impl_scanPlace C_impl_scanPlace; simp [thenD_pp, sliceCells_sl, sliceCells_z, sliceCells_nil, take_full, appS_sl, appK_ok, appS_none, thenD_ag, agP_nil, agP_cons, s1, s2, h4, s3, h5]
  · by_cases h4 : k < 0
    · rw [aCall_eq T_impl_scanPlace]; unfold A_impl_scanPlace C_impl_scanPlace; simp [thenD_pp, sliceCells_sl, sliceCells_z, sliceCells_nil, take_full, appS_sl, appK_ok, appS_none, thenD_ag, agP_nil, agP_cons, s1, s2, h3, h4]
    · rw [aCall_eq T_impl_scanPlace]; unfold A_impl_scanPlace C_impl_scanPlace; simp [thenD_pp, sliceCells_sl, sliceCells_z, sliceCells_nil, take_full, appS_sl, appK_ok, appS_none, thenD_ag, agP_nil, agP_cons, s1, s2, h3, h4]
theorem logP_len (sz : Int) (log : List ty_Touch.D) : ∀ i, (logP sz log i).length = log.length + 2 * i
  | 0 => by simp [logP]
  | i + 1 => by simp [logP, logP_len sz log i]; omega
/-- The boxed memory while it is written. -/
def PSt (M : Mem) (p : Nat) (sz : Int) (u0 : V) (L : List Nat) (cells : List ty_Cell.D) (log : List ty_Touch.D) (X : Mem) : Prop := ∃ u1 L0 L1, X[p]? = some ⟨[.int .i64 sz, u0, u1], 1, 2⟩ ∧ Gr (.sl ty_Cell) X [u0] cells L0 ∧ Gr (.sl ty_Touch) X [u1] log L1 ∧ (L0 ++ L1).Nodup ∧ (∀ j ∈ L0 ++ L1, j ∈ L ∨ M.length ≤ j) ∧ Agree M X (p :: L)
theorem get_some_lt {cs : List V} {o : Nat} {v : V} (h : cs[o]? = some v) : o < cs.length := (List.getElem?_eq_some_iff.1 h).1
/-- What a read leaves. -/
def RdD (X : Mem) (p q w : Nat) (cs : List V) (sz : Int) (u0 : V) (log : List ty_Touch.D) (L1 : List Nat) (i : Nat) (r : V × Mem) : Prop := ∃ l L', r.2[p]? = some ⟨cs.set (q + 2) (.slice (some ⟨l, 0, none⟩) (log.length + 1) (log.length + 1)), w, 2⟩ ∧ Gr (.sl ty_Touch) r.2 [.slice (some ⟨l, 0, none⟩) (log.length + 1) (log.length + 1)] (log ++ [((1 : Int), (i : Int), sz)]) L' ∧ L'.Nodup ∧ (∀ j ∈ L', j ∈ L1 ∨ X.length ≤ j) ∧ Agree X r.2 (p :: L1) ∧ ∃ (l2 o2 : Nat), (∃ a c, u0 = .slice (some ⟨l2, o2, none⟩) a c) ∧ rd1 X l2 (o2 + i) = some r.1
theorem c_impl_Mem_read (X : Mem) (p q w : Nat) (cs : List V) (sz : Int) (u0 u1 : V) (cells : List ty_Cell.D) (log : List ty_Touch.D) (L1 : List Nat) (i : Nat) (hb : X[p]? = some ⟨cs, w, 2⟩) (h0 : cs[q]? = some (.int .i64 sz)) (h1 : cs[q + 1]? = some u0) (h2 : cs[q + 2]? = some u1)
    (g0 : Rep (.sl ty_Cell) X [u0] cells) (g1 : Gr (.sl ty_Touch) X [u1] log L1) (nd : L1.Nodup) (hp : p ∉ L1) (hi : i < cells.length) (hl : log.length ≤ 1048576) (hn : cells.length ≤ 1048576) (hw : (Lit.int .i64 sz).wf = true)
    (hk : ∀ (l o : Nat) (a c : Nat), u0 = .slice (some ⟨l, o, none⟩) a c → l ∉ L1 ∧ l ≠ p) :
    Sat (aCall T0 F_impl_Mem_read [.pointer (some ⟨p, q, none⟩), .int .i64 i] X) (RdD X p q w cs sz u0 log L1 i) := by
  have hwf := gr_wfs g1
  have e0 : rd1 X p q = some (.int .i64 sz) := by rw [rd1_K, hb, rdJ_ok]; exact h0
  have e2 : rd1 X p (q + 2) = some u1 := by rw [rd1_K, hb, rdJ_ok]; exact h2
  obtain ⟨a, c, rfl⟩ := g0.slen
  obtain ⟨l2, o2, u, rfl, q1, _, qr⟩ := at_Cell g0 hi
  obtain ⟨a9, c9, hu⟩ := qr.slen
  obtain ⟨hk1, hk2⟩ := hk l2 o2 _ _ rfl
  have hqlt := get_some_lt h2
  obtain ⟨a3, rfl⟩ := g1.shape
  have hh : hits (wfs (.slice a3 log.length log.length)) [p, p] = false := hits_ne fun x hx y hy e => by
    simp at hy
    subst hy
    subst e
    exact hp (hwf _ hx)
  rw [aCall_eq T_impl_Mem_read]; unfold A_impl_Mem_read C_impl_Mem_read; simp [thenD_pp, sliceCells_sl, sliceCells_z, sliceCells_nil, take_full, appS_sl, appK_ok, appS_none, thenD_ag, agP_nil, agP_cons, e0, e2, zeroCells]
  generalize hy : appS _ _ _ _ _ _ = xhy
  have hpX := List.prefix_append X [(⟨enc_Touch ((1 : Int), (i : Int), sz), 3, 2⟩ : Blk)]
  have hnew : Gr ty_Touch (X ++ [(⟨enc_Touch ((1 : Int), (i : Int), sz), 3, 2⟩ : Blk)]) (enc_Touch ((1 : Int), (i : Int), sz)) ((1 : Int), (i : Int), sz) [] := fl_Touch.1 _ _ ⟨show (Lit.int .i64 1).wf = true by decide, show (Lit.int .i64 (i : Int)).wf = true from wf_range (by omega), hw⟩
  have hy' : appS (X ++ [(⟨enc_Touch ((1 : Int), (i : Int), sz), 3, 2⟩ : Blk)]) ty_Touch.w 24 (.slice a3 log.length log.length) 1 (enc_Touch ((1 : Int), (i : Int), sz)) = xhy := hy
  obtain ⟨l4, X4, L', rfl, g4, ag2, len2, hw4, nd4, sub4, hl4⟩ := g1.app hy' hpX hnew (by simp) nd (by simp) (by omega) (by omega)
  clear hy hy'
  have hnw : ∀ j, j ∉ L1 → j ∉ wfs (.slice a3 log.length log.length) := fun j hj hm => hj (hwf _ hm)
  have y2 := ag2.get (get_pre hpX hb) (hnw _ hp)
  have y0 : rd1 X4 l2 (o2 + i) = some u := by
    have : rd1 (X ++ [(⟨enc_Touch ((1 : Int), (i : Int), sz), 3, 2⟩ : Blk)]) l2 (o2 + i) = some u := rd1_old q1
    rw [← this]
    exact rd1_eq (ag2.2 l2 (by have := rd1_lt this; exact this) (hnw _ hk1))
  have y3 : rd1 X4 p (q + 1) = some (.slice (some ⟨l2, o2, none⟩) cells.length c) := by rw [rd1_K, y2, rdJ_ok]; exact h1
  have e5 : q + 2 + 1 ≤ cs.length := by omega
  have e6 : ∀ v : V, List.take (q + 2) cs ++ v :: List.drop (q + 2 + 1) cs = cs.set (q + 2) v := fun v => by rw [List.set_eq_take_append_cons_drop, if_pos hqlt]
  have e7 : ∀ v : V, (cs.set (q + 2) v)[q + 1]? = some (.slice (some ⟨l2, o2, none⟩) cells.length c) := fun v => by rw [List.getElem?_set_ne (by omega)]; exact h1
  have e8 : ∀ b : Blk, (X4.set p b)[l2]? = X4[l2]? := fun b => gt_set (Ne.symm hk2)
  rw [rd1_K] at y0
  simp [thenD_pp, sliceCells_sl, sliceCells_z, sliceCells_nil, take_full, appS_sl, appK_ok, appS_none, thenD_ag, agP_nil, agP_cons, thenD_agree, ag2, hh, wrn_K, y2, wrJ_ok, e5, e6, rd1_K, gs_of y2, rdJ_ok, e7, hi, e8, y0]
  rw [hu]
  simp [thenD_pp, sliceCells_sl, sliceCells_z, sliceCells_nil, take_full, appS_sl, appK_ok, appS_none, thenD_ag, agP_nil, agP_cons]
  have hag : Agree X X4 (p :: L1) := by
    refine ⟨by have := ag2.1; simp at this; omega, fun j hj hn => ?_⟩
    simp at hn
    rw [ag2.2 j (by simp; omega) (hnw j hn.2), List.getElem?_append_left hj]
  refine sat_some ⟨l4, L', gs_of y2 _, g4.set _ (fun hm => ?_), nd4, fun j hj => ?_, ?_, l2, o2, ⟨_, _, rfl⟩, ?_⟩
  · rcases sub4 p hm with h | h | h
    · exact hp h
    · simp at h
    · have := get_lt hb
      simp at hl4
      omega
  · rcases sub4 j hj with h | h | h
    · exact .inl h
    · simp at h
    · simp at hl4
      exact .inr (by omega)
  · refine ⟨by rw [List.length_set]; exact hag.1, fun j hj hn => ?_⟩
    rw [gt_set (fun e => hn (by simp [e]))]
    exact hag.2 j hj hn
  · rw [← hu]
    exact q1
theorem rep_flat_keep {t : Ty} {enc : t.D → List V} {P : t.D → Prop} (hf : FlatE t enc P) {X Z : Mem} {v : V} {xs : List t.D} (h : Rep (.sl t) X [v] xs) (hk : ∀ l o n c, v = .slice (some ⟨l, o, none⟩) n c → Z[l]? = X[l]?) : Rep (.sl t) Z [v] xs := by
  rcases h with h | ⟨l, o, c, blk, css, e, h2, h3, h4, h5, h6, h7⟩
  · exact .inl h
  · have e2 := e
    simp only [List.cons.injEq, and_true] at e2
    refine .inr ⟨l, o, c, blk, css, e, by rw [hk l o _ c e2, h2], h3, h4, h5, fun i ds x hd hx => ?_, h7⟩
    obtain ⟨q1, q2⟩ := hf.2 X ds x (h6 i ds x hd hx)
    rw [q1]
    exact (hf.1 Z x q2).rep
/-- What a write leaves. -/
def WrD (X : Mem) (p q w : Nat) (cs : List V) (sz : Int) (u0 : V) (cells : List ty_Cell.D) (log : List ty_Touch.D) (L0 L1 : List Nat) (i : Nat) (ys : List UInt8) (r : V × Mem) : Prop := ∃ l L0' L1', r.2[p]? = some ⟨cs.set (q + 2) (.slice (some ⟨l, 0, none⟩) (log.length + 1) (log.length + 1)), w, 2⟩ ∧ Gr (.sl ty_Cell) r.2 [u0] (cells.set i ys) L0' ∧ Gr (.sl ty_Touch) r.2 [.slice (some ⟨l, 0, none⟩) (log.length + 1) (log.length + 1)] (log ++ [((2 : Int), (i : Int), sz)]) L1' ∧ (L0' ++ L1').Nodup ∧ (∀ j ∈ L0' ++ L1', j ∈ L0 ++ L1 ∨ X.length ≤ j) ∧ Agree X r.2 (p :: L0 ++ L1)
theorem c_impl_Mem_write (X : Mem) (p q w : Nat) (cs : List V) (sz : Int) (u0 u1 v : V) (cells : List ty_Cell.D) (log : List ty_Touch.D) (ys : List UInt8) (L0 L1 : List Nat) (i : Nat) (hb : X[p]? = some ⟨cs, w, 2⟩) (h0 : cs[q]? = some (.int .i64 sz)) (h1 : cs[q + 1]? = some u0) (h2 : cs[q + 2]? = some u1)
    (g0 : Gr (.sl ty_Cell) X [u0] cells L0) (g1 : Gr (.sl ty_Touch) X [u1] log L1) (nd : (L0 ++ L1).Nodup) (hp : p ∉ L0 ++ L1) (hi : i < cells.length) (hl : log.length ≤ 1048576) (hn : cells.length ≤ 1048576) (hw : (Lit.int .i64 sz).wf = true)
    (hv : Rep (.sl ty_Byte) X [v] ys) (hvd : ∀ l o n c, v = .slice (some ⟨l, o, none⟩) n c → l ∉ L0 ++ L1 ∧ l ≠ p) (hys : ys.length ≤ 1048576) :
    Sat (aCall T0 F_impl_Mem_write [.pointer (some ⟨p, q, none⟩), .int .i64 i, v] X) (WrD X p q w cs sz u0 cells log L0 L1 i ys) := by
  have hwf := gr_wfs g1
  have e0 : rd1 X p q = some (.int .i64 sz) := by rw [rd1_K, hb, rdJ_ok]; exact h0
  have e2 : rd1 X p (q + 2) = some u1 := by rw [rd1_K, hb, rdJ_ok]; exact h2
  have hqlt := get_some_lt h2
  have hn3 := List.nodup_append.1 nd
  simp only [List.mem_append, not_or] at hp
  obtain ⟨a3, rfl⟩ := g1.shape
  have hh : hits (wfs (.slice a3 log.length log.length)) [p, p] = false := hits_ne fun x hx y hy e => by
    simp at hy
    subst hy
    subst e
    exact hp.2 (hwf _ hx)
  rw [aCall_eq T_impl_Mem_write]; unfold A_impl_Mem_write C_impl_Mem_write; simp [thenD_pp, sliceCells_sl, sliceCells_z, sliceCells_nil, take_full, appS_sl, appK_ok, appS_none, thenD_ag, agP_nil, agP_cons, e0, e2, zeroCells]
  generalize hy : appS _ _ _ _ _ _ = xhy
  have hpX := List.prefix_append X [(⟨enc_Touch ((2 : Int), (i : Int), sz), 3, 2⟩ : Blk)]
  have hnew : Gr ty_Touch (X ++ [(⟨enc_Touch ((2 : Int), (i : Int), sz), 3, 2⟩ : Blk)]) (enc_Touch ((2 : Int), (i : Int), sz)) ((2 : Int), (i : Int), sz) [] := fl_Touch.1 _ _ ⟨show (Lit.int .i64 2).wf = true by decide, show (Lit.int .i64 (i : Int)).wf = true from wf_range (by omega), hw⟩
  have hy' : appS (X ++ [(⟨enc_Touch ((2 : Int), (i : Int), sz), 3, 2⟩ : Blk)]) ty_Touch.w 24 (.slice a3 log.length log.length) 1 (enc_Touch ((2 : Int), (i : Int), sz)) = xhy := hy
  obtain ⟨l4, X4, L', rfl, g4, ag2, len2, hw4, nd4, sub4, hl4⟩ := g1.app hy' hpX hnew (by simp) hn3.2.1 (by simp) (by omega) (by omega)
  clear hy hy'
  have hlX := get_lt hb
  have hnw : ∀ j, j ∉ L1 → j ∉ wfs (.slice a3 log.length log.length) := fun j hj hm => hj (hwf _ hm)
  have y2 := ag2.get (get_pre hpX hb) (hnw _ hp.2)
  have hdis : ∀ j ∈ L0, j ∉ L1 := fun j hj hm => hn3.2.2 j hj j hm rfl
  have g0' := ((g0.grow hpX).agree ag2 (fun j hj => hnw _ (hdis j hj)))
  have hpL' : p ∉ L' := fun hm => by
    rcases sub4 p hm with h | h | h
    · exact hp.2 h
    · simp at h
    · simp at hl4; omega
  have e5 : q + 2 + 1 ≤ cs.length := by omega
  have e6 : ∀ v : V, List.take (q + 2) cs ++ v :: List.drop (q + 2 + 1) cs = cs.set (q + 2) v := fun v => by rw [List.set_eq_take_append_cons_drop, if_pos hqlt]
  have e7 : ∀ v : V, (cs.set (q + 2) v)[q + 1]? = some u0 := fun v => by rw [List.getElem?_set_ne (by omega)]; exact h1
  simp [thenD_pp, sliceCells_sl, sliceCells_z, sliceCells_nil, take_full, appS_sl, appK_ok, appS_none, thenD_ag, agP_nil, agP_cons, thenD_agree, ag2, hh, wrn_K, y2, wrJ_ok, e5, e6, rd1_K, gs_of y2, rdJ_ok, e7]
  generalize hx : aCall T0 F_bytes_Clone _ _ = xhx
  generalize hZ : (List.set X4 p ⟨cs.set (q + 2) (.slice (some ⟨l4, 0, none⟩) (log.length + 1) (log.length + 1)), w, 2⟩ : Mem) = Z at hx ⊢
  have hZl : Z.length = X4.length := by rw [← hZ, List.length_set]
  have yZ : Z[p]? = some ⟨cs.set (q + 2) (.slice (some ⟨l4, 0, none⟩) (log.length + 1) (log.length + 1)), w, 2⟩ := by rw [← hZ]; exact gs_of y2 _
  have hZn : ∀ j, j ≠ p → Z[j]? = X4[j]? := fun j hj => by rw [← hZ]; exact gt_set (Ne.symm hj)
  have g0Z : Gr (.sl ty_Cell) Z [u0] cells L0 := g0'.keep fun j hj => hZn j (fun e => hp.1 (e ▸ hj))
  have g4Z := g4.keep (M' := Z) fun j hj => hZn j (fun e => hpL' (e ▸ hj))
  have hvZ : Rep (.sl ty_Byte) Z [v] ys := rep_flat_keep fl_Byte hv fun l o n c e => by
    obtain ⟨d1, d2⟩ := hvd l o n c e
    simp only [List.mem_append, not_or] at d1
    have hlx : l < X.length := by
      subst e
      obtain ⟨blk, hbk, _⟩ := rep_blk hv
      exact get_lt hbk
    rw [hZn l d2, ag2.2 l (by simp; omega) (hnw _ d1.2), List.getElem?_append_left hlx]
  obtain ⟨v', X5, rfl, Kc, p5, gc5, ndc, gec⟩ := of_call hx (clone_sl (M := Z) T_bytes_Clone (t := .u8) fl_Byte rfl hvZ (by omega) (by omega))
  clear hx
  simp only at p5 gc5 gec
  obtain ⟨a7, rfl⟩ := gc5.shape
  have g05 := g0Z.grow p5
  have g45 := g4Z.grow p5
  have y5 := get_pre p5 yZ
  have hcd : ∀ j ∈ Kc, j ∉ L0 := fun j hj hm => by
    have := gec j hj
    have := g0Z.lt j hm
    omega
  obtain ⟨l0, cs0, L0', rfl, z1, z2, z3, z4, z5, z6⟩ := g05.put (t := ty_Cell) hi gc5 hcd hn3.1 ndc
  have hl0p : l0 ≠ p := fun e => hp.1 (e ▸ z3)
  have z1 : X5[l0]? = some ⟨cs0, 1, 2⟩ := z1
  have z2 : i + 1 ≤ cs0.length := by simpa [Ty.w] using z2
  have o5 := one_head gc5.one
  have e9 : ∀ b : Blk, (X5.set l0 b)[p]? = X5[p]? := fun b => gt_set hl0p
  have hh9 : hits [l0] [p] = false := hits_ne fun x hx y hy e => by
    simp at hx hy
    omega
  have hh8 : hits [] [p] = false := rfl
  simp [thenD_pp, sliceCells_sl, sliceCells_z, sliceCells_nil, take_full, appS_sl, appK_ok, appS_none, thenD_ag, agP_nil, agP_cons, thenD_pre, p5, hi, z1, z2, o5, rd1_K, rdJ_ok, wrn_K, wrJ_ok]
  have e10 : splice cs0 (i * ty_Cell.w) [.slice a7 ys.length ys.length] = List.take i cs0 ++ Value.slice a7 ys.length ys.length :: List.drop (i + 1) cs0 := by simp [splice, Ty.w]
  rw [e10] at z4
  have hXX4 : X.length < X4.length := by simp at len2; omega
  have hl4' : X.length < l4 := by simp at hl4; omega
  have hl4X : ∀ j ∈ L', j < X4.length := fun j hj => g4.lt j hj
  have hl0X : l0 < X.length := g0.lt l0 z3
  have hnp : ¬ X <+: X5.set l0 ⟨List.take i cs0 ++ Value.slice a7 ys.length ys.length :: List.drop (i + 1) cs0, 1, 2⟩ := fun hpre => by
    have h1 := get_pre hpre hb
    rw [gt_set hl0p, y5] at h1
    simp only [Option.some.injEq, Blk.mk.injEq, and_true] at h1
    have h3 := h2
    rw [← h1, List.getElem?_set_self hqlt] at h3
    simp at h3
  rw [gc_np hnp]
  refine sat_some ⟨l4, L0', L', ?_, z4, g45.set _ (fun hm => ?_), ?_, fun j hj => ?_, ?_⟩
  · rw [gt_set hl0p]; exact y5
  · rcases sub4 l0 hm with h | h | h
    · exact hdis l0 z3 h
    · simp at h
    · omega
  · refine List.nodup_append.2 ⟨z5, nd4, fun x hx y hy e => ?_⟩
    subst e
    have h8 := hl4X x hy
    rcases z6 x hx with h | h
    · have := g0.lt x h
      rcases sub4 x hy with h2 | h2 | h2
      · exact hdis x h h2
      · simp at h2
      · omega
    · have := gec x h
      omega
  · rcases List.mem_append.1 hj with hj | hj
    · rcases z6 j hj with h | h
      · exact .inl (List.mem_append_left _ h)
      · have := gec j h
        exact .inr (by omega)
    · rcases sub4 j hj with h | h | h
      · exact .inl (List.mem_append_right _ h)
      · simp at h
      · exact .inr (by omega)
  · refine ⟨by rw [List.length_set]; have := p5.length_le; omega, fun j hj hn => ?_⟩
    simp only [List.cons_append, List.mem_cons, List.mem_append, not_or] at hn
    have hjl : l0 ≠ j := fun e => hn.2.1 (e ▸ z3)
    rw [gt_set hjl]
    have e11 : X5[j]? = Z[j]? := by
      obtain ⟨r, rfl⟩ := p5
      rw [List.getElem?_append_left (by omega)]
    rw [e11, hZn j hn.1, ag2.2 j (by simp; omega) (hnw j hn.2.2), List.getElem?_append_left hj]
theorem wrP_len {cells : List ty_Cell.D} {rs : List ty_Rec.D} (h : rs.length = cells.length) {i : Nat} (hi : i ≤ rs.length) : (wrP cells rs i).length = cells.length := by
  unfold wrP
  simp
  omega
theorem wrP_succ {cells : List ty_Cell.D} {rs : List ty_Rec.D} (h : rs.length = cells.length) {i : Nat} (hi : i < rs.length) : (wrP cells rs i).set i (recT rs[i]) = wrP cells rs (i + 1) := by
  unfold wrP
  have hl : ((rs.take i).map recT).length = i := by rw [List.length_map, List.length_take]; omega
  rw [List.set_append_right _ _ (by omega), hl, Nat.sub_self, List.take_succ_eq_append_getElem hi, List.map_append, List.append_assoc]
  congr 1
  have hd : ∀ (cs : List ty_Cell.D) (i : Nat), i < cs.length → ∀ y, (cs.drop i).set 0 y = [y] ++ cs.drop (i + 1) := fun cs i h y => by
    rw [List.drop_eq_getElem_cons h]
    rfl
  exact hd cells i (by omega) _
theorem l_impl_Scan_put_0 (M : Mem) (p : Nat) (sz : Int) (u0 v : V) (L : List Nat) (cells : List ty_Cell.D) (log : List ty_Touch.D) (rs : List ty_Rec.D) (rep : V) (hv : Rep (.sl ty_Rec) M [v] rs) (hvd : ∀ l o n c, v = .slice (some ⟨l, o, none⟩) n c → l ∉ p :: L) (hp : p < M.length) (hpL : p ∉ L) (hr : ∀ r ∈ rs, recB r = true) (hn : rs.length = cells.length) (hn2 : rs.length ≤ 64) (hl : log.length ≤ 6000) (hw : (Lit.int .i64 sz).wf = true) (Z : Mem) (hZ : PSt M p sz u0 L cells log Z) :
    ∃ X', PSt M p sz u0 L (wrP cells rs rs.length) (logP sz log rs.length) X' ∧ lp (aCall T0) K_impl_Scan_put_0 L_impl_Scan_put_0 [.pointer (some ⟨p, 0, none⟩), und, und, und, und, und, und, und, und, und, und, rep, und, und, und, und, und, und, und, und, und, und, und, und, und, und, und, und, und, und, und, und, und, und, und, und, und, und, und, und, und, und, und, und, und, und, und, und, und, und, und, und, und, und, v, .int .i64 rs.length, .int .i64 (0 : Nat), und, und, und, und, und, und, und, und, und, und, und, und, und, und, und, und, und, und] Z = lp (aCall T0) K_impl_Scan_put_0 L_impl_Scan_put_0 [.pointer (some ⟨p, 0, none⟩), und, und, und, und, und, und, und, und, und, und, rep, und, und, und, und, und, und, und, und, und, und, und, und, und, und, und, und, und, und, und, und, und, und, und, und, und, und, und, und, und, und, und, und, und, und, und, und, und, und, und, und, und, und, v, .int .i64 rs.length, .int .i64 rs.length, und, und, und, und, und, und, und, und, und, und, und, und, und, und, und, und, und, und] X' := by
  have key := loop_to (call := aCall T0) (K := K_impl_Scan_put_0) (L := L_impl_Scan_put_0) (fun i (_ : Unit) X => PSt M p sz u0 L (wrP cells rs i) (logP sz log i) X) (fun i _ => [.pointer (some ⟨p, 0, none⟩), und, und, und, und, und, und, und, und, und, und, rep, und, und, und, und, und, und, und, und, und, und, und, und, und, und, und, und, und, und, und, und, und, und, und, und, und, und, und, und, und, und, und, und, und, und, und, und, und, und, und, und, und, und, v, .int .i64 rs.length, .int .i64 i, und, und, und, und, und, und, und, und, und, und, und, und, und, und, und, und, und, und]) (n := rs.length) ?_ 0 () Z (by omega) (by unfold wrP logP; simpa using hZ)
  · obtain ⟨_, X', h1, h2⟩ := key
    exact ⟨X', h1, h2⟩
  intro i _ X hi hX
  obtain ⟨u1, L0, L1, b2, g0, g1, nd, hsub, hag⟩ := hX
  rw [← wrP_succ hn hi]
  have hcl := wrP_len (cells := cells) hn (i := i) (by omega)
  have hll := logP_len sz log i
  have e6 : IntKind.i64.wrap ((i : Int) + 1) = i + 1 := wrap_i64 (by omega) (by omega)
  unfold logP
  generalize wrP cells rs i = cs at g0 hcl ⊢
  generalize logP sz log i = lg at g1 hll ⊢
  have hvX : Rep (.sl ty_Rec) X [v] rs := by
    refine rep_flat_keep fl_Rec hv fun l o n c e => ?_
    refine hag.2 l ?_ (hvd l o n c e)
    subst e
    obtain ⟨blk, hbk, _⟩ := rep_blk hv
    exact get_lt hbk
  have hri := hr _ (List.getElem_mem hi)
  obtain ⟨_, c, rfl⟩ := hvX.slen
  obtain ⟨l, o, rfl, _, q0, _⟩ := at_Rec hvX hi
  generalize rs[i] = r at q0 hri ⊢
  have hpn : p ∉ L0 ++ L1 := fun hm => by
    rcases hsub p hm with h | h
    · exact hpL h
    · omega
  have hpX := List.prefix_append X [(⟨enc_Rec r, 1, 2⟩ : Blk)]
  have s1 := c_impl_Mem_read (X ++ [(⟨enc_Rec r, 1, 2⟩ : Blk)]) p 0 1 [.int .i64 sz, u0, u1] sz u0 u1 cs lg L1 i (get_pre hpX b2) rfl rfl rfl (g0.rep.mono hpX) (g1.grow hpX) (List.nodup_append.1 nd).2.1 (fun hm => hpn (List.mem_append_right _ hm)) (by omega) (by omega) (by omega) hw (fun l2 o2 a c e => by
    subst e
    obtain ⟨a3, e3⟩ := g0.shape
    have hm : l2 ∈ L0 := gr_wfs g0 _ (by simp [wfs])
    exact ⟨fun h => (List.nodup_append.1 nd).2.2 l2 hm l2 h rfl, fun e => hpn (List.mem_append_left _ (e ▸ hm))⟩)
  rw [S_impl_Scan_put_0]; unfold B_impl_Scan_put_0; simp [thenD_pp, sliceCells_sl, sliceCells_z, sliceCells_nil, take_full, appS_sl, appK_ok, appS_none, thenD_ag, agP_nil, agP_cons, hi, q0]
  generalize hx : aCall T0 F_impl_Mem_read _ _ = xhx
  obtain ⟨w1, X1, rfl, l4, L1', y1, y2, y3, y4, y5, _⟩ := of_call hx s1
  clear hx
  simp only at y1 y2 y5
  have hbx : X1[X.length]? = some ⟨enc_Rec r, 1, 2⟩ := y5.get (by simp) (by
    simp only [List.mem_cons, not_or]
    exact ⟨fun e => by have := get_lt b2; omega, fun hm => by have := g1.lt _ hm; omega⟩)
  have hrec := c_impl_recOf X1 r hri
  have hXM : M.length ≤ X.length := hag.1
  have hpLt := get_lt b2
  have y5l : X.length < X1.length := by have := y5.1; simp at this; omega
  have hL0 : ∀ j ∈ L0, j < X.length ∧ j ∉ p :: L1 := fun j hj => ⟨g0.lt j hj, by
    simp only [List.mem_cons, not_or]
    exact ⟨fun e => hpn (List.mem_append_left _ (e ▸ hj)), fun hm => (List.nodup_append.1 nd).2.2 j hj j hm rfl⟩⟩
  have g01 := (g0.grow hpX).agree y5 (fun j hj => (hL0 j hj).2)
  simp [thenD_pp, sliceCells_sl, sliceCells_z, sliceCells_nil, take_full, appS_sl, appK_ok, appS_none, thenD_ag, agP_nil, agP_cons, hbx, rd1_K, rdJ_ok, rdn_K, rnJ_ok]
  generalize hx : aCall T0 F_impl_recOf _ _ = xhx
  obtain ⟨v2, X2, rfl, n2, hn3, p2, gb⟩ := of_call hx hrec
  clear hx
  obtain ⟨K2, gb2, _, hk2⟩ := grow_gr (t := .u8) fl_Byte (xs := recT r) (by rw [flat_Byte]; exact gb) hn3 (by simp)
  have hsub' : ∀ j ∈ L1', j ∈ L1 ∨ X.length < j := fun j hj => by
    rcases y4 j hj with h | h
    · exact .inl h
    · simp at h; exact .inr (by omega)
  have nd2 : (L0 ++ L1').Nodup := by
    refine List.nodup_append.2 ⟨(List.nodup_append.1 nd).1, y3, fun a ha b hb e => ?_⟩
    subst e
    rcases hsub' a hb with h | h
    · exact (List.nodup_append.1 nd).2.2 a ha a h rfl
    · have := (hL0 a ha).1
      omega
  have hpn2 : p ∉ L0 ++ L1' := fun hm => by
    rcases List.mem_append.1 hm with h | h
    · exact hpn (List.mem_append_left _ h)
    · rcases hsub' p h with h | h
      · exact hpn (List.mem_append_right _ h)
      · omega
  have s2 := c_impl_Mem_write X2 p 0 1 [.int .i64 sz, u0, .slice (some ⟨l4, 0, none⟩) (lg.length + 1) (lg.length + 1)] sz u0 (.slice (some ⟨l4, 0, none⟩) (lg.length + 1) (lg.length + 1)) v2 cs (lg ++ [((1 : Int), (i : Int), sz)]) (recT r) L0 L1' i (get_pre p2 y1) rfl rfl rfl (g01.grow p2) (y2.grow p2) nd2 hpn2 (by omega) (by simp; omega) (by omega) hw gb2.rep (fun l o n c e => by
    subst e
    have := hk2 l (gr_wfs gb2 _ (by simp [wfs]))
    refine ⟨fun hm => ?_, by omega⟩
    rcases List.mem_append.1 hm with h | h
    · have := (hL0 l h).1; omega
    · have := y2.lt l h; omega) (by rw [recT_len]; omega)
  simp [thenD_pp, sliceCells_sl, sliceCells_z, sliceCells_nil, take_full, appS_sl, appK_ok, appS_none, thenD_ag, agP_nil, agP_cons, thenD_pre, p2]
  generalize hx : aCall T0 F_impl_Mem_write _ _ = xhx
  obtain ⟨w3, X3, rfl, l5, L0', L1'', z1, z2, z3, z4, z5, z6⟩ := of_call hx s2
  clear hx
  simp only at z1 z2 z3 z6
  have hl23 : X2.length ≤ X3.length := z6.1
  simp [thenD_pp, sliceCells_sl, sliceCells_z, sliceCells_nil, take_full, appS_sl, appK_ok, appS_none, thenD_ag, agP_nil, agP_cons, thenD_cl, hl23, e6]
  rw [show lg ++ [((1 : Int), (i : Int), sz), ((2 : Int), (i : Int), sz)] = (lg ++ [((1 : Int), (i : Int), sz)]) ++ [((2 : Int), (i : Int), sz)] by simp]
  have h12 : X1.length ≤ X2.length := p2.length_le
  have hsub3 : ∀ j ∈ L0 ++ L1', j ∈ L ∨ M.length ≤ j := fun j hj => by
    rcases List.mem_append.1 hj with h | h
    · exact hsub j (List.mem_append_left _ h)
    · rcases hsub' j h with h | h
      · exact hsub j (List.mem_append_right _ h)
      · exact .inr (by omega)
  refine ⟨X3, ⟨_, L0', L1'', z1, z2, z3, z4, fun j hj => ?_, ?_⟩, rfl⟩
  · rcases z5 j hj with h | h
    · exact hsub3 j h
    · exact .inr (by omega)
  · refine ⟨by omega, fun j hj hn => ?_⟩
    simp only [List.mem_cons, not_or] at hn
    have hjn : j ∉ p :: L0 ++ L1' := fun hm => by
      rcases List.mem_cons.1 hm with h | h
      · exact hn.1 h
      · rcases hsub3 j h with h | h
        · exact hn.2 h
        · omega
    have hjn2 : j ∉ p :: L1 := fun hm => by
      rcases List.mem_cons.1 hm with h | h
      · exact hn.1 h
      · rcases hsub j (List.mem_append_right _ h) with h | h
        · exact hn.2 h
        · omega
    have e2 : X2[j]? = X1[j]? := by
      obtain ⟨t, rfl⟩ := p2
      rw [List.getElem?_append_left (by omega)]
    rw [z6.2 j (by omega) hjn, e2, y5.2 j (by simp; omega) hjn2, List.getElem?_append_left (by omega)]
    exact hag.2 j hj (by simp only [List.mem_cons, not_or]; exact hn)
theorem idx_range {α : Type} (p : α → Bool) (xs : List α) : idx p xs < 0 ∨ ∃ j : Nat, idx p xs = j ∧ j < xs.length := by
  rcases idx_cases p xs with ⟨ha, _⟩ | ⟨j, hj, ha, _⟩
  · left; omega
  · exact .inr ⟨j, ha, hj⟩
theorem place_cases (rs : List ty_Rec.D) (op : Int) (e : ty_Entry.D) : (placeX rs op e).2 ≠ 0 ∨ ((placeX rs op e).2 = 0 ∧ entB e = true ∧ ∃ j : Nat, (placeX rs op e).1 = j ∧ j < rs.length) := by
  unfold placeX
  cases h1 : entB e with
  | false => left; simp
  | true =>
    rw [if_neg (by simp)]
    by_cases h2 : op ≠ 3 ∧ idx (liveW e.1) rs < 0
    · rw [if_pos h2]; left; decide
    rw [if_neg h2]
    by_cases h3 : op ≠ 3
    · rw [if_pos h3]
      rcases idx_range (liveW e.1) rs with h | h
      · exact absurd ⟨h3, h⟩ h2
      · exact .inr ⟨rfl, rfl, h⟩
    rw [if_neg h3]
    by_cases h4 : 0 ≤ idx (liveW e.1) rs
    · rw [if_pos h4]; left; decide
    rw [if_neg h4]
    by_cases h5 : idx (isRe zRec) rs < 0
    · rw [if_pos h5]; left; decide
    rw [if_neg h5]
    rcases idx_range (isRe zRec) rs with h | h
    · exact absurd h h5
    · exact .inr ⟨rfl, rfl, h⟩
theorem now_ok {op : Int} {e : ty_Entry.D} (h : entB e = true) : recB (nowX op e) = true := by
  unfold nowX
  split
  · rfl
  · unfold recB
    unfold entB at h
    simp only [Bool.and_eq_true, decide_eq_true_eq] at h
    obtain ⟨h1, h2, h3⟩ := h
    simp [h1, h2, h3]
theorem putR_ok {rs : List ty_Rec.D} {op : Int} {e : ty_Entry.D} (h : ∀ r ∈ rs, recB r = true) : ∀ r ∈ putR rs op e, recB r = true := by
  unfold putR
  split
  · rename_i hc
    rcases place_cases rs op e with hp | ⟨_, he, _⟩
    · exact absurd hc.2 hp
    · intro r hr
      rcases List.mem_or_eq_of_mem_set hr with hr | rfl
      · exact h r hr
      · exact now_ok he
  · exact h
/-- What put leaves. -/
def PutD (M : Mem) (p : Nat) (sz : Int) (u0 : V) (L : List Nat) (cells : List ty_Cell.D) (log : List ty_Touch.D) (rs : List ty_Rec.D) (op : Int) (e : ty_Entry.D) (r : V × Mem) : Prop :=
  r.1 = .tuple #[.int .i64 (putC rs op e), .int .i64 0] ∧ PSt M p sz u0 L (wrP cells (putR rs op e) rs.length) (logP sz log rs.length) r.2
theorem put_end {M Z X' : Mem} {p : Nat} {sz : Int} {u0 : V} {L L' : List Nat} {cells : List ty_Cell.D} {log : List ty_Touch.D} (h : PSt Z p sz u0 L' cells log X') (hMZ : ∀ j, j < M.length → j ∉ p :: L → Z[j]? = M[j]?) (hl : M.length ≤ Z.length) (hL : ∀ j ∈ L', j ∈ L ∨ M.length ≤ j) : PSt M p sz u0 L cells log X' := by
  obtain ⟨u1', L0, L1, q1, q2, q3, q4, q5, q6⟩ := h
  refine ⟨u1', L0, L1, q1, q2, q3, q4, fun j hj => ?_, by have := q6.1; omega, fun j hj hn => ?_⟩
  · rcases q5 j hj with h | h
    · exact hL j h
    · exact .inr (by omega)
  · simp only [List.mem_cons, not_or] at hn
    rw [q6.2 j (by omega) (fun hm => by
      rcases List.mem_cons.1 hm with h | h
      · exact hn.1 h
      · rcases hL j h with h | h
        · exact hn.2 h
        · omega)]
    exact hMZ j hj (by simp only [List.mem_cons, not_or]; exact hn)
theorem put_np {M X' : Mem} {p : Nat} {sz : Int} {u0 : V} {a1 : Option Addr} {L : List Nat} {cells : List ty_Cell.D} {log log' : List ty_Touch.D} (hb : M[p]? = some ⟨[.int .i64 sz, u0, .slice a1 log.length log.length], 1, 2⟩) (h : PSt M p sz u0 L cells log' X') (hl : log.length < log'.length) : ¬ M <+: X' := fun hp => by
  obtain ⟨u1', L0, L1, q1, q2, q3, _⟩ := h
  obtain ⟨a, rfl⟩ := q3.shape
  have := get_pre hp hb
  rw [q1] at this
  simp at this
  omega
end GoAm
