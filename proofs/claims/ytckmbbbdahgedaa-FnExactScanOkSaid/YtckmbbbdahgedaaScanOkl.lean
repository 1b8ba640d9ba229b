/- What the functions do that the law reaches; and the law. -/
import Derived.Test.YtckmbbbdahgedaaScanOkt
import Derived.Test.YtckmbbbdahgedaaAmGr
set_option autoImplicit false
set_option linter.unusedVariables false
set_option linter.unusedSimpArgs false
namespace GoAm
open Go
abbrev ty_Cell : Ty := .sl .u8
abbrev ty_Touch : Ty := .pr (.int .i64) (.pr (.int .i64) (.int .i64))
instance d_Touch : DecidableEq ty_Touch.D := Ty.deq ty_Touch
abbrev ty_Mem : Ty := .pr (.int .i64) (.pr (.sl ty_Cell) (.sl ty_Touch))
abbrev ty_Scan : Ty := ty_Mem
theorem own_g_Mem {M : Mem} {cs : List V} {x : ty_Mem.D} {L : List Nat} (h : Own ty_Mem M cs x L) : ∃ (u0 u1 : V) (L0 L1 : List Nat), cs = [.int .i64 x.1, u0, u1] ∧ (Lit.int .i64 x.1).wf = true ∧ Own (.sl ty_Cell) M [u0] x.2.1 L0 ∧ Own (.sl ty_Touch) M [u1] x.2.2 L1 ∧ L = L0 ++ L1 := by
  obtain ⟨c0, d0, K0, J0, rfl, h0, h, rfl⟩ := h
  obtain ⟨⟨rfl, w0⟩, rfl⟩ := h0
  obtain ⟨c1, d1, K1, J1, rfl, h1, h, rfl⟩ := h
  obtain ⟨u0, rfl⟩ : ∃ u, c1 = [u] := by
    have l0 := Rep.len ((h1).rep)
    exact List.length_eq_one_iff.1 l0
  have r0 := h1
  obtain ⟨u1, rfl⟩ : ∃ u, d1 = [u] := by
    have l1 := Rep.len ((h).rep)
    exact List.length_eq_one_iff.1 l1
  have r1 := h
  exact ⟨u0, u1, _, _, rfl, w0, r0, r1, by simp⟩
theorem mkrep_g_Mem {M : Mem} {x : ty_Mem.D} {u0 u1 : V} (w0 : (Lit.int .i64 x.1).wf = true) (r0 : Rep (.sl ty_Cell) M [u0] x.2.1) (r1 : Rep (.sl ty_Touch) M [u1] x.2.2) : Rep ty_Mem M [.int .i64 x.1, u0, u1] x := by
  exact ⟨[.int .i64 x.1], ([u0] ++ [u1]), rfl, ⟨rfl, w0⟩, ⟨[u0], ([u1]), rfl, r0, r1⟩⟩
theorem rep_g_Mem {M : Mem} {cs : List V} {x : ty_Mem.D} (h : Rep ty_Mem M cs x) : ∃ u0 u1 : V, cs = [.int .i64 x.1, u0, u1] ∧ (Lit.int .i64 x.1).wf = true ∧ Rep (.sl ty_Cell) M [u0] x.2.1 ∧ Rep (.sl ty_Touch) M [u1] x.2.2 := by
  obtain ⟨c0, d0, rfl, h0, h⟩ := h
  obtain ⟨rfl, w0⟩ := h0
  obtain ⟨c1, d1, rfl, h1, h⟩ := h
  obtain ⟨u0, rfl⟩ : ∃ u, c1 = [u] := by
    have l0 := Rep.len (h1)
    exact List.length_eq_one_iff.1 l0
  have r0 := h1
  obtain ⟨u1, rfl⟩ : ∃ u, d1 = [u] := by
    have l1 := Rep.len (h)
    exact List.length_eq_one_iff.1 l1
  have r1 := h
  exact ⟨u0, u1, rfl, w0, r0, r1⟩
theorem mkown_g_Mem {M : Mem} {x : ty_Mem.D} {u0 u1 : V} {L0 L1 : List Nat} (w0 : (Lit.int .i64 x.1).wf = true) (r0 : Own (.sl ty_Cell) M [u0] x.2.1 L0) (r1 : Own (.sl ty_Touch) M [u1] x.2.2 L1) : Own ty_Mem M [.int .i64 x.1, u0, u1] x (L0 ++ L1) := by
  have h : Own ty_Mem M [.int .i64 x.1, u0, u1] x _ := ⟨[.int .i64 x.1], ([u0] ++ [u1]), _, _, rfl, ⟨⟨rfl, w0⟩, rfl⟩, ⟨[u0], ([u1]), _, _, rfl, r0, r1, rfl⟩, rfl⟩
  simpa only [List.append_nil, List.nil_append, List.append_assoc] using h
abbrev enc_Touch (x : ty_Touch.D) : List V := [.int .i64 x.1, .int .i64 x.2.1, .int .i64 x.2.2]
theorem own_Touch (M : Mem) (x : ty_Touch.D) (h0 : (Lit.int .i64 x.1).wf = true) (h1 : (Lit.int .i64 x.2.1).wf = true) (h2 : (Lit.int .i64 x.2.2).wf = true) : Own ty_Touch M (enc_Touch x) x [] := ⟨[.int .i64 x.1], [.int .i64 x.2.1, .int .i64 x.2.2], [], [], rfl, ⟨⟨rfl, h0⟩, rfl⟩, ⟨[.int .i64 x.2.1], [.int .i64 x.2.2], [], [], rfl, ⟨⟨rfl, h1⟩, rfl⟩, ⟨⟨rfl, h2⟩, rfl⟩, rfl⟩, rfl⟩
theorem rown_Touch {M : Mem} {x : ty_Touch.D} (h : Rep ty_Touch M (enc_Touch x) x) : Own ty_Touch M (enc_Touch x) x [] := by
  obtain ⟨_, _, _, ⟨_, w1⟩, c3, c4, _, ⟨_, w2⟩, ⟨_, w3⟩⟩ := h
  exact own_Touch M x w1 w2 w3
theorem rep_Touch {M : Mem} {cs : List V} {x : ty_Touch.D} (h : Rep ty_Touch M cs x) : cs = enc_Touch x := by
  obtain ⟨_, _, rfl, ⟨rfl, _⟩, ⟨_, _, rfl, ⟨rfl, _⟩, ⟨rfl, _⟩⟩⟩ := h
  rfl
theorem c_laws_toTouch_f (M : Mem) (x : ty_Touch.D) : aCall T0 F_laws_toTouch [.agg (enc_Touch x).toArray] M = some (.agg (enc_Touch x).toArray, M) := by
  rw [aCall_eq T_laws_toTouch]; unfold A_laws_toTouch C_laws_toTouch; simp
theorem k_laws_toTouch : ToF T0 ty_Touch F_laws_toTouch := fun M cs x h hb => by
  obtain rfl := rep_Touch h
  exact ⟨M, _, [], List.prefix_refl _, c_laws_toTouch_f M x, rown_Touch h, by simp, by simp⟩
def z_Touch : List V := [(.int .i64 0), (.int .i64 0), (.int .i64 0)]
theorem k_laws_toTouchS : ToS T0 ty_Touch F_laws_toTouchS := to_sl (w := 3) (bytes := 24) (zero := z_Touch) T_laws_toTouchS rfl rfl rfl (by decide) k_laws_toTouch
abbrev ty_Byte : Ty := .u8
theorem rep_g_Cell {M : Mem} {cs : List V} {x : ty_Cell.D} (h : Rep ty_Cell M cs x) : ∃ u0 : V, cs = [u0] ∧ Rep (.sl ty_Byte) M [u0] x := by
  obtain ⟨u0, rfl⟩ : ∃ u, cs = [u] := by
    have l0 := Rep.len (h)
    exact List.length_eq_one_iff.1 l0
  have r0 := h
  exact ⟨u0, rfl, r0⟩
theorem mkown_g_Cell {M : Mem} {x : ty_Cell.D} {u0 : V} {L0 : List Nat} (r0 : Own (.sl ty_Byte) M [u0] x L0) : Own ty_Cell M [u0] x (L0) := by
  have h : Own ty_Cell M [u0] x _ := r0
  simpa only [List.append_nil, List.nil_append, List.append_assoc] using h
theorem nodup_flat {t : Ty} (hf : ∀ (M : Mem) (cs : List V) (x : t.D) (K : List Nat), Own t M cs x K → K = []) {M : Mem} {v : V} {xs : List t.D} {L : List Nat} (h : Own (.sl t) M [v] xs L) : L.Nodup := by
  rcases own_flat hf h with ⟨_, rfl, _⟩ | ⟨l, _, _, _, _, _, _, _, _, _, rfl⟩ <;> simp
theorem ownf_Byte (M : Mem) (cs : List V) (x : ty_Byte.D) (K : List Nat) (h : Own ty_Byte M cs x K) : K = [] := h.2
abbrev enc_Byte (x : ty_Byte.D) : List V := [byteV x]
def z_Byte : List V := [.int .u8 0]
theorem at_Byte {M : Mem} {a : Option Addr} {n c : Nat} {xs : List ty_Byte.D} (h : Rep (.sl ty_Byte) M [.slice a n c] xs) {i : Nat} (hi : i < xs.length) : ∃ l o, a = some ⟨l, o, none⟩ ∧ Rep ty_Byte M (enc_Byte xs[i]) xs[i] ∧ rd1 M l (o + i) = some (byteV xs[i]) := by
  obtain ⟨_, l, o, rfl, cs, hrd, hrep⟩ := rep_at h hi
  have hcs : cs = enc_Byte xs[i] := hrep
  subst hcs
  have hw1 : ty_Byte.w = 1 := rfl
  rw [hw1, Nat.mul_one] at hrd
  exact ⟨l, o, rfl, hrep, rd1_of_one hrd⟩
theorem r_laws_toByteS (M : Mem) (a : Option Addr) (c : Nat) (xs : List ty_Byte.D) (h : Rep (.sl ty_Byte) M [.slice a xs.length c] xs) (hn : xs.length ≤ 1048576) (i : Nat) (hi : i < xs.length) :
    lp (aCall T0) K_laws_toByteS_0 L_laws_toByteS_0 [.slice a xs.length c, und, und, .slice (some ⟨M.length, 0, none⟩) xs.length xs.length, .int .i64 i, und, und, und, und, und, und, und, und, und, und, und, und, und, und, und, und, und] (M ++ [⟨tcells enc_Byte z_Byte xs i, 1, 2⟩]) =
    lp (aCall T0) K_laws_toByteS_0 L_laws_toByteS_0 [.slice a xs.length c, und, und, .slice (some ⟨M.length, 0, none⟩) xs.length xs.length, .int .i64 (i + 1 : Nat), und, und, und, und, und, und, und, und, und, und, und, und, und, und, und, und, und] (M ++ [⟨tcells enc_Byte z_Byte xs (i + 1), 1, 2⟩]) := by
  obtain ⟨l, o, rfl, hrep, hrd⟩ := at_Byte h hi
  have hrd2 : rd1 (M ++ [⟨tcells enc_Byte z_Byte xs i, 1, 2⟩]) l (o + i) = some (byteV xs[i]) := rd1_old hrd
  have e2 := tcells_len (enc := enc_Byte) (z := z_Byte) (xs := xs) (fun x _ => rfl) (i := i) (by omega)
  have e3 := tcells_step (enc := enc_Byte) (z := z_Byte) (xs := xs) (fun x _ => rfl) hi
  have e4 : z_Byte.length = 1 := rfl
  rw [e4, Nat.mul_one] at e2 e3
  have e5 : i + 1 ≤ xs.length := by omega
  have e6 : IntKind.i64.wrap ((i : Int) + 1) = i + 1 := wrap_i64 (by omega) (by omega)
  unfold splice at e3
  simp at e3
  rw [S_laws_toByteS_0]; unfold B_laws_toByteS_0; simp [hrd2, e2, e3, e5, e6, hi]
theorem c_laws_toByteS (M : Mem) (v : V) (xs : List ty_Byte.D) (h : Rep (.sl ty_Byte) M [v] xs) (hn : xs.length ≤ 1048576) :
    aCall T0 F_laws_toByteS [v] M = some (.slice (some ⟨M.length, 0, none⟩) xs.length xs.length, M ++ [⟨(xs.map enc_Byte).flatten, 1, 2⟩]) := by
  obtain ⟨a, c, rfl⟩ := h.slen
  have hl := chain (g := fun i : Nat => lp (aCall T0) K_laws_toByteS_0 L_laws_toByteS_0 [.slice a xs.length c, und, und, .slice (some ⟨M.length, 0, none⟩) xs.length xs.length, .int .i64 i, und, und, und, und, und, und, und, und, und, und, und, und, und, und, und, und, und] (M ++ [⟨tcells enc_Byte z_Byte xs i, 1, 2⟩])) (n := xs.length) fun i hi => r_laws_toByteS M a c xs h hn i hi
  simp only [Int.natCast_zero, Int.ofNat_zero, tcells_zero, tcells_full] at hl
  unfold z_Byte at hl
  simp only [zeroCells_zc] at hl
  have e1 : (xs.length : Int) ≤ 281474976710656 := by omega
  have e2 : (xs.length : Int) ≤ 9223372036854775807 := by omega
  rw [aCall_eq T_laws_toByteS]; unfold A_laws_toByteS C_laws_toByteS; simp [e1, e2]
  rw [hl]
  rw [S_laws_toByteS_0]; unfold B_laws_toByteS_0; simp
theorem own_Byte (M : Mem) (x : ty_Byte.D) : Own ty_Byte M (enc_Byte x) x [] := ⟨rfl, rfl⟩
theorem d_laws_toByteS (M : Mem) (v : V) (xs : List ty_Byte.D) (h : Rep (.sl ty_Byte) M [v] xs) (hn : xs.length ≤ 1048576) : ∃ M' u L, M <+: M' ∧ aCall T0 F_laws_toByteS [v] M = some (u, M') ∧ Own (.sl ty_Byte) M' [u] xs L ∧ ∀ l ∈ L, M.length ≤ l ∧ l < M'.length := by
  have e := c_laws_toByteS M v xs h hn
  obtain ⟨L, o1, o2⟩ := own_blk (t := ty_Byte) (M := M ++ [⟨(xs.map enc_Byte).flatten, 1, 2⟩]) (l := M.length) (c := xs.length) (enc := enc_Byte) (ys := xs) (by simp; rfl) (fun y _ => own_Byte _ y)
  exact ⟨_, _, L, List.prefix_append _ _, e, o1, fun l hl => by rw [o2 l hl]; simp⟩
theorem k_laws_toByteS : ToS T0 ty_Byte F_laws_toByteS := fun M v xs h hb => by
  obtain ⟨M', u, L, p, e, o, f⟩ := d_laws_toByteS M v xs h hb.1
  exact ⟨M', u, L, p, e, o, nodup_flat ownf_Byte o, f⟩
set_option maxHeartbeats 4000000 in
theorem k_laws_toCell : ToF T0 ty_Cell F_laws_toCell := by
  intro M cs x h hb
  obtain ⟨u0, rfl, r0⟩ := rep_g_Cell h
  have i0 := one_head r0.one
  show ToG ty_Cell M x _
  rw [aCall_eq T_laws_toCell]; unfold A_laws_toCell C_laws_toCell; simp [thenD_pp, sliceCells_sl, sliceCells_z, sliceCells_nil, take_full, appS_sl, appK_ok, appS_none, thenD_ag, agP_nil, agP_cons, i0]
  generalize hx1 : aCall T0 F_laws_toByteS _ _ = x_1
  obtain ⟨M1, v0, K1, rfl, p1, o1, F1⟩ := ToS.at k_laws_toByteS hx1 (r0.mono (List.prefix_append _ _)) hb
  have f1 := F1.2
  clear hx1
  have b0_1 : M1[M.length]? = some ⟨[u0], 1, 2⟩ := get_pre p1 (by simp)
  have b1_1 : M1[M.length + 1]? = some ⟨[(.slice none 0 0)], 1, 2⟩ := get_pre p1 (by simp)
  have b2_1 : M1[M.length + 2]? = some ⟨[(.slice none 0 0)], 1, 2⟩ := get_pre p1 (by simp)
  have l_1 := get_lt b2_1
  have y1 : M <+: M1 := (List.prefix_append _ _).trans p1
  simp only [List.length_append, List.length_cons, List.length_nil] at f1
  have z1 : M <+: M1.set (M.length + 2) ⟨[v0], 1, 2⟩ := pf_set (by omega) y1
  have q1 := one_head (o1.rep.one)
  have qc1 := cells_sl o1
  have hb1 : (M1.set (M.length + 2) ⟨[v0], 1, 2⟩)[M.length + 1]? = some ⟨[(.slice none 0 0)], 1, 2⟩ := by simp [b1_1]
  have g1 := ((o1.set (b2 := ⟨[v0], 1, 2⟩) b2_1 rfl (fun hm => by have := f1 _ hm; omega)).set (b2 := ⟨[v0], 1, 2⟩) hb1 rfl (fun hm => by have := f1 _ hm; omega))
  have hh := mkown_g_Cell (x := x) g1
  try simp only [List.append_assoc] at hh
  obtain ⟨_, _, rfl⟩ := o1.rep.slen
  have gs2 : ∀ B C : Blk, ((M1.set (M.length + 2) B).set (M.length + 1) C)[M.length + 1]? = some C := fun B C => List.getElem?_set_self (by rw [List.length_set]; omega)
  simp [thenD_pp, sliceCells_sl, sliceCells_z, sliceCells_nil, take_full, appS_sl, appK_ok, appS_none, thenD_ag, agP_nil, agP_cons, b0_1, b1_1, b2_1, gs_of b2_1, gs2, rd1_K, rdJ_ok, rdn_K, rnJ_ok, wrn_K, wrJ_ok]
  refine ⟨_, _, K1, ?_, rfl, ?_, ?_⟩
  · exact pf_set (by omega) (pf_set (by omega) y1)
  · first | exact hh | (simp only [List.append_assoc]; exact hh)
  · refine ⟨F1.1, fun l hl => ?_⟩
    have := F1.2 l hl
    simp only [List.length_append, List.length_cons, List.length_nil, List.length_set] at this ⊢
    omega
theorem k_laws_toCellS : ToS T0 ty_Cell F_laws_toCellS := to_sl (w := 1) (bytes := 24) (zero := [.slice none 0 0]) T_laws_toCellS rfl rfl rfl (by decide) k_laws_toCell
set_option maxHeartbeats 4000000 in
theorem k_laws_toMem : ToF T0 ty_Mem F_laws_toMem := by
  intro M cs x h hb
  obtain ⟨u0, u1, rfl, w0, r0, r1⟩ := rep_g_Mem h
  have i0 := one_head r0.one
  have i1 := one_head r1.one
  show ToG ty_Mem M x _
  rw [aCall_eq T_laws_toMem]; unfold A_laws_toMem C_laws_toMem; simp [thenD_pp, sliceCells_sl, sliceCells_z, sliceCells_nil, take_full, appS_sl, appK_ok, appS_none, thenD_ag, agP_nil, agP_cons, i0, i1]
  generalize hx1 : aCall T0 F_laws_toCellS _ _ = x_1
  obtain ⟨M1, v0, K1, rfl, p1, o1, F1⟩ := ToS.at k_laws_toCellS hx1 (r0.mono (List.prefix_append _ _)) hb.2.1
  have f1 := F1.2
  clear hx1
  have b0_1 : M1[M.length]? = some ⟨[.int .i64 x.1, u0, u1], 1, 2⟩ := get_pre p1 (by simp)
  have b1_1 : M1[M.length + 1]? = some ⟨[(.int .i64 0), (.slice none 0 0), (.slice none 0 0)], 1, 2⟩ := get_pre p1 (by simp)
  have b2_1 : M1[M.length + 2]? = some ⟨[.int .i64 x.1, (.slice none 0 0), (.slice none 0 0)], 1, 2⟩ := get_pre p1 (by simp)
  have l_1 := get_lt b2_1
  have y1 : M <+: M1 := (List.prefix_append _ _).trans p1
  simp only [List.length_append, List.length_cons, List.length_nil] at f1
  have z1 : M <+: M1.set (M.length + 2) ⟨[.int .i64 x.1, v0, (.slice none 0 0)], 1, 2⟩ := pf_set (by omega) y1
  have q1 := one_head (o1.rep.one)
  have qc1 := cells_sl o1
  simp [thenD_pp, sliceCells_sl, sliceCells_z, sliceCells_nil, take_full, appS_sl, appK_ok, appS_none, thenD_ag, agP_nil, agP_cons, b0_1, b1_1, b2_1, gs_of b2_1, q1, qc1, rd1_K, rdJ_ok, rdn_K, rnJ_ok, wrn_K, wrJ_ok]
  generalize hx2 : aCall T0 F_laws_toTouchS _ _ = x_2
  obtain ⟨M2, v1, K2, rfl, p2, o2, F2⟩ := ToS.at k_laws_toTouchS hx2 (r1.mono z1) hb.2.2
  have f2 := F2.2
  clear hx2
  have b0_2 : M2[M.length]? = some ⟨[.int .i64 x.1, u0, u1], 1, 2⟩ := get_pre p2 (by simp [b0_1])
  have b1_2 : M2[M.length + 1]? = some ⟨[(.int .i64 0), (.slice none 0 0), (.slice none 0 0)], 1, 2⟩ := get_pre p2 (by simp [b1_1])
  have b2_2 : M2[M.length + 2]? = some ⟨[.int .i64 x.1, v0, (.slice none 0 0)], 1, 2⟩ := get_pre p2 (by simp [l_1])
  have l_2 := get_lt b2_2
  have y2 : M <+: M2 := z1.trans p2
  simp only [List.length_set] at f2
  have G2 := F1.app (by simp) F2 p1.length_le p2
  have g0_2 := Nat.le_trans p1.length_le (Nat.le_trans (Nat.le_of_eq (List.length_set).symm) p2.length_le)
  have o1 := (o1.set (b2 := ⟨[.int .i64 x.1, v0, (.slice none 0 0)], 1, 2⟩) b2_1 rfl (fun hm => by have := f1 _ hm; omega)).grow p2
  have f1 : ∀ l ∈ K1, M.length + 3 ≤ l ∧ l < M2.length := fun l hl => by have := f1 l hl; have := p2.length_le; simp only [List.length_set] at this; omega
  have z2 : M <+: M2.set (M.length + 2) ⟨[.int .i64 x.1, v0, v1], 1, 2⟩ := pf_set (by omega) y2
  have q2 := one_head (o2.rep.one)
  have qc2 := cells_sl o2
  have hb1 : (M2.set (M.length + 2) ⟨[.int .i64 x.1, v0, v1], 1, 2⟩)[M.length + 1]? = some ⟨[(.int .i64 0), (.slice none 0 0), (.slice none 0 0)], 1, 2⟩ := by simp [b1_2]
  have g1 := ((o1.set (b2 := ⟨[.int .i64 x.1, v0, v1], 1, 2⟩) b2_2 rfl (fun hm => by have := f1 _ hm; omega)).set (b2 := ⟨[.int .i64 x.1, v0, v1], 1, 2⟩) hb1 rfl (fun hm => by have := f1 _ hm; omega))
  have g2 := ((o2.set (b2 := ⟨[.int .i64 x.1, v0, v1], 1, 2⟩) b2_2 rfl (fun hm => by have := f2 _ hm; omega)).set (b2 := ⟨[.int .i64 x.1, v0, v1], 1, 2⟩) hb1 rfl (fun hm => by have := f2 _ hm; omega))
  have hh := mkown_g_Mem (x := x) w0 g1 g2
  try simp only [List.append_assoc] at hh
  obtain ⟨_, _, rfl⟩ := o1.rep.slen
  obtain ⟨_, _, rfl⟩ := o2.rep.slen
  have gs2 : ∀ B C : Blk, ((M2.set (M.length + 2) B).set (M.length + 1) C)[M.length + 1]? = some C := fun B C => List.getElem?_set_self (by rw [List.length_set]; omega)
  simp [thenD_pp, sliceCells_sl, sliceCells_z, sliceCells_nil, take_full, appS_sl, appK_ok, appS_none, thenD_ag, agP_nil, agP_cons, b0_2, b1_2, b2_2, gs_of b2_2, gs2, rd1_K, rdJ_ok, rdn_K, rnJ_ok, wrn_K, wrJ_ok]
  refine ⟨_, _, K1 ++ K2, ?_, rfl, ?_, ?_⟩
  · exact pf_set (by omega) (pf_set (by omega) y2)
  · first | exact hh | (simp only [List.append_assoc]; exact hh)
  · refine ⟨G2.1, fun l hl => ?_⟩
    have := G2.2 l hl
    simp only [List.length_append, List.length_cons, List.length_nil, List.length_set] at this ⊢
    omega
theorem rep_g_Scan {M : Mem} {cs : List V} {x : ty_Scan.D} (h : Rep ty_Scan M cs x) : ∃ u0 u1 : V, cs = [.int .i64 x.1, u0, u1] ∧ (Lit.int .i64 x.1).wf = true ∧ Rep (.sl ty_Cell) M [u0] x.2.1 ∧ Rep (.sl ty_Touch) M [u1] x.2.2 := by
  obtain ⟨u0, u1, rfl, w0, r0, r1⟩ := rep_g_Mem h
  exact ⟨u0, u1, rfl, w0, r0, r1⟩
theorem mkown_g_Scan {M : Mem} {x : ty_Scan.D} {u0 u1 : V} {L0 L1 : List Nat} (w0 : (Lit.int .i64 x.1).wf = true) (r0 : Own (.sl ty_Cell) M [u0] x.2.1 L0) (r1 : Own (.sl ty_Touch) M [u1] x.2.2 L1) : Own ty_Scan M [.int .i64 x.1, u0, u1] x (L0 ++ L1) := by
  have h : Own ty_Scan M [.int .i64 x.1, u0, u1] x _ := (mkown_g_Mem w0 r0 r1)
  simpa only [List.append_nil, List.nil_append, List.append_assoc] using h
set_option maxHeartbeats 4000000 in
theorem k_laws_toScan : ToF T0 ty_Scan F_laws_toScan := by
  intro M cs x h hb
  obtain ⟨u0, u1, rfl, w0, r0, r1⟩ := rep_g_Scan h
  have i0 := one_head r0.one
  have i1 := one_head r1.one
  show ToG ty_Scan M x _
  rw [aCall_eq T_laws_toScan]; unfold A_laws_toScan C_laws_toScan; simp [thenD_pp, sliceCells_sl, sliceCells_z, sliceCells_nil, take_full, appS_sl, appK_ok, appS_none, thenD_ag, agP_nil, agP_cons, i0, i1]
  generalize hx1 : aCall T0 F_laws_toMem _ _ = x_1
  obtain ⟨M1, ds1, K1, rfl, p1, o1, F1⟩ := ToF.at k_laws_toMem hx1 ((mkrep_g_Mem w0 (r0.mono (List.prefix_append _ _)) (r1.mono (List.prefix_append _ _)))) hb
  have f1 := F1.2
  obtain ⟨v0, v1, K1_0, K1_1, rfl, _, o1_0, o1_1, eK1⟩ := own_g_Mem o1
  clear hx1
  have b0_1 : M1[M.length]? = some ⟨[.int .i64 x.1, u0, u1], 1, 2⟩ := get_pre p1 (by simp)
  have b1_1 : M1[M.length + 1]? = some ⟨[(.int .i64 0), (.slice none 0 0), (.slice none 0 0)], 1, 2⟩ := get_pre p1 (by simp)
  have b2_1 : M1[M.length + 2]? = some ⟨[(.int .i64 0), (.slice none 0 0), (.slice none 0 0)], 1, 2⟩ := get_pre p1 (by simp)
  have l_1 := get_lt b2_1
  have y1 : M <+: M1 := (List.prefix_append _ _).trans p1
  simp only [List.length_append, List.length_cons, List.length_nil] at f1
  have z1 : M <+: M1.set (M.length + 2) ⟨[.int .i64 x.1, v0, v1], 1, 2⟩ := pf_set (by omega) y1
  have q1_0 := one_head (o1_0.rep.one)
  have qc1_0 := cells_sl o1_0
  have q1_1 := one_head (o1_1.rep.one)
  have qc1_1 := cells_sl o1_1
  have hb1 : (M1.set (M.length + 2) ⟨[.int .i64 x.1, v0, v1], 1, 2⟩)[M.length + 1]? = some ⟨[(.int .i64 0), (.slice none 0 0), (.slice none 0 0)], 1, 2⟩ := by simp [b1_1]
  have g1 := ((o1.set (b2 := ⟨[.int .i64 x.1, v0, v1], 1, 2⟩) b2_1 rfl (fun hm => by have := f1 _ hm; omega)).set (b2 := ⟨[.int .i64 x.1, v0, v1], 1, 2⟩) hb1 rfl (fun hm => by have := f1 _ hm; omega))
  obtain ⟨s1_0, s1_1, H1_0, H1_1, es1, _, j1_0, j1_1, eK1⟩ := own_g_Mem g1
  simp only [List.cons.injEq, and_true, true_and] at es1
  obtain ⟨rfl, rfl⟩ := es1
  have hh := mkown_g_Scan (x := x) w0 j1_0 j1_1
  try simp only [List.append_assoc] at hh
  obtain ⟨s1_0, s1_1, _, _, es1, _, t1_0, t1_1, _⟩ := own_g_Mem o1
  simp only [List.cons.injEq, and_true, true_and] at es1
  obtain ⟨rfl, rfl⟩ := es1
  obtain ⟨_, _, rfl⟩ := t1_0.rep.slen
  obtain ⟨_, _, rfl⟩ := t1_1.rep.slen
  have gs2 : ∀ B C : Blk, ((M1.set (M.length + 2) B).set (M.length + 1) C)[M.length + 1]? = some C := fun B C => List.getElem?_set_self (by rw [List.length_set]; omega)
  simp [thenD_pp, sliceCells_sl, sliceCells_z, sliceCells_nil, take_full, appS_sl, appK_ok, appS_none, thenD_ag, agP_nil, agP_cons, b0_1, b1_1, b2_1, gs_of b2_1, gs2, rd1_K, rdJ_ok, rdn_K, rnJ_ok, wrn_K, wrJ_ok]
  refine ⟨_, _, K1, ?_, rfl, ?_, ?_⟩
  · exact pf_set (by omega) (pf_set (by omega) y1)
  · first | exact hh | (simp only [List.append_assoc]; exact hh) | (simp only [eK1]; exact hh) | (simp only [eK1, List.append_assoc]; exact hh)
  · refine ⟨F1.1, fun l hl => ?_⟩
    have := F1.2 l hl
    simp only [List.length_append, List.length_cons, List.length_nil, List.length_set] at this ⊢
    omega
theorem deq_Touch (x y : ty_Touch.D) : decide (x = y) = (decide (x.1 = y.1) && (decide (x.2.1 = y.2.1) && (decide (x.2.2 = y.2.2)))) := by
  obtain ⟨x0, x1, x2⟩ := x
  obtain ⟨y0, y1, y2⟩ := y
  simp
theorem c_laws_eqTouch (M : Mem) (x y : ty_Touch.D) : aCall T0 F_laws_eqTouch [.agg (enc_Touch x).toArray, .agg (enc_Touch y).toArray] M = some (.bool (decide (x = y)), M) := by
  rw [deq_Touch]
  rw [aCall_eq T_laws_eqTouch]; unfold A_laws_eqTouch C_laws_eqTouch; simp
  repeat' ((first | rw [selO_some] | rw [condR_bool] | rw [selD_some]); split <;> rename_i hq <;> (have hq2 := hq) <;> (try simp at hq2) <;> (try simp [*]))
theorem k_laws_eqTouch : EqF T0 ty_Touch F_laws_eqTouch := fun M cs ds x y h h2 hb => by
  obtain rfl := rep_Touch h
  obtain rfl := rep_Touch h2
  exact c_laws_eqTouch M x y
theorem k_laws_eqTouchS : EqS T0 ty_Touch F_laws_eqTouchS := eq_sl (w := 3) T_laws_eqTouchS rfl k_laws_eqTouch
theorem r_laws_eqByteS (M : Mem) (a b : Option Addr) (c d : Nat) (xs ys : List ty_Byte.D) (h : Rep (.sl ty_Byte) M [.slice a xs.length c] xs) (h2 : Rep (.sl ty_Byte) M [.slice b ys.length d] ys) (hn : xs.length ≤ 9223372036854775807) (i : Nat) (hi : i < xs.length) (hj : i < ys.length) (he : xs[i] = ys[i]) :
    lp (aCall T0) K_laws_eqByteS_0 L_laws_eqByteS_0 [.slice a xs.length c, .slice b ys.length d, und, und, und, .int .i64 i, und, und, und, und, und, und, und, und, und, und, und, und, und, und, und, und, und, und, und, und] M = lp (aCall T0) K_laws_eqByteS_0 L_laws_eqByteS_0 [.slice a xs.length c, .slice b ys.length d, und, und, und, .int .i64 (i + 1 : Nat), und, und, und, und, und, und, und, und, und, und, und, und, und, und, und, und, und, und, und, und] M := by
  obtain ⟨l, o, rfl, _, hrd⟩ := at_Byte h hi
  obtain ⟨l2, o2, rfl, _, hrd2⟩ := at_Byte h2 hj
  have e6 : IntKind.i64.wrap ((i : Int) + 1) = i + 1 := wrap_i64 (by omega) (by omega)
  rw [S_laws_eqByteS_0]; unfold B_laws_eqByteS_0; simp [hrd, hrd2, e6, hi, hj, he, byteV]
theorem eq_byteV (x y : UInt8) : ((x.toNat : Int) = (y.toNat : Int)) = (x = y) := by
  apply propext
  constructor
  · intro h; exact UInt8.toNat_inj.1 (by omega)
  · rintro rfl; rfl
theorem x_laws_eqByteS (M : Mem) (a b : Option Addr) (c d : Nat) (xs ys : List ty_Byte.D) (h : Rep (.sl ty_Byte) M [.slice a xs.length c] xs) (h2 : Rep (.sl ty_Byte) M [.slice b ys.length d] ys) (hn : xs.length ≤ 9223372036854775807) (i : Nat) (hi : i < xs.length) (hj : i < ys.length) (he : xs[i] ≠ ys[i]) (k : ACode) :
    thenF M [.tmp 4] (thenS (blockR 0 (lp (aCall T0) K_laws_eqByteS_0 L_laws_eqByteS_0 [.slice a xs.length c, .slice b ys.length d, und, und, und, .int .i64 i, und, und, und, und, und, und, und, und, und, und, und, und, und, und, und, und, und, und, und, und] M)) (aCall T0) k) = some (.bool false, M) := by
  obtain ⟨l, o, rfl, _, hrd⟩ := at_Byte h hi
  obtain ⟨l2, o2, rfl, _, hrd2⟩ := at_Byte h2 hj
  have hne : ¬ (((xs[i] : UInt8).toNat : Int) = ((ys[i] : UInt8).toNat : Int)) := by rw [eq_byteV]; exact he
  rw [S_laws_eqByteS_0]; unfold B_laws_eqByteS_0; simp [hrd, hrd2, hi, hj, hne, byteV]
theorem c_laws_eqByteS (M : Mem) (v u : V) (xs ys : List ty_Byte.D) (h : Rep (.sl ty_Byte) M [v] xs) (h2 : Rep (.sl ty_Byte) M [u] ys) (hn : xs.length ≤ 9223372036854775807) : aCall T0 F_laws_eqByteS [v, u] M = some (.bool (decide (xs = ys)), M) := by
  obtain ⟨a, c, rfl⟩ := h.slen
  obtain ⟨b, d, rfl⟩ := h2.slen
  by_cases hl : xs.length = ys.length
  · rcases list_eq_iff hl with he | ⟨j, hj, h3, h4⟩
    · subst he
      have hc := chain (g := fun i : Nat => lp (aCall T0) K_laws_eqByteS_0 L_laws_eqByteS_0 [.slice a xs.length c, .slice b xs.length d, und, und, und, .int .i64 i, und, und, und, und, und, und, und, und, und, und, und, und, und, und, und, und, und, und, und, und] M) (n := xs.length) fun i hi => r_laws_eqByteS M a b c d xs xs h h2 hn i hi hi rfl
      simp only [Int.natCast_zero, Int.ofNat_zero] at hc
      rw [aCall_eq T_laws_eqByteS]; unfold A_laws_eqByteS C_laws_eqByteS; simp [hc]
      rw [S_laws_eqByteS_0]; unfold B_laws_eqByteS_0; simp
    · have hc := chain (g := fun i : Nat => lp (aCall T0) K_laws_eqByteS_0 L_laws_eqByteS_0 [.slice a xs.length c, .slice b ys.length d, und, und, und, .int .i64 i, und, und, und, und, und, und, und, und, und, und, und, und, und, und, und, und, und, und, und, und] M) (n := j) fun i hi => r_laws_eqByteS M a b c d xs ys h h2 hn i (by omega) (by omega) (h3 i (by omega) hi)
      simp only [Int.natCast_zero, Int.ofNat_zero] at hc
      have hx := x_laws_eqByteS M a b c d xs ys h h2 hn j hj (by omega) h4
      have hne : xs ≠ ys := fun e => h4 (by simp [e])
      simp only [← hl] at hc hx
      simp only [← hl]
      rw [aCall_eq T_laws_eqByteS]; unfold A_laws_eqByteS C_laws_eqByteS; simp [hc, hx, hne]
  · have hne : xs ≠ ys := fun e => hl (by rw [e])
    have hl2 : ¬ ((xs.length : Int) = ys.length) := by omega
    rw [aCall_eq T_laws_eqByteS]; unfold A_laws_eqByteS C_laws_eqByteS; simp [hl2, hl, hne]
theorem k_laws_eqByteS : EqS T0 ty_Byte F_laws_eqByteS := fun M v u xs ys h h2 hb => c_laws_eqByteS M v u xs ys h h2 (Nat.le_trans hb.1 (by decide))
set_option maxHeartbeats 4000000 in
theorem k_laws_eqCell : EqF T0 ty_Cell F_laws_eqCell := by
  intro M cs ds x y h h2 hb
  obtain ⟨u0, rfl, r0⟩ := rep_g_Cell h
  obtain ⟨v0, rfl, s0⟩ := rep_g_Cell h2
  try dsimp only at *
  have e0 := k_laws_eqByteS (M ++ [⟨[u0], 1, 2⟩, ⟨[v0], 1, 2⟩]) _ _ x y (r0.mono (List.prefix_append _ _)) (s0.mono (List.prefix_append _ _)) hb
  have i0 := one_head r0.one
  have j0 := one_head s0.one
  by_cases q0 : x = y
  rotate_left
  · have hne := q0
    refine ans_f hne ?_
    have e0 := (ans_of e0).2 q0
    rw [aCall_eq T_laws_eqCell]; unfold A_laws_eqCell C_laws_eqCell; simp [thenD_pp, sliceCells_sl, sliceCells_z, sliceCells_nil, take_full, appS_sl, appK_ok, appS_none, thenD_ag, agP_nil, agP_cons, i0, j0, e0]
  have e0 := (ans_of e0).1 q0
  have he := q0
  refine ans_t he ?_
  rw [aCall_eq T_laws_eqCell]; unfold A_laws_eqCell C_laws_eqCell; simp [thenD_pp, sliceCells_sl, sliceCells_z, sliceCells_nil, take_full, appS_sl, appK_ok, appS_none, thenD_ag, agP_nil, agP_cons, i0, j0, e0]
theorem k_laws_eqCellS : EqS T0 ty_Cell F_laws_eqCellS := eq_sl (w := 1) T_laws_eqCellS rfl k_laws_eqCell
set_option maxHeartbeats 4000000 in
theorem k_laws_eqMem : EqF T0 ty_Mem F_laws_eqMem := by
  intro M cs ds x y h h2 hb
  obtain ⟨a0, a1, a2⟩ := x
  obtain ⟨b0, b1, b2⟩ := y
  obtain ⟨u0, u1, rfl, w0, r0, r1⟩ := rep_g_Mem h
  obtain ⟨v0, v1, rfl, _w0, s0, s1⟩ := rep_g_Mem h2
  try dsimp only at *
  have e1 := k_laws_eqCellS (M ++ [⟨[.int .i64 a0, u0, u1], 1, 2⟩, ⟨[.int .i64 b0, v0, v1], 1, 2⟩]) _ _ a1 b1 (r0.mono (List.prefix_append _ _)) (s0.mono (List.prefix_append _ _)) hb.2.1
  have e2 := k_laws_eqTouchS (M ++ [⟨[.int .i64 a0, u0, u1], 1, 2⟩, ⟨[.int .i64 b0, v0, v1], 1, 2⟩]) _ _ a2 b2 (r1.mono (List.prefix_append _ _)) (s1.mono (List.prefix_append _ _)) hb.2.2
  have i0 := one_head r0.one
  have i1 := one_head r1.one
  have j0 := one_head s0.one
  have j1 := one_head s1.one
  by_cases q0 : a0 = b0
  rotate_left
  · have hne : ¬ ((a0, a1, a2) : ty_Mem.D) = (b0, b1, b2) := fun e => q0 (by simp only [Prod.mk.injEq] at e; simp only [e])
    refine ans_f hne ?_
    rw [aCall_eq T_laws_eqMem]; unfold A_laws_eqMem C_laws_eqMem; simp [thenD_pp, sliceCells_sl, sliceCells_z, sliceCells_nil, take_full, appS_sl, appK_ok, appS_none, thenD_ag, agP_nil, agP_cons, i0, i1, j0, j1, q0]
  subst q0
  by_cases q1 : a1 = b1
  rotate_left
  · have hne : ¬ ((a0, a1, a2) : ty_Mem.D) = (a0, b1, b2) := fun e => q1 (by simp only [Prod.mk.injEq] at e; simp only [e])
    refine ans_f hne ?_
    have e1 := (ans_of e1).2 q1
    rw [aCall_eq T_laws_eqMem]; unfold A_laws_eqMem C_laws_eqMem; simp [thenD_pp, sliceCells_sl, sliceCells_z, sliceCells_nil, take_full, appS_sl, appK_ok, appS_none, thenD_ag, agP_nil, agP_cons, i0, i1, j0, j1, e1]
  have e1 := (ans_of e1).1 q1
  by_cases q2 : a2 = b2
  rotate_left
  · have hne : ¬ ((a0, a1, a2) : ty_Mem.D) = (a0, b1, b2) := fun e => q2 (by simp only [Prod.mk.injEq] at e; simp only [e])
    refine ans_f hne ?_
    have e2 := (ans_of e2).2 q2
    rw [aCall_eq T_laws_eqMem]; unfold A_laws_eqMem C_laws_eqMem; simp [thenD_pp, sliceCells_sl, sliceCells_z, sliceCells_nil, take_full, appS_sl, appK_ok, appS_none, thenD_ag, agP_nil, agP_cons, i0, i1, j0, j1, e1, e2]
  have e2 := (ans_of e2).1 q2
  have he : ((a0, a1, a2) : ty_Mem.D) = (a0, b1, b2) := by simp only [q1, q2]
  refine ans_t he ?_
  rw [aCall_eq T_laws_eqMem]; unfold A_laws_eqMem C_laws_eqMem; simp [thenD_pp, sliceCells_sl, sliceCells_z, sliceCells_nil, take_full, appS_sl, appK_ok, appS_none, thenD_ag, agP_nil, agP_cons, i0, i1, j0, j1, e1, e2]
set_option maxHeartbeats 4000000 in
theorem k_laws_eqScan : EqF T0 ty_Scan F_laws_eqScan := by
  intro M cs ds x y h h2 hb
  obtain ⟨u0, u1, rfl, w0, r0, r1⟩ := rep_g_Scan h
  obtain ⟨v0, v1, rfl, _w0, s0, s1⟩ := rep_g_Scan h2
  try dsimp only at *
  have e0 := k_laws_eqMem (M ++ [⟨[.int .i64 x.1, u0, u1], 1, 2⟩, ⟨[.int .i64 y.1, v0, v1], 1, 2⟩]) _ _ x y ((mkrep_g_Mem w0 (r0.mono (List.prefix_append _ _)) (r1.mono (List.prefix_append _ _)))) ((mkrep_g_Mem _w0 (s0.mono (List.prefix_append _ _)) (s1.mono (List.prefix_append _ _)))) hb
  have i0 := one_head r0.one
  have i1 := one_head r1.one
  have j0 := one_head s0.one
  have j1 := one_head s1.one
  by_cases q0 : x = y
  rotate_left
  · have hne := q0
    refine ans_f hne ?_
    have e0 := (ans_of e0).2 q0
    rw [aCall_eq T_laws_eqScan]; unfold A_laws_eqScan C_laws_eqScan; simp [thenD_pp, sliceCells_sl, sliceCells_z, sliceCells_nil, take_full, appS_sl, appK_ok, appS_none, thenD_ag, agP_nil, agP_cons, i0, i1, j0, j1, e0]
  have e0 := (ans_of e0).1 q0
  have he := q0
  refine ans_t he ?_
  rw [aCall_eq T_laws_eqScan]; unfold A_laws_eqScan C_laws_eqScan; simp [thenD_pp, sliceCells_sl, sliceCells_z, sliceCells_nil, take_full, appS_sl, appK_ok, appS_none, thenD_ag, agP_nil, agP_cons, i0, i1, j0, j1, e0]
def sz_Touch (x : ty_Touch.D) : Int := 0
def szs_Touch : List ty_Touch.D → Int
  | [] => 0
  | x :: xs => sz_Touch x + szs_Touch xs
theorem szs_pos_Touch : ∀ xs, 0 ≤ szs_Touch xs
  | [] => by simp [szs_Touch]
  | x :: xs => by have := szs_pos_Touch xs; unfold szs_Touch sz_Touch; omega
theorem c_laws_szTouchS (M : Mem) (v : V) (xs : List ty_Touch.D) (h : Rep (.sl ty_Touch) M [v] xs) (left : Int) (h0 : 0 ≤ left) (h1 : left ≤ 1048576) (hx : xs.length ≤ 9223372036854775807) :
    ∃ l : Int, aCall T0 F_laws_szTouchS [v, .int .i64 left] M = some (.int .i64 l, M) ∧ (0 ≤ l → xs.length + szs_Touch xs + l ≤ left) := by
  obtain ⟨a, c, rfl⟩ := h.slen
  have e0 : IntKind.i64.wrap (left - xs.length) = left - xs.length := wrap_i64 (by omega) (by omega)
  have hz : szs_Touch xs = 0 := by
    have : ∀ xs, szs_Touch xs = 0 := fun xs => by induction xs with | nil => rfl | cons x xs ih => simp [szs_Touch, sz_Touch, ih]
    exact this xs
  by_cases hc : left - (xs.length : Int) < 0
  · refine ⟨-1, ?_, by omega⟩
    rw [aCall_eq T_laws_szTouchS]; unfold A_laws_szTouchS C_laws_szTouchS; simp [e0, hc]
  · refine ⟨left - xs.length, ?_, by omega⟩
    rw [aCall_eq T_laws_szTouchS]; unfold A_laws_szTouchS C_laws_szTouchS; simp [e0, hc]
theorem k_laws_szTouchS : SzS T0 ty_Touch F_laws_szTouchS := fun M v xs left h hb h0 h1 => by
  obtain ⟨l, e, f⟩ := c_laws_szTouchS M v xs h left h0 h1 hb.1
  have hp := szs_pos_Touch xs
  refine ⟨l, ?_, e, fun hl => ⟨?_, fun _ _ => ⟨trivial, trivial, trivial⟩⟩⟩
  · by_cases hl : 0 ≤ l
    · have := f hl; omega
    · omega
  · have := f hl; omega
theorem k_laws_szByteS : SzS T0 ty_Byte F_laws_szByteS := fun M v xs left h hb h0 h1 => by
  obtain ⟨a, c, rfl⟩ := h.slen
  have hx : xs.length ≤ 9223372036854775807 := hb.1
  have e : IntKind.i64.wrap (left - (xs.length : Int)) = left - xs.length := wrap_i64 (by omega) (by omega)
  by_cases hl : left - (xs.length : Int) < 0
  · refine ⟨-1, by omega, ?_, by omega⟩
    have hl2 : left < (xs.length : Int) := by omega
    rw [aCall_eq T_laws_szByteS]; unfold A_laws_szByteS C_laws_szByteS; simp [e, hl, hl2]
  · refine ⟨left - xs.length, by omega, ?_, fun _ => ⟨by omega, fun _ _ => trivial⟩⟩
    have hl2 : ¬ left < (xs.length : Int) := by omega
    rw [aCall_eq T_laws_szByteS]; unfold A_laws_szByteS C_laws_szByteS; simp [e, hl, hl2]
theorem k_laws_szCell : SzF T0 ty_Cell F_laws_szCell := by
  intro M cs x left h hb h0 h1
  obtain ⟨u0, rfl, r0⟩ := rep_g_Cell h
  have i0 := one_head r0.one
  obtain ⟨l0, a0, e0, g0⟩ := k_laws_szByteS (M ++ [⟨[u0], 1, 2⟩]) _ _ left (r0.mono (List.prefix_append _ _)) hb (by omega) (by omega)
  by_cases h_0 : l0 < 0
  · refine ⟨-1, by omega, ?_, by omega⟩
    rw [aCall_eq T_laws_szCell]; unfold A_laws_szCell C_laws_szCell; simp [thenD_pp, sliceCells_sl, sliceCells_z, sliceCells_nil, take_full, appS_sl, appK_ok, appS_none, thenD_ag, agP_nil, agP_cons, i0, e0, h_0]
  refine ⟨l0, by omega, ?_, fun _ => g0 (by omega)⟩
  rw [aCall_eq T_laws_szCell]; unfold A_laws_szCell C_laws_szCell; simp [thenD_pp, sliceCells_sl, sliceCells_z, sliceCells_nil, take_full, appS_sl, appK_ok, appS_none, thenD_ag, agP_nil, agP_cons, i0, e0, h_0]
theorem k_laws_szCellS : SzS T0 ty_Cell F_laws_szCellS := sz_sl (w := 1) T_laws_szCellS rfl k_laws_szCell
theorem k_laws_szMem : SzF T0 ty_Mem F_laws_szMem := by
  intro M cs x left h hb h0 h1
  obtain ⟨u0, u1, rfl, w0, r0, r1⟩ := rep_g_Mem h
  have i0 := one_head r0.one
  have i1 := one_head r1.one
  obtain ⟨l0, a0, e0, g0⟩ := k_laws_szCellS (M ++ [⟨[.int .i64 x.1, u0, u1], 1, 2⟩]) _ _ left (r0.mono (List.prefix_append _ _)) hb.2.1 (by omega) (by omega)
  by_cases h_0 : l0 < 0
  · refine ⟨-1, by omega, ?_, by omega⟩
    rw [aCall_eq T_laws_szMem]; unfold A_laws_szMem C_laws_szMem; simp [thenD_pp, sliceCells_sl, sliceCells_z, sliceCells_nil, take_full, appS_sl, appK_ok, appS_none, thenD_ag, agP_nil, agP_cons, i0, i1, e0, h_0]
  obtain ⟨l1, a1, e1, g1⟩ := k_laws_szTouchS (M ++ [⟨[.int .i64 x.1, u0, u1], 1, 2⟩]) _ _ l0 (r1.mono (List.prefix_append _ _)) hb.2.2 (by omega) (by omega)
  by_cases h_1 : l1 < 0
  · refine ⟨-1, by omega, ?_, by omega⟩
    rw [aCall_eq T_laws_szMem]; unfold A_laws_szMem C_laws_szMem; simp [thenD_pp, sliceCells_sl, sliceCells_z, sliceCells_nil, take_full, appS_sl, appK_ok, appS_none, thenD_ag, agP_nil, agP_cons, i0, i1, e0, h_0, e1, h_1]
  refine ⟨l1, by omega, ?_, fun _ => ⟨trivial, g0 (by omega), g1 (by omega)⟩⟩
  rw [aCall_eq T_laws_szMem]; unfold A_laws_szMem C_laws_szMem; simp [thenD_pp, sliceCells_sl, sliceCells_z, sliceCells_nil, take_full, appS_sl, appK_ok, appS_none, thenD_ag, agP_nil, agP_cons, i0, i1, e0, h_0, e1, h_1]
theorem k_laws_szScan : SzF T0 ty_Scan F_laws_szScan := by
  intro M cs x left h hb h0 h1
  obtain ⟨u0, u1, rfl, w0, r0, r1⟩ := rep_g_Scan h
  have i0 := one_head r0.one
  have i1 := one_head r1.one
  obtain ⟨l0, a0, e0, g0⟩ := k_laws_szMem (M ++ [⟨[.int .i64 x.1, u0, u1], 1, 2⟩]) _ _ left ((mkrep_g_Mem w0 (r0.mono (List.prefix_append _ _)) (r1.mono (List.prefix_append _ _)))) hb (by omega) (by omega)
  by_cases h_0 : l0 < 0
  · refine ⟨-1, by omega, ?_, by omega⟩
    rw [aCall_eq T_laws_szScan]; unfold A_laws_szScan C_laws_szScan; simp [thenD_pp, sliceCells_sl, sliceCells_z, sliceCells_nil, take_full, appS_sl, appK_ok, appS_none, thenD_ag, agP_nil, agP_cons, i0, i1, e0, h_0]
  refine ⟨l0, by omega, ?_, fun _ => g0 (by omega)⟩
  rw [aCall_eq T_laws_szScan]; unfold A_laws_szScan C_laws_szScan; simp [thenD_pp, sliceCells_sl, sliceCells_z, sliceCells_nil, take_full, appS_sl, appK_ok, appS_none, thenD_ag, agP_nil, agP_cons, i0, i1, e0, h_0]
theorem rdn_box {M : Mem} {l n : Nat} {cs : List V} (h : M[l]? = some ⟨cs, 1, 2⟩) (hn : n = cs.length) : rdn M l 0 n = some cs := by
  unfold rdn
  rw [h]
  simp [hn]
theorem gc_ex (M M' : Mem) (v : V) : ∃ X, gc M (some (v, M')) = some (v, X) := by
  simp only [gc]
  split
  · exact ⟨_, rfl⟩
  · exact ⟨_, rfl⟩
abbrev ty_Rec : Ty := .pr .bool (.pr (.int .i64) (.pr (.int .i64) .str))
instance d_Rec : DecidableEq ty_Rec.D := Ty.deq ty_Rec
def zRec : ty_Rec.D := (false, (0 : Int), (0 : Int), ([] : List UInt8))
def unL (ys : List UInt8) : Nat := match ys with
  | y :: _ => y.toNat
  | [] => 0
def unC (ys : List UInt8) : List UInt8 := (ys.drop 1).take (unL ys)
def okByte (b : UInt8) : Bool := decide (97 ≤ (b.toNat : Int)) && decide ((b.toNat : Int) ≤ 122)
def wordB (w : List UInt8) : Bool := w.all okByte && (decide (1 ≤ (w.length : Int)) && decide ((w.length : Int) ≤ 32))
def padL (w : List UInt8) : List UInt8 := if wordB w = true then UInt8.ofNat w.length :: (w ++ List.replicate (32 - w.length) 0) else List.replicate 33 0
def unB (ys : List UInt8) : Bool := decide (unL ys ≤ 32) && (wordB (unC ys) && decide (padL (unC ys) = ys))
def unW (ys : List UInt8) : List UInt8 := if unB ys = true then unC ys else []
def atN (ys : List UInt8) (i : Nat) : Nat := (ys.getD i 0).toNat
def recI (ys : List UInt8) : ty_Rec.D := (decide (atN ys 0 = 1), (atN ys 1 : Int), ((256 * atN ys 2 + atN ys 3 : Nat) : Int), unW (ys.drop 4))
def recB (r : ty_Rec.D) : Bool := decide (r = zRec) || (r.1 && (decide (0 ≤ (r.2.1 : Int)) && decide ((r.2.1 : Int) ≤ 7)) && (decide (0 ≤ (r.2.2.1 : Int)) && decide ((r.2.2.1 : Int) ≤ 65535)) && wordB r.2.2.2)
def recT (r : ty_Rec.D) : List UInt8 := [if r.1 = true then 1 else 0, UInt8.ofNat (r.2.1 : Int).toNat, UInt8.ofNat ((r.2.2.1 : Int).toNat / 256), UInt8.ofNat ((r.2.2.1 : Int).toNat % 256)] ++ padL r.2.2.2
def recR (ys : List UInt8) : Bool := decide (ys.length = 37) && (recB (recI ys) && decide (recT (recI ys) = ys))
def recX (ys : List UInt8) : ty_Rec.D := if recR ys = true then recI ys else zRec
def touch0 (sz n a b c : Int) : Bool := decide ((a = 1 ∨ a = 2) ∧ 0 ≤ b ∧ b < n ∧ c = sz)
def touchB (m : ty_Mem.D) (t : ty_Touch.D) : Bool := touch0 m.1 (m.2.1.length : Int) t.1 t.2.1 t.2.2
def cellB (m : ty_Mem.D) (c : ty_Cell.D) : Bool := decide (((List.length (α := UInt8) c : Nat) : Int) = (m.1 : Int))
def mem0 (sz : Int) (n k : Nat) : Bool := decide ((1 ≤ sz ∧ sz ≤ 1000) ∧ n ≤ 128 ∧ k ≤ 6000)
def memB (m : ty_Mem.D) : Bool := mem0 m.1 m.2.1.length m.2.2.length && (m.2.1.all (cellB m) && m.2.2.all (touchB m))
def recOk (c : List UInt8) : Bool := recR c && decide ((recX c).2.1 = (0 : Int))
def liveW (w : List UInt8) (r : ty_Rec.D) : Bool := r.1 && decide (r.2.2.2 = w)
/-- The first with its word. -/
def frB (rs : List ty_Rec.D) (r : ty_Rec.D) (i : Nat) : Bool := !(r.1 && decide (idx (liveW r.2.2.2) rs < (i : Int)))
def fr1 (rs : List ty_Rec.D) (i : Nat) : Bool := match rs[i]? with
  | some r => frB rs r i
  | none => true
def scanB (m : ty_Scan.D) : Bool := (decide ((m.1 : Int) = 37 ∧ 1 ≤ m.2.1.length ∧ m.2.1.length ≤ 64) && memB m) && (m.2.1.all recOk && (List.range m.2.1.length).all (fr1 (m.2.1.map recX)))
theorem gc_boolp {M M' : Mem} (hp : M <+: M') (b : Bool) : gc M (some (.bool b, M')) = some (.bool b, M) := by
  obtain ⟨N, rfl⟩ := hp
  exact gc_bool M N b
theorem mem_shape {M : Mem} {cs : List V} {m : ty_Mem.D} (h : Rep ty_Mem M cs m) : ∃ (a b : Option Addr) (c d : Nat), cs = [.int .i64 m.1, .slice a m.2.1.length c, .slice b m.2.2.length d] ∧ Rep (.sl ty_Cell) M [.slice a m.2.1.length c] m.2.1 ∧ Rep (.sl ty_Touch) M [.slice b m.2.2.length d] m.2.2 := by
  obtain ⟨u0, u1, rfl, _, r0, r1⟩ := rep_g_Mem h
  obtain ⟨a, c, rfl⟩ := r0.slen
  obtain ⟨b, d, rfl⟩ := r1.slen
  exact ⟨a, b, c, d, rfl, r0, r1⟩
theorem range_all {n : Nat} {p : Nat → Bool} (h : ∀ i, i < n → p i = true) : (List.range n).all p = true := by
  rw [List.all_eq_true]
  intro i hi
  exact h i (List.mem_range.1 hi)
theorem range_not {n j : Nat} {p : Nat → Bool} (hj : j < n) (h : p j = false) : (List.range n).all p = false := by
  rw [List.all_eq_false]
  exact ⟨j, List.mem_range.2 hj, by simp [h]⟩
theorem c_impl_within (M : Mem) (x a b : Int) : aCall T0 F_impl_within [.int .i64 x, .int .i64 a, .int .i64 b] M = some (.bool (decide (a ≤ x) && decide (x ≤ b)), M) := by
  rw [aCall_eq T_impl_within]; unfold A_impl_within C_impl_within; simp
  repeat' ((first | rw [selO_some] | rw [condR_bool] | rw [selD_some]); split <;> rename_i hq <;> (have hq2 := hq) <;> (try simp at hq2) <;> (try simp [*]))
theorem win_ok (M : Mem) (x a b : Int) : aCall T0 F_impl_within [.int .i64 x, .int .i64 a, .int .i64 b] M = some (.bool (decide (a ≤ x ∧ x ≤ b)), M) := by
  rw [c_impl_within, Bool.decide_and]
def atB {α : Type} (p : α → Bool) (xs : List α) (i : Nat) : Bool := match xs[i]? with
  | some x => p x
  | none => true
theorem atB_get {α : Type} (p : α → Bool) {xs : List α} {i : Nat} (hi : i < xs.length) : atB p xs i = p xs[i] := by unfold atB; rw [List.getElem?_eq_getElem hi]
theorem atB_all {α : Type} {p : α → Bool} {xs : List α} (h : ∀ i, i < xs.length → atB p xs i = true) : xs.all p = true := by
  rw [List.all_eq_true]
  intro x hx
  obtain ⟨i, hi, rfl⟩ := List.getElem_of_mem hx
  rw [← atB_get p hi]
  exact h i hi
theorem atB_not {α : Type} {p : α → Bool} {xs : List α} (h : ∃ i, i < xs.length ∧ atB p xs i = false) : xs.all p = false := by
  obtain ⟨i, hi, hq⟩ := h
  rw [atB_get p hi] at hq
  rw [List.all_eq_false]
  exact ⟨xs[i], List.getElem_mem hi, by rw [hq]; decide⟩
theorem mem_cases (sz : Int) (n k : Nat) : (mem0 sz n k = false ∧ ((sz < 1 ∧ ¬ 1 ≤ sz) ∨ ((1 ≤ sz ∧ ¬ sz < 1) ∧ 1000 < sz ∧ ¬ sz ≤ 1000) ∨ ((1 ≤ sz ∧ ¬ sz < 1) ∧ (¬ 1000 < sz ∧ sz ≤ 1000) ∧ 128 < n ∧ (128 : Int) < n) ∨ ((1 ≤ sz ∧ ¬ sz < 1) ∧ (¬ 1000 < sz ∧ sz ≤ 1000) ∧ (¬ 128 < n ∧ ¬ (128 : Int) < n) ∧ 6000 < k ∧ (6000 : Int) < k))) ∨
    (mem0 sz n k = true ∧ (1 ≤ sz ∧ ¬ sz < 1) ∧ (¬ 1000 < sz ∧ sz ≤ 1000) ∧ (¬ 128 < n ∧ ¬ (128 : Int) < n) ∧ (¬ 6000 < k ∧ ¬ (6000 : Int) < k)) := by
  unfold mem0
  by_cases h : (1 ≤ sz ∧ sz ≤ 1000) ∧ n ≤ 128 ∧ k ≤ 6000
  · rw [decide_eq_true h]
    right
    exact ⟨rfl, by omega, by omega, by omega, by omega⟩
  · rw [decide_eq_false h]
    left
    refine ⟨rfl, ?_⟩
    omega
theorem within_ok {a lo hi : Int} (h1 : lo ≤ a) (h2 : a ≤ hi) : decide (lo ≤ a ∧ a ≤ hi) = true := decide_eq_true ⟨h1, h2⟩
theorem at_Touch {M : Mem} {a : Option Addr} {n c : Nat} {xs : List ty_Touch.D} (h : Rep (.sl ty_Touch) M [.slice a n c] xs) {i : Nat} (hi : i < xs.length) : ∃ l o, a = some ⟨l, o, none⟩ ∧ Rep ty_Touch M (enc_Touch xs[i]) xs[i] ∧ rdn M l (o + i * 3) 3 = some (enc_Touch xs[i]) ∧ rd1 M l (o + i * 3) = some (.int .i64 xs[i].1) ∧ rd1 M l (o + i * 3 + 1) = some (.int .i64 xs[i].2.1) ∧ rd1 M l (o + i * 3 + 2) = some (.int .i64 xs[i].2.2) := by
  obtain ⟨_, l, o, rfl, cs, hrd, hrep⟩ := rep_at h hi
  have hcs := rep_Touch hrep
  subst hcs
  have hw : ty_Touch.w = 3 := rfl
  rw [hw] at hrd
  exact ⟨l, o, rfl, hrep, hrd, rd1_of_rdn hrd (k := 0) rfl, rd1_of_rdn hrd (k := 1) rfl, rd1_of_rdn hrd (k := 2) rfl⟩
theorem touch_ok {sz n a b c : Int} (h : touch0 sz n a b c = true) : (a = 1 ∨ a = 2) ∧ ¬ b < 0 ∧ 0 ≤ b ∧ ¬ n ≤ b ∧ b < n ∧ b ≤ n - 1 ∧ c = sz := by
  have h := of_decide_eq_true h
  omega
theorem touch_cases {sz n a b c : Int} (h : touch0 sz n a b c = false) : (¬ a = 1 ∧ ¬ a = 2) ∨ ((a = 1 ∨ a = 2) ∧ b < 0 ∧ ¬ 0 ≤ b) ∨ ((a = 1 ∨ a = 2) ∧ (¬ b < 0 ∧ 0 ≤ b) ∧ n ≤ b ∧ ¬ b < n ∧ ¬ b ≤ n - 1) ∨ ((a = 1 ∨ a = 2) ∧ (¬ b < 0 ∧ 0 ≤ b) ∧ (¬ n ≤ b ∧ b < n ∧ b ≤ n - 1) ∧ ¬ c = sz) := by
  have h := of_decide_eq_false h
  omega
theorem l_impl_isMem_0 (M X : Mem) (m : ty_Mem.D) (a b : Option Addr) (c d p : Nat) (hM : M <+: X) (hb : X[p]? = some ⟨[.int .i64 m.1, .slice a m.2.1.length c, .slice b m.2.2.length d], 1, 2⟩) (h : Rep (.sl ty_Touch) M [.slice b m.2.2.length d] m.2.2) (hn : m.2.2.length ≤ 6000) (hn2 : m.2.1.length ≤ 128) :
    (∃ X', M <+: X' ∧ X <+: X' ∧ (∀ i, i < m.2.2.length → atB (touchB m) m.2.2 i = true) ∧ lp (aCall T0) K_impl_isMem_0 L_impl_isMem_0 [und, .pointer (some ⟨p, 0, none⟩), und, und, und, und, und, und, und, und, und, und, und, und, und, und, und, und, und, und, und, und, .slice b m.2.2.length d, .int .i64 m.2.2.length, .int .i64 (0 : Nat), und, und, und, und, und, und, und, und, und, und, und, und, und, und, und, und, und, und, und, und, und, und, und, und, und, und, und, und, und, und] X = lp (aCall T0) K_impl_isMem_0 L_impl_isMem_0 [und, .pointer (some ⟨p, 0, none⟩), und, und, und, und, und, und, und, und, und, und, und, und, und, und, und, und, und, und, und, und, .slice b m.2.2.length d, .int .i64 m.2.2.length, .int .i64 m.2.2.length, und, und, und, und, und, und, und, und, und, und, und, und, und, und, und, und, und, und, und, und, und, und, und, und, und, und, und, und, und, und] X' ∧ X'[p]? = some ⟨[.int .i64 m.1, .slice a m.2.1.length c, .slice b m.2.2.length d], 1, 2⟩) ∨
    ((∃ i, i < m.2.2.length ∧ atB (touchB m) m.2.2 i = false) ∧ ∀ k, thenF M [.tmp 2] (thenS (blockR 0 (lp (aCall T0) K_impl_isMem_0 L_impl_isMem_0 [und, .pointer (some ⟨p, 0, none⟩), und, und, und, und, und, und, und, und, und, und, und, und, und, und, und, und, und, und, und, und, .slice b m.2.2.length d, .int .i64 m.2.2.length, .int .i64 (0 : Nat), und, und, und, und, und, und, und, und, und, und, und, und, und, und, und, und, und, und, und, und, und, und, und, und, und, und, und, und, und, und] X)) (aCall T0) k) = some (.bool false, M)) := by
  have key := loop_ok (call := aCall T0) (K := K_impl_isMem_0) (L := L_impl_isMem_0) (fun _ Y => X <+: Y) (fun i => [und, .pointer (some ⟨p, 0, none⟩), und, und, und, und, und, und, und, und, und, und, und, und, und, und, und, und, und, und, und, und, .slice b m.2.2.length d, .int .i64 m.2.2.length, .int .i64 i, und, und, und, und, und, und, und, und, und, und, und, und, und, und, und, und, und, und, und, und, und, und, und, und, und, und, und, und, und, und]) (atB (touchB m) m.2.2) (n := m.2.2.length) (M0 := M) (rs := [.tmp 2]) (k0 := 0) (a := .bool false) X (List.prefix_refl _) ?_ ?_
  · rcases key with ⟨X', h0, h1, h2⟩ | h
    · exact .inl ⟨X', hM.trans h0, h0, h1, h2, get_pre h0 hb⟩
    · exact .inr h
  · intro i Y hi hq hY
    obtain ⟨l, o, rfl, _, q1, _⟩ := at_Touch (h.mono (hM.trans hY)) hi
    have hbY := get_pre hY hb
    have hbY2 : ∀ N : Mem, (Y ++ N)[p]? = some ⟨[.int .i64 m.1, .slice a m.2.1.length c, .slice (some ⟨l, o, none⟩) m.2.2.length d], 1, 2⟩ := fun N => get_pre' hbY
    rw [atB_get _ hi] at hq
    have hq := touch_ok hq
    generalize m.2.2[i] = t at q1 hq
    obtain ⟨t1, t2, t3⟩ := t
    simp only at hq q1
    obtain ⟨g1, g2, g2', g3, g3', g3'', g4⟩ := hq
    have e5 : IntKind.i64.wrap ((m.2.1.length : Int) - 1) = m.2.1.length - 1 := wrap_i64 (by omega) (by omega)
    have e6 : IntKind.i64.wrap ((i : Int) + 1) = i + 1 := wrap_i64 (by omega) (by omega)
    have w1 := fun N : Mem => win_ok (Y ++ N) t1 1 2
    rw [within_ok (by omega) (by omega)] at w1
    have w2 := fun N : Mem => win_ok (Y ++ N) t2 0 (m.2.1.length - 1)
    rw [within_ok g2' g3''] at w2
    refine ⟨Y ++ [⟨enc_Touch (t1, t2, t3), 1, 2⟩], hY.trans (List.prefix_append _ _), ?_⟩
    clear g1
    rw [S_impl_isMem_0]; unfold B_impl_isMem_0; simp [thenD_pp, sliceCells_sl, sliceCells_z, sliceCells_nil, take_full, appS_sl, appK_ok, appS_none, thenD_ag, agP_nil, agP_cons, hbY, hbY2, hi, q1, w1, w2, e5, g4, e6, rd1_K, rdJ_ok]
  · intro i Y hi hq hY k
    obtain ⟨l, o, rfl, _, q1, _⟩ := at_Touch (h.mono (hM.trans hY)) hi
    have hbY := get_pre hY hb
    have hbY2 : ∀ N : Mem, (Y ++ N)[p]? = some ⟨[.int .i64 m.1, .slice a m.2.1.length c, .slice (some ⟨l, o, none⟩) m.2.2.length d], 1, 2⟩ := fun N => get_pre' hbY
    rw [atB_get _ hi] at hq
    have hq := touch_cases hq
    generalize m.2.2[i] = t at q1 hq
    obtain ⟨t1, t2, t3⟩ := t
    simp only at hq q1
    have gb := fun (cs : List V) b => gc_boolp (hM.trans (hY.trans (List.prefix_append Y [⟨cs, 1, 2⟩]))) b
    have e5 : IntKind.i64.wrap ((m.2.1.length : Int) - 1) = m.2.1.length - 1 := wrap_i64 (by omega) (by omega)
    have w1 := fun N : Mem => win_ok (Y ++ N) t1 1 2
    have w2 := fun N : Mem => win_ok (Y ++ N) t2 0 (m.2.1.length - 1)
    rcases hq with ⟨g1, g2⟩ | ⟨g1, _, g2⟩ | ⟨g1, ⟨_, g2⟩, _, _, g3⟩ | ⟨g1, ⟨_, g2⟩, ⟨_, _, g3⟩, g4⟩
    · rw [decide_eq_false (by omega)] at w1
      rw [S_impl_isMem_0]; unfold B_impl_isMem_0; simp [thenD_pp, sliceCells_sl, sliceCells_z, sliceCells_nil, take_full, appS_sl, appK_ok, appS_none, thenD_ag, agP_nil, agP_cons, hbY, hbY2, hi, q1, w1, gb, rd1_K, rdJ_ok]
    · rw [within_ok (by omega) (by omega)] at w1
      rw [decide_eq_false (by omega)] at w2
      clear g1
      rw [S_impl_isMem_0]; unfold B_impl_isMem_0; simp [thenD_pp, sliceCells_sl, sliceCells_z, sliceCells_nil, take_full, appS_sl, appK_ok, appS_none, thenD_ag, agP_nil, agP_cons, hbY, hbY2, hi, q1, w1, w2, e5, gb, rd1_K, rdJ_ok]
    · rw [within_ok (by omega) (by omega)] at w1
      rw [decide_eq_false (by omega)] at w2
      clear g1
      rw [S_impl_isMem_0]; unfold B_impl_isMem_0; simp [thenD_pp, sliceCells_sl, sliceCells_z, sliceCells_nil, take_full, appS_sl, appK_ok, appS_none, thenD_ag, agP_nil, agP_cons, hbY, hbY2, hi, q1, w1, w2, e5, gb, rd1_K, rdJ_ok]
    · rw [within_ok (by omega) (by omega)] at w1
      rw [within_ok g2 g3] at w2
      clear g1
      rw [S_impl_isMem_0]; unfold B_impl_isMem_0; simp [thenD_pp, sliceCells_sl, sliceCells_z, sliceCells_nil, take_full, appS_sl, appK_ok, appS_none, thenD_ag, agP_nil, agP_cons, hbY, hbY2, hi, q1, w1, w2, e5, g4, gb, rd1_K, rdJ_ok]
theorem c_impl_isMem_1 (M : Mem) (u : V) (x : ty_Cell.D) (h : Rep (.sl ty_Byte) M [u] x) (p : Nat) (sz : Int) (hp : rd1 M p 0 = some (.int .i64 sz)) : aCall T0 F_impl_isMem_1 [.agg #[u], .pointer (some ⟨p, 0, none⟩)] M = some (.bool (decide (¬ ((List.length (α := UInt8) x : Nat) : Int) = sz)), M) := by
  have h2 : ∀ N, rd1 (M ++ N) p 0 = some (.int .i64 sz) := fun N => rd1_old hp
  obtain ⟨_, _, rfl⟩ := h.slen
  rw [aCall_eq T_impl_isMem_1]; unfold A_impl_isMem_1 C_impl_isMem_1; simp [thenD_pp, sliceCells_sl, sliceCells_z, sliceCells_nil, take_full, appS_sl, appK_ok, appS_none, thenD_ag, agP_nil, agP_cons, h2]
theorem rep_cell1 {M : Mem} {cs : List V} {x : ty_Cell.D} (h : Rep ty_Cell M cs x) : ∃ u, cs = [u] := by
  rcases h with ⟨rfl, _⟩ | ⟨_, _, _, _, _, rfl, _⟩
  · exact ⟨_, rfl⟩
  · exact ⟨_, rfl⟩
theorem c_impl_isMem (M : Mem) (cs : List V) (m : ty_Mem.D) (h : Rep ty_Mem M cs m) : aCall T0 F_impl_isMem [.agg cs.toArray] M = some (.bool (memB m), M) := by
  obtain ⟨a, b, c, d, rfl, r0, r1⟩ := mem_shape h
  unfold memB
  have hp : M <+: M ++ [⟨[.int .i64 m.1, .slice a m.2.1.length c, .slice b m.2.2.length d], 1, 2⟩] := List.prefix_append _ _
  have w1 := fun N : Mem => win_ok (M ++ N) m.1 1 1000
  rcases mem_cases m.1 m.2.1.length m.2.2.length with ⟨h0, hh⟩ | ⟨h0, ⟨h1, _⟩, ⟨_, h2⟩, ⟨h3, h3'⟩, ⟨h4, h4'⟩⟩
  · rw [h0, Bool.false_and]
    clear h0
    rcases hh with ⟨_, h1⟩ | ⟨⟨h1, _⟩, _, h2⟩ | ⟨⟨h1, _⟩, ⟨_, h2⟩, h3, h3'⟩ | ⟨⟨h1, _⟩, ⟨_, h2⟩, ⟨h3, h3'⟩, h4, h4'⟩
    · rw [decide_eq_false (fun q => h1 q.1)] at w1
      rw [aCall_eq T_impl_isMem]; unfold A_impl_isMem C_impl_isMem; simp [thenD_pp, sliceCells_sl, sliceCells_z, sliceCells_nil, take_full, appS_sl, appK_ok, appS_none, thenD_ag, agP_nil, agP_cons, w1]
    · rw [decide_eq_false (fun q => h2 q.2)] at w1
      rw [aCall_eq T_impl_isMem]; unfold A_impl_isMem C_impl_isMem; simp [thenD_pp, sliceCells_sl, sliceCells_z, sliceCells_nil, take_full, appS_sl, appK_ok, appS_none, thenD_ag, agP_nil, agP_cons, w1]
    · rw [within_ok h1 h2] at w1
      rw [aCall_eq T_impl_isMem]; unfold A_impl_isMem C_impl_isMem; simp [thenD_pp, sliceCells_sl, sliceCells_z, sliceCells_nil, take_full, appS_sl, appK_ok, appS_none, thenD_ag, agP_nil, agP_cons, w1, h3, h3']
    · rw [within_ok h1 h2] at w1
      rw [aCall_eq T_impl_isMem]; unfold A_impl_isMem C_impl_isMem; simp [thenD_pp, sliceCells_sl, sliceCells_z, sliceCells_nil, take_full, appS_sl, appK_ok, appS_none, thenD_ag, agP_nil, agP_cons, w1, h3, h3', h4, h4']
  rw [h0, Bool.true_and]
  rw [within_ok h1 h2] at w1
  rcases l_impl_isMem_0 M _ m a b c d M.length hp (by simp) r1 (by omega) (by omega) with ⟨X', hX, hX2, ha2, e2, hb⟩ | ⟨hn2, e2⟩
  · simp only [Int.natCast_zero, Int.ofNat_zero] at e2
    rw [atB_all ha2, Bool.and_true]
    have gb := fun b => gc_boolp hX b
    have ha := any_sl T_slices_ContainsFunc_impl_Cell_impl_Cell T_slices_IndexFunc_impl_Cell_impl_Cell rfl (r0.mono hX) (by omega) F_impl_isMem_1 [.pointer (some ⟨M.length, 0, none⟩)] (fun x => decide (¬ ((List.length (α := UInt8) x : Nat) : Int) = m.1)) (fun i hi cs hr => by
      obtain ⟨u, rfl⟩ := rep_cell1 hr
      exact c_impl_isMem_1 X' u _ hr M.length m.1 (by rw [rd1_K, hb]; rfl))
    have hall : (m.2.1.any (fun x => decide (¬ ((List.length (α := UInt8) x : Nat) : Int) = m.1))) = !(m.2.1.all (cellB m)) := by
      rw [List.any_eq_not_all_not]
      congr 2
      funext x
      unfold cellB
      simp
    rw [hall] at ha
    cases hq : m.2.1.all (cellB m) with
    | true =>
      rw [hq] at ha
      rw [aCall_eq T_impl_isMem]; unfold A_impl_isMem C_impl_isMem; simp [thenD_pp, sliceCells_sl, sliceCells_z, sliceCells_nil, take_full, appS_sl, appK_ok, appS_none, thenD_ag, agP_nil, agP_cons, w1, h3, h3', h4, h4', e2]
      rw [S_impl_isMem_0]; unfold B_impl_isMem_0; simp [thenD_pp, sliceCells_sl, sliceCells_z, sliceCells_nil, take_full, appS_sl, appK_ok, appS_none, thenD_ag, agP_nil, agP_cons, rd1_K, rdJ_ok, hb, gb, ha]
    | false =>
      rw [hq] at ha
      rw [aCall_eq T_impl_isMem]; unfold A_impl_isMem C_impl_isMem; simp [thenD_pp, sliceCells_sl, sliceCells_z, sliceCells_nil, take_full, appS_sl, appK_ok, appS_none, thenD_ag, agP_nil, agP_cons, w1, h3, h3', h4, h4', e2]
      rw [S_impl_isMem_0]; unfold B_impl_isMem_0; simp [thenD_pp, sliceCells_sl, sliceCells_z, sliceCells_nil, take_full, appS_sl, appK_ok, appS_none, thenD_ag, agP_nil, agP_cons, rd1_K, rdJ_ok, hb, gb, ha]
  · simp only [Int.natCast_zero, Int.ofNat_zero] at e2
    rw [atB_not hn2, Bool.and_false]
    rw [aCall_eq T_impl_isMem]; unfold A_impl_isMem C_impl_isMem; simp [thenD_pp, sliceCells_sl, sliceCells_z, sliceCells_nil, take_full, appS_sl, appK_ok, appS_none, thenD_ag, agP_nil, agP_cons, w1, h3, h3', h4, h4', e2]
abbrev enc_Rec (x : ty_Rec.D) : List V := [.bool x.1, .int .i64 x.2.1, .int .i64 x.2.2.1, strV x.2.2.2]
def RecsD (M : Mem) (rs : List ty_Rec.D) (ok : Bool) (p : V × Mem) : Prop := ∃ v n, p.1 = .tuple #[v, .bool ok] ∧ M <+: p.2 ∧ rs.length = n ∧ Grow M.length 4 p.2 v n (rs.map enc_Rec).flatten
theorem recsD_nil {M X : Mem} {b : Bool} (h : M <+: X) : RecsD M [] b (.tuple #[.slice none 0 0, .bool b], X) := ⟨_, 0, rfl, h, rfl, Grow.nil⟩
def implR (m : ty_Mem.D) : List ty_Rec.D := if m.2.1.all recR = true then m.2.1.map recX else []
def hs (h : Nat) (b : UInt8) : Nat := ((h ^^^ b.toNat) * 16777619) % 4294967296
/-- Records so far. -/
def RL (M : Mem) (k : Nat) (X : Mem) (v : V) (rs : List ty_Rec.D) : Prop := ∃ n, rs.length = n ∧ M <+: X ∧ Grow k 4 X v n (rs.map enc_Rec).flatten
theorem rl_D {M X : Mem} {v : V} {rs : List ty_Rec.D} {k : List V} {ok : Bool} (h : RL (M ++ [⟨k, 1, 2⟩]) (M.length + 1) X v rs) : RecsD M rs ok (.tuple #[v, .bool ok], X) := by
  obtain ⟨n, hn, hp, hg⟩ := h
  exact ⟨v, n, rfl, (List.prefix_append _ _).trans hp, hn, hg.le (by omega)⟩
theorem at_Cell {M : Mem} {a : Option Addr} {n c : Nat} {xs : List ty_Cell.D} (h : Rep (.sl ty_Cell) M [.slice a n c] xs) {i : Nat} (hi : i < xs.length) : ∃ l o u, a = some ⟨l, o, none⟩ ∧ rd1 M l (o + i) = some u ∧ rdn M l (o + i) 1 = some [u] ∧ Rep (.sl ty_Byte) M [u] xs[i] := by
  obtain ⟨_, l, o, rfl, cs, hrd, hrep⟩ := rep_at h hi
  have hl := hrep.len
  have hw1 : ty_Cell.w = 1 := rfl
  rw [hw1, Nat.mul_one] at hrd
  match cs, hl, hrd, hrep with
  | [u], _, hrd, hrep => exact ⟨l, o, u, rfl, rd1_of_one hrd, hrd, hrep⟩
theorem rep_blk {t : Ty} {M : Mem} {l o n c : Nat} {xs : List t.D} (h : Rep (.sl t) M [.slice (some ⟨l, o, none⟩) n c] xs) : ∃ blk, M[l]? = some blk ∧ blk.w = t.w ∧ n = xs.length := by
  rcases h with ⟨h, _⟩ | ⟨l', o', c', blk, css, e, h2, h3, h4, h5, h6, h7⟩
  · simp at h
  · simp only [List.cons.injEq, Value.slice.injEq, Option.some.injEq, Addr.mk.injEq, and_true, true_and] at e
    obtain ⟨⟨rfl, rfl⟩, rfl, rfl⟩ := e
    exact ⟨blk, h2, h4, rfl⟩
theorem rep_cells {t : Ty} {M : Mem} {enc : t.D → List V} (henc : ∀ (cs : List V) (x : t.D), Rep t M cs x → cs = enc x) {a : Option Addr} {n c : Nat} {xs : List t.D} (h : Rep (.sl t) M [.slice a n c] xs) {k c2 : Nat} (hk : k ≤ xs.length) :
    sliceCells M t.w (.slice a k c2) = some (k, ((xs.take k).map enc).flatten) := by
  rcases h with ⟨h, rfl⟩ | ⟨l', o', c', blk, css, e, h2, h3, h4, h5, h6, h7⟩
  · simp at h hk
    obtain ⟨rfl, rfl, rfl⟩ := h
    subst hk
    simp [sliceCells]
  · simp only [List.cons.injEq, Value.slice.injEq, and_true] at e
    obtain ⟨rfl, rfl, rfl⟩ := e
    by_cases hk0 : k = 0
    · subst hk0
      simp [sliceCells]
    have hw := Rep.css_w h5 h6
    have hcs : css = xs.map enc := by
      apply List.ext_getElem (by simp [h5])
      intro i h1 h2
      rw [List.getElem_map]
      exact henc _ _ (h6 i _ _ (by simp [h1]) (by simp))
    have hlen := flat_len hw
    have hpos := t.w_pos
    have h3' : blk.st = 1 ∨ blk.st = 2 := by
      rcases h3 with h3 | h3 | h3
      · exact .inl h3
      · exact .inr h3
      · subst h3; simp at hk; omega
    obtain ⟨r, hr⟩ := h7
    have hdl : css.flatten.length + r.length = blk.cells.length - o' := by rw [← List.length_drop, ← hr, List.length_append]
    have hle : k * t.w ≤ css.length * t.w := Nat.mul_le_mul_right _ (by omega)
    have hpos2 : 0 < k * t.w := Nat.mul_pos (by omega) hpos
    unfold sliceCells
    simp only
    rw [if_neg (by omega)]
    unfold rdn
    rw [h2]
    simp only
    rw [if_pos ⟨h3', by omega⟩]
    simp only [Option.map_some]
    congr 2
    rw [← hr, List.take_append_of_le_length (by omega)]
    have e2 : css = (xs.take k).map enc ++ (xs.drop k).map enc := by rw [hcs, ← List.map_append, List.take_append_drop]
    have e3 : (((xs.take k).map enc).flatten).length = k * t.w := by
      rw [flat_len (w := t.w) (fun cs hc => hw cs (by rw [e2]; exact List.mem_append_left _ hc))]
      simp [Nat.min_eq_left hk]
    rw [e2, List.flatten_append, ← e3, List.take_left']
    rfl
theorem flat_Byte (xs : List ty_Byte.D) : (xs.map enc_Byte).flatten = xs.map byteV := by
  induction xs with
  | nil => rfl
  | cons x xs ih => simp [ih]
theorem cells_Byte {M : Mem} {v : V} {ys : List UInt8} (h : Rep (.sl ty_Byte) M [v] ys) : ∃ a c, v = .slice a ys.length c ∧ sliceCells M 1 (.slice a ys.length c) = some (ys.length, ys.map byteV) := by
  obtain ⟨a, c, rfl⟩ := h.slen
  have := rep_cells (enc := enc_Byte) (fun cs x hx => hx) h (k := ys.length) (Nat.le_refl _) (c2 := c)
  rw [List.take_length] at this
  refine ⟨a, c, rfl, ?_⟩
  rw [← flat_Byte]
  exact this
theorem toBytes_map : ∀ ys : List UInt8, toBytes (ys.map byteV) = some ys
  | [] => rfl
  | y :: ys => by
    simp [toBytes, byteV, toBytes_map ys]
theorem c_bytes_Equal (M : Mem) (u v : V) (xs ys : List UInt8) (h : Rep (.sl ty_Byte) M [u] xs) (h2 : Rep (.sl ty_Byte) M [v] ys) : aCall T0 F_bytes_Equal [u, v] M = some (.bool (decide (xs = ys)), M) := by
  obtain ⟨a, c, rfl, s1⟩ := cells_Byte h
  obtain ⟨b, d, rfl, s2⟩ := cells_Byte h2
  rw [aCall_eq T_bytes_Equal]; unfold A_bytes_Equal C_bytes_Equal; simp [s1, s2, toBytes_map]
theorem all_false {w : List UInt8} {j : Nat} (hj : j < w.length) (h : okByte w[j] = false) : w.all okByte = false := by
  rw [List.all_eq_false]
  exact ⟨w[j], List.getElem_mem hj, by simp [h]⟩
theorem all_true {w : List UInt8} (h : ∀ i (hi : i < w.length), okByte w[i] = true) : w.all okByte = true := by
  rw [List.all_eq_true]
  intro b hb
  obtain ⟨i, hi, rfl⟩ := List.getElem_of_mem hb
  exact h i hi
theorem first_byte (w : List UInt8) : w.all okByte = true ∨ (w.all okByte = false ∧ ∃ j, ∃ hj : j < w.length, (∀ i (hi : i < w.length), i < j → okByte w[i] = true) ∧ okByte w[j] = false) := by
  rcases first_bad (fun i => (w[i]?).any okByte) w.length with h | ⟨j, h1, h2, h3⟩
  · left; exact all_true fun i hi => by have := h i hi; simpa [hi] using this
  · right
    have h3' : okByte w[j] = false := by simpa [h1] using h3
    exact ⟨all_false h1 h3', j, h1, fun i hi hij => by have := h2 i hij; simpa [hi] using this, h3'⟩
theorem okByte_t {b : UInt8} (h : okByte b = true) : ¬ ((b.toNat : Int) < 97) ∧ ¬ (122 < (b.toNat : Int)) := by
  simp only [okByte, Bool.and_eq_true, decide_eq_true_eq] at h; omega
theorem r_impl_isWord (M : Mem) (w : List UInt8) (hw : w.length ≤ 9223372036854775807) (i : Nat) (hi : i < w.length) (hb : okByte w[i] = true) :
    lp (aCall T0) K_impl_isWord_0 L_impl_isWord_0 [strV w, und, und, und, und, .int .i64 w.length, .int .i64 i, und, und, und, und, und, und, und, und, und, und, und, und, und, und, und, und] M = lp (aCall T0) K_impl_isWord_0 L_impl_isWord_0 [strV w, und, und, und, und, .int .i64 w.length, .int .i64 (i + 1 : Nat), und, und, und, und, und, und, und, und, und, und, und, und, und, und, und, und] M := by
  obtain ⟨h1, h2⟩ := okByte_t hb
  rw [S_impl_isWord_0]; unfold B_impl_isWord_0; simp [hi, byteV, h1, h2]
  rw [wrap_i64 (by omega) (by omega)]
theorem okByte_f {b : UInt8} (h : okByte b = false) : (b.toNat : Int) < 97 ∨ (¬ ((b.toNat : Int) < 97) ∧ (122 < (b.toNat : Int))) := by
  simp only [okByte, Bool.and_eq_false_iff, decide_eq_false_iff_not] at h; omega
theorem x_impl_isWord (M : Mem) (w : List UInt8) (hw : w.length ≤ 9223372036854775807) (i : Nat) (hi : i < w.length) (hb : okByte w[i] = false) (k : ACode) :
    thenF M [.tmp 2] (thenS (blockR 0 (lp (aCall T0) K_impl_isWord_0 L_impl_isWord_0 [strV w, und, und, und, und, .int .i64 w.length, .int .i64 i, und, und, und, und, und, und, und, und, und, und, und, und, und, und, und, und] M)) (aCall T0) k) = some (.bool false, M) := by
  rcases okByte_f hb with h1 | ⟨h1, h2⟩
  · rw [S_impl_isWord_0]; unfold B_impl_isWord_0; simp [hi, byteV, h1]
  · rw [S_impl_isWord_0]; unfold B_impl_isWord_0; simp [hi, byteV, h1, h2]
theorem c_impl_isWord (M : Mem) (w : List UInt8) (hw : w.length ≤ 9223372036854775807) : aCall T0 F_impl_isWord [strV w] M = some (.bool (wordB w), M) := by
  unfold wordB
  rcases first_byte w with ha | ⟨ha, j, hj, h1, h2⟩
  · have hl := chain (g := fun i : Nat => lp (aCall T0) K_impl_isWord_0 L_impl_isWord_0 [strV w, und, und, und, und, .int .i64 w.length, .int .i64 i, und, und, und, und, und, und, und, und, und, und, und, und, und, und, und, und] M) (n := w.length) fun i hi => r_impl_isWord M w hw i hi (List.all_eq_true.1 ha _ (List.getElem_mem hi))
    simp only [Int.natCast_zero, Int.ofNat_zero] at hl
    rw [ha]
    rw [aCall_eq T_impl_isWord]; unfold A_impl_isWord C_impl_isWord; simp [hl]
    rw [S_impl_isWord_0]; unfold B_impl_isWord_0; simp [c_impl_within]
  · have hl := chain (g := fun i : Nat => lp (aCall T0) K_impl_isWord_0 L_impl_isWord_0 [strV w, und, und, und, und, .int .i64 w.length, .int .i64 i, und, und, und, und, und, und, und, und, und, und, und, und, und, und, und, und] M) (n := j) fun i hi => r_impl_isWord M w hw i (by omega) (h1 i (by omega) hi)
    simp only [Int.natCast_zero, Int.ofNat_zero] at hl
    rw [ha]
    rw [aCall_eq T_impl_isWord]; unfold A_impl_isWord C_impl_isWord; simp [hl, x_impl_isWord M w hw j hj h2]
theorem wordB_len {w : List UInt8} (h : wordB w = true) : 1 ≤ w.length ∧ w.length ≤ 32 := by
  simp [wordB] at h; omega
theorem padL_len (w : List UInt8) : (padL w).length = 33 := by
  unfold padL
  split
  · rename_i h; have := wordB_len h; simp; omega
  · simp
abbrev padB (w : List UInt8) : Blk := ⟨(padL w).map byteV, 1, 2⟩
theorem padL_f {w : List UInt8} (h : wordB w = false) : (padL w).map byteV = zc (.int .u8 0) 33 := by
  unfold padL
  rw [h]
  simp only [Bool.false_eq_true, if_false]
  exact map_byte_rep 33
theorem padL_t {w : List UInt8} (h : wordB w = true) : (padL w).map byteV = .int .u8 w.length :: (w.map byteV ++ zc (.int .u8 0) (32 - w.length)) := by
  have := wordB_len h
  unfold padL
  rw [h]
  simp only [if_true]
  rw [List.map_cons, List.map_append, map_byte_rep, byteV_len (by omega)]
theorem c_impl_pad (M : Mem) (w : List UInt8) (hw : w.length ≤ 9223372036854775807) : aCall T0 F_impl_pad [strV w] M = some (.slice (some ⟨M.length, 0, none⟩) 33 33, M ++ [padB w]) := by
  unfold padB
  cases hb : wordB w with
  | false => rw [padL_f hb]; rw [aCall_eq T_impl_pad]; unfold A_impl_pad C_impl_pad; simp [c_impl_isWord _ _ hw, hb]
  | true =>
    obtain ⟨h1, h2⟩ := wordB_len hb
    rw [padL_t hb]
    have e1 : min w.length 32 = w.length := by omega
    have e2 : w ≠ [] := by rintro rfl; simp at h1
    rw [aCall_eq T_impl_pad]; unfold A_impl_pad C_impl_pad; simp [c_impl_isWord _ _ hw, hb, e1, e2]
    (simp (disch := omega) only [wrap_i64, wrap_u64, wrap_u8, wrap_u32, if_pos, if_neg]; try simp)
theorem rep_sub {M : Mem} {b o n c : Nat} {ys : List UInt8} (h : Rep (.sl ty_Byte) M [.slice (some ⟨b, o, none⟩) n c] ys) (l k : Nat) (hk : l + k ≤ ys.length) (c2 : Nat) : Rep (.sl ty_Byte) M [.slice (some ⟨b, o + l, none⟩) k c2] ((ys.drop l).take k) := by
  rcases h with ⟨e, rfl⟩ | ⟨l', o', c', blk, css, e, h2, h3, h4, h5, h6, h7⟩
  · simp at e
  · simp only [List.cons.injEq, Value.slice.injEq, Option.some.injEq, Addr.mk.injEq, and_true] at e
    obtain ⟨⟨rfl, rfl⟩, rfl, rfl⟩ := e
    have he : css = ys.map enc_Byte := by
      apply List.ext_getElem (by simp [h5])
      intro i p q
      have hx : i < ys.length := by omega
      have := h6 i css[i] ys[i] (List.getElem?_eq_getElem p) (List.getElem?_eq_getElem hx)
      rw [List.getElem_map]
      exact this
    rw [he, flat_Byte] at h7
    refine .inr ⟨b, o + l, c2, blk, ((ys.drop l).take k).map enc_Byte, ?_, h2, ?_, h4, ?_, ?_, ?_⟩
    · have : ((ys.drop l).take k).length = k := by rw [List.length_take, List.length_drop]; omega
      rw [this]
    · rcases h3 with h3 | h3 | h3
      · exact .inl h3
      · exact .inr (.inl h3)
      · exact .inr (.inr (by subst h3; simp))
    · rw [List.length_map]
    · intro i ds x hd hx
      rw [List.getElem?_map, hx] at hd
      cases hd
      rfl
    · rw [flat_Byte, List.map_take, List.map_drop, ← List.drop_drop]
      obtain ⟨t, ht⟩ := h7
      rw [← ht, List.drop_append]
      exact (List.take_prefix _ _).trans (List.prefix_append _ _)
theorem rep_blkB {M : Mem} {l : Nat} {ys : List UInt8} (c : Nat) (hb : M[l]? = some ⟨ys.map byteV, 1, 2⟩) : Rep (.sl ty_Byte) M [.slice (some ⟨l, 0, none⟩) ys.length c] ys := by
  obtain ⟨L, o1, _⟩ := own_blk (t := ty_Byte) (M := M) (l := l) (c := c) (enc := enc_Byte) (ys := ys) (by rw [flat_Byte]; exact hb) (fun y _ => own_Byte _ y)
  exact o1.rep
theorem c_impl_Unpad (M : Mem) (v : V) (ys : List UInt8) (h : Rep (.sl ty_Byte) M [v] ys) (hl : ys.length = 33) : aCall T0 F_impl_Unpad [v] M = some (.tuple #[strV (unW ys), .bool (unB ys)], M) := by
  obtain ⟨a, c, rfl⟩ := h.slen
  have h0 : 0 < ys.length := by omega
  obtain ⟨l, o, rfl, _, hrd⟩ := at_Byte h h0
  obtain ⟨blk, hb, hbw, _⟩ := rep_blk h
  have e0 : unL ys = ys[0].toNat := by
    match ys, h0 with
    | y :: ys, _ => rfl
  rw [Nat.add_zero] at hrd
  have hbw : blk.w = 1 := hbw
  unfold unW unB
  obtain ⟨d, hd⟩ : ∃ d, d = unL ys := ⟨_, rfl⟩
  have hby : byteV ys[0] = .int .u8 d := by rw [hd, e0]; rfl
  rw [hby] at hrd
  rw [← hd]
  by_cases h32 : d ≤ 32
  · have g1 : ¬ 32 < (d : Int) := by omega
    have e1 : IntKind.u8.wrap (1 + (d : Int)) = 1 + d := wrap_u8 (by omega) (by omega)
    have g2 : d ≤ 32 := h32
    have hs := rep_sub h 1 d (by omega) (max ys.length c - 1)
    have hs2 : Rep (.sl ty_Byte) M [.slice (some ⟨l, o + 1, none⟩) d (max ys.length c - 1)] (unC ys) := by unfold unC; rw [← hd]; exact hs
    have hul : (unC ys).length = d := by
      unfold unC
      rw [← hd, List.length_take, List.length_drop]
      omega
    obtain ⟨a1, c1, z1, z2⟩ := cells_Byte hs2
    rw [hul] at z1 z2
    cases z1
    rw [hl] at z2
    have b1 : (1 : Int) ≤ 1 + d := by omega
    have b2 : (1 : Int) + d ≤ 33 := by omega
    have b3 : ((1 : Int) + d).toNat - 1 = d := by omega
    rw [decide_eq_true h32]
    have w1 := fun M => c_impl_isWord M (unC ys) (by omega)
    have w2 := c_impl_pad M (unC ys) (by omega)
    have w3 := c_bytes_Equal (M ++ [padB (unC ys)]) _ _ (padL (unC ys)) ys (rep_blkB (l := M.length) 33 (by simp)) (h.mono (List.prefix_append _ _))
    rw [padL_len] at w3
    generalize decide (padL (unC ys) = ys) = q at w3 ⊢
    cases hw : wordB (unC ys) with
    | false =>
      rw [hw] at w1
      rw [aCall_eq T_impl_Unpad]; unfold A_impl_Unpad C_impl_Unpad; simp [hl, hrd, g1, e1, b1, b2, b3, hb, hbw, z2, toBytes_map, w1]
    | true =>
      rw [hw] at w1
      rw [hl] at w3
      cases q with
      | false => rw [aCall_eq T_impl_Unpad]; unfold A_impl_Unpad C_impl_Unpad; simp [hl, hrd, g1, e1, b1, b2, b3, hb, hbw, z2, toBytes_map, w1, w2, w3]
      | true => rw [aCall_eq T_impl_Unpad]; unfold A_impl_Unpad C_impl_Unpad; simp [hl, hrd, g1, e1, b1, b2, b3, hb, hbw, z2, toBytes_map, w1, w2, w3]
  · have g1 : 32 < (d : Int) := by omega
    rw [decide_eq_false h32]
    rw [aCall_eq T_impl_Unpad]; unfold A_impl_Unpad C_impl_Unpad; simp [hl, hrd, g1]
theorem at_B {M : Mem} {l o n c : Nat} {ys : List UInt8} (h : Rep (.sl ty_Byte) M [.slice (some ⟨l, o, none⟩) n c] ys) {i : Nat} (hi : i < ys.length) : rd1 M l (o + i) = some (.int .u8 (atN ys i : Nat)) := by
  obtain ⟨_, _, e, _, hrd⟩ := at_Byte h hi
  simp at e
  obtain ⟨rfl, rfl⟩ := e
  rw [hrd]
  unfold atN
  rw [List.getD_eq_getElem?_getD, List.getElem?_eq_getElem hi]
  rfl
theorem atN_lt (ys : List UInt8) (i : Nat) : atN ys i < 256 := UInt8.toNat_lt _
theorem or_i64 {a b : Nat} (ha : a < 256) (hb : b < 256) : bor .i64 ((256 * a : Nat) : Int) (b : Nat) = ((256 * a + b : Nat) : Int) := by
  have e : 256 * a ||| b = 256 * a + b := by
    have := Nat.shiftLeft_add_eq_or_of_lt (show b < 2 ^ 8 by omega) a
    rw [Nat.shiftLeft_eq] at this
    rw [Nat.mul_comm, ← this]
  unfold bor
  rw [ofInt_nat, ofInt_nat, BitVec.toNat_or, BitVec.toNat_ofNat, BitVec.toNat_ofNat]
  show IntKind.i64.wrap (((256 * a) % 2 ^ 64 ||| b % 2 ^ 64 : Nat) : Int) = _
  rw [Nat.mod_eq_of_lt (by omega), Nat.mod_eq_of_lt (by omega), e]
  exact wrap_i64 (by omega) (by omega)
theorem shl_8 {a : Nat} (ha : a < 256) : bshl .i64 (a : Int) 8 = ((256 * a : Nat) : Int) := by
  unfold bshl
  have : min (8 : Int).toNat IntKind.i64.bits = 8 := by decide
  rw [this, wrap_i64 (by omega) (by omega)]
  omega
theorem z_rec (r : ty_Rec.D) : decide (r = zRec) = (decide (r.1 = false) && (decide ((r.2.1 : Int) = 0) && (decide ((r.2.2.1 : Int) = 0) && decide (r.2.2.2 = [])))) := by
  obtain ⟨a, b, c, d⟩ := r
  simp [zRec]
theorem eq_rec (r : ty_Rec.D) : eqCells [0, 1, 1, 2] [.bool r.1, .int .i64 r.2.1, .int .i64 r.2.2.1, strV r.2.2.2] [.bool false, .int .i64 0, .int .i64 0, .string ⟨#[]⟩] = some (decide (r = zRec)) := by
  rw [z_rec]
  simp [eqCells]
  cases r.1 <;> simp
  by_cases h2 : (r.2.1 : Int) = 0 <;> simp [h2]
  by_cases h3 : (r.2.2.1 : Int) = 0 <;> simp [h3]
  by_cases h4 : r.2.2.2 = [] <;> simp [h4]
theorem c_impl_isRec (M : Mem) (r : ty_Rec.D) (hw : r.2.2.2.length ≤ 9223372036854775807) : aCall T0 F_impl_isRec [.agg (enc_Rec r).toArray] M = some (.bool (recB r), M) := by
  unfold recB
  have h2 := fun M => c_impl_isWord M r.2.2.2 hw
  cases he : decide (r = zRec) with
  | true =>
    have h3 := eq_rec r
    rw [he] at h3
    rw [aCall_eq T_impl_isRec]; unfold A_impl_isRec C_impl_isRec; simp [h3]
  | false =>
    have h3 := eq_rec r
    rw [he] at h3
    rw [aCall_eq T_impl_isRec]; unfold A_impl_isRec C_impl_isRec; simp [h3, h2, c_impl_within]
    repeat' ((first | rw [selO_some] | rw [condR_bool] | rw [selD_some]); split <;> rename_i hq <;> (have hq2 := hq) <;> (try simp at hq2) <;> (try simp [*, h2, c_impl_within]))
theorem recT_len (r : ty_Rec.D) : (recT r).length = 37 := by
  unfold recT
  rw [List.length_append, padL_len]
  rfl
def BG (M0 X : Mem) (v : V) (ys : List UInt8) : Prop := ∃ n, ys.length = n ∧ M0 <+: X ∧ Grow M0.length 1 X v n (ys.map byteV)
theorem BG.le {M M0 X : Mem} {v : V} {ys : List UInt8} (h : BG M0 X v ys) (hp : M <+: M0) : BG M X v ys := by
  obtain ⟨n, h1, h2, h3⟩ := h
  exact ⟨n, h1, hp.trans h2, h3.le hp.length_le⟩
theorem BG.pre {M0 X : Mem} {v : V} {ys : List UInt8} (h : BG M0 X v ys) : M0 <+: X := by
  obtain ⟨n, h1, h2, h3⟩ := h
  exact h2
theorem BG.sl {M0 X : Mem} {v : V} {ys : List UInt8} (h : BG M0 X v ys) : ∃ a n, v = .slice a n n ∧ ys.length = n := by
  obtain ⟨n, h1, h2, h3⟩ := h
  obtain ⟨a, e⟩ := h3.shape
  exact ⟨a, n, e, h1⟩
/-- A slice of bytes made anew. -/
def Bytes (M : Mem) (ys : List UInt8) (p : V × Mem) : Prop := BG M p.2 p.1 ys
theorem Bytes.get {M X : Mem} {v : V} {ys : List UInt8} {m : Nat} (h : Bytes M ys (v, X)) (hm : ys.length = m) : M <+: X ∧ (∃ a, v = .slice a m m) ∧ sliceCells X 1 v = some (m, ys.map byteV) := by
  obtain ⟨n, rfl, hp, hg⟩ := h
  subst hm
  exact ⟨hp, hg.shape, hg.cells⟩
theorem wrap_u8_mod (n : Nat) : IntKind.u8.wrap (n : Int) = ((n % 256 : Nat) : Int) := by
  simp [IntKind.wrap, IntKind.min, IntKind.max, IntKind.signed, IntKind.bits]
theorem shr8 (w : Nat) : bshr .i64 (w : Int) 8 = ((w / 256 : Nat) : Int) := by
  unfold bshr
  have : min (8 : Int).toNat IntKind.i64.bits = 8 := by decide
  rw [this, Int.fdiv_eq_ediv_of_nonneg _ (by decide)]
  simp
theorem rec_bounds {r : ty_Rec.D} (h : recB r = true) : (∃ d : Nat, r.2.1 = (d : Int) ∧ d ≤ 7) ∧ (∃ w : Nat, r.2.2.1 = (w : Int) ∧ w ≤ 65535) ∧ r.2.2.2.length ≤ 32 := by
  unfold recB at h
  rw [Bool.or_eq_true] at h
  rcases h with h | h
  · have h := of_decide_eq_true h
    subst h
    exact ⟨⟨0, rfl, by omega⟩, ⟨0, rfl, by omega⟩, by decide⟩
  · simp only [Bool.and_eq_true, decide_eq_true_eq] at h
    obtain ⟨⟨⟨_, h1, h2⟩, h3, h4⟩, h5⟩ := h
    have h5 := (wordB_len h5).2
    obtain ⟨a, d, w, s⟩ := r
    exact ⟨⟨Int.toNat d, (Int.toNat_of_nonneg h1).symm, Int.toNat_le.2 h2⟩, ⟨Int.toNat w, (Int.toNat_of_nonneg h3).symm, Int.toNat_le.2 h4⟩, h5⟩
theorem bytes_of {M N : Mem} {k n : Nat} {ys : List UInt8} {cs : List V} (h : N[k]? = some ⟨cs, 1, 2⟩) (hc : cs = ys.map byteV) (hn : ys.length = n) : Bytes M ys (.slice (some ⟨M.length + k, 0, none⟩) n n, M ++ N) := by
  subst hn hc
  refine ⟨_, rfl, List.prefix_append _ _, by simp, .inr ⟨M.length + k, by omega, rfl, ?_⟩⟩
  rw [List.getElem?_append_right (by omega), Nat.add_sub_cancel_left]
  exact h
theorem recT_cells (f : Bool) (d w : Nat) (s : List UInt8) (hd : d ≤ 7) (hw : w ≤ 65535) : (recT (f, (d : Int), (w : Int), s)).map byteV = Value.int .u8 (if f = true then 1 else 0) :: .int .u8 d :: .int .u8 ((w / 256 : Nat) : Int) :: .int .u8 ((w % 256 : Nat) : Int) :: (padL s).map byteV := by
  unfold recT
  simp only [List.map_append, List.map_cons, List.map_nil, Int.toNat_natCast]
  rw [byteV_len (by omega), byteV_len (by omega), byteV_len (by omega)]
  cases f <;> rfl
theorem c_impl_recOf (M : Mem) (r : ty_Rec.D) (hr : recB r = true) : Sat (aCall T0 F_impl_recOf [.agg (enc_Rec r).toArray] M) (Bytes M (recT r)) := by
  obtain ⟨⟨d, hd, hd7⟩, ⟨w, hw, hw7⟩, hs⟩ := rec_bounds hr
  have g1 := c_impl_pad (M ++ [⟨enc_Rec r, 1, 2⟩]) r.2.2.2 (by omega)
  obtain ⟨q, hq⟩ : ∃ q, q = w / 256 := ⟨_, rfl⟩
  obtain ⟨p, hp⟩ : ∃ p, p = w % 256 := ⟨_, rfl⟩
  have e1 : IntKind.u8.wrap (d : Int) = d := wrap_u8 (by omega) (by omega)
  have e2 : IntKind.u8.wrap (q : Int) = q := wrap_u8 (by omega) (by omega)
  have e3 := wrap_u8_mod w
  have e4 := shr8 w
  have hpl := padL_len r.2.2.2
  have hal := map_byte_all (padL r.2.2.2)
  obtain ⟨r1, r2, r3, r4⟩ := r
  simp only at hd hw
  subst hd hw
  have hc := recT_cells r1 d w r4 hd7 hw7
  rw [← hq] at e4 hc
  rw [← hp] at e3 hc
  dsimp only at g1 hpl hal
  cases r1 with
  | true =>
    rw [aCall_eq T_impl_recOf]; unfold A_impl_recOf C_impl_recOf; simp [thenD_pp, sliceCells_sl, sliceCells_z, sliceCells_nil, take_full, appS_sl, appK_ok, appS_none, thenD_ag, agP_nil, agP_cons, g1, e1, e2, e3, e4, hpl, hal]
    exact sat_some (bytes_of rfl hc.symm (recT_len _))
  | false =>
    rw [aCall_eq T_impl_recOf]; unfold A_impl_recOf C_impl_recOf; simp [thenD_pp, sliceCells_sl, sliceCells_z, sliceCells_nil, take_full, appS_sl, appK_ok, appS_none, thenD_ag, agP_nil, agP_cons, g1, e1, e2, e3, e4, hpl, hal]
    exact sat_some (bytes_of rfl hc.symm (recT_len _))
theorem bg_rep {M0 X : Mem} {v : V} {ys : List UInt8} (h : BG M0 X v ys) : ∃ L, M0 <+: X ∧ Own (.sl ty_Byte) X [v] ys L ∧ Fresh M0 X L := by
  obtain ⟨n, rfl, hp, hg⟩ := h
  rcases hg.2 with ⟨rfl, h0⟩ | ⟨l, hl, rfl, hb⟩
  · have : ys = [] := List.length_eq_zero_iff.1 h0
    subst this
    exact ⟨[], hp, .inl ⟨rfl, rfl, .inl ⟨rfl, rfl⟩⟩, by simp, by simp⟩
  · obtain ⟨L, o1, o2⟩ := own_blk (t := ty_Byte) (M := X) (l := l) (c := ys.length) (enc := enc_Byte) (ys := ys) (by rw [flat_Byte]; exact hb) (fun y _ => own_Byte _ y)
    refine ⟨L, hp, o1, nodup_flat ownf_Byte o1, fun j hj => ?_⟩
    rw [o2 j hj]
    exact ⟨hl, get_lt hb⟩
theorem unW_len (ys : List UInt8) : (unW ys).length ≤ ys.length := by
  unfold unW
  split
  · unfold unC
    rw [List.length_take, List.length_drop]
    omega
  · simp
def RecD (M : Mem) (r : ty_Rec.D) (b : Bool) (p : V × Mem) : Prop := p.1 = .tuple #[.agg (enc_Rec r).toArray, .bool b] ∧ M <+: p.2
theorem rep_drop {M : Mem} {b o n c : Nat} {ys : List UInt8} (h : Rep (.sl ty_Byte) M [.slice (some ⟨b, o, none⟩) n c] ys) (l : Nat) (hl : l ≤ ys.length) (k : Nat) (hk : k = ys.length - l) (c2 : Nat) : Rep (.sl ty_Byte) M [.slice (some ⟨b, o + l, none⟩) k c2] (ys.drop l) := by
  have := rep_sub h l k (by omega) c2
  rwa [List.take_of_length_le (by rw [List.length_drop]; omega)] at this
theorem c_impl_RecRead (M : Mem) (v : V) (ys : List UInt8) (h : Rep (.sl ty_Byte) M [v] ys) : Sat (aCall T0 F_impl_RecRead [v] M) (RecD M (recX ys) (recR ys)) := by
  obtain ⟨a, c, rfl⟩ := h.slen
  unfold recX recR
  by_cases hl : ys.length = 37
  rotate_left
  · rw [decide_eq_false hl]
    have hl2 : ¬ (ys.length : Int) = 37 := by omega
    rw [aCall_eq T_impl_RecRead]; unfold A_impl_RecRead C_impl_RecRead; simp [thenD_pp, sliceCells_sl, sliceCells_z, sliceCells_nil, take_full, appS_sl, appK_ok, appS_none, thenD_ag, agP_nil, agP_cons, hl, hl2, prim]
    exact sat_some ⟨rfl, List.prefix_append _ _⟩
  rw [decide_eq_true hl]
  rw [hl] at h ⊢
  obtain ⟨l, o, rfl, _⟩ := at_Byte h (show 0 < ys.length by omega)
  have q0 := at_B h (show 0 < ys.length by omega)
  have q1 := at_B h (show 1 < ys.length by omega)
  have q2 := at_B h (show 2 < ys.length by omega)
  have q3 := at_B h (show 3 < ys.length by omega)
  have t1 := atN_lt ys 1
  have t2 := atN_lt ys 2
  have t3 := atN_lt ys 3
  have t0 := atN_lt ys 0
  have e1 : IntKind.i64.wrap (atN ys 1 : Int) = atN ys 1 := wrap_i64 (by omega) (by omega)
  have e2 : IntKind.i64.wrap (atN ys 2 : Int) = atN ys 2 := wrap_i64 (by omega) (by omega)
  have e3 : IntKind.i64.wrap (atN ys 3 : Int) = atN ys 3 := wrap_i64 (by omega) (by omega)
  have e4 := shl_8 t2
  have e5 := or_i64 t2 t3
  obtain ⟨blk, hb, hbw, _⟩ := rep_blk h
  have hbw : blk.w = 1 := hbw
  have hd := rep_drop h 4 (by omega) 33 (by omega) (max 37 c - 4)
  have hdl : (ys.drop 4).length = 33 := by rw [List.length_drop, hl]
  have s1 := fun N : Mem => c_impl_Unpad (M ++ N) _ _ (hd.mono (List.prefix_append M N)) hdl
  have hw := unW_len (ys.drop 4)
  have hrI : recI ys = ((decide ((atN ys 0 : Int) = 1), (atN ys 1 : Int), 256 * (atN ys 2 : Int) + (atN ys 3 : Int), unW (ys.drop 4)) : ty_Rec.D) := by
    unfold recI
    rw [show decide (atN ys 0 = 1) = decide ((atN ys 0 : Int) = 1) from decide_eq_decide.2 (by omega)]
    simp
  rw [hrI]
  simp only [Int.natCast_mul, Int.natCast_add, Int.cast_ofNat_Int] at e4 e5
  rw [Nat.add_zero] at q0
  have k0 := fun N : Mem => rd1_old (N := N) q0
  have k1 := fun N : Mem => rd1_old (N := N) q1
  have k2 := fun N : Mem => rd1_old (N := N) q2
  have k3 := fun N : Mem => rd1_old (N := N) q3
  have hlt := get_lt hb
  have hb2 := fun N : Mem => (gt_app (N := N) hlt).trans hb
  rw [aCall_eq T_impl_RecRead]; unfold A_impl_RecRead C_impl_RecRead; simp [thenD_pp, sliceCells_sl, sliceCells_z, sliceCells_nil, take_full, appS_sl, appK_ok, appS_none, thenD_ag, agP_nil, agP_cons, hl, k0, k1, k2, k3, e1, e2, e3, e4, e5, hb2, hbw, s1, prim]
  generalize hx : aCall T0 F_impl_isRec _ _ = xhx
  have hx := hx.symm.trans (c_impl_isRec _ ((decide ((atN ys 0 : Int) = 1), (atN ys 1 : Int), 256 * (atN ys 2 : Int) + (atN ys 3 : Int), unW (ys.drop 4)) : ty_Rec.D) (by show (unW (ys.drop 4)).length ≤ _; omega))
  subst hx
  cases hq : recB ((decide ((atN ys 0 : Int) = 1), (atN ys 1 : Int), 256 * (atN ys 2 : Int) + (atN ys 3 : Int), unW (ys.drop 4)) : ty_Rec.D) with
  | false =>
    simp [thenD_pp, sliceCells_sl, sliceCells_z, sliceCells_nil, take_full, appS_sl, appK_ok, appS_none, thenD_ag, agP_nil, agP_cons, prim]
    exact sat_some ⟨rfl, List.prefix_append _ _⟩
  | true =>
    simp [thenD_pp, sliceCells_sl, sliceCells_z, sliceCells_nil, take_full, appS_sl, appK_ok, appS_none, thenD_ag, agP_nil, agP_cons]
    generalize hx : aCall T0 F_impl_recOf _ _ = xhx
    obtain ⟨v1, X1, rfl, g1⟩ := of_call hx (c_impl_recOf _ ((decide ((atN ys 0 : Int) = 1), (atN ys 1 : Int), 256 * (atN ys 2 : Int) + (atN ys 3 : Int), unW (ys.drop 4)) : ty_Rec.D) hq)
    clear hx
    obtain ⟨p1, ⟨_, rfl⟩, _⟩ := Bytes.get g1 (recT_len _)
    obtain ⟨L, _, o1, _⟩ := bg_rep g1
    have pM : M <+: X1 := (List.prefix_append _ _).trans p1
    have b0 : X1[M.length]? = some ⟨_, 1, 2⟩ := get_pre p1 (by simp; rfl)
    have b1 : X1[M.length + 1]? = some ⟨_, 1, 2⟩ := get_pre p1 (by simp; rfl)
    have s3 := c_bytes_Equal X1 _ _ _ ys o1.rep (h.mono pM)
    generalize hrt : recT ((decide ((atN ys 0 : Int) = 1), (atN ys 1 : Int), 256 * (atN ys 2 : Int) + (atN ys 3 : Int), unW (ys.drop 4)) : ty_Rec.D) = rt at s3 ⊢
    by_cases hbq : rt = ys
    · rw [decide_eq_true hbq] at s3
      clear hrt
      subst hbq
      simp [thenD_pp, sliceCells_sl, sliceCells_z, sliceCells_nil, take_full, appS_sl, appK_ok, appS_none, thenD_ag, agP_nil, agP_cons, s3, b0, b1, gs_of b0, prim, rd1_K, rdJ_ok, rdn_K, rnJ_ok, wrn_K, wrJ_ok]
      exact sat_some ⟨rfl, pf_set (Nat.le_refl _) pM⟩
    · rw [decide_eq_false hbq] at s3
      simp [thenD_pp, sliceCells_sl, sliceCells_z, sliceCells_nil, take_full, appS_sl, appK_ok, appS_none, thenD_ag, agP_nil, agP_cons, s3, hbq, b0, b1, gs_of b0, prim, rd1_K, rdJ_ok, rdn_K, rnJ_ok, wrn_K, wrJ_ok]
      exact sat_some ⟨rfl, pf_set (Nat.le_refl _) pM⟩
theorem scanL {P : ty_Cell.D → Bool} {cs : List ty_Cell.D} {i : Nat} (hi : i < cs.length) : (cs.take (i + 1)).map recX = (cs.take i).map recX ++ [recX cs[i]] := by
  rw [List.take_succ_eq_append_getElem hi, List.map_append]
  rfl
theorem l_impl_recsOf_0 (M Z : Mem) (m : ty_Mem.D) (a b : Option Addr) (c d : Nat) (h : Rep (.sl ty_Cell) M [.slice a m.2.1.length c] m.2.1) (hn : m.2.1.length ≤ 128) (v : V) (hZ : RL (M ++ [⟨[.int .i64 m.1, .slice a m.2.1.length c, .slice b m.2.2.length d], 1, 2⟩]) (M.length + 1) Z v []) :
    (∃ v' X', RL (M ++ [⟨[.int .i64 m.1, .slice a m.2.1.length c, .slice b m.2.2.length d], 1, 2⟩]) (M.length + 1) X' v' (m.2.1.map recX) ∧ (∀ i, i < m.2.1.length → atB recR m.2.1 i = true) ∧ lp (aCall T0) K_impl_recsOf_0 L_impl_recsOf_0 [und, und, und, und, v, und, und, und, und, und, .slice a m.2.1.length c, .int .i64 m.2.1.length, .int .i64 (0 : Nat), und, und, und, und, und, und, und, und, und, und, und, und, und, und, und, und, und] Z = lp (aCall T0) K_impl_recsOf_0 L_impl_recsOf_0 [und, und, und, und, v', und, und, und, und, und, .slice a m.2.1.length c, .int .i64 m.2.1.length, .int .i64 m.2.1.length, und, und, und, und, und, und, und, und, und, und, und, und, und, und, und, und, und] X') ∨
    ((∃ i, i < m.2.1.length ∧ atB recR m.2.1 i = false) ∧ ∀ k, Sat (thenF M [.tmp 2, .tmp 3] (thenS (blockR 0 (lp (aCall T0) K_impl_recsOf_0 L_impl_recsOf_0 [und, und, und, und, v, und, und, und, und, und, .slice a m.2.1.length c, .int .i64 m.2.1.length, .int .i64 (0 : Nat), und, und, und, und, und, und, und, und, und, und, und, und, und, und, und, und, und] Z)) (aCall T0) k)) (RecsD M [] false)) := by
  have key := loop_st (call := aCall T0) (K := K_impl_recsOf_0) (L := L_impl_recsOf_0) (fun i w Y => RL (M ++ [⟨[.int .i64 m.1, .slice a m.2.1.length c, .slice b m.2.2.length d], 1, 2⟩]) (M.length + 1) Y w ((m.2.1.take i).map recX)) (fun i w => [und, und, und, und, w, und, und, und, und, und, .slice a m.2.1.length c, .int .i64 m.2.1.length, .int .i64 i, und, und, und, und, und, und, und, und, und, und, und, und, und, und, und, und, und]) (atB recR m.2.1) (RecsD M [] false) (n := m.2.1.length) (M0 := M) (rs := [.tmp 2, .tmp 3]) (k0 := 0) v Z (by simpa using hZ) ?_ ?_
  · rcases key with ⟨v', X', h0, h1, h2⟩ | h
    · rw [List.take_length] at h0
      exact .inl ⟨v', X', h0, h1, h2⟩
    · exact .inr h
  · intro i w Y hi hq hY
    obtain ⟨n, hn1, pY, gY⟩ := hY
    have hn2 : n ≤ 128 := by rw [← hn1]; simp; omega
    have pM : M <+: Y := (List.prefix_append _ _).trans pY
    have b0 : Y[M.length]? = some ⟨[.int .i64 m.1, .slice a m.2.1.length c, .slice b m.2.2.length d], 1, 2⟩ := get_pre pY (by simp)
    have lb := get_lt b0
    obtain ⟨l, o, u, rfl, _, q1, q3⟩ := at_Cell (h.mono pM) hi
    rw [scanL (P := recR) hi]
    generalize (m.2.1.take i).map recX = rs at hn1 gY ⊢
    rw [atB_get _ hi] at hq
    generalize m.2.1[i] = cell at q3 hq ⊢
    have q4 := q3.mono (List.prefix_append Y [⟨[u], 1, 2⟩])
    have e6 : IntKind.i64.wrap ((i : Int) + 1) = i + 1 := wrap_i64 (by omega) (by omega)
    have q1' := rdn_old (N := [⟨[u], 1, 2⟩]) q1
    obtain ⟨_, _, rfl⟩ := q3.slen
    rw [S_impl_recsOf_0]; unfold B_impl_recsOf_0; simp [thenD_pp, sliceCells_sl, sliceCells_z, sliceCells_nil, take_full, appS_sl, appK_ok, appS_none, thenD_ag, agP_nil, agP_cons, hi, q1]
    generalize hx : aCall T0 F_impl_RecRead _ _ = xhx
    obtain ⟨w1, X1, rfl, rfl, p1⟩ := of_call hx (c_impl_RecRead _ _ _ q4)
    clear hx
    generalize recX cell = rr
    have p2 := (List.prefix_append _ _).trans p1
    obtain ⟨_, rfl⟩ := gY.shape
    simp [thenD_pp, sliceCells_sl, sliceCells_z, sliceCells_nil, take_full, appS_sl, appK_ok, appS_none, thenD_ag, agP_nil, agP_cons, hq, zeroCells]
    generalize hy : appS _ _ _ _ _ _ = xhy
    obtain ⟨a3, X3, rfl, g3, ag, l3⟩ := gY.at hy (p2.trans (List.prefix_append _ _)) (by omega) (by rfl) (by omega) (by rfl) (by omega) (by omega)
    clear hy
    simp [thenD_pp, sliceCells_sl, sliceCells_z, sliceCells_nil, take_full, appS_sl, appK_ok, appS_none, thenD_ag, agP_nil, agP_cons, e6]
    refine ⟨_, _, ⟨n + 1, by rw [List.length_append, hn1]; rfl, ag.pre (pf_app (pY.trans p2)) fun j hj => by have := gY.ge j hj; simp; omega, ?_⟩, rfl⟩
    rw [List.map_append, List.flatten_append]
    simpa using g3
  · intro i w Y hi hq hY k
    obtain ⟨n, hn1, pY, gY⟩ := hY
    have pM : M <+: Y := (List.prefix_append _ _).trans pY
    obtain ⟨l, o, u, rfl, _, q1, q3⟩ := at_Cell (h.mono pM) hi
    rw [atB_get _ hi] at hq
    generalize m.2.1[i] = cell at q3 hq ⊢
    have q4 := q3.mono (List.prefix_append Y [⟨[u], 1, 2⟩])
    obtain ⟨_, _, rfl⟩ := q3.slen
    rw [S_impl_recsOf_0]; unfold B_impl_recsOf_0; simp [thenD_pp, sliceCells_sl, sliceCells_z, sliceCells_nil, take_full, appS_sl, appK_ok, appS_none, thenD_ag, agP_nil, agP_cons, hi, q1]
    generalize hx : aCall T0 F_impl_RecRead _ _ = xhx
    obtain ⟨w1, X1, rfl, rfl, p1⟩ := of_call hx (c_impl_RecRead _ _ _ q4)
    clear hx
    generalize recX cell = rr at hq ⊢
    have p2 := (List.prefix_append _ _).trans p1
    simp [thenD_pp, sliceCells_sl, sliceCells_z, sliceCells_nil, take_full, appS_sl, appK_ok, appS_none, thenD_ag, agP_nil, agP_cons, hq]
    exact sat_some (recsD_nil (pf_app (pM.trans p2)))
theorem c_impl_recsOf (M : Mem) (cs : List V) (m : ty_Mem.D) (h : Rep ty_Mem M cs m) (hn : m.2.1.length ≤ 128) : Sat (aCall T0 F_impl_recsOf [.agg cs.toArray] M) (RecsD M (implR m) (m.2.1.all recR)) := by
  obtain ⟨a, b, c, d, rfl, r0, r1⟩ := mem_shape h
  unfold implR
  rcases l_impl_recsOf_0 M _ m a b c d r0 hn (.slice none 0 0) ⟨0, rfl, List.prefix_refl _, Grow.nil⟩ with ⟨v', X', h0, h1, e⟩ | ⟨hb, e⟩
  · simp only [Int.natCast_zero, Int.ofNat_zero] at e
    rw [atB_all h1, if_pos rfl]
    rw [aCall_eq T_impl_recsOf]; unfold A_impl_recsOf C_impl_recsOf; simp [thenD_pp, sliceCells_sl, sliceCells_z, sliceCells_nil, take_full, appS_sl, appK_ok, appS_none, thenD_ag, agP_nil, agP_cons, e]
    have hs := rl_D (ok := true) h0
    obtain ⟨_, _, hg⟩ := h0
    obtain ⟨_, rfl⟩ := hg.2.shape
    rw [S_impl_recsOf_0]; unfold B_impl_recsOf_0; simp [thenD_pp, sliceCells_sl, sliceCells_z, sliceCells_nil, take_full, appS_sl, appK_ok, appS_none, thenD_ag, agP_nil, agP_cons]
    exact sat_some hs
  · simp only [Int.natCast_zero, Int.ofNat_zero] at e
    rw [atB_not hb, if_neg (by decide)]
    rw [aCall_eq T_impl_recsOf]; unfold A_impl_recsOf C_impl_recsOf; simp [thenD_pp, sliceCells_sl, sliceCells_z, sliceCells_nil, take_full, appS_sl, appK_ok, appS_none, thenD_ag, agP_nil, agP_cons]
    exact e _
theorem own_Rec (M : Mem) (x : ty_Rec.D) (h1 : (Lit.int .i64 x.2.1).wf = true) (h2 : (Lit.int .i64 x.2.2.1).wf = true) : Own ty_Rec M (enc_Rec x) x [] := ⟨[.bool x.1], [.int .i64 x.2.1, .int .i64 x.2.2.1, strV x.2.2.2], [], [], rfl, ⟨rfl, rfl⟩, ⟨[.int .i64 x.2.1], [.int .i64 x.2.2.1, strV x.2.2.2], [], [], rfl, ⟨⟨rfl, h1⟩, rfl⟩, ⟨[.int .i64 x.2.2.1], [strV x.2.2.2], [], [], rfl, ⟨⟨rfl, h2⟩, rfl⟩, ⟨rfl, rfl⟩, rfl⟩, rfl⟩, rfl⟩
theorem wf_range {z : Int} (h : -9223372036854775808 ≤ z ∧ z ≤ 9223372036854775807) : (Lit.int .i64 z).wf = true := by
  simp [Lit.wf, IntKind.min, IntKind.max, IntKind.signed, IntKind.bits]; omega
theorem grow_Rec {k n : Nat} {X : Mem} {v : V} {rs : List ty_Rec.D} (hg : Grow k 4 X v n (rs.map enc_Rec).flatten) (hn : rs.length = n) (hb : ∀ r ∈ rs, ((-9223372036854775808 ≤ r.2.1 ∧ r.2.1 ≤ 9223372036854775807) ∧ (-9223372036854775808 ≤ r.2.2.1 ∧ r.2.2.1 ≤ 9223372036854775807)) ∧ r.2.2.2.length ≤ 37) : Rep (.sl ty_Rec) X [v] rs := by
  subst hn
  obtain ⟨hl, hg⟩ := hg
  rcases hg with ⟨rfl, h0⟩ | ⟨l, hl2, rfl, hbl⟩
  · have : rs = [] := List.length_eq_zero_iff.1 h0
    subst this
    exact .inl ⟨rfl, rfl⟩
  · obtain ⟨L, o1, o2⟩ := own_blk (t := ty_Rec) (M := X) (l := l) (c := rs.length) (enc := enc_Rec) (ys := rs) hbl (fun y hy => own_Rec X y (wf_range (hb y hy).1.1) (wf_range (hb y hy).1.2))
    exact o1.rep
theorem recX_bd (c : List UInt8) (hc : c.length = 37) : ((-9223372036854775808 ≤ (recX c).2.1 ∧ (recX c).2.1 ≤ 9223372036854775807) ∧ (-9223372036854775808 ≤ (recX c).2.2.1 ∧ (recX c).2.2.1 ≤ 9223372036854775807)) ∧ (recX c).2.2.2.length ≤ 37 := by
  unfold recX
  split
  · have t1 := atN_lt c 1
    have t2 := atN_lt c 2
    have t3 := atN_lt c 3
    have := unW_len (c.drop 4)
    rw [List.length_drop] at this
    exact ⟨⟨⟨by show (-9223372036854775808 : Int) ≤ (atN c 1 : Nat); omega, by show ((atN c 1 : Nat) : Int) ≤ _; omega⟩, ⟨by show (-9223372036854775808 : Int) ≤ ((256 * atN c 2 + atN c 3 : Nat) : Int); omega, by show ((256 * atN c 2 + atN c 3 : Nat) : Int) ≤ _; omega⟩⟩, by show (unW (c.drop 4)).length ≤ _; omega⟩
  · exact ⟨by decide, by decide⟩
theorem recX_bd2 (c : List UInt8) : ((-9223372036854775808 ≤ (recX c).2.1 ∧ (recX c).2.1 ≤ 9223372036854775807) ∧ (-9223372036854775808 ≤ (recX c).2.2.1 ∧ (recX c).2.2.1 ≤ 9223372036854775807)) ∧ (recX c).2.2.2.length ≤ 37 := by
  cases hq : recR c with
  | true =>
    have : c.length = 37 := by
      unfold recR at hq
      rw [Bool.and_eq_true] at hq
      exact of_decide_eq_true hq.1
    exact recX_bd c this
  | false =>
    unfold recX
    rw [hq, if_neg (by decide)]
    exact ⟨by decide, by decide⟩
theorem recs_bd {m : List ty_Cell.D} : ∀ r ∈ m.map recX, ((-9223372036854775808 ≤ r.2.1 ∧ r.2.1 ≤ 9223372036854775807) ∧ (-9223372036854775808 ≤ r.2.2.1 ∧ r.2.2.1 ≤ 9223372036854775807)) ∧ r.2.2.2.length ≤ 37 := by
  intro r hr
  obtain ⟨c, _, rfl⟩ := List.mem_map.1 hr
  exact recX_bd2 c
theorem rep_Rec {M : Mem} {cs : List V} {x : ty_Rec.D} (h : Rep ty_Rec M cs x) : cs = enc_Rec x := by
  obtain ⟨_, _, rfl, rfl, ⟨_, _, rfl, ⟨rfl, _⟩, ⟨_, _, rfl, ⟨rfl, _⟩, rfl⟩⟩⟩ := h
  rfl
theorem at_Rec {M : Mem} {a : Option Addr} {n c : Nat} {xs : List ty_Rec.D} (h : Rep (.sl ty_Rec) M [.slice a n c] xs) {i : Nat} (hi : i < xs.length) : ∃ l o, a = some ⟨l, o, none⟩ ∧ Rep ty_Rec M (enc_Rec xs[i]) xs[i] ∧ rdn M l (o + i * 4) 4 = some (enc_Rec xs[i]) ∧ rd1 M l (o + i * 4) = some (.bool xs[i].1) ∧ rd1 M l (o + i * 4 + 1) = some (.int .i64 xs[i].2.1) ∧ rd1 M l (o + i * 4 + 2) = some (.int .i64 xs[i].2.2.1) ∧ rd1 M l (o + i * 4 + 3) = some (strV xs[i].2.2.2) := by
  obtain ⟨_, l, o, rfl, cs, hrd, hrep⟩ := rep_at h hi
  have hcs := rep_Rec hrep
  subst hcs
  have hw : ty_Rec.w = 4 := rfl
  rw [hw] at hrd
  exact ⟨l, o, rfl, hrep, hrd, rd1_of_rdn hrd (k := 0) rfl, rd1_of_rdn hrd (k := 1) rfl, rd1_of_rdn hrd (k := 2) rfl, rd1_of_rdn hrd (k := 3) rfl⟩
theorem c_impl_recIndex_1 (M : Mem) (r : ty_Rec.D) (p : Nat) (w : List UInt8) (hp : rd1 M p 0 = some (strV w)) : aCall T0 F_impl_recIndex_1 [.agg (enc_Rec r).toArray, .pointer (some ⟨p, 0, none⟩)] M = some (.bool (liveW w r), M) := by
  have h2 : ∀ N, rd1 (M ++ N) p 0 = some (strV w) := fun N => rd1_old hp
  unfold liveW
  obtain ⟨r1, r2, r3, r4⟩ := r
  cases r1 with
  | false => rw [aCall_eq T_impl_recIndex_1]; unfold A_impl_recIndex_1 C_impl_recIndex_1; simp [thenD_pp, sliceCells_sl, sliceCells_z, sliceCells_nil, take_full, appS_sl, appK_ok, appS_none, thenD_ag, agP_nil, agP_cons, h2]
  | true => rw [aCall_eq T_impl_recIndex_1]; unfold A_impl_recIndex_1 C_impl_recIndex_1; simp [thenD_pp, sliceCells_sl, sliceCells_z, sliceCells_nil, take_full, appS_sl, appK_ok, appS_none, thenD_ag, agP_nil, agP_cons, h2]
theorem c_impl_recIndex (M : Mem) (v : V) (xs : List ty_Rec.D) (w : List UInt8) (h : Rep (.sl ty_Rec) M [v] xs) (hn : xs.length ≤ 1048576) : aCall T0 F_impl_recIndex [v, strV w] M = some (.int .i64 (idx (liveW w) xs), M) := by
  have hi := idx_sl T_slices_IndexFunc_impl_Rec_impl_Rec rfl (h.mono (List.prefix_append M [⟨[strV w], 1, 2⟩])) (by omega) F_impl_recIndex_1 [.pointer (some ⟨M.length, 0, none⟩)] (liveW w) (fun i hi cs hr => by
    have := rep_Rec hr
    subst this
    exact c_impl_recIndex_1 _ _ M.length w (by simp))
  rw [aCall_eq T_impl_recIndex]; unfold A_impl_recIndex C_impl_recIndex; simp [thenD_pp, sliceCells_sl, sliceCells_z, sliceCells_nil, take_full, appS_sl, appK_ok, appS_none, thenD_ag, agP_nil, agP_cons, hi]
def fr2 (rs : List ty_Rec.D) (i : Nat) : Bool := match rs[i]? with
  | some r => decide (r.2.1 = (0 : Int)) && frB rs r i
  | none => true
theorem fr2_get {rs : List ty_Rec.D} {i : Nat} (hi : i < rs.length) : fr2 rs i = (decide (rs[i].2.1 = (0 : Int)) && frB rs rs[i] i) := by unfold fr2; rw [List.getElem?_eq_getElem hi]
theorem l_impl_scanRecs_0 (M X : Mem) (hM : M <+: X) (v : V) (k : Nat) (rs : List ty_Rec.D) (h : Rep (.sl ty_Rec) X [v] rs) (hn : rs.length ≤ 1048576) (hv : v = .slice none 0 0 ∨ k = rs.length) (ok : V) :
    (∃ X', X <+: X' ∧ (∀ i, i < rs.length → fr2 rs i = true) ∧ lp (aCall T0) K_impl_scanRecs_0 L_impl_scanRecs_0 [und, und, und, und, v, ok, und, und, und, und, und, und, und, und, und, und, und, und, und, und, und, und, und, und, und, und, und, und, und, und, und, und, v, .int .i64 rs.length, .int .i64 (0 : Nat), und, und, und, und, und, und, und, und, und, und, und, und, und, und, und, und, und, und, und, und, und, und] X = lp (aCall T0) K_impl_scanRecs_0 L_impl_scanRecs_0 [und, und, und, und, v, ok, und, und, und, und, und, und, und, und, und, und, und, und, und, und, und, und, und, und, und, und, und, und, und, und, und, und, v, .int .i64 rs.length, .int .i64 rs.length, und, und, und, und, und, und, und, und, und, und, und, und, und, und, und, und, und, und, und, und, und, und] X') ∨
    ((∃ i, i < rs.length ∧ fr2 rs i = false) ∧ ∀ k, Sat (thenF M [.tmp 2, .tmp 3] (thenS (blockR 0 (lp (aCall T0) K_impl_scanRecs_0 L_impl_scanRecs_0 [und, und, und, und, v, ok, und, und, und, und, und, und, und, und, und, und, und, und, und, und, und, und, und, und, und, und, und, und, und, und, und, und, v, .int .i64 rs.length, .int .i64 (0 : Nat), und, und, und, und, und, und, und, und, und, und, und, und, und, und, und, und, und, und, und, und, und, und] X)) (aCall T0) k)) (RecsD M [] false)) := by
  have key := loop_st (call := aCall T0) (K := K_impl_scanRecs_0) (L := L_impl_scanRecs_0) (fun _ (_ : Unit) Y => X <+: Y) (fun i _ => [und, und, und, und, v, ok, und, und, und, und, und, und, und, und, und, und, und, und, und, und, und, und, und, und, und, und, und, und, und, und, und, und, v, .int .i64 rs.length, .int .i64 i, und, und, und, und, und, und, und, und, und, und, und, und, und, und, und, und, und, und, und, und, und, und]) (fr2 rs) (RecsD M [] false) (n := rs.length) (M0 := M) (rs := [.tmp 2, .tmp 3]) (k0 := 0) () X (List.prefix_refl _) ?_ ?_
  · rcases key with ⟨_, X', h0, h1, h2⟩ | h
    · exact .inl ⟨X', h0, h1, h2⟩
    · exact .inr h
  · intro i _ Y hi hq hY
    have s1 := fun (N : Mem) (w : List UInt8) => c_impl_recIndex (Y ++ N) v rs w (h.mono (hY.trans (List.prefix_append _ _))) hn
    obtain ⟨a, c, rfl⟩ := h.slen
    obtain ⟨l, o, rfl, _, q0, _⟩ := at_Rec (h.mono hY) hi
    have e6 : IntKind.i64.wrap ((i : Int) + 1) = i + 1 := wrap_i64 (by omega) (by omega)
    rw [fr2_get hi] at hq
    unfold frB at hq
    generalize rs[i] = r at q0 hq
    obtain ⟨r1, r2, r3, r4⟩ := r
    refine ⟨(), Y ++ [⟨enc_Rec (r1, r2, r3, r4), 1, 2⟩], hY.trans (List.prefix_append _ _), ?_⟩
    rw [Bool.and_eq_true] at hq
    obtain ⟨hd, hq⟩ := hq
    have hd := of_decide_eq_true hd
    simp only at hd
    subst hd
    cases r1 with
    | false =>
      rw [S_impl_scanRecs_0]; unfold B_impl_scanRecs_0; simp [thenD_pp, sliceCells_sl, sliceCells_z, sliceCells_nil, take_full, appS_sl, appK_ok, appS_none, thenD_ag, agP_nil, agP_cons, hi, q0, e6]
    | true =>
      simp only [Bool.true_and, Bool.not_eq_true', decide_eq_false_iff_not] at hq
      rw [S_impl_scanRecs_0]; unfold B_impl_scanRecs_0; simp [thenD_pp, sliceCells_sl, sliceCells_z, sliceCells_nil, take_full, appS_sl, appK_ok, appS_none, thenD_ag, agP_nil, agP_cons, hi, q0, s1, hq, e6]
  · intro i _ Y hi hq hY k
    have s1 := fun (N : Mem) (w : List UInt8) => c_impl_recIndex (Y ++ N) v rs w (h.mono (hY.trans (List.prefix_append _ _))) hn
    obtain ⟨a, c, rfl⟩ := h.slen
    obtain ⟨l, o, rfl, _, q0, _⟩ := at_Rec (h.mono hY) hi
    rw [fr2_get hi] at hq
    unfold frB at hq
    generalize rs[i] = r at q0 hq
    obtain ⟨r1, r2, r3, r4⟩ := r
    by_cases hd : (r2 : Int) = 0
    rotate_left
    · rw [S_impl_scanRecs_0]; unfold B_impl_scanRecs_0; simp [thenD_pp, sliceCells_sl, sliceCells_z, sliceCells_nil, take_full, appS_sl, appK_ok, appS_none, thenD_ag, agP_nil, agP_cons, hi, q0, hd]
      exact sat_some (recsD_nil (pf_app (hM.trans hY)))
    · have hd2 : decide (r2 = (0 : Int)) = true := decide_eq_true hd
      simp only [hd2, Bool.true_and, Bool.not_eq_false', Bool.and_eq_true, decide_eq_true_eq] at hq
      obtain ⟨rfl, hq⟩ := hq
      rw [S_impl_scanRecs_0]; unfold B_impl_scanRecs_0; simp [thenD_pp, sliceCells_sl, sliceCells_z, sliceCells_nil, take_full, appS_sl, appK_ok, appS_none, thenD_ag, agP_nil, agP_cons, hi, q0, hd, s1, hq]
      exact sat_some (recsD_nil (pf_app (hM.trans hY)))
def scanR (m : ty_Scan.D) : List ty_Rec.D := if scanB m = true then m.2.1.map recX else []
theorem fr1_get {rs : List ty_Rec.D} {i : Nat} (hi : i < rs.length) : fr1 rs i = frB rs rs[i] i := by unfold fr1; rw [List.getElem?_eq_getElem hi]
theorem range_all2 {p : Nat → Bool} {n : Nat} (h : (List.range n).all p = true) : ∀ i, i < n → p i = true := fun i hi => List.all_eq_true.1 h i (List.mem_range.2 hi)
theorem fr2_all {cs : List ty_Cell.D} (hr : cs.all recR = true) : (List.range cs.length).all (fr2 (cs.map recX)) = (cs.all recOk && (List.range cs.length).all (fr1 (cs.map recX))) := by
  have hn : (cs.map recX).length = cs.length := List.length_map _
  rw [Bool.eq_iff_iff, Bool.and_eq_true]
  simp only [List.all_eq_true] at hr
  constructor
  · intro h
    have h := range_all2 h
    refine ⟨atB_all fun i hi => ?_, List.all_eq_true.2 fun i hi => ?_⟩
    · have := h i hi
      rw [fr2_get (by omega), Bool.and_eq_true] at this
      rw [atB_get _ hi]
      unfold recOk
      rw [hr _ (List.getElem_mem hi)]
      simpa using this.1
    · have hi := List.mem_range.1 hi
      have := h i hi
      rw [fr2_get (by omega), Bool.and_eq_true] at this
      rw [fr1_get (by omega)]
      exact this.2
  · intro ⟨h1, h2⟩
    have h2 := range_all2 h2
    simp only [List.all_eq_true] at h1
    refine List.all_eq_true.2 fun i hi => ?_
    have hi := List.mem_range.1 hi
    have q2 := h2 i hi
    rw [fr1_get (by omega)] at q2
    rw [fr2_get (by omega), q2, Bool.and_true]
    have := h1 _ (List.getElem_mem hi)
    unfold recOk at this
    rw [Bool.and_eq_true] at this
    simpa using this.2
theorem not_recR {cs : List ty_Cell.D} (h : cs.all recR = false) : cs.all recOk = false := by
  rw [List.all_eq_false] at h ⊢
  obtain ⟨c, hc, hq⟩ := h
  refine ⟨c, hc, ?_⟩
  unfold recOk
  simp only [Bool.not_eq_true] at hq
  rw [hq]
  simp
theorem c_impl_scanRecs (M : Mem) (cs : List V) (m : ty_Scan.D) (h : Rep ty_Scan M cs m) : Sat (aCall T0 F_impl_scanRecs [.agg cs.toArray] M) (RecsD M (scanR m) (scanB m)) := by
  have s1 := fun N : Mem => c_impl_isMem (M ++ N) cs m (h.mono (List.prefix_append _ _))
  have s2 := fun N : Mem => c_impl_recsOf (M ++ N) cs m (h.mono (List.prefix_append _ _))
  obtain ⟨a, b, c, d, rfl, r0, r1⟩ := mem_shape h
  have w1 := fun N : Mem => win_ok (M ++ N) m.2.1.length 1 64
  have hbad : ∀ x, scanB m = false → x = some (.tuple #[.slice none 0 0, .bool false], M ++ [⟨[.int .i64 m.1, .slice a m.2.1.length c, .slice b m.2.2.length d], 1, 2⟩]) → Sat x (RecsD M (scanR m) (scanB m)) := by
    intro x hb hx
    unfold scanR
    rw [hb, if_neg (by decide), hx]
    exact sat_some (recsD_nil (List.prefix_append _ _))
  cases h4 : memB m with
  | false =>
    refine hbad _ (by unfold scanB; rw [h4, Bool.and_false, Bool.false_and]) ?_
    rw [h4] at s1
    rw [aCall_eq T_impl_scanRecs]; unfold A_impl_scanRecs C_impl_scanRecs; simp [thenD_pp, sliceCells_sl, sliceCells_z, sliceCells_nil, take_full, appS_sl, appK_ok, appS_none, thenD_ag, agP_nil, agP_cons, s1]
  | true =>
  rw [h4] at s1
  by_cases h2 : 1 ≤ m.2.1.length ∧ m.2.1.length ≤ 64
  rotate_left
  · refine hbad _ (by unfold scanB; rw [decide_eq_false (fun q => h2 q.2), Bool.false_and, Bool.false_and]) ?_
    rw [decide_eq_false (by omega)] at w1
    rw [aCall_eq T_impl_scanRecs]; unfold A_impl_scanRecs C_impl_scanRecs; simp [thenD_pp, sliceCells_sl, sliceCells_z, sliceCells_nil, take_full, appS_sl, appK_ok, appS_none, thenD_ag, agP_nil, agP_cons, s1, w1]
  rw [decide_eq_true (by omega)] at w1
  by_cases h1 : (m.1 : Int) = 37
  rotate_left
  · refine hbad _ (by unfold scanB; rw [decide_eq_false (fun q => h1 q.1), Bool.false_and, Bool.false_and]) ?_
    rw [aCall_eq T_impl_scanRecs]; unfold A_impl_scanRecs C_impl_scanRecs; simp [thenD_pp, sliceCells_sl, sliceCells_z, sliceCells_nil, take_full, appS_sl, appK_ok, appS_none, thenD_ag, agP_nil, agP_cons, s1, w1, h1]
  have e0 : scanB m = (m.2.1.all recOk && (List.range m.2.1.length).all (fr1 (m.2.1.map recX))) := by
    unfold scanB
    rw [h4, decide_eq_true ⟨h1, h2⟩]
    rfl
  have nilD : ∀ {X : Mem}, M <+: X → scanB m = false → RecsD M (scanR m) (scanB m) (.tuple #[.slice none 0 0, .bool false], X) := by
    intro X hX hb
    unfold scanR
    rw [hb, if_neg (by decide)]
    exact recsD_nil hX
  clear hbad
  rw [aCall_eq T_impl_scanRecs]; unfold A_impl_scanRecs C_impl_scanRecs; simp [thenD_pp, sliceCells_sl, sliceCells_z, sliceCells_nil, take_full, appS_sl, appK_ok, appS_none, thenD_ag, agP_nil, agP_cons, s1, w1, eq_true h1]
  generalize hx : aCall T0 F_impl_recsOf _ _ = xhx
  obtain ⟨w2, X1, rfl, v, n, e1, p1, hn1, g1⟩ := of_call hx (s2 _ (by omega))
  clear hx
  simp only at e1
  subst e1
  have pM : M <+: X1 := (List.prefix_append _ _).trans p1
  unfold implR at hn1 g1
  cases h5 : m.2.1.all recR with
  | false =>
    rw [h5, if_neg (by decide)] at hn1 g1
    have hr := grow_Rec g1 hn1 (by simp)
    have hb : scanB m = false := by rw [e0, not_recR h5, Bool.false_and]
    have : scanR m = [] := by unfold scanR; rw [hb, if_neg (by decide)]
    rw [this, hb]
    simp only [List.length_nil] at hn1
    subst hn1
    obtain ⟨_, rfl⟩ := g1.shape
    simp [thenD_pp, sliceCells_sl, sliceCells_z, sliceCells_nil, take_full, appS_sl, appK_ok, appS_none, thenD_ag, agP_nil, agP_cons]
    rw [S_impl_scanRecs_0]; unfold B_impl_scanRecs_0; simp [thenD_pp, sliceCells_sl, sliceCells_z, sliceCells_nil, take_full, appS_sl, appK_ok, appS_none, thenD_ag, agP_nil, agP_cons]
    exact sat_some ⟨_, _, rfl, pM, rfl, g1.le (by simp)⟩
  | true =>
  rw [h5, if_pos rfl] at hn1 g1
  have hr := grow_Rec g1 hn1 recs_bd
  have hf := fr2_all h5
  rw [← e0] at hf
  have hn2 : (m.2.1.map recX).length = m.2.1.length := List.length_map _
  have hR : scanB m = true → scanR m = m.2.1.map recX := fun q => by unfold scanR; rw [if_pos q]
  rw [← hn2] at hf
  generalize m.2.1.map recX = rs at hn1 g1 hr hn2 hf hR
  obtain ⟨a1, rfl⟩ := g1.shape
  rw [← hn1] at hr g1 ⊢
  rcases l_impl_scanRecs_0 M X1 pM _ rs.length rs hr (by omega) (.inr rfl) (.bool true) with ⟨X', hX, ha, e⟩ | ⟨hb, e⟩
  · simp only [Int.natCast_zero, Int.ofNat_zero] at e
    rw [range_all ha] at hf
    rw [← hf, hR hf.symm]
    simp [thenD_pp, sliceCells_sl, sliceCells_z, sliceCells_nil, take_full, appS_sl, appK_ok, appS_none, thenD_ag, agP_nil, agP_cons, e]
    rw [S_impl_scanRecs_0]; unfold B_impl_scanRecs_0; simp [thenD_pp, sliceCells_sl, sliceCells_z, sliceCells_nil, take_full, appS_sl, appK_ok, appS_none, thenD_ag, agP_nil, agP_cons]
    exact sat_some ⟨_, _, rfl, pM.trans hX, rfl, (g1.pre hX).le (by simp)⟩
  · simp only [Int.natCast_zero, Int.ofNat_zero] at e
    obtain ⟨i, hi, hq⟩ := hb
    rw [range_not hi hq] at hf
    have : scanR m = [] := by unfold scanR; rw [← hf, if_neg (by decide)]
    rw [← hf, this]
    simp [thenD_pp, sliceCells_sl, sliceCells_z, sliceCells_nil, take_full, appS_sl, appK_ok, appS_none, thenD_ag, agP_nil, agP_cons]
    exact e _
theorem c_impl_ScanOk (M : Mem) (cs : List V) (m : ty_Scan.D) (h : Rep ty_Scan M cs m) : aCall T0 F_impl_ScanOk [.agg cs.toArray] M = some (.bool (scanB m), M) := by
  have s2 := fun N : Mem => c_impl_scanRecs (M ++ N) cs m (h.mono (List.prefix_append _ _))
  obtain ⟨a, b, c, d, rfl, r0, r1⟩ := mem_shape h
  rw [aCall_eq T_impl_ScanOk]; unfold A_impl_ScanOk C_impl_ScanOk; simp [thenD_pp, sliceCells_sl, sliceCells_z, sliceCells_nil, take_full, appS_sl, appK_ok, appS_none, thenD_ag, agP_nil, agP_cons]
  generalize hx : aCall T0 F_impl_scanRecs _ _ = xhx
  obtain ⟨w2, X1, rfl, v, n, e1, p1, hn1, g1⟩ := of_call hx (s2 _)
  clear hx
  simp only at e1
  subst e1
  have pM : M <+: X1 := (List.prefix_append _ _).trans p1
  simp [thenD_pp, sliceCells_sl, sliceCells_z, sliceCells_nil, take_full, appS_sl, appK_ok, appS_none, thenD_ag, agP_nil, agP_cons]
  exact gc_boolp pM _
theorem d_impl_ScanOk (M : Mem) (cs : List V) (m : ty_Scan.D) (h : Rep ty_Scan M cs m) (hb : Bd 1048576 ty_Scan m) : aCall T0 F_impl_ScanOk [.agg cs.toArray] M = some (.bool (scanB m), M) := c_impl_ScanOk M cs m h
theorem l_spec_MemOk_0 (M X : Mem) (m : ty_Mem.D) (a b : Option Addr) (c d p : Nat) (hM : M <+: X) (hb : X[p]? = some ⟨[.int .i64 m.1, .slice a m.2.1.length c, .slice b m.2.2.length d], 1, 2⟩) (h : Rep (.sl ty_Cell) M [.slice a m.2.1.length c] m.2.1) (hn : m.2.1.length ≤ 128) :
    ((∀ i, i < m.2.1.length → atB (cellB m) m.2.1 i = true) ∧ lp (aCall T0) K_spec_MemOk_0 L_spec_MemOk_0 [und, .pointer (some ⟨p, 0, none⟩), und, .int .i64 (0 : Nat), und, und, und, und, und, und, und, und, und, und, und, und, und, und, und, und, und, und, und, und, und, und, und, und, und, und, und, und, und, und, und, und, und, und, und, und, und, und, und, und, und, und, und, und, und, und, und, und, und, und, und, und, und, und, und, und, und, und, und, und, und, und, und, und, und, und, und, und, und, und, und, und, und, und, und, und, und, und, und] X = lp (aCall T0) K_spec_MemOk_0 L_spec_MemOk_0 [und, .pointer (some ⟨p, 0, none⟩), und, .int .i64 m.2.1.length, und, und, und, und, und, und, und, und, und, und, und, und, und, und, und, und, und, und, und, und, und, und, und, und, und, und, und, und, und, und, und, und, und, und, und, und, und, und, und, und, und, und, und, und, und, und, und, und, und, und, und, und, und, und, und, und, und, und, und, und, und, und, und, und, und, und, und, und, und, und, und, und, und, und, und, und, und, und, und] X) ∨
    ((∃ i, i < m.2.1.length ∧ atB (cellB m) m.2.1 i = false) ∧ ∀ k, thenF M [.tmp 2] (thenS (blockR 0 (lp (aCall T0) K_spec_MemOk_0 L_spec_MemOk_0 [und, .pointer (some ⟨p, 0, none⟩), und, .int .i64 (0 : Nat), und, und, und, und, und, und, und, und, und, und, und, und, und, und, und, und, und, und, und, und, und, und, und, und, und, und, und, und, und, und, und, und, und, und, und, und, und, und, und, und, und, und, und, und, und, und, und, und, und, und, und, und, und, und, und, und, und, und, und, und, und, und, und, und, und, und, und, und, und, und, und, und, und, und, und, und, und, und, und] X)) (aCall T0) k) = some (.bool false, M)) := by
  have key := loop_ok (call := aCall T0) (K := K_spec_MemOk_0) (L := L_spec_MemOk_0) (fun _ Y => Y = X) (fun i => [und, .pointer (some ⟨p, 0, none⟩), und, .int .i64 i, und, und, und, und, und, und, und, und, und, und, und, und, und, und, und, und, und, und, und, und, und, und, und, und, und, und, und, und, und, und, und, und, und, und, und, und, und, und, und, und, und, und, und, und, und, und, und, und, und, und, und, und, und, und, und, und, und, und, und, und, und, und, und, und, und, und, und, und, und, und, und, und, und, und, und, und, und, und, und]) (atB (cellB m) m.2.1) (n := m.2.1.length) (M0 := M) (rs := [.tmp 2]) (k0 := 0) (a := .bool false) X rfl ?_ ?_
  · rcases key with ⟨X', rfl, h1, h2⟩ | h
    · exact .inl ⟨h1, h2⟩
    · exact .inr h
  · intro i Y hi hq e
    subst e
    obtain ⟨l, o, u, rfl, q1, _, q3⟩ := at_Cell (h.mono hM) hi
    obtain ⟨_, _, rfl⟩ := q3.slen
    rw [atB_get _ hi] at hq
    have hq := of_decide_eq_true hq
    have e6 : IntKind.i64.wrap ((i : Int) + 1) = i + 1 := wrap_i64 (by omega) (by omega)
    refine ⟨Y, rfl, ?_⟩
    rw [S_spec_MemOk_0]; unfold B_spec_MemOk_0; simp [thenD_pp, sliceCells_sl, sliceCells_z, sliceCells_nil, take_full, appS_sl, appK_ok, appS_none, thenD_ag, agP_nil, agP_cons, hb, hi, q1, hq, e6, rd1_K, rdJ_ok]
  · intro i Y hi hq e k
    subst e
    obtain ⟨l, o, u, rfl, q1, _, q3⟩ := at_Cell (h.mono hM) hi
    obtain ⟨_, _, rfl⟩ := q3.slen
    rw [atB_get _ hi] at hq
    have hq := of_decide_eq_false hq
    have gb := fun b => gc_boolp hM b
    rw [S_spec_MemOk_0]; unfold B_spec_MemOk_0; simp [thenD_pp, sliceCells_sl, sliceCells_z, sliceCells_nil, take_full, appS_sl, appK_ok, appS_none, thenD_ag, agP_nil, agP_cons, hb, hi, q1, hq, gb, rd1_K, rdJ_ok]
set_option maxHeartbeats 4000000 in
theorem l_spec_MemOk_1 (M X : Mem) (m : ty_Mem.D) (a b : Option Addr) (c d p : Nat) (hM : M <+: X) (hb : X[p]? = some ⟨[.int .i64 m.1, .slice a m.2.1.length c, .slice b m.2.2.length d], 1, 2⟩) (h : Rep (.sl ty_Touch) M [.slice b m.2.2.length d] m.2.2) (hn : m.2.2.length ≤ 6000) :
    (∃ X', M <+: X' ∧ (∀ i, i < m.2.2.length → atB (touchB m) m.2.2 i = true) ∧ lp (aCall T0) K_spec_MemOk_1 L_spec_MemOk_1 [und, .pointer (some ⟨p, 0, none⟩), und, und, .int .i64 (0 : Nat), und, und, und, und, und, und, und, und, und, und, und, und, und, und, und, und, und, und, und, und, und, und, und, und, und, und, und, und, und, und, und, und, und, und, und, und, und, und, und, und, und, und, und, und, und, und, und, und, und, und, und, und, und, und, und, und, und, und, und, und, und, und, und, und, und, und, und, und, und, und, und, und, und, und, und, und, und, und] X = lp (aCall T0) K_spec_MemOk_1 L_spec_MemOk_1 [und, .pointer (some ⟨p, 0, none⟩), und, und, .int .i64 m.2.2.length, und, und, und, und, und, und, und, und, und, und, und, und, und, und, und, und, und, und, und, und, und, und, und, und, und, und, und, und, und, und, und, und, und, und, und, und, und, und, und, und, und, und, und, und, und, und, und, und, und, und, und, und, und, und, und, und, und, und, und, und, und, und, und, und, und, und, und, und, und, und, und, und, und, und, und, und, und, und] X' ∧ X'[p]? = some ⟨[.int .i64 m.1, .slice a m.2.1.length c, .slice b m.2.2.length d], 1, 2⟩) ∨
    ((∃ i, i < m.2.2.length ∧ atB (touchB m) m.2.2 i = false) ∧ ∀ k, thenF M [.tmp 2] (thenS (blockR 2 (lp (aCall T0) K_spec_MemOk_1 L_spec_MemOk_1 [und, .pointer (some ⟨p, 0, none⟩), und, und, .int .i64 (0 : Nat), und, und, und, und, und, und, und, und, und, und, und, und, und, und, und, und, und, und, und, und, und, und, und, und, und, und, und, und, und, und, und, und, und, und, und, und, und, und, und, und, und, und, und, und, und, und, und, und, und, und, und, und, und, und, und, und, und, und, und, und, und, und, und, und, und, und, und, und, und, und, und, und, und, und, und, und, und, und] X)) (aCall T0) k) = some (.bool false, M)) := by
  have key := loop_ok (call := aCall T0) (K := K_spec_MemOk_1) (L := L_spec_MemOk_1) (fun _ Y => X <+: Y) (fun i => [und, .pointer (some ⟨p, 0, none⟩), und, und, .int .i64 i, und, und, und, und, und, und, und, und, und, und, und, und, und, und, und, und, und, und, und, und, und, und, und, und, und, und, und, und, und, und, und, und, und, und, und, und, und, und, und, und, und, und, und, und, und, und, und, und, und, und, und, und, und, und, und, und, und, und, und, und, und, und, und, und, und, und, und, und, und, und, und, und, und, und, und, und, und, und]) (atB (touchB m) m.2.2) (n := m.2.2.length) (M0 := M) (rs := [.tmp 2]) (k0 := 2) (a := .bool false) X (List.prefix_refl _) ?_ ?_
  · rcases key with ⟨X', h0, h1, h2⟩ | h
    · exact .inl ⟨X', hM.trans h0, h1, h2, get_pre h0 hb⟩
    · exact .inr h
  · intro i Y hi hq hY
    obtain ⟨l, o, rfl, _, q1, _⟩ := at_Touch (h.mono (hM.trans hY)) hi
    have hbY := get_pre hY hb
    have hbY2 : ∀ N : Mem, (Y ++ N)[p]? = some ⟨[.int .i64 m.1, .slice a m.2.1.length c, .slice (some ⟨l, o, none⟩) m.2.2.length d], 1, 2⟩ := fun N => get_pre' hbY
    rw [atB_get _ hi] at hq
    have hq := touch_ok hq
    generalize m.2.2[i] = t at q1 hq
    obtain ⟨t1, t2, t3⟩ := t
    simp only at hq q1
    obtain ⟨g1, g2, _, g3, _, _, g4⟩ := hq
    have e6 : IntKind.i64.wrap ((i : Int) + 1) = i + 1 := wrap_i64 (by omega) (by omega)
    refine ⟨Y ++ [⟨enc_Touch (t1, t2, t3), 1, 2⟩], hY.trans (List.prefix_append _ _), ?_⟩
    rcases g1 with g1 | g1
    · rw [S_spec_MemOk_1]; unfold B_spec_MemOk_1; simp [thenD_pp, sliceCells_sl, sliceCells_z, sliceCells_nil, take_full, appS_sl, appK_ok, appS_none, thenD_ag, agP_nil, agP_cons, hbY, hbY2, hi, q1, g1, g2, g3, g4, e6, rd1_K, rdJ_ok]
    · rw [S_spec_MemOk_1]; unfold B_spec_MemOk_1; simp [thenD_pp, sliceCells_sl, sliceCells_z, sliceCells_nil, take_full, appS_sl, appK_ok, appS_none, thenD_ag, agP_nil, agP_cons, hbY, hbY2, hi, q1, g1, g2, g3, g4, e6, rd1_K, rdJ_ok]
  · intro i Y hi hq hY k
    obtain ⟨l, o, rfl, _, q1, _⟩ := at_Touch (h.mono (hM.trans hY)) hi
    have hbY := get_pre hY hb
    have hbY2 : ∀ N : Mem, (Y ++ N)[p]? = some ⟨[.int .i64 m.1, .slice a m.2.1.length c, .slice (some ⟨l, o, none⟩) m.2.2.length d], 1, 2⟩ := fun N => get_pre' hbY
    rw [atB_get _ hi] at hq
    have hq := touch_cases hq
    generalize m.2.2[i] = t at q1 hq
    obtain ⟨t1, t2, t3⟩ := t
    simp only at hq q1
    have gb := fun (cs : List V) b => gc_boolp (hM.trans (hY.trans (List.prefix_append Y [⟨cs, 1, 2⟩]))) b
    rcases hq with ⟨g1, g2⟩ | ⟨g1, g2, _⟩ | ⟨g1, ⟨g2, _⟩, g3, _⟩ | ⟨g1, ⟨g2, _⟩, ⟨g3, _⟩, g4⟩
    · rw [S_spec_MemOk_1]; unfold B_spec_MemOk_1; simp [thenD_pp, sliceCells_sl, sliceCells_z, sliceCells_nil, take_full, appS_sl, appK_ok, appS_none, thenD_ag, agP_nil, agP_cons, hbY, hbY2, hi, q1, g1, g2, gb, rd1_K, rdJ_ok]
    · rcases g1 with g1 | g1
      · rw [S_spec_MemOk_1]; unfold B_spec_MemOk_1; simp [thenD_pp, sliceCells_sl, sliceCells_z, sliceCells_nil, take_full, appS_sl, appK_ok, appS_none, thenD_ag, agP_nil, agP_cons, hbY, hbY2, hi, q1, g1, g2, gb, rd1_K, rdJ_ok]
      · rw [S_spec_MemOk_1]; unfold B_spec_MemOk_1; simp [thenD_pp, sliceCells_sl, sliceCells_z, sliceCells_nil, take_full, appS_sl, appK_ok, appS_none, thenD_ag, agP_nil, agP_cons, hbY, hbY2, hi, q1, g1, g2, gb, rd1_K, rdJ_ok]
    · rcases g1 with g1 | g1
      · rw [S_spec_MemOk_1]; unfold B_spec_MemOk_1; simp [thenD_pp, sliceCells_sl, sliceCells_z, sliceCells_nil, take_full, appS_sl, appK_ok, appS_none, thenD_ag, agP_nil, agP_cons, hbY, hbY2, hi, q1, g1, g2, g3, gb, rd1_K, rdJ_ok]
      · rw [S_spec_MemOk_1]; unfold B_spec_MemOk_1; simp [thenD_pp, sliceCells_sl, sliceCells_z, sliceCells_nil, take_full, appS_sl, appK_ok, appS_none, thenD_ag, agP_nil, agP_cons, hbY, hbY2, hi, q1, g1, g2, g3, gb, rd1_K, rdJ_ok]
    · rcases g1 with g1 | g1
      · rw [S_spec_MemOk_1]; unfold B_spec_MemOk_1; simp [thenD_pp, sliceCells_sl, sliceCells_z, sliceCells_nil, take_full, appS_sl, appK_ok, appS_none, thenD_ag, agP_nil, agP_cons, hbY, hbY2, hi, q1, g1, g2, g3, g4, gb, rd1_K, rdJ_ok]
      · rw [S_spec_MemOk_1]; unfold B_spec_MemOk_1; simp [thenD_pp, sliceCells_sl, sliceCells_z, sliceCells_nil, take_full, appS_sl, appK_ok, appS_none, thenD_ag, agP_nil, agP_cons, hbY, hbY2, hi, q1, g1, g2, g3, g4, gb, rd1_K, rdJ_ok]
theorem c_spec_MemOk (M : Mem) (cs : List V) (m : ty_Mem.D) (h : Rep ty_Mem M cs m) : aCall T0 F_spec_MemOk [.agg cs.toArray] M = some (.bool (memB m), M) := by
  obtain ⟨a, b, c, d, rfl, r0, r1⟩ := mem_shape h
  unfold memB
  have hp : M <+: M ++ [⟨[.int .i64 m.1, .slice a m.2.1.length c, .slice b m.2.2.length d], 1, 2⟩] := List.prefix_append _ _
  rcases mem_cases m.1 m.2.1.length m.2.2.length with ⟨h0, hh⟩ | ⟨h0, ⟨_, h1⟩, ⟨h2, _⟩, ⟨h3, h3'⟩, ⟨h4, h4'⟩⟩
  · rw [h0, Bool.false_and]
    clear h0
    rcases hh with ⟨h1, _⟩ | ⟨⟨_, h1⟩, h2, _⟩ | ⟨⟨_, h1⟩, ⟨h2, _⟩, h3, h3'⟩ | ⟨⟨_, h1⟩, ⟨h2, _⟩, ⟨h3, h3'⟩, h4, h4'⟩
    · rw [aCall_eq T_spec_MemOk]; unfold A_spec_MemOk C_spec_MemOk; simp [thenD_pp, sliceCells_sl, sliceCells_z, sliceCells_nil, take_full, appS_sl, appK_ok, appS_none, thenD_ag, agP_nil, agP_cons, h1]
    · rw [aCall_eq T_spec_MemOk]; unfold A_spec_MemOk C_spec_MemOk; simp [thenD_pp, sliceCells_sl, sliceCells_z, sliceCells_nil, take_full, appS_sl, appK_ok, appS_none, thenD_ag, agP_nil, agP_cons, h1, h2]
    · rw [aCall_eq T_spec_MemOk]; unfold A_spec_MemOk C_spec_MemOk; simp [thenD_pp, sliceCells_sl, sliceCells_z, sliceCells_nil, take_full, appS_sl, appK_ok, appS_none, thenD_ag, agP_nil, agP_cons, h1, h2, h3, h3']
    · rw [aCall_eq T_spec_MemOk]; unfold A_spec_MemOk C_spec_MemOk; simp [thenD_pp, sliceCells_sl, sliceCells_z, sliceCells_nil, take_full, appS_sl, appK_ok, appS_none, thenD_ag, agP_nil, agP_cons, h1, h2, h3, h3', h4, h4']
  rw [h0, Bool.true_and]
  rcases l_spec_MemOk_0 M _ m a b c d M.length hp (by simp) r0 (by omega) with ⟨ha, e⟩ | ⟨hn, e⟩
  · simp only [Int.natCast_zero, Int.ofNat_zero] at e
    rw [atB_all ha, Bool.true_and]
    rcases l_spec_MemOk_1 M _ m a b c d M.length hp (by simp) r1 (by omega) with ⟨X', hX, ha2, e2, hb⟩ | ⟨hn2, e2⟩
    · simp only [Int.natCast_zero, Int.ofNat_zero] at e2
      rw [atB_all ha2]
      have gb := fun b => gc_boolp hX b
      rw [aCall_eq T_spec_MemOk]; unfold A_spec_MemOk C_spec_MemOk; simp [thenD_pp, sliceCells_sl, sliceCells_z, sliceCells_nil, take_full, appS_sl, appK_ok, appS_none, thenD_ag, agP_nil, agP_cons, h1, h2, h3, h3', h4, h4', e]
      rw [S_spec_MemOk_0]; unfold B_spec_MemOk_0; simp [thenD_pp, sliceCells_sl, sliceCells_z, sliceCells_nil, take_full, appS_sl, appK_ok, appS_none, thenD_ag, agP_nil, agP_cons, rd1_K, rdJ_ok]
      simp [e2]
      rw [S_spec_MemOk_1]; unfold B_spec_MemOk_1; simp [thenD_pp, sliceCells_sl, sliceCells_z, sliceCells_nil, take_full, appS_sl, appK_ok, appS_none, thenD_ag, agP_nil, agP_cons, rd1_K, rdJ_ok, hb, gb]
    · simp only [Int.natCast_zero, Int.ofNat_zero] at e2
      rw [atB_not hn2]
      rw [aCall_eq T_spec_MemOk]; unfold A_spec_MemOk C_spec_MemOk; simp [thenD_pp, sliceCells_sl, sliceCells_z, sliceCells_nil, take_full, appS_sl, appK_ok, appS_none, thenD_ag, agP_nil, agP_cons, h1, h2, h3, h3', h4, h4', e]
      rw [S_spec_MemOk_0]; unfold B_spec_MemOk_0; simp [thenD_pp, sliceCells_sl, sliceCells_z, sliceCells_nil, take_full, appS_sl, appK_ok, appS_none, thenD_ag, agP_nil, agP_cons, rd1_K, rdJ_ok]
      simp [e2]
  · simp only [Int.natCast_zero, Int.ofNat_zero] at e
    rw [atB_not hn, Bool.false_and]
    rw [aCall_eq T_spec_MemOk]; unfold A_spec_MemOk C_spec_MemOk; simp [thenD_pp, sliceCells_sl, sliceCells_z, sliceCells_nil, take_full, appS_sl, appK_ok, appS_none, thenD_ag, agP_nil, agP_cons, h1, h2, h3, h3', h4, h4', e]
def specR (m : ty_Mem.D) : List ty_Rec.D := if m.2.1.all recOk = true then m.2.1.map recX else []
theorem r_spec_WordOk (M : Mem) (w : List UInt8) (hw : w.length ≤ 9223372036854775807) (i : Nat) (hi : i < w.length) (hb : okByte w[i] = true) :
    lp (aCall T0) K_spec_WordOk_0 L_spec_WordOk_0 [strV w, und, und, .int .i64 i, und, und, und, und, und, und, und, und, und, und, und, und, und, und, und, und, und, und, und, und, und, und, und, und] M = lp (aCall T0) K_spec_WordOk_0 L_spec_WordOk_0 [strV w, und, und, .int .i64 (i + 1 : Nat), und, und, und, und, und, und, und, und, und, und, und, und, und, und, und, und, und, und, und, und, und, und, und, und] M := by
  obtain ⟨h1, h2⟩ := okByte_t hb
  rw [S_spec_WordOk_0]; unfold B_spec_WordOk_0; simp [hi, byteV, h1, h2]
  rw [wrap_i64 (by omega) (by omega)]
theorem x_spec_WordOk (M : Mem) (w : List UInt8) (hw : w.length ≤ 9223372036854775807) (i : Nat) (hi : i < w.length) (hb : okByte w[i] = false) (k : ACode) :
    thenF M [.tmp 2] (thenS (blockR 0 (lp (aCall T0) K_spec_WordOk_0 L_spec_WordOk_0 [strV w, und, und, .int .i64 i, und, und, und, und, und, und, und, und, und, und, und, und, und, und, und, und, und, und, und, und, und, und, und, und] M)) (aCall T0) k) = some (.bool false, M) := by
  rcases okByte_f hb with h1 | ⟨h1, h2⟩
  · rw [S_spec_WordOk_0]; unfold B_spec_WordOk_0; simp [hi, byteV, h1]
  · rw [S_spec_WordOk_0]; unfold B_spec_WordOk_0; simp [hi, byteV, h1, h2]
theorem c_spec_WordOk (M : Mem) (w : List UInt8) (hw : w.length ≤ 9223372036854775807) : aCall T0 F_spec_WordOk [strV w] M = some (.bool (wordB w), M) := by
  unfold wordB
  by_cases hl1 : (w.length : Int) < 1
  · have : w = [] := List.length_eq_zero_iff.1 (by omega)
    subst this
    rw [aCall_eq T_spec_WordOk]; unfold A_spec_WordOk C_spec_WordOk; simp
  by_cases hl2 : 32 < (w.length : Int)
  · rw [aCall_eq T_spec_WordOk]; unfold A_spec_WordOk C_spec_WordOk; simp [hl1, hl2]
  have e : (decide (1 ≤ (w.length : Int)) && decide ((w.length : Int) ≤ 32)) = true := by simp; omega
  rw [e, Bool.and_true]
  rcases first_byte w with ha | ⟨ha, j, hj, h1, h2⟩
  · have hl := chain (g := fun i : Nat => lp (aCall T0) K_spec_WordOk_0 L_spec_WordOk_0 [strV w, und, und, .int .i64 i, und, und, und, und, und, und, und, und, und, und, und, und, und, und, und, und, und, und, und, und, und, und, und, und] M) (n := w.length) fun i hi => r_spec_WordOk M w hw i hi (List.all_eq_true.1 ha _ (List.getElem_mem hi))
    simp only [Int.natCast_zero, Int.ofNat_zero] at hl
    rw [ha]
    rw [aCall_eq T_spec_WordOk]; unfold A_spec_WordOk C_spec_WordOk; simp [hl, hl1, hl2]
    rw [S_spec_WordOk_0]; unfold B_spec_WordOk_0; simp
  · have hl := chain (g := fun i : Nat => lp (aCall T0) K_spec_WordOk_0 L_spec_WordOk_0 [strV w, und, und, .int .i64 i, und, und, und, und, und, und, und, und, und, und, und, und, und, und, und, und, und, und, und, und, und, und, und, und] M) (n := j) fun i hi => r_spec_WordOk M w hw i (by omega) (h1 i (by omega) hi)
    simp only [Int.natCast_zero, Int.ofNat_zero] at hl
    rw [ha]
    rw [aCall_eq T_spec_WordOk]; unfold A_spec_WordOk C_spec_WordOk; simp [hl, hl1, hl2, x_spec_WordOk M w hw j hj h2]
def padC (w : List UInt8) (i : Nat) : List V := .int .u8 w.length :: ((w.take i).map byteV ++ zc (.int .u8 0) (32 - i))
theorem padC_set (w : List UInt8) (i : Nat) (hi : i < w.length) (hw : w.length ≤ 32) : (padC w i).set (i + 1) (byteV w[i]) = padC w (i + 1) := by
  unfold padC
  rw [List.set_cons_succ, List.set_append_right _ _ (by simp; omega)]
  have e1 : i - ((w.take i).map byteV).length = 0 := by simp; omega
  have e2 : 32 - i = 32 - (i + 1) + 1 := by omega
  rw [e1, e2, zc_set, List.take_succ_eq_append_getElem hi]
  simp only [List.map_append, List.map_cons, List.map_nil, List.append_assoc, List.cons_append, List.nil_append]
theorem padC_len (w : List UInt8) (i : Nat) (hi : i ≤ w.length) (hw : w.length ≤ 32) : (padC w i).length = 33 := by
  unfold padC; simp; omega
theorem r_spec_Pad (M : Mem) (w : List UInt8) (h2 : w.length ≤ 32) (i : Nat) (hi : i < w.length) :
    lp (aCall T0) K_spec_Pad_0 L_spec_Pad_0 [strV w, und, und, .slice (some ⟨M.length, 0, none⟩) 33 33, .int .i64 i, und, und, und, und, und, und, und, und, und, und, und, und, und, und, und, und, und, und, und, und, und, und, und, und] (M ++ [⟨padC w i, 1, 2⟩]) =
    lp (aCall T0) K_spec_Pad_0 L_spec_Pad_0 [strV w, und, und, .slice (some ⟨M.length, 0, none⟩) 33 33, .int .i64 (i + 1 : Nat), und, und, und, und, und, und, und, und, und, und, und, und, und, und, und, und, und, und, und, und, und, und, und, und] (M ++ [⟨padC w (i + 1), 1, 2⟩]) := by
  have e1 : ((i : Int) + 1).toNat = i + 1 := by omega
  have e2 : (0 : Int) ≤ i + 1 := by omega
  have e3 : (i : Int) + 1 < 33 := by omega
  have e4 := padC_len w i (by omega) h2
  have e5 : i + 1 + 1 ≤ 33 := by omega
  have e6 : splice (padC w i) (i + 1) [byteV w[i]] = padC w (i + 1) := by rw [splice_one (by omega), padC_set w i hi h2]
  have e7 : IntKind.i64.wrap ((i : Int) + 1) = i + 1 := wrap_i64 (by omega) (by omega)
  unfold splice at e6
  simp at e6
  rw [S_spec_Pad_0]; unfold B_spec_Pad_0; simp [hi, e1, e2, e3, e4, e5, e6, e7]
theorem c_spec_Pad (M : Mem) (w : List UInt8) (hw : w.length ≤ 9223372036854775807) : aCall T0 F_spec_Pad [strV w] M = some (.slice (some ⟨M.length, 0, none⟩) 33 33, M ++ [padB w]) := by
  unfold padB
  cases hb : wordB w with
  | false => rw [padL_f hb]; rw [aCall_eq T_spec_Pad]; unfold A_spec_Pad C_spec_Pad; simp [c_spec_WordOk _ _ hw, hb]
  | true =>
    obtain ⟨h1, h2⟩ := wordB_len hb
    rw [padL_t hb]
    have hl := chain (g := fun i : Nat => lp (aCall T0) K_spec_Pad_0 L_spec_Pad_0 [strV w, und, und, .slice (some ⟨M.length, 0, none⟩) 33 33, .int .i64 i, und, und, und, und, und, und, und, und, und, und, und, und, und, und, und, und, und, und, und, und, und, und, und, und] (M ++ [⟨padC w i, 1, 2⟩])) (n := w.length) fun i hi => r_spec_Pad M w h2 i hi
    have e0 : padC w 0 = .int .u8 w.length :: zc (.int .u8 0) 32 := by simp [padC]
    have e1 : padC w w.length = .int .u8 w.length :: (w.map byteV ++ zc (.int .u8 0) (32 - w.length)) := by simp [padC]
    simp only [Int.natCast_zero, Int.ofNat_zero, e0, e1] at hl
    rw [aCall_eq T_spec_Pad]; unfold A_spec_Pad C_spec_Pad; simp [c_spec_WordOk _ _ hw, hb]
    rw [wrap_u8 (by omega) (by omega), hl]
    rw [S_spec_Pad_0]; unfold B_spec_Pad_0; simp
theorem c_spec_Unpad (M : Mem) (v : V) (ys : List UInt8) (h : Rep (.sl ty_Byte) M [v] ys) (hl : ys.length = 33) : aCall T0 F_spec_Unpad [v] M = some (.tuple #[strV (unW ys), .bool (unB ys)], M) := by
  obtain ⟨a, c, rfl⟩ := h.slen
  have h0 : 0 < ys.length := by omega
  obtain ⟨l, o, rfl, _, hrd⟩ := at_Byte h h0
  obtain ⟨blk, hb, hbw, _⟩ := rep_blk h
  have e0 : unL ys = ys[0].toNat := by
    match ys, h0 with
    | y :: ys, _ => rfl
  rw [Nat.add_zero] at hrd
  have hbw : blk.w = 1 := hbw
  obtain ⟨d, hd⟩ : ∃ d, d = unL ys := ⟨_, rfl⟩
  have hby : byteV ys[0] = .int .u8 d := by rw [hd, e0]; rfl
  rw [hby] at hrd
  by_cases hd1 : d < 1
  · have hu : unB ys = false := by
      have : unC ys = [] := by
        unfold unC
        rw [← hd, show d = 0 by omega]
        rfl
      unfold unB
      rw [this]
      simp [wordB]
    have g0 : (d : Int) < 1 := by omega
    unfold unW
    rw [hu]
    have g3 : d = 0 := by omega
    rw [aCall_eq T_spec_Unpad]; unfold A_spec_Unpad C_spec_Unpad; simp [hl, hrd, g0, g3]
  have g0 : ¬ (d : Int) < 1 := by omega
  have g00 : ¬ d = 0 := by omega
  unfold unW unB
  rw [← hd]
  by_cases h32 : d ≤ 32
  · have g1 : ¬ 32 < (d : Int) := by omega
    have g2 : d ≤ 32 := h32
    have e2 : IntKind.i64.wrap (d : Int) = d := wrap_i64 (by omega) (by omega)
    have e1 : IntKind.i64.wrap (1 + (d : Int)) = 1 + d := wrap_i64 (by omega) (by omega)
    have hs := rep_sub h 1 d (by omega) (max ys.length c - 1)
    have hs2 : Rep (.sl ty_Byte) M [.slice (some ⟨l, o + 1, none⟩) d (max ys.length c - 1)] (unC ys) := by unfold unC; rw [← hd]; exact hs
    have hul : (unC ys).length = d := by
      unfold unC
      rw [← hd, List.length_take, List.length_drop]
      omega
    obtain ⟨a1, c1, z1, z2⟩ := cells_Byte hs2
    rw [hul] at z1 z2
    cases z1
    rw [hl] at z2
    have b1 : (1 : Int) ≤ 1 + d := by omega
    have b2 : (1 : Int) + d ≤ 33 := by omega
    have b3 : ((1 : Int) + d).toNat - 1 = d := by omega
    rw [decide_eq_true h32]
    have w1 := fun M => c_spec_WordOk M (unC ys) (by omega)
    have w2 := c_spec_Pad M (unC ys) (by omega)
    obtain ⟨_, _, y1, y2⟩ := cells_Byte (rep_blkB (M := M ++ [padB (unC ys)]) (l := M.length) (ys := padL (unC ys)) 33 (by simp))
    cases y1
    obtain ⟨_, _, x1, x2⟩ := cells_Byte (h.mono (List.prefix_append M [padB (unC ys)]))
    cases x1
    rw [padL_len] at y2
    rw [hl] at x2
    have pp : M <+: M ++ [padB (unC ys)] := List.prefix_append _ _
    obtain ⟨A, hA⟩ : ∃ A, A = M ++ [padB (unC ys)] := ⟨_, rfl⟩
    have gt := gc_tup M [padB (unC ys)]
    rw [← hA] at w2 y2 x2 pp gt
    cases hw : wordB (unC ys) with
    | false =>
      rw [hw] at w1
      rw [aCall_eq T_spec_Unpad]; unfold A_spec_Unpad C_spec_Unpad; simp [hl, hrd, g0, g00, g1, e1, e2, b1, b2, b3, hb, hbw, z2, toBytes_map, w1]
    | true =>
      rw [hw] at w1
      by_cases hq : padL (unC ys) = ys
      · rw [decide_eq_true hq]
        rw [hq] at y2
        rw [aCall_eq T_spec_Unpad]; unfold A_spec_Unpad C_spec_Unpad; simp [hl, hrd, g0, g00, g1, e1, e2, b1, b2, b3, hb, hbw, z2, toBytes_map, w1, w2, y2, x2, pp, thenD_pre, gt, prim]
      · rw [decide_eq_false hq]
        rw [aCall_eq T_spec_Unpad]; unfold A_spec_Unpad C_spec_Unpad; simp [hl, hrd, g0, g00, g1, e1, e2, b1, b2, b3, hb, hbw, z2, toBytes_map, w1, w2, y2, x2, pp, thenD_pre, hq, gt, prim]
  · have g1 : 32 < (d : Int) := by omega
    rw [decide_eq_false h32]
    rw [aCall_eq T_spec_Unpad]; unfold A_spec_Unpad C_spec_Unpad; simp [hl, hrd, g0, g00, g1]
theorem c_spec_l09Empty (M : Mem) (r : ty_Rec.D) : aCall T0 F_spec_l09Empty [.agg (enc_Rec r).toArray] M = some (.bool (decide (r = zRec)), M) := by
  rw [aCall_eq T_spec_l09Empty]; unfold A_spec_l09Empty C_spec_l09Empty; simp [eq_rec]
  rw [z_rec]
  simp
theorem c_spec_RecOk (M : Mem) (r : ty_Rec.D) (hw : r.2.2.2.length ≤ 9223372036854775807) : aCall T0 F_spec_RecOk [.agg (enc_Rec r).toArray] M = some (.bool (recB r), M) := by
  unfold recB
  have h := fun M => c_spec_l09Empty M r
  have h2 := fun M => c_spec_WordOk M r.2.2.2 hw
  cases he : decide (r = zRec) with
  | true =>
    simp only [he] at h
    rw [aCall_eq T_spec_RecOk]; unfold A_spec_RecOk C_spec_RecOk; simp [h]
  | false =>
    simp only [he] at h
    rw [aCall_eq T_spec_RecOk]; unfold A_spec_RecOk C_spec_RecOk; simp [h, h2]
    repeat' ((first | rw [selO_some] | rw [condR_bool] | rw [selD_some]); split <;> rename_i hq <;> (have hq2 := hq) <;> (try simp at hq2) <;> (try simp [*, h2]))
theorem c_spec_l09Two (M : Mem) (n : Nat) (hn : n ≤ 65535) : aCall T0 F_spec_l09Two [.int .i64 n] M = some (.slice (some ⟨M.length, 0, none⟩) 2 2, M ++ [⟨[byteV (UInt8.ofNat (n / 256)), byteV (UInt8.ofNat (n % 256))], 1, 2⟩]) := by
  rw [byteV_len (by omega), byteV_len (by omega)]
  obtain ⟨h, hh⟩ : ∃ h, h = n / 256 := ⟨_, rfl⟩
  obtain ⟨l, hl⟩ : ∃ l, l = n % 256 := ⟨_, rfl⟩
  have e1 : (n : Int).tdiv 256 = h := by rw [Int.tdiv_eq_ediv_of_nonneg (by omega), hh]; simp
  have e2 : (n : Int).tmod 256 = l := by rw [Int.tmod_eq_emod_of_nonneg (by omega), hl]; simp
  have e3 : IntKind.i64.wrap (h : Int) = h := wrap_i64 (by omega) (by omega)
  have e4 : IntKind.u8.wrap (h : Int) = h := wrap_u8 (by omega) (by omega)
  have e5 : IntKind.u8.wrap (l : Int) = l := wrap_u8 (by omega) (by omega)
  rw [← hh, ← hl]
  rw [aCall_eq T_spec_l09Two]; unfold A_spec_l09Two C_spec_l09Two; simp [e1, e2, e3, e4, e5, zeroCells]
theorem c_spec_RecOf (M : Mem) (r : ty_Rec.D) (hr : recB r = true) : Sat (aCall T0 F_spec_RecOf [.agg (enc_Rec r).toArray] M) (Bytes M (recT r)) := by
  obtain ⟨⟨d, hd, hd7⟩, ⟨w, hw, hw7⟩, hs⟩ := rec_bounds hr
  have g0 := fun M => c_spec_RecOk M r (by omega)
  rw [hr] at g0
  have g1 := fun M => c_spec_Pad M r.2.2.2 (by omega)
  have g2 := fun M => c_spec_l09Two M w hw7
  obtain ⟨q, hq⟩ : ∃ q, q = w / 256 := ⟨_, rfl⟩
  obtain ⟨p, hp⟩ : ∃ p, p = w % 256 := ⟨_, rfl⟩
  have e1 : IntKind.u8.wrap (d : Int) = d := wrap_u8 (by omega) (by omega)
  have hpl := padL_len r.2.2.2
  have hal := map_byte_all (padL r.2.2.2)
  obtain ⟨r1, r2, r3, r4⟩ := r
  simp only at hd hw
  subst hd hw
  have hc := recT_cells r1 d w r4 hd7 hw7
  rw [← hq] at hc
  rw [← hp] at hc
  have b2 : (byteV (UInt8.ofNat (w / 256))) = .int .u8 q := by rw [hq]; exact byteV_len (by omega)
  have b3 : (byteV (UInt8.ofNat (w % 256))) = .int .u8 p := by rw [hp]; exact byteV_len (by omega)
  simp only [b2, b3] at g2
  dsimp only at g1 hpl hal
  cases r1 with
  | true =>
    rw [aCall_eq T_spec_RecOf]; unfold A_spec_RecOf C_spec_RecOf; simp [thenD_pp, sliceCells_sl, sliceCells_z, sliceCells_nil, take_full, appS_sl, appK_ok, appS_none, thenD_ag, agP_nil, agP_cons, g0, g1, g2, e1, hpl, hal]
    exact sat_some (bytes_of rfl hc.symm (recT_len _))
  | false =>
    rw [aCall_eq T_spec_RecOf]; unfold A_spec_RecOf C_spec_RecOf; simp [thenD_pp, sliceCells_sl, sliceCells_z, sliceCells_nil, take_full, appS_sl, appK_ok, appS_none, thenD_ag, agP_nil, agP_cons, g0, g1, g2, e1, hpl, hal]
    exact sat_some (bytes_of rfl hc.symm (recT_len _))
def recS (ys : List UInt8) : ty_Rec.D := if atN ys 0 = 1 then recI ys else zRec
theorem recI_z : recI (recT zRec) = zRec := by decide
theorem recS_ok (ys : List UInt8) (hl : ys.length = 37) : (recB (recS ys) = true ∧ recT (recS ys) = ys) ↔ recR ys = true := by
  unfold recR recS
  rw [hl]
  split
  · simp
  · rename_i h0
    constructor
    · rintro ⟨_, h⟩
      have : recI ys = zRec := by rw [← h]; exact recI_z
      rw [this]
      simp only [decide_true, Bool.true_and, Bool.and_eq_true, decide_eq_true_eq]
      exact ⟨by decide, h⟩
    · intro h
      simp only [decide_true, Bool.true_and, Bool.and_eq_true, decide_eq_true_eq] at h
      obtain ⟨h1, h2⟩ := h
      have : recI ys = zRec := by
        unfold recB at h1
        rw [Bool.or_eq_true] at h1
        rcases h1 with h1 | h1
        · exact of_decide_eq_true h1
        · simp only [Bool.and_eq_true] at h1
          have := h1.1.1.1
          unfold recI at this
          simp at this
          exact absurd this h0
      rw [← this]
      exact ⟨h1, h2⟩
theorem recS_x (ys : List UInt8) (h : recR ys = true) : recS ys = recX ys := by
  unfold recX
  rw [if_pos h]
  unfold recS
  split
  · rfl
  · rename_i h0
    unfold recR at h
    simp only [Bool.and_eq_true] at h
    have h1 := h.2.1
    unfold recB at h1
    rw [Bool.or_eq_true] at h1
    rcases h1 with h1 | h1
    · exact (of_decide_eq_true h1).symm
    · simp only [Bool.and_eq_true] at h1
      have := h1.1.1.1
      unfold recI at this
      simp at this
      exact absurd this h0
theorem c_spec_RecRead (M : Mem) (v : V) (ys : List UInt8) (h : Rep (.sl ty_Byte) M [v] ys) : Sat (aCall T0 F_spec_RecRead [v] M) (RecD M (recX ys) (recR ys)) := by
  obtain ⟨a, c, rfl⟩ := h.slen
  by_cases hl : ys.length = 37
  rotate_left
  · have : recR ys = false := by unfold recR; rw [decide_eq_false hl]; rfl
    unfold recX
    rw [this]
    have hl2 : ¬ (ys.length : Int) = 37 := by omega
    rw [aCall_eq T_spec_RecRead]; unfold A_spec_RecRead C_spec_RecRead; simp [thenD_pp, sliceCells_sl, sliceCells_z, sliceCells_nil, take_full, appS_sl, appK_ok, appS_none, thenD_ag, agP_nil, agP_cons, hl, hl2, prim]
    exact sat_some ⟨rfl, List.prefix_append _ _⟩
  have hok := recS_ok ys hl
  have hx := recS_x ys
  rw [hl] at h ⊢
  obtain ⟨l, o, rfl, _⟩ := at_Byte h (show 0 < ys.length by omega)
  have q0 := at_B h (show 0 < ys.length by omega)
  have q1 := at_B h (show 1 < ys.length by omega)
  have q2 := at_B h (show 2 < ys.length by omega)
  have q3 := at_B h (show 3 < ys.length by omega)
  have t1 := atN_lt ys 1
  have t2 := atN_lt ys 2
  have t3 := atN_lt ys 3
  have e1 : IntKind.i64.wrap (atN ys 1 : Int) = atN ys 1 := wrap_i64 (by omega) (by omega)
  have e2 : IntKind.i64.wrap (atN ys 2 : Int) = atN ys 2 := wrap_i64 (by omega) (by omega)
  have e3 : IntKind.i64.wrap (atN ys 3 : Int) = atN ys 3 := wrap_i64 (by omega) (by omega)
  have e4 : IntKind.i64.wrap (256 * (atN ys 2 : Int)) = 256 * (atN ys 2 : Int) := wrap_i64 (by omega) (by omega)
  have e5 : IntKind.i64.wrap (256 * (atN ys 2 : Int) + (atN ys 3 : Int)) = 256 * (atN ys 2 : Int) + (atN ys 3 : Int) := wrap_i64 (by omega) (by omega)
  obtain ⟨blk, hb, hbw, _⟩ := rep_blk h
  have hbw : blk.w = 1 := hbw
  have hd := rep_drop h 4 (by omega) 33 (by omega) (max 37 c - 4)
  have hdl : (ys.drop 4).length = 33 := by rw [List.length_drop, hl]
  have s1 := fun N : Mem => c_spec_Unpad (M ++ N) _ _ (hd.mono (List.prefix_append M N)) hdl
  have hw := unW_len (ys.drop 4)
  rw [Nat.add_zero] at q0
  have k0 := fun N : Mem => rd1_old (N := N) q0
  have k1 := fun N : Mem => rd1_old (N := N) q1
  have k2 := fun N : Mem => rd1_old (N := N) q2
  have k3 := fun N : Mem => rd1_old (N := N) q3
  have hlt := get_lt hb
  have hb2 := fun N : Mem => (gt_app (N := N) hlt).trans hb
  by_cases h0 : atN ys 0 = 1
  · have h1 : (atN ys 0 : Int) = 1 := by omega
    have hr : recS ys = (true, (atN ys 1 : Int), 256 * (atN ys 2 : Int) + (atN ys 3 : Int), unW (ys.drop 4)) := by
      unfold recS recI
      rw [if_pos h0, decide_eq_true h0]
      simp
    rw [hr] at hok hx
    rw [aCall_eq T_spec_RecRead]; unfold A_spec_RecRead C_spec_RecRead; simp [thenD_pp, sliceCells_sl, sliceCells_z, sliceCells_nil, take_full, appS_sl, appK_ok, appS_none, thenD_ag, agP_nil, agP_cons, hl, h1, k0, k1, k2, k3, e1, e2, e3, e4, e5, hb2, hbw, s1, prim]
    generalize hx1 : aCall T0 F_spec_RecOk _ _ = xhx1
    have hx1 := hx1.symm.trans (c_spec_RecOk _ ((true, (atN ys 1 : Int), 256 * (atN ys 2 : Int) + (atN ys 3 : Int), unW (ys.drop 4)) : ty_Rec.D) (by show (unW (ys.drop 4)).length ≤ _; omega))
    subst hx1
    cases hq : recB ((true, (atN ys 1 : Int), 256 * (atN ys 2 : Int) + (atN ys 3 : Int), unW (ys.drop 4)) : ty_Rec.D) with
    | false =>
      have hn : recR ys = false := by
        cases hh : recR ys with
        | false => rfl
        | true => have := (hok.2 hh).1; rw [hq] at this; cases this
      unfold recX
      rw [hn]
      simp [thenD_pp, sliceCells_sl, sliceCells_z, sliceCells_nil, take_full, appS_sl, appK_ok, appS_none, thenD_ag, agP_nil, agP_cons, prim]
      exact sat_some ⟨rfl, List.prefix_append _ _⟩
    | true =>
      simp [thenD_pp, sliceCells_sl, sliceCells_z, sliceCells_nil, take_full, appS_sl, appK_ok, appS_none, thenD_ag, agP_nil, agP_cons]
      generalize hx1 : aCall T0 F_spec_RecOf _ _ = xhx1
      obtain ⟨v1, X1, rfl, g1⟩ := of_call hx1 (c_spec_RecOf _ ((true, (atN ys 1 : Int), 256 * (atN ys 2 : Int) + (atN ys 3 : Int), unW (ys.drop 4)) : ty_Rec.D) hq)
      clear hx1
      obtain ⟨p1, ⟨_, rfl⟩, c1⟩ := Bytes.get g1 (recT_len _)
      have pM : M <+: X1 := (List.prefix_append _ _).trans p1
      have b0 : X1[M.length]? = some ⟨_, 1, 2⟩ := get_pre p1 (by simp; rfl)
      have b1 : X1[M.length + 1]? = some ⟨_, 1, 2⟩ := get_pre p1 (by simp; rfl)
      obtain ⟨_, _, y1, y2⟩ := cells_Byte (h.mono pM)
      rw [hl] at y1 y2
      cases y1
      generalize hrt : recT ((true, (atN ys 1 : Int), 256 * (atN ys 2 : Int) + (atN ys 3 : Int), unW (ys.drop 4)) : ty_Rec.D) = rt at c1 hok
      by_cases hbq : rt = ys
      · have hn := hok.1 ⟨hq, hbq⟩
        rw [← hx hn, hn]
        clear hrt
        subst hbq
        simp [thenD_pp, sliceCells_sl, sliceCells_z, sliceCells_nil, take_full, appS_sl, appK_ok, appS_none, thenD_ag, agP_nil, agP_cons, c1, y2, toBytes_map, p1, thenD_pre, b0, b1, gs_of b0, prim, rd1_K, rdJ_ok, rdn_K, rnJ_ok, wrn_K, wrJ_ok]
        exact sat_some ⟨rfl, pf_set (Nat.le_refl _) pM⟩
      · have hn : recR ys = false := by
          cases hh : recR ys with
          | false => rfl
          | true => exact absurd (hok.2 hh).2 hbq
        unfold recX
        rw [hn]
        simp [thenD_pp, sliceCells_sl, sliceCells_z, sliceCells_nil, take_full, appS_sl, appK_ok, appS_none, thenD_ag, agP_nil, agP_cons, c1, y2, toBytes_map, p1, thenD_pre, hbq, b0, b1, gs_of b0, prim, rd1_K, rdJ_ok, rdn_K, rnJ_ok, wrn_K, wrJ_ok]
        exact sat_some ⟨rfl, pf_set (Nat.le_refl _) pM⟩
  · have h1 : ¬ (atN ys 0 : Int) = 1 := by omega
    have hr : recS ys = zRec := by unfold recS; rw [if_neg h0]
    rw [hr] at hok hx
    rw [aCall_eq T_spec_RecRead]; unfold A_spec_RecRead C_spec_RecRead; simp [thenD_pp, sliceCells_sl, sliceCells_z, sliceCells_nil, take_full, appS_sl, appK_ok, appS_none, thenD_ag, agP_nil, agP_cons, hl, h1, k0]
    generalize hx1 : aCall T0 F_spec_RecOk _ _ = xhx1
    have hx1 := hx1.symm.trans (c_spec_RecOk _ zRec (by decide))
    subst hx1
    cases hq : recB zRec with
    | false =>
      have hn : recR ys = false := by
        cases hh : recR ys with
        | false => rfl
        | true => have := (hok.2 hh).1; rw [hq] at this; cases this
      unfold recX
      rw [hn]
      simp [thenD_pp, sliceCells_sl, sliceCells_z, sliceCells_nil, take_full, appS_sl, appK_ok, appS_none, thenD_ag, agP_nil, agP_cons, prim]
      exact sat_some ⟨rfl, List.prefix_append _ _⟩
    | true =>
      simp [thenD_pp, sliceCells_sl, sliceCells_z, sliceCells_nil, take_full, appS_sl, appK_ok, appS_none, thenD_ag, agP_nil, agP_cons]
      generalize hx1 : aCall T0 F_spec_RecOf _ _ = xhx1
      obtain ⟨v1, X1, rfl, g1⟩ := of_call hx1 (c_spec_RecOf _ zRec hq)
      clear hx1
      obtain ⟨p1, ⟨_, rfl⟩, c1⟩ := Bytes.get g1 (recT_len _)
      have pM : M <+: X1 := (List.prefix_append _ _).trans p1
      have b0 : X1[M.length]? = some ⟨_, 1, 2⟩ := get_pre p1 (by simp; rfl)
      have b1 : X1[M.length + 1]? = some ⟨_, 1, 2⟩ := get_pre p1 (by simp; rfl)
      obtain ⟨_, _, y1, y2⟩ := cells_Byte (h.mono pM)
      rw [hl] at y1 y2
      cases y1
      generalize hrt : recT zRec = rt at c1 hok
      by_cases hbq : rt = ys
      · have hn := hok.1 ⟨hq, hbq⟩
        rw [← hx hn, hn]
        clear hrt
        subst hbq
        simp [thenD_pp, sliceCells_sl, sliceCells_z, sliceCells_nil, take_full, appS_sl, appK_ok, appS_none, thenD_ag, agP_nil, agP_cons, c1, y2, toBytes_map, p1, thenD_pre, b0, b1, gs_of b0, prim, rd1_K, rdJ_ok, rdn_K, rnJ_ok, wrn_K, wrJ_ok]
        exact sat_some ⟨rfl, pf_set (Nat.le_refl _) pM⟩
      · have hn : recR ys = false := by
          cases hh : recR ys with
          | false => rfl
          | true => exact absurd (hok.2 hh).2 hbq
        unfold recX
        rw [hn]
        simp [thenD_pp, sliceCells_sl, sliceCells_z, sliceCells_nil, take_full, appS_sl, appK_ok, appS_none, thenD_ag, agP_nil, agP_cons, c1, y2, toBytes_map, p1, thenD_pre, hbq, b0, b1, gs_of b0, prim, rd1_K, rdJ_ok, rdn_K, rnJ_ok, wrn_K, wrJ_ok]
        exact sat_some ⟨rfl, pf_set (Nat.le_refl _) pM⟩
theorem l_spec_l21Recs_0 (M Z : Mem) (m : ty_Mem.D) (a b : Option Addr) (c d : Nat) (h : Rep (.sl ty_Cell) M [.slice a m.2.1.length c] m.2.1) (hn : m.2.1.length ≤ 128) (v : V) (hZ : RL (M ++ [⟨[.int .i64 m.1, .slice a m.2.1.length c, .slice b m.2.2.length d], 1, 2⟩]) (M.length + 1) Z v []) :
    (∃ v' X', RL (M ++ [⟨[.int .i64 m.1, .slice a m.2.1.length c, .slice b m.2.2.length d], 1, 2⟩]) (M.length + 1) X' v' (m.2.1.map recX) ∧ (∀ i, i < m.2.1.length → atB recOk m.2.1 i = true) ∧ lp (aCall T0) K_spec_l21Recs_0 L_spec_l21Recs_0 [und, .pointer (some ⟨M.length, 0, none⟩), und, und, v, .int .i64 (0 : Nat), und, und, und, und, und, und, und, und, und, und, und, und, und, und, und, und, und, und, und, und, und, und, und, und, und, und, und, und, und, und, und, und, und, und] Z = lp (aCall T0) K_spec_l21Recs_0 L_spec_l21Recs_0 [und, .pointer (some ⟨M.length, 0, none⟩), und, und, v', .int .i64 m.2.1.length, und, und, und, und, und, und, und, und, und, und, und, und, und, und, und, und, und, und, und, und, und, und, und, und, und, und, und, und, und, und, und, und, und, und] X') ∨
    ((∃ i, i < m.2.1.length ∧ atB recOk m.2.1 i = false) ∧ ∀ k, Sat (thenF M [.tmp 2, .tmp 3] (thenS (blockR 0 (lp (aCall T0) K_spec_l21Recs_0 L_spec_l21Recs_0 [und, .pointer (some ⟨M.length, 0, none⟩), und, und, v, .int .i64 (0 : Nat), und, und, und, und, und, und, und, und, und, und, und, und, und, und, und, und, und, und, und, und, und, und, und, und, und, und, und, und, und, und, und, und, und, und] Z)) (aCall T0) k)) (RecsD M [] false)) := by
  have key := loop_st (call := aCall T0) (K := K_spec_l21Recs_0) (L := L_spec_l21Recs_0) (fun i w Y => RL (M ++ [⟨[.int .i64 m.1, .slice a m.2.1.length c, .slice b m.2.2.length d], 1, 2⟩]) (M.length + 1) Y w ((m.2.1.take i).map recX)) (fun i w => [und, .pointer (some ⟨M.length, 0, none⟩), und, und, w, .int .i64 i, und, und, und, und, und, und, und, und, und, und, und, und, und, und, und, und, und, und, und, und, und, und, und, und, und, und, und, und, und, und, und, und, und, und]) (atB recOk m.2.1) (RecsD M [] false) (n := m.2.1.length) (M0 := M) (rs := [.tmp 2, .tmp 3]) (k0 := 0) v Z (by simpa using hZ) ?_ ?_
  · rcases key with ⟨v', X', h0, h1, h2⟩ | h
    · rw [List.take_length] at h0
      exact .inl ⟨v', X', h0, h1, h2⟩
    · exact .inr h
  · intro i w Y hi hq hY
    obtain ⟨n, hn1, pY, gY⟩ := hY
    have hn2 : n ≤ 128 := by rw [← hn1]; simp; omega
    have pM : M <+: Y := (List.prefix_append _ _).trans pY
    have b0 : Y[M.length]? = some ⟨[.int .i64 m.1, .slice a m.2.1.length c, .slice b m.2.2.length d], 1, 2⟩ := get_pre pY (by simp)
    obtain ⟨l, o, u, rfl, q1, _, q3⟩ := at_Cell (h.mono pM) hi
    rw [scanL (P := recOk) hi]
    generalize (m.2.1.take i).map recX = rs at hn1 gY ⊢
    rw [atB_get _ hi] at hq
    unfold recOk at hq
    rw [Bool.and_eq_true] at hq
    obtain ⟨hq, hd⟩ := hq
    have hd := of_decide_eq_true hd
    generalize m.2.1[i] = cell at q3 hq hd ⊢
    have e6 : IntKind.i64.wrap ((i : Int) + 1) = i + 1 := wrap_i64 (by omega) (by omega)
    rw [S_spec_l21Recs_0]; unfold B_spec_l21Recs_0; simp [thenD_pp, sliceCells_sl, sliceCells_z, sliceCells_nil, take_full, appS_sl, appK_ok, appS_none, thenD_ag, agP_nil, agP_cons, b0, hi, q1, rd1_K, rdJ_ok]
    generalize hx : aCall T0 F_spec_RecRead _ _ = xhx
    obtain ⟨w1, X1, rfl, rfl, p1⟩ := of_call hx (c_spec_RecRead _ _ _ q3)
    clear hx
    have c0 := get_pre p1 b0
    generalize recX cell = rr at hd ⊢
    obtain ⟨r1, r2, r3, r4⟩ := rr
    simp only at hd
    subst hd
    obtain ⟨_, rfl⟩ := gY.shape
    simp [thenD_pp, sliceCells_sl, sliceCells_z, sliceCells_nil, take_full, appS_sl, appK_ok, appS_none, thenD_ag, agP_nil, agP_cons, hq, zeroCells, rd1_K, rdJ_ok, rdn_K, rnJ_ok]
    generalize hy : appS _ _ _ _ _ _ = xhy
    obtain ⟨a3, X3, rfl, g3, ag, l3⟩ := gY.at hy (p1.trans (List.prefix_append _ _)) (by have := get_lt b0; omega) (by rfl) (by omega) (by rfl) (by omega) (by omega)
    clear hy
    have hd : ∀ j, j < M.length + 1 → j ∉ wfs (.slice ‹_› n n) := fun j hj hm => by have := gY.ge j hm; omega
    simp [thenD_pp, sliceCells_sl, sliceCells_z, sliceCells_nil, take_full, appS_sl, appK_ok, appS_none, thenD_ag, agP_nil, agP_cons, e6]
    refine ⟨_, _, ⟨n + 1, by rw [List.length_append, hn1]; rfl, ag.pre (pf_app (pY.trans p1)) fun j hj => by have := gY.ge j hj; simp; omega, ?_⟩, rfl⟩
    rw [List.map_append, List.flatten_append]
    simpa using g3
  · intro i w Y hi hq hY k
    obtain ⟨n, hn1, pY, gY⟩ := hY
    have pM : M <+: Y := (List.prefix_append _ _).trans pY
    have b0 : Y[M.length]? = some ⟨[.int .i64 m.1, .slice a m.2.1.length c, .slice b m.2.2.length d], 1, 2⟩ := get_pre pY (by simp)
    obtain ⟨l, o, u, rfl, q1, _, q3⟩ := at_Cell (h.mono pM) hi
    rw [atB_get _ hi] at hq
    unfold recOk at hq
    generalize m.2.1[i] = cell at q3 hq ⊢
    rw [S_spec_l21Recs_0]; unfold B_spec_l21Recs_0; simp [thenD_pp, sliceCells_sl, sliceCells_z, sliceCells_nil, take_full, appS_sl, appK_ok, appS_none, thenD_ag, agP_nil, agP_cons, b0, hi, q1, rd1_K, rdJ_ok]
    generalize hx : aCall T0 F_spec_RecRead _ _ = xhx
    obtain ⟨w1, X1, rfl, rfl, p1⟩ := of_call hx (c_spec_RecRead _ _ _ q3)
    clear hx
    generalize recX cell = rr at hq ⊢
    obtain ⟨r1, r2, r3, r4⟩ := rr
    cases hr : recR cell with
    | false =>
      simp [thenD_pp, sliceCells_sl, sliceCells_z, sliceCells_nil, take_full, appS_sl, appK_ok, appS_none, thenD_ag, agP_nil, agP_cons, hr]
      exact sat_some (recsD_nil (pf_app (pM.trans p1)))
    | true =>
      rw [hr, Bool.true_and] at hq
      have hq := of_decide_eq_false hq
      simp only at hq
      simp [thenD_pp, sliceCells_sl, sliceCells_z, sliceCells_nil, take_full, appS_sl, appK_ok, appS_none, thenD_ag, agP_nil, agP_cons, hr, hq]
      exact sat_some (recsD_nil (pf_app (pM.trans p1)))
theorem c_spec_l21Recs (M : Mem) (cs : List V) (m : ty_Mem.D) (h : Rep ty_Mem M cs m) (hn : m.2.1.length ≤ 128) : Sat (aCall T0 F_spec_l21Recs [.agg cs.toArray] M) (RecsD M (specR m) (m.2.1.all recOk)) := by
  obtain ⟨a, b, c, d, rfl, r0, r1⟩ := mem_shape h
  unfold specR
  rcases l_spec_l21Recs_0 M _ m a b c d r0 hn (.slice (some ⟨M.length + 1, 0, none⟩) 0 0) ⟨0, rfl, List.prefix_append _ [(⟨[], 4, 2⟩ : Blk)], ⟨rfl, .inr ⟨M.length + 1, by omega, rfl, by simp⟩⟩⟩ with ⟨v', X', h0, h1, e⟩ | ⟨hb, e⟩
  · simp only [Int.natCast_zero, Int.ofNat_zero] at e
    rw [atB_all h1, if_pos rfl]
    rw [aCall_eq T_spec_l21Recs]; unfold A_spec_l21Recs C_spec_l21Recs; simp [thenD_pp, sliceCells_sl, sliceCells_z, sliceCells_nil, take_full, appS_sl, appK_ok, appS_none, thenD_ag, agP_nil, agP_cons, zeroCells]
    rw [show (M ++ [⟨[.int .i64 m.1, .slice a m.2.1.length c, .slice b m.2.2.length d], 1, 2⟩, ⟨[], 4, 2⟩] : Mem) = M ++ [⟨[.int .i64 m.1, .slice a m.2.1.length c, .slice b m.2.2.length d], 1, 2⟩] ++ [⟨[], 4, 2⟩] by simp, e]
    have b0 : X'[M.length]? = some ⟨[.int .i64 m.1, .slice a m.2.1.length c, .slice b m.2.2.length d], 1, 2⟩ := get_pre (by obtain ⟨_, _, hp, _⟩ := h0; exact hp) (by simp)
    have hs := rl_D (ok := true) h0
    obtain ⟨_, _, hg⟩ := h0
    obtain ⟨_, rfl⟩ := hg.2.shape
    rw [S_spec_l21Recs_0]; unfold B_spec_l21Recs_0; simp [thenD_pp, sliceCells_sl, sliceCells_z, sliceCells_nil, take_full, appS_sl, appK_ok, appS_none, thenD_ag, agP_nil, agP_cons, b0, rd1_K, rdJ_ok]
    exact sat_some hs
  · simp only [Int.natCast_zero, Int.ofNat_zero] at e
    rw [atB_not hb, if_neg (by decide)]
    rw [aCall_eq T_spec_l21Recs]; unfold A_spec_l21Recs C_spec_l21Recs; simp [thenD_pp, sliceCells_sl, sliceCells_z, sliceCells_nil, take_full, appS_sl, appK_ok, appS_none, thenD_ag, agP_nil, agP_cons, zeroCells]
    rw [show (M ++ [⟨[.int .i64 m.1, .slice a m.2.1.length c, .slice b m.2.2.length d], 1, 2⟩, ⟨[], 4, 2⟩] : Mem) = M ++ [⟨[.int .i64 m.1, .slice a m.2.1.length c, .slice b m.2.2.length d], 1, 2⟩] ++ [⟨[], 4, 2⟩] by simp]
    exact e _
theorem c_spec_l21At (M : Mem) (v : V) (xs : List ty_Rec.D) (w : List UInt8) (h : Rep (.sl ty_Rec) M [v] xs) (hn : xs.length ≤ 1048576) : aCall T0 F_spec_l21At [v, strV w] M = some (.int .i64 (idx (liveW w) xs), M) := by
  obtain ⟨a, c, rfl⟩ := h.slen
  have step : ∀ i (hi : i < xs.length), liveW w xs[i] = false → lp (aCall T0) K_spec_l21At_0 L_spec_l21At_0 [.slice a xs.length c, strV w, und, und, und, .int .i64 i, und, und, und, und, und, und, und, und, und, und, und, und, und, und, und, und, und, und, und, und, und] M = lp (aCall T0) K_spec_l21At_0 L_spec_l21At_0 [.slice a xs.length c, strV w, und, und, und, .int .i64 (i + 1 : Nat), und, und, und, und, und, und, und, und, und, und, und, und, und, und, und, und, und, und, und, und, und] M := by
    intro i hi hq
    obtain ⟨l, o, rfl, _, q0, q1, _, _, q2⟩ := at_Rec h hi
    have e6 : IntKind.i64.wrap ((i : Int) + 1) = i + 1 := wrap_i64 (by omega) (by omega)
    unfold liveW at hq
    generalize xs[i] = r at q1 q2 hq
    obtain ⟨r1, r2, r3, r4⟩ := r
    cases r1 with
    | false =>
      rw [S_spec_l21At_0]; unfold B_spec_l21At_0; simp [thenD_pp, sliceCells_sl, sliceCells_z, sliceCells_nil, take_full, appS_sl, appK_ok, appS_none, thenD_ag, agP_nil, agP_cons, hi, q1, e6]
    | true =>
      have hq := of_decide_eq_false hq
      simp only at hq q2
      rw [S_spec_l21At_0]; unfold B_spec_l21At_0; simp [thenD_pp, sliceCells_sl, sliceCells_z, sliceCells_nil, take_full, appS_sl, appK_ok, appS_none, thenD_ag, agP_nil, agP_cons, hi, q1, q2, hq, e6]
  rcases idx_cases (liveW w) xs with ⟨ha, h1⟩ | ⟨j, hj, ha, h1, h2⟩
  · have hc := chain (g := fun i : Nat => lp (aCall T0) K_spec_l21At_0 L_spec_l21At_0 [.slice a xs.length c, strV w, und, und, und, .int .i64 i, und, und, und, und, und, und, und, und, und, und, und, und, und, und, und, und, und, und, und, und, und] M) (n := xs.length) fun i hi => step i hi (h1 i hi)
    simp only [Int.natCast_zero, Int.ofNat_zero] at hc
    rw [ha]
    rw [aCall_eq T_spec_l21At]; unfold A_spec_l21At C_spec_l21At; simp [thenD_pp, sliceCells_sl, sliceCells_z, sliceCells_nil, take_full, appS_sl, appK_ok, appS_none, thenD_ag, agP_nil, agP_cons, hc]
    rw [S_spec_l21At_0]; unfold B_spec_l21At_0; simp [thenD_pp, sliceCells_sl, sliceCells_z, sliceCells_nil, take_full, appS_sl, appK_ok, appS_none, thenD_ag, agP_nil, agP_cons]
  · have hc := chain (g := fun i : Nat => lp (aCall T0) K_spec_l21At_0 L_spec_l21At_0 [.slice a xs.length c, strV w, und, und, und, .int .i64 i, und, und, und, und, und, und, und, und, und, und, und, und, und, und, und, und, und, und, und, und, und] M) (n := j) fun i hi => step i (by omega) (h1 i (by omega) hi)
    simp only [Int.natCast_zero, Int.ofNat_zero] at hc
    obtain ⟨l, o, rfl, _, q0, q1, _, _, q2⟩ := at_Rec h hj
    unfold liveW at h2
    generalize xs[j] = r at q1 q2 h2
    obtain ⟨r1, r2, r3, r4⟩ := r
    simp only [Bool.and_eq_true, decide_eq_true_eq] at h2
    obtain ⟨rfl, rfl⟩ := h2
    rw [ha]
    rw [aCall_eq T_spec_l21At]; unfold A_spec_l21At C_spec_l21At; simp [thenD_pp, sliceCells_sl, sliceCells_z, sliceCells_nil, take_full, appS_sl, appK_ok, appS_none, thenD_ag, agP_nil, agP_cons, hc]
    rw [S_spec_l21At_0]; unfold B_spec_l21At_0; simp [thenD_pp, sliceCells_sl, sliceCells_z, sliceCells_nil, take_full, appS_sl, appK_ok, appS_none, thenD_ag, agP_nil, agP_cons, hj, q1, q2]
theorem idx_le {α : Type} {p : α → Bool} {xs : List α} {i : Nat} (hi : i < xs.length) (hp : p xs[i] = true) : 0 ≤ idx p xs ∧ idx p xs ≤ i := by
  rcases idx_cases p xs with ⟨ha, h1⟩ | ⟨j, hj, ha, h1, h2⟩
  · rw [h1 i hi] at hp; cases hp
  · by_cases hji : i < j
    · rw [h1 i hi hji] at hp; cases hp
    · omega
theorem live_self {r : ty_Rec.D} (h : r.1 = true) : liveW r.2.2.2 r = true := by unfold liveW; simp [h]
theorem l_spec_ScanOk_0 (M X : Mem) (hM : M <+: X) (v : V) (rs : List ty_Rec.D) (h : Rep (.sl ty_Rec) X [v] rs) (hn : rs.length ≤ 1048576) :
    ((∀ i, i < rs.length → fr1 rs i = true) ∧ lp (aCall T0) K_spec_ScanOk_0 L_spec_ScanOk_0 [und, und, und, v, und, .int .i64 (0 : Nat), und, und, und, und, und, und, und, und, und, und, und, und, und, und, und, und, und, und, und, und, und, und, und, und, und, und, und, und, und, und, und, und, und, und, und, und, und, und, und, und, und, und, und, und, und, und, und, und, und, und, und, und, und] X = lp (aCall T0) K_spec_ScanOk_0 L_spec_ScanOk_0 [und, und, und, v, und, .int .i64 rs.length, und, und, und, und, und, und, und, und, und, und, und, und, und, und, und, und, und, und, und, und, und, und, und, und, und, und, und, und, und, und, und, und, und, und, und, und, und, und, und, und, und, und, und, und, und, und, und, und, und, und, und, und, und] X) ∨
    ((∃ i, i < rs.length ∧ fr1 rs i = false) ∧ ∀ k, thenF M [.tmp 2] (thenS (blockR 0 (lp (aCall T0) K_spec_ScanOk_0 L_spec_ScanOk_0 [und, und, und, v, und, .int .i64 (0 : Nat), und, und, und, und, und, und, und, und, und, und, und, und, und, und, und, und, und, und, und, und, und, und, und, und, und, und, und, und, und, und, und, und, und, und, und, und, und, und, und, und, und, und, und, und, und, und, und, und, und, und, und, und, und] X)) (aCall T0) k) = some (.bool false, M)) := by
  have key := loop_ok (call := aCall T0) (K := K_spec_ScanOk_0) (L := L_spec_ScanOk_0) (fun _ Y => Y = X) (fun i => [und, und, und, v, und, .int .i64 i, und, und, und, und, und, und, und, und, und, und, und, und, und, und, und, und, und, und, und, und, und, und, und, und, und, und, und, und, und, und, und, und, und, und, und, und, und, und, und, und, und, und, und, und, und, und, und, und, und, und, und, und, und]) (fr1 rs) (n := rs.length) (M0 := M) (rs := [.tmp 2]) (k0 := 0) (a := .bool false) X rfl ?_ ?_
  · rcases key with ⟨X', rfl, h1, h2⟩ | h
    · exact .inl ⟨h1, h2⟩
    · exact .inr h
  · intro i Y hi hq e
    subst e
    refine ⟨Y, rfl, ?_⟩
    have s1 := fun w : List UInt8 => c_spec_l21At Y v rs w h hn
    obtain ⟨a, c, rfl⟩ := h.slen
    obtain ⟨l, o, rfl, _, q0, q1, _, _, q2⟩ := at_Rec h hi
    have e6 : IntKind.i64.wrap ((i : Int) + 1) = i + 1 := wrap_i64 (by omega) (by omega)
    rw [fr1_get hi] at hq
    unfold frB at hq
    have hs := fun hl : rs[i].1 = true => idx_le hi (live_self (r := rs[i]) hl)
    generalize rs[i] = r at q1 q2 hq hs
    obtain ⟨r1, r2, r3, r4⟩ := r
    cases r1 with
    | false =>
      rw [S_spec_ScanOk_0]; unfold B_spec_ScanOk_0; simp [thenD_pp, sliceCells_sl, sliceCells_z, sliceCells_nil, take_full, appS_sl, appK_ok, appS_none, thenD_ag, agP_nil, agP_cons, hi, q1, e6]
    | true =>
      have hs := hs rfl
      simp only [Bool.true_and, Bool.not_eq_true', decide_eq_false_iff_not] at hq hs
      have hq2 : idx (liveW r4) rs = i := by omega
      rw [S_spec_ScanOk_0]; unfold B_spec_ScanOk_0; simp [thenD_pp, sliceCells_sl, sliceCells_z, sliceCells_nil, take_full, appS_sl, appK_ok, appS_none, thenD_ag, agP_nil, agP_cons, hi, q1, q2, s1, hq2, e6]
  · intro i Y hi hq e k
    subst e
    have s1 := fun w : List UInt8 => c_spec_l21At Y v rs w h hn
    obtain ⟨a, c, rfl⟩ := h.slen
    obtain ⟨l, o, rfl, _, q0, q1, _, _, q2⟩ := at_Rec h hi
    rw [fr1_get hi] at hq
    unfold frB at hq
    generalize rs[i] = r at q1 q2 hq
    obtain ⟨r1, r2, r3, r4⟩ := r
    simp only [Bool.not_eq_false', Bool.and_eq_true, decide_eq_true_eq] at hq
    obtain ⟨rfl, hq⟩ := hq
    have hq2 : ¬ idx (liveW r4) rs = i := by omega
    have gb := fun b => gc_boolp hM b
    rw [S_spec_ScanOk_0]; unfold B_spec_ScanOk_0; simp [thenD_pp, sliceCells_sl, sliceCells_z, sliceCells_nil, take_full, appS_sl, appK_ok, appS_none, thenD_ag, agP_nil, agP_cons, hi, q1, q2, s1, hq2, gb]
theorem c_spec_ScanOk (M : Mem) (cs : List V) (m : ty_Scan.D) (h : Rep ty_Scan M cs m) : aCall T0 F_spec_ScanOk [.agg cs.toArray] M = some (.bool (scanB m), M) := by
  have s1 := fun N : Mem => c_spec_MemOk (M ++ N) cs m (h.mono (List.prefix_append _ _))
  have s2 := fun N : Mem => c_spec_l21Recs (M ++ N) cs m (h.mono (List.prefix_append _ _))
  obtain ⟨a, b, c, d, rfl, r0, r1⟩ := mem_shape h
  unfold scanB
  by_cases h1 : (m.1 : Int) = 37
  rotate_left
  · rw [decide_eq_false (fun q => h1 q.1), Bool.false_and, Bool.false_and]
    rw [aCall_eq T_spec_ScanOk]; unfold A_spec_ScanOk C_spec_ScanOk; simp [thenD_pp, sliceCells_sl, sliceCells_z, sliceCells_nil, take_full, appS_sl, appK_ok, appS_none, thenD_ag, agP_nil, agP_cons, h1]
  by_cases h2 : m.2.1.length < 1
  · rw [decide_eq_false (fun q => by omega), Bool.false_and, Bool.false_and]
    have h2' : (m.2.1.length : Int) < 1 := by omega
    rw [aCall_eq T_spec_ScanOk]; unfold A_spec_ScanOk C_spec_ScanOk; simp [thenD_pp, sliceCells_sl, sliceCells_z, sliceCells_nil, take_full, appS_sl, appK_ok, appS_none, thenD_ag, agP_nil, agP_cons, h1, h2']
  have h2' : ¬ (m.2.1.length : Int) < 1 := by omega
  by_cases h3 : 64 < m.2.1.length
  · rw [decide_eq_false (fun q => by omega), Bool.false_and, Bool.false_and]
    have h3' : (64 : Int) < m.2.1.length := by omega
    rw [aCall_eq T_spec_ScanOk]; unfold A_spec_ScanOk C_spec_ScanOk; simp [thenD_pp, sliceCells_sl, sliceCells_z, sliceCells_nil, take_full, appS_sl, appK_ok, appS_none, thenD_ag, agP_nil, agP_cons, h1, h2', h3']
  have h3' : ¬ (64 : Int) < m.2.1.length := by omega
  rw [decide_eq_true ⟨h1, by omega, by omega⟩, Bool.true_and]
  cases h4 : memB m with
  | false =>
    rw [h4] at s1
    rw [aCall_eq T_spec_ScanOk]; unfold A_spec_ScanOk C_spec_ScanOk; simp [thenD_pp, sliceCells_sl, sliceCells_z, sliceCells_nil, take_full, appS_sl, appK_ok, appS_none, thenD_ag, agP_nil, agP_cons, eq_true h1, h2', h3', s1]
  | true =>
  rw [h4] at s1
  rw [Bool.true_and]
  rw [aCall_eq T_spec_ScanOk]; unfold A_spec_ScanOk C_spec_ScanOk; simp [thenD_pp, sliceCells_sl, sliceCells_z, sliceCells_nil, take_full, appS_sl, appK_ok, appS_none, thenD_ag, agP_nil, agP_cons, eq_true h1, h2', h3', s1]
  generalize hx : aCall T0 F_spec_l21Recs _ _ = xhx
  obtain ⟨w1, X1, rfl, v, n, e1, p1, hn1, g1⟩ := of_call hx (s2 _ (by omega))
  clear hx
  simp only at e1
  subst e1
  have pM : M <+: X1 := (List.prefix_append _ _).trans p1
  unfold specR at hn1 g1
  cases h5 : m.2.1.all recOk with
  | false =>
    simp [thenD_pp, sliceCells_sl, sliceCells_z, sliceCells_nil, take_full, appS_sl, appK_ok, appS_none, thenD_ag, agP_nil, agP_cons]
    exact gc_boolp pM _
  | true =>
  rw [h5, if_pos rfl] at hn1 g1
  have hr := grow_Rec g1 hn1 recs_bd
  rw [Bool.true_and]
  have hn2 : (m.2.1.map recX).length = m.2.1.length := List.length_map _
  rw [← hn2]
  generalize m.2.1.map recX = rs at hn1 g1 hr hn2 ⊢
  rcases l_spec_ScanOk_0 M X1 pM v rs hr (by omega) with ⟨ha, e⟩ | ⟨hb, e⟩
  · simp only [Int.natCast_zero, Int.ofNat_zero] at e
    rw [range_all ha]
    simp [thenD_pp, sliceCells_sl, sliceCells_z, sliceCells_nil, take_full, appS_sl, appK_ok, appS_none, thenD_ag, agP_nil, agP_cons, e]
    obtain ⟨_, rfl⟩ := g1.shape
    have gb := fun b => gc_boolp pM b
    rw [hn1]
    rw [S_spec_ScanOk_0]; unfold B_spec_ScanOk_0; simp [thenD_pp, sliceCells_sl, sliceCells_z, sliceCells_nil, take_full, appS_sl, appK_ok, appS_none, thenD_ag, agP_nil, agP_cons, gb]
  · simp only [Int.natCast_zero, Int.ofNat_zero] at e
    obtain ⟨i, hi, hq⟩ := hb
    rw [range_not hi hq]
    simp [thenD_pp, sliceCells_sl, sliceCells_z, sliceCells_nil, take_full, appS_sl, appK_ok, appS_none, thenD_ag, agP_nil, agP_cons, e]
theorem d_spec_ScanOk (M : Mem) (cs : List V) (m : ty_Scan.D) (h : Rep ty_Scan M cs m) (hb : Bd 1048576 ty_Scan m) : aCall T0 F_spec_ScanOk [.agg cs.toArray] M = some (.bool (scanB m), M) := c_spec_ScanOk M cs m h
set_option maxHeartbeats 8000000 in
set_option maxRecDepth 20000 in
theorem c_laws_FnExactScanOk (M : Mem) (v_s : List V) (s : ty_Scan.D) (h_s : Rep ty_Scan M v_s s) (hb_s : Bd 9223372036854775807 ty_Scan s) : ∃ M', aCall T0 F_laws_FnExactScanOk [.agg v_s.toArray] M = some (.bool true, M') := by
  have hl_v_s : v_s.length = 3 := (h_s).len
  have ho_v_s := (h_s).one
  obtain ⟨l_s, s1_s, s2_s, s3_s⟩ := k_laws_szScan (M ++ [⟨v_s, 1, 2⟩]) v_s s 1048576 (h_s.mono ((List.prefix_refl _).trans (List.prefix_append _ _))) hb_s (by omega) (by omega)
  have r1 : rdn (M ++ [⟨v_s, 1, 2⟩]) (M.length) 0 3 = some v_s := rdn_box (by first | simp | rfl) hl_v_s.symm
  by_cases hl_s : l_s < 0
  · refine ⟨M, ?_⟩
    rw [aCall_eq T_laws_FnExactScanOk]; unfold A_laws_FnExactScanOk C_laws_FnExactScanOk; simp [thenD_pp, sliceCells_sl, sliceCells_z, sliceCells_nil, take_full, appS_sl, appK_ok, appS_none, thenD_ag, agP_nil, agP_cons, hl_v_s, ho_v_s, r1, s2_s, hl_s]
  have hb1_s := s3_s (by omega)
  have r2 : rdn (M ++ [⟨v_s, 1, 2⟩]) (M.length) 0 3 = some v_s := rdn_box (by first | simp | rfl) hl_v_s.symm
  obtain ⟨M3, u4, L5, p6, t7, o8, F9⟩ := k_laws_toScan (M ++ [⟨v_s, 1, 2⟩]) v_s s (h_s.mono ((List.prefix_refl _).trans (List.prefix_append _ _))) hb1_s
  have f10 : ∀ l ∈ L5, M.length + 1 ≤ l ∧ l < M3.length := by intro l hl; have := F9.2 l hl; (try simp only [List.length_append, List.length_cons, List.length_nil] at this); omega
  have q11 : M <+: M3 := (List.prefix_append _ _).trans p6
  have ln12 : M.length + 1 ≤ M3.length := by have := p6.length_le; (try simp only [List.length_append, List.length_cons, List.length_nil] at this); omega
  have b13 : M3[M.length]? = some ⟨v_s, 1, 2⟩ := get_pre p6 (by simp)
  have z14 : M <+: M3 := (List.prefix_refl _).trans q11
  have hl_u4 : u4.length = 3 := (o8.rep).len
  have ho_u4 := (o8.rep).one
  have s16 := d_spec_ScanOk M3 u4 s ((Own.grow (List.prefix_refl _) o8)).rep hb1_s
  have r17 : rdn M3 (M.length) 0 3 = some v_s := rdn_box b13 hl_v_s.symm
  obtain ⟨M18, u19, L20, p21, t22, o23, F24⟩ := k_laws_toScan M3 v_s s (h_s.mono (z14.trans (List.prefix_refl _))) hb1_s
  have f25 : ∀ l ∈ L20, M3.length ≤ l ∧ l < M18.length := by intro l hl; have := F24.2 l hl; (try simp only [List.length_append, List.length_cons, List.length_nil] at this); omega
  have q26 : M3 <+: M18 := (List.prefix_refl _).trans p21
  have ln27 : M3.length ≤ M18.length := by have := p21.length_le; (try simp only [List.length_append, List.length_cons, List.length_nil] at this); omega
  have b28 : M18[M.length]? = some ⟨v_s, 1, 2⟩ := get_pre q26 b13
  have z29 : M <+: M18 := z14.trans q26
  have y30 : M3 <+: M18 := (List.prefix_refl _).trans q26
  have hl_u19 : u19.length = 3 := (o23.rep).len
  have ho_u19 := (o23.rep).one
  have r32 : rdn (M18 ++ [⟨u19, 1, 2⟩]) (M18.length) 0 3 = some u19 := rdn_box (by first | simp | rfl) hl_u19.symm
  have s33 := d_impl_ScanOk (M18 ++ [⟨u19, 1, 2⟩]) u19 s ((Own.grow (List.prefix_append _ _) o23)).rep hb1_s
  have r34 : rdn (M18 ++ [⟨u19, 1, 2⟩]) (M18.length) 0 3 = some u19 := rdn_box (by first | simp | rfl) hl_u19.symm
  have r35 : rdn (M18 ++ [⟨u19, 1, 2⟩]) (M.length) 0 3 = some v_s := rdn_old (rdn_box b28 hl_v_s.symm)
  obtain ⟨M36, u37, L38, p39, t40, o41, F42⟩ := k_laws_toScan (M18 ++ [⟨u19, 1, 2⟩]) v_s s (h_s.mono (z29.trans (List.prefix_append _ _))) hb1_s
  have f43 : ∀ l ∈ L38, M18.length + 1 ≤ l ∧ l < M36.length := by intro l hl; have := F42.2 l hl; (try simp only [List.length_append, List.length_cons, List.length_nil] at this); omega
  have q44 : M18 <+: M36 := (List.prefix_append _ _).trans p39
  have ln45 : M18.length + 1 ≤ M36.length := by have := p39.length_le; (try simp only [List.length_append, List.length_cons, List.length_nil] at this); omega
  have b46 : M36[M.length]? = some ⟨v_s, 1, 2⟩ := get_pre q44 b28
  have b47 : M36[M18.length]? = some ⟨u19, 1, 2⟩ := get_pre p39 (by simp)
  have o48 := Own.grow q44 o23
  have z49 : M <+: M36 := z29.trans q44
  have y50 : M3 <+: M36 := y30.trans q44
  have hl_u37 : u37.length = 3 := (o41.rep).len
  have ho_u37 := (o41.rep).one
  have e52 := (ans_of (k_laws_eqScan M36 _ _ _ _ ((Own.grow (List.prefix_refl _) o48)).rep ((Own.grow (List.prefix_refl _) o41)).rep (hb1_s.mono (by decide)))).1 rfl
  rw [aCall_eq T_laws_FnExactScanOk]; unfold A_laws_FnExactScanOk C_laws_FnExactScanOk; simp (maxSteps := 4000000) [thenD_pp, sliceCells_sl, sliceCells_z, sliceCells_nil, take_full, appS_sl, appK_ok, appS_none, thenD_ag, agP_nil, agP_cons, hl_v_s, ho_v_s, r1, s2_s, hl_s, r2, t7, p6, hl_u4, ho_u4, s16, r17, t22, p21, hl_u19, ho_u19, r32, s33, r34, r35, t40, p39, hl_u37, ho_u37, e52, thenD_pre]
  all_goals exact gc_ex _ _ _
theorem law_laws_FnExactScanOk (M : Mem) (avs : List V) (_ : ∀ b ∈ M, b.st ≠ 2) (h : Ins [(true, (.pr (.int .i64) (.pr (.sl (.sl .u8)) (.sl (.pr (.int .i64) (.pr (.int .i64) (.int .i64)))))))] M avs) : ∃ M', aCall T0 F_laws_FnExactScanOk avs M = some (.bool true, M') := by
  obtain ⟨v_s, _, s, rfl, h_s, f_s, h⟩ := ins_cons h
  obtain rfl := ins_nil h
  obtain ⟨c_s, rfl, h2_s⟩ := repv_agg h_s
  exact c_laws_FnExactScanOk M c_s s h2_s (fit_bd f_s)
end GoAm
