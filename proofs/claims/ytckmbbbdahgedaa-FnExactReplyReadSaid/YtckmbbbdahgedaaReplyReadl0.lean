/- What the functions do that the law reaches. -/
import Derived.Test.YtckmbbbdahgedaaReplyReadt
import Derived.Test.YtckmbbbdahgedaaAmGr
set_option autoImplicit false
set_option linter.unusedVariables false
set_option linter.unusedSimpArgs false
namespace GoAm
open Go
abbrev ty_Int : Ty := .int .i64
abbrev ty_Rec : Ty := .pr .bool (.pr (.int .i64) (.pr (.int .i64) .str))
instance d_Rec : DecidableEq ty_Rec.D := Ty.deq ty_Rec
abbrev ty_Reply : Ty := .pr (.int .i64) (.pr .bool (.pr (.int .i64) (.pr (.sl ty_Rec) (.sl ty_Int))))
theorem rep_g_Reply {M : Mem} {cs : List V} {x : ty_Reply.D} (h : Rep ty_Reply M cs x) : ∃ u0 u1 : V, cs = [.int .i64 x.1, .bool x.2.1, .int .i64 x.2.2.1, u0, u1] ∧ (Lit.int .i64 x.1).wf = true ∧ (Lit.int .i64 x.2.2.1).wf = true ∧ Rep (.sl ty_Rec) M [u0] x.2.2.2.1 ∧ Rep (.sl ty_Int) M [u1] x.2.2.2.2 := by
  obtain ⟨c0, d0, rfl, h0, h⟩ := h
  obtain ⟨rfl, w0⟩ := h0
  obtain ⟨c1, d1, rfl, h1, h⟩ := h
  obtain rfl := h1
  obtain ⟨c2, d2, rfl, h2, h⟩ := h
  obtain ⟨rfl, w1⟩ := h2
  obtain ⟨c3, d3, rfl, h3, h⟩ := h
  obtain ⟨u0, rfl⟩ : ∃ u, c3 = [u] := by
    have l0 := Rep.len (h3)
    exact List.length_eq_one_iff.1 l0
  have r0 := h3
  obtain ⟨u1, rfl⟩ : ∃ u, d3 = [u] := by
    have l1 := Rep.len (h)
    exact List.length_eq_one_iff.1 l1
  have r1 := h
  exact ⟨u0, u1, rfl, w0, w1, r0, r1⟩
abbrev enc_Int (x : ty_Int.D) : List V := [.int .i64 x]
theorem at_Int {M : Mem} {a : Option Addr} {n c : Nat} {xs : List ty_Int.D} (h : Rep (.sl ty_Int) M [.slice a n c] xs) {i : Nat} (hi : i < xs.length) : ∃ l o, a = some ⟨l, o, none⟩ ∧ Rep ty_Int M (enc_Int xs[i]) xs[i] ∧ rd1 M l (o + i) = some (.int .i64 xs[i]) := by
  obtain ⟨_, l, o, rfl, cs, hrd, hrep⟩ := rep_at h hi
  have hcs : cs = enc_Int xs[i] := hrep.1
  subst hcs
  have hw1 : ty_Int.w = 1 := rfl
  rw [hw1, Nat.mul_one] at hrd
  exact ⟨l, o, rfl, hrep, rd1_of_one hrd⟩
theorem r_laws_eqIntS (M : Mem) (a b : Option Addr) (c d : Nat) (xs ys : List ty_Int.D) (h : Rep (.sl ty_Int) M [.slice a xs.length c] xs) (h2 : Rep (.sl ty_Int) M [.slice b ys.length d] ys) (hn : xs.length ≤ 9223372036854775807) (i : Nat) (hi : i < xs.length) (hj : i < ys.length) (he : xs[i] = ys[i]) :
    lp (aCall T0) K_laws_eqIntS_0 L_laws_eqIntS_0 [.slice a xs.length c, .slice b ys.length d, und, und, und, .int .i64 i, und, und, und, und, und, und, und, und, und, und, und, und, und, und, und, und, und, und, und, und] M = lp (aCall T0) K_laws_eqIntS_0 L_laws_eqIntS_0 [.slice a xs.length c, .slice b ys.length d, und, und, und, .int .i64 (i + 1 : Nat), und, und, und, und, und, und, und, und, und, und, und, und, und, und, und, und, und, und, und, und] M := by
  obtain ⟨l, o, rfl, _, hrd⟩ := at_Int h hi
  obtain ⟨l2, o2, rfl, _, hrd2⟩ := at_Int h2 hj
  have e6 : IntKind.i64.wrap ((i : Int) + 1) = i + 1 := wrap_i64 (by omega) (by omega)
  rw [S_laws_eqIntS_0]; unfold B_laws_eqIntS_0; simp [hrd, hrd2, e6, hi, hj, he]
theorem x_laws_eqIntS (M : Mem) (a b : Option Addr) (c d : Nat) (xs ys : List ty_Int.D) (h : Rep (.sl ty_Int) M [.slice a xs.length c] xs) (h2 : Rep (.sl ty_Int) M [.slice b ys.length d] ys) (hn : xs.length ≤ 9223372036854775807) (i : Nat) (hi : i < xs.length) (hj : i < ys.length) (he : xs[i] ≠ ys[i]) (k : ACode) :
    thenF M [.tmp 4] (thenS (blockR 0 (lp (aCall T0) K_laws_eqIntS_0 L_laws_eqIntS_0 [.slice a xs.length c, .slice b ys.length d, und, und, und, .int .i64 i, und, und, und, und, und, und, und, und, und, und, und, und, und, und, und, und, und, und, und, und] M)) (aCall T0) k) = some (.bool false, M) := by
  obtain ⟨l, o, rfl, _, hrd⟩ := at_Int h hi
  obtain ⟨l2, o2, rfl, _, hrd2⟩ := at_Int h2 hj
  rw [S_laws_eqIntS_0]; unfold B_laws_eqIntS_0; simp [hrd, hrd2, hi, hj, he]
theorem c_laws_eqIntS (M : Mem) (v u : V) (xs ys : List Int) (h : Rep (.sl ty_Int) M [v] xs) (h2 : Rep (.sl ty_Int) M [u] ys) (hn : xs.length ≤ 9223372036854775807) : aCall T0 F_laws_eqIntS [v, u] M = some (.bool (decide (xs = ys)), M) := by
  obtain ⟨a, c, rfl⟩ := h.slen
  obtain ⟨b, d, rfl⟩ := h2.slen
  by_cases hl : xs.length = ys.length
  · rcases list_eq_iff hl with he | ⟨j, hj, h3, h4⟩
    · subst he
      have hc := chain (g := fun i : Nat => lp (aCall T0) K_laws_eqIntS_0 L_laws_eqIntS_0 [.slice a xs.length c, .slice b xs.length d, und, und, und, .int .i64 i, und, und, und, und, und, und, und, und, und, und, und, und, und, und, und, und, und, und, und, und] M) (n := xs.length) fun i hi => r_laws_eqIntS M a b c d xs xs h h2 hn i hi hi rfl
      simp only [Int.natCast_zero, Int.ofNat_zero] at hc
      rw [aCall_eq T_laws_eqIntS]; unfold A_laws_eqIntS C_laws_eqIntS; simp [hc]
      rw [S_laws_eqIntS_0]; unfold B_laws_eqIntS_0; simp
    · have hc := chain (g := fun i : Nat => lp (aCall T0) K_laws_eqIntS_0 L_laws_eqIntS_0 [.slice a xs.length c, .slice b ys.length d, und, und, und, .int .i64 i, und, und, und, und, und, und, und, und, und, und, und, und, und, und, und, und, und, und, und, und] M) (n := j) fun i hi => r_laws_eqIntS M a b c d xs ys h h2 hn i (by omega) (by omega) (h3 i (by omega) hi)
      simp only [Int.natCast_zero, Int.ofNat_zero] at hc
      have hx := x_laws_eqIntS M a b c d xs ys h h2 hn j hj (by omega) h4
      have hne : xs ≠ ys := fun e => h4 (by simp [e])
      simp only [← hl] at hc hx
      simp only [← hl]
      rw [aCall_eq T_laws_eqIntS]; unfold A_laws_eqIntS C_laws_eqIntS; simp [hc, hx, hne]
  · have hne : xs ≠ ys := fun e => hl (by rw [e])
    have hl2 : ¬ ((xs.length : Int) = ys.length) := by omega
    rw [aCall_eq T_laws_eqIntS]; unfold A_laws_eqIntS C_laws_eqIntS; simp [hl2, hl, hne]
theorem k_laws_eqIntS : EqS T0 ty_Int F_laws_eqIntS := fun M v u xs ys h h2 hb => c_laws_eqIntS M v u xs ys h h2 (Nat.le_trans hb.1 (by decide))
abbrev enc_Rec (x : ty_Rec.D) : List V := [.bool x.1, .int .i64 x.2.1, .int .i64 x.2.2.1, strV x.2.2.2]
theorem rep_Rec {M : Mem} {cs : List V} {x : ty_Rec.D} (h : Rep ty_Rec M cs x) : cs = enc_Rec x := by
  obtain ⟨_, _, rfl, rfl, ⟨_, _, rfl, ⟨rfl, _⟩, ⟨_, _, rfl, ⟨rfl, _⟩, rfl⟩⟩⟩ := h
  rfl
theorem deq_Rec (x y : ty_Rec.D) : decide (x = y) = (decide (x.1 = y.1) && (decide (x.2.1 = y.2.1) && (decide (x.2.2.1 = y.2.2.1) && (decide (x.2.2.2 = y.2.2.2))))) := by
  obtain ⟨x0, x1, x2, x3⟩ := x
  obtain ⟨y0, y1, y2, y3⟩ := y
  simp
theorem c_laws_eqRec (M : Mem) (x y : ty_Rec.D) : aCall T0 F_laws_eqRec [.agg (enc_Rec x).toArray, .agg (enc_Rec y).toArray] M = some (.bool (decide (x = y)), M) := by
  rw [deq_Rec]
  rw [aCall_eq T_laws_eqRec]; unfold A_laws_eqRec C_laws_eqRec; simp
  repeat' ((first | rw [selO_some] | rw [condR_bool] | rw [selD_some]); split <;> rename_i hq <;> (have hq2 := hq) <;> (try simp at hq2) <;> (try simp [*]))
theorem k_laws_eqRec : EqF T0 ty_Rec F_laws_eqRec := fun M cs ds x y h h2 hb => by
  obtain rfl := rep_Rec h
  obtain rfl := rep_Rec h2
  exact c_laws_eqRec M x y
theorem k_laws_eqRecS : EqS T0 ty_Rec F_laws_eqRecS := eq_sl (w := 4) T_laws_eqRecS rfl k_laws_eqRec
set_option maxHeartbeats 4000000 in
theorem k_laws_eqReply : EqF T0 ty_Reply F_laws_eqReply := by
  intro M cs ds x y h h2 hb
  obtain ⟨a0, a1, a2, a3, a4⟩ := x
  obtain ⟨b0, b1, b2, b3, b4⟩ := y
  obtain ⟨u0, u1, rfl, w0, w1, r0, r1⟩ := rep_g_Reply h
  obtain ⟨v0, v1, rfl, _w0, _w1, s0, s1⟩ := rep_g_Reply h2
  dsimp only at *
  have e3 := k_laws_eqRecS (M ++ [⟨[.int .i64 a0, .bool a1, .int .i64 a2, u0, u1], 1, 2⟩, ⟨[.int .i64 b0, .bool b1, .int .i64 b2, v0, v1], 1, 2⟩]) _ _ a3 b3 (r0.mono (List.prefix_append _ _)) (s0.mono (List.prefix_append _ _)) hb.2.2.2.1
  have e4 := k_laws_eqIntS (M ++ [⟨[.int .i64 a0, .bool a1, .int .i64 a2, u0, u1], 1, 2⟩, ⟨[.int .i64 b0, .bool b1, .int .i64 b2, v0, v1], 1, 2⟩]) _ _ a4 b4 (r1.mono (List.prefix_append _ _)) (s1.mono (List.prefix_append _ _)) hb.2.2.2.2
  have i0 := one_head r0.one
  have i1 := one_head r1.one
  have j0 := one_head s0.one
  have j1 := one_head s1.one
  by_cases q0 : a0 = b0
  rotate_left
  · have hne : ¬ ((a0, a1, a2, a3, a4) : ty_Reply.D) = (b0, b1, b2, b3, b4) := fun e => q0 (by simp only [Prod.mk.injEq] at e; simp only [e])
    refine ans_f hne ?_
    rw [aCall_eq T_laws_eqReply]; unfold A_laws_eqReply C_laws_eqReply; simp [thenD_pp, sliceCells_sl, sliceCells_z, sliceCells_nil, take_full, appS_sl, appK_ok, appS_none, thenD_ag, agP_nil, agP_cons, i0, i1, j0, j1, q0]
  subst q0
  by_cases q1 : a1 = b1
  rotate_left
  · have hne : ¬ ((a0, a1, a2, a3, a4) : ty_Reply.D) = (a0, b1, b2, b3, b4) := fun e => q1 (by simp only [Prod.mk.injEq] at e; simp only [e])
    refine ans_f hne ?_
    have q1 : (a1 == b1) = false := by simpa using q1
    rw [aCall_eq T_laws_eqReply]; unfold A_laws_eqReply C_laws_eqReply; simp [thenD_pp, sliceCells_sl, sliceCells_z, sliceCells_nil, take_full, appS_sl, appK_ok, appS_none, thenD_ag, agP_nil, agP_cons, i0, i1, j0, j1, q1]
  subst q1
  by_cases q2 : a2 = b2
  rotate_left
  · have hne : ¬ ((a0, a1, a2, a3, a4) : ty_Reply.D) = (a0, a1, b2, b3, b4) := fun e => q2 (by simp only [Prod.mk.injEq] at e; simp only [e])
    refine ans_f hne ?_
    rw [aCall_eq T_laws_eqReply]; unfold A_laws_eqReply C_laws_eqReply; simp [thenD_pp, sliceCells_sl, sliceCells_z, sliceCells_nil, take_full, appS_sl, appK_ok, appS_none, thenD_ag, agP_nil, agP_cons, i0, i1, j0, j1, q2]
  subst q2
  by_cases q3 : a3 = b3
  rotate_left
  · have hne : ¬ ((a0, a1, a2, a3, a4) : ty_Reply.D) = (a0, a1, a2, b3, b4) := fun e => q3 (by simp only [Prod.mk.injEq] at e; simp only [e])
    refine ans_f hne ?_
    have e3 := (ans_of e3).2 q3
    rw [aCall_eq T_laws_eqReply]; unfold A_laws_eqReply C_laws_eqReply; simp [thenD_pp, sliceCells_sl, sliceCells_z, sliceCells_nil, take_full, appS_sl, appK_ok, appS_none, thenD_ag, agP_nil, agP_cons, i0, i1, j0, j1, e3]
  have e3 := (ans_of e3).1 q3
  by_cases q4 : a4 = b4
  rotate_left
  · have hne : ¬ ((a0, a1, a2, a3, a4) : ty_Reply.D) = (a0, a1, a2, b3, b4) := fun e => q4 (by simp only [Prod.mk.injEq] at e; simp only [e])
    refine ans_f hne ?_
    have e4 := (ans_of e4).2 q4
    rw [aCall_eq T_laws_eqReply]; unfold A_laws_eqReply C_laws_eqReply; simp [thenD_pp, sliceCells_sl, sliceCells_z, sliceCells_nil, take_full, appS_sl, appK_ok, appS_none, thenD_ag, agP_nil, agP_cons, i0, i1, j0, j1, e3, e4]
  have e4 := (ans_of e4).1 q4
  have he : ((a0, a1, a2, a3, a4) : ty_Reply.D) = (a0, a1, a2, b3, b4) := by simp only [q3, q4]
  refine ans_t he ?_
  rw [aCall_eq T_laws_eqReply]; unfold A_laws_eqReply C_laws_eqReply; simp [thenD_pp, sliceCells_sl, sliceCells_z, sliceCells_nil, take_full, appS_sl, appK_ok, appS_none, thenD_ag, agP_nil, agP_cons, i0, i1, j0, j1, e3, e4]
abbrev gt_IntS (xs : List ty_Int.D) : Int := (xs.length : Int)
abbrev gt_RecS (xs : List ty_Rec.D) : Int := 4 * (xs.length : Int)
def gt_Reply (x : ty_Reply.D) : Int := gt_RecS x.2.2.2.1 + gt_IntS x.2.2.2.2
theorem tot_IntS : TotO (.sl ty_Int) gt_IntS 1048576 := fun xs hb => by have := hb.1; unfold gt_IntS; omega
theorem tot_RecS : TotO (.sl ty_Rec) gt_RecS 5000000 := fun xs hb => by have := hb.1; unfold gt_RecS; omega
theorem tot_Reply : TotO ty_Reply gt_Reply (5000000 + 1048576) := fun x hb => by
  have t0 := tot_RecS _ hb.2.2.2.1
  have t1 := tot_IntS _ hb.2.2.2.2
  unfold gt_Reply
  omega
theorem own_g_Reply {M : Mem} {cs : List V} {x : ty_Reply.D} {L : List Nat} (h : Own ty_Reply M cs x L) : ∃ (u0 u1 : V) (L0 L1 : List Nat), cs = [.int .i64 x.1, .bool x.2.1, .int .i64 x.2.2.1, u0, u1] ∧ (Lit.int .i64 x.1).wf = true ∧ (Lit.int .i64 x.2.2.1).wf = true ∧ Own (.sl ty_Rec) M [u0] x.2.2.2.1 L0 ∧ Own (.sl ty_Int) M [u1] x.2.2.2.2 L1 ∧ L = L0 ++ L1 := by
  obtain ⟨c0, d0, K0, J0, rfl, h0, h, rfl⟩ := h
  obtain ⟨⟨rfl, w0⟩, rfl⟩ := h0
  obtain ⟨c1, d1, K1, J1, rfl, h1, h, rfl⟩ := h
  obtain ⟨rfl, rfl⟩ := h1
  obtain ⟨c2, d2, K2, J2, rfl, h2, h, rfl⟩ := h
  obtain ⟨⟨rfl, w1⟩, rfl⟩ := h2
  obtain ⟨c3, d3, K3, J3, rfl, h3, h, rfl⟩ := h
  obtain ⟨u0, rfl⟩ : ∃ u, c3 = [u] := by
    have l0 := Rep.len ((h3).rep)
    exact List.length_eq_one_iff.1 l0
  have r0 := h3
  obtain ⟨u1, rfl⟩ : ∃ u, d3 = [u] := by
    have l1 := Rep.len ((h).rep)
    exact List.length_eq_one_iff.1 l1
  have r1 := h
  exact ⟨u0, u1, _, _, rfl, w0, w1, r0, r1, by simp⟩
theorem mkown_g_Reply {M : Mem} {x : ty_Reply.D} {u0 u1 : V} {L0 L1 : List Nat} (w0 : (Lit.int .i64 x.1).wf = true) (w1 : (Lit.int .i64 x.2.2.1).wf = true) (r0 : Own (.sl ty_Rec) M [u0] x.2.2.2.1 L0) (r1 : Own (.sl ty_Int) M [u1] x.2.2.2.2 L1) : Own ty_Reply M [.int .i64 x.1, .bool x.2.1, .int .i64 x.2.2.1, u0, u1] x (L0 ++ L1) := by
  have h : Own ty_Reply M [.int .i64 x.1, .bool x.2.1, .int .i64 x.2.2.1, u0, u1] x _ := ⟨[.int .i64 x.1], ([.bool x.2.1] ++ [.int .i64 x.2.2.1] ++ [u0] ++ [u1]), _, _, rfl, ⟨⟨rfl, w0⟩, rfl⟩, ⟨[.bool x.2.1], ([.int .i64 x.2.2.1] ++ [u0] ++ [u1]), _, _, rfl, ⟨rfl, rfl⟩, ⟨[.int .i64 x.2.2.1], ([u0] ++ [u1]), _, _, rfl, ⟨⟨rfl, w1⟩, rfl⟩, ⟨[u0], ([u1]), _, _, rfl, r0, r1, rfl⟩, rfl⟩, rfl⟩, rfl⟩
  simpa only [List.append_nil, List.nil_append, List.append_assoc] using h
def marksI (k : Int) (n : Nat) : List Int := (List.range n).map fun (j : Nat) => k + (j : Int)
abbrev gm_IntS (k : Int) (xs : List ty_Int.D) : List ty_Int.D := marksI k xs.length
def dig (n : Nat) : List UInt8 := if h : n = 0 then [] else dig (n / 10) ++ [UInt8.ofNat (48 + n % 10)]
  termination_by n
  decreasing_by omega
def mt (k : Int) : List UInt8 := 109 :: dig k.toNat
def mb (k : Int) : Bool := decide (k.tmod 3 = 0)
def mk_Rec (k : Int) : ty_Rec.D := (mb k, k + 1, k + 2, mt (k + 3))
def marks_Rec (k : Int) (n : Nat) : List ty_Rec.D := (List.range n).map fun (j : Nat) => mk_Rec (k + 4 * (j : Int))
abbrev gm_RecS (k : Int) (xs : List ty_Rec.D) : List ty_Rec.D := marks_Rec k xs.length
def gm_Reply (k : Int) (x : ty_Reply.D) : ty_Reply.D := (x.1, x.2.1, x.2.2.1, gm_RecS (k) x.2.2.2.1, gm_IntS (k + gt_RecS x.2.2.2.1) x.2.2.2.2)
theorem marksI_len (k : Int) (n : Nat) : (marksI k n).length = n := by simp [marksI]
theorem marksI_get (k : Int) (n i : Nat) (hi : i < (marksI k n).length) : (marksI k n)[i] = k + i := by simp [marksI]
def markB (blk : Blk) (o : Nat) (k : Int) (i : Nat) : Blk := { blk with cells := splice blk.cells o ((marksI k i).map fun n => .int .i64 n) }
theorem marksI_succ (k : Int) (n : Nat) : marksI k (n + 1) = marksI k n ++ [k + n] := by simp [marksI, List.range_succ]
theorem wrn_mark (M : Mem) (l o : Nat) (blk : Blk) (hb : M[l]? = some blk) (h2 : blk.st = 2) (k : Int) (n i : Nat) (ho : o + n ≤ blk.cells.length) (hi : i < n) : wrn (M.set l (markB blk o k i)) l (o + i) [.int .i64 (k + i)] = some (M.set l (markB blk o k (i + 1))) := by
  have hl := (List.getElem?_eq_some_iff.1 hb).1
  have e0 : (M.set l (markB blk o k i))[l]? = some (markB blk o k i) := by simp [hl]
  have e1 : ((marksI k i).map fun n => Value.int .i64 n).length = i := by simp [marksI_len]
  unfold wrn
  rw [e0]
  simp only
  have e2 : (markB blk o k i).cells.length = blk.cells.length := splice_len _ _ _ (by rw [e1]; omega)
  rw [if_pos ⟨h2, by rw [e2]; simp; omega, rfl⟩, List.set_set]
  congr 2
  unfold markB
  simp only
  congr 1
  have := splice_snoc blk.cells ((marksI k i).map fun n => Value.int .i64 n) o (.int .i64 (k + i)) (by rw [e1]; omega)
  rw [e1] at this
  rw [this, marksI_succ]
  simp
theorem r_laws_markIntS (M : Mem) (l o n c : Nat) (blk : Blk) (hb : M[l]? = some blk) (h2 : blk.st = 2) (k : Int) (hk : 0 ≤ k) (hk2 : k + n ≤ 4611686018427387904) (ho : o + n ≤ blk.cells.length) (i : Nat) (hi : i < n) :
    lp (aCall T0) K_laws_markIntS_0 L_laws_markIntS_0 [.slice (some ⟨l, o, none⟩) n c, .int .i64 (k + i), und, und, und, .int .i64 i, und, und, und, und, und, und, und, und, und, und, und, und, und] (M.set l (markB blk o k i)) =
    lp (aCall T0) K_laws_markIntS_0 L_laws_markIntS_0 [.slice (some ⟨l, o, none⟩) n c, .int .i64 (k + (i + 1 : Nat)), und, und, und, .int .i64 (i + 1 : Nat), und, und, und, und, und, und, und, und, und, und, und, und, und] (M.set l (markB blk o k (i + 1))) := by
  have e1 := wrn_mark M l o blk hb h2 k n i ho hi
  have e6 : IntKind.i64.wrap ((i : Int) + 1) = i + 1 := wrap_i64 (by omega) (by omega)
  have e7 : IntKind.i64.wrap (k + (i : Int) + 1) = k + (i + 1) := by rw [wrap_i64 (by omega) (by omega)]; omega
  rw [S_laws_markIntS_0]; unfold B_laws_markIntS_0; simp [e1, e6, e7, hi]
theorem own_mark {M : Mem} {v : V} {xs : List ty_Int.D} {L : List Nat} (h : Own (.sl ty_Int) M [v] xs L) : (xs = [] ∧ L = [] ∧ Rep (.sl ty_Int) M [v] []) ∨ ∃ l o c blk, xs ≠ [] ∧ v = .slice (some ⟨l, o, none⟩) xs.length c ∧ M[l]? = some blk ∧ blk.st = 2 ∧ blk.w = 1 ∧ o + xs.length ≤ blk.cells.length ∧ L = [l] := by
  rcases h with ⟨rfl, hL, hr⟩ | ⟨l, o, c, blk, css, Ls, hne, e, hb, h2, hw, hc, hLs, hel, hp, rfl⟩
  · exact .inl ⟨rfl, hL, hr⟩
  · right
    simp only [List.cons.injEq, and_true] at e
    refine ⟨l, o, c, blk, hne, e, hb, h2, hw, ?_, ?_⟩
    · have hone : ∀ cs ∈ css, cs.length = 1 := by
        intro cs hcs
        obtain ⟨i, hi, rfl⟩ := List.getElem_of_mem hcs
        have := (hel i css[i] (xs[i]'(by omega)) (Ls[i]'(by omega)) (by simp) (by simp) (by simp)).1.1
        rw [this]; rfl
      have := flat_len hone
      have hl := hp.length_le
      rw [this, List.length_drop] at hl
      have h0 := List.length_pos_iff.2 hne
      omega
    · have : Ls.flatten = [] := by
        rw [List.flatten_eq_nil_iff]
        intro K hK
        obtain ⟨i, hi, rfl⟩ := List.getElem_of_mem hK
        exact (hel i (css[i]'(by omega)) (xs[i]'(by omega)) Ls[i] (by simp) (by simp) (by simp)).2
      rw [this]
theorem flat_Int (xs : List Int) : (xs.map enc_Int).flatten = xs.map (fun m => Value.int .i64 m) := by
  induction xs with
  | nil => rfl
  | cons x xs ih => rw [List.map_cons, List.flatten_cons, ih]; rfl
theorem c_laws_markIntS (M : Mem) (v : V) (xs : List ty_Int.D) (L : List Nat) (h : Own (.sl ty_Int) M [v] xs L) (k : Int) (hk : 0 ≤ k) (hk2 : k + xs.length ≤ 4611686018427387904) :
    ∃ M', aCall T0 F_laws_markIntS [v, .int .i64 k] M = some (.int .i64 (k + xs.length), M') ∧ Upd M M' (· ∈ L) ∧ Own (.sl ty_Int) M' [v] (marksI k xs.length) L := by
  rcases own_mark h with ⟨rfl, rfl, hr⟩ | ⟨l, o, c, blk, hx, rfl, hb, h2, hw, ho, rfl⟩
  · refine ⟨M, ?_, ⟨rfl, fun _ _ => rfl, fun l b hb => ⟨b, hb, rfl⟩⟩, .inl ⟨rfl, rfl, hr⟩⟩
    obtain ⟨a, c, rfl⟩ := hr.slen
    rw [aCall_eq T_laws_markIntS]; unfold A_laws_markIntS C_laws_markIntS; simp
    rw [S_laws_markIntS_0]; unfold B_laws_markIntS_0; simp
  · have hl := chain (g := fun i : Nat => lp (aCall T0) K_laws_markIntS_0 L_laws_markIntS_0 [.slice (some ⟨l, o, none⟩) xs.length c, .int .i64 (k + i), und, und, und, .int .i64 i, und, und, und, und, und, und, und, und, und, und, und, und, und] (M.set l (markB blk o k i))) (n := xs.length) fun i hi => r_laws_markIntS M l o xs.length c blk hb h2 k hk hk2 ho i hi
    have e0 : M.set l (markB blk o k 0) = M := by
      have : markB blk o k 0 = blk := by simp [markB, marksI, splice]
      rw [this]
      exact List.ext_getElem? fun j => by
        rw [List.getElem?_set]
        split
        · rename_i e; subst e; split
          · exact hb.symm
          · rename_i hlt; rw [List.getElem?_eq_none (by omega)]
        · rfl
    simp only [Int.natCast_zero, Int.ofNat_zero, e0, Int.add_zero] at hl
    have hlt := (List.getElem?_eq_some_iff.1 hb).1
    refine ⟨M.set l (markB blk o k xs.length), ?_, ⟨by simp, fun j hj => ?_, fun j b' hj => ?_⟩, ?_⟩
    · rw [aCall_eq T_laws_markIntS]; unfold A_laws_markIntS C_laws_markIntS; simp [hl]
      rw [S_laws_markIntS_0]; unfold B_laws_markIntS_0; simp
      exact gc_len (by simp)
    · rw [List.getElem?_set_ne (fun e => hj (by simp [e]))]
    · by_cases e : l = j
      · subst e
        rw [hb] at hj
        cases hj
        exact ⟨markB blk o k xs.length, by simp [hlt], rfl⟩
      · exact ⟨b', by rw [List.getElem?_set_ne e, hj], rfl⟩
    · refine .inr ⟨l, o, c, markB blk o k xs.length, (marksI k xs.length).map enc_Int, (marksI k xs.length).map (fun _ => []), ?_, ?_, ?_, h2, hw, ?_, ?_, ?_, ?_, ?_⟩
      · intro e; have := congrArg List.length e; rw [marksI_len] at this; exact hx (List.length_eq_zero_iff.1 this)
      · rw [marksI_len]
      · simp [hlt]
      · simp
      · simp
      · intro i ds x K h1 h2 h3
        rw [List.getElem?_map, h2] at h1
        rw [List.getElem?_map, h2] at h3
        simp only [Option.map_some, Option.some.injEq] at h1 h3
        subst h1; subst h3
        obtain ⟨hi, rfl⟩ := List.getElem?_eq_some_iff.1 h2
        rw [marksI_get]
        have hi2 : i < xs.length := by rw [marksI_len] at hi; exact hi
        exact ⟨⟨rfl, by simp [Lit.wf, IntKind.min, IntKind.max, IntKind.signed, IntKind.bits]; omega⟩, rfl⟩
      · rw [flat_Int]
        unfold markB splice
        simp only
        rw [List.append_assoc, List.drop_append, List.drop_eq_nil_of_le (by simp; omega)]
        have : o - (List.take o blk.cells).length = 0 := by simp; omega
        rw [this]
        exact List.prefix_append _ _
      · have : ((marksI k xs.length).map (fun _ => ([] : List Nat))).flatten = [] := by
          rw [List.flatten_eq_nil_iff]
          intro K hK
          obtain ⟨_, _, rfl⟩ := List.mem_map.1 hK
          rfl
        rw [this]
theorem d_laws_markIntS (M : Mem) (v : V) (xs : List Int) (L : List Nat) (h : Own (.sl ty_Int) M [v] xs L) (k : Int) (hk : 0 < k) (hk2 : k + xs.length ≤ 4611686018427387904) :
    ∃ M', aCall T0 F_laws_markIntS [v, .int .i64 k] M = some (.int .i64 (k + xs.length), M') ∧ UpdG M M' (· ∈ L) ∧ Own (.sl ty_Int) M' [v] (marksI k xs.length) L := by
  obtain ⟨M', e, u, o⟩ := c_laws_markIntS M v xs L h k (by omega) hk2
  exact ⟨M', e, Upd.g u, o⟩
theorem k_laws_markIntS : MarkS T0 ty_Int F_laws_markIntS gm_IntS gt_IntS := fun M v xs L k h _ hb hk hk2 => d_laws_markIntS M v xs L h k hk hk2
theorem marks_Rec_len (k : Int) (n : Nat) : (marks_Rec k n).length = n := by simp [marks_Rec]
theorem marks_Rec_get (k : Int) (n i : Nat) (hi : i < (marks_Rec k n).length) : (marks_Rec k n)[i] = mk_Rec (k + 4 * (i : Int)) := by simp [marks_Rec]
def mcs_Rec (k : Int) (i : Nat) : List V := ((marks_Rec k i).map enc_Rec).flatten
theorem own_Rec (M : Mem) (x : ty_Rec.D) (h1 : (Lit.int .i64 x.2.1).wf = true) (h2 : (Lit.int .i64 x.2.2.1).wf = true) : Own ty_Rec M (enc_Rec x) x [] := ⟨[.bool x.1], [.int .i64 x.2.1, .int .i64 x.2.2.1, strV x.2.2.2], [], [], rfl, ⟨rfl, rfl⟩, ⟨[.int .i64 x.2.1], [.int .i64 x.2.2.1, strV x.2.2.2], [], [], rfl, ⟨⟨rfl, h1⟩, rfl⟩, ⟨[.int .i64 x.2.2.1], [strV x.2.2.2], [], [], rfl, ⟨⟨rfl, h2⟩, rfl⟩, ⟨rfl, rfl⟩, rfl⟩, rfl⟩, rfl⟩
theorem ownf_Rec (M : Mem) (cs : List V) (x : ty_Rec.D) (K : List Nat) (h : Own ty_Rec M cs x K) : K = [] := by
  obtain ⟨_, _, _, _, _, ⟨_, rfl⟩, ⟨_, _, _, _, _, ⟨_, rfl⟩, ⟨_, _, _, _, _, ⟨_, rfl⟩, ⟨_, rfl⟩, rfl⟩, rfl⟩, rfl⟩ := h
  rfl
theorem mcs_Rec_len (k : Int) (i : Nat) : (mcs_Rec k i).length = i * 4 := by
  unfold mcs_Rec
  rw [flat_enc_len (w := 4) (fun x _ => rfl), marks_Rec_len]
theorem mcs_Rec_succ (k : Int) (i : Nat) : mcs_Rec k (i + 1) = mcs_Rec k i ++ [.bool (mb ((k + 4 * (i : Int))))] ++ [.int .i64 ((k + 4 * (i : Int)) + 1)] ++ [.int .i64 ((k + 4 * (i : Int)) + 2)] ++ [strV (mt ((k + 4 * (i : Int)) + 3))] := by
  unfold mcs_Rec marks_Rec
  rw [List.range_succ]
  simp [mk_Rec]
theorem dig_len (n : Nat) : (dig n).length ≤ n := by
  induction n using Nat.strongRecOn with
  | _ n ih =>
    rw [dig]
    split
    · simp
    · have := ih (n / 10) (by omega)
      simp; omega
theorem l_laws_markText (M0 : Mem) : ∀ (n : Nat) (out : List UInt8) (N : Mem), n ≤ 4611686018427387904 → out.length + n ≤ 9223372036854775000 →
    ∃ N', lp (aCall T0) K_laws_markText_0 L_laws_markText_0 [.int .i64 n, und, und, strV out, und, und, und, und, und, und, und, und, und, und, und, und, und, und, und, und] (M0 ++ N) = lp (aCall T0) K_laws_markText_0 L_laws_markText_0 [.int .i64 (0 : Nat), und, und, strV (dig n ++ out), und, und, und, und, und, und, und, und, und, und, und, und, und, und, und, und] (M0 ++ N') := by
  intro n
  induction n using Nat.strongRecOn with
  | _ n ih =>
    intro out N hn hl
    by_cases h0 : n = 0
    · subst h0
      exact ⟨N, by simp [dig]⟩
    · obtain ⟨d, hd⟩ : ∃ d, d = n % 10 := ⟨_, rfl⟩
      obtain ⟨m, hm⟩ : ∃ m, m = n / 10 := ⟨_, rfl⟩
      obtain ⟨N', h⟩ := ih m (by omega) (UInt8.ofNat (48 + d) :: out) (N ++ [⟨[.int .u8 (48 + (d : Int))], 1, 2⟩]) (by omega) (by simp; omega)
      refine ⟨N', ?_⟩
      rw [dig, dif_neg h0, List.append_assoc, ← hd, ← hm]
      simp only [List.singleton_append]
      rw [← h, ← List.append_assoc]
      have q1 : ¬ ((n : Int) ≤ 0) := by omega
      have q2 : 0 < n := by omega
      have q3 : (n : Int).tmod 10 = d := by rw [Int.tmod_eq_emod_of_nonneg (by omega), hd]; simp
      have q4 : IntKind.i64.wrap (48 + (d : Int)) = 48 + d := wrap_i64 (by omega) (by omega)
      have q5 : IntKind.u8.wrap (48 + (d : Int)) = 48 + d := wrap_u8 (by omega) (by omega)
      have q6 : (n : Int).tdiv 10 = m := by rw [Int.tdiv_eq_ediv_of_nonneg (by omega), hm]; simp
      have q7 : IntKind.i64.wrap (m : Int) = m := wrap_i64 (by omega) (by omega)
      have q8 : 1 + out.length ≤ 9223372036854775807 := by omega
      have q9 := sliceCells_one (M := M0 ++ N) (v := .int .u8 (48 + (d : Int))) (w := 1)
      have q10 : (48 + (d : Int)).toNat = 48 + d := by omega
      clear h ih
      generalize M0 ++ N = Q at *
      rw [S_laws_markText_0]; unfold B_laws_markText_0; simp [q1, q2, q3, q4, q5, q6, q7, q8, q9, q10, toBytes]
theorem c_laws_markText (M : Mem) (k : Int) (hk : 0 < k) (hk2 : k ≤ 4611686018427387904) : aCall T0 F_laws_markText [.int .i64 k] M = some (strV (mt k), M) := by
  obtain ⟨n, rfl⟩ : ∃ n : Nat, k = n := ⟨k.toNat, by omega⟩
  obtain ⟨N, h⟩ := l_laws_markText M n [] [] (by omega) (by simp; omega)
  have q1 : ¬ n = 0 := by omega
  have q2 := dig_len n
  have q3 : 1 + (dig n).length ≤ 9223372036854775807 := by omega
  simp only [List.append_nil, Int.natCast_zero, Int.ofNat_zero] at h
  have e0 : strV [] = .string ⟨#[]⟩ := rfl
  rw [e0] at h
  unfold mt
  have e : (n : Int).toNat = n := by omega
  rw [e]
  rw [aCall_eq T_laws_markText]; unfold A_laws_markText C_laws_markText; simp [q1, h]
  rw [S_laws_markText_0]; unfold B_laws_markText_0; simp [q3]
theorem r_laws_markRecS (M : Mem) (l o n c : Nat) (blk : Blk) (hb : M[l]? = some blk) (h2 : blk.st = 2) (k : Int) (hk : 0 < k) (hk2 : k + 4 * n ≤ 4611686018427387904) (ho : o + n * 4 ≤ blk.cells.length) (i : Nat) (hi : i < n) :
    lp (aCall T0) K_laws_markRecS_0 L_laws_markRecS_0 [.slice (some ⟨l, o, none⟩) n c, .int .i64 (k + 4 * (i : Int)), und, und, und, .int .i64 i, und, und, und, und, und, und, und, und, und, und, und, und, und, und, und, und, und, und, und, und, und, und, und, und, und, und, und, und, und, und, und, und, und, und, und, und, und, und] (M.set l (spB blk o (mcs_Rec k i))) =
    lp (aCall T0) K_laws_markRecS_0 L_laws_markRecS_0 [.slice (some ⟨l, o, none⟩) n c, .int .i64 (k + 4 * ((i + 1 : Nat) : Int)), und, und, und, .int .i64 (i + 1 : Nat), und, und, und, und, und, und, und, und, und, und, und, und, und, und, und, und, und, und, und, und, und, und, und, und, und, und, und, und, und, und, und, und, und, und, und, und, und, und] (M.set l (spB blk o (mcs_Rec k (i + 1)))) := by
  have el := mcs_Rec_len k i
  obtain ⟨q, hq⟩ : ∃ q, q = k + 4 * (i : Int) := ⟨_, rfl⟩
  have e0 := wrn_sp M l o blk hb h2 (mcs_Rec k i) (.bool (mb (q))) rfl (by rw [el]; omega)
  have e1 := wrn_sp M l o blk hb h2 (mcs_Rec k i ++ [.bool (mb (q))]) (.int .i64 (q + 1)) rfl (by simp only [List.length_append, List.length_cons, List.length_nil, el]; omega)
  have e2 := wrn_sp M l o blk hb h2 (mcs_Rec k i ++ [.bool (mb (q))] ++ [.int .i64 (q + 1)]) (.int .i64 (q + 2)) rfl (by simp only [List.length_append, List.length_cons, List.length_nil, el]; omega)
  have e3 := wrn_sp M l o blk hb h2 (mcs_Rec k i ++ [.bool (mb (q))] ++ [.int .i64 (q + 1)] ++ [.int .i64 (q + 2)]) (strV (mt (q + 3))) rfl (by simp only [List.length_append, List.length_cons, List.length_nil, el]; omega)
  have es := mcs_Rec_succ k i
  rw [← hq] at es
  rw [← es] at e3
  simp only [List.length_append, List.length_cons, List.length_nil, el, Nat.zero_add, Nat.add_assoc, Nat.reduceAdd, List.append_assoc, List.cons_append, List.nil_append] at e0 e1 e2 e3
  have a1 : o + (i * 4 + 1) = o + i * 4 + 1 := by omega
  rw [a1] at e1
  have a2 : o + (i * 4 + 2) = o + i * 4 + 2 := by omega
  rw [a2] at e2
  have a3 : o + (i * 4 + 3) = o + i * 4 + 3 := by omega
  rw [a3] at e3
  have f6 : IntKind.i64.wrap ((i : Int) + 1) = i + 1 := wrap_i64 (by omega) (by omega)
  have g0 : IntKind.i64.wrap (q + 1) = q + 1 := by rw [wrap_i64 (by omega) (by omega)]
  have g1 : IntKind.i64.wrap (q + 1 + 1) = q + 2 := by rw [wrap_i64 (by omega) (by omega)]; omega
  have g2 : IntKind.i64.wrap (q + 2 + 1) = q + 3 := by rw [wrap_i64 (by omega) (by omega)]; omega
  have g3 : IntKind.i64.wrap (q + 3 + 1) = k + 4 * ((i : Int) + 1) := by rw [wrap_i64 (by omega) (by omega)]; omega
  have m3 := fun M => c_laws_markText M (q + 3) (by omega) (by omega)
  have n0 : decide ((q).tmod 3 = 0) = mb (q) := rfl
  rw [← hq]
  rw [S_laws_markRecS_0]; unfold B_laws_markRecS_0; simp [e0, e1, e2, e3, f6, g0, g1, g2, g3, hi, m3, n0]
theorem wf_range {z : Int} (h : -9223372036854775808 ≤ z ∧ z ≤ 9223372036854775807) : (Lit.int .i64 z).wf = true := by
  simp [Lit.wf, IntKind.min, IntKind.max, IntKind.signed, IntKind.bits]; omega
theorem d_laws_markRecS (M : Mem) (v : V) (xs : List ty_Rec.D) (L : List Nat) (h : Own (.sl ty_Rec) M [v] xs L) (k : Int) (hk : 0 < k) (hk2 : k + 4 * xs.length ≤ 4611686018427387904) :
    ∃ M', aCall T0 F_laws_markRecS [v, .int .i64 k] M = some (.int .i64 (k + 4 * xs.length), M') ∧ UpdG M M' (· ∈ L) ∧ Own (.sl ty_Rec) M' [v] (marks_Rec k xs.length) L := by
  rcases own_flat ownf_Rec h with ⟨rfl, rfl, hr⟩ | ⟨l, o, c, blk, hx, rfl, hb, h2, hw, ho, rfl⟩
  · refine ⟨M, ?_, pre_g (List.prefix_refl _) _, .inl ⟨rfl, rfl, hr⟩⟩
    obtain ⟨a, c, rfl⟩ := hr.slen
    rw [aCall_eq T_laws_markRecS]; unfold A_laws_markRecS C_laws_markRecS; simp
    rw [S_laws_markRecS_0]; unfold B_laws_markRecS_0; simp
  · have hw2 : ty_Rec.w = 4 := rfl
    rw [hw2] at ho
    have hl := chain (g := fun i : Nat => lp (aCall T0) K_laws_markRecS_0 L_laws_markRecS_0 [.slice (some ⟨l, o, none⟩) xs.length c, .int .i64 (k + 4 * (i : Int)), und, und, und, .int .i64 i, und, und, und, und, und, und, und, und, und, und, und, und, und, und, und, und, und, und, und, und, und, und, und, und, und, und, und, und, und, und, und, und, und, und, und, und, und, und] (M.set l (spB blk o (mcs_Rec k i)))) (n := xs.length) fun i hi => r_laws_markRecS M l o xs.length c blk hb h2 k hk hk2 ho i hi
    have e0 : mcs_Rec k 0 = [] := rfl
    simp only [Int.natCast_zero, Int.ofNat_zero, e0, spB_nil, set_same hb, Int.mul_zero, Int.add_zero] at hl
    have hlt := (List.getElem?_eq_some_iff.1 hb).1
    refine ⟨M.set l (spB blk o (mcs_Rec k xs.length)), ?_, Upd.g (upd_set hb rfl), ?_⟩
    · rw [aCall_eq T_laws_markRecS]; unfold A_laws_markRecS C_laws_markRecS; simp [hl]
      rw [S_laws_markRecS_0]; unfold B_laws_markRecS_0; simp
      exact gc_len (by simp)
    · refine own_sp (blk := blk) (enc := enc_Rec) ?_ (marks_Rec_len _ _) (by simp [hlt, mcs_Rec]) h2 hw (by omega) ?_
      · intro e; have := congrArg List.length e; rw [marks_Rec_len] at this; exact hx (List.length_eq_zero_iff.1 this)
      · intro y hy
        obtain ⟨i, hi, rfl⟩ := List.getElem_of_mem hy
        rw [marks_Rec_get]
        have hi2 : i < xs.length := by rw [marks_Rec_len] at hi; exact hi
        obtain ⟨q, hq⟩ : ∃ q, q = k + 4 * (i : Int) := ⟨_, rfl⟩
        rw [← hq]
        exact own_Rec _ _ (wf_range (show -9223372036854775808 ≤ q + 1 ∧ q + 1 ≤ 9223372036854775807 by omega)) (wf_range (show -9223372036854775808 ≤ q + 2 ∧ q + 2 ≤ 9223372036854775807 by omega))
theorem k_laws_markRecS : MarkS T0 ty_Rec F_laws_markRecS gm_RecS gt_RecS := fun M v xs L k h _ hb hk hk2 => d_laws_markRecS M v xs L h k hk hk2
set_option maxHeartbeats 4000000 in
theorem k_laws_markReply : MarkF T0 ty_Reply F_laws_markReply gm_Reply gt_Reply := by
  intro M cs x L k h hnd hb hk hk2
  have hwhole := h
  obtain ⟨u0, u1, L0, L1, rfl, w0, w1, r0, r1, rfl⟩ := own_g_Reply h
  have t0 := tot_RecS _ hb.2.2.2.1
  have t1 := tot_IntS _ hb.2.2.2.2
  unfold gt_Reply at hk2 ⊢
  have hlt := own_lt hwhole
  have hp0 : M <+: M ++ [(⟨[.int .i64 x.1, .bool x.2.1, .int .i64 x.2.2.1, u0, u1], 1, 2⟩ : Blk)] := List.prefix_append _ _
  have b0 : (M ++ [(⟨[.int .i64 x.1, .bool x.2.1, .int .i64 x.2.2.1, u0, u1], 1, 2⟩ : Blk)])[M.length]? = some ⟨[.int .i64 x.1, .bool x.2.1, .int .i64 x.2.2.1, u0, u1], 1, 2⟩ := by simp
  have o0_0 := r0.grow hp0
  have o0_1 := r1.grow hp0
  have hnd2 := hnd
  simp only [List.nodup_append, List.mem_append] at hnd2
  have i0 := one_head r0.rep.one
  have i1 := one_head r1.rep.one
  obtain ⟨N0, e0, up0, ow0⟩ := k_laws_markRecS (M ++ [(⟨[.int .i64 x.1, .bool x.2.1, .int .i64 x.2.2.1, u0, u1], 1, 2⟩ : Blk)]) _ _ _ (k) o0_0 (by have := hnd; simp only [List.nodup_append] at this; simp [this]) hb.2.2.2.1 (by omega) (by omega)
  have b1 : N0[M.length]? = some ⟨[.int .i64 x.1, .bool x.2.1, .int .i64 x.2.2.1, u0, u1], 1, 2⟩ := up0.get b0 (fun hm => by have := hlt M.length (by simp only [List.mem_append] at hm ⊢; simp [hm]); omega)
  have o1_1 := Own.updg up0 o0_1 (fun l hl hm => by have := hnd; simp only [List.nodup_append, List.mem_append] at this hm; grind)
  have o1_0 := ow0
  obtain ⟨N1, e1, up1, ow1⟩ := k_laws_markIntS N0 _ _ _ (k + gt_RecS x.2.2.2.1) o1_1 (by have := hnd; simp only [List.nodup_append] at this; simp [this]) hb.2.2.2.2 (by omega) (by omega)
  have b2 : N1[M.length]? = some ⟨[.int .i64 x.1, .bool x.2.1, .int .i64 x.2.2.1, u0, u1], 1, 2⟩ := up1.get b1 (fun hm => by have := hlt M.length (by simp only [List.mem_append] at hm ⊢; simp [hm]); omega)
  have o2_0 := Own.updg up1 o1_0 (fun l hl hm => by have := hnd; simp only [List.nodup_append, List.mem_append] at this hm; grind)
  have o2_1 := ow1
  have uu : UpdG M N1 (· ∈ L0 ++ L1) := by
    refine (UpdG.weak ((UpdG.trans up0 up1).grow hp0) fun l hl => ?_)
    simp only [List.mem_append]
    grind
  have oo := mkown_g_Reply (x := gm_Reply k x) w0 w1 o2_0 o2_1
  obtain ⟨N, g1, g2, g3⟩ := gc_num uu hwhole oo (k + (gt_RecS x.2.2.2.1 + gt_IntS x.2.2.2.2))
  refine ⟨N, ?_, g2, g3⟩
  have hadd : k + gt_RecS x.2.2.2.1 + gt_IntS x.2.2.2.2 = k + (gt_RecS x.2.2.2.1 + gt_IntS x.2.2.2.2) := by omega
  rw [← hadd] at g1 ⊢
  rw [aCall_eq T_laws_markReply]; unfold A_laws_markReply C_laws_markReply; simp [thenD_pp, sliceCells_sl, sliceCells_z, sliceCells_nil, take_full, appS_sl, appK_ok, appS_none, thenD_ag, agP_nil, agP_cons, i0, i1, e0, b1, e1, b2, g1, rd1_K, rdJ_ok, rdn_K, rnJ_ok, wrn_K, wrJ_ok]
theorem heldB (M : Mem) (v : V) (k : Int) (n : Nat) (h : Rep (.sl ty_Int) M [v] (marksI k n)) (hk : 0 ≤ k) (hk2 : k + n ≤ 4611686018427387904) : aCall T0 F_laws_heldIntS [v, .int .i64 k] M = some (.int .i64 (k + n), M) := by
  obtain ⟨a, c, rfl⟩ := h.slen
  have hlen := marksI_len k n
  have hc := chain (g := fun i : Nat => lp (aCall T0) K_laws_heldIntS_0 L_laws_heldIntS_0 [.slice a (marksI k n).length c, .int .i64 (k + i), und, und, und, .int .i64 i, und, und, und, und, und, und, und, und, und, und, und, und, und, und, und] M) (n := n) fun i hi => by
    obtain ⟨l, o, rfl, _, hrd⟩ := at_Int h (i := i) (by omega)
    rw [marksI_get] at hrd
    have hi2 : (i : Int) < (marksI k n).length := by omega
    have e6 : IntKind.i64.wrap ((i : Int) + 1) = i + 1 := wrap_i64 (by omega) (by omega)
    have e7 : IntKind.i64.wrap (k + (i : Int) + 1) = k + (i + 1) := by rw [wrap_i64 (by omega) (by omega)]; omega
    rw [hlen] at hi2 ⊢
    rw [S_laws_heldIntS_0]; unfold B_laws_heldIntS_0; simp [hrd, hi2, hi, e6, e7]
  simp only [Int.natCast_zero, Int.ofNat_zero, Int.add_zero] at hc
  rw [hlen] at hc ⊢
  rw [aCall_eq T_laws_heldIntS]; unfold A_laws_heldIntS C_laws_heldIntS; simp [hc]
  rw [S_laws_heldIntS_0]; unfold B_laws_heldIntS_0; simp
theorem d_laws_heldIntS (M : Mem) (v : V) (k : Int) (n : Nat) (h : Rep (.sl ty_Int) M [v] (marksI k n)) (hk : 0 < k) (hk2 : k + n ≤ 4611686018427387904) : aCall T0 F_laws_heldIntS [v, .int .i64 k] M = some (.int .i64 (k + n), M) := heldB M v k n h (by omega) hk2
theorem k_laws_heldIntS : HeldS T0 ty_Int F_laws_heldIntS gm_IntS gt_IntS := fun M v xs k h hb hk hk2 => d_laws_heldIntS M v k xs.length h hk hk2
theorem at_Rec {M : Mem} {a : Option Addr} {n c : Nat} {xs : List ty_Rec.D} (h : Rep (.sl ty_Rec) M [.slice a n c] xs) {i : Nat} (hi : i < xs.length) : ∃ l o, a = some ⟨l, o, none⟩ ∧ Rep ty_Rec M (enc_Rec xs[i]) xs[i] ∧ rdn M l (o + i * 4) 4 = some (enc_Rec xs[i]) ∧ rd1 M l (o + i * 4) = some (.bool xs[i].1) ∧ rd1 M l (o + i * 4 + 1) = some (.int .i64 xs[i].2.1) ∧ rd1 M l (o + i * 4 + 2) = some (.int .i64 xs[i].2.2.1) ∧ rd1 M l (o + i * 4 + 3) = some (strV xs[i].2.2.2) := by
  obtain ⟨_, l, o, rfl, cs, hrd, hrep⟩ := rep_at h hi
  have hcs := rep_Rec hrep
  subst hcs
  have hw : ty_Rec.w = 4 := rfl
  rw [hw] at hrd
  exact ⟨l, o, rfl, hrep, hrd, rd1_of_rdn hrd (k := 0) rfl, rd1_of_rdn hrd (k := 1) rfl, rd1_of_rdn hrd (k := 2) rfl, rd1_of_rdn hrd (k := 3) rfl⟩
theorem d_laws_heldRecS (M : Mem) (v : V) (k : Int) (n : Nat) (h : Rep (.sl ty_Rec) M [v] (marks_Rec k n)) (hk : 0 < k) (hk2 : k + 4 * n ≤ 4611686018427387904) : aCall T0 F_laws_heldRecS [v, .int .i64 k] M = some (.int .i64 (k + 4 * n), M) := by
  obtain ⟨a, c, rfl⟩ := h.slen
  have hlen := marks_Rec_len k n
  have hc := chain (g := fun i : Nat => lp (aCall T0) K_laws_heldRecS_0 L_laws_heldRecS_0 [.slice a (marks_Rec k n).length c, .int .i64 (k + 4 * (i : Int)), und, und, und, .int .i64 i, und, und, und, und, und, und, und, und, und, und, und, und, und, und, und, und, und, und, und, und, und, und, und, und, und, und, und, und, und, und, und, und, und, und, und, und, und, und, und, und, und, und, und, und, und, und] M) (n := n) fun i hi => by
    obtain ⟨l, o, rfl, _, _, hf0, hf1, hf2, hf3⟩ := at_Rec h (i := i) (by omega)
    rw [marks_Rec_get] at hf0 hf1 hf2 hf3
    obtain ⟨q, hq⟩ : ∃ q, q = k + 4 * (i : Int) := ⟨_, rfl⟩
    rw [← hq] at hf0 hf1 hf2 hf3 ⊢
    have c0 : (mk_Rec q).1 = mb q := rfl
    rw [c0] at hf0
    have c1 : (mk_Rec q).2.1 = q + 1 := rfl
    rw [c1] at hf1
    have c2 : (mk_Rec q).2.2.1 = q + 2 := rfl
    rw [c2] at hf2
    have c3 : (mk_Rec q).2.2.2 = mt (q + 3) := rfl
    rw [c3] at hf3
    have f6 : IntKind.i64.wrap ((i : Int) + 1) = i + 1 := wrap_i64 (by omega) (by omega)
    have g0 : IntKind.i64.wrap (q + 1) = q + 1 := by rw [wrap_i64 (by omega) (by omega)]
    have g1 : IntKind.i64.wrap (q + 1 + 1) = q + 2 := by rw [wrap_i64 (by omega) (by omega)]; omega
    have g2 : IntKind.i64.wrap (q + 2 + 1) = q + 3 := by rw [wrap_i64 (by omega) (by omega)]; omega
    have g3 : IntKind.i64.wrap (q + 3 + 1) = k + 4 * ((i : Int) + 1) := by rw [wrap_i64 (by omega) (by omega)]; omega
    have n0 : decide ((q).tmod 3 = 0) = mb (q) := rfl
    have m3 := fun M => c_laws_markText M (q + 3) (by omega) (by omega)
    rw [hlen]
    rw [S_laws_heldRecS_0]; unfold B_laws_heldRecS_0; simp [hf0, hf1, hf2, hf3, hi, f6, g0, g1, g2, g3, m3, n0]
  simp only [Int.natCast_zero, Int.ofNat_zero, Int.mul_zero, Int.add_zero] at hc
  rw [hlen] at hc ⊢
  rw [aCall_eq T_laws_heldRecS]; unfold A_laws_heldRecS C_laws_heldRecS; simp [hc]
  rw [S_laws_heldRecS_0]; unfold B_laws_heldRecS_0; simp
theorem k_laws_heldRecS : HeldS T0 ty_Rec F_laws_heldRecS gm_RecS gt_RecS := fun M v xs k h hb hk hk2 => d_laws_heldRecS M v k xs.length h hk hk2
set_option maxHeartbeats 4000000 in
theorem k_laws_heldReply : HeldF T0 ty_Reply F_laws_heldReply gm_Reply gt_Reply := by
  intro M cs x k h hb hk hk2
  obtain ⟨u0, u1, rfl, w0, w1, r0, r1⟩ := rep_g_Reply h
  have t0 := tot_RecS _ hb.2.2.2.1
  have t1 := tot_IntS _ hb.2.2.2.2
  unfold gt_Reply at hk2 ⊢
  obtain ⟨cs, hcs⟩ : ∃ cs, cs = [.int .i64 (gm_Reply k x).1, .bool (gm_Reply k x).2.1, .int .i64 (gm_Reply k x).2.2.1, u0, u1] := ⟨_, rfl⟩
  have i0 := one_head r0.one
  have i1 := one_head r1.one
  have e0 := k_laws_heldRecS (M ++ [⟨[.int .i64 (gm_Reply k x).1, .bool (gm_Reply k x).2.1, .int .i64 (gm_Reply k x).2.2.1, u0, u1], 1, 2⟩]) _ x.2.2.2.1 (k) (r0.mono (List.prefix_append _ _)) hb.2.2.2.1 (by omega) (by omega)
  have c0 : ¬ (k + gt_RecS x.2.2.2.1 < 0) := by omega
  have e1 := k_laws_heldIntS (M ++ [⟨[.int .i64 (gm_Reply k x).1, .bool (gm_Reply k x).2.1, .int .i64 (gm_Reply k x).2.2.1, u0, u1], 1, 2⟩]) _ x.2.2.2.2 (k + gt_RecS x.2.2.2.1) (r1.mono (List.prefix_append _ _)) hb.2.2.2.2 (by omega) (by omega)
  have c1 : ¬ (k + gt_RecS x.2.2.2.1 + gt_IntS x.2.2.2.2 < 0) := by omega
  have hadd : k + gt_RecS x.2.2.2.1 + gt_IntS x.2.2.2.2 = k + (gt_RecS x.2.2.2.1 + gt_IntS x.2.2.2.2) := by omega
  rw [← hadd]
  rw [aCall_eq T_laws_heldReply]; unfold A_laws_heldReply C_laws_heldReply; simp [thenD_pp, sliceCells_sl, sliceCells_z, sliceCells_nil, take_full, appS_sl, appK_ok, appS_none, thenD_ag, agP_nil, agP_cons, i0, i1, e0, c0, e1, c1]
theorem nodup_flat {t : Ty} (hf : ∀ (M : Mem) (cs : List V) (x : t.D) (K : List Nat), Own t M cs x K → K = []) {M : Mem} {v : V} {xs : List t.D} {L : List Nat} (h : Own (.sl t) M [v] xs L) : L.Nodup := by
  rcases own_flat hf h with ⟨_, rfl, _⟩ | ⟨l, _, _, _, _, _, _, _, _, _, rfl⟩ <;> simp
abbrev ty_Byte : Ty := .u8
theorem ownf_Byte (M : Mem) (cs : List V) (x : ty_Byte.D) (K : List Nat) (h : Own ty_Byte M cs x K) : K = [] := h.2
abbrev enc_Byte (x : ty_Byte.D) : List V := [byteV x]
def z_Byte : List V := [.int .u8 0]
theorem at_Byte {M : Mem} {a : Option Addr} {n c : Nat} {xs : List ty_Byte.D} (h : Rep (.sl ty_Byte) M [.slice a n c] xs) {i : Nat} (hi : i < xs.length) : ∃ l o, a = some ⟨l, o, none⟩ ∧ Rep ty_Byte M (enc_Byte xs[i]) xs[i] ∧ rd1 M l (o + i) = some (byteV xs[i]) := by
  obtain ⟨_, l, o, rfl, cs, hrd, hrep⟩ := rep_at h hi
  have hcs : cs = enc_Byte xs[i] := hrep
  subst hcs
  have hw1 : ty_Byte.w = 1 := rfl
  rw [hw1, Nat.mul_one] at hrd
  exact ⟨l, o, rfl, hrep, rd1_of_one hrd⟩
theorem r_laws_toByteS (M : Mem) (a : Option Addr) (c : Nat) (xs : List ty_Byte.D) (h : Rep (.sl ty_Byte) M [.slice a xs.length c] xs) (hn : xs.length ≤ 1048576) (i : Nat) (hi : i < xs.length) :
    lp (aCall T0) K_laws_toByteS_0 L_laws_toByteS_0 [.slice a xs.length c, und, und, .slice (some ⟨M.length, 0, none⟩) xs.length xs.length, .int .i64 i, und, und, und, und, und, und, und, und, und, und, und, und, und, und, und, und, und] (M ++ [⟨tcells enc_Byte z_Byte xs i, 1, 2⟩]) =
    lp (aCall T0) K_laws_toByteS_0 L_laws_toByteS_0 [.slice a xs.length c, und, und, .slice (some ⟨M.length, 0, none⟩) xs.length xs.length, .int .i64 (i + 1 : Nat), und, und, und, und, und, und, und, und, und, und, und, und, und, und, und, und, und] (M ++ [⟨tcells enc_Byte z_Byte xs (i + 1), 1, 2⟩]) := by
  obtain ⟨l, o, rfl, hrep, hrd⟩ := at_Byte h hi
  have hrd2 : rd1 (M ++ [⟨tcells enc_Byte z_Byte xs i, 1, 2⟩]) l (o + i) = some (byteV xs[i]) := rd1_old hrd
  have e2 := tcells_len (enc := enc_Byte) (z := z_Byte) (xs := xs) (fun x _ => rfl) (i := i) (by omega)
  have e3 := tcells_step (enc := enc_Byte) (z := z_Byte) (xs := xs) (fun x _ => rfl) hi
  have e4 : z_Byte.length = 1 := rfl
  rw [e4, Nat.mul_one] at e2 e3
  have e5 : i + 1 ≤ xs.length := by omega
  have e6 : IntKind.i64.wrap ((i : Int) + 1) = i + 1 := wrap_i64 (by omega) (by omega)
  unfold splice at e3
  simp at e3
  rw [S_laws_toByteS_0]; unfold B_laws_toByteS_0; simp [hrd2, e2, e3, e5, e6, hi]
theorem c_laws_toByteS (M : Mem) (v : V) (xs : List ty_Byte.D) (h : Rep (.sl ty_Byte) M [v] xs) (hn : xs.length ≤ 1048576) :
    aCall T0 F_laws_toByteS [v] M = some (.slice (some ⟨M.length, 0, none⟩) xs.length xs.length, M ++ [⟨(xs.map enc_Byte).flatten, 1, 2⟩]) := by
  obtain ⟨a, c, rfl⟩ := h.slen
  have hl := chain (g := fun i : Nat => lp (aCall T0) K_laws_toByteS_0 L_laws_toByteS_0 [.slice a xs.length c, und, und, .slice (some ⟨M.length, 0, none⟩) xs.length xs.length, .int .i64 i, und, und, und, und, und, und, und, und, und, und, und, und, und, und, und, und, und] (M ++ [⟨tcells enc_Byte z_Byte xs i, 1, 2⟩])) (n := xs.length) fun i hi => r_laws_toByteS M a c xs h hn i hi
  simp only [Int.natCast_zero, Int.ofNat_zero, tcells_zero, tcells_full] at hl
  unfold z_Byte at hl
  simp only [zeroCells_zc] at hl
  have e1 : (xs.length : Int) ≤ 281474976710656 := by omega
  have e2 : (xs.length : Int) ≤ 9223372036854775807 := by omega
  rw [aCall_eq T_laws_toByteS]; unfold A_laws_toByteS C_laws_toByteS; simp [e1, e2]
  rw [hl]
  rw [S_laws_toByteS_0]; unfold B_laws_toByteS_0; simp
theorem own_Byte (M : Mem) (x : ty_Byte.D) : Own ty_Byte M (enc_Byte x) x [] := ⟨rfl, rfl⟩
theorem d_laws_toByteS (M : Mem) (v : V) (xs : List ty_Byte.D) (h : Rep (.sl ty_Byte) M [v] xs) (hn : xs.length ≤ 1048576) : ∃ M' u L, M <+: M' ∧ aCall T0 F_laws_toByteS [v] M = some (u, M') ∧ Own (.sl ty_Byte) M' [u] xs L ∧ ∀ l ∈ L, M.length ≤ l ∧ l < M'.length := by
  have e := c_laws_toByteS M v xs h hn
  obtain ⟨L, o1, o2⟩ := own_blk (t := ty_Byte) (M := M ++ [⟨(xs.map enc_Byte).flatten, 1, 2⟩]) (l := M.length) (c := xs.length) (enc := enc_Byte) (ys := xs) (by simp; rfl) (fun y _ => own_Byte _ y)
  exact ⟨_, _, L, List.prefix_append _ _, e, o1, fun l hl => by rw [o2 l hl]; simp⟩
theorem k_laws_toByteS : ToS T0 ty_Byte F_laws_toByteS := fun M v xs h hb => by
  obtain ⟨M', u, L, p, e, o, f⟩ := d_laws_toByteS M v xs h hb.1
  exact ⟨M', u, L, p, e, o, nodup_flat ownf_Byte o, f⟩
theorem r_laws_eqByteS (M : Mem) (a b : Option Addr) (c d : Nat) (xs ys : List ty_Byte.D) (h : Rep (.sl ty_Byte) M [.slice a xs.length c] xs) (h2 : Rep (.sl ty_Byte) M [.slice b ys.length d] ys) (hn : xs.length ≤ 9223372036854775807) (i : Nat) (hi : i < xs.length) (hj : i < ys.length) (he : xs[i] = ys[i]) :
    lp (aCall T0) K_laws_eqByteS_0 L_laws_eqByteS_0 [.slice a xs.length c, .slice b ys.length d, und, und, und, .int .i64 i, und, und, und, und, und, und, und, und, und, und, und, und, und, und, und, und, und, und, und, und] M = lp (aCall T0) K_laws_eqByteS_0 L_laws_eqByteS_0 [.slice a xs.length c, .slice b ys.length d, und, und, und, .int .i64 (i + 1 : Nat), und, und, und, und, und, und, und, und, und, und, und, und, und, und, und, und, und, und, und, und] M := by
  obtain ⟨l, o, rfl, _, hrd⟩ := at_Byte h hi
  obtain ⟨l2, o2, rfl, _, hrd2⟩ := at_Byte h2 hj
  have e6 : IntKind.i64.wrap ((i : Int) + 1) = i + 1 := wrap_i64 (by omega) (by omega)
  rw [S_laws_eqByteS_0]; unfold B_laws_eqByteS_0; simp [hrd, hrd2, e6, hi, hj, he, byteV]
theorem eq_byteV (x y : UInt8) : ((x.toNat : Int) = (y.toNat : Int)) = (x = y) := by
  apply propext
  constructor
  · intro h; exact UInt8.toNat_inj.1 (by omega)
  · rintro rfl; rfl
theorem x_laws_eqByteS (M : Mem) (a b : Option Addr) (c d : Nat) (xs ys : List ty_Byte.D) (h : Rep (.sl ty_Byte) M [.slice a xs.length c] xs) (h2 : Rep (.sl ty_Byte) M [.slice b ys.length d] ys) (hn : xs.length ≤ 9223372036854775807) (i : Nat) (hi : i < xs.length) (hj : i < ys.length) (he : xs[i] ≠ ys[i]) (k : ACode) :
    thenF M [.tmp 4] (thenS (blockR 0 (lp (aCall T0) K_laws_eqByteS_0 L_laws_eqByteS_0 [.slice a xs.length c, .slice b ys.length d, und, und, und, .int .i64 i, und, und, und, und, und, und, und, und, und, und, und, und, und, und, und, und, und, und, und, und] M)) (aCall T0) k) = some (.bool false, M) := by
  obtain ⟨l, o, rfl, _, hrd⟩ := at_Byte h hi
  obtain ⟨l2, o2, rfl, _, hrd2⟩ := at_Byte h2 hj
  have hne : ¬ (((xs[i] : UInt8).toNat : Int) = ((ys[i] : UInt8).toNat : Int)) := by rw [eq_byteV]; exact he
  rw [S_laws_eqByteS_0]; unfold B_laws_eqByteS_0; simp [hrd, hrd2, hi, hj, hne, byteV]
theorem c_laws_eqByteS (M : Mem) (v u : V) (xs ys : List ty_Byte.D) (h : Rep (.sl ty_Byte) M [v] xs) (h2 : Rep (.sl ty_Byte) M [u] ys) (hn : xs.length ≤ 9223372036854775807) : aCall T0 F_laws_eqByteS [v, u] M = some (.bool (decide (xs = ys)), M) := by
  obtain ⟨a, c, rfl⟩ := h.slen
  obtain ⟨b, d, rfl⟩ := h2.slen
  by_cases hl : xs.length = ys.length
  · rcases list_eq_iff hl with he | ⟨j, hj, h3, h4⟩
    · subst he
      have hc := chain (g := fun i : Nat => lp (aCall T0) K_laws_eqByteS_0 L_laws_eqByteS_0 [.slice a xs.length c, .slice b xs.length d, und, und, und, .int .i64 i, und, und, und, und, und, und, und, und, und, und, und, und, und, und, und, und, und, und, und, und] M) (n := xs.length) fun i hi => r_laws_eqByteS M a b c d xs xs h h2 hn i hi hi rfl
      simp only [Int.natCast_zero, Int.ofNat_zero] at hc
      rw [aCall_eq T_laws_eqByteS]; unfold A_laws_eqByteS C_laws_eqByteS; simp [hc]
      rw [S_laws_eqByteS_0]; unfold B_laws_eqByteS_0; simp
    · have hc := chain (g := fun i : Nat => lp (aCall T0) K_laws_eqByteS_0 L_laws_eqByteS_0 [.slice a xs.length c, .slice b ys.length d, und, und, und, .int .i64 i, und, und, und, und, und, und, und, und, und, und, und, und, und, und, und, und, und, und, und, und] M) (n := j) fun i hi => r_laws_eqByteS M a b c d xs ys h h2 hn i (by omega) (by omega) (h3 i (by omega) hi)
      simp only [Int.natCast_zero, Int.ofNat_zero] at hc
      have hx := x_laws_eqByteS M a b c d xs ys h h2 hn j hj (by omega) h4
      have hne : xs ≠ ys := fun e => h4 (by simp [e])
      simp only [← hl] at hc hx
      simp only [← hl]
      rw [aCall_eq T_laws_eqByteS]; unfold A_laws_eqByteS C_laws_eqByteS; simp [hc, hx, hne]
  · have hne : xs ≠ ys := fun e => hl (by rw [e])
    have hl2 : ¬ ((xs.length : Int) = ys.length) := by omega
    rw [aCall_eq T_laws_eqByteS]; unfold A_laws_eqByteS C_laws_eqByteS; simp [hl2, hl, hne]
theorem k_laws_eqByteS : EqS T0 ty_Byte F_laws_eqByteS := fun M v u xs ys h h2 hb => c_laws_eqByteS M v u xs ys h h2 (Nat.le_trans hb.1 (by decide))
abbrev gt_ByteS (xs : List ty_Byte.D) : Int := (xs.length : Int)
def mkY (k : Int) : UInt8 := UInt8.ofNat (k.toNat % 256)
def marksY (k : Int) (n : Nat) : List ty_Byte.D := (List.range n).map fun (j : Nat) => mkY (k + (j : Int))
abbrev gm_ByteS (k : Int) (xs : List ty_Byte.D) : List ty_Byte.D := marksY k xs.length
theorem marksY_len (k : Int) (n : Nat) : (marksY k n).length = n := by simp [marksY]
def mcs_Byte (k : Int) (i : Nat) : List V := ((marksY k i).map enc_Byte).flatten
theorem mkY_val (k : Int) (hk : 0 < k) : Value.int .u8 (IntKind.u8.wrap k) = byteV (mkY k) := by
  unfold mkY
  rw [byteV_len (by omega)]
  congr 1
  simp [IntKind.wrap, IntKind.min, IntKind.max, IntKind.signed, IntKind.bits]
  omega
theorem mkY_wrap (k : Int) (hk : 0 < k) : IntKind.u8.wrap k = ((mkY k).toNat : Int) := by
  have h := mkY_val k hk
  unfold byteV at h
  injection h
theorem mcs_Byte_len (k : Int) (i : Nat) : (mcs_Byte k i).length = i := by
  unfold mcs_Byte
  rw [flat_enc_len (w := 1) (fun x _ => rfl), marksY_len, Nat.mul_one]
theorem mcs_Byte_succ (k : Int) (i : Nat) : mcs_Byte k (i + 1) = mcs_Byte k i ++ [byteV (mkY (k + (i : Int)))] := by
  unfold mcs_Byte marksY
  rw [List.range_succ]
  simp
theorem r_laws_markByteS (M : Mem) (l o n c : Nat) (blk : Blk) (hb : M[l]? = some blk) (h2 : blk.st = 2) (k : Int) (hk : 0 < k) (hk2 : k + n ≤ 4611686018427387904) (ho : o + n ≤ blk.cells.length) (i : Nat) (hi : i < n) :
    lp (aCall T0) K_laws_markByteS_0 L_laws_markByteS_0 [.slice (some ⟨l, o, none⟩) n c, .int .i64 (k + (i : Int)), und, und, und, .int .i64 i, und, und, und, und, und, und, und, und, und, und, und, und, und, und] (M.set l (spB blk o (mcs_Byte k i))) =
    lp (aCall T0) K_laws_markByteS_0 L_laws_markByteS_0 [.slice (some ⟨l, o, none⟩) n c, .int .i64 (k + ((i + 1 : Nat) : Int)), und, und, und, .int .i64 (i + 1 : Nat), und, und, und, und, und, und, und, und, und, und, und, und, und, und] (M.set l (spB blk o (mcs_Byte k (i + 1)))) := by
  have el := mcs_Byte_len k i
  have e1 := wrn_sp M l o blk hb h2 (mcs_Byte k i) (byteV (mkY (k + (i : Int)))) rfl (by omega)
  rw [← mcs_Byte_succ, el] at e1
  have e6 : IntKind.i64.wrap ((i : Int) + 1) = i + 1 := wrap_i64 (by omega) (by omega)
  have e7 : IntKind.i64.wrap (k + (i : Int) + 1) = k + ((i : Int) + 1) := by rw [wrap_i64 (by omega) (by omega)]; omega
  have e8 := mkY_wrap (k + (i : Int)) (by omega)
  unfold byteV at e1
  rw [S_laws_markByteS_0]; unfold B_laws_markByteS_0; simp [e1, e6, e7, e8, hi]
theorem d_laws_markByteS (M : Mem) (v : V) (xs : List ty_Byte.D) (L : List Nat) (h : Own (.sl ty_Byte) M [v] xs L) (k : Int) (hk : 0 < k) (hk2 : k + xs.length ≤ 4611686018427387904) :
    ∃ M', aCall T0 F_laws_markByteS [v, .int .i64 k] M = some (.int .i64 (k + xs.length), M') ∧ UpdG M M' (· ∈ L) ∧ Own (.sl ty_Byte) M' [v] (marksY k xs.length) L := by
  rcases own_flat ownf_Byte h with ⟨rfl, rfl, hr⟩ | ⟨l, o, c, blk, hx, rfl, hb, h2, hw, ho, rfl⟩
  · refine ⟨M, ?_, pre_g (List.prefix_refl _) _, .inl ⟨rfl, rfl, hr⟩⟩
    obtain ⟨a, c, rfl⟩ := hr.slen
    rw [aCall_eq T_laws_markByteS]; unfold A_laws_markByteS C_laws_markByteS; simp
    rw [S_laws_markByteS_0]; unfold B_laws_markByteS_0; simp
  · have hw2 : ty_Byte.w = 1 := rfl
    rw [hw2, Nat.mul_one] at ho
    have hl := chain (g := fun i : Nat => lp (aCall T0) K_laws_markByteS_0 L_laws_markByteS_0 [.slice (some ⟨l, o, none⟩) xs.length c, .int .i64 (k + (i : Int)), und, und, und, .int .i64 i, und, und, und, und, und, und, und, und, und, und, und, und, und, und] (M.set l (spB blk o (mcs_Byte k i)))) (n := xs.length) fun i hi => r_laws_markByteS M l o xs.length c blk hb h2 k hk hk2 ho i hi
    have e0 : mcs_Byte k 0 = [] := rfl
    simp only [Int.natCast_zero, Int.ofNat_zero, e0, spB_nil, set_same hb, Int.add_zero] at hl
    have hlt := (List.getElem?_eq_some_iff.1 hb).1
    refine ⟨M.set l (spB blk o (mcs_Byte k xs.length)), ?_, Upd.g (upd_set hb rfl), ?_⟩
    · rw [aCall_eq T_laws_markByteS]; unfold A_laws_markByteS C_laws_markByteS; simp [hl]
      rw [S_laws_markByteS_0]; unfold B_laws_markByteS_0; simp
      exact gc_len (by simp)
    · refine own_sp (blk := blk) (enc := enc_Byte) ?_ (marksY_len _ _) (by simp [hlt, mcs_Byte]) h2 hw (by omega) (fun y _ => own_Byte _ y)
      intro e; have := congrArg List.length e; rw [marksY_len] at this; exact hx (List.length_eq_zero_iff.1 this)
theorem k_laws_markByteS : MarkS T0 ty_Byte F_laws_markByteS gm_ByteS gt_ByteS := fun M v xs L k h _ hb hk hk2 => d_laws_markByteS M v xs L h k hk hk2
theorem tot_ByteS : TotO (.sl ty_Byte) gt_ByteS 1048576 := fun xs hb => by have := hb.1; unfold gt_ByteS; omega
theorem rdn_box {M : Mem} {l n : Nat} {cs : List V} (h : M[l]? = some ⟨cs, 1, 2⟩) (hn : n = cs.length) : rdn M l 0 n = some cs := by
  unfold rdn
  rw [h]
  simp [hn]
theorem gc_ex (M M' : Mem) (v : V) : ∃ X, gc M (some (v, M')) = some (v, X) := by
  simp only [gc]
  split
  · exact ⟨_, rfl⟩
  · exact ⟨_, rfl⟩
def atN (ys : List UInt8) (i : Nat) : Nat := (ys.getD i 0).toNat
def zRec : ty_Rec.D := (false, (0 : Int), (0 : Int), ([] : List UInt8))
def unL (ys : List UInt8) : Nat := match ys with
  | y :: _ => y.toNat
  | [] => 0
def unC (ys : List UInt8) : List UInt8 := (ys.drop 1).take (unL ys)
def okByte (b : UInt8) : Bool := decide (97 ≤ (b.toNat : Int)) && decide ((b.toNat : Int) ≤ 122)
def wordB (w : List UInt8) : Bool := w.all okByte && (decide (1 ≤ (w.length : Int)) && decide ((w.length : Int) ≤ 32))
def padL (w : List UInt8) : List UInt8 := if wordB w = true then UInt8.ofNat w.length :: (w ++ List.replicate (32 - w.length) 0) else List.replicate 33 0
def unB (ys : List UInt8) : Bool := decide (unL ys ≤ 32) && (wordB (unC ys) && decide (padL (unC ys) = ys))
def unW (ys : List UInt8) : List UInt8 := if unB ys = true then unC ys else []
def recI (ys : List UInt8) : ty_Rec.D := (decide (atN ys 0 = 1), (atN ys 1 : Int), ((256 * atN ys 2 + atN ys 3 : Nat) : Int), unW (ys.drop 4))
def recB (r : ty_Rec.D) : Bool := decide (r = zRec) || (r.1 && (decide (0 ≤ (r.2.1 : Int)) && decide ((r.2.1 : Int) ≤ 7)) && (decide (0 ≤ (r.2.2.1 : Int)) && decide ((r.2.2.1 : Int) ≤ 65535)) && wordB r.2.2.2)
def recT (r : ty_Rec.D) : List UInt8 := [if r.1 = true then 1 else 0, UInt8.ofNat (r.2.1 : Int).toNat, UInt8.ofNat ((r.2.2.1 : Int).toNat / 256), UInt8.ofNat ((r.2.2.1 : Int).toNat % 256)] ++ padL r.2.2.2
def recR (ys : List UInt8) : Bool := decide (ys.length = 37) && (recB (recI ys) && decide (recT (recI ys) = ys))
def recX (ys : List UInt8) : ty_Rec.D := if recR ys = true then recI ys else zRec
def chunkR (ys : List UInt8) (i : Nat) : List UInt8 := (ys.drop (1 + 37 * i)).take 37
def topR (ys : List UInt8) (n : Nat) : List ty_Rec.D := (List.range n).map fun i => recX (chunkR ys i)
def markR (ys : List UInt8) : List Int := (ys.drop 1).map fun b => (b.toNat : Int)
def rrX (kind : Int) (ys : List UInt8) : ty_Reply.D :=
  if atN ys 0 = 0 ∧ kind = 1 then (0, decide (atN ys 1 = 1), ((256 * atN ys 2 + atN ys 3 : Nat) : Int), [], [])
  else if atN ys 0 = 0 ∧ kind = 2 then (0, false, 0, topR ys 8, [])
  else if atN ys 0 = 0 ∧ kind = 6 then (0, false, 0, [], markR ys)
  else ((atN ys 0 : Int), false, 0, [], [])
def shapeB (k s : Int) : Bool := if k = 6 then decide (1 ≤ s) && decide (s ≤ 16) else decide (1 ≤ k) && decide (k ≤ 5) && decide (s = 0)
def replyS (kind slots : Int) : Nat := (if kind = 1 then 4 else if kind = 2 then 297 else 1 + slots).toNat
def cmpW (a b : List UInt8) : Int := if Op.bytesLess a b = true then -1 else if Op.bytesLess b a = true then 1 else 0
def cmpI (a b : Int) : Int := if a < b then -1 else if b < a then 1 else 0
def orI (a b c : Int) : Int := if a = 0 then (if b = 0 then c else b) else a
def aheadB (a b : ty_Rec.D) : Bool := if a.1 = true ∧ b.1 = true then decide (orI (cmpI a.2.1 b.2.1) (cmpI b.2.2.1 a.2.2.1) (cmpW a.2.2.2 b.2.2.2) < 0) else (a.1 && !b.1)
def okT (xs : List ty_Rec.D) (i : Nat) : Bool := match xs[i]?, xs[i - 1]? with
  | some x, some y => recB x && decide ((x.2.1 : Int) ≤ 3) && (decide (i = 0) || !aheadB x y) && !(x.1 && (xs.take i).any fun p => decide (p.2.2.2 = x.2.2.2))
  | _, _ => true
def topB (xs : List ty_Rec.D) : Bool := decide (xs.length = 8) && (List.range xs.length).all (okT xs)
def markOk (n : Int) : Bool := decide (0 ≤ n) && decide (n ≤ 3)
def marksB (xs : List Int) (s : Int) : Bool := decide ((xs.length : Int) = s) && xs.all markOk
def replyB (kind slots k : Int) (f : Bool) (w : Int) (top : List ty_Rec.D) (marks : List Int) : Bool :=
  shapeB kind slots && (decide (0 ≤ k) && decide (k ≤ 8)) &&
  ((if k = 0 ∧ kind = 1 then (decide (0 ≤ w) && decide (w ≤ 65535)) && (f || decide (w = 0)) else !f && decide (w = 0)) &&
   (if k = 0 ∧ kind = 2 then topB top else decide (top.length = 0)) &&
   (if k = 0 ∧ kind = 6 then marksB marks slots else decide (marks.length = 0)))
def recsT (top : List ty_Rec.D) : List UInt8 := (top.map recT).flatten
def marksT (xs : List Int) : List UInt8 := xs.map fun n => UInt8.ofNat (n : Int).toNat
def replyH (kind k : Int) (f : Bool) (w : Int) : List UInt8 := if kind = 1 then [UInt8.ofNat k.toNat, if f = true then 1 else 0, UInt8.ofNat (w.toNat / 256), UInt8.ofNat (w.toNat % 256)] else [UInt8.ofNat k.toNat]
def replyL (kind k : Int) (f : Bool) (w : Int) (top : List ty_Rec.D) (marks : List Int) : List UInt8 := replyH kind k f w ++ recsT top ++ marksT marks
def replyT (kind slots k : Int) (f : Bool) (w : Int) (top : List ty_Rec.D) (marks : List Int) : List UInt8 := replyL kind k f w top marks ++ List.replicate (replyS kind slots - (replyL kind k f w top marks).length) 0
def replyX (kind slots : Int) (r : ty_Reply.D) : List UInt8 := if replyB kind slots r.1 r.2.1 r.2.2.1 r.2.2.2.1 r.2.2.2.2 = true then replyT kind slots r.1 r.2.1 r.2.2.1 r.2.2.2.1 r.2.2.2.2 else []
def rrB (kind slots : Int) (ys : List UInt8) : Bool := shapeB kind slots && (decide (ys.length = replyS kind slots) && decide (replyX kind slots (rrX kind ys) = ys))
def rrR (kind slots : Int) (ys : List UInt8) : ty_Reply.D := if rrB kind slots ys = true then rrX kind ys else (0, false, 0, [], [])
theorem markR_len (ys : List UInt8) : (markR ys).length = ys.length - 1 := by unfold markR; simp
theorem atN_lt (ys : List UInt8) (i : Nat) : atN ys i < 256 := UInt8.toNat_lt _
theorem unW_len (ys : List UInt8) : (unW ys).length ≤ ys.length := by
  unfold unW
  split
  · unfold unC
    rw [List.length_take, List.length_drop]
    omega
  · simp
theorem recX_bd (c : List UInt8) (hc : c.length = 37) : ((-9223372036854775808 ≤ (recX c).2.1 ∧ (recX c).2.1 ≤ 9223372036854775807) ∧ (-9223372036854775808 ≤ (recX c).2.2.1 ∧ (recX c).2.2.1 ≤ 9223372036854775807)) ∧ (recX c).2.2.2.length ≤ 37 := by
  unfold recX
  split
  · have t1 := atN_lt c 1
    have t2 := atN_lt c 2
    have t3 := atN_lt c 3
    have := unW_len (c.drop 4)
    rw [List.length_drop] at this
    exact ⟨⟨⟨by show (-9223372036854775808 : Int) ≤ (atN c 1 : Nat); omega, by show ((atN c 1 : Nat) : Int) ≤ _; omega⟩, ⟨by show (-9223372036854775808 : Int) ≤ ((256 * atN c 2 + atN c 3 : Nat) : Int); omega, by show ((256 * atN c 2 + atN c 3 : Nat) : Int) ≤ _; omega⟩⟩, by show (unW (c.drop 4)).length ≤ _; omega⟩
  · exact ⟨by decide, by decide⟩
theorem topR_bd (ys : List UInt8) (hl : ys.length = 297) : ∀ r ∈ topR ys 8, ((-9223372036854775808 ≤ r.2.1 ∧ r.2.1 ≤ 9223372036854775807) ∧ (-9223372036854775808 ≤ r.2.2.1 ∧ r.2.2.1 ≤ 9223372036854775807)) ∧ r.2.2.2.length ≤ 37 := by
  intro r hr
  unfold topR at hr
  obtain ⟨i, hi, rfl⟩ := List.mem_map.1 hr
  have := List.mem_range.1 hi
  exact recX_bd _ (by unfold chunkR; rw [List.length_take, List.length_drop]; omega)
theorem rrR_bd (kind slots : Int) (ys : List UInt8) (hb : Bd 1048576 (.sl ty_Byte) ys) : Bd 1048576 ty_Reply (rrR kind slots ys) := by
  have hz : Bd 1048576 ty_Reply ((0 : Int), false, (0 : Int), [], []) := ⟨trivial, trivial, trivial, ⟨by simp, by simp⟩, ⟨by simp, by simp⟩⟩
  unfold rrR
  split
  · rename_i h
    have hl : ys.length = replyS kind slots := by
      unfold rrB at h
      simp only [Bool.and_eq_true, decide_eq_true_eq] at h
      exact h.2.1
    unfold rrX
    split
    · exact ⟨trivial, trivial, trivial, ⟨by simp, by simp⟩, ⟨by simp, by simp⟩⟩
    · split
      · rename_i h2
        have hl4 : ys.length = 297 := by rw [hl, h2.2]; rfl
        exact ⟨trivial, trivial, trivial, ⟨by unfold topR; simp, fun r hr => ⟨trivial, trivial, trivial, Nat.le_trans (topR_bd ys hl4 r hr).2 (by decide)⟩⟩, ⟨by simp, by simp⟩⟩
      · split
        · exact ⟨trivial, trivial, trivial, ⟨by simp, by simp⟩, ⟨by rw [markR_len]; have := hb.1; omega, fun _ _ => trivial⟩⟩
        · exact ⟨trivial, trivial, trivial, ⟨by simp, by simp⟩, ⟨by simp, by simp⟩⟩
  · exact hz
def shapeB2 (k s : Int) : Bool := if k = 6 then decide (1 ≤ s) && decide (s ≤ 16) else decide (1 ≤ k) && decide (k ≤ 6) && decide (s = 0)
theorem shapeB2_eq (k s : Int) : shapeB2 k s = shapeB k s := by
  unfold shapeB2 shapeB
  split
  · rfl
  · rw [show decide (k ≤ 6) = decide (k ≤ 5) from decide_eq_decide.2 (by omega)]
theorem c_spec_l18Shape (M : Mem) (k s : Int) : aCall T0 F_spec_l18Shape [.int .i64 k, .int .i64 s] M = some (.bool (shapeB k s), M) := by
  rw [← shapeB2_eq]
  unfold shapeB2
  rw [aCall_eq T_spec_l18Shape]; unfold A_spec_l18Shape C_spec_l18Shape; simp
  repeat' ((first | rw [selO_some] | rw [condR_bool] | rw [selD_some]); split <;> rename_i hq <;> (have hq2 := hq) <;> (try simp at hq2) <;> (try simp [*]))
def replySz (k s : Int) : Int := if shapeB k s = true then (if k = 1 then 4 else if k = 2 then 297 else 1 + s) else -1
def hs (h : Nat) (b : UInt8) : Nat := ((h ^^^ b.toNat) * 16777619) % 4294967296
theorem c_spec_ReplySize (M : Mem) (k s : Int) : aCall T0 F_spec_ReplySize [.int .i64 k, .int .i64 s] M = some (.int .i64 (replySz k s), M) := by
  unfold replySz
  rw [aCall_eq T_spec_ReplySize]; unfold A_spec_ReplySize C_spec_ReplySize; simp [c_spec_l18Shape]
  cases hb : shapeB k s with
  | false => simp
  | true =>
    have hs : 0 ≤ s ∧ s ≤ 16 := by
      unfold shapeB at hb
      split at hb
      · simp at hb; omega
      · simp at hb; omega
    simp
    repeat' ((first | rw [selO_some] | rw [condR_bool] | rw [selD_some]); split <;> rename_i hq <;> (have hq2 := hq) <;> (try simp at hq2) <;> (try simp [*]))
    rw [wrap_i64 (by omega) (by omega)]
theorem mkrep_g_Reply {M : Mem} {x : ty_Reply.D} {u0 u1 : V} (w0 : (Lit.int .i64 x.1).wf = true) (w1 : (Lit.int .i64 x.2.2.1).wf = true) (r0 : Rep (.sl ty_Rec) M [u0] x.2.2.2.1) (r1 : Rep (.sl ty_Int) M [u1] x.2.2.2.2) : Rep ty_Reply M [.int .i64 x.1, .bool x.2.1, .int .i64 x.2.2.1, u0, u1] x := by
  exact ⟨[.int .i64 x.1], ([.bool x.2.1] ++ [.int .i64 x.2.2.1] ++ [u0] ++ [u1]), rfl, ⟨rfl, w0⟩, ⟨[.bool x.2.1], ([.int .i64 x.2.2.1] ++ [u0] ++ [u1]), rfl, rfl, ⟨[.int .i64 x.2.2.1], ([u0] ++ [u1]), rfl, ⟨rfl, w1⟩, ⟨[u0], ([u1]), rfl, r0, r1⟩⟩⟩⟩
theorem rep_cells {t : Ty} {M : Mem} {enc : t.D → List V} (henc : ∀ (cs : List V) (x : t.D), Rep t M cs x → cs = enc x) {a : Option Addr} {n c : Nat} {xs : List t.D} (h : Rep (.sl t) M [.slice a n c] xs) {k c2 : Nat} (hk : k ≤ xs.length) :
    sliceCells M t.w (.slice a k c2) = some (k, ((xs.take k).map enc).flatten) := by
  rcases h with ⟨h, rfl⟩ | ⟨l', o', c', blk, css, e, h2, h3, h4, h5, h6, h7⟩
  · simp at h hk
    obtain ⟨rfl, rfl, rfl⟩ := h
    subst hk
    simp [sliceCells]
  · simp only [List.cons.injEq, Value.slice.injEq, and_true] at e
    obtain ⟨rfl, rfl, rfl⟩ := e
    by_cases hk0 : k = 0
    · subst hk0
      simp [sliceCells]
    have hw := Rep.css_w h5 h6
    have hcs : css = xs.map enc := by
      apply List.ext_getElem (by simp [h5])
      intro i h1 h2
      rw [List.getElem_map]
      exact henc _ _ (h6 i _ _ (by simp [h1]) (by simp))
    have hlen := flat_len hw
    have hpos := t.w_pos
    have h3' : blk.st = 1 ∨ blk.st = 2 := by
      rcases h3 with h3 | h3 | h3
      · exact .inl h3
      · exact .inr h3
      · subst h3; simp at hk; omega
    obtain ⟨r, hr⟩ := h7
    have hdl : css.flatten.length + r.length = blk.cells.length - o' := by rw [← List.length_drop, ← hr, List.length_append]
    have hle : k * t.w ≤ css.length * t.w := Nat.mul_le_mul_right _ (by omega)
    have hpos2 : 0 < k * t.w := Nat.mul_pos (by omega) hpos
    unfold sliceCells
    simp only
    rw [if_neg (by omega)]
    unfold rdn
    rw [h2]
    simp only
    rw [if_pos ⟨h3', by omega⟩]
    simp only [Option.map_some]
    congr 2
    rw [← hr, List.take_append_of_le_length (by omega)]
    have e2 : css = (xs.take k).map enc ++ (xs.drop k).map enc := by rw [hcs, ← List.map_append, List.take_append_drop]
    have e3 : (((xs.take k).map enc).flatten).length = k * t.w := by
      rw [flat_len (w := t.w) (fun cs hc => hw cs (by rw [e2]; exact List.mem_append_left _ hc))]
      simp [Nat.min_eq_left hk]
    rw [e2, List.flatten_append, ← e3, List.take_left']
    rfl
theorem flat_Byte (xs : List ty_Byte.D) : (xs.map enc_Byte).flatten = xs.map byteV := by
  induction xs with
  | nil => rfl
  | cons x xs ih => simp [ih]
theorem cells_Byte {M : Mem} {v : V} {ys : List UInt8} (h : Rep (.sl ty_Byte) M [v] ys) : ∃ a c, v = .slice a ys.length c ∧ sliceCells M 1 (.slice a ys.length c) = some (ys.length, ys.map byteV) := by
  obtain ⟨a, c, rfl⟩ := h.slen
  have := rep_cells (enc := enc_Byte) (fun cs x hx => hx) h (k := ys.length) (Nat.le_refl _) (c2 := c)
  rw [List.take_length] at this
  refine ⟨a, c, rfl, ?_⟩
  rw [← flat_Byte]
  exact this
theorem toBytes_map : ∀ ys : List UInt8, toBytes (ys.map byteV) = some ys
  | [] => rfl
  | y :: ys => by
    simp [toBytes, byteV, toBytes_map ys]
theorem at_B {M : Mem} {l o n c : Nat} {ys : List UInt8} (h : Rep (.sl ty_Byte) M [.slice (some ⟨l, o, none⟩) n c] ys) {i : Nat} (hi : i < ys.length) : rd1 M l (o + i) = some (.int .u8 (atN ys i : Nat)) := by
  obtain ⟨_, _, e, _, hrd⟩ := at_Byte h hi
  simp at e
  obtain ⟨rfl, rfl⟩ := e
  rw [hrd]
  unfold atN
  rw [List.getD_eq_getElem?_getD, List.getElem?_eq_getElem hi]
  rfl
abbrev cY (k : Int) (f : Bool) (w : Int) (v u : V) : List V := [.int .i64 k, .bool f, .int .i64 w, v, u]
theorem range_all {n : Nat} {p : Nat → Bool} (h : ∀ i, i < n → p i = true) : (List.range n).all p = true := by
  rw [List.all_eq_true]
  intro i hi
  exact h i (List.mem_range.1 hi)
theorem range_not {n j : Nat} {p : Nat → Bool} (hj : j < n) (h : p j = false) : (List.range n).all p = false := by
  rw [List.all_eq_false]
  exact ⟨j, List.mem_range.2 hj, by simp [h]⟩
theorem all_false {w : List UInt8} {j : Nat} (hj : j < w.length) (h : okByte w[j] = false) : w.all okByte = false := by
  rw [List.all_eq_false]
  exact ⟨w[j], List.getElem_mem hj, by simp [h]⟩
theorem all_true {w : List UInt8} (h : ∀ i (hi : i < w.length), okByte w[i] = true) : w.all okByte = true := by
  rw [List.all_eq_true]
  intro b hb
  obtain ⟨i, hi, rfl⟩ := List.getElem_of_mem hb
  exact h i hi
theorem first_byte (w : List UInt8) : w.all okByte = true ∨ (w.all okByte = false ∧ ∃ j, ∃ hj : j < w.length, (∀ i (hi : i < w.length), i < j → okByte w[i] = true) ∧ okByte w[j] = false) := by
  rcases first_bad (fun i => (w[i]?).any okByte) w.length with h | ⟨j, h1, h2, h3⟩
  · left; exact all_true fun i hi => by have := h i hi; simpa [hi] using this
  · right
    have h3' : okByte w[j] = false := by simpa [h1] using h3
    exact ⟨all_false h1 h3', j, h1, fun i hi hij => by have := h2 i hij; simpa [hi] using this, h3'⟩
theorem okByte_t {b : UInt8} (h : okByte b = true) : ¬ ((b.toNat : Int) < 97) ∧ ¬ (122 < (b.toNat : Int)) := by
  simp only [okByte, Bool.and_eq_true, decide_eq_true_eq] at h; omega
theorem r_spec_WordOk (M : Mem) (w : List UInt8) (hw : w.length ≤ 9223372036854775807) (i : Nat) (hi : i < w.length) (hb : okByte w[i] = true) :
    lp (aCall T0) K_spec_WordOk_0 L_spec_WordOk_0 [strV w, und, und, .int .i64 i, und, und, und, und, und, und, und, und, und, und, und, und, und, und, und, und, und, und, und, und, und, und, und, und] M = lp (aCall T0) K_spec_WordOk_0 L_spec_WordOk_0 [strV w, und, und, .int .i64 (i + 1 : Nat), und, und, und, und, und, und, und, und, und, und, und, und, und, und, und, und, und, und, und, und, und, und, und, und] M := by
  obtain ⟨h1, h2⟩ := okByte_t hb
  rw [S_spec_WordOk_0]; unfold B_spec_WordOk_0; simp [hi, byteV, h1, h2]
  rw [wrap_i64 (by omega) (by omega)]
theorem okByte_f {b : UInt8} (h : okByte b = false) : (b.toNat : Int) < 97 ∨ (¬ ((b.toNat : Int) < 97) ∧ (122 < (b.toNat : Int))) := by
  simp only [okByte, Bool.and_eq_false_iff, decide_eq_false_iff_not] at h; omega
theorem x_spec_WordOk (M : Mem) (w : List UInt8) (hw : w.length ≤ 9223372036854775807) (i : Nat) (hi : i < w.length) (hb : okByte w[i] = false) (k : ACode) :
    thenF M [.tmp 2] (thenS (blockR 0 (lp (aCall T0) K_spec_WordOk_0 L_spec_WordOk_0 [strV w, und, und, .int .i64 i, und, und, und, und, und, und, und, und, und, und, und, und, und, und, und, und, und, und, und, und, und, und, und, und] M)) (aCall T0) k) = some (.bool false, M) := by
  rcases okByte_f hb with h1 | ⟨h1, h2⟩
  · rw [S_spec_WordOk_0]; unfold B_spec_WordOk_0; simp [hi, byteV, h1]
  · rw [S_spec_WordOk_0]; unfold B_spec_WordOk_0; simp [hi, byteV, h1, h2]
theorem c_spec_WordOk (M : Mem) (w : List UInt8) (hw : w.length ≤ 9223372036854775807) : aCall T0 F_spec_WordOk [strV w] M = some (.bool (wordB w), M) := by
  unfold wordB
  by_cases hl1 : (w.length : Int) < 1
  · have : w = [] := List.length_eq_zero_iff.1 (by omega)
    subst this
    rw [aCall_eq T_spec_WordOk]; unfold A_spec_WordOk C_spec_WordOk; simp
  by_cases hl2 : 32 < (w.length : Int)
  · rw [aCall_eq T_spec_WordOk]; unfold A_spec_WordOk C_spec_WordOk; simp [hl1, hl2]
  have e : (decide (1 ≤ (w.length : Int)) && decide ((w.length : Int) ≤ 32)) = true := by simp; omega
  rw [e, Bool.and_true]
  rcases first_byte w with ha | ⟨ha, j, hj, h1, h2⟩
  · have hl := chain (g := fun i : Nat => lp (aCall T0) K_spec_WordOk_0 L_spec_WordOk_0 [strV w, und, und, .int .i64 i, und, und, und, und, und, und, und, und, und, und, und, und, und, und, und, und, und, und, und, und, und, und, und, und] M) (n := w.length) fun i hi => r_spec_WordOk M w hw i hi (List.all_eq_true.1 ha _ (List.getElem_mem hi))
    simp only [Int.natCast_zero, Int.ofNat_zero] at hl
    rw [ha]
    rw [aCall_eq T_spec_WordOk]; unfold A_spec_WordOk C_spec_WordOk; simp [hl, hl1, hl2]
    rw [S_spec_WordOk_0]; unfold B_spec_WordOk_0; simp
  · have hl := chain (g := fun i : Nat => lp (aCall T0) K_spec_WordOk_0 L_spec_WordOk_0 [strV w, und, und, .int .i64 i, und, und, und, und, und, und, und, und, und, und, und, und, und, und, und, und, und, und, und, und, und, und, und, und] M) (n := j) fun i hi => r_spec_WordOk M w hw i (by omega) (h1 i (by omega) hi)
    simp only [Int.natCast_zero, Int.ofNat_zero] at hl
    rw [ha]
    rw [aCall_eq T_spec_WordOk]; unfold A_spec_WordOk C_spec_WordOk; simp [hl, hl1, hl2, x_spec_WordOk M w hw j hj h2]
theorem z_rec (r : ty_Rec.D) : decide (r = zRec) = (decide (r.1 = false) && (decide ((r.2.1 : Int) = 0) && (decide ((r.2.2.1 : Int) = 0) && decide (r.2.2.2 = [])))) := by
  obtain ⟨a, b, c, d⟩ := r
  simp [zRec]
theorem eq_rec (r : ty_Rec.D) : eqCells [0, 1, 1, 2] [.bool r.1, .int .i64 r.2.1, .int .i64 r.2.2.1, strV r.2.2.2] [.bool false, .int .i64 0, .int .i64 0, .string ⟨#[]⟩] = some (decide (r = zRec)) := by
  rw [z_rec]
  simp [eqCells]
  cases r.1 <;> simp
  by_cases h2 : (r.2.1 : Int) = 0 <;> simp [h2]
  by_cases h3 : (r.2.2.1 : Int) = 0 <;> simp [h3]
  by_cases h4 : r.2.2.2 = [] <;> simp [h4]
theorem c_spec_l09Empty (M : Mem) (r : ty_Rec.D) : aCall T0 F_spec_l09Empty [.agg (enc_Rec r).toArray] M = some (.bool (decide (r = zRec)), M) := by
  rw [aCall_eq T_spec_l09Empty]; unfold A_spec_l09Empty C_spec_l09Empty; simp [eq_rec]
  rw [z_rec]
  simp
theorem c_spec_RecOk (M : Mem) (r : ty_Rec.D) (hw : r.2.2.2.length ≤ 9223372036854775807) : aCall T0 F_spec_RecOk [.agg (enc_Rec r).toArray] M = some (.bool (recB r), M) := by
  unfold recB
  have h := fun M => c_spec_l09Empty M r
  have h2 := fun M => c_spec_WordOk M r.2.2.2 hw
  cases he : decide (r = zRec) with
  | true =>
    simp only [he] at h
    rw [aCall_eq T_spec_RecOk]; unfold A_spec_RecOk C_spec_RecOk; simp [h]
  | false =>
    simp only [he] at h
    rw [aCall_eq T_spec_RecOk]; unfold A_spec_RecOk C_spec_RecOk; simp [h, h2]
    repeat' ((first | rw [selO_some] | rw [condR_bool] | rw [selD_some]); split <;> rename_i hq <;> (have hq2 := hq) <;> (try simp at hq2) <;> (try simp [*, h2]))
theorem okT_get (xs : List ty_Rec.D) (i : Nat) (hi : i < xs.length) : okT xs i = (recB xs[i] && decide ((xs[i].2.1 : Int) ≤ 3) && (decide (i = 0) || !aheadB xs[i] (xs[i - 1]'(by omega))) && !(xs[i].1 && (xs.take i).any fun p => decide (p.2.2.2 = xs[i].2.2.2))) := by
  unfold okT
  rw [List.getElem?_eq_getElem hi, List.getElem?_eq_getElem (show i - 1 < xs.length by omega)]
theorem okT_parts {xs : List ty_Rec.D} {i : Nat} (hi : i < xs.length) (h : okT xs i = true) : recB xs[i] = true ∧ (xs[i].2.1 : Int) ≤ 3 ∧ (∀ (h0 : 0 < i), aheadB xs[i] (xs[i - 1]'(by omega)) = false) ∧ (xs[i].1 = true → ∀ j (hj : j < xs.length), j < i → xs[j].2.2.2 ≠ xs[i].2.2.2) := by
  rw [okT_get xs i hi] at h
  simp only [Bool.and_eq_true, decide_eq_true_eq, Bool.or_eq_true, Bool.not_eq_true'] at h
  obtain ⟨⟨⟨h1, h2⟩, h3⟩, h4⟩ := h
  refine ⟨h1, h2, fun h0 => ?_, fun hl j hj hji e => ?_⟩
  · rcases h3 with h3 | h3
    · omega
    · exact h3
  · rw [hl, Bool.true_and, List.any_eq_false] at h4
    refine h4 xs[j] ?_ (by simp [e])
    rw [List.mem_take_iff_getElem]
    exact ⟨j, by omega, rfl⟩
theorem less_trans : ∀ {a b c : List UInt8}, Op.bytesLess a b = true → Op.bytesLess b c = true → Op.bytesLess a c = true
  | [], [], _, h, _ => by simp [Op.bytesLess] at h
  | [], _ :: _, [], _, h => by simp [Op.bytesLess] at h
  | [], _ :: _, _ :: _, _, _ => by simp [Op.bytesLess]
  | _ :: _, [], _, h, _ => by simp [Op.bytesLess] at h
  | _ :: _, _ :: _, [], _, h => by simp [Op.bytesLess] at h
  | x :: a, y :: b, z :: c, h, h2 => by
    simp only [Op.bytesLess, Bool.or_eq_true, Bool.and_eq_true, decide_eq_true_eq, beq_iff_eq] at h h2 ⊢
    simp only [UInt8.lt_iff_toNat_lt] at h h2 ⊢
    rcases h with h | ⟨rfl, h⟩
    · rcases h2 with h2 | ⟨rfl, h2⟩
      · exact .inl (by omega)
      · exact .inl h
    · rcases h2 with h2 | ⟨rfl, h2⟩
      · exact .inl h2
      · exact .inr ⟨rfl, less_trans h h2⟩
theorem cmpW_nil (b : List UInt8) : cmpW [] b = if 0 < b.length then -1 else 0 := by
  cases b <;> simp [cmpW, Op.bytesLess]
theorem cmpW_nil2 (a : List UInt8) : cmpW a [] = if 0 < a.length then 1 else 0 := by
  cases a <;> simp [cmpW, Op.bytesLess]
theorem cmpW_lt {x y : UInt8} (a b : List UInt8) (h : x < y) : cmpW (x :: a) (y :: b) = -1 := by
  unfold cmpW
  rw [Op.bytesLess]
  simp [h]
theorem cmpW_gt {x y : UInt8} (a b : List UInt8) (h : y < x) : cmpW (x :: a) (y :: b) = 1 := by
  unfold cmpW
  rw [Op.bytesLess, Op.bytesLess]
  have h1 : ¬ x < y := fun q => by
    have := UInt8.lt_iff_toNat_lt.1 h
    have := UInt8.lt_iff_toNat_lt.1 q
    omega
  have h2 : ¬ x = y := fun q => by
    subst q
    have := UInt8.lt_iff_toNat_lt.1 h
    omega
  simp [h1, h2, h]
theorem cmpW_eq (x : UInt8) (a b : List UInt8) : cmpW (x :: a) (x :: b) = cmpW a b := by
  unfold cmpW
  rw [Op.bytesLess, Op.bytesLess]
  have h1 : ¬ x < x := fun q => by
    have := UInt8.lt_iff_toNat_lt.1 q
    omega
  simp
theorem lcp : ∀ a b : List UInt8, ∃ j, j ≤ a.length ∧ j ≤ b.length ∧ (∀ i, i < j → ∀ (h : i < a.length) (h2 : i < b.length), a[i] = b[i]) ∧
    ((j = a.length ∧ j = b.length ∧ cmpW a b = 0) ∨ (j = a.length ∧ j < b.length ∧ cmpW a b = -1) ∨ (j < a.length ∧ j = b.length ∧ cmpW a b = 1) ∨
     ∃ (h : j < a.length) (h2 : j < b.length), (a[j] < b[j] ∧ cmpW a b = -1) ∨ (¬ a[j] < b[j] ∧ b[j] < a[j] ∧ cmpW a b = 1))
  | [], [] => ⟨0, by simp, by simp, by simp, .inl ⟨rfl, rfl, rfl⟩⟩
  | [], b :: bs => ⟨0, by simp, by simp, by simp, .inr (.inl ⟨rfl, by simp, by simp [cmpW_nil]⟩)⟩
  | a :: as, [] => ⟨0, by simp, by simp, by simp, .inr (.inr (.inl ⟨by simp, rfl, by simp [cmpW_nil2]⟩))⟩
  | a :: as, b :: bs => by
    by_cases h : a < b
    · exact ⟨0, by simp, by simp, by simp, .inr (.inr (.inr ⟨by simp, by simp, .inl ⟨h, cmpW_lt _ _ h⟩⟩))⟩
    by_cases h2 : b < a
    · exact ⟨0, by simp, by simp, by simp, .inr (.inr (.inr ⟨by simp, by simp, .inr ⟨h, h2, cmpW_gt _ _ h2⟩⟩))⟩
    have e : a = b := by
      apply UInt8.toNat_inj.1
      have q1 : ¬ a.toNat < b.toNat := fun q => h (UInt8.lt_iff_toNat_lt.2 q)
      have q2 : ¬ b.toNat < a.toNat := fun q => h2 (UInt8.lt_iff_toNat_lt.2 q)
      omega
    subst e
    obtain ⟨j, h1, h3, h4, h5⟩ := lcp as bs
    refine ⟨j + 1, by simp; omega, by simp; omega, fun i hi p q => ?_, ?_⟩
    · cases i with
      | zero => rfl
      | succ i => exact h4 i (by omega) (by simpa using p) (by simpa using q)
    · rw [cmpW_eq]
      simpa using h5
theorem cmpW_zero {a b : List UInt8} (h : cmpW a b = 0) : a = b := by
  obtain ⟨j, h1, h2, h3, h4⟩ := lcp a b
  rcases h4 with ⟨e1, e2, e⟩ | ⟨e1, e2, e⟩ | ⟨e1, e2, e⟩ | ⟨e1, e2, ⟨e3, e⟩ | ⟨e3, e4, e⟩⟩
  · apply List.ext_getElem (by omega)
    intro i p q
    exact h3 i (by omega) p q
  · omega
  · omega
  · omega
  · omega
theorem cmp_neg {a b : List UInt8} : (cmpW a b < 0) ↔ Op.bytesLess a b = true := by
  unfold cmpW
  cases Op.bytesLess a b
  · cases Op.bytesLess b a <;> simp
  · simp
theorem cmp_negtrans {a b c : List UInt8} (h : cmpW a c < 0) : cmpW a b < 0 ∨ cmpW b c < 0 := by
  rw [cmp_neg] at h
  rw [cmp_neg, cmp_neg]
  cases h1 : Op.bytesLess a b with
  | true => exact .inl rfl
  | false =>
    right
    cases h2 : Op.bytesLess b a with
    | true => exact less_trans h2 h
    | false =>
      have : a = b := cmpW_zero (by simp [cmpW, h1, h2])
      rw [← this]
      exact h
theorem or_char (d e w v c : Int) : orI (cmpI d e) (cmpI w v) c < 0 ↔ d < e ∨ (d = e ∧ (w < v ∨ (w = v ∧ c < 0))) := by
  unfold orI cmpI
  by_cases h1 : d < e
  · simp [h1]
  · by_cases h2 : e < d
    · have : ¬ d = e := by omega
      simp [h1, h2, this]
    · have h3 : d = e := by omega
      by_cases h4 : w < v
      · simp [h3, h4]
      · by_cases h5 : v < w
        · have : ¬ w = v := by omega
          simp [h3, h4, h5, this]
        · have h6 : w = v := by omega
          simp [h3, h6]
theorem lex_negtrans (d1 d2 d3 w1 w2 w3 c13 c12 c23 : Int) (h : c13 < 0 → c12 < 0 ∨ c23 < 0) (hq : orI (cmpI d1 d3) (cmpI w3 w1) c13 < 0) : orI (cmpI d1 d2) (cmpI w2 w1) c12 < 0 ∨ orI (cmpI d2 d3) (cmpI w3 w2) c23 < 0 := by
  rw [or_char] at hq
  rw [or_char, or_char]
  by_cases hc : c13 < 0
  · rcases h hc with h | h <;> omega
  · omega
theorem ahead_negtrans {x y z : ty_Rec.D} (h : aheadB x z = true) : aheadB x y = true ∨ aheadB y z = true := by
  obtain ⟨x1, x2, x3, x4⟩ := x
  obtain ⟨y1, y2, y3, y4⟩ := y
  obtain ⟨z1, z2, z3, z4⟩ := z
  unfold aheadB at h ⊢
  cases x1
  · simp at h
  · cases y1
    · left; simp
    · cases z1
      · right; simp
      · simp only [and_self, if_true, decide_eq_true_eq] at h ⊢
        exact lex_negtrans x2 y2 z2 x3 y3 z3 _ _ _ (fun q => cmp_negtrans q) h
theorem ahead_all {xs : List ty_Rec.D} {n : Nat} (h : ∀ i, i < n → okT xs i = true) (hn : n ≤ xs.length) : ∀ (d i j : Nat) (hi : i < n) (_ : i = j + 1 + d), aheadB (xs[i]'(by omega)) (xs[j]'(by omega)) = false
  | 0, i, j, hi, e => by
    have h1 := (okT_parts (by omega) (h i hi)).2.2.1 (by omega)
    have : i - 1 = j := by omega
    simp only [this] at h1
    exact h1
  | d + 1, i, j, hi, e => by
    have h1 := (okT_parts (by omega) (h i hi)).2.2.1 (by omega)
    have h2 := ahead_all h hn d (i - 1) j (by omega) (by omega)
    cases q : aheadB (xs[i]'(by omega)) (xs[j]'(by omega)) with
    | false => rfl
    | true =>
      rcases ahead_negtrans (y := xs[i - 1]'(by omega)) q with q2 | q2
      · rw [h1] at q2; cases q2
      · rw [h2] at q2; cases q2
def inB (xs : List ty_Rec.D) (i j : Nat) : Bool := match xs[i]?, xs[j]? with
  | some x, some y => !aheadB x y && !(x.1 && decide (x.2.2.2 = y.2.2.2))
  | _, _ => true
theorem inB_get (xs : List ty_Rec.D) (i j : Nat) (hi : i < xs.length) (hj : j < xs.length) : inB xs i j = (!aheadB xs[i] xs[j] && !(xs[i].1 && decide (xs[i].2.2.2 = xs[j].2.2.2))) := by
  unfold inB
  rw [List.getElem?_eq_getElem hi, List.getElem?_eq_getElem hj]
theorem r_spec_WordCmp (M : Mem) (a b : List UInt8) (ha : a.length ≤ 9223372036854775807) (hb : b.length ≤ 9223372036854775807) (i : Nat) (hi : i < a.length) (hj : i < b.length) (he : a[i] = b[i]) :
    lp (aCall T0) K_spec_WordCmp_0 L_spec_WordCmp_0 [strV a, strV b, und, und, und, .int .i64 i, und, und, und, und, und, und, und, und, und, und, und, und, und, und, und, und, und, und, und, und, und, und, und, und, und, und, und, und, und, und, und, und, und, und, und, und] M = lp (aCall T0) K_spec_WordCmp_0 L_spec_WordCmp_0 [strV a, strV b, und, und, und, .int .i64 (i + 1 : Nat), und, und, und, und, und, und, und, und, und, und, und, und, und, und, und, und, und, und, und, und, und, und, und, und, und, und, und, und, und, und, und, und, und, und, und, und] M := by
  rw [S_spec_WordCmp_0]; unfold B_spec_WordCmp_0; simp [hi, hj, byteV, he]
  rw [wrap_i64 (by omega) (by omega)]
theorem c_spec_WordCmp (M : Mem) (a b : List UInt8) (ha : a.length ≤ 9223372036854775807) (hb : b.length ≤ 9223372036854775807) : aCall T0 F_spec_WordCmp [strV a, strV b] M = some (.int .i64 (cmpW a b), M) := by
  obtain ⟨j, h1, h2, h3, h4⟩ := lcp a b
  have hl := chain (g := fun i : Nat => lp (aCall T0) K_spec_WordCmp_0 L_spec_WordCmp_0 [strV a, strV b, und, und, und, .int .i64 i, und, und, und, und, und, und, und, und, und, und, und, und, und, und, und, und, und, und, und, und, und, und, und, und, und, und, und, und, und, und, und, und, und, und, und, und] M) (n := j) fun i hi => r_spec_WordCmp M a b ha hb i (by omega) (by omega) (h3 i hi (by omega) (by omega))
  simp only [Int.natCast_zero, Int.ofNat_zero] at hl
  rcases h4 with ⟨e1, e2, e⟩ | ⟨e1, e2, e⟩ | ⟨e1, e2, e⟩ | ⟨e1, e2, ⟨e3, e⟩ | ⟨e3, e4, e⟩⟩
  · rw [e]
    have q1 : ¬ j < a.length := by omega
    have q3 : ¬ (a.length : Int) < b.length := by omega
    have q4 : ¬ (b.length : Int) < a.length := by omega
    rw [aCall_eq T_spec_WordCmp]; unfold A_spec_WordCmp C_spec_WordCmp; simp [hl]
    rw [S_spec_WordCmp_0]; unfold B_spec_WordCmp_0; simp [q1, q3, q4]
  · rw [e]
    have q1 : ¬ j < a.length := by omega
    have q3 : (a.length : Int) < b.length := by omega
    rw [aCall_eq T_spec_WordCmp]; unfold A_spec_WordCmp C_spec_WordCmp; simp [hl]
    rw [S_spec_WordCmp_0]; unfold B_spec_WordCmp_0; simp [q1, q3]
  · rw [e]
    have q1 : j < a.length := by omega
    have q2 : ¬ j < b.length := by omega
    have q3 : ¬ (a.length : Int) < b.length := by omega
    have q4 : (b.length : Int) < a.length := by omega
    rw [aCall_eq T_spec_WordCmp]; unfold A_spec_WordCmp C_spec_WordCmp; simp [hl]
    rw [S_spec_WordCmp_0]; unfold B_spec_WordCmp_0; simp [q1, q2, q3, q4]
  · rw [e]
    have q : (a[j].toNat : Int) < b[j].toNat := by have := UInt8.lt_iff_toNat_lt.1 e3; omega
    rw [aCall_eq T_spec_WordCmp]; unfold A_spec_WordCmp C_spec_WordCmp; simp [hl]
    rw [S_spec_WordCmp_0]; unfold B_spec_WordCmp_0; simp [e1, e2, byteV, q]
  · rw [e]
    have q : ¬ (a[j].toNat : Int) < b[j].toNat := by have : ¬ a[j].toNat < b[j].toNat := fun q => e3 (UInt8.lt_iff_toNat_lt.2 q); omega
    have q2 : (b[j].toNat : Int) < a[j].toNat := by have := UInt8.lt_iff_toNat_lt.1 e4; omega
    rw [aCall_eq T_spec_WordCmp]; unfold A_spec_WordCmp C_spec_WordCmp; simp [hl]
    rw [S_spec_WordCmp_0]; unfold B_spec_WordCmp_0; simp [e1, e2, byteV, q, q2]
theorem c_spec_RecAhead0 (M : Mem) (a1 b1 : Bool) (a2 a3 b2 b3 : Int) (a4 b4 : List UInt8) (ha : a4.length ≤ 9223372036854775807) (hb : b4.length ≤ 9223372036854775807) (ra : recB (a1, a2, a3, a4) = true) (rb : recB (b1, b2, b3, b4) = true) : aCall T0 F_spec_RecAhead [.agg (enc_Rec (a1, a2, a3, a4)).toArray, .agg (enc_Rec (b1, b2, b3, b4)).toArray] M = some (.bool (aheadB (a1, a2, a3, a4) (b1, b2, b3, b4)), M) := by
  have s1 := fun M => c_spec_RecOk M (a1, a2, a3, a4) ha
  have s2 := fun M => c_spec_RecOk M (b1, b2, b3, b4) hb
  simp only [ra] at s1
  simp only [rb] at s2
  have s3 := fun M => c_spec_WordCmp M a4 b4 ha hb
  clear ra rb ha hb
  unfold aheadB
  cases a1
  · rw [aCall_eq T_spec_RecAhead]; unfold A_spec_RecAhead C_spec_RecAhead; simp [s1, s2]
  · cases b1
    · rw [aCall_eq T_spec_RecAhead]; unfold A_spec_RecAhead C_spec_RecAhead; simp [s1, s2]
    · simp only [and_self, if_true]
      unfold orI cmpI
      by_cases h1 : a2 = b2
      · have h2 : ¬ a2 < b2 := by omega
        have h3 : ¬ b2 < a2 := by omega
        by_cases h4 : a3 = b3
        · have h5 : ¬ a3 < b3 := by omega
          have h6 : ¬ b3 < a3 := by omega
          subst h1 h4
          rw [aCall_eq T_spec_RecAhead]; unfold A_spec_RecAhead C_spec_RecAhead; simp [s1, s2, s3]
        · by_cases h5 : b3 < a3
          · subst h1
            rw [aCall_eq T_spec_RecAhead]; unfold A_spec_RecAhead C_spec_RecAhead; simp [s1, s2, h4, h5]
          · have h6 : a3 < b3 := by omega
            subst h1
            rw [aCall_eq T_spec_RecAhead]; unfold A_spec_RecAhead C_spec_RecAhead; simp [s1, s2, h4, h5, h6]
      · by_cases h2 : a2 < b2
        · rw [aCall_eq T_spec_RecAhead]; unfold A_spec_RecAhead C_spec_RecAhead; simp [s1, s2, h1, h2]
        · have h3 : b2 < a2 := by omega
          rw [aCall_eq T_spec_RecAhead]; unfold A_spec_RecAhead C_spec_RecAhead; simp [s1, s2, h1, h2, h3]
theorem c_spec_RecAhead (M : Mem) (a b : ty_Rec.D) (ha : a.2.2.2.length ≤ 9223372036854775807) (hb : b.2.2.2.length ≤ 9223372036854775807) (ra : recB a = true) (rb : recB b = true) : aCall T0 F_spec_RecAhead [.agg (enc_Rec a).toArray, .agg (enc_Rec b).toArray] M = some (.bool (aheadB a b), M) :=
  c_spec_RecAhead0 M a.1 b.1 a.2.1 a.2.2.1 b.2.1 b.2.2.1 a.2.2.2 b.2.2.2 ha hb ra rb
theorem r2_spec_l18Top (M : Mem) (a : Option Addr) (c : Nat) (xs : List ty_Rec.D) (h : Rep (.sl ty_Rec) M [.slice a xs.length c] xs) (hn : xs.length ≤ 1048576) (hf : ∀ x ∈ xs, x.2.2.2.length ≤ 9223372036854775807) (i j : Nat) (hi : i < xs.length) (hj : j < i) (hj2 : j < xs.length) (ri : recB xs[i] = true) (rj : recB xs[j] = true) (hq : inB xs i j = true) :
    lp (aCall T0) K_spec_l18Top_1 L_spec_l18Top_1 [.slice a xs.length c, und, und, .int .i64 i, .int .i64 j, und, und, und, und, und, und, und, und, und, und, und, und, und, und, und, und, und, und, und, und, und, und, und, und, und, und, und, und, und, und, und, und, und, und, und, und, und, und, und, und, und, und, und, und, und, und, und, und, und, und, und, und, und, und, und, und, und, und, und, und, und, und, und, und, und, und, und, und, und, und, und, und, und, und, und, und, und] M = lp (aCall T0) K_spec_l18Top_1 L_spec_l18Top_1 [.slice a xs.length c, und, und, .int .i64 i, .int .i64 (j + 1 : Nat), und, und, und, und, und, und, und, und, und, und, und, und, und, und, und, und, und, und, und, und, und, und, und, und, und, und, und, und, und, und, und, und, und, und, und, und, und, und, und, und, und, und, und, und, und, und, und, und, und, und, und, und, und, und, und, und, und, und, und, und, und, und, und, und, und, und, und, und, und, und, und, und, und, und, und, und, und] M := by
  obtain ⟨l, o, rfl, _, hrd, f0, f1, f2, f3⟩ := at_Rec h hi
  obtain ⟨l2, o2, e2, _, hrd2, _, _, _, d3⟩ := at_Rec h hj2
  simp at e2
  obtain ⟨rfl, rfl⟩ := e2
  have e6 : IntKind.i64.wrap ((j : Int) + 1) = j + 1 := wrap_i64 (by omega) (by omega)
  have s1 := c_spec_RecAhead M xs[i] xs[j] (hf _ (List.getElem_mem _)) (hf _ (List.getElem_mem _)) ri rj
  rw [inB_get xs i j hi hj2] at hq
  have g0 : (j : Int) < i := by omega
  cases ka : aheadB xs[i] xs[j] with
  | true => rw [ka] at hq; cases hq
  | false =>
    rw [ka] at s1 hq
    cases hl : xs[i].1 with
    | false =>
      rw [hl] at f0
      rw [S_spec_l18Top_1]; unfold B_spec_l18Top_1; simp [hi, hj, hj2, g0, hrd, hrd2, s1, f0, e6]
    | true =>
      rw [hl] at f0 hq
      have hw : ¬ xs[i].2.2.2 = xs[j].2.2.2 := by simpa using hq
      rw [S_spec_l18Top_1]; unfold B_spec_l18Top_1; simp [hi, hj, hj2, g0, hrd, hrd2, s1, f0, f3, d3, hw, e6]
theorem r_spec_l18Top (M : Mem) (a : Option Addr) (c : Nat) (xs : List ty_Rec.D) (h : Rep (.sl ty_Rec) M [.slice a xs.length c] xs) (hn : xs.length ≤ 1048576) (hf : ∀ x ∈ xs, x.2.2.2.length ≤ 9223372036854775807) (i : Nat) (hi : i < xs.length) (hq : ∀ j, j < i + 1 → okT xs j = true) :
    lp (aCall T0) K_spec_l18Top_0 L_spec_l18Top_0 [.slice a xs.length c, und, und, .int .i64 i, und, und, und, und, und, und, und, und, und, und, und, und, und, und, und, und, und, und, und, und, und, und, und, und, und, und, und, und, und, und, und, und, und, und, und, und, und, und, und, und, und, und, und, und, und, und, und, und, und, und, und, und, und, und, und, und, und, und, und, und, und, und, und, und, und, und, und, und, und, und, und, und, und, und, und, und, und, und] M = lp (aCall T0) K_spec_l18Top_0 L_spec_l18Top_0 [.slice a xs.length c, und, und, .int .i64 (i + 1 : Nat), und, und, und, und, und, und, und, und, und, und, und, und, und, und, und, und, und, und, und, und, und, und, und, und, und, und, und, und, und, und, und, und, und, und, und, und, und, und, und, und, und, und, und, und, und, und, und, und, und, und, und, und, und, und, und, und, und, und, und, und, und, und, und, und, und, und, und, und, und, und, und, und, und, und, und, und, und, und] M := by
  obtain ⟨k1, k2, k3, k4⟩ := okT_parts hi (hq i (by omega))
  have hc := chain (g := fun j : Nat => lp (aCall T0) K_spec_l18Top_1 L_spec_l18Top_1 [.slice a xs.length c, und, und, .int .i64 i, .int .i64 j, und, und, und, und, und, und, und, und, und, und, und, und, und, und, und, und, und, und, und, und, und, und, und, und, und, und, und, und, und, und, und, und, und, und, und, und, und, und, und, und, und, und, und, und, und, und, und, und, und, und, und, und, und, und, und, und, und, und, und, und, und, und, und, und, und, und, und, und, und, und, und, und, und, und, und, und, und] M) (n := i) fun j hj => r2_spec_l18Top M a c xs h hn hf i j hi hj (by omega) k1 (okT_parts (by omega) (hq j (by omega))).1 (by
    rw [inB_get xs i j hi (by omega), ahead_all hq (by omega) (i - 1 - j) i j (by omega) (by omega)]
    cases hl : xs[i].1 with
    | false => rfl
    | true =>
      have := k4 hl j (by omega) hj
      simp [Ne.symm this])
  simp only [Int.natCast_zero, Int.ofNat_zero] at hc
  obtain ⟨l, o, rfl, _, hrd, f0, f1, f2, f3⟩ := at_Rec h hi
  have e6 : IntKind.i64.wrap ((i : Int) + 1) = i + 1 := wrap_i64 (by omega) (by omega)
  have s1 := c_spec_RecOk M xs[i] (hf _ (List.getElem_mem hi))
  rw [k1] at s1
  have k2' : ¬ 3 < (xs[i].2.1 : Int) := Int.not_lt.2 k2
  by_cases h0 : i = 0
  · have g0 : ¬ 0 < (i : Int) := by omega
    have g1 : ¬ 0 < i := by omega
    rw [S_spec_l18Top_0]; unfold B_spec_l18Top_0; simp [hi, hrd, s1, f1, k2', g0, g1, hc]
    rw [S_spec_l18Top_1]; unfold B_spec_l18Top_1; simp [e6]
  · obtain ⟨l3, o3, e3, _, _, p0, _⟩ := at_Rec h (show i - 1 < xs.length by omega)
    simp at e3
    obtain ⟨rfl, rfl⟩ := e3
    have g0 : 0 < (i : Int) := by omega
    have g2 : 0 < i := by omega
    have g1 : IntKind.i64.wrap ((i : Int) - 1) = ((i - 1 : Nat) : Int) := by rw [wrap_i64 (by omega) (by omega)]; omega
    have hi1 : i - 1 < xs.length := by omega
    have ha := k3 g2
    cases hl : xs[i].1 with
    | false =>
      rw [hl] at f0
      rw [S_spec_l18Top_0]; unfold B_spec_l18Top_0; simp [hi, hrd, s1, f0, f1, k2', g0, g2, hc]
      rw [S_spec_l18Top_1]; unfold B_spec_l18Top_1; simp [e6]
    | true =>
      have hp : (xs[i - 1]'hi1).1 = true := by
        cases hp : (xs[i - 1]'hi1).1 with
        | true => rfl
        | false =>
          unfold aheadB at ha
          rw [hl, hp] at ha
          simp at ha
      rw [hl] at f0
      rw [hp] at p0
      rw [S_spec_l18Top_0]; unfold B_spec_l18Top_0; simp [hi, hrd, s1, f0, f1, k2', g0, g2, g1, hi1, p0, hc]
      rw [S_spec_l18Top_1]; unfold B_spec_l18Top_1; simp [e6]
set_option maxHeartbeats 4000000 in
theorem x_spec_l18Top (M : Mem) (a : Option Addr) (c : Nat) (xs : List ty_Rec.D) (h : Rep (.sl ty_Rec) M [.slice a xs.length c] xs) (hn : xs.length ≤ 1048576) (hf : ∀ x ∈ xs, x.2.2.2.length ≤ 9223372036854775807) (i : Nat) (hi : i < xs.length) (hg : ∀ j, j < i → okT xs j = true) (hq : okT xs i = false) (K : ACode) :
    thenF M [.tmp 2] (thenS (blockR 0 (lp (aCall T0) K_spec_l18Top_0 L_spec_l18Top_0 [.slice a xs.length c, und, und, .int .i64 i, und, und, und, und, und, und, und, und, und, und, und, und, und, und, und, und, und, und, und, und, und, und, und, und, und, und, und, und, und, und, und, und, und, und, und, und, und, und, und, und, und, und, und, und, und, und, und, und, und, und, und, und, und, und, und, und, und, und, und, und, und, und, und, und, und, und, und, und, und, und, und, und, und, und, und, und, und, und] M)) (aCall T0) K) = some (.bool false, M) := by
  have h00 := h
  obtain ⟨l, o, e0, _, hrd, f0, f1, f2, f3⟩ := at_Rec h hi
  subst e0
  rw [okT_get xs i hi] at hq
  have s1 := c_spec_RecOk M xs[i] (hf _ (List.getElem_mem hi))
  cases k1 : recB xs[i] with
  | false =>
    rw [k1] at s1
    rw [S_spec_l18Top_0]; unfold B_spec_l18Top_0; simp [hi, hrd, s1]
  | true =>
  rw [k1] at s1
  by_cases k2 : (xs[i].2.1 : Int) ≤ 3
  rotate_left
  · have k2' : 3 < (xs[i].2.1 : Int) := Int.not_le.1 k2
    rw [S_spec_l18Top_0]; unfold B_spec_l18Top_0; simp [hi, hrd, s1, f1, k2']
  have k2' : ¬ 3 < (xs[i].2.1 : Int) := Int.not_lt.2 k2
  rw [k1, decide_eq_true k2] at hq
  by_cases h0 : i = 0
  · subst h0
    simp at hq
  obtain ⟨l3, o3, e3, _, _, p0, _⟩ := at_Rec h (show i - 1 < xs.length by omega)
  simp at e3
  obtain ⟨rfl, rfl⟩ := e3
  have g0 : 0 < (i : Int) := by omega
  have g2 : 0 < i := by omega
  have g1 : IntKind.i64.wrap ((i : Int) - 1) = ((i - 1 : Nat) : Int) := by rw [wrap_i64 (by omega) (by omega)]; omega
  have hi1 : i - 1 < xs.length := by omega
  rw [decide_eq_false h0] at hq
  by_cases hlp : xs[i].1 = true ∧ (xs[i - 1]'hi1).1 = false
  · obtain ⟨hl, hp⟩ := hlp
    rw [hl] at f0
    rw [hp] at p0
    rw [S_spec_l18Top_0]; unfold B_spec_l18Top_0; simp [hi, hrd, s1, f0, f1, k2', g0, g2, g1, hi1, p0]
  -- the inner loop finds it
  have hbad : ¬ ∀ j, j < i → inB xs i j = true := by
    intro hall
    have ha := hall (i - 1) (by omega)
    rw [inB_get xs i (i - 1) hi hi1, Bool.and_eq_true, Bool.not_eq_true'] at ha
    rw [ha.1] at hq
    simp only [Bool.not_false, Bool.or_true, Bool.and_true, Bool.true_and, Bool.not_eq_false', Bool.and_eq_true] at hq
    obtain ⟨hl, hany⟩ := hq
    obtain ⟨x, hx, he⟩ := List.any_eq_true.1 hany
    obtain ⟨j, hj, rfl⟩ := List.mem_take_iff_getElem.1 hx
    have hb := hall j (by omega)
    rw [inB_get xs i j hi (by omega), hl] at hb
    simp only [decide_eq_true_eq] at he
    simp [he] at hb
  rcases first_bad (inB xs i) i with hall | ⟨j, hj, q1, q2⟩
  · exact absurd hall hbad
  have hc := chain (g := fun j : Nat => lp (aCall T0) K_spec_l18Top_1 L_spec_l18Top_1 [.slice (some ⟨l, o, none⟩) xs.length c, und, und, .int .i64 i, .int .i64 j, und, und, und, und, und, und, und, und, und, und, und, und, und, und, und, und, und, und, und, und, und, und, und, und, und, und, und, und, und, und, und, und, und, und, und, und, und, und, und, und, und, und, und, und, und, und, und, und, und, und, und, und, und, und, und, und, und, und, und, und, und, und, und, und, und, und, und, und, und, und, und, und, und, und, und, und, und] M) (n := j) fun q hq => r2_spec_l18Top M _ c xs h00 hn hf i q hi (by omega) (by omega) k1 (okT_parts (by omega) (hg q (by omega))).1 (q1 q hq)
  simp only [Int.natCast_zero, Int.ofNat_zero] at hc
  have hj2 : j < xs.length := by omega
  obtain ⟨l4, o4, e4, _, hrd2, _, _, _, d3⟩ := at_Rec h hj2
  simp at e4
  obtain ⟨rfl, rfl⟩ := e4
  have s2 := c_spec_RecAhead M xs[i] xs[j] (hf _ (List.getElem_mem _)) (hf _ (List.getElem_mem _)) k1 (okT_parts (by omega) (hg j hj)).1
  rw [inB_get xs i j hi hj2] at q2
  have gj : (j : Int) < i := by omega
  have fin : ∀ (F : V → V × Mem), True := fun _ => trivial
  cases hl : xs[i].1 with
  | false =>
    rw [hl] at f0 q2
    have ka : aheadB xs[i] xs[j] = true := by simpa using q2
    rw [ka] at s2
    rw [S_spec_l18Top_0]; unfold B_spec_l18Top_0; simp [hi, hrd, s1, f0, f1, k2', g0, g2, hc]
    rw [S_spec_l18Top_1]; unfold B_spec_l18Top_1; simp [hi, hj, hj2, gj, hrd, hrd2, s2]
  | true =>
    have hp : (xs[i - 1]'hi1).1 = true := by
      cases hp : (xs[i - 1]'hi1).1 with
      | true => rfl
      | false => exact absurd ⟨hl, hp⟩ hlp
    rw [hl] at f0 q2
    rw [hp] at p0
    cases ka : aheadB xs[i] xs[j] with
    | true =>
      rw [ka] at s2
      rw [S_spec_l18Top_0]; unfold B_spec_l18Top_0; simp [hi, hrd, s1, f0, f1, k2', g0, g2, g1, hi1, p0, hc]
      rw [S_spec_l18Top_1]; unfold B_spec_l18Top_1; simp [hi, hj, hj2, gj, hrd, hrd2, s2]
    | false =>
      rw [ka] at s2 q2
      have hw : xs[i].2.2.2 = xs[j].2.2.2 := by simpa using q2
      rw [← hw] at d3
      rw [S_spec_l18Top_0]; unfold B_spec_l18Top_0; simp [hi, hrd, s1, f0, f1, k2', g0, g2, g1, hi1, p0, hc]
      rw [S_spec_l18Top_1]; unfold B_spec_l18Top_1; simp [hi, hj, hj2, gj, hrd, hrd2, s2, f0, f3, d3]
theorem c_spec_l18Top (M : Mem) (v : V) (xs : List ty_Rec.D) (h : Rep (.sl ty_Rec) M [v] xs) (hn : xs.length ≤ 1048576) (hf : ∀ x ∈ xs, x.2.2.2.length ≤ 9223372036854775807) : aCall T0 F_spec_l18Top [v] M = some (.bool (topB xs), M) := by
  obtain ⟨a, c, rfl⟩ := h.slen
  unfold topB
  by_cases h8 : xs.length = 8
  rotate_left
  · have h8' : ¬ (xs.length : Int) = 8 := by omega
    rw [decide_eq_false h8]
    rw [aCall_eq T_spec_l18Top]; unfold A_spec_l18Top C_spec_l18Top; simp [h8', h8]
  rw [decide_eq_true h8]
  have h8' : (xs.length : Int) = 8 := by omega
  rcases first_bad (okT xs) xs.length with hg | ⟨j, hj, h1, h2⟩
  · have hc := chain (g := fun i : Nat => lp (aCall T0) K_spec_l18Top_0 L_spec_l18Top_0 [.slice a xs.length c, und, und, .int .i64 i, und, und, und, und, und, und, und, und, und, und, und, und, und, und, und, und, und, und, und, und, und, und, und, und, und, und, und, und, und, und, und, und, und, und, und, und, und, und, und, und, und, und, und, und, und, und, und, und, und, und, und, und, und, und, und, und, und, und, und, und, und, und, und, und, und, und, und, und, und, und, und, und, und, und, und, und, und, und] M) (n := xs.length) fun i hi => r_spec_l18Top M a c xs h hn hf i hi (fun j hj => hg j (by omega))
    simp only [Int.natCast_zero, Int.ofNat_zero] at hc
    rw [range_all hg]
    rw [h8] at hc ⊢
    rw [aCall_eq T_spec_l18Top]; unfold A_spec_l18Top C_spec_l18Top; simp [hc]
    rw [S_spec_l18Top_0]; unfold B_spec_l18Top_0; simp
  · have hc := chain (g := fun i : Nat => lp (aCall T0) K_spec_l18Top_0 L_spec_l18Top_0 [.slice a xs.length c, und, und, .int .i64 i, und, und, und, und, und, und, und, und, und, und, und, und, und, und, und, und, und, und, und, und, und, und, und, und, und, und, und, und, und, und, und, und, und, und, und, und, und, und, und, und, und, und, und, und, und, und, und, und, und, und, und, und, und, und, und, und, und, und, und, und, und, und, und, und, und, und, und, und, und, und, und, und, und, und, und, und, und, und] M) (n := j) fun i hi => r_spec_l18Top M a c xs h hn hf i (by omega) (fun q hq => h1 q (by omega))
    simp only [Int.natCast_zero, Int.ofNat_zero] at hc
    rw [range_not hj h2]
    have x := x_spec_l18Top M a c xs h hn hf j hj h1 h2
    rw [h8] at hc x ⊢
    rw [aCall_eq T_spec_l18Top]; unfold A_spec_l18Top C_spec_l18Top; simp [hc, x]
theorem r_spec_l18Marks (M : Mem) (a : Option Addr) (c : Nat) (xs : List Int) (h : Rep (.sl ty_Int) M [.slice a xs.length c] xs) (hn : xs.length ≤ 1048576) (i : Nat) (hi : i < xs.length) (hq : markOk xs[i] = true) :
    lp (aCall T0) K_spec_l18Marks_0 L_spec_l18Marks_0 [.slice a xs.length c, und, und, und, und, .int .i64 i, und, und, und, und, und, und, und, und, und, und, und, und, und, und, und, und, und, und, und, und, und, und] M = lp (aCall T0) K_spec_l18Marks_0 L_spec_l18Marks_0 [.slice a xs.length c, und, und, und, und, .int .i64 (i + 1 : Nat), und, und, und, und, und, und, und, und, und, und, und, und, und, und, und, und, und, und, und, und, und, und] M := by
  obtain ⟨l, o, rfl, _, hrd⟩ := at_Int h hi
  have e6 : IntKind.i64.wrap ((i : Int) + 1) = i + 1 := wrap_i64 (by omega) (by omega)
  simp only [markOk, Bool.and_eq_true, decide_eq_true_eq] at hq
  have g1 : ¬ (xs[i] : Int) < 0 := by omega
  have g2 : ¬ 3 < (xs[i] : Int) := by omega
  rw [S_spec_l18Marks_0]; unfold B_spec_l18Marks_0; simp [hi, hrd, g1, g2, e6]
theorem x_spec_l18Marks (M : Mem) (a : Option Addr) (c : Nat) (xs : List Int) (h : Rep (.sl ty_Int) M [.slice a xs.length c] xs) (i : Nat) (hi : i < xs.length) (hq : markOk xs[i] = false) (K : ACode) :
    thenF M [.tmp 4] (thenS (blockR 0 (lp (aCall T0) K_spec_l18Marks_0 L_spec_l18Marks_0 [.slice a xs.length c, und, und, und, und, .int .i64 i, und, und, und, und, und, und, und, und, und, und, und, und, und, und, und, und, und, und, und, und, und, und] M)) (aCall T0) K) = some (.bool false, M) := by
  obtain ⟨l, o, rfl, _, hrd⟩ := at_Int h hi
  rcases (show (xs[i] : Int) < 0 ∨ (¬ (xs[i] : Int) < 0 ∧ 3 < (xs[i] : Int)) by simp only [markOk, Bool.and_eq_false_iff, decide_eq_false_iff_not] at hq; omega) with g1 | ⟨g1, g2⟩
  · rw [S_spec_l18Marks_0]; unfold B_spec_l18Marks_0; simp [hi, hrd, g1]
  · rw [S_spec_l18Marks_0]; unfold B_spec_l18Marks_0; simp [hi, hrd, g1, g2]
theorem c_spec_l18Marks (M : Mem) (v : V) (xs : List Int) (s : Int) (h : Rep (.sl ty_Int) M [v] xs) (hn : xs.length ≤ 1048576) : aCall T0 F_spec_l18Marks [v, .int .i64 s] M = some (.bool (marksB xs s), M) := by
  obtain ⟨a, c, rfl⟩ := h.slen
  unfold marksB
  by_cases hs : (xs.length : Int) = s
  rotate_left
  · rw [decide_eq_false hs]
    rw [aCall_eq T_spec_l18Marks]; unfold A_spec_l18Marks C_spec_l18Marks; simp [hs]
  rw [decide_eq_true hs]
  rcases first_bad (fun i => (xs[i]?).all markOk) xs.length with hg | ⟨j, hj, h1, h2⟩
  · have hc := chain (g := fun i : Nat => lp (aCall T0) K_spec_l18Marks_0 L_spec_l18Marks_0 [.slice a xs.length c, und, und, und, und, .int .i64 i, und, und, und, und, und, und, und, und, und, und, und, und, und, und, und, und, und, und, und, und, und, und] M) (n := xs.length) fun i hi => r_spec_l18Marks M a c xs h hn i hi (by have := hg i hi; simpa [hi] using this)
    simp only [Int.natCast_zero, Int.ofNat_zero] at hc
    have : xs.all markOk = true := by
      rw [List.all_eq_true]
      intro x hx
      obtain ⟨i, hi, rfl⟩ := List.getElem_of_mem hx
      have := hg i hi
      simpa [hi] using this
    rw [this]
    rw [aCall_eq T_spec_l18Marks]; unfold A_spec_l18Marks C_spec_l18Marks; simp [hs]
    rw [hs] at hc
    rw [hc]
    rw [S_spec_l18Marks_0]; unfold B_spec_l18Marks_0; simp [hs]
  · have hc := chain (g := fun i : Nat => lp (aCall T0) K_spec_l18Marks_0 L_spec_l18Marks_0 [.slice a xs.length c, und, und, und, und, .int .i64 i, und, und, und, und, und, und, und, und, und, und, und, und, und, und, und, und, und, und, und, und, und, und] M) (n := j) fun i hi => r_spec_l18Marks M a c xs h hn i (by omega) (by have := h1 i hi; simpa [show i < xs.length by omega] using this)
    simp only [Int.natCast_zero, Int.ofNat_zero] at hc
    have hb : markOk xs[j] = false := by simpa [hj] using h2
    have : xs.all markOk = false := by
      rw [List.all_eq_false]
      exact ⟨xs[j], List.getElem_mem hj, by simp [hb]⟩
    rw [this]
    rw [aCall_eq T_spec_l18Marks]; unfold A_spec_l18Marks C_spec_l18Marks; simp [hs]
    rw [hc]
    exact x_spec_l18Marks M a c xs h j hj hb _
set_option maxHeartbeats 8000000 in
set_option maxRecDepth 20000 in
theorem sr_p1 (M : Mem) (kind slots k : Int) (f : Bool) (w : Int) (a b : Option Addr) (c d n1 n2 : Nat) (T A : Bool)
    (s1 : ∀ M, aCall T0 F_spec_l18Shape [.int .i64 kind, .int .i64 slots] M = some (.bool true, M))
    (s2 : aCall T0 F_spec_l18Top [.slice a n1 c] (M ++ [⟨cY k f w (.slice a n1 c) (.slice b n2 d), 1, 2⟩]) = some (.bool T, M ++ [⟨cY k f w (.slice a n1 c) (.slice b n2 d), 1, 2⟩]))
    (s3 : aCall T0 F_spec_l18Marks [.slice b n2 d, .int .i64 slots] (M ++ [⟨cY k f w (.slice a n1 c) (.slice b n2 d), 1, 2⟩]) = some (.bool A, M ++ [⟨cY k f w (.slice a n1 c) (.slice b n2 d), 1, 2⟩]))
    (hk1 : ¬ k < 0) (hk2 : ¬ 8 < k) (k0 : k = 0) (q1 : kind = 1) :
    aCall T0 F_spec_ReplyOk [.int .i64 kind, .int .i64 slots, .agg (cY k f w (.slice a n1 c) (.slice b n2 d)).toArray] M = some (.bool ((if k = 0 ∧ kind = 1 then (decide (0 ≤ w) && decide (w ≤ 65535)) && (f || decide (w = 0)) else !f && decide (w = 0)) &&
   (if k = 0 ∧ kind = 2 then T else decide (n1 = 0)) && (if k = 0 ∧ kind = 6 then A else decide (n2 = 0))), M) := by
  subst k0 q1
  by_cases m1 : n1 = 0
  rotate_left
  · have m1' : 0 < n1 := by omega
    rw [aCall_eq T_spec_ReplyOk]; unfold A_spec_ReplyOk C_spec_ReplyOk; simp [s1, m1, m1']
  subst m1
  by_cases m2 : n2 = 0
  rotate_left
  · have m2' : 0 < n2 := by omega
    rw [aCall_eq T_spec_ReplyOk]; unfold A_spec_ReplyOk C_spec_ReplyOk; simp [s1, m2, m2']
  subst m2
  by_cases w1 : w < 0
  · have w1' : ¬ 0 ≤ w := by omega
    rw [aCall_eq T_spec_ReplyOk]; unfold A_spec_ReplyOk C_spec_ReplyOk; simp [s1, w1, w1']
  by_cases w2 : 65535 < w
  · have w2' : ¬ w ≤ 65535 := by omega
    rw [aCall_eq T_spec_ReplyOk]; unfold A_spec_ReplyOk C_spec_ReplyOk; simp [s1, w1, w2, w2']
  have w1' : 0 ≤ w := by omega
  have w2' : w ≤ 65535 := by omega
  cases f with
  | true => rw [aCall_eq T_spec_ReplyOk]; unfold A_spec_ReplyOk C_spec_ReplyOk; simp [s1, w1, w2, w1', w2']
  | false =>
    by_cases w0 : w = 0
    · subst w0
      rw [aCall_eq T_spec_ReplyOk]; unfold A_spec_ReplyOk C_spec_ReplyOk; simp [s1]
    · rw [aCall_eq T_spec_ReplyOk]; unfold A_spec_ReplyOk C_spec_ReplyOk; simp [s1, w1, w2, w1', w2', w0]
set_option maxHeartbeats 8000000 in
set_option maxRecDepth 20000 in
theorem sr_p2 (M : Mem) (kind slots k : Int) (f : Bool) (w : Int) (a b : Option Addr) (c d n1 n2 : Nat) (T A : Bool)
    (s1 : ∀ M, aCall T0 F_spec_l18Shape [.int .i64 kind, .int .i64 slots] M = some (.bool true, M))
    (s2 : aCall T0 F_spec_l18Top [.slice a n1 c] (M ++ [⟨cY k f w (.slice a n1 c) (.slice b n2 d), 1, 2⟩]) = some (.bool T, M ++ [⟨cY k f w (.slice a n1 c) (.slice b n2 d), 1, 2⟩]))
    (s3 : aCall T0 F_spec_l18Marks [.slice b n2 d, .int .i64 slots] (M ++ [⟨cY k f w (.slice a n1 c) (.slice b n2 d), 1, 2⟩]) = some (.bool A, M ++ [⟨cY k f w (.slice a n1 c) (.slice b n2 d), 1, 2⟩]))
    (hk1 : ¬ k < 0) (hk2 : ¬ 8 < k) (k0 : k = 0) (q2 : kind = 2) :
    aCall T0 F_spec_ReplyOk [.int .i64 kind, .int .i64 slots, .agg (cY k f w (.slice a n1 c) (.slice b n2 d)).toArray] M = some (.bool ((if k = 0 ∧ kind = 1 then (decide (0 ≤ w) && decide (w ≤ 65535)) && (f || decide (w = 0)) else !f && decide (w = 0)) &&
   (if k = 0 ∧ kind = 2 then T else decide (n1 = 0)) && (if k = 0 ∧ kind = 6 then A else decide (n2 = 0))), M) := by
  subst k0 q2
  cases f with
  | true => rw [aCall_eq T_spec_ReplyOk]; unfold A_spec_ReplyOk C_spec_ReplyOk; simp [s1]
  | false =>
  by_cases w0 : w = 0
  rotate_left
  · rw [aCall_eq T_spec_ReplyOk]; unfold A_spec_ReplyOk C_spec_ReplyOk; simp [s1, w0]
  subst w0
  by_cases m2 : n2 = 0
  rotate_left
  · have m2' : 0 < n2 := by omega
    rw [aCall_eq T_spec_ReplyOk]; unfold A_spec_ReplyOk C_spec_ReplyOk; simp [s1, m2, m2']
  subst m2
  cases T with
  | true => rw [aCall_eq T_spec_ReplyOk]; unfold A_spec_ReplyOk C_spec_ReplyOk; simp [s1, s2]
  | false => rw [aCall_eq T_spec_ReplyOk]; unfold A_spec_ReplyOk C_spec_ReplyOk; simp [s1, s2]
set_option maxHeartbeats 8000000 in
set_option maxRecDepth 20000 in
theorem sr_p6 (M : Mem) (kind slots k : Int) (f : Bool) (w : Int) (a b : Option Addr) (c d n1 n2 : Nat) (T A : Bool)
    (s1 : ∀ M, aCall T0 F_spec_l18Shape [.int .i64 kind, .int .i64 slots] M = some (.bool true, M))
    (s2 : aCall T0 F_spec_l18Top [.slice a n1 c] (M ++ [⟨cY k f w (.slice a n1 c) (.slice b n2 d), 1, 2⟩]) = some (.bool T, M ++ [⟨cY k f w (.slice a n1 c) (.slice b n2 d), 1, 2⟩]))
    (s3 : aCall T0 F_spec_l18Marks [.slice b n2 d, .int .i64 slots] (M ++ [⟨cY k f w (.slice a n1 c) (.slice b n2 d), 1, 2⟩]) = some (.bool A, M ++ [⟨cY k f w (.slice a n1 c) (.slice b n2 d), 1, 2⟩]))
    (hk1 : ¬ k < 0) (hk2 : ¬ 8 < k) (k0 : k = 0) (q6 : kind = 6) :
    aCall T0 F_spec_ReplyOk [.int .i64 kind, .int .i64 slots, .agg (cY k f w (.slice a n1 c) (.slice b n2 d)).toArray] M = some (.bool ((if k = 0 ∧ kind = 1 then (decide (0 ≤ w) && decide (w ≤ 65535)) && (f || decide (w = 0)) else !f && decide (w = 0)) &&
   (if k = 0 ∧ kind = 2 then T else decide (n1 = 0)) && (if k = 0 ∧ kind = 6 then A else decide (n2 = 0))), M) := by
  subst k0 q6
  cases f with
  | true => rw [aCall_eq T_spec_ReplyOk]; unfold A_spec_ReplyOk C_spec_ReplyOk; simp [s1]
  | false =>
  by_cases w0 : w = 0
  rotate_left
  · rw [aCall_eq T_spec_ReplyOk]; unfold A_spec_ReplyOk C_spec_ReplyOk; simp [s1, w0]
  subst w0
  by_cases m1 : n1 = 0
  rotate_left
  · have m1' : 0 < n1 := by omega
    rw [aCall_eq T_spec_ReplyOk]; unfold A_spec_ReplyOk C_spec_ReplyOk; simp [s1, m1, m1']
  subst m1
  cases A with
  | true => rw [aCall_eq T_spec_ReplyOk]; unfold A_spec_ReplyOk C_spec_ReplyOk; simp [s1, s3]
  | false => rw [aCall_eq T_spec_ReplyOk]; unfold A_spec_ReplyOk C_spec_ReplyOk; simp [s1, s3]
set_option maxHeartbeats 8000000 in
set_option maxRecDepth 20000 in
theorem sr_p0 (M : Mem) (kind slots k : Int) (f : Bool) (w : Int) (a b : Option Addr) (c d n1 n2 : Nat) (T A : Bool)
    (s1 : ∀ M, aCall T0 F_spec_l18Shape [.int .i64 kind, .int .i64 slots] M = some (.bool true, M))
    (s2 : aCall T0 F_spec_l18Top [.slice a n1 c] (M ++ [⟨cY k f w (.slice a n1 c) (.slice b n2 d), 1, 2⟩]) = some (.bool T, M ++ [⟨cY k f w (.slice a n1 c) (.slice b n2 d), 1, 2⟩]))
    (s3 : aCall T0 F_spec_l18Marks [.slice b n2 d, .int .i64 slots] (M ++ [⟨cY k f w (.slice a n1 c) (.slice b n2 d), 1, 2⟩]) = some (.bool A, M ++ [⟨cY k f w (.slice a n1 c) (.slice b n2 d), 1, 2⟩]))
    (hk1 : ¬ k < 0) (hk2 : ¬ 8 < k) (k0 : k = 0) (q1 : ¬ kind = 1) (q2 : ¬ kind = 2) (q6 : ¬ kind = 6) :
    aCall T0 F_spec_ReplyOk [.int .i64 kind, .int .i64 slots, .agg (cY k f w (.slice a n1 c) (.slice b n2 d)).toArray] M = some (.bool ((if k = 0 ∧ kind = 1 then (decide (0 ≤ w) && decide (w ≤ 65535)) && (f || decide (w = 0)) else !f && decide (w = 0)) &&
   (if k = 0 ∧ kind = 2 then T else decide (n1 = 0)) && (if k = 0 ∧ kind = 6 then A else decide (n2 = 0))), M) := by
  subst k0
  cases f with
  | true => rw [aCall_eq T_spec_ReplyOk]; unfold A_spec_ReplyOk C_spec_ReplyOk; simp [s1, q1, q2, q6]
  | false =>
  by_cases w0 : w = 0
  rotate_left
  · rw [aCall_eq T_spec_ReplyOk]; unfold A_spec_ReplyOk C_spec_ReplyOk; simp [s1, w0, q1, q2, q6]
  subst w0
  by_cases m1 : n1 = 0
  rotate_left
  · have m1' : 0 < n1 := by omega
    rw [aCall_eq T_spec_ReplyOk]; unfold A_spec_ReplyOk C_spec_ReplyOk; simp [s1, m1, m1', q1, q2, q6]
  subst m1
  by_cases m2 : n2 = 0
  rotate_left
  · have m2' : 0 < n2 := by omega
    rw [aCall_eq T_spec_ReplyOk]; unfold A_spec_ReplyOk C_spec_ReplyOk; simp [s1, m2, m2', q1, q2, q6]
  subst m2
  rw [aCall_eq T_spec_ReplyOk]; unfold A_spec_ReplyOk C_spec_ReplyOk; simp [s1, q1, q2, q6]
set_option maxHeartbeats 8000000 in
set_option maxRecDepth 20000 in
theorem sr_n1 (M : Mem) (kind slots k : Int) (f : Bool) (w : Int) (a b : Option Addr) (c d n1 n2 : Nat) (T A : Bool)
    (s1 : ∀ M, aCall T0 F_spec_l18Shape [.int .i64 kind, .int .i64 slots] M = some (.bool true, M))
    (s2 : aCall T0 F_spec_l18Top [.slice a n1 c] (M ++ [⟨cY k f w (.slice a n1 c) (.slice b n2 d), 1, 2⟩]) = some (.bool T, M ++ [⟨cY k f w (.slice a n1 c) (.slice b n2 d), 1, 2⟩]))
    (s3 : aCall T0 F_spec_l18Marks [.slice b n2 d, .int .i64 slots] (M ++ [⟨cY k f w (.slice a n1 c) (.slice b n2 d), 1, 2⟩]) = some (.bool A, M ++ [⟨cY k f w (.slice a n1 c) (.slice b n2 d), 1, 2⟩]))
    (hk1 : ¬ k < 0) (hk2 : ¬ 8 < k) (k0 : ¬ k = 0) (q : kind = 1) :
    aCall T0 F_spec_ReplyOk [.int .i64 kind, .int .i64 slots, .agg (cY k f w (.slice a n1 c) (.slice b n2 d)).toArray] M = some (.bool ((if k = 0 ∧ kind = 1 then (decide (0 ≤ w) && decide (w ≤ 65535)) && (f || decide (w = 0)) else !f && decide (w = 0)) &&
   (if k = 0 ∧ kind = 2 then T else decide (n1 = 0)) && (if k = 0 ∧ kind = 6 then A else decide (n2 = 0))), M) := by
  subst q
  cases f with
  | true => rw [aCall_eq T_spec_ReplyOk]; unfold A_spec_ReplyOk C_spec_ReplyOk; simp [s1, hk1, hk2, k0]
  | false =>
  by_cases w0 : w = 0
  rotate_left
  · rw [aCall_eq T_spec_ReplyOk]; unfold A_spec_ReplyOk C_spec_ReplyOk; simp [s1, w0, hk1, hk2, k0]
  subst w0
  by_cases m1 : n1 = 0
  rotate_left
  · have m1' : 0 < n1 := by omega
    rw [aCall_eq T_spec_ReplyOk]; unfold A_spec_ReplyOk C_spec_ReplyOk; simp [s1, m1, m1', hk1, hk2, k0]
  subst m1
  by_cases m2 : n2 = 0
  rotate_left
  · have m2' : 0 < n2 := by omega
    rw [aCall_eq T_spec_ReplyOk]; unfold A_spec_ReplyOk C_spec_ReplyOk; simp [s1, m2, m2', hk1, hk2, k0]
  subst m2
  rw [aCall_eq T_spec_ReplyOk]; unfold A_spec_ReplyOk C_spec_ReplyOk; simp [s1, hk1, hk2, k0]
set_option maxHeartbeats 8000000 in
set_option maxRecDepth 20000 in
theorem sr_n2 (M : Mem) (kind slots k : Int) (f : Bool) (w : Int) (a b : Option Addr) (c d n1 n2 : Nat) (T A : Bool)
    (s1 : ∀ M, aCall T0 F_spec_l18Shape [.int .i64 kind, .int .i64 slots] M = some (.bool true, M))
    (s2 : aCall T0 F_spec_l18Top [.slice a n1 c] (M ++ [⟨cY k f w (.slice a n1 c) (.slice b n2 d), 1, 2⟩]) = some (.bool T, M ++ [⟨cY k f w (.slice a n1 c) (.slice b n2 d), 1, 2⟩]))
    (s3 : aCall T0 F_spec_l18Marks [.slice b n2 d, .int .i64 slots] (M ++ [⟨cY k f w (.slice a n1 c) (.slice b n2 d), 1, 2⟩]) = some (.bool A, M ++ [⟨cY k f w (.slice a n1 c) (.slice b n2 d), 1, 2⟩]))
    (hk1 : ¬ k < 0) (hk2 : ¬ 8 < k) (k0 : ¬ k = 0) (q : kind = 2) :
    aCall T0 F_spec_ReplyOk [.int .i64 kind, .int .i64 slots, .agg (cY k f w (.slice a n1 c) (.slice b n2 d)).toArray] M = some (.bool ((if k = 0 ∧ kind = 1 then (decide (0 ≤ w) && decide (w ≤ 65535)) && (f || decide (w = 0)) else !f && decide (w = 0)) &&
   (if k = 0 ∧ kind = 2 then T else decide (n1 = 0)) && (if k = 0 ∧ kind = 6 then A else decide (n2 = 0))), M) := by
  subst q
  cases f with
  | true => rw [aCall_eq T_spec_ReplyOk]; unfold A_spec_ReplyOk C_spec_ReplyOk; simp [s1, hk1, hk2, k0]
  | false =>
  by_cases w0 : w = 0
  rotate_left
  · rw [aCall_eq T_spec_ReplyOk]; unfold A_spec_ReplyOk C_spec_ReplyOk; simp [s1, w0, hk1, hk2, k0]
  subst w0
  by_cases m1 : n1 = 0
  rotate_left
  · have m1' : 0 < n1 := by omega
    rw [aCall_eq T_spec_ReplyOk]; unfold A_spec_ReplyOk C_spec_ReplyOk; simp [s1, m1, m1', hk1, hk2, k0]
  subst m1
  by_cases m2 : n2 = 0
  rotate_left
  · have m2' : 0 < n2 := by omega
    rw [aCall_eq T_spec_ReplyOk]; unfold A_spec_ReplyOk C_spec_ReplyOk; simp [s1, m2, m2', hk1, hk2, k0]
  subst m2
  rw [aCall_eq T_spec_ReplyOk]; unfold A_spec_ReplyOk C_spec_ReplyOk; simp [s1, hk1, hk2, k0]
set_option maxHeartbeats 8000000 in
set_option maxRecDepth 20000 in
theorem sr_n6 (M : Mem) (kind slots k : Int) (f : Bool) (w : Int) (a b : Option Addr) (c d n1 n2 : Nat) (T A : Bool)
    (s1 : ∀ M, aCall T0 F_spec_l18Shape [.int .i64 kind, .int .i64 slots] M = some (.bool true, M))
    (s2 : aCall T0 F_spec_l18Top [.slice a n1 c] (M ++ [⟨cY k f w (.slice a n1 c) (.slice b n2 d), 1, 2⟩]) = some (.bool T, M ++ [⟨cY k f w (.slice a n1 c) (.slice b n2 d), 1, 2⟩]))
    (s3 : aCall T0 F_spec_l18Marks [.slice b n2 d, .int .i64 slots] (M ++ [⟨cY k f w (.slice a n1 c) (.slice b n2 d), 1, 2⟩]) = some (.bool A, M ++ [⟨cY k f w (.slice a n1 c) (.slice b n2 d), 1, 2⟩]))
    (hk1 : ¬ k < 0) (hk2 : ¬ 8 < k) (k0 : ¬ k = 0) (q : kind = 6) :
    aCall T0 F_spec_ReplyOk [.int .i64 kind, .int .i64 slots, .agg (cY k f w (.slice a n1 c) (.slice b n2 d)).toArray] M = some (.bool ((if k = 0 ∧ kind = 1 then (decide (0 ≤ w) && decide (w ≤ 65535)) && (f || decide (w = 0)) else !f && decide (w = 0)) &&
   (if k = 0 ∧ kind = 2 then T else decide (n1 = 0)) && (if k = 0 ∧ kind = 6 then A else decide (n2 = 0))), M) := by
  subst q
  cases f with
  | true => rw [aCall_eq T_spec_ReplyOk]; unfold A_spec_ReplyOk C_spec_ReplyOk; simp [s1, hk1, hk2, k0]
  | false =>
  by_cases w0 : w = 0
  rotate_left
  · rw [aCall_eq T_spec_ReplyOk]; unfold A_spec_ReplyOk C_spec_ReplyOk; simp [s1, w0, hk1, hk2, k0]
  subst w0
  by_cases m1 : n1 = 0
  rotate_left
  · have m1' : 0 < n1 := by omega
    rw [aCall_eq T_spec_ReplyOk]; unfold A_spec_ReplyOk C_spec_ReplyOk; simp [s1, m1, m1', hk1, hk2, k0]
  subst m1
  by_cases m2 : n2 = 0
  rotate_left
  · have m2' : 0 < n2 := by omega
    rw [aCall_eq T_spec_ReplyOk]; unfold A_spec_ReplyOk C_spec_ReplyOk; simp [s1, m2, m2', hk1, hk2, k0]
  subst m2
  rw [aCall_eq T_spec_ReplyOk]; unfold A_spec_ReplyOk C_spec_ReplyOk; simp [s1, hk1, hk2, k0]
set_option maxHeartbeats 8000000 in
set_option maxRecDepth 20000 in
theorem sr_n0 (M : Mem) (kind slots k : Int) (f : Bool) (w : Int) (a b : Option Addr) (c d n1 n2 : Nat) (T A : Bool)
    (s1 : ∀ M, aCall T0 F_spec_l18Shape [.int .i64 kind, .int .i64 slots] M = some (.bool true, M))
    (s2 : aCall T0 F_spec_l18Top [.slice a n1 c] (M ++ [⟨cY k f w (.slice a n1 c) (.slice b n2 d), 1, 2⟩]) = some (.bool T, M ++ [⟨cY k f w (.slice a n1 c) (.slice b n2 d), 1, 2⟩]))
    (s3 : aCall T0 F_spec_l18Marks [.slice b n2 d, .int .i64 slots] (M ++ [⟨cY k f w (.slice a n1 c) (.slice b n2 d), 1, 2⟩]) = some (.bool A, M ++ [⟨cY k f w (.slice a n1 c) (.slice b n2 d), 1, 2⟩]))
    (hk1 : ¬ k < 0) (hk2 : ¬ 8 < k) (k0 : ¬ k = 0) (q1 : ¬ kind = 1) (q2 : ¬ kind = 2) (q6 : ¬ kind = 6) :
    aCall T0 F_spec_ReplyOk [.int .i64 kind, .int .i64 slots, .agg (cY k f w (.slice a n1 c) (.slice b n2 d)).toArray] M = some (.bool ((if k = 0 ∧ kind = 1 then (decide (0 ≤ w) && decide (w ≤ 65535)) && (f || decide (w = 0)) else !f && decide (w = 0)) &&
   (if k = 0 ∧ kind = 2 then T else decide (n1 = 0)) && (if k = 0 ∧ kind = 6 then A else decide (n2 = 0))), M) := by
  cases f with
  | true => rw [aCall_eq T_spec_ReplyOk]; unfold A_spec_ReplyOk C_spec_ReplyOk; simp [s1, hk1, hk2, k0, q1, q2, q6]
  | false =>
  by_cases w0 : w = 0
  rotate_left
  · rw [aCall_eq T_spec_ReplyOk]; unfold A_spec_ReplyOk C_spec_ReplyOk; simp [s1, w0, hk1, hk2, k0, q1, q2, q6]
  subst w0
  by_cases m1 : n1 = 0
  rotate_left
  · have m1' : 0 < n1 := by omega
    rw [aCall_eq T_spec_ReplyOk]; unfold A_spec_ReplyOk C_spec_ReplyOk; simp [s1, m1, m1', hk1, hk2, k0, q1, q2, q6]
  subst m1
  by_cases m2 : n2 = 0
  rotate_left
  · have m2' : 0 < n2 := by omega
    rw [aCall_eq T_spec_ReplyOk]; unfold A_spec_ReplyOk C_spec_ReplyOk; simp [s1, m2, m2', hk1, hk2, k0, q1, q2, q6]
  subst m2
  rw [aCall_eq T_spec_ReplyOk]; unfold A_spec_ReplyOk C_spec_ReplyOk; simp [s1, hk1, hk2, k0, q1, q2, q6]
theorem c_spec_ReplyOk (M : Mem) (kind slots k : Int) (f : Bool) (w : Int) (v u : V) (top : List ty_Rec.D) (marks : List Int) (h : Rep (.sl ty_Rec) M [v] top) (h2 : Rep (.sl ty_Int) M [u] marks) (hn : top.length ≤ 1048576) (hn2 : marks.length ≤ 1048576) (hf : ∀ x ∈ top, x.2.2.2.length ≤ 9223372036854775807) :
    aCall T0 F_spec_ReplyOk [.int .i64 kind, .int .i64 slots, .agg (cY k f w v u).toArray] M = some (.bool (replyB kind slots k f w top marks), M) := by
  have s1 := fun M => c_spec_l18Shape M kind slots
  have s2 := c_spec_l18Top (M ++ [⟨cY k f w v u, 1, 2⟩]) v top (h.mono (List.prefix_append _ _)) hn hf
  have s3 := c_spec_l18Marks (M ++ [⟨cY k f w v u, 1, 2⟩]) u marks slots (h2.mono (List.prefix_append _ _)) hn2
  unfold replyB
  generalize topB top = T at s2
  generalize marksB marks slots = A at s3
  obtain ⟨a, c, rfl⟩ := h.slen
  obtain ⟨b, d, rfl⟩ := h2.slen
  generalize top.length = n1 at s2 s3 ⊢
  generalize marks.length = n2 at s2 s3 ⊢
  clear h h2 hn hn2 hf
  cases hs : shapeB kind slots with
  | false =>
    simp only [hs] at s1
    rw [aCall_eq T_spec_ReplyOk]; unfold A_spec_ReplyOk C_spec_ReplyOk; simp [s1]
  | true =>
  simp only [hs] at s1
  by_cases hk1 : k < 0
  · have e : decide (0 ≤ k) = false := by simp; omega
    rw [e]
    rw [aCall_eq T_spec_ReplyOk]; unfold A_spec_ReplyOk C_spec_ReplyOk; simp [s1, hk1]
  by_cases hk2 : 8 < k
  · have e : decide (k ≤ 8) = false := by simp; omega
    rw [e]
    rw [aCall_eq T_spec_ReplyOk]; unfold A_spec_ReplyOk C_spec_ReplyOk; simp [s1, hk1, hk2]
  have e : (decide (0 ≤ k) && decide (k ≤ 8)) = true := by simp; omega
  rw [e, Bool.true_and, Bool.true_and]
  by_cases k0 : k = 0
  · by_cases q1 : kind = 1
    · exact sr_p1 M kind slots k f w a b c d n1 n2 T A s1 s2 s3 hk1 hk2 k0 q1
    · by_cases q2 : kind = 2
      · exact sr_p2 M kind slots k f w a b c d n1 n2 T A s1 s2 s3 hk1 hk2 k0 q2
      · by_cases q6 : kind = 6
        · exact sr_p6 M kind slots k f w a b c d n1 n2 T A s1 s2 s3 hk1 hk2 k0 q6
        · exact sr_p0 M kind slots k f w a b c d n1 n2 T A s1 s2 s3 hk1 hk2 k0 q1 q2 q6
  · by_cases q1 : kind = 1
    · exact sr_n1 M kind slots k f w a b c d n1 n2 T A s1 s2 s3 hk1 hk2 k0 q1
    · by_cases q2 : kind = 2
      · exact sr_n2 M kind slots k f w a b c d n1 n2 T A s1 s2 s3 hk1 hk2 k0 q2
      · by_cases q6 : kind = 6
        · exact sr_n6 M kind slots k f w a b c d n1 n2 T A s1 s2 s3 hk1 hk2 k0 q6
        · exact sr_n0 M kind slots k f w a b c d n1 n2 T A s1 s2 s3 hk1 hk2 k0 q1 q2 q6
theorem c_spec_l09Two (M : Mem) (n : Nat) (hn : n ≤ 65535) : aCall T0 F_spec_l09Two [.int .i64 n] M = some (.slice (some ⟨M.length, 0, none⟩) 2 2, M ++ [⟨[byteV (UInt8.ofNat (n / 256)), byteV (UInt8.ofNat (n % 256))], 1, 2⟩]) := by
  rw [byteV_len (by omega), byteV_len (by omega)]
  obtain ⟨h, hh⟩ : ∃ h, h = n / 256 := ⟨_, rfl⟩
  obtain ⟨l, hl⟩ : ∃ l, l = n % 256 := ⟨_, rfl⟩
  have e1 : (n : Int).tdiv 256 = h := by rw [Int.tdiv_eq_ediv_of_nonneg (by omega), hh]; simp
  have e2 : (n : Int).tmod 256 = l := by rw [Int.tmod_eq_emod_of_nonneg (by omega), hl]; simp
  have e3 : IntKind.i64.wrap (h : Int) = h := wrap_i64 (by omega) (by omega)
  have e4 : IntKind.u8.wrap (h : Int) = h := wrap_u8 (by omega) (by omega)
  have e5 : IntKind.u8.wrap (l : Int) = l := wrap_u8 (by omega) (by omega)
  rw [← hh, ← hl]
  rw [aCall_eq T_spec_l09Two]; unfold A_spec_l09Two C_spec_l09Two; simp [e1, e2, e3, e4, e5, zeroCells]
theorem wordB_len {w : List UInt8} (h : wordB w = true) : 1 ≤ w.length ∧ w.length ≤ 32 := by
  simp [wordB] at h; omega
theorem rec_bounds {r : ty_Rec.D} (h : recB r = true) : (∃ d : Nat, r.2.1 = (d : Int) ∧ d ≤ 7) ∧ (∃ w : Nat, r.2.2.1 = (w : Int) ∧ w ≤ 65535) ∧ r.2.2.2.length ≤ 32 := by
  unfold recB at h
  rw [Bool.or_eq_true] at h
  rcases h with h | h
  · have h := of_decide_eq_true h
    subst h
    exact ⟨⟨0, rfl, by omega⟩, ⟨0, rfl, by omega⟩, by decide⟩
  · simp only [Bool.and_eq_true, decide_eq_true_eq] at h
    obtain ⟨⟨⟨_, h1, h2⟩, h3, h4⟩, h5⟩ := h
    have h5 := (wordB_len h5).2
    obtain ⟨a, d, w, s⟩ := r
    exact ⟨⟨Int.toNat d, (Int.toNat_of_nonneg h1).symm, Int.toNat_le.2 h2⟩, ⟨Int.toNat w, (Int.toNat_of_nonneg h3).symm, Int.toNat_le.2 h4⟩, h5⟩
def BG (M0 X : Mem) (v : V) (ys : List UInt8) : Prop := ∃ n, ys.length = n ∧ M0 <+: X ∧ Grow M0.length 1 X v n (ys.map byteV)
theorem BG.le {M M0 X : Mem} {v : V} {ys : List UInt8} (h : BG M0 X v ys) (hp : M <+: M0) : BG M X v ys := by
  obtain ⟨n, h1, h2, h3⟩ := h
  exact ⟨n, h1, hp.trans h2, h3.le hp.length_le⟩
theorem BG.pre {M0 X : Mem} {v : V} {ys : List UInt8} (h : BG M0 X v ys) : M0 <+: X := by
  obtain ⟨n, h1, h2, h3⟩ := h
  exact h2
theorem BG.sl {M0 X : Mem} {v : V} {ys : List UInt8} (h : BG M0 X v ys) : ∃ a n, v = .slice a n n ∧ ys.length = n := by
  obtain ⟨n, h1, h2, h3⟩ := h
  obtain ⟨a, e⟩ := h3.shape
  exact ⟨a, n, e, h1⟩
/-- A slice of bytes made anew. -/
def Bytes (M : Mem) (ys : List UInt8) (p : V × Mem) : Prop := BG M p.2 p.1 ys
theorem Bytes.get {M X : Mem} {v : V} {ys : List UInt8} {m : Nat} (h : Bytes M ys (v, X)) (hm : ys.length = m) : M <+: X ∧ (∃ a, v = .slice a m m) ∧ sliceCells X 1 v = some (m, ys.map byteV) := by
  obtain ⟨n, rfl, hp, hg⟩ := h
  subst hm
  exact ⟨hp, hg.shape, hg.cells⟩
theorem padL_len (w : List UInt8) : (padL w).length = 33 := by
  unfold padL
  split
  · rename_i h; have := wordB_len h; simp; omega
  · simp
theorem recT_len (r : ty_Rec.D) : (recT r).length = 37 := by
  unfold recT
  rw [List.length_append, padL_len]
  rfl
theorem recsT_len (top : List ty_Rec.D) : (recsT top).length = top.length * 37 := by
  unfold recsT
  induction top with
  | nil => rfl
  | cons r top ih => rw [List.map_cons, List.flatten_cons, List.length_append, ih, recT_len]; simp; omega
theorem bg_app {M0 X X1 : Mem} {v : V} {n m : Nat} {ys zs : List UInt8} (hp : M0 <+: X) (hg : Grow M0.length 1 X v n (ys.map byteV)) (hn : ys.length = n) (hx : X <+: X1) (hz : zs.length = m) (h0 : 0 < m) (hs : n + m ≤ 1000000000) :
    appS X1 1 1 v m (zs.map byteV) = some (.slice (some ⟨X1.length, 0, none⟩) (n + m) (n + m), kill X1 v ++ [⟨(ys ++ zs).map byteV, 1, 2⟩]) ∧ ∀ N, BG M0 (kill X1 v ++ ⟨(ys ++ zs).map byteV, 1, 2⟩ :: N) (.slice (some ⟨X1.length, 0, none⟩) (n + m) (n + m)) (ys ++ zs) := by
  have g := hg.pre hx
  have a1 := g.app (m := m) (bytes := 1) (ys := zs.map byteV) (by simp [hz]) h0 (map_byte_all _) (by omega) (by omega)
  rw [List.map_append]
  refine ⟨a1, fun N => ⟨n + m, by rw [List.length_append, hn, hz], pf_app (pf_kill hg.ge (hp.trans hx)), ?_⟩⟩
  rw [List.map_append]
  exact g.next (m := m) (ys := zs.map byteV) (by simp [hz]) (by have := (hp.trans hx).length_le; omega) N
abbrev padB (w : List UInt8) : Blk := ⟨(padL w).map byteV, 1, 2⟩
theorem padL_f {w : List UInt8} (h : wordB w = false) : (padL w).map byteV = zc (.int .u8 0) 33 := by
  unfold padL
  rw [h]
  simp only [Bool.false_eq_true, if_false]
  exact map_byte_rep 33
theorem padL_t {w : List UInt8} (h : wordB w = true) : (padL w).map byteV = .int .u8 w.length :: (w.map byteV ++ zc (.int .u8 0) (32 - w.length)) := by
  have := wordB_len h
  unfold padL
  rw [h]
  simp only [if_true]
  rw [List.map_cons, List.map_append, map_byte_rep, byteV_len (by omega)]
def padC (w : List UInt8) (i : Nat) : List V := .int .u8 w.length :: ((w.take i).map byteV ++ zc (.int .u8 0) (32 - i))
theorem padC_set (w : List UInt8) (i : Nat) (hi : i < w.length) (hw : w.length ≤ 32) : (padC w i).set (i + 1) (byteV w[i]) = padC w (i + 1) := by
  unfold padC
  rw [List.set_cons_succ, List.set_append_right _ _ (by simp; omega)]
  have e1 : i - ((w.take i).map byteV).length = 0 := by simp; omega
  have e2 : 32 - i = 32 - (i + 1) + 1 := by omega
  rw [e1, e2, zc_set, List.take_succ_eq_append_getElem hi]
  simp only [List.map_append, List.map_cons, List.map_nil, List.append_assoc, List.cons_append, List.nil_append]
theorem padC_len (w : List UInt8) (i : Nat) (hi : i ≤ w.length) (hw : w.length ≤ 32) : (padC w i).length = 33 := by
  unfold padC; simp; omega
theorem r_spec_Pad (M : Mem) (w : List UInt8) (h2 : w.length ≤ 32) (i : Nat) (hi : i < w.length) :
    lp (aCall T0) K_spec_Pad_0 L_spec_Pad_0 [strV w, und, und, .slice (some ⟨M.length, 0, none⟩) 33 33, .int .i64 i, und, und, und, und, und, und, und, und, und, und, und, und, und, und, und, und, und, und, und, und, und, und, und, und] (M ++ [⟨padC w i, 1, 2⟩]) =
    lp (aCall T0) K_spec_Pad_0 L_spec_Pad_0 [strV w, und, und, .slice (some ⟨M.length, 0, none⟩) 33 33, .int .i64 (i + 1 : Nat), und, und, und, und, und, und, und, und, und, und, und, und, und, und, und, und, und, und, und, und, und, und, und, und] (M ++ [⟨padC w (i + 1), 1, 2⟩]) := by
  have e1 : ((i : Int) + 1).toNat = i + 1 := by omega
  have e2 : (0 : Int) ≤ i + 1 := by omega
  have e3 : (i : Int) + 1 < 33 := by omega
  have e4 := padC_len w i (by omega) h2
  have e5 : i + 1 + 1 ≤ 33 := by omega
  have e6 : splice (padC w i) (i + 1) [byteV w[i]] = padC w (i + 1) := by rw [splice_one (by omega), padC_set w i hi h2]
  have e7 : IntKind.i64.wrap ((i : Int) + 1) = i + 1 := wrap_i64 (by omega) (by omega)
  unfold splice at e6
  simp at e6
  rw [S_spec_Pad_0]; unfold B_spec_Pad_0; simp [hi, e1, e2, e3, e4, e5, e6, e7]
theorem c_spec_Pad (M : Mem) (w : List UInt8) (hw : w.length ≤ 9223372036854775807) : aCall T0 F_spec_Pad [strV w] M = some (.slice (some ⟨M.length, 0, none⟩) 33 33, M ++ [padB w]) := by
  unfold padB
  cases hb : wordB w with
  | false => rw [padL_f hb]; rw [aCall_eq T_spec_Pad]; unfold A_spec_Pad C_spec_Pad; simp [c_spec_WordOk _ _ hw, hb]
  | true =>
    obtain ⟨h1, h2⟩ := wordB_len hb
    rw [padL_t hb]
    have hl := chain (g := fun i : Nat => lp (aCall T0) K_spec_Pad_0 L_spec_Pad_0 [strV w, und, und, .slice (some ⟨M.length, 0, none⟩) 33 33, .int .i64 i, und, und, und, und, und, und, und, und, und, und, und, und, und, und, und, und, und, und, und, und, und, und, und, und] (M ++ [⟨padC w i, 1, 2⟩])) (n := w.length) fun i hi => r_spec_Pad M w h2 i hi
    have e0 : padC w 0 = .int .u8 w.length :: zc (.int .u8 0) 32 := by simp [padC]
    have e1 : padC w w.length = .int .u8 w.length :: (w.map byteV ++ zc (.int .u8 0) (32 - w.length)) := by simp [padC]
    simp only [Int.natCast_zero, Int.ofNat_zero, e0, e1] at hl
    rw [aCall_eq T_spec_Pad]; unfold A_spec_Pad C_spec_Pad; simp [c_spec_WordOk _ _ hw, hb]
    rw [wrap_u8 (by omega) (by omega), hl]
    rw [S_spec_Pad_0]; unfold B_spec_Pad_0; simp
theorem bytes_of {M N : Mem} {k n : Nat} {ys : List UInt8} {cs : List V} (h : N[k]? = some ⟨cs, 1, 2⟩) (hc : cs = ys.map byteV) (hn : ys.length = n) : Bytes M ys (.slice (some ⟨M.length + k, 0, none⟩) n n, M ++ N) := by
  subst hn hc
  refine ⟨_, rfl, List.prefix_append _ _, by simp, .inr ⟨M.length + k, by omega, rfl, ?_⟩⟩
  rw [List.getElem?_append_right (by omega), Nat.add_sub_cancel_left]
  exact h
theorem recT_cells (f : Bool) (d w : Nat) (s : List UInt8) (hd : d ≤ 7) (hw : w ≤ 65535) : (recT (f, (d : Int), (w : Int), s)).map byteV = Value.int .u8 (if f = true then 1 else 0) :: .int .u8 d :: .int .u8 ((w / 256 : Nat) : Int) :: .int .u8 ((w % 256 : Nat) : Int) :: (padL s).map byteV := by
  unfold recT
  simp only [List.map_append, List.map_cons, List.map_nil, Int.toNat_natCast]
  rw [byteV_len (by omega), byteV_len (by omega), byteV_len (by omega)]
  cases f <;> rfl
theorem c_spec_RecOf (M : Mem) (r : ty_Rec.D) (hr : recB r = true) : Sat (aCall T0 F_spec_RecOf [.agg (enc_Rec r).toArray] M) (Bytes M (recT r)) := by
  obtain ⟨⟨d, hd, hd7⟩, ⟨w, hw, hw7⟩, hs⟩ := rec_bounds hr
  have g0 := fun M => c_spec_RecOk M r (by omega)
  rw [hr] at g0
  have g1 := fun M => c_spec_Pad M r.2.2.2 (by omega)
  have g2 := fun M => c_spec_l09Two M w hw7
  obtain ⟨q, hq⟩ : ∃ q, q = w / 256 := ⟨_, rfl⟩
  obtain ⟨p, hp⟩ : ∃ p, p = w % 256 := ⟨_, rfl⟩
  have e1 : IntKind.u8.wrap (d : Int) = d := wrap_u8 (by omega) (by omega)
  have hpl := padL_len r.2.2.2
  have hal := map_byte_all (padL r.2.2.2)
  obtain ⟨r1, r2, r3, r4⟩ := r
  simp only at hd hw
  subst hd hw
  have hc := recT_cells r1 d w r4 hd7 hw7
  rw [← hq] at hc
  rw [← hp] at hc
  have b2 : (byteV (UInt8.ofNat (w / 256))) = .int .u8 q := by rw [hq]; exact byteV_len (by omega)
  have b3 : (byteV (UInt8.ofNat (w % 256))) = .int .u8 p := by rw [hp]; exact byteV_len (by omega)
  simp only [b2, b3] at g2
  dsimp only at g1 hpl hal
  cases r1 with
  | true =>
    rw [aCall_eq T_spec_RecOf]; unfold A_spec_RecOf C_spec_RecOf; simp [thenD_pp, sliceCells_sl, sliceCells_z, sliceCells_nil, take_full, appS_sl, appK_ok, appS_none, thenD_ag, agP_nil, agP_cons, g0, g1, g2, e1, hpl, hal]
    exact sat_some (bytes_of rfl hc.symm (recT_len _))
  | false =>
    rw [aCall_eq T_spec_RecOf]; unfold A_spec_RecOf C_spec_RecOf; simp [thenD_pp, sliceCells_sl, sliceCells_z, sliceCells_nil, take_full, appS_sl, appK_ok, appS_none, thenD_ag, agP_nil, agP_cons, g0, g1, g2, e1, hpl, hal]
    exact sat_some (bytes_of rfl hc.symm (recT_len _))
theorem recsT_succ {top : List ty_Rec.D} {i : Nat} (hi : i < top.length) : recsT (top.take (i + 1)) = recsT (top.take i) ++ recT top[i] := by
  unfold recsT
  rw [List.take_succ_eq_append_getElem hi, List.map_append, List.flatten_append]
  simp
theorem l_spec_ReplyOf_0 (M0 : Mem) (p : Nat) (a : Option Addr) (c : Nat) (top : List ty_Rec.D) (k s : V) (hp : rd1 M0 p 3 = some (.slice a top.length c)) (h : Rep (.sl ty_Rec) M0 [.slice a top.length c] top) (hok : ∀ r ∈ top, recB r = true) (hn : top.length ≤ 1000) (ys : List UInt8) (hy : ys.length ≤ 1000) (v : V) (X : Mem) (hX : BG M0 X v ys) :
    ∃ v' X', BG M0 X' v' (ys ++ recsT top) ∧ lp (aCall T0) K_spec_ReplyOf_0 L_spec_ReplyOf_0 [k, s, und, und, und, .pointer (some ⟨p, 0, none⟩), und, v, und, .int .i64 (0 : Nat), und, und, und, und, und, und, und, und, und, und, und, und, und, und, und, und, und, und, und, und, und, und, und, und, und, und, und, und, und, und, und, und, und, und, und, und, und, und, und, und, und, und, und, und, und, und, und, und, und, und, und, und, und, und, und, und, und, und, und, und, und, und, und, und, und, und] X = lp (aCall T0) K_spec_ReplyOf_0 L_spec_ReplyOf_0 [k, s, und, und, und, .pointer (some ⟨p, 0, none⟩), und, v', und, .int .i64 top.length, und, und, und, und, und, und, und, und, und, und, und, und, und, und, und, und, und, und, und, und, und, und, und, und, und, und, und, und, und, und, und, und, und, und, und, und, und, und, und, und, und, und, und, und, und, und, und, und, und, und, und, und, und, und, und, und, und, und, und, und, und, und, und, und, und, und] X' := by
  have := loop_to (call := aCall T0) (K := K_spec_ReplyOf_0) (L := L_spec_ReplyOf_0) (fun i v X => BG M0 X v (ys ++ recsT (top.take i))) (fun i v => [k, s, und, und, und, .pointer (some ⟨p, 0, none⟩), und, v, und, .int .i64 i, und, und, und, und, und, und, und, und, und, und, und, und, und, und, und, und, und, und, und, und, und, und, und, und, und, und, und, und, und, und, und, und, und, und, und, und, und, und, und, und, und, und, und, und, und, und, und, und, und, und, und, und, und, und, und, und, und, und, und, und, und, und, und, und, und, und]) (n := top.length) ?_ 0 v X (by omega) (by simpa [recsT] using hX)
  · simpa using this
  intro i v X hi hX
  obtain ⟨l, o, rfl, hrep, hrd, _⟩ := at_Rec h hi
  obtain ⟨n, hn1, pX, gX⟩ := hX
  have hr := hok _ (List.getElem_mem hi)
  have e6 : IntKind.i64.wrap ((i : Int) + 1) = i + 1 := wrap_i64 (by omega) (by omega)
  have r1 := r1_pre pX hp
  have r2 := rn_pre pX hrd
  have hL := recsT_len (top.take i)
  rw [List.length_take, Nat.min_eq_left (by omega)] at hL
  have hle := hn1
  rw [List.length_append] at hle
  obtain ⟨_, rfl⟩ := gX.shape
  rw [S_spec_ReplyOf_0]; unfold B_spec_ReplyOf_0; simp [thenD_pp, sliceCells_sl, sliceCells_z, sliceCells_nil, take_full, appS_sl, appK_ok, appS_none, thenD_ag, agP_nil, agP_cons, hi, r1, r2, e6]
  generalize hx : aCall T0 F_spec_RecOf _ _ = xhx
  obtain ⟨v1, X1, rfl, b1⟩ := of_call hx (c_spec_RecOf _ _ hr)
  clear hx
  obtain ⟨p1, ⟨_, rfl⟩, hc⟩ := Bytes.get b1 (recT_len _)
  obtain ⟨a1, a2⟩ := bg_app pX gX hn1 p1 (recT_len top[i]) (by omega) (by omega)
  simp [thenD_pp, sliceCells_sl, sliceCells_z, sliceCells_nil, take_full, appS_sl, appK_ok, appS_none, thenD_ag, agP_nil, agP_cons, hi, hc, a1, e6]
  refine ⟨_, _, ?_, rfl⟩
  simp only [recsT_succ hi]
  simpa using a2 []
theorem marksT_len (xs : List Int) : (marksT xs).length = xs.length := by unfold marksT; simp
theorem marksT_succ {xs : List Int} {i : Nat} (hi : i < xs.length) : marksT (xs.take (i + 1)) = marksT (xs.take i) ++ [UInt8.ofNat (xs[i] : Int).toNat] := by
  unfold marksT
  rw [List.take_succ_eq_append_getElem hi, List.map_append]
  rfl
theorem mark_byte {n : Int} (h : markOk n = true) : byteV (UInt8.ofNat n.toNat) = .int .u8 n ∧ IntKind.u8.wrap n = n := by
  simp only [markOk, Bool.and_eq_true, decide_eq_true_eq] at h
  rw [byteV_len (by omega), Int.toNat_of_nonneg h.1]
  exact ⟨rfl, wrap_u8 (by omega) (by omega)⟩
theorem l_spec_ReplyOf_1 (M0 : Mem) (p : Nat) (a : Option Addr) (c : Nat) (xs : List Int) (k s : V) (hp : rd1 M0 p 4 = some (.slice a xs.length c)) (h : Rep (.sl ty_Int) M0 [.slice a xs.length c] xs) (hok : ∀ n ∈ xs, markOk n = true) (hn : xs.length ≤ 1000) (ys : List UInt8) (hy : ys.length ≤ 100000) (v : V) (X : Mem) (hX : BG M0 X v ys) :
    ∃ v' X', BG M0 X' v' (ys ++ marksT xs) ∧ lp (aCall T0) K_spec_ReplyOf_1 L_spec_ReplyOf_1 [k, s, und, und, und, .pointer (some ⟨p, 0, none⟩), und, v, und, und, .int .i64 (0 : Nat), und, und, und, und, und, und, und, und, und, und, und, und, und, und, und, und, und, und, und, und, und, und, und, und, und, und, und, und, und, und, und, und, und, und, und, und, und, und, und, und, und, und, und, und, und, und, und, und, und, und, und, und, und, und, und, und, und, und, und, und, und, und, und, und, und] X = lp (aCall T0) K_spec_ReplyOf_1 L_spec_ReplyOf_1 [k, s, und, und, und, .pointer (some ⟨p, 0, none⟩), und, v', und, und, .int .i64 xs.length, und, und, und, und, und, und, und, und, und, und, und, und, und, und, und, und, und, und, und, und, und, und, und, und, und, und, und, und, und, und, und, und, und, und, und, und, und, und, und, und, und, und, und, und, und, und, und, und, und, und, und, und, und, und, und, und, und, und, und, und, und, und, und, und, und] X' := by
  have := loop_to (call := aCall T0) (K := K_spec_ReplyOf_1) (L := L_spec_ReplyOf_1) (fun i v X => BG M0 X v (ys ++ marksT (xs.take i))) (fun i v => [k, s, und, und, und, .pointer (some ⟨p, 0, none⟩), und, v, und, und, .int .i64 i, und, und, und, und, und, und, und, und, und, und, und, und, und, und, und, und, und, und, und, und, und, und, und, und, und, und, und, und, und, und, und, und, und, und, und, und, und, und, und, und, und, und, und, und, und, und, und, und, und, und, und, und, und, und, und, und, und, und, und, und, und, und, und, und, und]) (n := xs.length) ?_ 0 v X (by omega) (by simpa [marksT] using hX)
  · simpa using this
  intro i v X hi hX
  obtain ⟨l, o, rfl, hrep, hrd⟩ := at_Int h hi
  obtain ⟨n, hn1, pX, gX⟩ := hX
  obtain ⟨b1, b2⟩ := mark_byte (hok _ (List.getElem_mem hi))
  have e6 : IntKind.i64.wrap ((i : Int) + 1) = i + 1 := wrap_i64 (by omega) (by omega)
  have r1 := r1_pre pX hp
  have r2 := r1_pre pX hrd
  have hL := marksT_len (xs.take i)
  rw [List.length_take, Nat.min_eq_left (by omega)] at hL
  have hle := hn1
  rw [List.length_append] at hle
  obtain ⟨_, rfl⟩ := gX.shape
  obtain ⟨a1, a2⟩ := bg_app (X1 := X ++ [⟨[.int .u8 xs[i]], 1, 2⟩]) (m := 1) (zs := [UInt8.ofNat (xs[i] : Int).toNat]) pX gX hn1 (List.prefix_append _ _) rfl (by omega) (by omega)
  simp only [List.map_cons, List.map_nil, b1] at a1
  rw [S_spec_ReplyOf_1]; unfold B_spec_ReplyOf_1; simp [thenD_pp, sliceCells_sl, sliceCells_z, sliceCells_nil, take_full, appS_sl, appK_ok, appS_none, thenD_ag, agP_nil, agP_cons, hi, r1, r2, b2, e6, a1]
  refine ⟨_, _, ?_, rfl⟩
  simp only [marksT_succ hi]
  simpa [b1] using a2 []
theorem reply_facts {kind slots k : Int} {f : Bool} {w : Int} {top : List ty_Rec.D} {marks : List Int} (h : replyB kind slots k f w top marks = true) :
    shapeB kind slots = true ∧ (0 ≤ k ∧ k ≤ 8) ∧ (0 ≤ w ∧ w ≤ 65535) ∧ (∀ r ∈ top, recB r = true) ∧ (∀ n ∈ marks, markOk n = true) ∧ top.length ≤ 8 ∧ marks.length ≤ 16 ∧
    (if kind = 1 then (4 : Int) else if kind = 2 then 297 else 1 + slots) = replyS kind slots ∧ (replyL kind k f w top marks).length ≤ replyS kind slots ∧ replyS kind slots ≤ 297 ∧ (0 ≤ slots ∧ slots ≤ 16) ∧
    (¬ (k = 0 ∧ kind = 1) → f = false ∧ w = 0) ∧ (kind = 1 → top = [] ∧ marks = []) := by
  unfold replyB at h
  simp only [Bool.and_eq_true, decide_eq_true_eq] at h
  obtain ⟨⟨hs, hk⟩, ⟨h1, h2⟩, h3⟩ := h
  have hsl : (kind = 6 → 1 ≤ slots ∧ slots ≤ 16) ∧ (kind ≠ 6 → slots = 0 ∧ 1 ≤ kind ∧ kind ≤ 5) := by
    unfold shapeB at hs
    split at hs
    · simp at hs; omega
    · simp at hs; omega
  have hw : 0 ≤ w ∧ w ≤ 65535 := by
    split at h1
    · simp at h1; omega
    · simp at h1; omega
  have hfw : ¬ (k = 0 ∧ kind = 1) → f = false ∧ w = 0 := by
    intro hn
    rw [if_neg hn] at h1
    simpa using h1
  have ht : (∀ r ∈ top, recB r = true) ∧ (top.length = 0 ∨ (top.length = 8 ∧ kind = 2)) := by
    split at h2
    · rename_i hc
      unfold topB at h2
      simp only [Bool.and_eq_true, decide_eq_true_eq] at h2
      refine ⟨fun r hr => ?_, .inr ⟨h2.1, hc.2⟩⟩
      obtain ⟨i, hi, rfl⟩ := List.getElem_of_mem hr
      exact (okT_parts hi (List.all_eq_true.1 h2.2 i (by simpa using hi))).1
    · have h2 := of_decide_eq_true h2
      have := List.length_eq_zero_iff.1 h2
      subst this
      exact ⟨fun r hr => by simp at hr, .inl rfl⟩
  have hm : (∀ n ∈ marks, markOk n = true) ∧ (marks.length = 0 ∨ ((marks.length : Int) = slots ∧ kind = 6)) := by
    split at h3
    · rename_i hc
      unfold marksB at h3
      simp only [Bool.and_eq_true, decide_eq_true_eq] at h3
      exact ⟨fun n hn => List.all_eq_true.1 h3.2 n hn, .inr ⟨h3.1, hc.2⟩⟩
    · have h3 := of_decide_eq_true h3
      have := List.length_eq_zero_iff.1 h3
      subst this
      exact ⟨fun r hr => by simp at hr, .inl rfl⟩
  have hz : (if kind = 1 then (4 : Int) else if kind = 2 then 297 else 1 + slots) = replyS kind slots := by
    unfold replyS
    rw [Int.toNat_of_nonneg]
    split
    · omega
    · split <;> omega
  refine ⟨hs, hk, hw, ht.1, hm.1, by omega, by omega, hz, ?_, ?_, by omega, hfw, fun h1 => ⟨List.length_eq_zero_iff.1 (by omega), List.length_eq_zero_iff.1 (by omega)⟩⟩
  · unfold replyL
    rw [List.length_append, List.length_append, recsT_len, marksT_len]
    unfold replyH
    split
    · rw [if_pos (by assumption)] at hz
      simp only [List.length_cons, List.length_nil]
      omega
    · rw [if_neg (by assumption)] at hz
      simp only [List.length_cons, List.length_nil]
      split at hz <;> omega
  · split at hz
    · omega
    · split at hz <;> omega
theorem bg_here {M0 X : Mem} {l n : Nat} {ys : List UInt8} {cs : List V} (hp : M0 <+: X) (hl : M0.length ≤ l) (h : X[l]? = some ⟨cs, 1, 2⟩) (hc : cs = ys.map byteV) (hn : ys.length = n) : BG M0 X (.slice (some ⟨l, 0, none⟩) n n) ys := by
  subst hn hc
  exact ⟨_, rfl, hp, by simp, .inr ⟨l, hl, rfl, h⟩⟩
/-- The zeros at the end. -/
theorem bg_pad {M0 X : Mem} {v : V} {n : Nat} {ys : List UInt8} (hp : M0 <+: X) (hg : Grow M0.length 1 X v n (ys.map byteV)) (hn : ys.length = n) (m : Nat) (hs : n + m ≤ 1000000000) :
    ∃ v' X', appS X 1 1 v m (zc (.int .u8 0) m) = some (v', X') ∧ BG M0 X' v' (ys ++ List.replicate m 0) := by
  by_cases h0 : m = 0
  · subst h0
    refine ⟨v, X, ?_, n, by simpa using hn, hp, by simpa using hg⟩
    obtain ⟨a, rfl⟩ := hg.shape
    unfold appS
    rcases hg.2 with ⟨h1, h2⟩ | ⟨l, _, h1, _⟩
    · cases h1; rfl
    · cases h1; rfl
  · obtain ⟨a1, a2⟩ := bg_app (X1 := X) (m := m) (zs := List.replicate m 0) hp hg hn (List.prefix_refl _) (by simp) (by omega) hs
    rw [map_byte_rep] at a1
    exact ⟨_, _, a1, a2 []⟩
theorem bg_padz {M0 X : Mem} {v : V} {ys : List UInt8} (h : BG M0 X v ys) {n : Nat} (hn : ys.length = n) (m : Nat) (hs : n + m ≤ 1000000000) :
    ∃ v' X', appS X 1 1 v m (zc (.int .u8 0) m) = some (v', X') ∧ BG M0 X' v' (ys ++ List.replicate m 0) := by
  obtain ⟨n', h1, h2, h3⟩ := h
  exact bg_pad h2 h3 h1 m (by omega)
theorem spec_replyT {kind slots k : Int} {f : Bool} {w : Int} {top : List ty_Rec.D} {marks : List Int} (hb : replyB kind slots k f w top marks = true) (hk1 : ¬ (k = 0 ∧ kind = 1)) :
    ([UInt8.ofNat k.toNat] ++ recsT top ++ marksT marks) ++ List.replicate (replyS kind slots - ([UInt8.ofNat k.toNat] ++ recsT top ++ marksT marks).length) 0 = replyT kind slots k f w top marks := by
  obtain ⟨_, _, _, _, _, _, _, _, _, _, _, hfw, h1⟩ := reply_facts hb
  unfold replyT replyL replyH
  by_cases hk : kind = 1
  · obtain ⟨rfl, rfl⟩ := hfw hk1
    obtain ⟨rfl, rfl⟩ := h1 hk
    subst hk
    rfl
  · simp only [if_neg hk]
set_option maxHeartbeats 1000000 in
theorem c_spec_ReplyOfT (M : Mem) (kind slots k : Int) (f : Bool) (w : Int) (v u : V) (top : List ty_Rec.D) (marks : List Int) (h : Rep (.sl ty_Rec) M [v] top) (h2 : Rep (.sl ty_Int) M [u] marks) (hb : replyB kind slots k f w top marks = true) :
    Sat (aCall T0 F_spec_ReplyOf [.int .i64 kind, .int .i64 slots, .agg (cY k f w v u).toArray] M) (Bytes M (replyT kind slots k f w top marks)) := by
  obtain ⟨hs, hk, hw, ht, hm, ht8, hm16, hz, hle, hz2, hsl, hfw, h1⟩ := reply_facts hb
  have e6 := c_spec_ReplyOk (M ++ [(⟨cY k f w v u, 1, 2⟩ : Blk)]) kind slots k f w v u top marks (h.mono (List.prefix_append _ _)) (h2.mono (List.prefix_append _ _)) (by omega) (by omega) (fun r hr => by have := (rec_bounds (ht r hr)).2.2; omega)
  rw [hb] at e6
  have e5 := fun M => c_spec_ReplySize M kind slots
  have hzz : replySz kind slots = replyS kind slots := by unfold replySz; rw [hs, if_pos rfl]; exact hz
  rw [hzz] at e5
  have hsp := fun hk1 => spec_replyT hb hk1
  obtain ⟨k, rfl⟩ : ∃ n : Nat, k = n := ⟨k.toNat, (Int.toNat_of_nonneg hk.1).symm⟩
  obtain ⟨w, rfl⟩ : ∃ n : Nat, w = n := ⟨w.toNat, (Int.toNat_of_nonneg hw.1).symm⟩
  obtain ⟨a, c, rfl⟩ := h.slen
  obtain ⟨b, d, rfl⟩ := h2.slen
  have e1 : IntKind.u8.wrap (k : Int) = k := wrap_u8 (by omega) (by omega)
  obtain ⟨q, hq⟩ : ∃ q, q = w / 256 := ⟨_, rfl⟩
  obtain ⟨p, hp⟩ : ∃ p, p = w % 256 := ⟨_, rfl⟩
  have e4 := fun M => c_spec_l09Two M w (by omega)
  have b2 : (byteV (UInt8.ofNat (w / 256))) = .int .u8 q := by rw [hq]; exact byteV_len (by omega)
  have b3 : (byteV (UInt8.ofNat (w % 256))) = .int .u8 p := by rw [hp]; exact byteV_len (by omega)
  simp only [b2, b3] at e4
  obtain ⟨A, hA⟩ : ∃ A, A = M ++ [(⟨cY k f w (.slice a top.length c) (.slice b marks.length d), 1, 2⟩ : Blk)] := ⟨_, rfl⟩
  have pA : M <+: A := by rw [hA]; exact List.prefix_append _ _
  have rA : rd1 A M.length 4 = some (.slice b marks.length d) := by rw [hA]; simp
  have rA3 : rd1 A M.length 3 = some (.slice a top.length c) := by rw [hA]; simp
  have main : ∀ X v0 H, BG A X v0 H → H.length ≤ 4 → (H ++ recsT top ++ marksT marks).length ≤ replyS kind slots → (H ++ recsT top ++ marksT marks) ++ List.replicate (replyS kind slots - (H ++ recsT top ++ marksT marks).length) 0 = replyT kind slots k f w top marks → ∃ v1 X1 v2 X2 v3 X3 n2, lp (aCall T0) K_spec_ReplyOf_0 L_spec_ReplyOf_0 [.int .i64 kind, .int .i64 slots, und, und, und, .pointer (some ⟨M.length, 0, none⟩), und, v0, und, .int .i64 (0 : Nat), und, und, und, und, und, und, und, und, und, und, und, und, und, und, und, und, und, und, und, und, und, und, und, und, und, und, und, und, und, und, und, und, und, und, und, und, und, und, und, und, und, und, und, und, und, und, und, und, und, und, und, und, und, und, und, und, und, und, und, und, und, und, und, und, und, und] X = lp (aCall T0) K_spec_ReplyOf_0 L_spec_ReplyOf_0 [.int .i64 kind, .int .i64 slots, und, und, und, .pointer (some ⟨M.length, 0, none⟩), und, v1, und, .int .i64 top.length, und, und, und, und, und, und, und, und, und, und, und, und, und, und, und, und, und, und, und, und, und, und, und, und, und, und, und, und, und, und, und, und, und, und, und, und, und, und, und, und, und, und, und, und, und, und, und, und, und, und, und, und, und, und, und, und, und, und, und, und, und, und, und, und, und, und] X1 ∧
      (rd1 X1 M.length 3 = some (.slice a top.length c) ∧ rd1 X2 M.length 4 = some (.slice b marks.length d)) ∧
      lp (aCall T0) K_spec_ReplyOf_1 L_spec_ReplyOf_1 [.int .i64 kind, .int .i64 slots, und, und, und, .pointer (some ⟨M.length, 0, none⟩), und, v1, und, und, .int .i64 (0 : Nat), und, und, und, und, und, und, und, und, und, und, und, und, und, und, und, und, und, und, und, und, und, und, und, und, und, und, und, und, und, und, und, und, und, und, und, und, und, und, und, und, und, und, und, und, und, und, und, und, und, und, und, und, und, und, und, und, und, und, und, und, und, und, und, und, und] X1 = lp (aCall T0) K_spec_ReplyOf_1 L_spec_ReplyOf_1 [.int .i64 kind, .int .i64 slots, und, und, und, .pointer (some ⟨M.length, 0, none⟩), und, v2, und, und, .int .i64 marks.length, und, und, und, und, und, und, und, und, und, und, und, und, und, und, und, und, und, und, und, und, und, und, und, und, und, und, und, und, und, und, und, und, und, und, und, und, und, und, und, und, und, und, und, und, und, und, und, und, und, und, und, und, und, und, und, und, und, und, und, und, und, und, und, und, und] X2 ∧
      (∃ a2, v2 = .slice a2 n2 n2) ∧ n2 ≤ replyS kind slots ∧ appS X2 1 1 v2 (replyS kind slots - n2) (zc (.int .u8 0) (replyS kind slots - n2)) = some (v3, X3) ∧ BG A X3 v3 (replyT kind slots k f w top marks) := by
    intro X v0 H hX hh hl9 hT
    obtain ⟨v1, X1, g1, q1⟩ := l_spec_ReplyOf_0 A M.length a c top (.int .i64 kind) (.int .i64 slots) rA3 (h.mono pA) ht (by omega) _ (by omega) v0 X hX
    have hl := recsT_len top
    obtain ⟨v2, X2, g2, q2⟩ := l_spec_ReplyOf_1 A M.length b d marks (.int .i64 kind) (.int .i64 slots) rA (h2.mono pA) hm (by omega) _ (by rw [List.length_append]; omega) v1 X1 g1
    obtain ⟨a2, n2, s2, s3⟩ := BG.sl g2
    obtain ⟨v3, X3, q3, g3⟩ := bg_padz g2 s3 (replyS kind slots - n2) (by omega)
    refine ⟨v1, X1, v2, X2, v3, X3, n2, q1, ⟨r1_pre (BG.pre g1) rA3, r1_pre (BG.pre g2) rA⟩, q2, ⟨a2, s2⟩, by omega, q3, ?_⟩
    rw [← hT, s3]
    exact g3
  have hL := hle
  unfold replyL at hL
  rw [List.length_append, List.length_append] at hL
  by_cases hk1 : (k : Int) = 0 ∧ kind = 1
  · obtain ⟨hk0, rfl⟩ := hk1
    obtain rfl : k = 0 := by omega
    have hbk : BG A (M ++ [(⟨cY (0 : Nat) f w (.slice a top.length c) (.slice b marks.length d), 1, 2⟩ : Blk), ⟨[.int .u8 0], 1, 0⟩, ⟨[.int .u8 (if f = true then 1 else 0)], 1, 2⟩, ⟨[.int .u8 0, .int .u8 (if f = true then 1 else 0)], 1, 0⟩, ⟨[.int .u8 q, .int .u8 p], 1, 2⟩, ⟨[.int .u8 0, .int .u8 (if f = true then 1 else 0), .int .u8 q, .int .u8 p], 1, 2⟩]) (.slice (some ⟨M.length + 5, 0, none⟩) 4 4) (replyH 1 (0 : Nat) f w) := by
      refine bg_here (cs := [.int .u8 0, .int .u8 (if f = true then 1 else 0), .int .u8 q, .int .u8 p]) (by rw [hA]; simp) (by rw [hA]; simp) (by simp) ?_ rfl
      unfold replyH
      simp only [if_true, List.map_cons, List.map_nil, Int.toNat_natCast]
      rw [b2, b3]
      cases f <;> rfl
    obtain ⟨v1, X1, v2, X2, v3, X3, n2, q1, ⟨q2, q2b⟩, q3, ⟨a2, rfl⟩, q5, q6, q7⟩ := main _ _ _ hbk (by unfold replyH; simp) (by rw [List.length_append, List.length_append]; exact hL) rfl
    have w1 : IntKind.i64.wrap ((replyS 1 slots : Nat) - (n2 : Int)) = ((replyS 1 slots - n2 : Nat) : Int) := by rw [wrap_i64 (by omega) (by omega)]; omega
    have w2 : ((replyS 1 slots - n2 : Nat) : Int) ≤ 9223372036854775807 := by omega
    have w3 : ((replyS 1 slots - n2 : Nat) : Int) ≤ 281474976710656 := by omega
    generalize hm9 : replyS 1 slots - n2 = m9 at w1 w2 w3 q6
    refine sat_of (a := (v3, X3)) ?_ (BG.le q7 pA)
    obtain ⟨_, _, rfl, _⟩ := BG.sl q7
    simp only [Int.natCast_zero, Int.ofNat_zero] at q1 q3 e6 e1 ⊢
    cases f with
    | true =>
      simp only [if_true] at q1
      rw [aCall_eq T_spec_ReplyOf]; unfold A_spec_ReplyOf C_spec_ReplyOf; simp [thenD_pp, sliceCells_sl, sliceCells_z, sliceCells_nil, take_full, appS_sl, appK_ok, appS_none, thenD_ag, agP_nil, agP_cons, e1, e4, e6, q1]
      rw [S_spec_ReplyOf_0]; unfold B_spec_ReplyOf_0; simp [thenD_pp, sliceCells_sl, sliceCells_z, sliceCells_nil, take_full, appS_sl, appK_ok, appS_none, thenD_ag, agP_nil, agP_cons, q2, q3]
      rw [S_spec_ReplyOf_1]; unfold B_spec_ReplyOf_1; simp [thenD_pp, sliceCells_sl, sliceCells_z, sliceCells_nil, take_full, appS_sl, appK_ok, appS_none, thenD_ag, agP_nil, agP_cons, q2b, e5, w1, w2, w3, q6]
    | false =>
      simp only [Bool.false_eq_true, if_false] at q1
      rw [aCall_eq T_spec_ReplyOf]; unfold A_spec_ReplyOf C_spec_ReplyOf; simp [thenD_pp, sliceCells_sl, sliceCells_z, sliceCells_nil, take_full, appS_sl, appK_ok, appS_none, thenD_ag, agP_nil, agP_cons, e1, e4, e6, q1]
      rw [S_spec_ReplyOf_0]; unfold B_spec_ReplyOf_0; simp [thenD_pp, sliceCells_sl, sliceCells_z, sliceCells_nil, take_full, appS_sl, appK_ok, appS_none, thenD_ag, agP_nil, agP_cons, q2, q3]
      rw [S_spec_ReplyOf_1]; unfold B_spec_ReplyOf_1; simp [thenD_pp, sliceCells_sl, sliceCells_z, sliceCells_nil, take_full, appS_sl, appK_ok, appS_none, thenD_ag, agP_nil, agP_cons, q2b, e5, w1, w2, w3, q6]
  · have hbk : BG A (M ++ [(⟨cY k f w (.slice a top.length c) (.slice b marks.length d), 1, 2⟩ : Blk), ⟨[.int .u8 k], 1, 2⟩]) (.slice (some ⟨M.length + 1, 0, none⟩) 1 1) [UInt8.ofNat (k : Int).toNat] := by
      refine bg_here (cs := [.int .u8 k]) (by rw [hA]; simp) (by rw [hA]; simp) (by simp) ?_ rfl
      simp only [List.map_cons, List.map_nil, Int.toNat_natCast]
      rw [byteV_len (by omega)]
    obtain ⟨v1, X1, v2, X2, v3, X3, n2, q1, ⟨q2, q2b⟩, q3, ⟨a2, rfl⟩, q5, q6, q7⟩ := main _ _ _ hbk (by simp) (by rw [List.length_append, List.length_append]; simp only [List.length_cons, List.length_nil]; unfold replyH at hL; split at hL <;> simp only [List.length_cons, List.length_nil] at hL <;> omega) (hsp hk1)
    have w1 : IntKind.i64.wrap ((replyS kind slots : Nat) - (n2 : Int)) = ((replyS kind slots - n2 : Nat) : Int) := by rw [wrap_i64 (by omega) (by omega)]; omega
    have w2 : ((replyS kind slots - n2 : Nat) : Int) ≤ 9223372036854775807 := by omega
    have w3 : ((replyS kind slots - n2 : Nat) : Int) ≤ 281474976710656 := by omega
    generalize hm9 : replyS kind slots - n2 = m9 at w1 w2 w3 q6
    refine sat_of (a := (v3, X3)) ?_ (BG.le q7 pA)
    obtain ⟨_, _, rfl, _⟩ := BG.sl q7
    simp only [Int.natCast_zero, Int.ofNat_zero] at q1 q3
    by_cases hk0 : k = 0
    · subst hk0
      have hk2 : ¬ kind = 1 := fun e => hk1 ⟨rfl, e⟩
      simp only [Int.natCast_zero, Int.ofNat_zero] at q1 q3 e6 e1 ⊢
      rw [aCall_eq T_spec_ReplyOf]; unfold A_spec_ReplyOf C_spec_ReplyOf; simp [thenD_pp, sliceCells_sl, sliceCells_z, sliceCells_nil, take_full, appS_sl, appK_ok, appS_none, thenD_ag, agP_nil, agP_cons, hk2, e1, e6, q1]
      rw [S_spec_ReplyOf_0]; unfold B_spec_ReplyOf_0; simp [thenD_pp, sliceCells_sl, sliceCells_z, sliceCells_nil, take_full, appS_sl, appK_ok, appS_none, thenD_ag, agP_nil, agP_cons, q2, q3]
      rw [S_spec_ReplyOf_1]; unfold B_spec_ReplyOf_1; simp [thenD_pp, sliceCells_sl, sliceCells_z, sliceCells_nil, take_full, appS_sl, appK_ok, appS_none, thenD_ag, agP_nil, agP_cons, q2b, e5, w1, w2, w3, q6]
    · rw [aCall_eq T_spec_ReplyOf]; unfold A_spec_ReplyOf C_spec_ReplyOf; simp [thenD_pp, sliceCells_sl, sliceCells_z, sliceCells_nil, take_full, appS_sl, appK_ok, appS_none, thenD_ag, agP_nil, agP_cons, hk0, e1, e6, q1]
      rw [S_spec_ReplyOf_0]; unfold B_spec_ReplyOf_0; simp [thenD_pp, sliceCells_sl, sliceCells_z, sliceCells_nil, take_full, appS_sl, appK_ok, appS_none, thenD_ag, agP_nil, agP_cons, q2, q3]
      rw [S_spec_ReplyOf_1]; unfold B_spec_ReplyOf_1; simp [thenD_pp, sliceCells_sl, sliceCells_z, sliceCells_nil, take_full, appS_sl, appK_ok, appS_none, thenD_ag, agP_nil, agP_cons, q2b, e5, w1, w2, w3, q6]
theorem bg_rep {M0 X : Mem} {v : V} {ys : List UInt8} (h : BG M0 X v ys) : ∃ L, M0 <+: X ∧ Own (.sl ty_Byte) X [v] ys L ∧ Fresh M0 X L := by
  obtain ⟨n, rfl, hp, hg⟩ := h
  rcases hg.2 with ⟨rfl, h0⟩ | ⟨l, hl, rfl, hb⟩
  · have : ys = [] := List.length_eq_zero_iff.1 h0
    subst this
    exact ⟨[], hp, .inl ⟨rfl, rfl, .inl ⟨rfl, rfl⟩⟩, by simp, by simp⟩
  · obtain ⟨L, o1, o2⟩ := own_blk (t := ty_Byte) (M := X) (l := l) (c := ys.length) (enc := enc_Byte) (ys := ys) (by rw [flat_Byte]; exact hb) (fun y _ => own_Byte _ y)
    refine ⟨L, hp, o1, nodup_flat ownf_Byte o1, fun j hj => ?_⟩
    rw [o2 j hj]
    exact ⟨hl, get_lt hb⟩
theorem reply_len {r : ty_Reply.D} (hb : Bd 1048576 ty_Reply r) : r.2.2.2.1.length ≤ 1048576 ∧ r.2.2.2.2.length ≤ 1048576 ∧ ∀ x ∈ r.2.2.2.1, x.2.2.2.length ≤ 9223372036854775807 := ⟨hb.2.2.2.1.1, hb.2.2.2.2.1, fun x hx => Nat.le_trans (hb.2.2.2.1.2 x hx).2.2.2 (by decide)⟩
theorem d_spec_ReplyOf (M : Mem) (kind slots : Int) (cs : List V) (r : ty_Reply.D) (h : Rep ty_Reply M cs r) (hb : Bd 1048576 ty_Reply r) :
    ∃ M' u, M <+: M' ∧ aCall T0 F_spec_ReplyOf [.int .i64 kind, .int .i64 slots, .agg cs.toArray] M = some (u, M') ∧ Rep (.sl ty_Byte) M' [u] (replyX kind slots r) := by
  obtain ⟨l1, l2, l3⟩ := reply_len hb
  obtain ⟨u0, u1, rfl, w0, w1, r0, r1⟩ := rep_g_Reply h
  have i0 := one_head r0.one
  have i1 := one_head r1.one
  have e := c_spec_ReplyOk (M ++ [⟨cY r.1 r.2.1 r.2.2.1 u0 u1, 1, 2⟩]) kind slots r.1 r.2.1 r.2.2.1 u0 u1 r.2.2.2.1 r.2.2.2.2 (r0.mono (List.prefix_append _ _)) (r1.mono (List.prefix_append _ _)) l1 l2 l3
  unfold replyX
  cases hq : replyB kind slots r.1 r.2.1 r.2.2.1 r.2.2.2.1 r.2.2.2.2 with
  | false =>
    rw [hq] at e
    refine ⟨_, _, List.prefix_append M [⟨cY r.1 r.2.1 r.2.2.1 u0 u1, 1, 2⟩], ?_, .inl ⟨rfl, rfl⟩⟩
    rw [aCall_eq T_spec_ReplyOf]; unfold A_spec_ReplyOf C_spec_ReplyOf; simp [thenD_pp, sliceCells_sl, sliceCells_z, sliceCells_nil, take_full, appS_sl, appK_ok, appS_none, thenD_ag, agP_nil, agP_cons, i0, i1, e]
  | true =>
    obtain ⟨⟨v, X⟩, e2, g⟩ := c_spec_ReplyOfT M kind slots r.1 r.2.1 r.2.2.1 u0 u1 r.2.2.2.1 r.2.2.2.2 r0 r1 hq
    obtain ⟨L, p, o, f⟩ := bg_rep g
    exact ⟨X, v, p, e2, o.rep⟩
def zY : List V := [.int .i64 0, .bool false, .int .i64 0, .slice none 0 0, .slice none 0 0]
/-- The reply while its records are read. -/
def RT (M : Mem) (k : Int) (X : Mem) (v : V) (top : List ty_Rec.D) : Prop := ∃ n, top.length = n ∧ M <+: X ∧ X[M.length]? = some ⟨zY, 1, 2⟩ ∧ X[M.length + 1]? = some ⟨[.int .i64 k, .bool false, .int .i64 0, v, .slice none 0 0], 1, 2⟩ ∧ Grow (M.length + 2) 4 X v n (top.map enc_Rec).flatten
theorem rep_blk {t : Ty} {M : Mem} {l o n c : Nat} {xs : List t.D} (h : Rep (.sl t) M [.slice (some ⟨l, o, none⟩) n c] xs) : ∃ blk, M[l]? = some blk ∧ blk.w = t.w ∧ n = xs.length := by
  rcases h with ⟨h, _⟩ | ⟨l', o', c', blk, css, e, h2, h3, h4, h5, h6, h7⟩
  · simp at h
  · simp only [List.cons.injEq, Value.slice.injEq, Option.some.injEq, Addr.mk.injEq, and_true, true_and] at e
    obtain ⟨⟨rfl, rfl⟩, rfl, rfl⟩ := e
    exact ⟨blk, h2, h4, rfl⟩
theorem rep_sub {M : Mem} {b o n c : Nat} {ys : List UInt8} (h : Rep (.sl ty_Byte) M [.slice (some ⟨b, o, none⟩) n c] ys) (l k : Nat) (hk : l + k ≤ ys.length) (c2 : Nat) : Rep (.sl ty_Byte) M [.slice (some ⟨b, o + l, none⟩) k c2] ((ys.drop l).take k) := by
  rcases h with ⟨e, rfl⟩ | ⟨l', o', c', blk, css, e, h2, h3, h4, h5, h6, h7⟩
  · simp at e
  · simp only [List.cons.injEq, Value.slice.injEq, Option.some.injEq, Addr.mk.injEq, and_true] at e
    obtain ⟨⟨rfl, rfl⟩, rfl, rfl⟩ := e
    have he : css = ys.map enc_Byte := by
      apply List.ext_getElem (by simp [h5])
      intro i p q
      have hx : i < ys.length := by omega
      have := h6 i css[i] ys[i] (List.getElem?_eq_getElem p) (List.getElem?_eq_getElem hx)
      rw [List.getElem_map]
      exact this
    rw [he, flat_Byte] at h7
    refine .inr ⟨b, o + l, c2, blk, ((ys.drop l).take k).map enc_Byte, ?_, h2, ?_, h4, ?_, ?_, ?_⟩
    · have : ((ys.drop l).take k).length = k := by rw [List.length_take, List.length_drop]; omega
      rw [this]
    · rcases h3 with h3 | h3 | h3
      · exact .inl h3
      · exact .inr (.inl h3)
      · exact .inr (.inr (by subst h3; simp))
    · rw [List.length_map]
    · intro i ds x hd hx
      rw [List.getElem?_map, hx] at hd
      cases hd
      rfl
    · rw [flat_Byte, List.map_take, List.map_drop, ← List.drop_drop]
      obtain ⟨t, ht⟩ := h7
      rw [← ht, List.drop_append]
      exact (List.take_prefix _ _).trans (List.prefix_append _ _)
theorem rep_blkB {M : Mem} {l : Nat} {ys : List UInt8} (c : Nat) (hb : M[l]? = some ⟨ys.map byteV, 1, 2⟩) : Rep (.sl ty_Byte) M [.slice (some ⟨l, 0, none⟩) ys.length c] ys := by
  obtain ⟨L, o1, _⟩ := own_blk (t := ty_Byte) (M := M) (l := l) (c := c) (enc := enc_Byte) (ys := ys) (by rw [flat_Byte]; exact hb) (fun y _ => own_Byte _ y)
  exact o1.rep
theorem c_spec_Unpad (M : Mem) (v : V) (ys : List UInt8) (h : Rep (.sl ty_Byte) M [v] ys) (hl : ys.length = 33) : aCall T0 F_spec_Unpad [v] M = some (.tuple #[strV (unW ys), .bool (unB ys)], M) := by
  obtain ⟨a, c, rfl⟩ := h.slen
  have h0 : 0 < ys.length := by omega
  obtain ⟨l, o, rfl, _, hrd⟩ := at_Byte h h0
  obtain ⟨blk, hb, hbw, _⟩ := rep_blk h
  have e0 : unL ys = ys[0].toNat := by
    match ys, h0 with
    | y :: ys, _ => rfl
  rw [Nat.add_zero] at hrd
  have hbw : blk.w = 1 := hbw
  obtain ⟨d, hd⟩ : ∃ d, d = unL ys := ⟨_, rfl⟩
  have hby : byteV ys[0] = .int .u8 d := by rw [hd, e0]; rfl
  rw [hby] at hrd
  by_cases hd1 : d < 1
  · have hu : unB ys = false := by
      have : unC ys = [] := by
        unfold unC
        rw [← hd, show d = 0 by omega]
        rfl
      unfold unB
      rw [this]
      simp [wordB]
    have g0 : (d : Int) < 1 := by omega
    unfold unW
    rw [hu]
    have g3 : d = 0 := by omega
    rw [aCall_eq T_spec_Unpad]; unfold A_spec_Unpad C_spec_Unpad; simp [hl, hrd, g0, g3]
  have g0 : ¬ (d : Int) < 1 := by omega
  have g00 : ¬ d = 0 := by omega
  unfold unW unB
  rw [← hd]
  by_cases h32 : d ≤ 32
  · have g1 : ¬ 32 < (d : Int) := by omega
    have g2 : d ≤ 32 := h32
    have e2 : IntKind.i64.wrap (d : Int) = d := wrap_i64 (by omega) (by omega)
    have e1 : IntKind.i64.wrap (1 + (d : Int)) = 1 + d := wrap_i64 (by omega) (by omega)
    have hs := rep_sub h 1 d (by omega) (max ys.length c - 1)
    have hs2 : Rep (.sl ty_Byte) M [.slice (some ⟨l, o + 1, none⟩) d (max ys.length c - 1)] (unC ys) := by unfold unC; rw [← hd]; exact hs
    have hul : (unC ys).length = d := by
      unfold unC
      rw [← hd, List.length_take, List.length_drop]
      omega
    obtain ⟨a1, c1, z1, z2⟩ := cells_Byte hs2
    rw [hul] at z1 z2
    cases z1
    rw [hl] at z2
    have b1 : (1 : Int) ≤ 1 + d := by omega
    have b2 : (1 : Int) + d ≤ 33 := by omega
    have b3 : ((1 : Int) + d).toNat - 1 = d := by omega
    rw [decide_eq_true h32]
    have w1 := fun M => c_spec_WordOk M (unC ys) (by omega)
    have w2 := c_spec_Pad M (unC ys) (by omega)
    obtain ⟨_, _, y1, y2⟩ := cells_Byte (rep_blkB (M := M ++ [padB (unC ys)]) (l := M.length) (ys := padL (unC ys)) 33 (by simp))
    cases y1
    obtain ⟨_, _, x1, x2⟩ := cells_Byte (h.mono (List.prefix_append M [padB (unC ys)]))
    cases x1
    rw [padL_len] at y2
    rw [hl] at x2
    have pp : M <+: M ++ [padB (unC ys)] := List.prefix_append _ _
    obtain ⟨A, hA⟩ : ∃ A, A = M ++ [padB (unC ys)] := ⟨_, rfl⟩
    have gt := gc_tup M [padB (unC ys)]
    rw [← hA] at w2 y2 x2 pp gt
    cases hw : wordB (unC ys) with
    | false =>
      rw [hw] at w1
      rw [aCall_eq T_spec_Unpad]; unfold A_spec_Unpad C_spec_Unpad; simp [hl, hrd, g0, g00, g1, e1, e2, b1, b2, b3, hb, hbw, z2, toBytes_map, w1]
    | true =>
      rw [hw] at w1
      by_cases hq : padL (unC ys) = ys
      · rw [decide_eq_true hq]
        rw [hq] at y2
        rw [aCall_eq T_spec_Unpad]; unfold A_spec_Unpad C_spec_Unpad; simp [hl, hrd, g0, g00, g1, e1, e2, b1, b2, b3, hb, hbw, z2, toBytes_map, w1, w2, y2, x2, pp, thenD_pre, gt, prim]
      · rw [decide_eq_false hq]
        rw [aCall_eq T_spec_Unpad]; unfold A_spec_Unpad C_spec_Unpad; simp [hl, hrd, g0, g00, g1, e1, e2, b1, b2, b3, hb, hbw, z2, toBytes_map, w1, w2, y2, x2, pp, thenD_pre, hq, gt, prim]
  · have g1 : 32 < (d : Int) := by omega
    rw [decide_eq_false h32]
    rw [aCall_eq T_spec_Unpad]; unfold A_spec_Unpad C_spec_Unpad; simp [hl, hrd, g0, g00, g1]
def RecD (M : Mem) (r : ty_Rec.D) (b : Bool) (p : V × Mem) : Prop := p.1 = .tuple #[.agg (enc_Rec r).toArray, .bool b] ∧ M <+: p.2
theorem rep_drop {M : Mem} {b o n c : Nat} {ys : List UInt8} (h : Rep (.sl ty_Byte) M [.slice (some ⟨b, o, none⟩) n c] ys) (l : Nat) (hl : l ≤ ys.length) (k : Nat) (hk : k = ys.length - l) (c2 : Nat) : Rep (.sl ty_Byte) M [.slice (some ⟨b, o + l, none⟩) k c2] (ys.drop l) := by
  have := rep_sub h l k (by omega) c2
  rwa [List.take_of_length_le (by rw [List.length_drop]; omega)] at this
def recS (ys : List UInt8) : ty_Rec.D := if atN ys 0 = 1 then recI ys else zRec
theorem recI_z : recI (recT zRec) = zRec := by decide
theorem recS_ok (ys : List UInt8) (hl : ys.length = 37) : (recB (recS ys) = true ∧ recT (recS ys) = ys) ↔ recR ys = true := by
  unfold recR recS
  rw [hl]
  split
  · simp
  · rename_i h0
    constructor
    · rintro ⟨_, h⟩
      have : recI ys = zRec := by rw [← h]; exact recI_z
      rw [this]
      simp only [decide_true, Bool.true_and, Bool.and_eq_true, decide_eq_true_eq]
      exact ⟨by decide, h⟩
    · intro h
      simp only [decide_true, Bool.true_and, Bool.and_eq_true, decide_eq_true_eq] at h
      obtain ⟨h1, h2⟩ := h
      have : recI ys = zRec := by
        unfold recB at h1
        rw [Bool.or_eq_true] at h1
        rcases h1 with h1 | h1
        · exact of_decide_eq_true h1
        · simp only [Bool.and_eq_true] at h1
          have := h1.1.1.1
          unfold recI at this
          simp at this
          exact absurd this h0
      rw [← this]
      exact ⟨h1, h2⟩
theorem recS_x (ys : List UInt8) (h : recR ys = true) : recS ys = recX ys := by
  unfold recX
  rw [if_pos h]
  unfold recS
  split
  · rfl
  · rename_i h0
    unfold recR at h
    simp only [Bool.and_eq_true] at h
    have h1 := h.2.1
    unfold recB at h1
    rw [Bool.or_eq_true] at h1
    rcases h1 with h1 | h1
    · exact (of_decide_eq_true h1).symm
    · simp only [Bool.and_eq_true] at h1
      have := h1.1.1.1
      unfold recI at this
      simp at this
      exact absurd this h0
theorem c_spec_RecRead (M : Mem) (v : V) (ys : List UInt8) (h : Rep (.sl ty_Byte) M [v] ys) : Sat (aCall T0 F_spec_RecRead [v] M) (RecD M (recX ys) (recR ys)) := by
  obtain ⟨a, c, rfl⟩ := h.slen
  by_cases hl : ys.length = 37
  rotate_left
  · have : recR ys = false := by unfold recR; rw [decide_eq_false hl]; rfl
    unfold recX
    rw [this]
    have hl2 : ¬ (ys.length : Int) = 37 := by omega
    rw [aCall_eq T_spec_RecRead]; unfold A_spec_RecRead C_spec_RecRead; simp [thenD_pp, sliceCells_sl, sliceCells_z, sliceCells_nil, take_full, appS_sl, appK_ok, appS_none, thenD_ag, agP_nil, agP_cons, hl, hl2, prim]
    exact sat_some ⟨rfl, List.prefix_append _ _⟩
  have hok := recS_ok ys hl
  have hx := recS_x ys
  rw [hl] at h ⊢
  obtain ⟨l, o, rfl, _⟩ := at_Byte h (show 0 < ys.length by omega)
  have q0 := at_B h (show 0 < ys.length by omega)
  have q1 := at_B h (show 1 < ys.length by omega)
  have q2 := at_B h (show 2 < ys.length by omega)
  have q3 := at_B h (show 3 < ys.length by omega)
  have t1 := atN_lt ys 1
  have t2 := atN_lt ys 2
  have t3 := atN_lt ys 3
  have e1 : IntKind.i64.wrap (atN ys 1 : Int) = atN ys 1 := wrap_i64 (by omega) (by omega)
  have e2 : IntKind.i64.wrap (atN ys 2 : Int) = atN ys 2 := wrap_i64 (by omega) (by omega)
  have e3 : IntKind.i64.wrap (atN ys 3 : Int) = atN ys 3 := wrap_i64 (by omega) (by omega)
  have e4 : IntKind.i64.wrap (256 * (atN ys 2 : Int)) = 256 * (atN ys 2 : Int) := wrap_i64 (by omega) (by omega)
  have e5 : IntKind.i64.wrap (256 * (atN ys 2 : Int) + (atN ys 3 : Int)) = 256 * (atN ys 2 : Int) + (atN ys 3 : Int) := wrap_i64 (by omega) (by omega)
  obtain ⟨blk, hb, hbw, _⟩ := rep_blk h
  have hbw : blk.w = 1 := hbw
  have hd := rep_drop h 4 (by omega) 33 (by omega) (max 37 c - 4)
  have hdl : (ys.drop 4).length = 33 := by rw [List.length_drop, hl]
  have s1 := fun N : Mem => c_spec_Unpad (M ++ N) _ _ (hd.mono (List.prefix_append M N)) hdl
  have hw := unW_len (ys.drop 4)
  rw [Nat.add_zero] at q0
  have k0 := fun N : Mem => rd1_old (N := N) q0
  have k1 := fun N : Mem => rd1_old (N := N) q1
  have k2 := fun N : Mem => rd1_old (N := N) q2
  have k3 := fun N : Mem => rd1_old (N := N) q3
  have hlt := get_lt hb
  have hb2 := fun N : Mem => (gt_app (N := N) hlt).trans hb
  by_cases h0 : atN ys 0 = 1
  · have h1 : (atN ys 0 : Int) = 1 := by omega
    have hr : recS ys = (true, (atN ys 1 : Int), 256 * (atN ys 2 : Int) + (atN ys 3 : Int), unW (ys.drop 4)) := by
      unfold recS recI
      rw [if_pos h0, decide_eq_true h0]
      simp
    rw [hr] at hok hx
    rw [aCall_eq T_spec_RecRead]; unfold A_spec_RecRead C_spec_RecRead; simp [thenD_pp, sliceCells_sl, sliceCells_z, sliceCells_nil, take_full, appS_sl, appK_ok, appS_none, thenD_ag, agP_nil, agP_cons, hl, h1, k0, k1, k2, k3, e1, e2, e3, e4, e5, hb2, hbw, s1, prim]
    generalize hx1 : aCall T0 F_spec_RecOk _ _ = xhx1
    have hx1 := hx1.symm.trans (c_spec_RecOk _ ((true, (atN ys 1 : Int), 256 * (atN ys 2 : Int) + (atN ys 3 : Int), unW (ys.drop 4)) : ty_Rec.D) (by show (unW (ys.drop 4)).length ≤ _; omega))
    subst hx1
    cases hq : recB ((true, (atN ys 1 : Int), 256 * (atN ys 2 : Int) + (atN ys 3 : Int), unW (ys.drop 4)) : ty_Rec.D) with
    | false =>
      have hn : recR ys = false := by
        cases hh : recR ys with
        | false => rfl
        | true => have := (hok.2 hh).1; rw [hq] at this; cases this
      unfold recX
      rw [hn]
      simp [thenD_pp, sliceCells_sl, sliceCells_z, sliceCells_nil, take_full, appS_sl, appK_ok, appS_none, thenD_ag, agP_nil, agP_cons, prim]
      exact sat_some ⟨rfl, List.prefix_append _ _⟩
    | true =>
      simp [thenD_pp, sliceCells_sl, sliceCells_z, sliceCells_nil, take_full, appS_sl, appK_ok, appS_none, thenD_ag, agP_nil, agP_cons]
      generalize hx1 : aCall T0 F_spec_RecOf _ _ = xhx1
      obtain ⟨v1, X1, rfl, g1⟩ := of_call hx1 (c_spec_RecOf _ ((true, (atN ys 1 : Int), 256 * (atN ys 2 : Int) + (atN ys 3 : Int), unW (ys.drop 4)) : ty_Rec.D) hq)
      clear hx1
      obtain ⟨p1, ⟨_, rfl⟩, c1⟩ := Bytes.get g1 (recT_len _)
      have pM : M <+: X1 := (List.prefix_append _ _).trans p1
      have b0 : X1[M.length]? = some ⟨_, 1, 2⟩ := get_pre p1 (by simp; rfl)
      have b1 : X1[M.length + 1]? = some ⟨_, 1, 2⟩ := get_pre p1 (by simp; rfl)
      obtain ⟨_, _, y1, y2⟩ := cells_Byte (h.mono pM)
      rw [hl] at y1 y2
      cases y1
      generalize hrt : recT ((true, (atN ys 1 : Int), 256 * (atN ys 2 : Int) + (atN ys 3 : Int), unW (ys.drop 4)) : ty_Rec.D) = rt at c1 hok
      by_cases hbq : rt = ys
      · have hn := hok.1 ⟨hq, hbq⟩
        rw [← hx hn, hn]
        clear hrt
        subst hbq
        simp [thenD_pp, sliceCells_sl, sliceCells_z, sliceCells_nil, take_full, appS_sl, appK_ok, appS_none, thenD_ag, agP_nil, agP_cons, c1, y2, toBytes_map, p1, thenD_pre, b0, b1, gs_of b0, prim, rd1_K, rdJ_ok, rdn_K, rnJ_ok, wrn_K, wrJ_ok]
        exact sat_some ⟨rfl, pf_set (Nat.le_refl _) pM⟩
      · have hn : recR ys = false := by
          cases hh : recR ys with
          | false => rfl
          | true => exact absurd (hok.2 hh).2 hbq
        unfold recX
        rw [hn]
        simp [thenD_pp, sliceCells_sl, sliceCells_z, sliceCells_nil, take_full, appS_sl, appK_ok, appS_none, thenD_ag, agP_nil, agP_cons, c1, y2, toBytes_map, p1, thenD_pre, hbq, b0, b1, gs_of b0, prim, rd1_K, rdJ_ok, rdn_K, rnJ_ok, wrn_K, wrJ_ok]
        exact sat_some ⟨rfl, pf_set (Nat.le_refl _) pM⟩
  · have h1 : ¬ (atN ys 0 : Int) = 1 := by omega
    have hr : recS ys = zRec := by unfold recS; rw [if_neg h0]
    rw [hr] at hok hx
    rw [aCall_eq T_spec_RecRead]; unfold A_spec_RecRead C_spec_RecRead; simp [thenD_pp, sliceCells_sl, sliceCells_z, sliceCells_nil, take_full, appS_sl, appK_ok, appS_none, thenD_ag, agP_nil, agP_cons, hl, h1, k0]
    generalize hx1 : aCall T0 F_spec_RecOk _ _ = xhx1
    have hx1 := hx1.symm.trans (c_spec_RecOk _ zRec (by decide))
    subst hx1
    cases hq : recB zRec with
    | false =>
      have hn : recR ys = false := by
        cases hh : recR ys with
        | false => rfl
        | true => have := (hok.2 hh).1; rw [hq] at this; cases this
      unfold recX
      rw [hn]
      simp [thenD_pp, sliceCells_sl, sliceCells_z, sliceCells_nil, take_full, appS_sl, appK_ok, appS_none, thenD_ag, agP_nil, agP_cons, prim]
      exact sat_some ⟨rfl, List.prefix_append _ _⟩
    | true =>
      simp [thenD_pp, sliceCells_sl, sliceCells_z, sliceCells_nil, take_full, appS_sl, appK_ok, appS_none, thenD_ag, agP_nil, agP_cons]
      generalize hx1 : aCall T0 F_spec_RecOf _ _ = xhx1
      obtain ⟨v1, X1, rfl, g1⟩ := of_call hx1 (c_spec_RecOf _ zRec hq)
      clear hx1
      obtain ⟨p1, ⟨_, rfl⟩, c1⟩ := Bytes.get g1 (recT_len _)
      have pM : M <+: X1 := (List.prefix_append _ _).trans p1
      have b0 : X1[M.length]? = some ⟨_, 1, 2⟩ := get_pre p1 (by simp; rfl)
      have b1 : X1[M.length + 1]? = some ⟨_, 1, 2⟩ := get_pre p1 (by simp; rfl)
      obtain ⟨_, _, y1, y2⟩ := cells_Byte (h.mono pM)
      rw [hl] at y1 y2
      cases y1
      generalize hrt : recT zRec = rt at c1 hok
      by_cases hbq : rt = ys
      · have hn := hok.1 ⟨hq, hbq⟩
        rw [← hx hn, hn]
        clear hrt
        subst hbq
        simp [thenD_pp, sliceCells_sl, sliceCells_z, sliceCells_nil, take_full, appS_sl, appK_ok, appS_none, thenD_ag, agP_nil, agP_cons, c1, y2, toBytes_map, p1, thenD_pre, b0, b1, gs_of b0, prim, rd1_K, rdJ_ok, rdn_K, rnJ_ok, wrn_K, wrJ_ok]
        exact sat_some ⟨rfl, pf_set (Nat.le_refl _) pM⟩
      · have hn : recR ys = false := by
          cases hh : recR ys with
          | false => rfl
          | true => exact absurd (hok.2 hh).2 hbq
        unfold recX
        rw [hn]
        simp [thenD_pp, sliceCells_sl, sliceCells_z, sliceCells_nil, take_full, appS_sl, appK_ok, appS_none, thenD_ag, agP_nil, agP_cons, c1, y2, toBytes_map, p1, thenD_pre, hbq, b0, b1, gs_of b0, prim, rd1_K, rdJ_ok, rdn_K, rnJ_ok, wrn_K, wrJ_ok]
        exact sat_some ⟨rfl, pf_set (Nat.le_refl _) pM⟩
theorem topR_succ (ys : List UInt8) (n : Nat) : topR ys (n + 1) = topR ys n ++ [recX (chunkR ys n)] := by
  unfold topR
  rw [List.range_succ, List.map_append]
  rfl
theorem chunk_rep {M : Mem} {l o c n : Nat} {ys : List UInt8} (h : Rep (.sl ty_Byte) M [.slice (some ⟨l, o, none⟩) n c] ys) (i : Nat) (hi : 1 + 37 * i + 37 ≤ ys.length) (c2 : Nat) : Rep (.sl ty_Byte) M [.slice (some ⟨l, o + (1 + 37 * i), none⟩) 37 c2] (chunkR ys i) := rep_sub h _ 37 hi c2
theorem l_spec_ReplyRead_0 (M : Mem) (k : Int) (l o c : Nat) (ys : List UInt8) (t0 t1 : V) (h : Rep (.sl ty_Byte) M [.slice (some ⟨l, o, none⟩) 297 c] ys) (hl : ys.length = 297) (v : V) (X : Mem) (hX : RT M k X v []) :
    ∃ v' X', RT M k X' v' (topR ys 8) ∧ lp (aCall T0) K_spec_ReplyRead_0 L_spec_ReplyRead_0 [t0, t1, .slice (some ⟨l, o, none⟩) 297 c, und, und, und, .pointer (some ⟨M.length, 0, none⟩), und, .pointer (some ⟨M.length + 1, 0, none⟩), .int .i64 (0 : Nat), und, und, und, und, und, und, und, und, und, und, und, und, und, und, und, und, und, und, und, und, und, und, und, und, und, und, und, und, und, und, und, und, und, und, und, und, und, und, und, und, und, und, und, und, und, und, und, und, und, und, und, und, und, und, und, und, und, und, und, und, und, und, und, und, und, und, und, und, und, und, und, und, und, und, und, und, und, und, und, und, und, und, und, und, und, und, und, und, und, und, und, und, und, und, und, und] X = lp (aCall T0) K_spec_ReplyRead_0 L_spec_ReplyRead_0 [t0, t1, .slice (some ⟨l, o, none⟩) 297 c, und, und, und, .pointer (some ⟨M.length, 0, none⟩), und, .pointer (some ⟨M.length + 1, 0, none⟩), .int .i64 (8 : Nat), und, und, und, und, und, und, und, und, und, und, und, und, und, und, und, und, und, und, und, und, und, und, und, und, und, und, und, und, und, und, und, und, und, und, und, und, und, und, und, und, und, und, und, und, und, und, und, und, und, und, und, und, und, und, und, und, und, und, und, und, und, und, und, und, und, und, und, und, und, und, und, und, und, und, und, und, und, und, und, und, und, und, und, und, und, und, und, und, und, und, und, und, und, und, und, und] X' := by
  refine loop_to (call := aCall T0) (K := K_spec_ReplyRead_0) (L := L_spec_ReplyRead_0) (fun i v X => RT M k X v (topR ys i)) (fun i v => [t0, t1, .slice (some ⟨l, o, none⟩) 297 c, und, und, und, .pointer (some ⟨M.length, 0, none⟩), und, .pointer (some ⟨M.length + 1, 0, none⟩), .int .i64 i, und, und, und, und, und, und, und, und, und, und, und, und, und, und, und, und, und, und, und, und, und, und, und, und, und, und, und, und, und, und, und, und, und, und, und, und, und, und, und, und, und, und, und, und, und, und, und, und, und, und, und, und, und, und, und, und, und, und, und, und, und, und, und, und, und, und, und, und, und, und, und, und, und, und, und, und, und, und, und, und, und, und, und, und, und, und, und, und, und, und, und, und, und, und, und, und]) (n := 8) ?_ 0 v X (by omega) (by simpa [topR] using hX)
  intro i v X hi hX
  obtain ⟨n, hn1, pX, b0, b1, gX⟩ := hX
  have hn : n ≤ 8 := by rw [← hn1]; unfold topR; simp; omega
  obtain ⟨blk, hb, hbw, _⟩ := rep_blk h
  have hbw : blk.w = 1 := hbw
  have hbX := get_pre pX hb
  have e1 : IntKind.i64.wrap ((i : Int) * 37) = 37 * i := by rw [wrap_i64 (by omega) (by omega)]; omega
  have e2 : IntKind.i64.wrap (1 + 37 * (i : Int)) = 1 + 37 * i := wrap_i64 (by omega) (by omega)
  have e3 : IntKind.i64.wrap (1 + 37 * (i : Int) + 37) = 38 + 37 * i := by rw [wrap_i64 (by omega) (by omega)]; omega
  have e6 : IntKind.i64.wrap ((i : Int) + 1) = i + 1 := wrap_i64 (by omega) (by omega)
  have d1 : (0 : Int) ≤ 1 + 37 * i := by omega
  have d2 : (1 : Int) + 37 * i ≤ 38 + 37 * i := by omega
  have d3 : (38 : Int) + 37 * i ≤ 297 := by omega
  have d4 : ((1 : Int) + 37 * i).toNat = 1 + 37 * i := by omega
  have d5 : ((38 : Int) + 37 * i - (1 + 37 * i)).toNat = 37 := by omega
  have hi2 : (i : Int) < 8 := by omega
  have hr := chunk_rep (h.mono pX) i (by omega) (max 297 c - (1 + 37 * i))
  rw [S_spec_ReplyRead_0]; unfold B_spec_ReplyRead_0; simp [thenD_pp, sliceCells_sl, sliceCells_z, sliceCells_nil, take_full, appS_sl, appK_ok, appS_none, thenD_ag, agP_nil, agP_cons, hi, hi2, e1, e2, e3, d1, d2, d3, d4, d5, hbX, hbw]
  generalize hx : aCall T0 F_spec_RecRead _ _ = xhx
  obtain ⟨w1, X1, rfl, rfl, p1⟩ := of_call hx (c_spec_RecRead _ _ _ hr)
  clear hx
  have c0 := get_pre p1 b0
  have c1 := get_pre p1 b1
  have l1 := get_lt c1
  have k1 : ∀ N : Mem, rd1 (X1 ++ N) (M.length + 1) 3 = some v := fun N => rd1_old (by rw [rd1_K, c1]; rfl)
  rw [topR_succ]
  generalize recX (chunkR ys i) = rr
  obtain ⟨_, rfl⟩ := gX.shape
  simp [thenD_pp, sliceCells_sl, sliceCells_z, sliceCells_nil, take_full, appS_sl, appK_ok, appS_none, thenD_ag, agP_nil, agP_cons, k1, zeroCells]
  generalize hy : appS _ _ _ _ _ _ = xhy
  obtain ⟨a3, X3, rfl, g3, ag, l3⟩ := gX.at hy (p1.trans (List.prefix_append _ _)) (by have := get_lt b1; omega) (by rfl) (by omega) (by rfl) (by omega) (by omega)
  clear hy
  have hd : ∀ j, j < M.length + 2 → j ∉ wfs (.slice ‹_› n n) := fun j hj hm => by have := gX.ge j hm; omega
  have y0 := ag.get (get_pre' c0) (hd _ (by omega))
  have y1 := ag.get (get_pre' c1) (hd _ (by omega))
  simp [thenD_pp, sliceCells_sl, sliceCells_z, sliceCells_nil, take_full, appS_sl, appK_ok, appS_none, thenD_ag, agP_nil, agP_cons, y1, e6, rd1_K, rdJ_ok, wrn_K, wrJ_ok]
  refine ⟨_, _, ⟨n + 1, by rw [List.length_append, hn1]; rfl, pf_set (by omega) (ag.pre (pf_app (pX.trans p1)) fun j hj => by have := gX.ge j hj; omega), ?_, gs_of y1 _, ?_⟩, rfl⟩
  · rw [gt_set (by omega)]; exact y0
  · rw [List.map_append, List.flatten_append]
    simpa using g3.set (l := M.length + 1) (by omega) _
/-- The reply while its marks are read. -/
def RM (M : Mem) (k : Int) (X : Mem) (v : V) (ms : List Int) : Prop := ∃ n, ms.length = n ∧ M <+: X ∧ X[M.length]? = some ⟨zY, 1, 2⟩ ∧ X[M.length + 1]? = some ⟨[.int .i64 k, .bool false, .int .i64 0, .slice none 0 0, v], 1, 2⟩ ∧ Grow (M.length + 2) 1 X v n (ms.map (fun m => Value.int .i64 m))
theorem markR_succ (ys : List UInt8) (i : Nat) (hi : i + 1 < ys.length) : markR (ys.take (i + 2)) = markR (ys.take (i + 1)) ++ [(atN ys (i + 1) : Int)] := by
  unfold markR
  rw [List.take_succ_eq_append_getElem (by omega), List.drop_append, List.map_append]
  have : ((ys.take (i + 1)).length) = i + 1 := by rw [List.length_take]; omega
  rw [this]
  simp [atN, List.getD_eq_getElem?_getD, hi]
theorem l_spec_ReplyRead_1 (M : Mem) (k : Int) (l o c n0 : Nat) (ys : List UInt8) (t0 : V) (h : Rep (.sl ty_Byte) M [.slice (some ⟨l, o, none⟩) (n0 + 1) c] ys) (hl : ys.length = n0 + 1) (hn0 : n0 ≤ 16) (v : V) (X : Mem) (hX : RM M k X v []) :
    ∃ v' X', RM M k X' v' (markR ys) ∧ lp (aCall T0) K_spec_ReplyRead_1 L_spec_ReplyRead_1 [t0, .int .i64 n0, .slice (some ⟨l, o, none⟩) (n0 + 1) c, und, und, und, .pointer (some ⟨M.length, 0, none⟩), und, .pointer (some ⟨M.length + 1, 0, none⟩), und, und, und, und, .int .i64 (0 : Nat), und, und, und, und, und, und, und, und, und, und, und, und, und, und, und, und, und, und, und, und, und, und, und, und, und, und, und, und, und, und, und, und, und, und, und, und, und, und, und, und, und, und, und, und, und, und, und, und, und, und, und, und, und, und, und, und, und, und, und, und, und, und, und, und, und, und, und, und, und, und, und, und, und, und, und, und, und, und, und, und, und, und, und, und, und, und, und, und, und, und, und, und] X = lp (aCall T0) K_spec_ReplyRead_1 L_spec_ReplyRead_1 [t0, .int .i64 n0, .slice (some ⟨l, o, none⟩) (n0 + 1) c, und, und, und, .pointer (some ⟨M.length, 0, none⟩), und, .pointer (some ⟨M.length + 1, 0, none⟩), und, und, und, und, .int .i64 n0, und, und, und, und, und, und, und, und, und, und, und, und, und, und, und, und, und, und, und, und, und, und, und, und, und, und, und, und, und, und, und, und, und, und, und, und, und, und, und, und, und, und, und, und, und, und, und, und, und, und, und, und, und, und, und, und, und, und, und, und, und, und, und, und, und, und, und, und, und, und, und, und, und, und, und, und, und, und, und, und, und, und, und, und, und, und, und, und, und, und, und, und] X' := by
  have := loop_to (call := aCall T0) (K := K_spec_ReplyRead_1) (L := L_spec_ReplyRead_1) (fun i v X => RM M k X v (markR (ys.take (i + 1)))) (fun i v => [t0, .int .i64 n0, .slice (some ⟨l, o, none⟩) (n0 + 1) c, und, und, und, .pointer (some ⟨M.length, 0, none⟩), und, .pointer (some ⟨M.length + 1, 0, none⟩), und, und, und, und, .int .i64 i, und, und, und, und, und, und, und, und, und, und, und, und, und, und, und, und, und, und, und, und, und, und, und, und, und, und, und, und, und, und, und, und, und, und, und, und, und, und, und, und, und, und, und, und, und, und, und, und, und, und, und, und, und, und, und, und, und, und, und, und, und, und, und, und, und, und, und, und, und, und, und, und, und, und, und, und, und, und, und, und, und, und, und, und, und, und, und, und, und, und, und, und]) (n := n0) ?_ 0 v X (by omega) (by
    have : markR (ys.take 1) = [] := by apply List.length_eq_zero_iff.1; rw [markR_len, List.length_take]; omega
    rw [this]; exact hX)
  · rw [List.take_of_length_le (show ys.length ≤ n0 + 1 by omega)] at this
    exact this
  intro i v X hi hX
  obtain ⟨n, hn1, pX, b0, b1, gX⟩ := hX
  have hn : n ≤ 16 := by rw [← hn1, markR_len, List.length_take]; omega
  have q1 := r1_pre pX (at_B h (show i + 1 < ys.length by omega))
  have hb := atN_lt ys (i + 1)
  rw [markR_succ ys i (by omega)]
  generalize atN ys (i + 1) = m at q1 hb ⊢
  have e1 : IntKind.i64.wrap (1 + (i : Int)) = 1 + i := wrap_i64 (by omega) (by omega)
  have e2 : IntKind.i64.wrap (m : Int) = m := wrap_i64 (by omega) (by omega)
  have e6 : IntKind.i64.wrap ((i : Int) + 1) = i + 1 := wrap_i64 (by omega) (by omega)
  have d1 : (0 : Int) ≤ 1 + i := by omega
  have d2 : (1 : Int) + i < n0 + 1 := by omega
  have d3 : ((1 : Int) + i).toNat = i + 1 := by omega
  have k1 : rd1 X (M.length + 1) 4 = some v := by rw [rd1_K, b1]; rfl
  obtain ⟨_, rfl⟩ := gX.shape
  have hll : l < M.length := by obtain ⟨blk, hbk, _⟩ := rep_blk h; exact get_lt hbk
  have hh : hits (wfs (.slice ‹_› n n)) [l, M.length + 1] = false := hits_ge gX.ge (by simp; omega)
  rw [S_spec_ReplyRead_1]; unfold B_spec_ReplyRead_1; simp [thenD_pp, sliceCells_sl, sliceCells_z, sliceCells_nil, take_full, appS_sl, appK_ok, appS_none, thenD_ag, agP_nil, agP_cons, hi, k1, q1, e1, e2, d1, d2, d3, zeroCells]
  generalize hy : appS _ _ _ _ _ _ = xhy
  obtain ⟨a3, X3, rfl, g3, ag, l3⟩ := gX.at hy (List.prefix_append _ _) (by have := get_lt b1; omega) (by rfl) (by omega) (by rfl) (by omega) (by omega)
  clear hy
  have hd : ∀ j, j < M.length + 2 → j ∉ wfs (.slice ‹_› n n) := fun j hj hm => by have := gX.ge j hm; omega
  have y0 := ag.get (get_pre' b0) (hd _ (by omega))
  have y1 := ag.get (get_pre' b1) (hd _ (by omega))
  simp [thenD_pp, sliceCells_sl, sliceCells_z, sliceCells_nil, take_full, appS_sl, appK_ok, appS_none, thenD_ag, agP_nil, agP_cons, y1, e6, thenD_agree, ag, hh, rd1_K, rdJ_ok, wrn_K, wrJ_ok]
  refine ⟨_, _, ⟨n + 1, by rw [List.length_append, hn1]; rfl, pf_set (by omega) (ag.pre (pf_app pX) fun j hj => by have := gX.ge j hj; omega), ?_, gs_of y1 _, ?_⟩, rfl⟩
  · rw [gt_set (by omega)]; exact y0
  · rw [List.map_append]
    simpa using g3.set (l := M.length + 1) (by omega) _
/-- What ReplyRead gives. -/
def RRD (M : Mem) (r : ty_Reply.D) (b : Bool) (p : V × Mem) : Prop := ∃ (cs : List V) (L : List Nat), p.1 = .tuple #[.agg cs.toArray, .bool b] ∧ M <+: p.2 ∧ Own ty_Reply p.2 cs r L ∧ Fresh M p.2 L
theorem rrd_nil {M X : Mem} {b : Bool} (hp : M <+: X) : RRD M (0, false, 0, [], []) b (.tuple #[.agg zY.toArray, .bool b], X) :=
  ⟨zY, [], rfl, hp, by
    have := mkown_g_Reply (M := X) (x := ((0 : Int), false, (0 : Int), ([] : List ty_Rec.D), ([] : List Int))) (u0 := .slice none 0 0) (u1 := .slice none 0 0) (L0 := []) (L1 := []) (by decide) (by decide) (.inl ⟨rfl, rfl, .inl ⟨rfl, rfl⟩⟩) (.inl ⟨rfl, rfl, .inl ⟨rfl, rfl⟩⟩)
    exact this, by simp, by simp⟩
structure RSt (M X : Mem) (k : Int) (f : Bool) (w : Int) (v u : V) (top : List ty_Rec.D) (marks : List Int) (L1 L2 : List Nat) : Prop where
  pre : M <+: X
  b0 : X[M.length]? = some ⟨zY, 1, 2⟩
  b1 : X[M.length + 1]? = some ⟨[.int .i64 k, .bool f, .int .i64 w, v, u], 1, 2⟩
  o1 : Own (.sl ty_Rec) X [v] top L1
  o2 : Own (.sl ty_Int) X [u] marks L2
  nd : (L1 ++ L2).Nodup
  ge : ∀ j ∈ L1 ++ L2, M.length + 2 ≤ j
theorem RSt.grow {M X X2 : Mem} {k : Int} {f : Bool} {w : Int} {v u : V} {top : List ty_Rec.D} {marks : List Int} {L1 L2 : List Nat} (h : RSt M X k f w v u top marks L1 L2) (hp : X <+: X2) : RSt M X2 k f w v u top marks L1 L2 :=
  ⟨h.pre.trans hp, get_pre hp h.b0, get_pre hp h.b1, h.o1.grow hp, h.o2.grow hp, h.nd, h.ge⟩
theorem RSt.done {M X : Mem} {k : Int} {f : Bool} {w : Int} {v u : V} {top : List ty_Rec.D} {marks : List Int} {L1 L2 : List Nat} (h : RSt M X k f w v u top marks L1 L2) (hk : 0 ≤ k ∧ k ≤ 255) (hw : 0 ≤ w ∧ w ≤ 65535) (b : Bool) :
    RRD M (k, f, w, top, marks) b (.tuple #[.agg #[.int .i64 k, .bool f, .int .i64 w, v, u], .bool b], X.set M.length ⟨[.int .i64 k, .bool f, .int .i64 w, v, u], 1, 2⟩) := by
  have hl := get_lt h.b0
  refine ⟨[.int .i64 k, .bool f, .int .i64 w, v, u], L1 ++ L2, rfl, pf_set (Nat.le_refl _) h.pre, ?_, h.nd, fun l hl2 => ?_⟩
  · have g1 : Own (.sl ty_Rec) (X.set M.length ⟨[.int .i64 k, .bool f, .int .i64 w, v, u], 1, 2⟩) [v] top L1 := h.o1.set (b2 := ⟨[.int .i64 k, .bool f, .int .i64 w, v, u], 1, 2⟩) h.b0 rfl (fun hm => by have := h.ge _ (List.mem_append_left _ hm); omega)
    have g2 : Own (.sl ty_Int) (X.set M.length ⟨[.int .i64 k, .bool f, .int .i64 w, v, u], 1, 2⟩) [u] marks L2 := h.o2.set (b2 := ⟨[.int .i64 k, .bool f, .int .i64 w, v, u], 1, 2⟩) h.b0 rfl (fun hm => by have := h.ge _ (List.mem_append_right _ hm); omega)
    exact mkown_g_Reply (x := ((k, f, w, top, marks) : ty_Reply.D)) (show (Lit.int .i64 k).wf = true from wf_range ⟨by omega, by omega⟩) (show (Lit.int .i64 w).wf = true from wf_range ⟨by omega, by omega⟩) g1 g2
  · have := h.ge l hl2
    refine ⟨by omega, ?_⟩
    rw [List.length_set]
    rcases List.mem_append.1 hl2 with hm | hm
    · exact own_lt h.o1 l hm
    · exact own_lt h.o2 l hm
theorem rt_st {M X : Mem} {k : Int} {v : V} {top : List ty_Rec.D} (h : RT M k X v top) (hok : ∀ r ∈ top, (-9223372036854775808 ≤ r.2.1 ∧ r.2.1 ≤ 9223372036854775807) ∧ (-9223372036854775808 ≤ r.2.2.1 ∧ r.2.2.1 ≤ 9223372036854775807)) : ∃ L1, RSt M X k false 0 v (.slice none 0 0) top [] L1 [] := by
  obtain ⟨n, rfl, hp, b0, b1, hg⟩ := h
  obtain ⟨hl, hg⟩ := hg
  rcases hg with ⟨rfl, h0⟩ | ⟨l, hl2, rfl, hb⟩
  · have : top = [] := List.length_eq_zero_iff.1 h0
    subst this
    exact ⟨[], hp, b0, b1, .inl ⟨rfl, rfl, .inl ⟨rfl, rfl⟩⟩, .inl ⟨rfl, rfl, .inl ⟨rfl, rfl⟩⟩, by simp, by simp⟩
  · obtain ⟨L, o1, o2⟩ := own_blk (t := ty_Rec) (M := X) (l := l) (c := top.length) (enc := enc_Rec) (ys := top) hb (fun y hy => own_Rec X y (wf_range (hok y hy).1) (wf_range (hok y hy).2))
    refine ⟨L, hp, b0, b1, o1, .inl ⟨rfl, rfl, .inl ⟨rfl, rfl⟩⟩, by rw [List.append_nil]; exact nodup_flat ownf_Rec o1, fun j hj => ?_⟩
    rw [List.append_nil] at hj
    rw [o2 j hj]
    exact hl2
theorem ownf_Int (M : Mem) (cs : List V) (x : ty_Int.D) (K : List Nat) (h : Own ty_Int M cs x K) : K = [] := h.2
theorem rm_st {M X : Mem} {k : Int} {v : V} {ms : List Int} (h : RM M k X v ms) (hok : ∀ m ∈ ms, -9223372036854775808 ≤ m ∧ m ≤ 9223372036854775807) : ∃ L2, RSt M X k false 0 (.slice none 0 0) v [] ms [] L2 := by
  obtain ⟨n, rfl, hp, b0, b1, hg⟩ := h
  obtain ⟨hl, hg⟩ := hg
  rcases hg with ⟨rfl, h0⟩ | ⟨l, hl2, rfl, hb⟩
  · have : ms = [] := List.length_eq_zero_iff.1 h0
    subst this
    exact ⟨[], hp, b0, b1, .inl ⟨rfl, rfl, .inl ⟨rfl, rfl⟩⟩, .inl ⟨rfl, rfl, .inl ⟨rfl, rfl⟩⟩, by simp, by simp⟩
  · obtain ⟨L, o1, o2⟩ := own_blk (t := ty_Int) (M := X) (l := l) (c := ms.length) (enc := enc_Int) (ys := ms) (by rw [flat_Int]; exact hb) (fun y hy => ⟨⟨rfl, wf_range (hok y hy)⟩, rfl⟩)
    refine ⟨L, hp, b0, b1, .inl ⟨rfl, rfl, .inl ⟨rfl, rfl⟩⟩, o1, by rw [List.nil_append]; exact nodup_flat ownf_Int o1, fun j hj => ?_⟩
    rw [List.nil_append] at hj
    rw [o2 j hj]
    exact hl2
theorem markR_bd (ys : List UInt8) : ∀ m ∈ markR ys, (0 : Int) ≤ m ∧ m ≤ 255 := by
  intro m hm
  unfold markR at hm
  obtain ⟨b, _, rfl⟩ := List.mem_map.1 hm
  have := b.toNat_lt
  omega
theorem own_none {t : Ty} {M : Mem} : Own (.sl t) M [.slice none 0 0] [] [] := .inl ⟨rfl, rfl, .inl ⟨rfl, rfl⟩⟩
theorem rs_new {M : Mem} {k : Int} {f : Bool} {w : Int} : RSt M (M ++ [⟨zY, 1, 2⟩, ⟨[.int .i64 k, .bool f, .int .i64 w, .slice none 0 0, .slice none 0 0], 1, 2⟩]) k f w (.slice none 0 0) (.slice none 0 0) [] [] [] [] :=
  ⟨List.prefix_append _ _, by simp, by simp, own_none, own_none, by simp, by simp⟩
end GoAm
