/- What the functions do that the law reaches; and the law. -/
import Derived.Test.YtdljidfkiopiiaaReqsOkt
import Derived.Test.YtdljidfkiopiiaaAmSl
set_option autoImplicit false
set_option linter.unusedVariables false
set_option linter.unusedSimpArgs false
namespace GoAm
open Go
theorem c_impl_within (M : Mem) (x a b : Int) : aCall T0 F_impl_within [.int .i64 x, .int .i64 a, .int .i64 b] M = some (.bool (decide (a ≤ x) && decide (x ≤ b)), M) := by
  rw [aCall_eq T_impl_within]; unfold A_impl_within C_impl_within; simp
  repeat' ((first | rw [selO_some] | rw [condR_bool] | rw [selD_some]); split <;> rename_i hq <;> (have hq2 := hq) <;> (try simp at hq2) <;> (try simp [*]))
def shapeB (k s : Int) : Bool := if k = 6 then decide (1 ≤ s) && decide (s ≤ 16) else decide (1 ≤ k) && decide (k ≤ 5) && decide (s = 0)
theorem c_impl_isShape (M : Mem) (k s : Int) : aCall T0 F_impl_isShape [.int .i64 k, .int .i64 s] M = some (.bool (shapeB k s), M) := by
  unfold shapeB
  rw [aCall_eq T_impl_isShape]; unfold A_impl_isShape C_impl_isShape; simp [c_impl_within]
  repeat' ((first | rw [selO_some] | rw [condR_bool] | rw [selD_some]); split <;> rename_i hq <;> (have hq2 := hq) <;> (try simp at hq2) <;> (try simp [*, c_impl_within]))
def shapeB2 (k s : Int) : Bool := if k = 6 then decide (1 ≤ s) && decide (s ≤ 16) else decide (1 ≤ k) && decide (k ≤ 6) && decide (s = 0)
theorem shapeB2_eq (k s : Int) : shapeB2 k s = shapeB k s := by
  unfold shapeB2 shapeB
  split
  · rfl
  · rw [show decide (k ≤ 6) = decide (k ≤ 5) from decide_eq_decide.2 (by omega)]
theorem c_spec_l18Shape (M : Mem) (k s : Int) : aCall T0 F_spec_l18Shape [.int .i64 k, .int .i64 s] M = some (.bool (shapeB k s), M) := by
  rw [← shapeB2_eq]
  unfold shapeB2
  rw [aCall_eq T_spec_l18Shape]; unfold A_spec_l18Shape C_spec_l18Shape; simp
  repeat' ((first | rw [selO_some] | rw [condR_bool] | rw [selD_some]); split <;> rename_i hq <;> (have hq2 := hq) <;> (try simp at hq2) <;> (try simp [*]))
abbrev reqCs (k : Int) (w : List UInt8) (wt d n s : Int) (t : List UInt8) : List V := [.int .i64 k, strV w, .int .i64 wt, .int .i64 d, .int .i64 n, .int .i64 s, strV t]
def reqOkB (k s : Int) (w t : List UInt8) : Bool := shapeB k s && decide ((w.length : Int) ≤ 100) && decide ((t.length : Int) ≤ 2000)
theorem c_impl_isReq (M : Mem) (k : Int) (w : List UInt8) (wt d n s : Int) (t : List UInt8) : aCall T0 F_impl_isReq [.agg (reqCs k w wt d n s t).toArray] M = some (.bool (reqOkB k s w t), M) := by
  unfold reqOkB
  rw [aCall_eq T_impl_isReq]; unfold A_impl_isReq C_impl_isReq; simp [c_impl_isShape]
  repeat' ((first | rw [selO_some] | rw [condR_bool] | rw [selD_some]); split <;> rename_i hq <;> (have hq2 := hq) <;> (try simp at hq2) <;> (try simp [*, c_impl_isShape]))
theorem c_spec_ReqOk (M : Mem) (k : Int) (w : List UInt8) (wt d n s : Int) (t : List UInt8) : aCall T0 F_spec_ReqOk [.agg (reqCs k w wt d n s t).toArray] M = some (.bool (reqOkB k s w t), M) := by
  unfold reqOkB
  rw [aCall_eq T_spec_ReqOk]; unfold A_spec_ReqOk C_spec_ReqOk; simp [c_spec_l18Shape]
  repeat' ((first | rw [selO_some] | rw [condR_bool] | rw [selD_some]); split <;> rename_i hq <;> (have hq2 := hq) <;> (try simp at hq2) <;> (try simp [*, c_spec_l18Shape]))
abbrev ty_Req : Ty := .pr (.int .i64) (.pr .str (.pr (.int .i64) (.pr (.int .i64) (.pr (.int .i64) (.pr (.int .i64) .str)))))
abbrev enc_Req (x : ty_Req.D) : List V := [.int .i64 x.1, strV x.2.1, .int .i64 x.2.2.1, .int .i64 x.2.2.2.1, .int .i64 x.2.2.2.2.1, .int .i64 x.2.2.2.2.2.1, strV x.2.2.2.2.2.2]
theorem rep_Req {M : Mem} {cs : List V} {x : ty_Req.D} (h : Rep ty_Req M cs x) : cs = enc_Req x := by
  obtain ⟨_, _, rfl, ⟨rfl, _⟩, ⟨_, _, rfl, rfl, ⟨_, _, rfl, ⟨rfl, _⟩, ⟨_, _, rfl, ⟨rfl, _⟩, ⟨_, _, rfl, ⟨rfl, _⟩, ⟨_, _, rfl, ⟨rfl, _⟩, rfl⟩⟩⟩⟩⟩⟩ := h
  rfl
theorem repi_Req {M M2 : Mem} {cs : List V} {x : ty_Req.D} (h : Rep ty_Req M cs x) : Rep ty_Req M2 (enc_Req x) x := by
  obtain ⟨_, _, rfl, ⟨rfl, w0⟩, ⟨_, _, rfl, rfl, ⟨_, _, rfl, ⟨rfl, w2⟩, ⟨_, _, rfl, ⟨rfl, w3⟩, ⟨_, _, rfl, ⟨rfl, w4⟩, ⟨_, _, rfl, ⟨rfl, w5⟩, rfl⟩⟩⟩⟩⟩⟩ := h
  exact ⟨[.int .i64 x.1], [strV x.2.1, .int .i64 x.2.2.1, .int .i64 x.2.2.2.1, .int .i64 x.2.2.2.2.1, .int .i64 x.2.2.2.2.2.1, strV x.2.2.2.2.2.2], rfl, ⟨rfl, w0⟩, ⟨[strV x.2.1], [.int .i64 x.2.2.1, .int .i64 x.2.2.2.1, .int .i64 x.2.2.2.2.1, .int .i64 x.2.2.2.2.2.1, strV x.2.2.2.2.2.2], rfl, rfl, ⟨[.int .i64 x.2.2.1], [.int .i64 x.2.2.2.1, .int .i64 x.2.2.2.2.1, .int .i64 x.2.2.2.2.2.1, strV x.2.2.2.2.2.2], rfl, ⟨rfl, w2⟩, ⟨[.int .i64 x.2.2.2.1], [.int .i64 x.2.2.2.2.1, .int .i64 x.2.2.2.2.2.1, strV x.2.2.2.2.2.2], rfl, ⟨rfl, w3⟩, ⟨[.int .i64 x.2.2.2.2.1], [.int .i64 x.2.2.2.2.2.1, strV x.2.2.2.2.2.2], rfl, ⟨rfl, w4⟩, ⟨[.int .i64 x.2.2.2.2.2.1], [strV x.2.2.2.2.2.2], rfl, ⟨rfl, w5⟩, rfl⟩⟩⟩⟩⟩⟩
instance d_Req : DecidableEq ty_Req.D := Ty.deq ty_Req
theorem deq_Req (x y : ty_Req.D) : decide (x = y) = (decide (x.1 = y.1) && (decide (x.2.1 = y.2.1) && (decide (x.2.2.1 = y.2.2.1) && (decide (x.2.2.2.1 = y.2.2.2.1) && (decide (x.2.2.2.2.1 = y.2.2.2.2.1) && (decide (x.2.2.2.2.2.1 = y.2.2.2.2.2.1) && (decide (x.2.2.2.2.2.2 = y.2.2.2.2.2.2)))))))) := by
  obtain ⟨x0, x1, x2, x3, x4, x5, x6⟩ := x
  obtain ⟨y0, y1, y2, y3, y4, y5, y6⟩ := y
  simp
theorem c_laws_eqReq (M : Mem) (x y : ty_Req.D) : aCall T0 F_laws_eqReq [.agg (enc_Req x).toArray, .agg (enc_Req y).toArray] M = some (.bool (decide (x = y)), M) := by
  rw [deq_Req]
  rw [aCall_eq T_laws_eqReq]; unfold A_laws_eqReq C_laws_eqReq; simp
  repeat' ((first | rw [selO_some] | rw [condR_bool] | rw [selD_some]); split <;> rename_i hq <;> (have hq2 := hq) <;> (try simp at hq2) <;> (try simp [*]))
theorem c_laws_toReq_f (M : Mem) (x : ty_Req.D) : aCall T0 F_laws_toReq [.agg (enc_Req x).toArray] M = some (.agg (enc_Req x).toArray, M) := by
  rw [aCall_eq T_laws_toReq]; unfold A_laws_toReq C_laws_toReq; simp
def z_Req : List V := [(.int .i64 0), (.string ⟨#[]⟩), (.int .i64 0), (.int .i64 0), (.int .i64 0), (.int .i64 0), (.string ⟨#[]⟩)]
theorem r_laws_toReqS (M : Mem) (a : Option Addr) (c : Nat) (xs : List ty_Req.D) (h : Rep (.sl ty_Req) M [.slice a xs.length c] xs) (hn : xs.length ≤ 1048576) (i : Nat) (hi : i < xs.length) :
    lp (aCall T0) K_laws_toReqS_0 L_laws_toReqS_0 [.slice a xs.length c, und, und, .slice (some ⟨M.length, 0, none⟩) xs.length xs.length, .int .i64 i, und, und, und, und, und, und, und, und, und, und, und, und, und, und, und, und, und, und] (M ++ [⟨tcells enc_Req z_Req xs i, 7, 2⟩]) =
    lp (aCall T0) K_laws_toReqS_0 L_laws_toReqS_0 [.slice a xs.length c, und, und, .slice (some ⟨M.length, 0, none⟩) xs.length xs.length, .int .i64 (i + 1 : Nat), und, und, und, und, und, und, und, und, und, und, und, und, und, und, und, und, und, und] (M ++ [⟨tcells enc_Req z_Req xs (i + 1), 7, 2⟩]) := by
  obtain ⟨_, l, o, rfl, cs, hrd, hrep⟩ := rep_at h hi
  have hcs := rep_Req hrep
  subst hcs
  have hrd2 : rdn (M ++ [⟨tcells enc_Req z_Req xs i, 7, 2⟩]) l (o + i * 7) 7 = some (enc_Req xs[i]) := rdn_old hrd
  have e2 := tcells_len (enc := enc_Req) (z := z_Req) (xs := xs) (fun x _ => rfl) (i := i) (by omega)
  have e3 := tcells_step (enc := enc_Req) (z := z_Req) (xs := xs) (fun x _ => rfl) hi
  have e4 : z_Req.length = 7 := rfl
  rw [e4] at e2 e3
  have e5 : i * 7 + 7 ≤ xs.length * 7 := by omega
  have e6 : IntKind.i64.wrap ((i : Int) + 1) = i + 1 := wrap_i64 (by omega) (by omega)
  have e7 : (i : Int) < xs.length := by omega
  unfold splice at e3
  simp at e3
  have ec := fun M => c_laws_toReq_f M xs[i]
  rw [S_laws_toReqS_0]; unfold B_laws_toReqS_0; simp [hrd2, ec, e2, e3, e5, e6, hi]
theorem c_laws_toReqS (M : Mem) (v : V) (xs : List ty_Req.D) (h : Rep (.sl ty_Req) M [v] xs) (hn : xs.length ≤ 1048576) :
    aCall T0 F_laws_toReqS [v] M = some (.slice (some ⟨M.length, 0, none⟩) xs.length xs.length, M ++ [⟨(xs.map enc_Req).flatten, 7, 2⟩]) := by
  obtain ⟨a, c, rfl⟩ := h.slen
  have hl := chain (g := fun i : Nat => lp (aCall T0) K_laws_toReqS_0 L_laws_toReqS_0 [.slice a xs.length c, und, und, .slice (some ⟨M.length, 0, none⟩) xs.length xs.length, .int .i64 i, und, und, und, und, und, und, und, und, und, und, und, und, und, und, und, und, und, und] (M ++ [⟨tcells enc_Req z_Req xs i, 7, 2⟩])) (n := xs.length) fun i hi => r_laws_toReqS M a c xs h hn i hi
  simp only [Int.natCast_zero, Int.ofNat_zero, tcells_zero, tcells_full] at hl
  unfold z_Req at hl
  have e1 : (xs.length : Int) * 72 ≤ 281474976710656 := by omega
  have e2 : (xs.length : Int) ≤ 9223372036854775807 := by omega
  rw [aCall_eq T_laws_toReqS]; unfold A_laws_toReqS C_laws_toReqS; simp [e1, e2]
  rw [hl]
  rw [S_laws_toReqS_0]; unfold B_laws_toReqS_0; simp
theorem rep_toReqS {M M2 : Mem} {v : V} {xs : List ty_Req.D} (h : Rep (.sl ty_Req) M [v] xs) : Rep (.sl ty_Req) (M2 ++ [⟨(xs.map enc_Req).flatten, 7, 2⟩]) [.slice (some ⟨M2.length, 0, none⟩) xs.length xs.length] xs := by
  refine rep_made fun x hx => ?_
  obtain ⟨i, hi, rfl⟩ := List.getElem_of_mem hx
  obtain ⟨a, c, rfl⟩ := h.slen
  obtain ⟨_, l, o, rfl, cs, hrd, hrep⟩ := rep_at h hi
  exact repi_Req hrep
theorem r_laws_eqReqS (M : Mem) (a b : Option Addr) (c d : Nat) (xs ys : List ty_Req.D) (h : Rep (.sl ty_Req) M [.slice a xs.length c] xs) (h2 : Rep (.sl ty_Req) M [.slice b ys.length d] ys) (hn : xs.length ≤ 9223372036854775807) (i : Nat) (hi : i < xs.length) (hj : i < ys.length) (he : xs[i] = ys[i]) :
    lp (aCall T0) K_laws_eqReqS_0 L_laws_eqReqS_0 [.slice a xs.length c, .slice b ys.length d, und, und, und, .int .i64 i, und, und, und, und, und, und, und, und, und, und, und, und, und, und, und, und, und, und, und, und, und] M = lp (aCall T0) K_laws_eqReqS_0 L_laws_eqReqS_0 [.slice a xs.length c, .slice b ys.length d, und, und, und, .int .i64 (i + 1 : Nat), und, und, und, und, und, und, und, und, und, und, und, und, und, und, und, und, und, und, und, und, und] M := by
  obtain ⟨_, l, o, rfl, cs, hrd, hrep⟩ := rep_at h hi
  obtain ⟨_, l2, o2, rfl, ds, hrd2, hrep2⟩ := rep_at h2 hj
  have hcs := rep_Req hrep
  subst hcs
  have hds := rep_Req hrep2
  subst hds
  have hw : ty_Req.w = 7 := rfl
  rw [hw] at hrd hrd2
  have e6 : IntKind.i64.wrap ((i : Int) + 1) = i + 1 := wrap_i64 (by omega) (by omega)
  have ec := fun M => c_laws_eqReq M ys[i] ys[i]
  rw [S_laws_eqReqS_0]; unfold B_laws_eqReqS_0; simp [hrd, hrd2, ec, e6, hi, hj, he]
theorem x_laws_eqReqS (M : Mem) (a b : Option Addr) (c d : Nat) (xs ys : List ty_Req.D) (h : Rep (.sl ty_Req) M [.slice a xs.length c] xs) (h2 : Rep (.sl ty_Req) M [.slice b ys.length d] ys) (hn : xs.length ≤ 9223372036854775807) (i : Nat) (hi : i < xs.length) (hj : i < ys.length) (he : xs[i] ≠ ys[i]) (k : ACode) :
    thenF M [.tmp 4] (thenS (blockR 0 (lp (aCall T0) K_laws_eqReqS_0 L_laws_eqReqS_0 [.slice a xs.length c, .slice b ys.length d, und, und, und, .int .i64 i, und, und, und, und, und, und, und, und, und, und, und, und, und, und, und, und, und, und, und, und, und] M)) (aCall T0) k) = some (.bool false, M) := by
  obtain ⟨_, l, o, rfl, cs, hrd, hrep⟩ := rep_at h hi
  obtain ⟨_, l2, o2, rfl, ds, hrd2, hrep2⟩ := rep_at h2 hj
  have hcs := rep_Req hrep
  subst hcs
  have hds := rep_Req hrep2
  subst hds
  have hw : ty_Req.w = 7 := rfl
  rw [hw] at hrd hrd2
  have ec := fun M => c_laws_eqReq M xs[i] ys[i]
  rw [S_laws_eqReqS_0]; unfold B_laws_eqReqS_0; simp [hrd, hrd2, ec, hi, hj, he]
theorem c_laws_eqReqS (M : Mem) (v u : V) (xs ys : List ty_Req.D) (h : Rep (.sl ty_Req) M [v] xs) (h2 : Rep (.sl ty_Req) M [u] ys) (hn : xs.length ≤ 9223372036854775807) : aCall T0 F_laws_eqReqS [v, u] M = some (.bool (decide (xs = ys)), M) := by
  obtain ⟨a, c, rfl⟩ := h.slen
  obtain ⟨b, d, rfl⟩ := h2.slen
  by_cases hl : xs.length = ys.length
  · rcases list_eq_iff hl with he | ⟨j, hj, h3, h4⟩
    · subst he
      have hc := chain (g := fun i : Nat => lp (aCall T0) K_laws_eqReqS_0 L_laws_eqReqS_0 [.slice a xs.length c, .slice b xs.length d, und, und, und, .int .i64 i, und, und, und, und, und, und, und, und, und, und, und, und, und, und, und, und, und, und, und, und, und] M) (n := xs.length) fun i hi => r_laws_eqReqS M a b c d xs xs h h2 hn i hi hi rfl
      simp only [Int.natCast_zero, Int.ofNat_zero] at hc
      rw [aCall_eq T_laws_eqReqS]; unfold A_laws_eqReqS C_laws_eqReqS; simp [hc]
      rw [S_laws_eqReqS_0]; unfold B_laws_eqReqS_0; simp
    · have hc := chain (g := fun i : Nat => lp (aCall T0) K_laws_eqReqS_0 L_laws_eqReqS_0 [.slice a xs.length c, .slice b ys.length d, und, und, und, .int .i64 i, und, und, und, und, und, und, und, und, und, und, und, und, und, und, und, und, und, und, und, und, und] M) (n := j) fun i hi => r_laws_eqReqS M a b c d xs ys h h2 hn i (by omega) (by omega) (h3 i (by omega) hi)
      simp only [Int.natCast_zero, Int.ofNat_zero] at hc
      have hx := x_laws_eqReqS M a b c d xs ys h h2 hn j hj (by omega) h4
      have hne : xs ≠ ys := fun e => h4 (by simp [e])
      simp only [← hl] at hc hx
      simp only [← hl]
      rw [aCall_eq T_laws_eqReqS]; unfold A_laws_eqReqS C_laws_eqReqS; simp [hc, hx, hne]
  · have hne : xs ≠ ys := fun e => hl (by rw [e])
    have hl2 : ¬ ((xs.length : Int) = ys.length) := by omega
    rw [aCall_eq T_laws_eqReqS]; unfold A_laws_eqReqS C_laws_eqReqS; simp [hl2, hl, hne]
def sz_Req (x : ty_Req.D) : Int := (x.2.1.length : Int) + (x.2.2.2.2.2.2.length : Int)
def szs_Req : List ty_Req.D → Int
  | [] => 0
  | x :: xs => sz_Req x + szs_Req xs
theorem szs_pos_Req : ∀ xs, 0 ≤ szs_Req xs
  | [] => by simp [szs_Req]
  | x :: xs => by have := szs_pos_Req xs; unfold szs_Req sz_Req; omega
theorem z_laws_szReq (M : Mem) (x : ty_Req.D) (left : Int) (h0 : 0 ≤ left) (h1 : left ≤ 1048576) (f0 : x.2.1.length ≤ 9223372036854775807) (f1 : x.2.2.2.2.2.2.length ≤ 9223372036854775807) : ∃ l : Int, aCall T0 F_laws_szReq [.agg (enc_Req x).toArray, .int .i64 left] M = some (.int .i64 l, M) ∧ (0 ≤ l → sz_Req x + l ≤ left) := by
  unfold sz_Req
  have w0 : -9223372036854775808 ≤ left - (x.2.1.length : Int) ∧ left - (x.2.1.length : Int) ≤ 9223372036854775807 := by omega
  have e0 : IntKind.i64.wrap (left - (x.2.1.length : Int)) = left - (x.2.1.length : Int) := wrap_i64 w0.1 w0.2
  by_cases c0 : left - (x.2.1.length : Int) < 0
  · refine ⟨-1, ?_, by omega⟩
    rw [aCall_eq T_laws_szReq]; unfold A_laws_szReq C_laws_szReq; simp [e0, c0]
  have w1 : -9223372036854775808 ≤ left - (x.2.1.length : Int) - (x.2.2.2.2.2.2.length : Int) ∧ left - (x.2.1.length : Int) - (x.2.2.2.2.2.2.length : Int) ≤ 9223372036854775807 := by omega
  have e1 : IntKind.i64.wrap (left - (x.2.1.length : Int) - (x.2.2.2.2.2.2.length : Int)) = left - (x.2.1.length : Int) - (x.2.2.2.2.2.2.length : Int) := wrap_i64 w1.1 w1.2
  by_cases c1 : left - (x.2.1.length : Int) - (x.2.2.2.2.2.2.length : Int) < 0
  · refine ⟨-1, ?_, by omega⟩
    rw [aCall_eq T_laws_szReq]; unfold A_laws_szReq C_laws_szReq; simp [e0, e1, c0, c1]
  refine ⟨left - (x.2.1.length : Int) - (x.2.2.2.2.2.2.length : Int), ?_, by omega⟩
  rw [aCall_eq T_laws_szReq]; unfold A_laws_szReq C_laws_szReq; simp [e0, e1, c0, c1]
theorem l_laws_szReqS (M : Mem) (a : Option Addr) (c : Nat) (xs : List ty_Req.D) (h : Rep (.sl ty_Req) M [.slice a xs.length c] xs) (hn : xs.length ≤ 1048576) (f0 : ∀ x ∈ xs, x.2.1.length ≤ 9223372036854775807) (f1 : ∀ x ∈ xs, x.2.2.2.2.2.2.length ≤ 9223372036854775807) : ∀ (k i : Nat) (left : Int), i + k = xs.length → 0 ≤ left → left ≤ 1048576 →
    (∃ (l l2 : Int) (j : Nat), ∃ hj : j < xs.length, aCall T0 F_laws_szReq [.agg (enc_Req xs[j]).toArray, .int .i64 l] M = some (.int .i64 l2, M) ∧ l2 < 0 ∧ lp (aCall T0) K_laws_szReqS_0 L_laws_szReqS_0 [.slice a xs.length c, .int .i64 left, und, und, und, .int .i64 i, und, und, und, und, und, und, und, und, und, und, und, und, und, und, und, und, und, und, und, und, und] M = lp (aCall T0) K_laws_szReqS_0 L_laws_szReqS_0 [.slice a xs.length c, .int .i64 l, und, und, und, .int .i64 j, und, und, und, und, und, und, und, und, und, und, und, und, und, und, und, und, und, und, und, und, und] M) ∨
    (∃ l : Int, 0 ≤ l ∧ szs_Req (xs.drop i) + l ≤ left ∧ lp (aCall T0) K_laws_szReqS_0 L_laws_szReqS_0 [.slice a xs.length c, .int .i64 left, und, und, und, .int .i64 i, und, und, und, und, und, und, und, und, und, und, und, und, und, und, und, und, und, und, und, und, und] M = lp (aCall T0) K_laws_szReqS_0 L_laws_szReqS_0 [.slice a xs.length c, .int .i64 l, und, und, und, .int .i64 xs.length, und, und, und, und, und, und, und, und, und, und, und, und, und, und, und, und, und, und, und, und, und] M)
  | 0, i, left, hi, h0, h1 => by
    right
    have e : xs.drop i = [] := List.drop_eq_nil_of_le (by omega)
    have e2 : i = xs.length := by omega
    refine ⟨left, h0, by rw [e]; simp [szs_Req], ?_⟩
    rw [e2]
  | k + 1, i, left, hi', h0, h1 => by
    have hi : i < xs.length := by omega
    obtain ⟨l', hl1, hl2⟩ := z_laws_szReq M xs[i] left h0 h1 (f0 xs[i] (List.getElem_mem hi)) (f1 xs[i] (List.getElem_mem hi))
    by_cases hl0 : l' < 0
    · exact .inl ⟨left, l', i, hi, hl1, hl0, rfl⟩
    · obtain ⟨_, l, o, rfl, cs, hrd, hrep⟩ := rep_at h hi
      have hcs := rep_Req hrep
      subst hcs
      have hw : ty_Req.w = 7 := rfl
      rw [hw] at hrd
      have e6 : IntKind.i64.wrap ((i : Int) + 1) = i + 1 := wrap_i64 (by omega) (by omega)
      have hd : xs.drop i = xs[i] :: xs.drop (i + 1) := (List.drop_eq_getElem_cons hi)
      have hz : 0 ≤ sz_Req xs[i] := by unfold sz_Req; omega
      have ih := l_laws_szReqS M (some ⟨l, o, none⟩) c xs h hn f0 f1 k (i + 1) l' (by omega) (by omega) (by have := hl2 (by omega); omega)
      have e7 : lp (aCall T0) K_laws_szReqS_0 L_laws_szReqS_0 [.slice (some ⟨l, o, none⟩) xs.length c, .int .i64 left, und, und, und, .int .i64 i, und, und, und, und, und, und, und, und, und, und, und, und, und, und, und, und, und, und, und, und, und] M = lp (aCall T0) K_laws_szReqS_0 L_laws_szReqS_0 [.slice (some ⟨l, o, none⟩) xs.length c, .int .i64 l', und, und, und, .int .i64 (i + 1 : Nat), und, und, und, und, und, und, und, und, und, und, und, und, und, und, und, und, und, und, und, und, und] M := by
        rw [S_laws_szReqS_0]; unfold B_laws_szReqS_0; simp [hrd, hl1, hl0, hi, e6]
      rw [e7, hd]
      rcases ih with ih | ⟨l3, h3, h4, h5⟩
      · exact .inl ih
      · refine .inr ⟨l3, h3, ?_, h5⟩
        have := hl2 (by omega)
        simp only [szs_Req]
        omega
theorem c_laws_szReqS (M : Mem) (v : V) (xs : List ty_Req.D) (h : Rep (.sl ty_Req) M [v] xs) (left : Int) (h0 : 0 ≤ left) (h1 : left ≤ 1048576) (hx : xs.length ≤ 9223372036854775807) (f0 : ∀ x ∈ xs, x.2.1.length ≤ 9223372036854775807) (f1 : ∀ x ∈ xs, x.2.2.2.2.2.2.length ≤ 9223372036854775807) :
    ∃ l : Int, aCall T0 F_laws_szReqS [v, .int .i64 left] M = some (.int .i64 l, M) ∧ (0 ≤ l → xs.length + szs_Req xs + l ≤ left) := by
  obtain ⟨a, c, rfl⟩ := h.slen
  have e0 : IntKind.i64.wrap (left - xs.length) = left - xs.length := wrap_i64 (by omega) (by omega)
  by_cases hc : left - (xs.length : Int) < 0
  · refine ⟨-1, ?_, by omega⟩
    rw [aCall_eq T_laws_szReqS]; unfold A_laws_szReqS C_laws_szReqS; simp [e0, hc]
  · rcases l_laws_szReqS M a c xs h (by omega) f0 f1 xs.length 0 (left - xs.length) (by omega) (by omega) (by omega) with ⟨l, l2, j, hj, h3, h4, hl⟩ | ⟨l, h3, h4, hl⟩
    · simp only [Int.natCast_zero, Int.ofNat_zero] at hl
      obtain ⟨_, p, o, rfl, cs, hrd, hrep⟩ := rep_at h hj
      have hcs := rep_Req hrep
      subst hcs
      have hw : ty_Req.w = 7 := rfl
      rw [hw] at hrd
      refine ⟨-1, ?_, by omega⟩
      rw [aCall_eq T_laws_szReqS]; unfold A_laws_szReqS C_laws_szReqS; simp [e0, hc, hl]
      rw [S_laws_szReqS_0]; unfold B_laws_szReqS_0; simp [hrd, hj, h3, h4]
    · simp only [Int.natCast_zero, Int.ofNat_zero, List.drop_zero] at hl h4
      refine ⟨l, ?_, by omega⟩
      rw [aCall_eq T_laws_szReqS]; unfold A_laws_szReqS C_laws_szReqS; simp [e0, hc, hl]
      rw [S_laws_szReqS_0]; unfold B_laws_szReqS_0; simp
def reqB (x : ty_Req.D) : Bool := reqOkB x.1 x.2.2.2.2.2.1 x.2.1 x.2.2.2.2.2.2
theorem e_impl_isReq (M : Mem) (x : ty_Req.D) : aCall T0 F_impl_isReq [.agg (enc_Req x).toArray] M = some (.bool (reqB x), M) := c_impl_isReq M _ _ _ _ _ _ _
theorem e_spec_ReqOk (M : Mem) (x : ty_Req.D) : aCall T0 F_spec_ReqOk [.agg (enc_Req x).toArray] M = some (.bool (reqB x), M) := c_spec_ReqOk M _ _ _ _ _ _ _
def reqsB (xs : List ty_Req.D) : Bool := decide ((xs.length : Int) ≤ 40) && xs.all reqB
theorem r_spec_ReqsOk (M : Mem) (a : Option Addr) (c : Nat) (xs : List ty_Req.D) (h : Rep (.sl ty_Req) M [.slice a xs.length c] xs) (hn : xs.length ≤ 40) (i : Nat) (hi : i < xs.length) (hp : reqB xs[i] = true) :
    lp (aCall T0) K_spec_ReqsOk_0 L_spec_ReqsOk_0 [.slice a xs.length c, und, und, .int .i64 i, und, und, und, und, und, und, und, und, und, und, und, und, und, und, und] M = lp (aCall T0) K_spec_ReqsOk_0 L_spec_ReqsOk_0 [.slice a xs.length c, und, und, .int .i64 (i + 1 : Nat), und, und, und, und, und, und, und, und, und, und, und, und, und, und, und] M := by
  obtain ⟨_, l, o, rfl, cs, hrd, hrep⟩ := rep_at h hi
  have hcs := rep_Req hrep
  subst hcs
  have hw : ty_Req.w = 7 := rfl
  rw [hw] at hrd
  have ec := fun M => e_spec_ReqOk M xs[i]
  have e6 : IntKind.i64.wrap ((i : Int) + 1) = i + 1 := wrap_i64 (by omega) (by omega)
  rw [S_spec_ReqsOk_0]; unfold B_spec_ReqsOk_0; simp [hrd, ec, e6, hi, hp]
theorem x_spec_ReqsOk (M : Mem) (a : Option Addr) (c : Nat) (xs : List ty_Req.D) (h : Rep (.sl ty_Req) M [.slice a xs.length c] xs) (i : Nat) (hi : i < xs.length) (hp : reqB xs[i] = false) (k : ACode) :
    thenF M [.tmp 2] (thenS (blockR 0 (lp (aCall T0) K_spec_ReqsOk_0 L_spec_ReqsOk_0 [.slice a xs.length c, und, und, .int .i64 i, und, und, und, und, und, und, und, und, und, und, und, und, und, und, und] M)) (aCall T0) k) = some (.bool false, M) := by
  obtain ⟨_, l, o, rfl, cs, hrd, hrep⟩ := rep_at h hi
  have hcs := rep_Req hrep
  subst hcs
  have hw : ty_Req.w = 7 := rfl
  rw [hw] at hrd
  have ec := fun M => e_spec_ReqOk M xs[i]
  rw [S_spec_ReqsOk_0]; unfold B_spec_ReqsOk_0; simp [hrd, ec, hi, hp]
theorem c_spec_ReqsOk (M : Mem) (v : V) (xs : List ty_Req.D) (h : Rep (.sl ty_Req) M [v] xs) : aCall T0 F_spec_ReqsOk [v] M = some (.bool (reqsB xs), M) := by
  obtain ⟨a, c, rfl⟩ := h.slen
  unfold reqsB
  by_cases hn : 40 < (xs.length : Int)
  · have e : ¬ (xs.length : Int) ≤ 40 := by omega
    rw [aCall_eq T_spec_ReqsOk]; unfold A_spec_ReqsOk C_spec_ReqsOk; simp [hn, e]
  · have e : (xs.length : Int) ≤ 40 := by omega
    rcases first_all reqB xs with ha | ⟨ha, j, hj, h1, h2⟩
    · have hc := chain (g := fun i : Nat => lp (aCall T0) K_spec_ReqsOk_0 L_spec_ReqsOk_0 [.slice a xs.length c, und, und, .int .i64 i, und, und, und, und, und, und, und, und, und, und, und, und, und, und, und] M) (n := xs.length) fun i hi => r_spec_ReqsOk M a c xs h (by omega) i hi (all_at ha hi)
      simp only [Int.natCast_zero, Int.ofNat_zero] at hc
      rw [aCall_eq T_spec_ReqsOk]; unfold A_spec_ReqsOk C_spec_ReqsOk; simp [hn, e, ha, hc]
      rw [S_spec_ReqsOk_0]; unfold B_spec_ReqsOk_0; simp
    · have hc := chain (g := fun i : Nat => lp (aCall T0) K_spec_ReqsOk_0 L_spec_ReqsOk_0 [.slice a xs.length c, und, und, .int .i64 i, und, und, und, und, und, und, und, und, und, und, und, und, und, und, und] M) (n := j) fun i hi => r_spec_ReqsOk M a c xs h (by omega) i (by omega) (h1 i (by omega) hi)
      simp only [Int.natCast_zero, Int.ofNat_zero] at hc
      rw [aCall_eq T_spec_ReqsOk]; unfold A_spec_ReqsOk C_spec_ReqsOk; simp [hn, e, ha, hc, x_spec_ReqsOk M a c xs h j hj h2]
theorem r_idx_Req (M : Mem) (a : Option Addr) (c : Nat) (xs : List ty_Req.D) (h : Rep (.sl ty_Req) M [.slice a xs.length c] xs) (hn : xs.length ≤ 9223372036854775807) (f : FuncId) (cap : List V) (p : ty_Req.D → Bool)
    (hp : ∀ i (hi : i < xs.length), aCall T0 f (.agg (enc_Req xs[i]).toArray :: cap) M = some (.bool (p xs[i]), M)) (i : Nat) (hi : i < xs.length) (hq : p xs[i] = false) :
    lp (aCall T0) K_slices_IndexFunc_impl_Req_impl_Req_0 L_slices_IndexFunc_impl_Req_impl_Req_0 [.slice a xs.length c, .func (.func f) #[] cap.toArray, und, und, und, und, und, .int .i64 xs.length, .int .i64 i, und, und, und, und, und, und, und, und, und, und] M =
    lp (aCall T0) K_slices_IndexFunc_impl_Req_impl_Req_0 L_slices_IndexFunc_impl_Req_impl_Req_0 [.slice a xs.length c, .func (.func f) #[] cap.toArray, und, und, und, und, und, .int .i64 xs.length, .int .i64 (i + 1 : Nat), und, und, und, und, und, und, und, und, und, und] M := by
  obtain ⟨_, l, o, rfl, cs, hrd, hrep⟩ := rep_at h hi
  have hcs := rep_Req hrep
  subst hcs
  have hw : ty_Req.w = 7 := rfl
  rw [hw] at hrd
  have ec := hp i hi
  have e6 : IntKind.i64.wrap ((i : Int) + 1) = i + 1 := wrap_i64 (by omega) (by omega)
  rw [S_slices_IndexFunc_impl_Req_impl_Req_0]; unfold B_slices_IndexFunc_impl_Req_impl_Req_0; simp [hrd, ec, e6, hi, hq]
theorem x_idx_Req (M : Mem) (a : Option Addr) (c : Nat) (xs : List ty_Req.D) (h : Rep (.sl ty_Req) M [.slice a xs.length c] xs) (f : FuncId) (cap : List V) (p : ty_Req.D → Bool)
    (hp : ∀ i (hi : i < xs.length), aCall T0 f (.agg (enc_Req xs[i]).toArray :: cap) M = some (.bool (p xs[i]), M)) (i : Nat) (hi : i < xs.length) (hq : p xs[i] = true) (k : ACode) :
    thenF M [.tmp 4] (thenS (blockR 0 (lp (aCall T0) K_slices_IndexFunc_impl_Req_impl_Req_0 L_slices_IndexFunc_impl_Req_impl_Req_0 [.slice a xs.length c, .func (.func f) #[] cap.toArray, und, und, und, und, und, .int .i64 xs.length, .int .i64 i, und, und, und, und, und, und, und, und, und, und] M)) (aCall T0) k) = some (.int .i64 i, M) := by
  obtain ⟨_, l, o, rfl, cs, hrd, hrep⟩ := rep_at h hi
  have hcs := rep_Req hrep
  subst hcs
  have hw : ty_Req.w = 7 := rfl
  rw [hw] at hrd
  have ec := hp i hi
  rw [S_slices_IndexFunc_impl_Req_impl_Req_0]; unfold B_slices_IndexFunc_impl_Req_impl_Req_0; simp [hrd, ec, hi, hq]
theorem c_idx_Req (M : Mem) (v : V) (xs : List ty_Req.D) (h : Rep (.sl ty_Req) M [v] xs) (hn : xs.length ≤ 9223372036854775807) (f : FuncId) (cap : List V) (p : ty_Req.D → Bool)
    (hp : ∀ i (hi : i < xs.length), aCall T0 f (.agg (enc_Req xs[i]).toArray :: cap) M = some (.bool (p xs[i]), M)) :
    ∃ r : Int, aCall T0 F_slices_IndexFunc_impl_Req_impl_Req [v, .func (.func f) #[] cap.toArray] M = some (.int .i64 r, M) ∧ decide (0 ≤ r) = xs.any p := by
  obtain ⟨a, c, rfl⟩ := h.slen
  rcases first_any p xs with ⟨ha, h1⟩ | ⟨ha, j, hj, h1, h2⟩
  · have hc := chain (g := fun i : Nat => lp (aCall T0) K_slices_IndexFunc_impl_Req_impl_Req_0 L_slices_IndexFunc_impl_Req_impl_Req_0 [.slice a xs.length c, .func (.func f) #[] cap.toArray, und, und, und, und, und, .int .i64 xs.length, .int .i64 i, und, und, und, und, und, und, und, und, und, und] M) (n := xs.length) fun i hi => r_idx_Req M a c xs h hn f cap p hp i hi (h1 i hi)
    simp only [Int.natCast_zero, Int.ofNat_zero] at hc
    refine ⟨-1, ?_, by rw [ha]; rfl⟩
    rw [aCall_eq T_slices_IndexFunc_impl_Req_impl_Req]; unfold A_slices_IndexFunc_impl_Req_impl_Req C_slices_IndexFunc_impl_Req_impl_Req; simp [hc]
    rw [S_slices_IndexFunc_impl_Req_impl_Req_0]; unfold B_slices_IndexFunc_impl_Req_impl_Req_0; simp
  · have hc := chain (g := fun i : Nat => lp (aCall T0) K_slices_IndexFunc_impl_Req_impl_Req_0 L_slices_IndexFunc_impl_Req_impl_Req_0 [.slice a xs.length c, .func (.func f) #[] cap.toArray, und, und, und, und, und, .int .i64 xs.length, .int .i64 i, und, und, und, und, und, und, und, und, und, und] M) (n := j) fun i hi => r_idx_Req M a c xs h hn f cap p hp i (by omega) (h1 i (by omega) hi)
    simp only [Int.natCast_zero, Int.ofNat_zero] at hc
    refine ⟨j, ?_, by rw [ha]; simp⟩
    rw [aCall_eq T_slices_IndexFunc_impl_Req_impl_Req]; unfold A_slices_IndexFunc_impl_Req_impl_Req C_slices_IndexFunc_impl_Req_impl_Req; simp [hc, x_idx_Req M a c xs h f cap p hp j hj h2]
theorem c_any_Req (M : Mem) (v : V) (xs : List ty_Req.D) (h : Rep (.sl ty_Req) M [v] xs) (hn : xs.length ≤ 9223372036854775807) (f : FuncId) (cap : List V) (p : ty_Req.D → Bool)
    (hp : ∀ i (hi : i < xs.length), aCall T0 f (.agg (enc_Req xs[i]).toArray :: cap) M = some (.bool (p xs[i]), M)) :
    aCall T0 F_slices_ContainsFunc_impl_Req_impl_Req [v, .func (.func f) #[] cap.toArray] M = some (.bool (xs.any p), M) := by
  obtain ⟨r, h1, h2⟩ := c_idx_Req M v xs h hn f cap p hp
  rw [← h2]
  rw [aCall_eq T_slices_ContainsFunc_impl_Req_impl_Req]; unfold A_slices_ContainsFunc_impl_Req_impl_Req C_slices_ContainsFunc_impl_Req_impl_Req; simp [h1]
theorem c_impl_areReqs_1 (M : Mem) (x : ty_Req.D) : aCall T0 F_impl_areReqs_1 [.agg (enc_Req x).toArray] M = some (.bool (!reqB x), M) := by
  have e := fun M => e_impl_isReq M x
  rw [aCall_eq T_impl_areReqs_1]; unfold A_impl_areReqs_1 C_impl_areReqs_1; simp [e]
theorem c_impl_areReqs (M : Mem) (v : V) (xs : List ty_Req.D) (h : Rep (.sl ty_Req) M [v] xs) (hn : xs.length ≤ 9223372036854775807) : aCall T0 F_impl_areReqs [v] M = some (.bool (reqsB xs), M) := by
  have e : aCall T0 F_slices_ContainsFunc_impl_Req_impl_Req [v, .func (.func F_impl_areReqs_1) #[] #[]] M = _ := c_any_Req M v xs h hn F_impl_areReqs_1 [] (fun x => !reqB x) (fun i hi => c_impl_areReqs_1 M xs[i])
  obtain ⟨a, c, rfl⟩ := h.slen
  have e2 : xs.all reqB = !xs.any (fun x => !reqB x) := by simp [List.any_eq_not_all_not]
  unfold reqsB
  rw [e2]
  by_cases hn : (xs.length : Int) ≤ 40
  · rw [aCall_eq T_impl_areReqs]; unfold A_impl_areReqs C_impl_areReqs; simp [hn, e]
  · rw [aCall_eq T_impl_areReqs]; unfold A_impl_areReqs C_impl_areReqs; simp [hn]
theorem c_impl_ReqsOk (M : Mem) (v : V) (xs : List ty_Req.D) (h : Rep (.sl ty_Req) M [v] xs) (hn : xs.length ≤ 9223372036854775807) : aCall T0 F_impl_ReqsOk [v] M = some (.bool (reqsB xs), M) := by
  rw [aCall_eq T_impl_ReqsOk]; unfold A_impl_ReqsOk C_impl_ReqsOk; simp [c_impl_areReqs M v xs h hn]
theorem law_laws_FnExactReqsOk (M : Mem) (avs : List V) (_ : ∀ b ∈ M, b.st ≠ 2) (h : Ins [(false, (.sl (.pr (.int .i64) (.pr .str (.pr (.int .i64) (.pr (.int .i64) (.pr (.int .i64) (.pr (.int .i64) .str))))))))] M avs) : ∃ M', aCall T0 F_laws_FnExactReqsOk avs M = some (.bool true, M') := by
  obtain ⟨v, vs, xs, rfl, h1, f1, h⟩ := ins_cons h
  obtain rfl := ins_nil h
  have h1 : Rep (.sl ty_Req) M [v] xs := repv_one h1
  obtain ⟨hlen, hfit⟩ := f1
  obtain ⟨l, e1, e2⟩ := c_laws_szReqS M v xs h1 1048576 (by omega) (by omega) hlen (fun x hx => (hfit x hx).2.1) (fun x hx => (hfit x hx).2.2.2.2.2.2)
  refine ⟨M, ?_⟩
  by_cases hl : l < 0
  · rw [aCall_eq T_laws_FnExactReqsOk]; unfold A_laws_FnExactReqsOk C_laws_FnExactReqsOk; simp [e1, hl]
  have hpos := szs_pos_Req xs
  have hn : xs.length ≤ 1048576 := by have := e2 (by omega); omega
  obtain ⟨B, hB⟩ : ∃ B : Blk, B = ⟨(xs.map enc_Req).flatten, 7, 2⟩ := ⟨_, rfl⟩
  have t : ∀ M2, M <+: M2 → aCall T0 F_laws_toReqS [v] M2 = some (.slice (some ⟨M2.length, 0, none⟩) xs.length xs.length, M2 ++ [B]) := fun M2 hm => by
    rw [hB]; exact c_laws_toReqS M2 v xs (h1.mono hm) hn
  have r : ∀ M2, M <+: M2 → Rep (.sl ty_Req) (M2 ++ [B]) [.slice (some ⟨M2.length, 0, none⟩) xs.length xs.length] xs := fun M2 hm => by
    rw [hB]; exact rep_toReqS (h1.mono hm)
  have p1 : M <+: M ++ [B] := List.prefix_append _ _
  have p2 : M <+: M ++ [B] ++ [B] := p1.trans (List.prefix_append _ _)
  have t1 := t M (List.prefix_refl _)
  have t2 := t _ p1
  have t3 := t _ p2
  have q1 := c_spec_ReqsOk _ _ xs (r M (List.prefix_refl _))
  have q2 := c_impl_ReqsOk _ _ xs (r _ p1) hlen
  have q3 := c_laws_eqReqS _ _ _ xs xs ((r _ p1).mono (List.prefix_append _ [B])) (r _ p2) hlen
  simp at t1 t2 t3 q1 q2 q3
  rw [aCall_eq T_laws_FnExactReqsOk]; unfold A_laws_FnExactReqsOk C_laws_FnExactReqsOk; simp [e1, hl, t1, t2, t3, q1, q2, q3]
end GoAm
