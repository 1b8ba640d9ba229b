/- What the functions do that the law reaches. -/
import Derived.Test.YtlniheedmeaeeaaOramBlocksl0
set_option autoImplicit false
set_option linter.unusedVariables false
set_option linter.unusedSimpArgs false
namespace GoAm
open Go
theorem l_spec_PathNodes_0 (M : Mem) (N n : Nat) (hN : N < 128) (hn : n ≤ 7) (hge : ∀ j, j < n → 1 ≤ N / 2 ^ j) (v : V) (Z : Mem) (hZ : PnI M N 0 v Z) :
    ∃ v' X', PnI M N n v' X' ∧ lp (aCall T0) K_spec_PathNodes_0 L_spec_PathNodes_0 [und, und, und, und, und, v, .int .i64 ((N / 2 ^ 0 : Nat) : Int), und, und, und, und, und, und, und, und, und, und, und, und, und, und, und, und, und, und] Z = lp (aCall T0) K_spec_PathNodes_0 L_spec_PathNodes_0 [und, und, und, und, und, v', .int .i64 ((N / 2 ^ n : Nat) : Int), und, und, und, und, und, und, und, und, und, und, und, und, und, und, und, und, und, und] X' := by
  refine loop_to (call := aCall T0) (K := K_spec_PathNodes_0) (L := L_spec_PathNodes_0) (fun j v X => PnI M N j v X) (fun j v => [und, und, und, und, und, v, .int .i64 ((N / 2 ^ j : Nat) : Int), und, und, und, und, und, und, und, und, und, und, und, und, und, und, und, und, und, und]) (n := n) ?_ 0 v Z (by omega) hZ
  intro j v X hj ⟨pX, gX⟩
  have hq : (N / 2 ^ j) / 2 = N / 2 ^ (j + 1) := by rw [Nat.div_div_eq_div_mul, Nat.pow_succ]
  have hle := Nat.div_le_self N (2 ^ j)
  have h1 : (1 : Int) ≤ ((N / 2 ^ j : Nat) : Int) := by have := hge j hj; omega
  have hd : IntKind.i64.wrap (((N / 2 ^ j : Nat) : Int) / 2) = ((N / 2 ^ (j + 1) : Nat) : Int) := by rw [← hq, wrap_i64 (by omega) (by omega)]; rfl
  have hc := fun Y : Mem => (gX.pre (List.prefix_append X Y)).cells
  have hgl := gX.ge
  have hpl := pX.length_le
  unfold PnI
  rw [outL_succ]
  generalize N / 2 ^ (j + 1) = q2 at hd ⊢
  generalize N / 2 ^ j = q at hd h1 ⊢
  have hg1 : Grow M.length 1 (X ++ [(⟨[.int .i64 q], 1, 2⟩ : Blk)]) (.slice (some ⟨X.length, 0, none⟩) 1 1) 1 [.int .i64 q] := Grow.new hpl rfl
  obtain ⟨av, rfl⟩ := gX.shape
  by_cases h0 : j = 0
  · subst h0
    have e0 : outL N 0 = [] := rfl
    rw [e0] at hc ⊢
    rw [S_spec_PathNodes_0]; unfold B_spec_PathNodes_0; simp [thenD_pp, sliceCells_sl, sliceCells_z, sliceCells_nil, take_full, appS_sl, appK_ok, appS_none, thenD_ag, agP_nil, agP_cons, h1, hc, appS, hd, Ic]
    exact ⟨_, _, ⟨pf_app pX, hg1⟩, rfl⟩
  · rw [S_spec_PathNodes_0]; unfold B_spec_PathNodes_0; simp [thenD_pp, sliceCells_sl, sliceCells_z, sliceCells_nil, take_full, appS_sl, appK_ok, appS_none, thenD_ag, agP_nil, agP_cons, h1, hc]
    generalize hy : appS _ _ _ _ _ _ = xhy
    obtain ⟨a3, X3, rfl, g3, ag, l3⟩ := hg1.at hy (List.prefix_refl _) (by simp; omega) (by rw [Ic_len, outL_len]; omega) (by omega) (Ic_one _) (by omega) (by omega)
    clear hy
    have ec : 1 + j = j + 1 := by omega
    simp only [ec] at g3
    simp [thenD_pp, sliceCells_sl, sliceCells_z, sliceCells_nil, take_full, appS_sl, appK_ok, appS_none, thenD_ag, agP_nil, agP_cons, hd, ec]
    exact ⟨_, _, ⟨ag.pre (pf_app pX) fun b hb => hg1.ge b hb, g3⟩, rfl⟩
/-- The path of a leaf. -/
def PnD (M : Mem) (m a : Nat) (p : V × Mem) : Prop := ∃ av : Option Addr, p.1 = .slice av (m + 1) (m + 1) ∧ M <+: p.2 ∧ Grow M.length 1 p.2 (.slice av (m + 1) (m + 1)) (m + 1) (Ic (outL (2 ^ m + a) (m + 1)))
theorem c_spec_PathNodes (M : Mem) (m a : Nat) (hm : m ≤ 6) (ha : a < 2 ^ m) : Sat (aCall T0 F_spec_PathNodes [.int .i64 m, .int .i64 a] M) (PnD M m a) := by
  have hp : 2 ^ m ≤ 2 ^ 6 := Nat.pow_le_pow_right (by omega) hm
  have hL : leafB m a = true := by
    unfold leafB lgB
    have : (a : Int) < 2 ^ m := by rw [pow2_cast]; omega
    simp [this]; omega
  have e1 := fun M => c_spec_l11Leaf M m a
  rw [hL] at e1
  have e2 := fun M => c_spec_l02Pow M m (by omega)
  have e3 : IntKind.i64.wrap ((2 : Int) ^ m + a) = ((2 ^ m + a : Nat) : Int) := by rw [pow2_cast, wrap_i64 (by omega) (by omega)]; omega
  have hge : ∀ j, j < m + 1 → 1 ≤ (2 ^ m + a) / 2 ^ j := fun j hj => by
    have h1 : 2 ^ j ≤ 2 ^ m := Nat.pow_le_pow_right (by omega) (by omega)
    exact (Nat.le_div_iff_mul_le (Nat.two_pow_pos j)).2 (by omega)
  have hz : (2 ^ m + a) / 2 ^ (m + 1) = 0 := Nat.div_eq_of_lt (by rw [Nat.pow_succ]; omega)
  obtain ⟨v', X', ⟨pX, gX⟩, e⟩ := l_spec_PathNodes_0 M (2 ^ m + a) (m + 1) (by omega) (by omega) hge (.slice (some ⟨M.length, 0, none⟩) 0 0) (M ++ [⟨[], 1, 2⟩]) ⟨List.prefix_append _ _, Grow.new (Nat.le_refl _) rfl⟩
  simp only [Nat.pow_zero, Nat.div_one, hz] at e
  obtain ⟨av, rfl⟩ := gX.shape
  unfold PnD
  generalize 2 ^ m + a = N at e e3 gX
  rw [aCall_eq T_spec_PathNodes]; unfold A_spec_PathNodes C_spec_PathNodes; simp [thenD_pp, sliceCells_sl, sliceCells_z, sliceCells_nil, take_full, appS_sl, appK_ok, appS_none, thenD_ag, agP_nil, agP_cons, e1, e2, e3, zeroCells, e]
  rw [S_spec_PathNodes_0]; unfold B_spec_PathNodes_0; simp [thenD_pp, sliceCells_sl, sliceCells_z, sliceCells_nil, take_full, appS_sl, appK_ok, appS_none, thenD_ag, agP_nil, agP_cons]
  exact ⟨(_, X'), rfl, av, rfl, pX, gX⟩
theorem Ic_at {K : Nat} {M : Mem} {a : Option Addr} {n : Nat} {xs : List Int} (h : Grow K 1 M (.slice a n n) n (Ic xs)) {i : Nat} (hi : i < xs.length) : ∃ l o, a = some ⟨l, o, none⟩ ∧ rd1 M l (o + i) = some (.int .i64 xs[i]) := by
  obtain ⟨h1, ⟨h2, rfl⟩ | ⟨l, _, hv, hb⟩⟩ := h
  · rw [Ic_len] at h1; omega
  · cases hv
    exact ⟨l, 0, rfl, by simp [rd1, hb, Ic, hi]⟩
theorem blen_le {x k : Nat} : blen x ≤ k ↔ x < 2 ^ k := by
  unfold blen
  by_cases h : x = 0
  · subst h
    simp [Nat.two_pow_pos]
  · rw [if_neg h, ← Nat.log2_lt h]
    omega
theorem blen_pos {x : Nat} (h : 0 < x) : 1 ≤ blen x := by
  unfold blen
  rw [if_neg (by omega)]
  omega
theorem path_len {m leaf i : Nat} (hl : leaf < 2 ^ m) (hi : i ≤ m) : blen ((2 ^ m + leaf) / 2 ^ (m - i)) = i + 1 := by
  have e : 2 ^ m = 2 ^ i * 2 ^ (m - i) := by rw [← Nat.pow_add]; congr 1; omega
  have hd : (2 ^ m + leaf) / 2 ^ (m - i) = 2 ^ i + leaf / 2 ^ (m - i) := by
    rw [e, Nat.add_comm, Nat.add_mul_div_right _ _ (Nat.two_pow_pos _), Nat.add_comm]
  have hlt : leaf / 2 ^ (m - i) < 2 ^ i := by
    rw [Nat.div_lt_iff_lt_mul (Nat.two_pow_pos _), ← e]
    exact hl
  have key : ∀ q, q < 2 ^ i → blen (2 ^ i + q) = i + 1 := by
    intro q hq
    have hpos := Nat.two_pow_pos i
    have h1 : blen (2 ^ i + q) ≤ i + 1 := blen_le.2 (by rw [Nat.pow_succ]; omega)
    have h2 : ¬ blen (2 ^ i + q) ≤ i := fun h => by
      have := blen_le.1 h
      omega
    omega
  rw [hd]
  exact key _ hlt
theorem onP_iff {m node leaf : Nat} (hl : leaf < 2 ^ m) (h2 : node < 2 * 2 ^ m) (h1 : 1 ≤ node) : onP m node leaf = true ↔ ∃ i, i < m + 1 ∧ (2 ^ m + leaf) / 2 ^ (m - i) = node := by
  unfold onP
  rw [decide_eq_true_eq]
  have hb : blen node ≤ m + 1 := blen_le.2 (by rw [Nat.pow_succ]; omega)
  have hb1 := blen_pos (x := node) (by omega)
  constructor
  · intro h
    exact ⟨blen node - 1, by omega, h⟩
  · rintro ⟨i, hi, rfl⟩
    rw [path_len hl (by omega)]
    simp
theorem gc_boolp {M M' : Mem} (hp : M <+: M') (b : Bool) : gc M (some (.bool b, M')) = some (.bool b, M) := by
  obtain ⟨N, rfl⟩ := hp
  exact gc_bool M N b
theorem c_spec_OnPath (M : Mem) (m node leaf : Nat) (hm : m ≤ 6) (hl : leaf < 2 ^ m) (h1 : 1 ≤ node) (h2 : node < 2 * 2 ^ m) : aCall T0 F_spec_OnPath [.int .i64 m, .int .i64 node, .int .i64 leaf] M = some (.bool (onP m node leaf), M) := by
  obtain ⟨⟨v1, X1⟩, ep, av, hv1, p1, hg⟩ := c_spec_PathNodes M m leaf hm hl
  simp only at hv1 p1 hg
  subst hv1
  have hlen := outL_len (2 ^ m + leaf) (m + 1)
  have hget : ∀ i, i < m + 1 → (outL (2 ^ m + leaf) (m + 1))[i]? = some (((2 ^ m + leaf) / 2 ^ (m - i) : Nat) : Int) := fun i hi => by
    rw [List.getElem?_eq_getElem (by omega), outL_get]
    congr 4
  have hat : ∀ i, i < m + 1 → ∃ l o, av = some ⟨l, o, none⟩ ∧ rd1 X1 l (o + i) = some (.int .i64 (((2 ^ m + leaf) / 2 ^ (m - i) : Nat) : Int)) := fun i hi => by
    obtain ⟨l, o, e, hr⟩ := Ic_at hg (i := i) (by omega)
    refine ⟨l, o, e, ?_⟩
    have := hget i hi
    rw [List.getElem?_eq_getElem (by omega)] at this
    rw [hr, Option.some.inj this]
  have hp : 2 ^ m ≤ 2 ^ 6 := Nat.pow_le_pow_right (by omega) hm
  have gb := fun b => gc_boolp p1 b
  have key := loop_ok (call := aCall T0) (K := K_spec_OnPath_0) (L := L_spec_OnPath_0) (fun _ Y => Y = X1) (fun i => [und, .int .i64 node, und, und, und, und, und, .slice av (m + 1) (m + 1), .int .i64 i, und, und, und, und, und, und, und, und, und, und, und, und, und, und, und]) (fun i => decide (¬ (2 ^ m + leaf) / 2 ^ (m - i) = node)) (n := m + 1) (M0 := M) (rs := [.tmp 6]) (k0 := 0) (a := .bool true) X1 rfl ?_ ?_
  · rcases key with ⟨X', rfl, ha, e⟩ | ⟨⟨i, hi, hx⟩, e⟩
    · simp only [Int.natCast_zero, Int.ofNat_zero] at e
      have hf : onP m node leaf = false := by
        cases ho : onP m node leaf with
        | false => rfl
        | true =>
          obtain ⟨i, hi, h⟩ := (onP_iff hl h2 h1).1 ho
          have := of_decide_eq_true (ha i hi)
          exact absurd h this
      rw [hf]
      rw [aCall_eq T_spec_OnPath]; unfold A_spec_OnPath C_spec_OnPath; simp [thenD_pp, sliceCells_sl, sliceCells_z, sliceCells_nil, take_full, appS_sl, appK_ok, appS_none, thenD_ag, agP_nil, agP_cons, ep, e]
      rw [S_spec_OnPath_0]; unfold B_spec_OnPath_0; simp [thenD_pp, sliceCells_sl, sliceCells_z, sliceCells_nil, take_full, appS_sl, appK_ok, appS_none, thenD_ag, agP_nil, agP_cons, gb]
    · simp only [Int.natCast_zero, Int.ofNat_zero] at e
      have ht : onP m node leaf = true := (onP_iff hl h2 h1).2 ⟨i, hi, by simpa using hx⟩
      rw [ht]
      rw [aCall_eq T_spec_OnPath]; unfold A_spec_OnPath C_spec_OnPath; simp [thenD_pp, sliceCells_sl, sliceCells_z, sliceCells_nil, take_full, appS_sl, appK_ok, appS_none, thenD_ag, agP_nil, agP_cons, ep, e]
  · intro i Y hi hq hY
    subst hY
    have e6 : IntKind.i64.wrap ((i : Int) + 1) = i + 1 := wrap_i64 (by omega) (by omega)
    obtain ⟨l, o, rfl, hr⟩ := hat i hi
    have hq := of_decide_eq_true hq
    have hmi : (i : Int) < (m : Int) + 1 := by omega
    generalize (2 ^ m + leaf) / 2 ^ (m - i) = q at *
    have hq' : ¬ (q : Int) = (node : Int) := by omega
    refine ⟨Y, rfl, ?_⟩
    rw [S_spec_OnPath_0]; unfold B_spec_OnPath_0; simp [thenD_pp, sliceCells_sl, sliceCells_z, sliceCells_nil, take_full, appS_sl, appK_ok, appS_none, thenD_ag, agP_nil, agP_cons, hi, hmi, hr, hq', hq, e6]
  · intro i Y hi hq hY k
    subst hY
    obtain ⟨l, o, rfl, hr⟩ := hat i hi
    have hq : (2 ^ m + leaf) / 2 ^ (m - i) = node := by simpa using hq
    rw [hq] at hr
    have hmi : (i : Int) < (m : Int) + 1 := by omega
    rw [S_spec_OnPath_0]; unfold B_spec_OnPath_0; simp [thenD_pp, sliceCells_sl, sliceCells_z, sliceCells_nil, take_full, appS_sl, appK_ok, appS_none, thenD_ag, agP_nil, agP_cons, hi, hmi, hr, gb]
set_option maxRecDepth 20000 in
set_option maxHeartbeats 2000000 in
theorem l_spec_OramOk_2 (M : Mem) (p q m : Nat) (aN : Option Addr) (cN : Nat) (ns : List ty_Node.D) (hN : Rep (.sl ty_Node) M [.slice aN ns.length cN] ns) (hp : rd1 M p 0 = some (.int .i64 (m : Int))) (hq : M.length ≤ q) (hm : m ≤ 6) (hlen : ns.length + 1 = 2 * 2 ^ m) (i : Nat) (hi : i < ns.length) (hbs : ∀ b ∈ ns[i], (0 ≤ b.1 ∧ b.1 ≤ 255) ∧ b.2.1 = ((Int.toNat b.2.1 : Nat) : Int) ∧ Int.toNat b.2.1 < 2 ^ m) (hnl : ns[i].length ≤ 4)
    (xs : List ty_Block.D) (hxs : xs.length ≤ 100000) (X : Mem) (h : SeI M q xs X) :
    (∃ (u : Unit) (X' : Mem), SeI M q (xs ++ ns[i]) X' ∧ (∀ j, j < ns[i].length → onAt m (i + 1) ns[i] j = true) ∧ lp (aCall T0) K_spec_OramOk_2 L_spec_OramOk_2 (FsI p q aN ns.length cN i 0) X = lp (aCall T0) K_spec_OramOk_2 L_spec_OramOk_2 (FsI p q aN ns.length cN i ns[i].length) X') ∨
    ((∃ j, j < ns[i].length ∧ onAt m (i + 1) ns[i] j = false) ∧ RtB M (lp (aCall T0) K_spec_OramOk_2 L_spec_OramOk_2 (FsI p q aN ns.length cN i 0) X)) := by
  have hp6 : 2 ^ m ≤ 2 ^ 6 := Nat.pow_le_pow_right (by omega) hm
  have key := loop_rt (call := aCall T0) (K := K_spec_OramOk_2) (L := L_spec_OramOk_2) (fun j (_ : Unit) X => SeI M q (xs ++ ns[i].take j) X) (fun j (_ : Unit) => FsI p q aN ns.length cN i j) (onAt m (i + 1) ns[i]) (RtB M) (n := ns[i].length) () X (by simpa using h) ?_ ?_
  · rw [List.take_length] at key
    exact key
  all_goals
    intro j _ X hj ho ⟨pX, hb⟩
    rw [onAt_get hj] at ho
    obtain ⟨l, o, u, rfl, hru, _, hrep⟩ := at_Node (hN.mono pX) hi
    obtain ⟨a1, c1, rfl⟩ := hrep.slen
    obtain ⟨l1, o1, u1, rfl, _, _, _, hrb, _, _, hub, _⟩ := at_Block hrep hj
    obtain ⟨ub, uc, rfl⟩ := hub.slen
    have hk := hbs _ (List.getElem_mem hj)
    have hid := nat_255 hk.1
    have hts : xs ++ ns[i].take (j + 1) = (xs ++ ns[i].take j) ++ [ns[i][j]] := by rw [List.take_succ_eq_append_getElem hj, List.append_assoc]
    have hset := cntV_set (xs ++ ns[i].take j) ns[i][j] hid.2
    have hget := cntV_get (xs ++ ns[i].take j) hid.2
    have hle := cntI_le (Int.toNat ns[i][j].1) (xs ++ ns[i].take j)
    have hln := cntV_len (xs ++ ns[i].take j)
    have htl : (xs ++ ns[i].take j).length ≤ 200000 := by rw [List.length_append, List.length_take]; omega
    have hon : ∀ Y, aCall T0 F_spec_OnPath [.int .i64 m, .int .i64 ((i : Int) + 1), .int .i64 (Int.toNat ns[i][j].2.1 : Int)] Y = some (.bool (onP m (i + 1) (Int.toNat ns[i][j].2.1)), Y) := fun Y => c_spec_OnPath Y m (i + 1) (Int.toNat ns[i][j].2.1) hm (by exact hk.2.2) (by omega) (by omega)
    rw [hid.1, hk.2.1] at hrb
    rw [ho] at hon
    have hlt := hid.2
    generalize hcs2 : cntV ((xs ++ ns[i].take j) ++ [ns[i][j]]) = cs2 at *
    generalize cntI (Int.toNat ns[i][j].1) (xs ++ ns[i].take j) = z at *
    generalize Int.toNat ns[i][j].1 = t at *
    generalize Int.toNat ns[i][j].2.1 = lf at *
    generalize hdl : List.length (α := UInt8) ns[i][j].2.2 = dl at *
    generalize cntV (xs ++ ns[i].take j) = cs at *
    have e6 : IntKind.i64.wrap ((j : Int) + 1) = j + 1 := wrap_i64 (by omega) (by omega)
    have e7 : IntKind.i64.wrap ((i : Int) + 1) = i + 1 := wrap_i64 (by omega) (by omega)
    have ez : IntKind.i64.wrap ((z : Int) + 1) = (z : Int) + 1 := wrap_i64 (by omega) (by omega)
    have pB : M <+: X ++ [(⟨[.int .i64 (t : Int), .int .i64 (lf : Int), .slice ub dl uc], 1, 2⟩ : Blk)] := pX.trans (List.prefix_append _ _)
    have hp' := fun N : Mem => r1_pre (pX.trans (List.prefix_append X N)) hp
    have hlt2 : (t : Int) < 256 := by omega
    have hqX := get_lt hb
    have hbB := get_pre (List.prefix_append X [(⟨[.int .i64 (t : Int), .int .i64 (lf : Int), .slice ub dl uc], 1, 2⟩ : Blk)]) hb
    have hwr : wrn (X ++ [(⟨[.int .i64 (t : Int), .int .i64 (lf : Int), .slice ub dl uc], 1, 2⟩ : Blk)]) q t [.int .i64 ((z : Int) + 1)] = some ((X ++ [(⟨[.int .i64 (t : Int), .int .i64 (lf : Int), .slice ub dl uc], 1, 2⟩ : Blk)]).set q ⟨cs2, 1, 2⟩) := by
      rw [show ((z : Int) + 1) = ((z + 1 : Nat) : Int) by omega, wrn_eq hbB rfl (by show t + 1 ≤ cs.length; omega) rfl, ← hset]
    have hrq : rd1 (X ++ [(⟨[.int .i64 (t : Int), .int .i64 (lf : Int), .slice ub dl uc], 1, 2⟩ : Blk)]) q t = some (.int .i64 (z : Int)) := by simp [rd1, hbB, hget]
    have pS := pf_set (b := ⟨cs2, 1, 2⟩) hq pB
    have hpS := r1_pre pS hp
    have hbx : ((X ++ [(⟨[.int .i64 (t : Int), .int .i64 (lf : Int), .slice ub dl uc], 1, 2⟩ : Blk)]).set q ⟨cs2, 1, 2⟩)[X.length]? = some ⟨[.int .i64 (t : Int), .int .i64 (lf : Int), .slice ub dl uc], 1, 2⟩ := by
      rw [List.getElem?_set_ne (by omega)]
      simp
    have hbr : rd1 ((X ++ [(⟨[.int .i64 (t : Int), .int .i64 (lf : Int), .slice ub dl uc], 1, 2⟩ : Blk)]).set q ⟨cs2, 1, 2⟩) X.length 1 = some (.int .i64 (lf : Int)) := by simp only [rd1, hbx]; rfl
  · refine ⟨(), _, ⟨pS, by rw [hts, hcs2]; exact gs_of hbB _⟩, ?_⟩
    rw [S_spec_OramOk_2]; unfold B_spec_OramOk_2; simp [thenD_pp, sliceCells_sl, sliceCells_z, sliceCells_nil, take_full, appS_sl, appK_ok, appS_none, thenD_ag, agP_nil, agP_cons, hi, hj, hru, hrb, hp', hrq, hwr, hlt, hlt2, hpS, hbr, hon, e6, e7, ez]
    rfl
  · rw [S_spec_OramOk_2]; unfold B_spec_OramOk_2; simp [thenD_pp, sliceCells_sl, sliceCells_z, sliceCells_nil, take_full, appS_sl, appK_ok, appS_none, thenD_ag, agP_nil, agP_cons, hi, hj, hru, hrb, hp', hrq, hwr, hlt, hlt2, hpS, hbr, hon, e6, e7, ez]
    refine ⟨_, _, rfl, ?_, pS⟩
    rfl
theorem flatten_take {α : Type} (ns : List (List α)) {i : Nat} (hi : i < ns.length) : (ns.take (i + 1)).flatten = (ns.take i).flatten ++ ns[i] := by
  rw [List.take_succ_eq_append_getElem hi, List.flatten_append, List.flatten_cons, List.flatten_nil, List.append_nil]
set_option maxRecDepth 20000 in
set_option maxHeartbeats 2000000 in
theorem l_spec_OramOk_1 (M : Mem) (p q m : Nat) (aN : Option Addr) (cN : Nat) (ns : List ty_Node.D) (hN : Rep (.sl ty_Node) M [.slice aN ns.length cN] ns) (hp : rd1 M p 0 = some (.int .i64 (m : Int))) (hq : M.length ≤ q) (hm : m ≤ 6) (hlen : ns.length + 1 = 2 * 2 ^ m) (hbs : ∀ bs ∈ ns, ∀ b ∈ bs, (0 ≤ b.1 ∧ b.1 ≤ 255) ∧ b.2.1 = ((Int.toNat b.2.1 : Nat) : Int) ∧ Int.toNat b.2.1 < 2 ^ m) (hnl : ∀ bs ∈ ns, List.length (α := ty_Block.D) bs ≤ 4)
    (st : List ty_Block.D) (hst : st.length ≤ 1000) (X : Mem) (h : SeI M q st X) :
    (∃ (u : Unit) (X' : Mem), SeI M q (st ++ ns.flatten) X' ∧ (∀ i, i < ns.length → onAll m ns i = true) ∧ lp (aCall T0) K_spec_OramOk_1 L_spec_OramOk_1 (FtI p q aN ns.length cN 0) X = lp (aCall T0) K_spec_OramOk_1 L_spec_OramOk_1 (FtI p q aN ns.length cN ns.length) X') ∨
    ((∃ i, i < ns.length ∧ onAll m ns i = false) ∧ RtB M (lp (aCall T0) K_spec_OramOk_1 L_spec_OramOk_1 (FtI p q aN ns.length cN 0) X)) := by
  have hp6 : 2 ^ m ≤ 2 ^ 6 := Nat.pow_le_pow_right (by omega) hm
  have key := loop_rt (call := aCall T0) (K := K_spec_OramOk_1) (L := L_spec_OramOk_1) (fun i (_ : Unit) X => SeI M q (st ++ (ns.take i).flatten) X) (fun i (_ : Unit) => FtI p q aN ns.length cN i) (onAll m ns) (RtB M) (n := ns.length) () X (by simpa using h) ?_ ?_
  · rw [List.take_length] at key
    exact key
  all_goals
    intro i _ X hi ho hX
    rw [onAll_get hi] at ho
    have hfl := flatten_len (ns := ns.take i) (k := 4) (fun x hx => hnl x (List.mem_of_mem_take hx))
    rw [List.length_take] at hfl
    have key := l_spec_OramOk_2 M p q m aN cN ns hN hp hq hm hlen i hi (hbs _ (List.getElem_mem hi)) (hnl _ (List.getElem_mem hi)) (st ++ (ns.take i).flatten) (by rw [List.length_append]; omega) X hX
    have e6 : IntKind.i64.wrap ((i : Int) + 1) = i + 1 := wrap_i64 (by omega) (by omega)
    obtain ⟨l, o, u, rfl, hru, _, hrep⟩ := at_Node (hN.mono hX.1) hi
    obtain ⟨a1, c1, rfl⟩ := hrep.slen
    simp only [FsI, Int.natCast_zero, Int.ofNat_zero] at key
    rcases key with ⟨_, X', hX', hall, e⟩ | ⟨⟨j, hj, hon⟩, fr, X', e, q2, q3⟩
  · refine ⟨(), X', by rw [flatten_take ns hi, ← List.append_assoc]; exact hX', ?_⟩
    obtain ⟨l', o', u', e', hru', _, hrep'⟩ := at_Node (hN.mono hX'.1) hi
    cases e'
    obtain ⟨a1', c1', rfl⟩ := hrep'.slen
    rw [S_spec_OramOk_1]; unfold B_spec_OramOk_1; simp [thenD_pp, sliceCells_sl, sliceCells_z, sliceCells_nil, take_full, appS_sl, appK_ok, appS_none, thenD_ag, agP_nil, agP_cons, hi, e]
    rw [S_spec_OramOk_2]; unfold B_spec_OramOk_2; simp [thenD_pp, sliceCells_sl, sliceCells_z, sliceCells_nil, take_full, appS_sl, appK_ok, appS_none, thenD_ag, agP_nil, agP_cons, hi, hru', e6]
    try rfl
  · exfalso
    rw [onAt_get hj] at hon
    have := List.all_eq_true.1 ho _ (List.getElem_mem hj)
    rw [hon] at this
    cases this
  · exfalso
    have : (List.all (α := ty_Block.D) ns[i] fun b => onP m (i + 1) (Int.toNat b.2.1)) = true := List.all_eq_true.2 fun b hb => by
      obtain ⟨k, hk, rfl⟩ := List.getElem_of_mem hb
      rw [← onAt_get hk]
      exact hall k hk
    rw [this] at ho
    cases ho
  · rw [S_spec_OramOk_1]; unfold B_spec_OramOk_1; simp [thenD_pp, sliceCells_sl, sliceCells_z, sliceCells_nil, take_full, appS_sl, appK_ok, appS_none, thenD_ag, agP_nil, agP_cons, hi, e]
    exact ⟨fr, X', rfl, q2, q3⟩
set_option maxRecDepth 20000 in
set_option maxHeartbeats 2000000 in
theorem l_spec_OramOk_3 (M : Mem) (q : Nat) (xs : List ty_Block.D) (X : Mem) (h : SeI M q xs X) :
    (∃ X', X' = X ∧ (∀ i, i < 256 → decide (cntI i xs ≤ 1) = true) ∧ lp (aCall T0) K_spec_OramOk_3 L_spec_OramOk_3 [und, und, und, und, und, .slice (some ⟨q, 0, none⟩) 256 256, und, und, und, und, .int .i64 (0 : Nat), und, und, und, und, und, und, und, und, und, und, und, und, und, und, und, und, und, und, und, und, und, und, und, und, und, und, und, und, und, und, und, und, und, und, und, und, und, und, und, und, und, und, und, und, und, und, und, und, und, und, und, und, und, und, und, und, und, und, und, und, und, und, und, und, und, und, und, und, und, und, und, und, und, und, und, und, und, und, und, und, und, und, und, und, und, und, und, und, und, und, und, und, und, und, und, und, und, und, und, und, und, und, und, und, und, und, und, und, und, und, und, und, und, und, und, und, und, und, und, und, und, und, und, und, und, und, und, und, und, und, und, und, und] X = lp (aCall T0) K_spec_OramOk_3 L_spec_OramOk_3 [und, und, und, und, und, .slice (some ⟨q, 0, none⟩) 256 256, und, und, und, und, .int .i64 (256 : Nat), und, und, und, und, und, und, und, und, und, und, und, und, und, und, und, und, und, und, und, und, und, und, und, und, und, und, und, und, und, und, und, und, und, und, und, und, und, und, und, und, und, und, und, und, und, und, und, und, und, und, und, und, und, und, und, und, und, und, und, und, und, und, und, und, und, und, und, und, und, und, und, und, und, und, und, und, und, und, und, und, und, und, und, und, und, und, und, und, und, und, und, und, und, und, und, und, und, und, und, und, und, und, und, und, und, und, und, und, und, und, und, und, und, und, und, und, und, und, und, und, und, und, und, und, und, und, und, und, und, und, und, und, und] X') ∨
    ((∃ i, i < 256 ∧ decide (cntI i xs ≤ 1) = false) ∧ RtB M (lp (aCall T0) K_spec_OramOk_3 L_spec_OramOk_3 [und, und, und, und, und, .slice (some ⟨q, 0, none⟩) 256 256, und, und, und, und, .int .i64 (0 : Nat), und, und, und, und, und, und, und, und, und, und, und, und, und, und, und, und, und, und, und, und, und, und, und, und, und, und, und, und, und, und, und, und, und, und, und, und, und, und, und, und, und, und, und, und, und, und, und, und, und, und, und, und, und, und, und, und, und, und, und, und, und, und, und, und, und, und, und, und, und, und, und, und, und, und, und, und, und, und, und, und, und, und, und, und, und, und, und, und, und, und, und, und, und, und, und, und, und, und, und, und, und, und, und, und, und, und, und, und, und, und, und, und, und, und, und, und, und, und, und, und, und, und, und, und, und, und, und, und, und, und, und, und, und] X)) := by
  have key := loop_rt (call := aCall T0) (K := K_spec_OramOk_3) (L := L_spec_OramOk_3) (fun _ (_ : Unit) Y => Y = X) (fun i (_ : Unit) => [und, und, und, und, und, .slice (some ⟨q, 0, none⟩) 256 256, und, und, und, und, .int .i64 i, und, und, und, und, und, und, und, und, und, und, und, und, und, und, und, und, und, und, und, und, und, und, und, und, und, und, und, und, und, und, und, und, und, und, und, und, und, und, und, und, und, und, und, und, und, und, und, und, und, und, und, und, und, und, und, und, und, und, und, und, und, und, und, und, und, und, und, und, und, und, und, und, und, und, und, und, und, und, und, und, und, und, und, und, und, und, und, und, und, und, und, und, und, und, und, und, und, und, und, und, und, und, und, und, und, und, und, und, und, und, und, und, und, und, und, und, und, und, und, und, und, und, und, und, und, und, und, und, und, und, und, und, und]) (fun i => decide (cntI i xs ≤ 1)) (RtB M) (n := 256) () X rfl ?_ ?_
  · rcases key with ⟨_, X', h1, h2, h3⟩ | h
    · exact .inl ⟨X', h1, h2, h3⟩
    · exact .inr h
  all_goals
    intro i _ Y hi ho hY
    subst hY
    have hget := cntV_get xs hi
    have hr : rd1 Y q i = some (.int .i64 (cntI i xs : Int)) := by simp [rd1, h.2, hget]
    have e6 : IntKind.i64.wrap ((i : Int) + 1) = i + 1 := wrap_i64 (by omega) (by omega)
    have hi2 : (i : Int) < 256 := by omega
  · have ho := of_decide_eq_true ho
    generalize cntI i xs = z at *
    have ho2 : ¬ (1 : Int) < (z : Int) := by omega
    refine ⟨(), Y, rfl, ?_⟩
    rw [S_spec_OramOk_3]; unfold B_spec_OramOk_3; simp [thenD_pp, sliceCells_sl, sliceCells_z, sliceCells_nil, take_full, appS_sl, appK_ok, appS_none, thenD_ag, agP_nil, agP_cons, hi, hi2, hr, ho2, e6]
    try rfl
  · have ho := of_decide_eq_false ho
    generalize cntI i xs = z at *
    have ho2 : (1 : Int) < (z : Int) := by omega
    rw [S_spec_OramOk_3]; unfold B_spec_OramOk_3; simp [thenD_pp, sliceCells_sl, sliceCells_z, sliceCells_nil, take_full, appS_sl, appK_ok, appS_none, thenD_ag, agP_nil, agP_cons, hi, hi2, hr, ho2, e6]
    refine ⟨_, _, rfl, ?_, h.1⟩
    rfl
theorem cntI_fl (k : Nat) (xs : List ty_Block.D) : cntI k xs = (flI k xs).length := rfl
theorem cnt_lt {xs : List ty_Block.D} (h : IdLt xs) (hr : IdsR xs) (k : Nat) : cntI k xs ≤ 1 := by
  rw [cntI_fl]
  by_cases h2 : (flI k xs).length ≤ 1
  · exact h2
  · exfalso
    have hs : (flI k xs).Pairwise fun a b => a.1 < b.1 := h.sublist List.filter_sublist
    have h3 := List.pairwise_iff_getElem.1 hs 0 1 (by omega) (by omega) (by omega)
    have m0 := List.mem_filter.1 (List.getElem_mem (show 0 < (flI k xs).length by omega))
    have m1 := List.mem_filter.1 (List.getElem_mem (show 1 < (flI k xs).length by omega))
    have e := toNat_inj (hr _ m0.1).1 (hr _ m1.1).1 ((of_decide_eq_true m0.2).trans (of_decide_eq_true m1.2).symm)
    rw [e] at h3
    exact Int.lt_irrefl _ h3
theorem in_bad {m nd : Nat} : ∀ (bs all : List ty_Block.D), IdLt all → IdsR all → IdsR bs → (∀ b ∈ bs, onP m nd (Int.toNat b.2.1) = true) → (∀ k, k < 256 → cntI k (all ++ bs) ≤ 1) → ∃ a, inO m nd all bs = some a
  | [], all, _, _, _, _, _ => ⟨all, rfl⟩
  | b :: bs, all, h1, h2, h3, h4, h5 => by
    have hb := h3 b (by simp)
    have hbn := nat_255 hb
    have hn : hasId b.1 all = false := by
      cases hh : hasId b.1 all with
      | false => rfl
      | true =>
        obtain ⟨c, hc, hd⟩ := List.any_eq_true.1 hh
        have he : c.1 = b.1 := of_decide_eq_true hd
        have := h5 (Int.toNat b.1) hbn.2
        rw [cntI_fl, flI_app, List.length_append] at this
        have e2 : flI (Int.toNat b.1) (b :: bs) = [b] ++ flI (Int.toNat b.1) bs := by
          rw [show b :: bs = [b] ++ bs from rfl, flI_app, flI_one, if_pos rfl]
        rw [e2, List.length_append, List.length_singleton] at this
        have hcm : c ∈ flI (Int.toNat b.1) all := List.mem_filter.2 ⟨hc, decide_eq_true (by rw [he])⟩
        have := List.length_pos_of_mem hcm
        omega
    unfold inO
    rw [if_pos (by rw [h4 b (by simp), hn]; rfl)]
    refine in_bad bs (putL b all) (putL_lt h1 hn) (putL_ids h2 hb) (fun x hx => h3 x (by simp [hx])) (fun x hx => h4 x (by simp [hx])) fun k hk => ?_
    rw [cntI_fl, flI_app, flI_put hb h2 hn, ← flI_app, List.append_assoc]
    exact h5 k hk
theorem out_bad {m : Nat} {w : Int} : ∀ (cells : List ty_Cell.D) (nd : Nat) (all : List ty_Block.D), IdLt all → IdsR all → cells.all (ndOk m w) = true → (∀ i (hi : i < cells.length), ∀ b ∈ ndB (Int.toNat w) cells[i], onP m (nd + i) (Int.toNat b.2.1) = true) → (∀ k, k < 256 → cntI k (all ++ (ndsF w cells).flatten) ≤ 1) → ∃ a, outO m w nd cells all = some a
  | [], nd, all, _, _, _, _, _ => ⟨all, rfl⟩
  | c :: cs, nd, all, h1, h2, h3, h4, h5 => by
    rw [List.all_cons, Bool.and_eq_true] at h3
    have hid := ndOk_ids h3.1
    have hfl : (ndsF w (c :: cs)).flatten = ndB (Int.toNat w) c ++ (ndsF w cs).flatten := rfl
    obtain ⟨a1, hi⟩ := in_bad (m := m) (nd := nd) (ndB (Int.toNat w) c) all h1 h2 hid (fun b hb => h4 0 (by simp) b hb) (fun k hk => by
      have := h5 k hk
      rw [hfl, ← List.append_assoc, cntI_fl, flI_app, List.length_append] at this
      rw [cntI_fl]
      omega)
    obtain ⟨q1, q2, q3, q4⟩ := in_good _ all a1 hi h1 h2 hid
    unfold outO
    rw [if_pos h3.1, hi]
    refine out_bad cs (nd + 1) a1 q2 q3 h3.2 (fun i hi b hb => ?_) fun k hk => ?_
    · have := h4 (i + 1) (by simpa using hi) b (by simpa using hb)
      rw [show nd + 1 + i = nd + (i + 1) by omega]
      exact this
    · rw [cntI_fl, flI_app, q4 k, ← flI_app, List.append_assoc, ← hfl]
      exact h5 k hk
theorem frO_f {l w b : Int} {m : ty_Mem.D} {st : List ty_Block.D} (h : frO l w b m st = false) : (orX l w b m st).isSome = false := by unfold orX; rw [h]; rfl
theorem ndsF_get (w : Int) (cells : List ty_Cell.D) {i : Nat} (hi : i < cells.length) : (ndsF w cells)[i]'(by unfold ndsF; rw [List.length_map]; exact hi) = ndB (Int.toNat w) cells[i] := by simp [ndsF]
theorem pow2_pos (n : Nat) : (0 : Int) < 2 ^ n := Int.pow_pos (by omega)
theorem c_spec_TreeNodes (M : Mem) (m n : Nat) (h : m ≤ 6) (hn : n = 2 * 2 ^ m - 1) : aCall T0 F_spec_TreeNodes [.int .i64 m] M = some (.int .i64 n, M) := by
  have hp : (2 : Int) ^ m ≤ 2 ^ 6 := pow2_le h
  have hq : (0 : Int) < 2 ^ m := pow2_pos m
  have hn2 : (n : Int) = 2 * 2 ^ m - 1 := by
    have : 0 < 2 ^ m := Nat.pow_pos (by omega)
    subst hn
    rw [Int.natCast_sub (by omega)]
    simp
  have e1 : IntKind.i64.wrap (2 * 2 ^ m) = 2 * 2 ^ m := wrap_i64 (by omega) (by omega)
  have e2 : IntKind.i64.wrap (2 * 2 ^ m - 1) = n := by rw [hn2]; exact wrap_i64 (by omega) (by omega)
  have hb : (decide ((0 : Int) ≤ m) && decide ((m : Int) ≤ 6)) = true := by simp; omega
  have e3 := c_spec_l11Log M m
  rw [hb] at e3
  rw [aCall_eq T_spec_TreeNodes]; unfold A_spec_TreeNodes C_spec_TreeNodes; simp [e3, c_spec_l02Pow _ m (by omega), e1, e2]
def atB {α : Type} (p : α → Bool) (xs : List α) (i : Nat) : Bool := match xs[i]? with
  | some x => p x
  | none => true
theorem atB_get {α : Type} (p : α → Bool) {xs : List α} {i : Nat} (hi : i < xs.length) : atB p xs i = p xs[i] := by unfold atB; rw [List.getElem?_eq_getElem hi]
theorem atB_all {α : Type} {p : α → Bool} {xs : List α} (h : ∀ i, i < xs.length → atB p xs i = true) : xs.all p = true := by
  rw [List.all_eq_true]
  intro x hx
  obtain ⟨i, hi, rfl⟩ := List.getElem_of_mem hx
  rw [← atB_get p hi]
  exact h i hi
theorem atB_not {α : Type} {p : α → Bool} {xs : List α} (h : ∃ i, i < xs.length ∧ atB p xs i = false) : xs.all p = false := by
  obtain ⟨i, hi, hq⟩ := h
  rw [atB_get p hi] at hq
  rw [List.all_eq_false]
  exact ⟨xs[i], List.getElem_mem hi, by rw [hq]; decide⟩
theorem mem_shape {M : Mem} {cs : List V} {m : ty_Mem.D} (h : Rep ty_Mem M cs m) : ∃ (a b : Option Addr) (c d : Nat), cs = [.int .i64 m.1, .slice a m.2.1.length c, .slice b m.2.2.length d] ∧ Rep (.sl ty_Cell) M [.slice a m.2.1.length c] m.2.1 ∧ Rep (.sl ty_Touch) M [.slice b m.2.2.length d] m.2.2 := by
  obtain ⟨u0, u1, rfl, _, r0, r1⟩ := rep_g_Mem h
  obtain ⟨a, c, rfl⟩ := r0.slen
  obtain ⟨b, d, rfl⟩ := r1.slen
  exact ⟨a, b, c, d, rfl, r0, r1⟩
theorem l_spec_MemOk_0 (M X : Mem) (m : ty_Mem.D) (a b : Option Addr) (c d p : Nat) (hM : M <+: X) (hb : X[p]? = some ⟨[.int .i64 m.1, .slice a m.2.1.length c, .slice b m.2.2.length d], 1, 2⟩) (h : Rep (.sl ty_Cell) M [.slice a m.2.1.length c] m.2.1) (hn : m.2.1.length ≤ 128) :
    ((∀ i, i < m.2.1.length → atB (cellB m) m.2.1 i = true) ∧ lp (aCall T0) K_spec_MemOk_0 L_spec_MemOk_0 [und, .pointer (some ⟨p, 0, none⟩), und, .int .i64 (0 : Nat), und, und, und, und, und, und, und, und, und, und, und, und, und, und, und, und, und, und, und, und, und, und, und, und, und, und, und, und, und, und, und, und, und, und, und, und, und, und, und, und, und, und, und, und, und, und, und, und, und, und, und, und, und, und, und, und, und, und, und, und, und, und, und, und, und, und, und, und, und, und, und, und, und, und, und, und, und, und, und] X = lp (aCall T0) K_spec_MemOk_0 L_spec_MemOk_0 [und, .pointer (some ⟨p, 0, none⟩), und, .int .i64 m.2.1.length, und, und, und, und, und, und, und, und, und, und, und, und, und, und, und, und, und, und, und, und, und, und, und, und, und, und, und, und, und, und, und, und, und, und, und, und, und, und, und, und, und, und, und, und, und, und, und, und, und, und, und, und, und, und, und, und, und, und, und, und, und, und, und, und, und, und, und, und, und, und, und, und, und, und, und, und, und, und, und] X) ∨
    ((∃ i, i < m.2.1.length ∧ atB (cellB m) m.2.1 i = false) ∧ ∀ k, thenF M [.tmp 2] (thenS (blockR 0 (lp (aCall T0) K_spec_MemOk_0 L_spec_MemOk_0 [und, .pointer (some ⟨p, 0, none⟩), und, .int .i64 (0 : Nat), und, und, und, und, und, und, und, und, und, und, und, und, und, und, und, und, und, und, und, und, und, und, und, und, und, und, und, und, und, und, und, und, und, und, und, und, und, und, und, und, und, und, und, und, und, und, und, und, und, und, und, und, und, und, und, und, und, und, und, und, und, und, und, und, und, und, und, und, und, und, und, und, und, und, und, und, und, und, und] X)) (aCall T0) k) = some (.bool false, M)) := by
  have key := loop_ok (call := aCall T0) (K := K_spec_MemOk_0) (L := L_spec_MemOk_0) (fun _ Y => Y = X) (fun i => [und, .pointer (some ⟨p, 0, none⟩), und, .int .i64 i, und, und, und, und, und, und, und, und, und, und, und, und, und, und, und, und, und, und, und, und, und, und, und, und, und, und, und, und, und, und, und, und, und, und, und, und, und, und, und, und, und, und, und, und, und, und, und, und, und, und, und, und, und, und, und, und, und, und, und, und, und, und, und, und, und, und, und, und, und, und, und, und, und, und, und, und, und, und, und]) (atB (cellB m) m.2.1) (n := m.2.1.length) (M0 := M) (rs := [.tmp 2]) (k0 := 0) (a := .bool false) X rfl ?_ ?_
  · rcases key with ⟨X', rfl, h1, h2⟩ | h
    · exact .inl ⟨h1, h2⟩
    · exact .inr h
  · intro i Y hi hq e
    subst e
    obtain ⟨l, o, u, rfl, q1, _, q3⟩ := at_Cell (h.mono hM) hi
    obtain ⟨_, _, rfl⟩ := q3.slen
    rw [atB_get _ hi] at hq
    have hq := of_decide_eq_true hq
    have e6 : IntKind.i64.wrap ((i : Int) + 1) = i + 1 := wrap_i64 (by omega) (by omega)
    refine ⟨Y, rfl, ?_⟩
    rw [S_spec_MemOk_0]; unfold B_spec_MemOk_0; simp [thenD_pp, sliceCells_sl, sliceCells_z, sliceCells_nil, take_full, appS_sl, appK_ok, appS_none, thenD_ag, agP_nil, agP_cons, hb, hi, q1, hq, e6, rd1_K, rdJ_ok]
  · intro i Y hi hq e k
    subst e
    obtain ⟨l, o, u, rfl, q1, _, q3⟩ := at_Cell (h.mono hM) hi
    obtain ⟨_, _, rfl⟩ := q3.slen
    rw [atB_get _ hi] at hq
    have hq := of_decide_eq_false hq
    have gb := fun b => gc_boolp hM b
    rw [S_spec_MemOk_0]; unfold B_spec_MemOk_0; simp [thenD_pp, sliceCells_sl, sliceCells_z, sliceCells_nil, take_full, appS_sl, appK_ok, appS_none, thenD_ag, agP_nil, agP_cons, hb, hi, q1, hq, gb, rd1_K, rdJ_ok]
theorem mem_cases (sz : Int) (n k : Nat) : (mem0 sz n k = false ∧ ((sz < 1 ∧ ¬ 1 ≤ sz) ∨ ((1 ≤ sz ∧ ¬ sz < 1) ∧ 1000 < sz ∧ ¬ sz ≤ 1000) ∨ ((1 ≤ sz ∧ ¬ sz < 1) ∧ (¬ 1000 < sz ∧ sz ≤ 1000) ∧ 128 < n ∧ (128 : Int) < n) ∨ ((1 ≤ sz ∧ ¬ sz < 1) ∧ (¬ 1000 < sz ∧ sz ≤ 1000) ∧ (¬ 128 < n ∧ ¬ (128 : Int) < n) ∧ 6000 < k ∧ (6000 : Int) < k))) ∨
    (mem0 sz n k = true ∧ (1 ≤ sz ∧ ¬ sz < 1) ∧ (¬ 1000 < sz ∧ sz ≤ 1000) ∧ (¬ 128 < n ∧ ¬ (128 : Int) < n) ∧ (¬ 6000 < k ∧ ¬ (6000 : Int) < k)) := by
  unfold mem0
  by_cases h : (1 ≤ sz ∧ sz ≤ 1000) ∧ n ≤ 128 ∧ k ≤ 6000
  · rw [decide_eq_true h]
    right
    exact ⟨rfl, by omega, by omega, by omega, by omega⟩
  · rw [decide_eq_false h]
    left
    refine ⟨rfl, ?_⟩
    omega
theorem at_Touch {M : Mem} {a : Option Addr} {n c : Nat} {xs : List ty_Touch.D} (h : Rep (.sl ty_Touch) M [.slice a n c] xs) {i : Nat} (hi : i < xs.length) : ∃ l o, a = some ⟨l, o, none⟩ ∧ Rep ty_Touch M (enc_Touch xs[i]) xs[i] ∧ rdn M l (o + i * 3) 3 = some (enc_Touch xs[i]) ∧ rd1 M l (o + i * 3) = some (.int .i64 xs[i].1) ∧ rd1 M l (o + i * 3 + 1) = some (.int .i64 xs[i].2.1) ∧ rd1 M l (o + i * 3 + 2) = some (.int .i64 xs[i].2.2) := by
  obtain ⟨_, l, o, rfl, cs, hrd, hrep⟩ := rep_at h hi
  have hcs := rep_Touch hrep
  subst hcs
  have hw : ty_Touch.w = 3 := rfl
  rw [hw] at hrd
  exact ⟨l, o, rfl, hrep, hrd, rd1_of_rdn hrd (k := 0) rfl, rd1_of_rdn hrd (k := 1) rfl, rd1_of_rdn hrd (k := 2) rfl⟩
theorem touch_ok {sz n a b c : Int} (h : touch0 sz n a b c = true) : (a = 1 ∨ a = 2) ∧ ¬ b < 0 ∧ 0 ≤ b ∧ ¬ n ≤ b ∧ b < n ∧ b ≤ n - 1 ∧ c = sz := by
  have h := of_decide_eq_true h
  omega
theorem touch_cases {sz n a b c : Int} (h : touch0 sz n a b c = false) : (¬ a = 1 ∧ ¬ a = 2) ∨ ((a = 1 ∨ a = 2) ∧ b < 0 ∧ ¬ 0 ≤ b) ∨ ((a = 1 ∨ a = 2) ∧ (¬ b < 0 ∧ 0 ≤ b) ∧ n ≤ b ∧ ¬ b < n ∧ ¬ b ≤ n - 1) ∨ ((a = 1 ∨ a = 2) ∧ (¬ b < 0 ∧ 0 ≤ b) ∧ (¬ n ≤ b ∧ b < n ∧ b ≤ n - 1) ∧ ¬ c = sz) := by
  have h := of_decide_eq_false h
  omega
set_option maxHeartbeats 4000000 in
theorem l_spec_MemOk_1 (M X : Mem) (m : ty_Mem.D) (a b : Option Addr) (c d p : Nat) (hM : M <+: X) (hb : X[p]? = some ⟨[.int .i64 m.1, .slice a m.2.1.length c, .slice b m.2.2.length d], 1, 2⟩) (h : Rep (.sl ty_Touch) M [.slice b m.2.2.length d] m.2.2) (hn : m.2.2.length ≤ 6000) :
    (∃ X', M <+: X' ∧ (∀ i, i < m.2.2.length → atB (touchB m) m.2.2 i = true) ∧ lp (aCall T0) K_spec_MemOk_1 L_spec_MemOk_1 [und, .pointer (some ⟨p, 0, none⟩), und, und, .int .i64 (0 : Nat), und, und, und, und, und, und, und, und, und, und, und, und, und, und, und, und, und, und, und, und, und, und, und, und, und, und, und, und, und, und, und, und, und, und, und, und, und, und, und, und, und, und, und, und, und, und, und, und, und, und, und, und, und, und, und, und, und, und, und, und, und, und, und, und, und, und, und, und, und, und, und, und, und, und, und, und, und, und] X = lp (aCall T0) K_spec_MemOk_1 L_spec_MemOk_1 [und, .pointer (some ⟨p, 0, none⟩), und, und, .int .i64 m.2.2.length, und, und, und, und, und, und, und, und, und, und, und, und, und, und, und, und, und, und, und, und, und, und, und, und, und, und, und, und, und, und, und, und, und, und, und, und, und, und, und, und, und, und, und, und, und, und, und, und, und, und, und, und, und, und, und, und, und, und, und, und, und, und, und, und, und, und, und, und, und, und, und, und, und, und, und, und, und, und] X' ∧ X'[p]? = some ⟨[.int .i64 m.1, .slice a m.2.1.length c, .slice b m.2.2.length d], 1, 2⟩) ∨
    ((∃ i, i < m.2.2.length ∧ atB (touchB m) m.2.2 i = false) ∧ ∀ k, thenF M [.tmp 2] (thenS (blockR 2 (lp (aCall T0) K_spec_MemOk_1 L_spec_MemOk_1 [und, .pointer (some ⟨p, 0, none⟩), und, und, .int .i64 (0 : Nat), und, und, und, und, und, und, und, und, und, und, und, und, und, und, und, und, und, und, und, und, und, und, und, und, und, und, und, und, und, und, und, und, und, und, und, und, und, und, und, und, und, und, und, und, und, und, und, und, und, und, und, und, und, und, und, und, und, und, und, und, und, und, und, und, und, und, und, und, und, und, und, und, und, und, und, und, und, und] X)) (aCall T0) k) = some (.bool false, M)) := by
  have key := loop_ok (call := aCall T0) (K := K_spec_MemOk_1) (L := L_spec_MemOk_1) (fun _ Y => X <+: Y) (fun i => [und, .pointer (some ⟨p, 0, none⟩), und, und, .int .i64 i, und, und, und, und, und, und, und, und, und, und, und, und, und, und, und, und, und, und, und, und, und, und, und, und, und, und, und, und, und, und, und, und, und, und, und, und, und, und, und, und, und, und, und, und, und, und, und, und, und, und, und, und, und, und, und, und, und, und, und, und, und, und, und, und, und, und, und, und, und, und, und, und, und, und, und, und, und, und]) (atB (touchB m) m.2.2) (n := m.2.2.length) (M0 := M) (rs := [.tmp 2]) (k0 := 2) (a := .bool false) X (List.prefix_refl _) ?_ ?_
  · rcases key with ⟨X', h0, h1, h2⟩ | h
    · exact .inl ⟨X', hM.trans h0, h1, h2, get_pre h0 hb⟩
    · exact .inr h
  · intro i Y hi hq hY
    obtain ⟨l, o, rfl, _, q1, _⟩ := at_Touch (h.mono (hM.trans hY)) hi
    have hbY := get_pre hY hb
    have hbY2 : ∀ N : Mem, (Y ++ N)[p]? = some ⟨[.int .i64 m.1, .slice a m.2.1.length c, .slice (some ⟨l, o, none⟩) m.2.2.length d], 1, 2⟩ := fun N => get_pre' hbY
    rw [atB_get _ hi] at hq
    have hq := touch_ok hq
    generalize m.2.2[i] = t at q1 hq
    obtain ⟨t1, t2, t3⟩ := t
    simp only at hq q1
    obtain ⟨g1, g2, _, g3, _, _, g4⟩ := hq
    have e6 : IntKind.i64.wrap ((i : Int) + 1) = i + 1 := wrap_i64 (by omega) (by omega)
    refine ⟨Y ++ [⟨enc_Touch (t1, t2, t3), 1, 2⟩], hY.trans (List.prefix_append _ _), ?_⟩
    rcases g1 with g1 | g1
    · rw [S_spec_MemOk_1]; unfold B_spec_MemOk_1; simp [thenD_pp, sliceCells_sl, sliceCells_z, sliceCells_nil, take_full, appS_sl, appK_ok, appS_none, thenD_ag, agP_nil, agP_cons, hbY, hbY2, hi, q1, g1, g2, g3, g4, e6, rd1_K, rdJ_ok]
    · rw [S_spec_MemOk_1]; unfold B_spec_MemOk_1; simp [thenD_pp, sliceCells_sl, sliceCells_z, sliceCells_nil, take_full, appS_sl, appK_ok, appS_none, thenD_ag, agP_nil, agP_cons, hbY, hbY2, hi, q1, g1, g2, g3, g4, e6, rd1_K, rdJ_ok]
  · intro i Y hi hq hY k
    obtain ⟨l, o, rfl, _, q1, _⟩ := at_Touch (h.mono (hM.trans hY)) hi
    have hbY := get_pre hY hb
    have hbY2 : ∀ N : Mem, (Y ++ N)[p]? = some ⟨[.int .i64 m.1, .slice a m.2.1.length c, .slice (some ⟨l, o, none⟩) m.2.2.length d], 1, 2⟩ := fun N => get_pre' hbY
    rw [atB_get _ hi] at hq
    have hq := touch_cases hq
    generalize m.2.2[i] = t at q1 hq
    obtain ⟨t1, t2, t3⟩ := t
    simp only at hq q1
    have gb := fun (cs : List V) b => gc_boolp (hM.trans (hY.trans (List.prefix_append Y [⟨cs, 1, 2⟩]))) b
    rcases hq with ⟨g1, g2⟩ | ⟨g1, g2, _⟩ | ⟨g1, ⟨g2, _⟩, g3, _⟩ | ⟨g1, ⟨g2, _⟩, ⟨g3, _⟩, g4⟩
    · rw [S_spec_MemOk_1]; unfold B_spec_MemOk_1; simp [thenD_pp, sliceCells_sl, sliceCells_z, sliceCells_nil, take_full, appS_sl, appK_ok, appS_none, thenD_ag, agP_nil, agP_cons, hbY, hbY2, hi, q1, g1, g2, gb, rd1_K, rdJ_ok]
    · rcases g1 with g1 | g1
      · rw [S_spec_MemOk_1]; unfold B_spec_MemOk_1; simp [thenD_pp, sliceCells_sl, sliceCells_z, sliceCells_nil, take_full, appS_sl, appK_ok, appS_none, thenD_ag, agP_nil, agP_cons, hbY, hbY2, hi, q1, g1, g2, gb, rd1_K, rdJ_ok]
      · rw [S_spec_MemOk_1]; unfold B_spec_MemOk_1; simp [thenD_pp, sliceCells_sl, sliceCells_z, sliceCells_nil, take_full, appS_sl, appK_ok, appS_none, thenD_ag, agP_nil, agP_cons, hbY, hbY2, hi, q1, g1, g2, gb, rd1_K, rdJ_ok]
    · rcases g1 with g1 | g1
      · rw [S_spec_MemOk_1]; unfold B_spec_MemOk_1; simp [thenD_pp, sliceCells_sl, sliceCells_z, sliceCells_nil, take_full, appS_sl, appK_ok, appS_none, thenD_ag, agP_nil, agP_cons, hbY, hbY2, hi, q1, g1, g2, g3, gb, rd1_K, rdJ_ok]
      · rw [S_spec_MemOk_1]; unfold B_spec_MemOk_1; simp [thenD_pp, sliceCells_sl, sliceCells_z, sliceCells_nil, take_full, appS_sl, appK_ok, appS_none, thenD_ag, agP_nil, agP_cons, hbY, hbY2, hi, q1, g1, g2, g3, gb, rd1_K, rdJ_ok]
    · rcases g1 with g1 | g1
      · rw [S_spec_MemOk_1]; unfold B_spec_MemOk_1; simp [thenD_pp, sliceCells_sl, sliceCells_z, sliceCells_nil, take_full, appS_sl, appK_ok, appS_none, thenD_ag, agP_nil, agP_cons, hbY, hbY2, hi, q1, g1, g2, g3, g4, gb, rd1_K, rdJ_ok]
      · rw [S_spec_MemOk_1]; unfold B_spec_MemOk_1; simp [thenD_pp, sliceCells_sl, sliceCells_z, sliceCells_nil, take_full, appS_sl, appK_ok, appS_none, thenD_ag, agP_nil, agP_cons, hbY, hbY2, hi, q1, g1, g2, g3, g4, gb, rd1_K, rdJ_ok]
theorem c_spec_MemOk (M : Mem) (cs : List V) (m : ty_Mem.D) (h : Rep ty_Mem M cs m) : aCall T0 F_spec_MemOk [.agg cs.toArray] M = some (.bool (memB m), M) := by
  obtain ⟨a, b, c, d, rfl, r0, r1⟩ := mem_shape h
  unfold memB
  have hp : M <+: M ++ [⟨[.int .i64 m.1, .slice a m.2.1.length c, .slice b m.2.2.length d], 1, 2⟩] := List.prefix_append _ _
  rcases mem_cases m.1 m.2.1.length m.2.2.length with ⟨h0, hh⟩ | ⟨h0, ⟨_, h1⟩, ⟨h2, _⟩, ⟨h3, h3'⟩, ⟨h4, h4'⟩⟩
  · rw [h0, Bool.false_and]
    clear h0
    rcases hh with ⟨h1, _⟩ | ⟨⟨_, h1⟩, h2, _⟩ | ⟨⟨_, h1⟩, ⟨h2, _⟩, h3, h3'⟩ | ⟨⟨_, h1⟩, ⟨h2, _⟩, ⟨h3, h3'⟩, h4, h4'⟩
    · rw [aCall_eq T_spec_MemOk]; unfold A_spec_MemOk C_spec_MemOk; simp [thenD_pp, sliceCells_sl, sliceCells_z, sliceCells_nil, take_full, appS_sl, appK_ok, appS_none, thenD_ag, agP_nil, agP_cons, h1]
    · rw [aCall_eq T_spec_MemOk]; unfold A_spec_MemOk C_spec_MemOk; simp [thenD_pp, sliceCells_sl, sliceCells_z, sliceCells_nil, take_full, appS_sl, appK_ok, appS_none, thenD_ag, agP_nil, agP_cons, h1, h2]
    · rw [aCall_eq T_spec_MemOk]; unfold A_spec_MemOk C_spec_MemOk; simp [thenD_pp, sliceCells_sl, sliceCells_z, sliceCells_nil, take_full, appS_sl, appK_ok, appS_none, thenD_ag, agP_nil, agP_cons, h1, h2, h3, h3']
    · rw [aCall_eq T_spec_MemOk]; unfold A_spec_MemOk C_spec_MemOk; simp [thenD_pp, sliceCells_sl, sliceCells_z, sliceCells_nil, take_full, appS_sl, appK_ok, appS_none, thenD_ag, agP_nil, agP_cons, h1, h2, h3, h3', h4, h4']
  rw [h0, Bool.true_and]
  rcases l_spec_MemOk_0 M _ m a b c d M.length hp (by simp) r0 (by omega) with ⟨ha, e⟩ | ⟨hn, e⟩
  · simp only [Int.natCast_zero, Int.ofNat_zero] at e
    rw [atB_all ha, Bool.true_and]
    rcases l_spec_MemOk_1 M _ m a b c d M.length hp (by simp) r1 (by omega) with ⟨X', hX, ha2, e2, hb⟩ | ⟨hn2, e2⟩
    · simp only [Int.natCast_zero, Int.ofNat_zero] at e2
      rw [atB_all ha2]
      have gb := fun b => gc_boolp hX b
      rw [aCall_eq T_spec_MemOk]; unfold A_spec_MemOk C_spec_MemOk; simp [thenD_pp, sliceCells_sl, sliceCells_z, sliceCells_nil, take_full, appS_sl, appK_ok, appS_none, thenD_ag, agP_nil, agP_cons, h1, h2, h3, h3', h4, h4', e]
      rw [S_spec_MemOk_0]; unfold B_spec_MemOk_0; simp [thenD_pp, sliceCells_sl, sliceCells_z, sliceCells_nil, take_full, appS_sl, appK_ok, appS_none, thenD_ag, agP_nil, agP_cons, rd1_K, rdJ_ok]
      simp [e2]
      rw [S_spec_MemOk_1]; unfold B_spec_MemOk_1; simp [thenD_pp, sliceCells_sl, sliceCells_z, sliceCells_nil, take_full, appS_sl, appK_ok, appS_none, thenD_ag, agP_nil, agP_cons, rd1_K, rdJ_ok, hb, gb]
    · simp only [Int.natCast_zero, Int.ofNat_zero] at e2
      rw [atB_not hn2]
      rw [aCall_eq T_spec_MemOk]; unfold A_spec_MemOk C_spec_MemOk; simp [thenD_pp, sliceCells_sl, sliceCells_z, sliceCells_nil, take_full, appS_sl, appK_ok, appS_none, thenD_ag, agP_nil, agP_cons, h1, h2, h3, h3', h4, h4', e]
      rw [S_spec_MemOk_0]; unfold B_spec_MemOk_0; simp [thenD_pp, sliceCells_sl, sliceCells_z, sliceCells_nil, take_full, appS_sl, appK_ok, appS_none, thenD_ag, agP_nil, agP_cons, rd1_K, rdJ_ok]
      simp [e2]
  · simp only [Int.natCast_zero, Int.ofNat_zero] at e
    rw [atB_not hn, Bool.false_and]
    rw [aCall_eq T_spec_MemOk]; unfold A_spec_MemOk C_spec_MemOk; simp [thenD_pp, sliceCells_sl, sliceCells_z, sliceCells_nil, take_full, appS_sl, appK_ok, appS_none, thenD_ag, agP_nil, agP_cons, h1, h2, h3, h3', h4, h4', e]
set_option maxRecDepth 20000 in
set_option maxHeartbeats 4000000 in
theorem c_spec_oramOk (M : Mem) (l w b : Int) (m : ty_Mem.D) (st : List ty_Block.D) (aC : Option Addr) (cC : Nat) (aT : Option Addr) (cT : Nat) (aS : Option Addr) (cS : Nat)
    (hM : Rep ty_Mem M [.int .i64 m.1, .slice aC m.2.1.length cC, .slice aT m.2.2.length cT] m) (hC : Rep (.sl ty_Cell) M [.slice aC m.2.1.length cC] m.2.1) (hS : Rep (.sl ty_Block) M [.slice aS st.length cS] st) (hz : BlkSz st) (hcz : m.2.1.length ≤ 1048576) (hsz : ∀ c ∈ m.2.1, List.length (α := UInt8) c ≤ 1048576) :
    aCall T0 F_spec_OramOk [.agg (aO l w b m.1 aC m.2.1.length cC aT m.2.2.length cT aS st.length cS).toArray] M = some (.bool (orX l w b m st).isSome, M) := by
  have e1 := fun M => c_spec_l12Frame M l w
  have hlw : (decide (0 ≤ l) && decide (l ≤ 6) && (decide (1 ≤ w) && decide (w ≤ 200))) = (lgB l && wdB w) := rfl
  rw [hlw] at e1
  have hpre : M <+: M ++ [(⟨aO l w b m.1 aC m.2.1.length cC aT m.2.2.length cT aS st.length cS, 1, 2⟩ : Blk)] := List.prefix_append _ _
  have e4 := fun N : Mem => c_spec_MemOk (M ++ N) _ m (hM.mono (List.prefix_append _ _))
  have e5 := fun N : Mem => c_spec_StashOk (M ++ N) _ st l w (hS.mono (List.prefix_append _ _)) hz.1
  have gb := fun b => gc_boolp hpre b
  cases h1 : (lgB l && wdB w) with
  | false =>
    rw [h1] at e1
    rw [frO_f (by unfold frO; rw [← Bool.and_assoc, h1]; rfl)]
    rw [aCall_eq T_spec_OramOk]; unfold A_spec_OramOk C_spec_OramOk; simp [thenD_pp, sliceCells_sl, sliceCells_z, sliceCells_nil, take_full, appS_sl, appK_ok, appS_none, thenD_ag, agP_nil, agP_cons, e1, gb]
  | true =>
  rw [h1] at e1
  rw [Bool.and_eq_true] at h1
  obtain ⟨h1, h2⟩ := h1
  have hw : 1 ≤ w ∧ w ≤ 200 := by unfold wdB at h2; simpa using h2
  obtain ⟨k, rfl, hk⟩ := log_nat h1
  have hk0 : Int.toNat (k : Int) = k := by omega
  by_cases h3 : b < 0
  · rw [frO_f (by unfold frO bdB; rw [decide_eq_false (show ¬ 0 ≤ b by omega)]; simp)]
    rw [aCall_eq T_spec_OramOk]; unfold A_spec_OramOk C_spec_OramOk; simp [thenD_pp, sliceCells_sl, sliceCells_z, sliceCells_nil, take_full, appS_sl, appK_ok, appS_none, thenD_ag, agP_nil, agP_cons, e1, h3, gb]
  by_cases h3' : 64 < b
  · rw [frO_f (by unfold frO bdB; rw [decide_eq_false (show ¬ b ≤ 64 by omega)]; simp)]
    rw [aCall_eq T_spec_OramOk]; unfold A_spec_OramOk C_spec_OramOk; simp [thenD_pp, sliceCells_sl, sliceCells_z, sliceCells_nil, take_full, appS_sl, appK_ok, appS_none, thenD_ag, agP_nil, agP_cons, e1, h3, h3', gb]
  have h3b : bdB b = true := by unfold bdB; rw [decide_eq_true (show 0 ≤ b by omega), decide_eq_true (show b ≤ 64 by omega)]; rfl
  by_cases h7 : b < (st.length : Int)
  · rw [frO_f (by unfold frO; rw [decide_eq_false (show ¬ (st.length : Int) ≤ b by omega)]; simp)]
    rw [aCall_eq T_spec_OramOk]; unfold A_spec_OramOk C_spec_OramOk; simp [thenD_pp, sliceCells_sl, sliceCells_z, sliceCells_nil, take_full, appS_sl, appK_ok, appS_none, thenD_ag, agP_nil, agP_cons, e1, h3, h3', h7, gb]
  cases h8 : stashB k w st with
  | false =>
    rw [h8] at e5
    rw [frO_f (by unfold frO; rw [h8]; simp)]
    rw [aCall_eq T_spec_OramOk]; unfold A_spec_OramOk C_spec_OramOk; simp [thenD_pp, sliceCells_sl, sliceCells_z, sliceCells_nil, take_full, appS_sl, appK_ok, appS_none, thenD_ag, agP_nil, agP_cons, e1, h3, h3', h7, e5, gb]
  | true =>
  rw [h8] at e5
  have hp6 : 2 ^ k ≤ 2 ^ 6 := Nat.pow_le_pow_right (by omega) hk
  have hp0 : 0 < 2 ^ k := Nat.two_pow_pos k
  have e6 := fun M => c_spec_TreeNodes M k _ hk rfl
  obtain ⟨N, hN⟩ : ∃ N, N = 2 * 2 ^ k - 1 := ⟨_, rfl⟩
  rw [← hN] at e6
  obtain ⟨W, rfl⟩ : ∃ W : Nat, w = (W : Int) := ⟨Int.toNat w, by omega⟩
  have e7 := fun M => c_spec_NodeSize M W (4 * (W + 3)) (by omega) (by omega) (by omega)
  by_cases h5 : m.2.1.length = N
  · rw [← h5] at e6
    by_cases h6 : (m.1 : Int) = 4 * ((W : Int) + 3)
    · have h6' : ((4 * (W + 3) : Nat) : Int) = m.1 := by rw [h6]; omega
      rw [h6'] at e7
      cases h4 : memB m with
      | false =>
        rw [h4] at e4
        rw [frO_f (by unfold frO; rw [h4]; simp)]
        rw [aCall_eq T_spec_OramOk]; unfold A_spec_OramOk C_spec_OramOk; simp [thenD_pp, sliceCells_sl, sliceCells_z, sliceCells_nil, take_full, appS_sl, appK_ok, appS_none, thenD_ag, agP_nil, agP_cons, e1, h3, h3', h7, e5, e6, e7, e4, gb]
      | true =>
        rw [h4] at e4
        have hX : orX k W b m st = outO k W 1 m.2.1 st := by
          unfold orX
          rw [hk0, if_pos]
          unfold frO
          rw [h1, h2, h3b, h4, hk0, ← hN, decide_eq_true h5, decide_eq_true h6, decide_eq_true (show (st.length : Int) ≤ b by omega), h8]
          rfl
        rw [hX]
        have hNd := c_spec_l14Nodes (M ++ [(⟨aO k W b m.1 aC m.2.1.length cC aT m.2.2.length cT aS st.length cS, 1, 2⟩ : Blk)]) k W b m st aC cC aT cT aS cS (hC.mono hpre) hcz hsz
        rw [aCall_eq T_spec_OramOk]; unfold A_spec_OramOk C_spec_OramOk; simp [thenD_pp, sliceCells_sl, sliceCells_z, sliceCells_nil, take_full, appS_sl, appK_ok, appS_none, thenD_ag, agP_nil, agP_cons, e1, h3, h3', h7, e5, e6, e7, e4]
        generalize hx : aCall T0 F_spec_l14Nodes _ _ = xhx
        obtain ⟨_, X1, rfl, r, LN, rfl, p1, g1, nN, kN⟩ := of_call hx hNd
        clear hx
        simp only at p1 g1
        have g1 := g1.rep
        have pM := hpre.trans p1
        have hbx := get_pre p1 (show (M ++ [(⟨aO k W b m.1 aC m.2.1.length cC aT m.2.2.length cT aS st.length cS, 1, 2⟩ : Blk)])[M.length]? = some _ from List.getElem?_concat_length)
        have st8 : st.length ≤ 128 ∧ blocksB k W st = true := by unfold stashB at h8; simpa using h8
        have hlt := blocks_lt st8.2
        have hid := ids_of st8.2
        cases h9 : m.2.1.all (ndOk k W) with
        | false =>
          have ho : outO k W 1 m.2.1 st = none := by
            cases ho : outO k W 1 m.2.1 st with
            | none => rfl
            | some a =>
              have := (out_good m.2.1 1 st a ho hlt hid).1.1
              rw [h9] at this
              cases this
          rw [ho, h9] at *
          have gb := fun b => gc_boolp pM b
          have hrs : ∃ z n c, r = .slice z n c := by
            obtain ⟨a, c, rfl⟩ := g1.slen
            exact ⟨_, _, _, rfl⟩
          obtain ⟨z, n, c, rfl⟩ := hrs
          simp [thenD_pp, sliceCells_sl, sliceCells_z, sliceCells_nil, take_full, appS_sl, appK_ok, appS_none, thenD_ag, agP_nil, agP_cons, gb]
        | true =>
          rw [h9, if_pos rfl] at g1
          have hnl : (ndsF W m.2.1).length = m.2.1.length := ndsF_len _ _
          obtain ⟨aN, cN, rfl⟩ := g1.slen
          have hget : ∀ bs ∈ ndsF W m.2.1, ∃ c ∈ m.2.1, bs = ndB (Int.toNat (W : Int)) c := fun bs hb => by
            obtain ⟨c, hc, rfl⟩ := List.mem_map.1 hb
            exact ⟨c, hc, rfl⟩
          have hndb : ∀ c ∈ m.2.1, blocksB k W (ndB (Int.toNat (W : Int)) c) = true := fun c hc => by
            have := List.all_eq_true.1 h9 c hc
            unfold ndOk at this
            simp only [Bool.and_eq_true] at this
            exact this.2.2.1
          have hon : ∀ i, i < m.2.1.length → onAll k (ndsF W m.2.1) i = List.all (ndB (Int.toNat (W : Int)) (m.2.1.getD i [])) fun b => onP k (i + 1) (Int.toNat b.2.1) := fun i hi => by
            rw [onAll_get (by rw [hnl]; exact hi), ndsF_get _ _ hi, List.getD_eq_getElem?_getD, List.getElem?_eq_getElem hi]
            rfl
          have hP : (outO k W 1 m.2.1 st).isSome = true ↔ (∀ i, i < m.2.1.length → onAll k (ndsF W m.2.1) i = true) ∧ ∀ j, j < 256 → decide (cntI j (st ++ (ndsF W m.2.1).flatten) ≤ 1) = true := by
            constructor
            · intro h
              obtain ⟨a, ho⟩ := Option.isSome_iff_exists.1 h
              obtain ⟨⟨q1, q2⟩, q3, q4, q5⟩ := out_good m.2.1 1 st a ho hlt hid
              refine ⟨fun i hi => ?_, fun j hj => decide_eq_true ?_⟩
              · rw [onAll_get (by rw [hnl]; exact hi), ndsF_get _ _ hi, List.all_eq_true]
                intro b hb
                rw [Nat.add_comm]
                exact q2 i hi b hb
              · rw [cntI_fl, ← q5 j]
                exact cnt_lt q3 q4 j
            · rintro ⟨h1, h2⟩
              obtain ⟨a, ho⟩ := out_bad m.2.1 1 st hlt hid h9 (fun i hi b hb => by
                have := h1 i hi
                rw [onAll_get (by rw [hnl]; exact hi), ndsF_get _ _ hi, List.all_eq_true] at this
                rw [Nat.add_comm]
                exact this b hb) (fun j hj => of_decide_eq_true (h2 j hj))
              rw [ho]
              rfl
          have hcz0 : cntV [] = zc (.int .i64 0) 256 := rfl
          have hb6 : rd1 X1 M.length 6 = some (.slice aS st.length cS) := by simp [rd1, hbx]
          have hb0 : rd1 X1 M.length 0 = some (.int .i64 (k : Int)) := by simp [rd1, hbx]
          obtain ⟨_, X2, hX2, s0⟩ := l_spec_OramOk_0 X1 M.length X1.length (.slice aN (ndsF W m.2.1).length cN) st aS cS (hS.mono pM) hb6 (Nat.le_refl _) hid hz.1 (X1 ++ [⟨zc (.int .i64 0) 256, 1, 2⟩]) ⟨List.prefix_append _ _, by rw [hcz0]; exact List.getElem?_concat_length⟩
          simp only [Int.natCast_zero, Int.ofNat_zero] at s0
          have hb62 := r1_pre hX2.1 hb6
          have k1 := l_spec_OramOk_1 X1 M.length X1.length k aN cN (ndsF W m.2.1) g1 hb0 (Nat.le_refl _) hk (by rw [hnl]; omega) (fun bs hb => by
            obtain ⟨c, hc, rfl⟩ := hget bs hb
            exact leafs_of (hndb c hc)) (fun bs hb => by
            obtain ⟨c, hc, rfl⟩ := hget bs hb
            exact ndB_len _ _) st (by omega) X2 hX2
          simp only [FtI, Int.natCast_zero, Int.ofNat_zero] at k1
          rcases k1 with ⟨_, X3, hX3, a1, s1⟩ | ⟨⟨i, hi, hf⟩, fr, X', s1, q2, q3⟩
          · have k2 := l_spec_OramOk_3 X1 X1.length (st ++ (ndsF W m.2.1).flatten) X3 hX3
            simp only [Int.natCast_zero, Int.ofNat_zero] at k2
            rcases k2 with ⟨_, rfl, a2, s2⟩ | ⟨⟨i, hi, hf⟩, fr, X', s2, q2, q3⟩
            · rw [hP.2 ⟨fun i hi => a1 i (by rw [hnl]; exact hi), a2⟩]
              have gb := fun b => gc_boolp (pM.trans hX3.1) b
              simp [thenD_pp, sliceCells_sl, sliceCells_z, sliceCells_nil, take_full, appS_sl, appK_ok, appS_none, thenD_ag, agP_nil, agP_cons, zeroCells, s0]
              rw [S_spec_OramOk_0]; unfold B_spec_OramOk_0; simp [thenD_pp, sliceCells_sl, sliceCells_z, sliceCells_nil, take_full, appS_sl, appK_ok, appS_none, thenD_ag, agP_nil, agP_cons, hb62, s1]
              rw [S_spec_OramOk_1]; unfold B_spec_OramOk_1; simp [thenD_pp, sliceCells_sl, sliceCells_z, sliceCells_nil, take_full, appS_sl, appK_ok, appS_none, thenD_ag, agP_nil, agP_cons, s2]
              rw [S_spec_OramOk_3]; unfold B_spec_OramOk_3; simp [thenD_pp, sliceCells_sl, sliceCells_z, sliceCells_nil, take_full, appS_sl, appK_ok, appS_none, thenD_ag, agP_nil, agP_cons, gb]
            · have ho : (outO k W 1 m.2.1 st).isSome = false := by
                cases h : (outO k W 1 m.2.1 st).isSome with
                | false => rfl
                | true =>
                  have := (hP.1 h).2 i hi
                  rw [hf] at this
                  cases this
              rw [ho]
              have gb := fun b => gc_boolp (pM.trans q3) b
              simp [thenD_pp, sliceCells_sl, sliceCells_z, sliceCells_nil, take_full, appS_sl, appK_ok, appS_none, thenD_ag, agP_nil, agP_cons, zeroCells, s0]
              rw [S_spec_OramOk_0]; unfold B_spec_OramOk_0; simp [thenD_pp, sliceCells_sl, sliceCells_z, sliceCells_nil, take_full, appS_sl, appK_ok, appS_none, thenD_ag, agP_nil, agP_cons, hb62, s1]
              rw [S_spec_OramOk_1]; unfold B_spec_OramOk_1; simp [thenD_pp, sliceCells_sl, sliceCells_z, sliceCells_nil, take_full, appS_sl, appK_ok, appS_none, thenD_ag, agP_nil, agP_cons, s2, q2, gb]
          · have ho : (outO k W 1 m.2.1 st).isSome = false := by
              cases h : (outO k W 1 m.2.1 st).isSome with
              | false => rfl
              | true =>
                have := (hP.1 h).1 i (by rw [← hnl]; exact hi)
                rw [hf] at this
                cases this
            rw [ho]
            have gb := fun b => gc_boolp (pM.trans q3) b
            simp [thenD_pp, sliceCells_sl, sliceCells_z, sliceCells_nil, take_full, appS_sl, appK_ok, appS_none, thenD_ag, agP_nil, agP_cons, zeroCells, s0]
            rw [S_spec_OramOk_0]; unfold B_spec_OramOk_0; simp [thenD_pp, sliceCells_sl, sliceCells_z, sliceCells_nil, take_full, appS_sl, appK_ok, appS_none, thenD_ag, agP_nil, agP_cons, hb62, s1, q2, gb]
    · have h6' : ¬ (m.1 : Int) = ((4 * (W + 3) : Nat) : Int) := fun e => h6 (e.trans (show ((4 * (W + 3) : Nat) : Int) = 4 * ((W : Int) + 3) by omega))
      generalize hq : 4 * (W + 3) = Q at *
      rw [frO_f (by unfold frO; rw [decide_eq_false h6]; simp)]
      rw [aCall_eq T_spec_OramOk]; unfold A_spec_OramOk C_spec_OramOk; simp [thenD_pp, sliceCells_sl, sliceCells_z, sliceCells_nil, take_full, appS_sl, appK_ok, appS_none, thenD_ag, agP_nil, agP_cons, e1, h3, h3', h7, e5, e6, e7, h6', gb]
  · have h5' : ¬ (m.2.1.length : Int) = (N : Int) := by omega
    rw [frO_f (by unfold frO; rw [hk0, ← hN, decide_eq_false h5]; simp)]
    rw [aCall_eq T_spec_OramOk]; unfold A_spec_OramOk C_spec_OramOk; simp [thenD_pp, sliceCells_sl, sliceCells_z, sliceCells_nil, take_full, appS_sl, appK_ok, appS_none, thenD_ag, agP_nil, agP_cons, e1, h3, h3', h7, e5, e6, h5', gb]
def Zl (zs : List (List V × ty_Block.D)) : List V := (zs.map (·.1)).flatten
theorem rep_zs {K : Nat} {X : Mem} {v : V} {zs : List (List V × ty_Block.D)} (h : Grow K 3 X v zs.length (Zl zs)) (hz : ∀ z ∈ zs, Rep ty_Block X z.1 z.2) : Rep (.sl ty_Block) X [v] (zs.map (·.2)) := by
  rcases h.2 with ⟨rfl, h0⟩ | ⟨l, _, rfl, hb⟩
  · have : zs = [] := List.length_eq_zero_iff.1 h0
    subst this
    exact .inl ⟨rfl, rfl⟩
  · refine .inr ⟨l, 0, zs.length, _, zs.map (·.1), by rw [List.length_map], hb, .inr (.inl rfl), rfl, by simp, ?_, ?_⟩
    · intro i ds x hd hx
      rw [List.getElem?_map] at hd hx
      obtain ⟨z, hz1, rfl⟩ := Option.map_eq_some_iff.1 hd
      obtain ⟨z', hz2, rfl⟩ := Option.map_eq_some_iff.1 hx
      rw [hz1] at hz2
      cases hz2
      exact hz z (List.mem_of_getElem? hz1)
    · rw [List.drop_zero]
      exact List.prefix_refl _
def SoI (M : Mem) (ys : List ty_Block.D) (v : V) (X : Mem) : Prop := M <+: X ∧ ∃ zs : List (List V × ty_Block.D), zs.map (·.2) = ys ∧ (∀ z ∈ zs, Rep ty_Block M z.1 z.2) ∧ Grow M.length 3 X v zs.length (Zl zs)
theorem flI_take (k : Nat) (xs : List ty_Block.D) {i : Nat} (hi : i < xs.length) : flI k (xs.take (i + 1)) = flI k (xs.take i) ++ (if Int.toNat xs[i].1 = k then [xs[i]] else []) := by
  rw [List.take_succ_eq_append_getElem hi, flI_app, flI_one]
theorem Zl_app (zs zs' : List (List V × ty_Block.D)) : Zl (zs ++ zs') = Zl zs ++ Zl zs' := by simp [Zl]
set_option maxHeartbeats 1000000 in
theorem l_spec_l14Sorted_1 (M : Mem) (a : Option Addr) (c : Nat) (xs : List ty_Block.D) (h : Rep (.sl ty_Block) M [.slice a xs.length c] xs) (hr : IdsR xs) (hn : xs.length ≤ 100000) (k : Nat) (hk : k < 256) (ys : List ty_Block.D) (hy : ys.length ≤ 100000000) (v : V) (X : Mem) (hX : SoI M ys v X) :
    ∃ v' X', SoI M (ys ++ flI k xs) v' X' ∧ lp (aCall T0) K_spec_l14Sorted_1 L_spec_l14Sorted_1 [.slice a xs.length c, und, und, v, .int .i64 k, .int .i64 (0 : Nat), und, und, und, und, und, und, und, und, und, und, und, und, und, und, und, und, und, und, und, und, und, und, und, und, und, und, und] X = lp (aCall T0) K_spec_l14Sorted_1 L_spec_l14Sorted_1 [.slice a xs.length c, und, und, v', .int .i64 k, .int .i64 xs.length, und, und, und, und, und, und, und, und, und, und, und, und, und, und, und, und, und, und, und, und, und, und, und, und, und, und, und] X' := by
  have key := loop_to (call := aCall T0) (K := K_spec_l14Sorted_1) (L := L_spec_l14Sorted_1) (fun i v X => SoI M (ys ++ flI k (xs.take i)) v X) (fun i v => [.slice a xs.length c, und, und, v, .int .i64 k, .int .i64 i, und, und, und, und, und, und, und, und, und, und, und, und, und, und, und, und, und, und, und, und, und, und, und, und, und, und, und]) (n := xs.length) ?_ 0 v X (by omega) (by simpa [flI] using hX)
  · rw [List.take_length] at key
    exact key
  intro i v X hi ⟨pX, zs, hzs, hz, hg⟩
  have e6 : IntKind.i64.wrap ((i : Int) + 1) = i + 1 := wrap_i64 (by omega) (by omega)
  obtain ⟨l, o, u, rfl, hr0, _, _, hrn, _, _, hub, hrep⟩ := at_Block (h.mono pX) hi
  obtain ⟨_, l', o', e, cs', hrd', hrepM⟩ := rep_at h hi
  cases e
  have hrd2 := rn_pre pX hrd'
  have hw : ty_Block.w = 3 := rfl
  rw [hw] at hrd2
  rw [hrn] at hrd2
  have hcs := (Option.some.inj hrd2).symm
  subst hcs
  obtain ⟨ub, uc, rfl⟩ := hub.slen
  rw [flI_take k xs hi, ← List.append_assoc]
  have hid := ids_nat hr _ (List.getElem_mem hi)
  have hfl : (flI k (xs.take i)).length ≤ i := by
    have h1 : (flI k (xs.take i)).length ≤ (xs.take i).length := List.length_filter_le _ _
    rw [List.length_take] at h1
    omega
  have hzl : zs.length = ys.length + (flI k (xs.take i)).length := by rw [← List.length_map (f := Prod.snd), ← List.length_append]; exact congrArg List.length hzs
  generalize flI k (xs.take i) = fl at *
  have hone := hrepM.one
  generalize hxi : xs[i] = b at *
  obtain ⟨b1, b2, b3⟩ := b
  simp only at hr0 hrn hid hub hone hrepM
  rw [hid.1] at hr0 hrn hone hrepM
  have hlt := hid.2
  by_cases hq : Int.toNat b1 = k
  · rw [if_pos hq]
    subst hq
    generalize hdl : List.length (α := UInt8) b3 = dl at *
    generalize hq : Int.toNat b1 = q at *
    rw [S_spec_l14Sorted_1]; unfold B_spec_l14Sorted_1; simp [thenD_pp, sliceCells_sl, sliceCells_z, sliceCells_nil, take_full, appS_sl, appK_ok, appS_none, thenD_ag, agP_nil, agP_cons, hi, hr0, hrn, hone, zeroCells]
    generalize hy : appS _ _ _ _ _ _ = xhy
    obtain ⟨a2, X3, rfl, g3, ag, hl3, hw3⟩ := grow_app hg hy (List.prefix_append _ _) pX.length_le (by simp) (List.all_eq_true.2 fun x hx => List.all_eq_true.1 hone x hx) (by omega) (by omega)
    clear hy
    simp [thenD_pp, sliceCells_sl, sliceCells_z, sliceCells_nil, take_full, appS_sl, appK_ok, appS_none, thenD_ag, agP_nil, agP_cons, e6]
    refine ⟨_, X3, ⟨ag.pre (pX.trans (List.prefix_append _ _)) hg.ge, zs ++ [([.int .i64 (q : Int), .int .i64 b2, .slice ub dl uc], (b1, b2, b3))], by rw [List.map_append, hzs, List.append_assoc]; rfl, fun z hm => ?_, ?_⟩, rfl⟩
    · rcases List.mem_append.1 hm with hm | hm
      · exact hz z hm
      · rw [List.mem_singleton.1 hm]
        show Rep ty_Block M _ (b1, b2, b3)
        rw [hid.1]
        exact hrepM
    · rw [List.length_append, Zl_app]
      exact g3
  · rw [if_neg hq, List.append_nil]
    generalize hdl : List.length (α := UInt8) b3 = dl at *
    generalize Int.toNat b1 = q at *
    have hq2 : ¬ (q : Int) = (k : Int) := by omega
    rw [S_spec_l14Sorted_1]; unfold B_spec_l14Sorted_1; simp [thenD_pp, sliceCells_sl, sliceCells_z, sliceCells_nil, take_full, appS_sl, appK_ok, appS_none, thenD_ag, agP_nil, agP_cons, hi, hr0, hrn, hq2, hq, e6]
    exact ⟨v, X, ⟨pX, zs, hzs, hz, hg⟩, rfl⟩
def srtL (n : Nat) (xs : List ty_Block.D) : List ty_Block.D := (List.range n).flatMap fun k => flI k xs
theorem srtL_succ (n : Nat) (xs : List ty_Block.D) : srtL (n + 1) xs = srtL n xs ++ flI n xs := by
  unfold srtL
  rw [List.range_succ, List.flatMap_append]
  simp
theorem srtL_len (xs : List ty_Block.D) : ∀ n, (srtL n xs).length ≤ n * xs.length
  | 0 => by simp [srtL]
  | n + 1 => by
    have h1 : (flI n xs).length ≤ xs.length := List.length_filter_le _ _
    have h2 := srtL_len xs n
    rw [srtL_succ, List.length_append, Nat.succ_mul]
    omega
set_option maxHeartbeats 1000000 in
theorem c_spec_l14Sorted (M : Mem) (v : V) (xs : List ty_Block.D) (h : Rep (.sl ty_Block) M [v] xs) (hr : IdsR xs) (hn : xs.length ≤ 4000) (hz : BlkSz xs) : Sat (aCall T0 F_spec_l14Sorted [v] M) (GrV ty_Block M (srtL 256 xs)) := by
  obtain ⟨a, c, rfl⟩ := h.slen
  have key := loop_to (call := aCall T0) (K := K_spec_l14Sorted_0) (L := L_spec_l14Sorted_0) (fun i v X => SoI M (srtL i xs) v X) (fun i v => [.slice a xs.length c, und, und, v, .int .i64 i, und, und, und, und, und, und, und, und, und, und, und, und, und, und, und, und, und, und, und, und, und, und, und, und, und, und, und, und]) (n := 256) ?_ 0 (.slice (some ⟨M.length, 0, none⟩) 0 0) (M ++ [⟨[], 3, 2⟩]) (by omega) ⟨List.prefix_append _ _, [], rfl, by simp, Grow.new (Nat.le_refl _) rfl⟩
  · obtain ⟨v', X', ⟨pX, zs, hzs, hzr, hg⟩, e⟩ := key
    simp only [Int.natCast_zero, Int.ofNat_zero] at e
    have hrep := rep_zs hg (fun z hm => (hzr z hm).mono pX)
    rw [hzs] at hrep
    have hlen := srtL_len xs 256
    have hC := c_spec_l13Copy X' v' _ hrep ⟨by omega, fun x hx => by
      obtain ⟨k, _, hk⟩ := List.mem_flatMap.1 hx
      exact hz.2 x (List.mem_filter.1 hk).1⟩
    rw [aCall_eq T_spec_l14Sorted]; unfold A_spec_l14Sorted C_spec_l14Sorted; simp [thenD_pp, sliceCells_sl, sliceCells_z, sliceCells_nil, take_full, appS_sl, appK_ok, appS_none, thenD_ag, agP_nil, agP_cons, zeroCells, e]
    rw [S_spec_l14Sorted_0]; unfold B_spec_l14Sorted_0; simp [thenD_pp, sliceCells_sl, sliceCells_z, sliceCells_nil, take_full, appS_sl, appK_ok, appS_none, thenD_ag, agP_nil, agP_cons]
    generalize hx : aCall T0 F_spec_l13Copy _ _ = xhx
    obtain ⟨v3, X3, rfl, L3, p3, g3, n3, k3⟩ := of_call hx hC
    clear hx
    simp only at p3 g3
    obtain ⟨a3, rfl⟩ := g3.shape
    simp [thenD_pp, sliceCells_sl, sliceCells_z, sliceCells_nil, take_full, appS_sl, appK_ok, appS_none, thenD_ag, agP_nil, agP_cons]
    exact ⟨(_, X3), rfl, L3, pX.trans p3, g3, n3, fun j hj => Nat.le_trans pX.length_le (k3 j hj)⟩
  · intro i v X hi hX
    have hlen := srtL_len xs i
    have hle : i * xs.length ≤ 256 * 4000 := Nat.mul_le_mul (by omega) hn
    obtain ⟨v', X', hX', e⟩ := l_spec_l14Sorted_1 M a c xs h hr (by omega) i hi (srtL i xs) (by omega) v X hX
    simp only [Int.natCast_zero, Int.ofNat_zero] at e
    have e6 : IntKind.i64.wrap ((i : Int) + 1) = i + 1 := wrap_i64 (by omega) (by omega)
    have hi2 : (i : Int) ≤ 255 := by omega
    rw [srtL_succ]
    refine ⟨v', X', hX', ?_⟩
    rw [S_spec_l14Sorted_0]; unfold B_spec_l14Sorted_0; simp [thenD_pp, sliceCells_sl, sliceCells_z, sliceCells_nil, take_full, appS_sl, appK_ok, appS_none, thenD_ag, agP_nil, agP_cons, hi2, e]
    rw [S_spec_l14Sorted_1]; unfold B_spec_l14Sorted_1; simp [thenD_pp, sliceCells_sl, sliceCells_z, sliceCells_nil, take_full, appS_sl, appK_ok, appS_none, thenD_ag, agP_nil, agP_cons, e6]
    try rfl
theorem nodup_sub {a : Nat} {Ls : List (List Nat)} {k : Nat} {K : List Nat} (hn : (a :: Ls.flatten).Nodup) (hK : Ls[k]? = some K) : a ∉ K := fun hm => (List.nodup_cons.1 hn).1 (List.mem_flatten.2 ⟨K, List.mem_of_getElem? hK, hm⟩)
theorem zl_gr {M : Mem} {v : V} {xs : List ty_Block.D} {L : List Nat} (h : Gr (.sl ty_Block) M [v] xs L) (hn : L.Nodup) : ∃ zs : List (List V × ty_Block.D), zs.map (·.2) = xs ∧ (∀ z ∈ zs, ∃ K, Gr ty_Block M z.1 z.2 K ∧ ∀ j ∈ K, j ∈ L ∧ j ∉ wfs v) ∧ Grow 0 3 M v zs.length (Zl zs) ∧ ∀ j ∈ wfs v, j ∈ L := by
  rcases h with ⟨e, rfl, _⟩ | ⟨l, css, Ls, e, hb, h1, h2, h3, rfl⟩
  · cases e
    exact ⟨[], rfl, by simp, ⟨rfl, .inl ⟨rfl, rfl⟩⟩, by simp [wfs]⟩
  · cases e
    have hzl : (css.zip xs).length = xs.length := by rw [List.length_zip]; omega
    have hm : ((css.zip xs).map (·.1)) = css := List.map_fst_zip (by omega)
    have hcl : ∀ c ∈ css, c.length = 3 := fun c hc => by
      obtain ⟨k, hk, rfl⟩ := List.getElem_of_mem hc
      exact (h3 k _ (xs[k]'(by omega)) (Ls[k]'(by omega)) (by simp) (by simp) (by simp)).len
    refine ⟨css.zip xs, List.map_snd_zip (by omega), ?_, ⟨by unfold Zl; rw [hm, flat_len hcl, hzl, h1], .inr ⟨l, Nat.zero_le _, by rw [hzl], by unfold Zl; rw [hm]; exact hb⟩⟩, by simp [wfs]⟩
    intro z hz
    obtain ⟨i, hi, rfl⟩ := List.getElem_of_mem hz
    rw [List.length_zip] at hi
    rw [List.getElem_zip]
    have hK : Ls[i]? = some (Ls[i]'(by omega)) := List.getElem?_eq_getElem (by omega)
    refine ⟨_, h3 i _ _ _ (List.getElem?_eq_getElem (by omega)) (List.getElem?_eq_getElem (by omega)) hK, fun j hj => ⟨List.mem_cons_of_mem _ (List.mem_flatten.2 ⟨_, List.mem_of_getElem? hK, hj⟩), fun hw => ?_⟩⟩
    have : j = l := by simpa [wfs] using hw
    subst this
    exact nodup_sub hn hK hj
theorem node_at {M : Mem} {v : V} {xs : List ty_Node.D} {L : List Nat} (h : Gr (.sl ty_Node) M [v] xs L) (hn : L.Nodup) {i : Nat} (hi : i < xs.length) : ∃ (l : Nat) (u : V) (K : List Nat), v = .slice (some ⟨l, 0, none⟩) xs.length xs.length ∧ rd1 M l i = some u ∧ Gr (.sl ty_Block) M [u] xs[i] K ∧ K.Nodup ∧ l ∈ L ∧ ∀ j ∈ K, j ∈ L := by
  rcases h with ⟨_, rfl, _⟩ | ⟨l, css, Ls, e, hb, h1, h2, h3, rfl⟩
  · simp at hi
  · cases e
    have hq := h3 i (css[i]'(by omega)) xs[i] (Ls[i]'(by omega)) (by simp) (by simp) (by simp)
    have hcl : ∀ c ∈ css, c.length = 1 := fun c hc => by
      obtain ⟨k, hk, rfl⟩ := List.getElem_of_mem hc
      exact (h3 k _ (xs[k]'(by omega)) (Ls[k]'(by omega)) (by simp) (by simp) (by simp)).len
    have hfl := flat_len hcl
    have hrd : rdn M l (i * 1) 1 = some (css[i]'(by omega)) := by
      have := flat_atr (w := 1) css i (by omega) [] hcl
      rw [List.append_nil] at this
      simp only [rdn, hb]
      rw [if_pos (by refine ⟨by simp, by omega⟩), this]
    have hnK : (Ls[i]'(by omega)).Nodup := (List.pairwise_flatten.1 (List.nodup_cons.1 hn).2).1 _ (List.getElem_mem _)
    have hl := hq.len
    rw [Nat.mul_one] at hrd
    have hsub : ∀ j ∈ Ls[i]'(by omega), j ∈ l :: Ls.flatten := fun j hj => List.mem_cons_of_mem _ (List.mem_flatten.2 ⟨_, List.getElem_mem _, hj⟩)
    generalize css[i]'(by omega) = ds at *
    generalize Ls[i]'(by omega) = K at *
    match ds, hl, hrd, hq with
    | [u], _, hrd, hq => exact ⟨l, u, K, rfl, rd1_of_one hrd, hq, hnK, List.mem_cons_self .., hsub⟩
/-- A list that grows, of blocks that stay. -/
structure AlI (M Z : Mem) (D : List Nat) (ys : List ty_Block.D) (v : V) (X : Mem) : Prop where
  pre : M <+: X
  ag : Agree Z X D
  wf : ∀ b ∈ wfs v, b ∈ D ∨ Z.length ≤ b
  ge : ∀ b ∈ wfs v, M.length ≤ b
  zs : ∃ zs : List (List V × ty_Block.D), zs.map (·.2) = ys ∧ (∀ z ∈ zs, ∃ K, Gr ty_Block Z z.1 z.2 K ∧ ∀ j ∈ K, j ∉ D) ∧ Grow 0 3 X v zs.length (Zl zs)
theorem Zl_all {M : Mem} {zs : List (List V × ty_Block.D)} (h : ∀ z ∈ zs, Rep ty_Block M z.1 z.2) : (Zl zs).all one = true := by
  rw [List.all_eq_true]
  intro x hx
  obtain ⟨c, hc, hx⟩ := List.mem_flatten.1 hx
  obtain ⟨z, hz, rfl⟩ := List.mem_map.1 hc
  exact List.all_eq_true.1 (h z hz).one x hx
set_option maxHeartbeats 2000000 in
theorem l_spec_OramBlocks_0 (M Z : Mem) (D : List Nat) (aN : Option Addr) (cN : Nat) (ns : List ty_Node.D) (LN : List Nat) (hN : Gr (.sl ty_Node) Z [.slice aN ns.length cN] ns LN) (nN : LN.Nodup) (hD : ∀ j ∈ LN, j ∉ D) (hMZ : M.length ≤ Z.length) (hnl : ∀ bs ∈ ns, List.length (α := ty_Block.D) bs ≤ 4) (hnn : ns.length ≤ 1000) (ys : List ty_Block.D) (hys : ys.length ≤ 1000) (v : V) (X : Mem) (h : AlI M Z D ys v X) :
    ∃ v' X', AlI M Z D (ys ++ ns.flatten) v' X' ∧ lp (aCall T0) K_spec_OramBlocks_0 L_spec_OramBlocks_0 [und, und, und, v, .slice aN ns.length cN, und, .int .i64 (0 : Nat), und, und, und, und, und, und, und, und, und, und, und, und, und, und, und, und, und, und, und, und, und, und, und, und, und, und] X = lp (aCall T0) K_spec_OramBlocks_0 L_spec_OramBlocks_0 [und, und, und, v', .slice aN ns.length cN, und, .int .i64 ns.length, und, und, und, und, und, und, und, und, und, und, und, und, und, und, und, und, und, und, und, und, und, und, und, und, und, und] X' := by
  have key := loop_to (call := aCall T0) (K := K_spec_OramBlocks_0) (L := L_spec_OramBlocks_0) (fun i v X => AlI M Z D (ys ++ (ns.take i).flatten) v X) (fun i v => [und, und, und, v, .slice aN ns.length cN, und, .int .i64 i, und, und, und, und, und, und, und, und, und, und, und, und, und, und, und, und, und, und, und, und, und, und, und, und, und, und]) (n := ns.length) ?_ 0 v X (by omega) (by simpa using h)
  · rw [List.take_length] at key
    exact key
  intro i v X hi hX
  have e6 : IntKind.i64.wrap ((i : Int) + 1) = i + 1 := wrap_i64 (by omega) (by omega)
  have hfl := flatten_len (ns := ns.take i) (k := 4) (fun x hx => hnl x (List.mem_of_mem_take hx))
  rw [List.length_take] at hfl
  have hbl := hnl _ (List.getElem_mem hi)
  obtain ⟨zs, hzs, hz, hg⟩ := hX.zs
  have hzl : zs.length = ys.length + ((ns.take i).flatten).length := by rw [← List.length_map (f := Prod.snd), ← List.length_append]; exact congrArg List.length hzs
  rw [flatten_take ns hi, ← List.append_assoc]
  obtain ⟨l, u, K, e, hrd, hgn, hnN, hlL, hK⟩ := node_at hN nN hi
  cases e
  have hrdZ := hrd
  obtain ⟨zs2, hzs2, hz2, hg2, hw2⟩ := zl_gr hgn hnN
  have hru : rd1 X l i = some u := by
    have hlt := hN.lt l hlL
    have e2 := hX.ag.2 l hlt (hD l hlL)
    unfold rd1 at hrd ⊢
    rw [e2]
    exact hrd
  have hgX : Grow 0 3 X u zs2.length (Zl zs2) := hg2.keep fun b hb => hX.ag.2 b (hg2.lt b hb) (hD b (hK b (hw2 b hb)))
  have hsc := hgX.cells
  have hl2 : zs2.length ≤ 4 := by rw [← List.length_map (f := Prod.snd), hzs2]; exact hbl
  have hall : (Zl zs2).all one = true := Zl_all (M := Z) fun z hm => by
    obtain ⟨K2, q, _⟩ := hz2 z hm
    exact q.rep
  obtain ⟨au, rfl⟩ := hgX.shape
  generalize (ns.take i).flatten = fl at *
  rw [S_spec_OramBlocks_0]; unfold B_spec_OramBlocks_0; simp [thenD_pp, sliceCells_sl, sliceCells_z, sliceCells_nil, take_full, appS_sl, appK_ok, appS_none, thenD_ag, agP_nil, agP_cons, hi, hru, hsc]
  generalize hy : appS _ _ _ _ _ _ = xhy
  obtain ⟨a2, X3, rfl, g3, ag, hl3, hw3⟩ := grow_app hg hy (List.prefix_refl _) (Nat.zero_le _) hgX.1 hall (by omega) (by omega)
  clear hy
  simp [thenD_pp, sliceCells_sl, sliceCells_z, sliceCells_nil, take_full, appS_sl, appK_ok, appS_none, thenD_ag, agP_nil, agP_cons, e6]
  have hagX : Agree Z X3 D := ⟨Nat.le_trans hX.ag.1 hl3, fun b hb hn => by
    rw [ag.2 b (by have := hX.ag.1; omega) (fun hm => by rcases hX.wf b hm with h | h; exact hn h; omega)]
    exact hX.ag.2 b hb hn⟩
  refine ⟨_, X3, ⟨ag.pre hX.pre hX.ge, hagX, fun b hb => ?_, fun b hb => ?_, zs ++ zs2, by rw [List.map_append, hzs, hzs2, List.append_assoc], fun z hm => ?_, ?_⟩, rfl⟩
  · rcases hw3 b hb with h | h
    · exact hX.wf b h
    · right; have := hX.ag.1; omega
  · rcases hw3 b hb with h | h
    · exact hX.ge b h
    · have := hX.pre.length_le; omega
  · rcases List.mem_append.1 hm with hm | hm
    · exact hz z hm
    · obtain ⟨K2, q1, q2⟩ := hz2 z hm
      exact ⟨K2, q1, fun j hj => hD j (hK j (q2 j hj).1)⟩
  · rw [List.length_append, Zl_app]
    exact g3
theorem srt_eq {a xs : List ty_Block.D} (h1 : IdLt a) (h2 : IdsR a) (h : ∀ k, flI k a = flI k xs) : srtL 256 xs = a := by
  have e : srtL 256 xs = srtL 256 a := by
    unfold srtL
    congr 1
    funext k
    rw [h k]
  rw [e]
  have key : ∀ (n k : Nat) (a : List ty_Block.D), IdLt a → (∀ x ∈ a, (k : Int) ≤ x.1 ∧ x.1 < ((k + n : Nat) : Int)) → (List.range' k n).flatMap (fun k => flI k a) = a := by
    intro n
    induction n with
    | zero =>
      intro k a _ h
      cases a with
      | nil => rfl
      | cons x xs =>
        have := h x (by simp)
        exfalso
        have h3 : (k : Int) < ((k + 0 : Nat) : Int) := Int.lt_of_le_of_lt this.1 this.2
        omega
    | succ n ih =>
      intro k a h1 h2
      rw [List.range'_succ, List.flatMap_cons]
      cases a with
      | nil => simp [flI]
      | cons x xs =>
        have hx := h2 x (by simp)
        have hp := List.pairwise_cons.1 h1
        have hnn : ∀ y ∈ x :: xs, y.1 = ((Int.toNat y.1 : Nat) : Int) ∧ k ≤ Int.toNat y.1 := fun y hy => by
          have hy := (h2 y hy).1
          generalize y.1 = z at *
          exact (show ∀ z : Int, (k : Int) ≤ z → z = ((Int.toNat z : Nat) : Int) ∧ k ≤ Int.toNat z from fun z hz => by omega) z hy
        by_cases hk : Int.toNat x.1 = k
        · have hxk := (hnn x (by simp)).1
          rw [hk] at hxk
          have hgt : ∀ y ∈ xs, k < Int.toNat y.1 := fun y hy => by
            have h3 := hp.1 y hy
            have h4 := hnn y (by simp [hy])
            rw [hxk, h4.1] at h3
            exact (show ∀ a b : Nat, (a : Int) < (b : Int) → a < b from fun a b h => by omega) _ _ h3
          have e1 : flI k (x :: xs) = [x] := by
            rw [show x :: xs = [x] ++ xs from rfl, flI_app, flI_one, if_pos hk]
            have : flI k xs = [] := by
              unfold flI
              rw [List.filter_eq_nil_iff]
              intro y hy hd
              have := hgt y hy
              have := of_decide_eq_true hd
              omega
            rw [this]
            rfl
          have e2 : (List.range' (k + 1) n).flatMap (fun j => flI j (x :: xs)) = (List.range' (k + 1) n).flatMap (fun j => flI j xs) := by
            rw [List.flatMap_def, List.flatMap_def]
            congr 1
            refine List.map_congr_left fun j hj => ?_
            have hj := (List.mem_range'_1.1 hj).1
            rw [show x :: xs = [x] ++ xs from rfl, flI_app, flI_one, if_neg (by omega)]
            rfl
          rw [e1, e2, ih (k + 1) xs hp.2 fun y hy => ?_]
          · rfl
          · have h3 := hgt y hy
            have h4 := (hnn y (by simp [hy])).1
            have h5 := (h2 y (by simp [hy])).2
            refine ⟨?_, ?_⟩
            · rw [h4]
              exact Int.ofNat_le.2 h3
            · rw [show k + 1 + n = k + (n + 1) by omega]
              exact h5
        · have hxk := (hnn x (by simp)).2
          have hgt : ∀ y ∈ x :: xs, k < Int.toNat y.1 := fun y hy => by
            rcases List.mem_cons.1 hy with rfl | hy'
            · omega
            · have h3 := hp.1 y hy'
              have h4 := (hnn y hy).1
              rw [h4, (hnn x (by simp)).1] at h3
              have h5 : Int.toNat x.1 < Int.toNat y.1 := (show ∀ a b : Nat, (a : Int) < (b : Int) → a < b from fun a b h => by omega) _ _ h3
              omega
          have e1 : flI k (x :: xs) = [] := by
            unfold flI
            rw [List.filter_eq_nil_iff]
            intro y hy hd
            have := hgt y hy
            have := of_decide_eq_true hd
            omega
          rw [e1, List.nil_append]
          refine ih (k + 1) (x :: xs) h1 fun y hy => ?_
          have h3 := hgt y hy
          have h4 := (hnn y hy).1
          have h5 := (h2 y hy).2
          refine ⟨?_, ?_⟩
          · rw [h4]
            exact Int.ofNat_le.2 h3
          · rw [show k + 1 + n = k + (n + 1) by omega]
            exact h5
  have hr := key 256 0 a h1 fun x hx => by
    have := h2 x hx
    refine ⟨this.1, Int.lt_of_le_of_lt this.2 (by decide)⟩
  rw [← List.range_eq_range'] at hr
  exact hr
set_option maxRecDepth 20000 in
set_option maxHeartbeats 2000000 in
theorem c_spec_oramBlocks (M : Mem) (l w b : Int) (m : ty_Mem.D) (st : List ty_Block.D) (aC : Option Addr) (cC : Nat) (aT : Option Addr) (cT : Nat) (aS : Option Addr) (cS : Nat)
    (hM : Rep ty_Mem M [.int .i64 m.1, .slice aC m.2.1.length cC, .slice aT m.2.2.length cT] m) (hC : Rep (.sl ty_Cell) M [.slice aC m.2.1.length cC] m.2.1) (hS : Rep (.sl ty_Block) M [.slice aS st.length cS] st) (hz : BlkSz st) (hcz : m.2.1.length ≤ 1048576) (hsz : ∀ c ∈ m.2.1, List.length (α := UInt8) c ≤ 1048576) :
    Sat (aCall T0 F_spec_OramBlocks [.agg (aO l w b m.1 aC m.2.1.length cC aT m.2.2.length cT aS st.length cS).toArray] M) (GrV ty_Block M ((orX l w b m st).getD [])) := by
  have hpre : M <+: M ++ [(⟨aO l w b m.1 aC m.2.1.length cC aT m.2.2.length cT aS st.length cS, 1, 2⟩ : Blk)] := List.prefix_append _ _
  have hok := c_spec_oramOk (M ++ [(⟨aO l w b m.1 aC m.2.1.length cC aT m.2.2.length cT aS st.length cS, 1, 2⟩ : Blk)]) l w b m st aC cC aT cT aS cS (hM.mono hpre) (hC.mono hpre) (hS.mono hpre) hz hcz hsz
  cases ho : orX l w b m st with
  | none =>
    rw [ho] at hok
    simp only [Option.isSome_none] at hok
    rw [aCall_eq T_spec_OramBlocks]; unfold A_spec_OramBlocks C_spec_OramBlocks; simp [thenD_pp, sliceCells_sl, sliceCells_z, sliceCells_nil, take_full, appS_sl, appK_ok, appS_none, thenD_ag, agP_nil, agP_cons, hok]
    exact ⟨(_, _), rfl, [], hpre, Gr.nil, by simp, by simp⟩
  | some r =>
    rw [ho] at hok
    simp only [Option.isSome_some] at hok
    have hfr : frO l w b m st = true := by
      cases h : frO l w b m st with
      | true => rfl
      | false => unfold orX at ho; rw [h] at ho; cases ho
    have hX : outO (Int.toNat l) w 1 m.2.1 st = some r := by
      unfold orX at ho
      rw [if_pos hfr] at ho
      exact ho
    unfold frO at hfr
    simp only [Bool.and_eq_true, decide_eq_true_eq] at hfr
    obtain ⟨h1, h2, h3, h4, h5, h6, h7, h8⟩ := hfr
    have st8 : st.length ≤ 128 ∧ blocksB l w st = true := by unfold stashB at h8; simpa using h8
    have hlt := blocks_lt st8.2
    have hid := ids_of st8.2
    have hmb := mem_bnd h4
    obtain ⟨k, rfl, hk⟩ := log_nat h1
    have hk0 : Int.toNat (k : Int) = k := by omega
    rw [hk0] at hX
    obtain ⟨⟨q1, q2⟩, q3, q4, q5⟩ := out_good m.2.1 1 st r hX hlt hid
    have hC1 := c_spec_l13Copy (M ++ [(⟨aO k w b m.1 aC m.2.1.length cC aT m.2.2.length cT aS st.length cS, 1, 2⟩ : Blk)]) _ st (hS.mono hpre) hz
    have hbx0 : (M ++ [(⟨aO k w b m.1 aC m.2.1.length cC aT m.2.2.length cT aS st.length cS, 1, 2⟩ : Blk)])[M.length]? = some ⟨aO k w b m.1 aC m.2.1.length cC aT m.2.2.length cT aS st.length cS, 1, 2⟩ := List.getElem?_concat_length
    rw [aCall_eq T_spec_OramBlocks]; unfold A_spec_OramBlocks C_spec_OramBlocks; simp [thenD_pp, sliceCells_sl, sliceCells_z, sliceCells_nil, take_full, appS_sl, appK_ok, appS_none, thenD_ag, agP_nil, agP_cons, hok]
    generalize hx : aCall T0 F_spec_l13Copy _ _ = xhx
    obtain ⟨v1, X1, rfl, L1, p1, g1, n1, k1⟩ := of_call hx hC1
    clear hx
    simp only at p1 g1
    have hbx := get_pre p1 hbx0
    have hr7 : rdn X1 M.length 0 7 = some (aO k w b m.1 aC m.2.1.length cC aT m.2.2.length cT aS st.length cS) := rdn_box hbx rfl
    have pM1 := hpre.trans p1
    have hN := c_spec_l14Nodes X1 k w b m st aC cC aT cT aS cS (hC.mono pM1) hcz hsz
    rw [q1, if_pos rfl] at hN
    simp [thenD_pp, sliceCells_sl, sliceCells_z, sliceCells_nil, take_full, appS_sl, appK_ok, appS_none, thenD_ag, agP_nil, agP_cons, hr7]
    generalize hx : aCall T0 F_spec_l14Nodes _ _ = xhx
    obtain ⟨_, X2, rfl, r2, LN, rfl, p2, g2, nN, kN⟩ := of_call hx hN
    clear hx
    simp only at p2 g2
    have hnl : (ndsF w m.2.1).length = m.2.1.length := ndsF_len _ _
    obtain ⟨aN, cN, rfl⟩ := g2.rep.slen
    obtain ⟨zs, hzs, hz1, hg1, hw1⟩ := zl_gr (g1.grow p2) n1
    have hml := hpre.length_le
    obtain ⟨v3, X3, h3, e⟩ := l_spec_OramBlocks_0 M X2 (wfs v1) aN cN (ndsF w m.2.1) LN g2 nN (fun j hj hm => by
      have := kN j hj
      have := g1.lt j (hw1 j hm)
      omega) (pM1.trans p2).length_le (fun bs hb => by
      obtain ⟨c, _, rfl⟩ := List.mem_map.1 hb
      exact ndB_len _ _) (by omega) st (by omega) v1 X2 ⟨pM1.trans p2, ⟨Nat.le_refl _, fun _ _ _ => rfl⟩, fun b hb => .inl hb, fun b hb => by
        have := k1 b (hw1 b hb)
        omega, zs, hzs, fun z hm => by
        obtain ⟨K, w1, w2⟩ := hz1 z hm
        exact ⟨K, w1, fun j hj => (w2 j hj).2⟩, hg1⟩
    simp only [Int.natCast_zero, Int.ofNat_zero] at e
    obtain ⟨zs3, hzs3, hz3, hg3⟩ := h3.zs
    have hrep := rep_zs hg3 (fun z hm => by
      obtain ⟨K, w1, w2⟩ := hz3 z hm
      exact (w1.agree h3.ag w2).rep)
    rw [hzs3] at hrep
    have hfl := flatten_len (ns := ndsF w m.2.1) (k := 4) (fun bs hb => by
      obtain ⟨c, _, rfl⟩ := List.mem_map.1 hb
      exact ndB_len _ _)
    have hmem : ∀ x ∈ st ++ (ndsF w m.2.1).flatten, (0 ≤ x.1 ∧ x.1 ≤ 255) ∧ List.length (α := UInt8) x.2.2 ≤ 1048576 := fun x hx => by
      rcases List.mem_append.1 hx with hx | hx
      · exact ⟨hid x hx, hz.2 x hx⟩
      · obtain ⟨bs, hbs, hx⟩ := List.mem_flatten.1 hx
        obtain ⟨c, hc, rfl⟩ := List.mem_map.1 hbs
        have hnd := List.all_eq_true.1 q1 c hc
        refine ⟨ndOk_ids hnd x hx, ?_⟩
        have hcl := hsz c hc
        unfold ndB at hx
        obtain ⟨j, _, rfl⟩ := List.mem_map.1 hx
        unfold blkAt
        show List.length (α := UInt8) ((List.drop _ c).take _) ≤ 1048576
        rw [List.length_take, List.length_drop]
        omega
    have hS4 := c_spec_l14Sorted X3 v3 _ hrep (fun x hx => (hmem x hx).1) (by rw [List.length_append]; omega) ⟨by rw [List.length_append]; omega, fun x hx => (hmem x hx).2⟩
    rw [srt_eq q3 q4 q5] at hS4
    obtain ⟨_, rfl⟩ := hg3.shape
    simp [thenD_pp, sliceCells_sl, sliceCells_z, sliceCells_nil, take_full, appS_sl, appK_ok, appS_none, thenD_ag, agP_nil, agP_cons, e]
    rw [S_spec_OramBlocks_0]; unfold B_spec_OramBlocks_0; simp [thenD_pp, sliceCells_sl, sliceCells_z, sliceCells_nil, take_full, appS_sl, appK_ok, appS_none, thenD_ag, agP_nil, agP_cons]
    generalize hx : aCall T0 F_spec_l14Sorted _ _ = xhx
    obtain ⟨v4, X4, rfl, L4, p4, g4, n4, k4⟩ := of_call hx hS4
    clear hx
    simp only at p4 g4
    obtain ⟨a4, rfl⟩ := g4.shape
    simp [thenD_pp, sliceCells_sl, sliceCells_z, sliceCells_nil, take_full, appS_sl, appK_ok, appS_none, thenD_ag, agP_nil, agP_cons]
    exact ⟨(_, X4), rfl, L4, h3.pre.trans p4, g4, n4, fun j hj => Nat.le_trans h3.pre.length_le (k4 j hj)⟩
theorem d_spec_OramBlocks (M : Mem) (cs : List V) (x : ty_Oram.D) (h : Rep ty_Oram M cs x) (hb : Bd 1048576 ty_Oram x) :
    ∃ M' r, M <+: M' ∧ aCall T0 F_spec_OramBlocks [.agg cs.toArray] M = some (r, M') ∧ Rep (.sl ty_Block) M' [r] ((orO x).getD []) := by
  obtain ⟨h1, h2, h3⟩ := oram_bd hb
  obtain ⟨aC, cC, aT, cT, aS, cS, rfl, hM, hS⟩ := oram_shape h
  obtain ⟨_, _, e, _, hC, _⟩ := rep_g_Mem hM
  cases e
  obtain ⟨⟨r, M'⟩, e, L, q1, q2, _⟩ := c_spec_oramBlocks M x.1 x.2.1 x.2.2.1 x.2.2.2.1 x.2.2.2.2 aC cC aT cT aS cS hM hC hS h1 h2 h3
  exact ⟨M', r, q1, e, q2.rep⟩
theorem c_impl_within (M : Mem) (x a b : Int) : aCall T0 F_impl_within [.int .i64 x, .int .i64 a, .int .i64 b] M = some (.bool (decide (a ≤ x) && decide (x ≤ b)), M) := by
  rw [aCall_eq T_impl_within]; unfold A_impl_within C_impl_within; simp
  repeat' ((first | rw [selO_some] | rw [condR_bool] | rw [selD_some]); split <;> rename_i hq <;> (have hq2 := hq) <;> (try simp at hq2) <;> (try simp [*]))
theorem c_impl_isLog (M : Mem) (x : Int) : aCall T0 F_impl_isLog [.int .i64 x] M = some (.bool (decide (0 ≤ x) && decide (x ≤ 6)), M) := by
  rw [aCall_eq T_impl_isLog]; unfold A_impl_isLog C_impl_isLog; simp [c_impl_within]
theorem pow6 {m : Nat} (h : m ≤ 6) : (1 : Int) ≤ 2 ^ m ∧ (2 : Int) ^ m ≤ 64 := ⟨by have := pow2_pos m; omega, by have := pow2_le h; omega⟩
theorem c_impl_isLeaf (M : Mem) (l x : Int) : aCall T0 F_impl_isLeaf [.int .i64 l, .int .i64 x] M = some (.bool (leafB l x), M) := by
  unfold leafB
  cases h : lgB l with
  | false =>
    have e : (decide (0 ≤ l) && decide (l ≤ 6)) = false := h
    rw [aCall_eq T_impl_isLeaf]; unfold A_impl_isLeaf C_impl_isLeaf; simp [c_impl_isLog, e]
  | true =>
    have e : (decide (0 ≤ l) && decide (l ≤ 6)) = true := h
    obtain ⟨m, rfl, hm⟩ := log_nat h
    have e2 := fun M => (c_impl_isLog M m).trans (by rw [e])
    have hp := pow6 hm
    have e1 : bshl .i64 1 m = 2 ^ m := by
      unfold bshl
      have h : min (m : Int).toNat IntKind.i64.bits = m := by show min _ 64 = m; omega
      rw [h, wrap_i64 (by omega) (by omega)]
      omega
    have e3 : IntKind.i64.wrap ((2 : Int) ^ m - 1) = 2 ^ m - 1 := wrap_i64 (by omega) (by omega)
    have e4 : decide (x ≤ 2 ^ m - 1) = decide (x < 2 ^ m) := by
      by_cases h : x < 2 ^ m
      · rw [decide_eq_true h, decide_eq_true (by omega)]
      · rw [decide_eq_false h, decide_eq_false (by omega)]
    rw [aCall_eq T_impl_isLeaf]; unfold A_impl_isLeaf C_impl_isLeaf; simp [e2, e1, e3, c_impl_within, e4]
theorem c_impl_isBlock (M : Mem) (cs : List V) (b : ty_Block.D) (h : Rep ty_Block M cs b) (l w : Int) : aCall T0 F_impl_isBlock [.agg cs.toArray, .int .i64 l, .int .i64 w] M = some (.bool (blockB l w b), M) := by
  obtain ⟨u, rfl, w0, w1, hr⟩ := rep_g_Block h
  obtain ⟨a, c, rfl⟩ := hr.slen
  have e2 := fun M => c_impl_isLeaf M l b.2.1
  have e3 := fun M => c_impl_within M w 1 200
  have e4 := fun M => c_impl_within M b.1 0 255
  have hb : blockB l w b = (leafB l b.2.1 && wdB w && bidB b.1 && decide ((List.length (α := UInt8) b.2.2 : Int) = w)) := by
    unfold blockB leafB
    cases lgB l <;> cases wdB w <;> cases bidB b.1 <;> simp
  rw [hb]
  clear hb
  cases h4 : leafB l b.2.1 with
  | false => rw [aCall_eq T_impl_isBlock]; unfold A_impl_isBlock C_impl_isBlock; simp [e2, h4]
  | true =>
    cases h5 : wdB w with
    | false =>
      have h5 : (decide (1 ≤ w) && decide (w ≤ 200)) = false := h5
      rw [aCall_eq T_impl_isBlock]; unfold A_impl_isBlock C_impl_isBlock; simp [e2, h4, e3, h5]
    | true =>
      have h5 : (decide (1 ≤ w) && decide (w ≤ 200)) = true := h5
      cases h6 : bidB b.1 with
      | false =>
        have h6 : (decide (0 ≤ b.1) && decide (b.1 ≤ 255)) = false := h6
        rw [aCall_eq T_impl_isBlock]; unfold A_impl_isBlock C_impl_isBlock; simp [e2, h4, e3, h5, e4, h6]
      | true =>
        have h6 : (decide (0 ≤ b.1) && decide (b.1 ≤ 255)) = true := h6
        rw [aCall_eq T_impl_isBlock]; unfold A_impl_isBlock C_impl_isBlock; simp [e2, h4, e3, h5, e4, h6]
theorem l_impl_areBlocks_0 (M : Mem) (a : Option Addr) (c : Nat) (xs : List ty_Block.D) (l w : Int) (h : Rep (.sl ty_Block) M [.slice a xs.length c] xs) (hn : xs.length ≤ 1048576) :
    (∃ X', M <+: X' ∧ (∀ i, i < xs.length → stepB l w xs i = true) ∧ lp (aCall T0) K_impl_areBlocks_0 L_impl_areBlocks_0 [.slice a xs.length c, .int .i64 l, .int .i64 w, und, und, und, und, und, und, .slice a xs.length c, .int .i64 xs.length, .int .i64 (0 : Nat), und, und, und, und, und, und, und, und, und, und, und, und, und, und, und, und, und, und, und, und, und, und, und, und, und, und, und, und, und, und, und] M = lp (aCall T0) K_impl_areBlocks_0 L_impl_areBlocks_0 [.slice a xs.length c, .int .i64 l, .int .i64 w, und, und, und, und, und, und, .slice a xs.length c, .int .i64 xs.length, .int .i64 xs.length, und, und, und, und, und, und, und, und, und, und, und, und, und, und, und, und, und, und, und, und, und, und, und, und, und, und, und, und, und, und, und] X') ∨
    ((∃ i, i < xs.length ∧ stepB l w xs i = false) ∧ ∀ k, thenF M [.tmp 6] (thenS (blockR 0 (lp (aCall T0) K_impl_areBlocks_0 L_impl_areBlocks_0 [.slice a xs.length c, .int .i64 l, .int .i64 w, und, und, und, und, und, und, .slice a xs.length c, .int .i64 xs.length, .int .i64 (0 : Nat), und, und, und, und, und, und, und, und, und, und, und, und, und, und, und, und, und, und, und, und, und, und, und, und, und, und, und, und, und, und, und] M)) (aCall T0) k) = some (.bool false, M)) := by
  have key := loop_ok (call := aCall T0) (K := K_impl_areBlocks_0) (L := L_impl_areBlocks_0) (fun _ Y => M <+: Y) (fun i => [.slice a xs.length c, .int .i64 l, .int .i64 w, und, und, und, und, und, und, .slice a xs.length c, .int .i64 xs.length, .int .i64 i, und, und, und, und, und, und, und, und, und, und, und, und, und, und, und, und, und, und, und, und, und, und, und, und, und, und, und, und, und, und, und]) (stepB l w xs) (n := xs.length) (M0 := M) (rs := [.tmp 6]) (k0 := 0) (a := .bool false) M (List.prefix_refl _) ?_ ?_
  · rcases key with ⟨X', hp, h1, h2⟩ | h
    · exact .inl ⟨X', hp, h1, h2⟩
    · exact .inr h
  · intro i Y hi hq hY
    have e6 : IntKind.i64.wrap ((i : Int) + 1) = i + 1 := wrap_i64 (by omega) (by omega)
    have e8 : IntKind.i64.wrap 1 = 1 := wrap_i64 (by omega) (by omega)
    obtain ⟨b, o, u, rfl, q1, q2, q3, q4, _, _, qu, qr⟩ := at_Block (h.mono hY) hi
    obtain ⟨ua, uc, rfl⟩ := qu.slen
    have hc := fun N : Mem => c_impl_isBlock (Y ++ N) _ _ (qr.mono (List.prefix_append Y N)) l w
    refine ⟨Y ++ [⟨[.int .i64 xs[i].1, .int .i64 xs[i].2.1, .slice ua (List.length (α := UInt8) xs[i].2.2) uc], 1, 2⟩], hY.trans (List.prefix_append _ _), ?_⟩
    rcases Nat.eq_zero_or_pos i with h0 | h0
    · subst h0
      rw [stepB_zero hi] at hq
      simp only [Int.natCast_zero, Int.ofNat_zero, Nat.zero_mul, Nat.add_zero] at *
      rw [S_impl_areBlocks_0]; unfold B_impl_areBlocks_0; simp [thenD_pp, sliceCells_sl, sliceCells_z, sliceCells_nil, take_full, appS_sl, appK_ok, appS_none, thenD_ag, agP_nil, agP_cons, hi, q4, hc, hq, e6, e8]
    · rw [stepB_pos hi h0, Bool.and_eq_true] at hq
      have hi' : (0 : Int) < (i : Int) := by omega
      have e7 : IntKind.i64.wrap ((i : Int) - 1) = ((i - 1 : Nat) : Int) := by rw [wrap_i64 (by omega) (by omega)]; omega
      obtain ⟨b', o', u', e, q1', _⟩ := at_Block (h.mono hY) (i := i - 1) (by omega)
      cases e
      have q1' := fun N : Mem => rd1_old (N := N) q1'
      have hlt := of_decide_eq_true hq.2
      have hge : ¬ (xs[i].1 ≤ (xs[i - 1]'(by omega)).1) := Int.not_le.2 hlt
      have hi1 : i - 1 < xs.length := by omega
      rw [S_impl_areBlocks_0]; unfold B_impl_areBlocks_0; simp [thenD_pp, sliceCells_sl, sliceCells_z, sliceCells_nil, take_full, appS_sl, appK_ok, appS_none, thenD_ag, agP_nil, agP_cons, hi, q4, hc, hq.1, e6, hi', h0, e7, q1', hge, hi1]
  · intro i Y hi hq hY k
    have e6 : IntKind.i64.wrap ((i : Int) + 1) = i + 1 := wrap_i64 (by omega) (by omega)
    have e8 : IntKind.i64.wrap 1 = 1 := wrap_i64 (by omega) (by omega)
    obtain ⟨b, o, u, rfl, q1, q2, q3, q4, _, _, qu, qr⟩ := at_Block (h.mono hY) hi
    obtain ⟨ua, uc, rfl⟩ := qu.slen
    have hc := fun N : Mem => c_impl_isBlock (Y ++ N) _ _ (qr.mono (List.prefix_append Y N)) l w
    have gb := fun (N : Mem) b => gc_boolp (hY.trans (List.prefix_append Y N)) b
    rcases Nat.eq_zero_or_pos i with h0 | h0
    · subst h0
      rw [stepB_zero hi] at hq
      simp only [Int.natCast_zero, Int.ofNat_zero, Nat.zero_mul, Nat.add_zero] at *
      rw [S_impl_areBlocks_0]; unfold B_impl_areBlocks_0; simp [thenD_pp, sliceCells_sl, sliceCells_z, sliceCells_nil, take_full, appS_sl, appK_ok, appS_none, thenD_ag, agP_nil, agP_cons, hi, q4, hc, hq, e6, e8, gb]
    · rw [stepB_pos hi h0] at hq
      have hi' : (0 : Int) < (i : Int) := by omega
      have e7 : IntKind.i64.wrap ((i : Int) - 1) = ((i - 1 : Nat) : Int) := by rw [wrap_i64 (by omega) (by omega)]; omega
      obtain ⟨b', o', u', e, q1', _⟩ := at_Block (h.mono hY) (i := i - 1) (by omega)
      cases e
      have q1' := fun N : Mem => rd1_old (N := N) q1'
      have hi1 : i - 1 < xs.length := by omega
      cases hb : blockB l w xs[i] with
      | false =>
        rw [hb] at hc
        rw [S_impl_areBlocks_0]; unfold B_impl_areBlocks_0; simp [thenD_pp, sliceCells_sl, sliceCells_z, sliceCells_nil, take_full, appS_sl, appK_ok, appS_none, thenD_ag, agP_nil, agP_cons, hi, q4, hc, e6, gb]
      | true =>
        rw [hb] at hc
        rw [hb, Bool.true_and] at hq
        have hlt := of_decide_eq_false hq
        have hge : xs[i].1 ≤ (xs[i - 1]'(by omega)).1 := Int.not_lt.1 hlt
        rw [S_impl_areBlocks_0]; unfold B_impl_areBlocks_0; simp [thenD_pp, sliceCells_sl, sliceCells_z, sliceCells_nil, take_full, appS_sl, appK_ok, appS_none, thenD_ag, agP_nil, agP_cons, hi, q4, hc, e6, hi', h0, e7, q1', hge, hi1, gb]
theorem c_impl_areBlocks (M : Mem) (v : V) (xs : List ty_Block.D) (l w : Int) (h : Rep (.sl ty_Block) M [v] xs) (hn : xs.length ≤ 1048576) : aCall T0 F_impl_areBlocks [v, .int .i64 l, .int .i64 w] M = some (.bool (blocksB l w xs), M) := by
  obtain ⟨a, c, rfl⟩ := h.slen
  have e1 := fun M => c_impl_isLog M l
  have e2 := fun M => c_impl_within M w 1 200
  unfold blocksB
  rcases l_impl_areBlocks_0 M a c xs l w h hn with ⟨X', hp, ha, e⟩ | ⟨hx, e⟩
  · simp only [Int.natCast_zero, Int.ofNat_zero] at e
    rw [rall_all ha, Bool.and_true]
    have gb := fun b => gc_boolp hp b
    unfold lgB wdB
    cases h1 : (decide (0 ≤ l) && decide (l ≤ 6)) with
    | false =>
      rw [aCall_eq T_impl_areBlocks]; unfold A_impl_areBlocks C_impl_areBlocks; simp [thenD_pp, sliceCells_sl, sliceCells_z, sliceCells_nil, take_full, appS_sl, appK_ok, appS_none, thenD_ag, agP_nil, agP_cons, e]
      rw [S_impl_areBlocks_0]; unfold B_impl_areBlocks_0; simp [thenD_pp, sliceCells_sl, sliceCells_z, sliceCells_nil, take_full, appS_sl, appK_ok, appS_none, thenD_ag, agP_nil, agP_cons, e1, h1, gb]
    | true =>
      rw [aCall_eq T_impl_areBlocks]; unfold A_impl_areBlocks C_impl_areBlocks; simp [thenD_pp, sliceCells_sl, sliceCells_z, sliceCells_nil, take_full, appS_sl, appK_ok, appS_none, thenD_ag, agP_nil, agP_cons, e]
      rw [S_impl_areBlocks_0]; unfold B_impl_areBlocks_0; simp [thenD_pp, sliceCells_sl, sliceCells_z, sliceCells_nil, take_full, appS_sl, appK_ok, appS_none, thenD_ag, agP_nil, agP_cons, e1, h1, e2, gb]
  · simp only [Int.natCast_zero, Int.ofNat_zero] at e
    rw [rall_not hx, Bool.and_false]
    rw [aCall_eq T_impl_areBlocks]; unfold A_impl_areBlocks C_impl_areBlocks; simp [thenD_pp, sliceCells_sl, sliceCells_z, sliceCells_nil, take_full, appS_sl, appK_ok, appS_none, thenD_ag, agP_nil, agP_cons, e]
theorem c_impl_isStash (M : Mem) (v : V) (xs : List ty_Block.D) (l w : Int) (h : Rep (.sl ty_Block) M [v] xs) (hn : xs.length ≤ 1048576) : aCall T0 F_impl_isStash [v, .int .i64 l, .int .i64 w] M = some (.bool (stashB l w xs), M) := by
  have e1 := c_impl_areBlocks M v xs l w h hn
  obtain ⟨a, c, rfl⟩ := h.slen
  unfold stashB
  by_cases hs : xs.length ≤ 128
  · have hs' : (xs.length : Int) ≤ 128 := by omega
    rw [aCall_eq T_impl_isStash]; unfold A_impl_isStash C_impl_isStash; simp [thenD_pp, sliceCells_sl, sliceCells_z, sliceCells_nil, take_full, appS_sl, appK_ok, appS_none, thenD_ag, agP_nil, agP_cons, e1, hs, hs']
  · have hs' : ¬ (xs.length : Int) ≤ 128 := by omega
    rw [aCall_eq T_impl_isStash]; unfold A_impl_isStash C_impl_isStash; simp [thenD_pp, sliceCells_sl, sliceCells_z, sliceCells_nil, take_full, appS_sl, appK_ok, appS_none, thenD_ag, agP_nil, agP_cons, e1, hs, hs']
theorem sl_pre {M X : Mem} {w : Nat} {v : V} {r : Nat × List V} (hp : M <+: X) (h : sliceCells M w v = some r) : sliceCells X w v = some r := by
  unfold sliceCells at h ⊢
  split at h
  · exact h
  · split at h
    · rename_i h0; rw [if_pos h0]; exact h
    · rename_i h0
      rw [if_neg h0]
      obtain ⟨y, hy, rfl⟩ := Option.map_eq_some_iff.1 h
      rw [rn_pre hp hy]
      rfl
  · cases h
/-- A clone of blocks. -/
def ClB (M : Mem) (zs : List (List V × ty_Block.D)) (p : V × Mem) : Prop := M <+: p.2 ∧ ((zs = [] ∧ ∃ La, Gr (.sl ty_Block) p.2 [p.1] [] La ∧ La.Nodup ∧ ∀ l ∈ La, M.length ≤ l) ∨ zs ≠ [] ∧ ∃ l, p.1 = .slice (some ⟨l, 0, none⟩) zs.length zs.length ∧ M.length ≤ l ∧ p.2[l]? = some ⟨Zl zs, 3, 2⟩)
theorem c_clone_Block (M0 M : Mem) (hp0 : M0 <+: M) (v : V) (zs : List (List V × ty_Block.D)) (hv : ∃ a c, v = .slice a zs.length c) (h2 : ∀ z ∈ zs, Rep ty_Block M0 z.1 z.2) (h3 : sliceCells M0 3 v = some (zs.length, Zl zs)) (hn : zs.length ≤ 1048576) :
    Sat (aCall T0 F_slices_Clone_impl_Block_impl_Block [v] M) (ClB M zs) := by
  have hc : ∀ N : Mem, sliceCells (M ++ N) 3 v = some (zs.length, Zl zs) := fun N => sl_pre (hp0.trans (List.prefix_append M N)) h3
  obtain ⟨a, c, rfl⟩ := hv
  have hfl : (Zl zs).length = zs.length * 3 := by
    unfold Zl
    rw [flat_len (w := 3)]
    · simp
    · intro c hc
      obtain ⟨z, hz, rfl⟩ := List.mem_map.1 hc
      exact (h2 z hz).len
  have hone : (Zl zs).all one = true := by
    unfold Zl
    rw [List.all_flatten, List.all_eq_true]
    intro c hc
    obtain ⟨z, hz, rfl⟩ := List.mem_map.1 hc
    exact (h2 z hz).one
  cases a with
  | none =>
    have hx : zs = [] := by
      cases zs with
      | nil => rfl
      | cons z zs => simp [sliceCells] at h3
    subst hx
    rw [aCall_eq T_slices_Clone_impl_Block_impl_Block]; unfold A_slices_Clone_impl_Block_impl_Block C_slices_Clone_impl_Block_impl_Block; simp [thenD_pp, sliceCells_sl, sliceCells_z, sliceCells_nil, take_full, appS_sl, appK_ok, appS_none, thenD_ag, agP_nil, agP_cons]
    exact ⟨_, rfl, List.prefix_refl _, .inl ⟨rfl, [], Gr.nil, by simp, by simp⟩⟩
  | some a =>
    by_cases h0 : zs = []
    · subst h0
      have hz : Zl [] = [] := rfl
      rw [hz] at hc
      simp only [List.length_nil] at hc
      rw [aCall_eq T_slices_Clone_impl_Block_impl_Block]; unfold A_slices_Clone_impl_Block_impl_Block C_slices_Clone_impl_Block_impl_Block; simp [thenD_pp, sliceCells_sl, sliceCells_z, sliceCells_nil, take_full, appS_sl, appK_ok, appS_none, thenD_ag, agP_nil, agP_cons, hc, zeroCells, appS]
      exact ⟨(_, M ++ [⟨[], 3, 2⟩]), rfl, List.prefix_append _ _, .inl ⟨rfl, [M.length], gr0 (t := ty_Block) (by simp [Ty.w]), by simp, by simp⟩⟩
    · have hpos := List.length_pos_iff.2 h0
      rw [aCall_eq T_slices_Clone_impl_Block_impl_Block]; unfold A_slices_Clone_impl_Block_impl_Block C_slices_Clone_impl_Block_impl_Block; simp [thenD_pp, sliceCells_sl, sliceCells_z, sliceCells_nil, take_full, appS_sl, appK_ok, appS_none, thenD_ag, agP_nil, agP_cons, hc, zeroCells]
      generalize hy : appS _ _ _ _ _ _ = xhy
      have hg1 : Grow M.length 3 (M ++ [(⟨[], 3, 2⟩ : Blk)]) (.slice (some ⟨M.length, 0, none⟩) 0 0) 0 [] := Grow.new (Nat.le_refl _) rfl
      obtain ⟨a3, X3, rfl, g3, ag, l3⟩ := hg1.at hy (List.prefix_refl _) (by simp) hfl hpos hone (by omega) (by omega)
      clear hy
      simp [thenD_pp, sliceCells_sl, sliceCells_z, sliceCells_nil, take_full, appS_sl, appK_ok, appS_none, thenD_ag, agP_nil, agP_cons]
      obtain ⟨_, ⟨e, e0⟩ | ⟨l, hl, e, hb⟩⟩ := g3
      · cases e
      · cases e
        simp only [Nat.zero_add, List.nil_append] at hb ⊢
        exact ⟨_, rfl, ag.pre (List.prefix_append _ _) (fun b hb => hg1.ge b hb), .inr ⟨h0, l, rfl, hl, hb⟩⟩
theorem rep_hdz {t : Ty} {M : Mem} {v : V} {xs : List t.D} (h : Rep (.sl t) M [v] xs) : ∃ zs : List (List V × t.D), zs.map (·.2) = xs ∧ (∀ z ∈ zs, Rep t M z.1 z.2) ∧ sliceCells M t.w v = some (xs.length, (zs.map (·.1)).flatten) := by
  rcases h with ⟨e, rfl⟩ | ⟨l, o, c, blk, css, e, h2, h3, h4, h5, h6, h7⟩
  · cases e
    exact ⟨[], rfl, by simp, rfl⟩
  · cases e
    refine ⟨css.zip xs, List.map_snd_zip (by omega), ?_, ?_⟩
    · intro z hz
      obtain ⟨i, hi, rfl⟩ := List.getElem_of_mem hz
      rw [List.length_zip] at hi
      rw [List.getElem_zip]
      exact h6 i _ _ (List.getElem?_eq_getElem (by omega)) (List.getElem?_eq_getElem (by omega))
    · have hm : ((css.zip xs).map (·.1)) = css := List.map_fst_zip (by omega)
      rw [hm]
      have hl : css.flatten.length = xs.length * t.w := by
        rw [flat_len (w := t.w), h5]
        intro ds hd
        obtain ⟨i, hi, rfl⟩ := List.getElem_of_mem hd
        exact (h6 i css[i] (xs[i]'(by omega)) (by simp) (by simp)).len
      by_cases h0 : xs.length * t.w = 0
      · have : css.flatten = [] := List.length_eq_zero_iff.1 (by omega)
        simp [sliceCells, h0, this]
      · obtain ⟨r, hr⟩ := h7
        have hne : xs ≠ [] := by rintro rfl; simp at h0
        have hle : o + xs.length * t.w ≤ blk.cells.length := by
          have := congrArg List.length hr
          rw [List.length_append, List.length_drop, hl] at this
          omega
        have hst : blk.st = 1 ∨ blk.st = 2 := by
          rcases h3 with h | h | h
          · exact .inl h
          · exact .inr h
          · exact absurd h hne
        simp only [sliceCells, h0, if_false, rdn, h2]
        rw [if_pos ⟨hst, hle⟩, ← hr, ← hl, List.take_left]
        rfl
theorem zl_of {M : Mem} {v : V} {xs : List ty_Block.D} (h : Rep (.sl ty_Block) M [v] xs) : ∃ zs : List (List V × ty_Block.D), zs.map (·.2) = xs ∧ (∃ a c, v = .slice a zs.length c) ∧ (∀ z ∈ zs, Rep ty_Block M z.1 z.2) ∧ sliceCells M 3 v = some (zs.length, Zl zs) := by
  obtain ⟨zs, h1, h2, h3⟩ := rep_hdz h
  have hl : xs.length = zs.length := by rw [← h1]; simp
  rw [hl] at h3
  obtain ⟨a, c, rfl⟩ := h.slen
  exact ⟨zs, h1, ⟨a, c, by rw [hl]⟩, h2, h3⟩
def CkI (M : Mem) (l : Nat) (zs : List (List V × ty_Block.D)) (i : Nat) (X : Mem) : Prop :=
  ∃ (ds : List (List V)) (Ls : List (List Nat)), M <+: X ∧ X[l]? = some ⟨ds.flatten ++ Zl (zs.drop i), 3, 2⟩ ∧ ds.length = i ∧ Ls.length = i ∧ (∀ (k : Nat) (d : List V) (z : List V × ty_Block.D) (K : List Nat), ds[k]? = some d → zs[k]? = some z → Ls[k]? = some K → Gr ty_Block X d z.2 K) ∧ (l :: Ls.flatten).Nodup ∧ ∀ j ∈ Ls.flatten, M.length ≤ j
theorem Zl_cons (z : List V × ty_Block.D) (zs : List (List V × ty_Block.D)) : Zl (z :: zs) = z.1 ++ Zl zs := by simp [Zl]
theorem splice_mid (A : List V) (x y u w : V) (B : List V) : splice (A ++ ([x, y, u] ++ B)) (A.length + 2) [w] = A ++ ([x, y, w] ++ B) := by
  rw [splice1 (by simp), List.set_append_right _ _ (by omega)]
  have : A.length + 2 - A.length = 2 := by omega
  rw [this]
  rfl
theorem l_impl_cloneBlocks_0 (M : Mem) (l : Nat) (zs : List (List V × ty_Block.D)) (hl : M.length ≤ l) (hz : ∀ z ∈ zs, Rep ty_Block M z.1 z.2) (hn : zs.length ≤ 1048576) (hs : ∀ z ∈ zs, List.length (α := UInt8) z.2.2.2 ≤ 1048576) (Z : Mem) (hZ : CkI M l zs 0 Z) :
    ∃ (u : Unit) (X' : Mem), CkI M l zs zs.length X' ∧ lp (aCall T0) K_impl_cloneBlocks_0 L_impl_cloneBlocks_0 [und, und, und, .slice (some ⟨l, 0, none⟩) zs.length zs.length, und, und, und, und, .slice (some ⟨l, 0, none⟩) zs.length zs.length, .int .i64 zs.length, .int .i64 (0 : Nat), und, und, und, und, und, und, und, und, und, und, und, und, und] Z = lp (aCall T0) K_impl_cloneBlocks_0 L_impl_cloneBlocks_0 [und, und, und, .slice (some ⟨l, 0, none⟩) zs.length zs.length, und, und, und, und, .slice (some ⟨l, 0, none⟩) zs.length zs.length, .int .i64 zs.length, .int .i64 zs.length, und, und, und, und, und, und, und, und, und, und, und, und, und] X' := by
  refine loop_to (call := aCall T0) (K := K_impl_cloneBlocks_0) (L := L_impl_cloneBlocks_0) (fun i (_ : Unit) X => CkI M l zs i X) (fun i (_ : Unit) => [und, und, und, .slice (some ⟨l, 0, none⟩) zs.length zs.length, und, und, und, und, .slice (some ⟨l, 0, none⟩) zs.length zs.length, .int .i64 zs.length, .int .i64 i, und, und, und, und, und, und, und, und, und, und, und, und, und]) (n := zs.length) ?_ 0 () Z (by omega) hZ
  intro i _ X hi ⟨ds, Ls, pX, hb, hd, hL, hg, nd, hge⟩
  have e6 : IntKind.i64.wrap ((i : Int) + 1) = i + 1 := wrap_i64 (by omega) (by omega)
  have hzm := List.getElem_mem hi
  have hR := hz _ hzm
  have hsz := hs _ hzm
  obtain ⟨u, hu, w0, w1, qu⟩ := rep_g_Block hR
  have hdr : zs.drop i = zs[i] :: zs.drop (i + 1) := List.drop_eq_getElem_cons hi
  rw [hdr, Zl_cons, hu] at hb
  have hdl : ds.flatten.length = i * 3 := by
    rw [flat_len (w := 3), hd]
    intro c hc
    obtain ⟨k, hk, rfl⟩ := List.getElem_of_mem hc
    exact (hg k _ (zs[k]'(by omega)) (Ls[k]'(by omega)) (by simp) (by simp) (by simp)).len
  generalize hzi : zs[i] = z at *
  obtain ⟨z1, b1, b2, b3⟩ := z
  simp only at hu w0 w1 qu hsz hb hR
  subst hu
  have hl3 : ∀ u : V, (ds.flatten ++ ([(.int .i64 b1 : V), .int .i64 b2, u] ++ Zl (zs.drop (i + 1)))).length = i * 3 + 3 + (Zl (zs.drop (i + 1))).length := fun u => by
    rw [List.length_append, hdl, List.length_append]
    simp only [List.length_cons, List.length_nil]
    omega
  have hrd : rdn X l (i * 3) 3 = some [.int .i64 b1, .int .i64 b2, u] := by
    simp only [rdn, hb]
    rw [if_pos (by rw [hl3]; refine ⟨by simp, by omega⟩), List.drop_left' hdl]
    rfl
  have hrd' := fun N : Mem => rn_pre (List.prefix_append X N) hrd
  have s1 := clone_sl (M := X ++ [(⟨[.int .i64 b1, .int .i64 b2, u], 1, 2⟩ : Blk)]) T_bytes_Clone (t := .u8) fl_Byte rfl (qu.mono (pX.trans (List.prefix_append _ _))) (by omega) (by omega)
  obtain ⟨ua, uc, rfl⟩ := qu.slen
  have hlX := get_lt hb
  rw [S_impl_cloneBlocks_0]; unfold B_impl_cloneBlocks_0; simp [thenD_pp, sliceCells_sl, sliceCells_z, sliceCells_nil, take_full, appS_sl, appK_ok, appS_none, thenD_ag, agP_nil, agP_cons, hi, hrd, hrd', zeroCells, rdJ_ok, rd1_K]
  generalize hx : aCall T0 F_bytes_Clone _ _ = xhx
  obtain ⟨w1', X3, rfl, K2, p3', gb, ndb, geb⟩ := of_call hx s1
  clear hx
  simp only at p3' gb geb
  have p3 : X <+: X3 := (List.prefix_append _ _).trans p3'
  obtain ⟨a7, rfl⟩ := gb.shape
  have hb3 := get_pre p3 hb
  have hwr : wrn X3 l (i * 3 + 2) [.slice a7 (List.length (α := UInt8) b3) (List.length (α := UInt8) b3)] = some (X3.set l ⟨ds.flatten ++ ([.int .i64 b1, .int .i64 b2, .slice a7 (List.length (α := UInt8) b3) (List.length (α := UInt8) b3)] ++ Zl (zs.drop (i + 1))), 3, 2⟩) := by
    simp only [wrn, hb3]
    rw [if_pos (by rw [hl3]; refine ⟨by simp, by simp only [List.length_cons, List.length_nil]; omega, rfl⟩), ← hdl, splice_mid]
  simp [thenD_pp, sliceCells_sl, sliceCells_z, sliceCells_nil, take_full, appS_sl, appK_ok, appS_none, thenD_ag, agP_nil, agP_cons, hi, hwr, e6]
  have hlK : l ∉ K2 := fun hm => by have := geb l hm; simp at this; omega
  have hlt : ∀ K ∈ Ls, ∀ j ∈ K, j < X.length := by
    intro K hK j hj
    obtain ⟨k, hk, rfl⟩ := List.getElem_of_mem hK
    exact (hg k (ds[k]'(by omega)) (zs[k]'(by omega)) _ (by simp) (by simp) (by simp)).lt j hj
  have hnd := List.nodup_cons.1 nd
  refine ⟨_, ⟨ds ++ [[.int .i64 b1, .int .i64 b2, .slice a7 (List.length (α := UInt8) b3) (List.length (α := UInt8) b3)]], Ls ++ [K2], pf_set hl (pX.trans p3), ?_, by simp [hd], by simp [hL], ?_, ?_, ?_⟩, rfl⟩
  · rw [gs_of hb3]; simp
  · intro k d z K hdk hzk hKk
    by_cases hk : k < i
    · rw [List.getElem?_append_left (by omega)] at hdk hKk
      have g := hg k d z K hdk hzk hKk
      refine (g.grow p3).set _ (fun hm => hnd.1 (List.mem_flatten.2 ⟨K, List.mem_of_getElem? hKk, hm⟩))
    · have hki : k = i := by
        have := (List.getElem?_eq_some_iff.1 hdk).1
        simp at this
        omega
      subst hki
      rw [List.getElem?_append_right (by omega)] at hdk hKk
      simp [hd] at hdk
      simp [hL] at hKk
      rw [List.getElem?_eq_getElem hi, hzi] at hzk
      cases hzk
      subst hdk
      subst hKk
      exact gr_Block (x := (b1, b2, b3)) w0 w1 (gb.set _ hlK)
  · rw [List.flatten_append, List.flatten_cons, List.flatten_nil, List.append_nil]
    refine List.nodup_cons.2 ⟨fun hm => ?_, List.nodup_append.2 ⟨hnd.2, ndb, fun a ha b hb2 e => ?_⟩⟩
    · rcases List.mem_append.1 hm with h | h
      · exact hnd.1 h
      · exact hlK h
    · subst e
      obtain ⟨K, hK, ha⟩ := List.mem_flatten.1 ha
      have h1 := hlt K hK a ha
      have h2 := geb a hb2
      simp at h2
      omega
  · intro j hj
    rw [List.flatten_append, List.flatten_cons, List.flatten_nil, List.append_nil] at hj
    rcases List.mem_append.1 hj with h | h
    · exact hge j h
    · have := geb j h
      have := pX.length_le
      simp at *
      omega
theorem c_impl_cloneBlocks (M : Mem) (v : V) (xs : List ty_Block.D) (h : Rep (.sl ty_Block) M [v] xs) (hz : BlkSz xs) : Sat (aCall T0 F_impl_cloneBlocks [v] M) (GrV ty_Block M xs) := by
  obtain ⟨zs, rfl, hv, hz2, h3⟩ := zl_of h
  have hn : zs.length ≤ 1048576 := by have := hz.1; simpa using this
  have hs : ∀ z ∈ zs, List.length (α := UInt8) z.2.2.2 ≤ 1048576 := fun z hm => hz.2 z.2 (List.mem_map_of_mem hm)
  have hC := c_clone_Block M M (List.prefix_refl _) v zs hv hz2 h3 hn
  obtain ⟨av, cv, rfl⟩ := hv
  rw [aCall_eq T_impl_cloneBlocks]; unfold A_impl_cloneBlocks C_impl_cloneBlocks; simp [thenD_pp, sliceCells_sl, sliceCells_z, sliceCells_nil, take_full, appS_sl, appK_ok, appS_none, thenD_ag, agP_nil, agP_cons]
  generalize hx : aCall T0 F_slices_Clone_impl_Block_impl_Block _ _ = xhx
  obtain ⟨v1, X1, rfl, p1, ⟨h0, La, g1, g2, g3⟩ | ⟨h0, l, rfl, hl, hb⟩⟩ := of_call hx hC
  · clear hx
    subst h0
    simp only at p1 g1
    obtain ⟨a, rfl⟩ := g1.shape
    simp only [List.length_nil]
    simp [thenD_pp, sliceCells_sl, sliceCells_z, sliceCells_nil, take_full, appS_sl, appK_ok, appS_none, thenD_ag, agP_nil, agP_cons]
    rw [S_impl_cloneBlocks_0]; unfold B_impl_cloneBlocks_0; simp [thenD_pp, sliceCells_sl, sliceCells_z, sliceCells_nil, take_full, appS_sl, appK_ok, appS_none, thenD_ag, agP_nil, agP_cons]
    exact ⟨(_, X1), rfl, La, p1, g1, g2, g3⟩
  · clear hx
    simp only at p1 hb
    have hlt := get_lt hb
    obtain ⟨_, X', ⟨ds, Ls, pX, hb', hd, hL, hg, nd, hge⟩, e⟩ := l_impl_cloneBlocks_0 M l zs hl hz2 hn hs X1 ⟨[], [], p1, by simpa using hb, rfl, rfl, by simp, by simp, by simp⟩
    simp only [Int.natCast_zero, Int.ofNat_zero] at e
    simp [thenD_pp, sliceCells_sl, sliceCells_z, sliceCells_nil, take_full, appS_sl, appK_ok, appS_none, thenD_ag, agP_nil, agP_cons, e]
    rw [S_impl_cloneBlocks_0]; unfold B_impl_cloneBlocks_0; simp [thenD_pp, sliceCells_sl, sliceCells_z, sliceCells_nil, take_full, appS_sl, appK_ok, appS_none, thenD_ag, agP_nil, agP_cons]
    refine ⟨(_, X'), rfl, l :: Ls.flatten, pX, .inr ⟨l, ds, Ls, by simp, ?_, by simp [hd], by simp [hL], ?_, rfl⟩, nd, ?_⟩
    · show X'[l]? = _
      rw [hb']
      simp [Zl, Ty.w]
    · intro k d x K hdk hxk hKk
      rw [List.getElem?_map] at hxk
      obtain ⟨z, hz, rfl⟩ := Option.map_eq_some_iff.1 hxk
      exact hg k d z K hdk hz hKk
    · intro j hj
      rcases List.mem_cons.1 hj with rfl | hj
      · exact hl
      · exact hge j hj
abbrev FoO (p : Nat) (v : V) (aC : Option Addr) (nC cC : Nat) (i : Nat) : List V := [und, .pointer (some ⟨p, 0, none⟩), und, und, v, und, und, und, und, und, und, und, und, und, und, und, und, und, und, und, und, und, und, und, und, und, und, und, und, und, und, und, und, und, und, und, und, und, und, und, und, und, und, und, und, und, und, und, und, und, und, und, und, und, und, und, und, und, und, und, und, und, und, und, und, und, und, und, und, und, und, und, und, und, und, und, .slice aC nC cC, .int .i64 nC, .int .i64 i, und, und, und, und, und, und, und, und, und, und, und, und, und, und, und, und, und, und, und, und, und, und, und, und, und, und, und, und, und, und, und, und, und, und, und, und, und, und, und, und, und, und, und]
def FoOn (p : Nat) (aC : Option Addr) (nC cC : Nat) (i : Nat) (v : V) : List V := FoO p v aC nC cC i
structure OuI (M : Mem) (all : List ty_Block.D) (v : V) (X : Mem) : Prop where
  pre : M <+: X
  gr : ∃ L, Gr (.sl ty_Block) X [v] all L ∧ L.Nodup ∧ (∀ j ∈ L, M.length ≤ j)
  lt : IdLt all
  rg : IdsR all
def nxO (m : Nat) (w : Int) (nd : Nat) (c : ty_Cell.D) (all : List ty_Block.D) : Option (List ty_Block.D) := if ndOk m w c = true then inO m nd all (ndB (Int.toNat w) c) else none
def RtF (M : Mem) (r : R) : Prop := ∃ fr X', r = some (.ret, fr, X') ∧ resOf fr X' [.tmp 2, .tmp 3] = some (.tuple #[.slice none 0 0, .bool false]) ∧ M <+: X'
def StO (M : Mem) (Lp : List V → Mem → R) (F : V → List V) : Option (List ty_Block.D) → R → Prop
  | some a, r => ∃ v' X', OuI M a v' X' ∧ r = Lp (F v') X'
  | none, r => RtF M r
set_option maxHeartbeats 1000000 in
theorem l_impl_nodeOf_0 (M0 : Mem) (w : Nat) (a : Option Addr) (c : Nat) (bs : List ty_Block.D) (h : Rep (.sl ty_Block) M0 [.slice a bs.length c] bs) (hn : bs.length ≤ 1000) (hw : w ≤ 200) (hk : BkOk w bs) (v : V) (Z : Mem) (hZ : NoI M0 [] v Z) :
    ∃ v' X', NoI M0 bs v' X' ∧ lp (aCall T0) K_impl_nodeOf_0 L_impl_nodeOf_0 [und, .int .i64 (w : Int), und, und, und, v, und, und, .slice a bs.length c, .int .i64 bs.length, .int .i64 (0 : Nat), und, und, und, und, und, und, und, und, und, und, und, und, und, und, und, und, und, und, und, und, und, und, und, und] Z = lp (aCall T0) K_impl_nodeOf_0 L_impl_nodeOf_0 [und, .int .i64 (w : Int), und, und, und, v', und, und, .slice a bs.length c, .int .i64 bs.length, .int .i64 bs.length, und, und, und, und, und, und, und, und, und, und, und, und, und, und, und, und, und, und, und, und, und, und, und, und] X' := by
  have key := loop_to (call := aCall T0) (K := K_impl_nodeOf_0) (L := L_impl_nodeOf_0) (fun i v X => NoI M0 (bs.take i) v X) (fun i v => [und, .int .i64 (w : Int), und, und, und, v, und, und, .slice a bs.length c, .int .i64 bs.length, .int .i64 i, und, und, und, und, und, und, und, und, und, und, und, und, und, und, und, und, und, und, und, und, und, und, und, und]) (n := bs.length) ?_ 0 v Z (by omega) (by simpa using hZ)
  · rw [List.take_length] at key
    exact key
  intro i v X hi ⟨pX, hg⟩
  have e6 : IntKind.i64.wrap ((i : Int) + 1) = i + 1 := wrap_i64 (by omega) (by omega)
  have hkt : BkOk w (bs.take i) := fun b hb => hk b (List.mem_of_mem_take hb)
  have hlen := blksY_len hkt
  have hle : (bs.take i).length * (w + 3) ≤ 1000 * 203 := Nat.mul_le_mul (by rw [List.length_take]; omega) (by omega)
  obtain ⟨l, o, u, rfl, _, _, _, hrd, _, _, qu, _⟩ := at_Block (h.mono pX) hi
  obtain ⟨_, _, u9, e9, _, _, _, hrd9, _, _, hq0, _⟩ := at_Block h hi
  cases e9
  have hu9 : u9 = u := by have := rn_pre pX hrd9; rw [hrd] at this; simp at this; exact this.symm
  subst hu9
  have hki := hk _ (List.getElem_mem hi)
  unfold NoI
  rw [blksY_succ hi]
  generalize bs[i] = b at *
  generalize blksY (bs.take i) = ys at *
  obtain ⟨b1, b2, b3⟩ := b
  simp only at hrd qu hki hq0
  obtain ⟨h1, h2, h3⟩ := hki
  obtain ⟨y1, z1⟩ := byte_int h1
  obtain ⟨y2, z2⟩ := byte_int h2
  obtain ⟨ua, uc, hu, hsc⟩ := cells_Byte qu
  cases hu
  have hrd' := fun N : Mem => rn_pre (List.prefix_append X N) hrd
  obtain ⟨av, rfl⟩ := hg.shape
  have hll := hg.lt
  rw [S_impl_nodeOf_0]; unfold B_impl_nodeOf_0; simp [thenD_pp, sliceCells_sl, sliceCells_z, sliceCells_nil, take_full, appS_sl, appK_ok, appS_none, thenD_ag, agP_nil, agP_cons, hi, hrd, hrd', zeroCells, z1, z2]
  generalize hy : appS _ _ _ _ _ _ = xhy
  obtain ⟨a2, X2, rfl, hg2, ag2, hl2, hw2⟩ := grow_app hg hy (List.prefix_append _ _) (by have := pX.length_le; omega) (by rfl) (by rfl) (by omega) (by omega)
  clear hy
  have hpX : M0 <+: X2 := ag2.pre (pf_app pX) hg.ge
  have hbx : X2[X.length]? = some ⟨[.int .i64 b1, .int .i64 b2, .slice ua (List.length (α := UInt8) b3) uc], 1, 2⟩ := ag2.get (by simp) (fun hm => by have := hll _ hm; omega)
  have hr2 : rd1 X2 X.length 2 = some (.slice ua (List.length (α := UInt8) b3) uc) := rd1_of_rdn (rdn_box hbx rfl) (k := 2) rfl
  have hA : ∀ zs : List Nat, (∀ y ∈ zs, y = X.length) → hits (wfs (.slice av ys.length ys.length)) zs = false := fun zs hz => hits_ne fun x hx y hy e => by
    have := hll x hx
    have := hz y hy
    omega
  have hA2 := hA [X.length, X.length] (by simp)
  have hB : hits [X.length] (wfs (.slice av ys.length ys.length)) = false := hits_ne fun x hx y hy e => by
    have := hll y hy
    simp at hx
    omega
  have hC : hits (wfs (.slice a2 (ys.length + 3) (ys.length + 3))) [X.length, X.length, X.length] = false := hits_ne fun x hx y hy e => by
    simp at hy
    rcases hw2 x hx with h | h
    · have := hll x h; omega
    · simp at h; omega
  have qu2 : Rep (.sl ty_Byte) X2 [.slice ua (List.length (α := UInt8) b3) uc] b3 := (hq0 : Rep (.sl ty_Byte) M0 _ _).mono hpX
  obtain ⟨_, _, hu2, hsc2⟩ := cells_Byte qu2
  cases hu2
  simp [thenD_pp, sliceCells_sl, sliceCells_z, sliceCells_nil, take_full, appS_sl, appK_ok, appS_none, thenD_ag, agP_nil, agP_cons, thenD_agree, ag2, hA2, hB, hr2, hsc2]
  generalize hy : appS _ _ _ _ _ _ = xhy
  obtain ⟨a3, X3, rfl, hg3, ag3, hl3, hw3⟩ := grow_app hg2 hy (List.prefix_refl _) (by have := hpX.length_le; omega) (by simp) (map_byte_all _) (by omega) (by omega)
  clear hy
  have hpX3 : M0 <+: X3 := ag3.pre hpX hg2.ge
  simp [thenD_pp, sliceCells_sl, sliceCells_z, sliceCells_nil, take_full, appS_sl, appK_ok, appS_none, thenD_ag, agP_nil, agP_cons, thenD_agree, ag3, hC, e6]
  refine ⟨_, X3, ⟨hpX3, ?_⟩, rfl⟩
  have hl4 : (blkY (b1, b2, b3)).length = 3 + List.length (α := UInt8) b3 := blkY_len _
  have hc4 : (blkY (b1, b2, b3)).map byteV = [.int .u8 1, .int .u8 b1, .int .u8 b2] ++ List.map byteV b3 := by
    unfold blkY
    simp only [List.map_cons, byteV_one, y1, y2]
    rfl
  rw [hl4, hc4]
  simpa [Nat.add_assoc] using hg3
theorem c_impl_nodeOf (M : Mem) (v : V) (bs : List ty_Block.D) (w : Nat) (h : Rep (.sl ty_Block) M [v] bs) (hn : bs.length ≤ 4) (hw : w ≤ 200) (hk : BkOk w bs) : Sat (aCall T0 F_impl_nodeOf [v, .int .i64 (w : Int)] M) (Bytes M (ndY w bs)) := by
  obtain ⟨a, c, rfl⟩ := h.slen
  obtain ⟨v', X', ⟨pX, hg⟩, e⟩ := l_impl_nodeOf_0 M w a c bs h (by omega) hw hk (.slice none 0 0) M ⟨List.prefix_refl _, Grow.nil⟩
  simp only [Int.natCast_zero, Int.ofNat_zero] at e
  have hlen := blksY_len hk
  have hle : bs.length * (w + 3) ≤ 4 * (w + 3) := Nat.mul_le_mul_right _ hn
  have e1 : IntKind.i64.wrap ((w : Int) + 3) = (w : Int) + 3 := wrap_i64 (by omega) (by omega)
  have e2 : IntKind.i64.wrap (4 * ((w : Int) + 3)) = 4 * ((w : Int) + 3) := wrap_i64 (by omega) (by omega)
  have e3 : IntKind.i64.wrap (4 * ((w : Int) + 3) - ((blksY bs).length : Int)) = ((4 * (w + 3) - (blksY bs).length : Nat) : Int) := by rw [wrap_i64 (by omega) (by omega)]; omega
  obtain ⟨v2, X2, q, g2⟩ := bg_padz (⟨_, rfl, pX, hg⟩ : BG M X' v' (blksY bs)) rfl (4 * (w + 3) - (blksY bs).length) (by omega)
  obtain ⟨av, rfl⟩ := hg.shape
  obtain ⟨n2, _, _, hg2⟩ := id g2
  obtain ⟨a2, rfl⟩ := hg2.shape
  have hbd1 : (((4 * (w + 3) - (blksY bs).length : Nat) : Int)) ≤ 9223372036854775807 := by omega
  have hbd2 : (((4 * (w + 3) - (blksY bs).length : Nat) : Int)) ≤ 281474976710656 := by omega
  generalize hm : 4 * (w + 3) - (blksY bs).length = m at *
  rw [aCall_eq T_impl_nodeOf]; unfold A_impl_nodeOf C_impl_nodeOf; simp [thenD_pp, sliceCells_sl, sliceCells_z, sliceCells_nil, take_full, appS_sl, appK_ok, appS_none, thenD_ag, agP_nil, agP_cons, e]
  rw [S_impl_nodeOf_0]; unfold B_impl_nodeOf_0; simp [thenD_pp, sliceCells_sl, sliceCells_z, sliceCells_nil, take_full, appS_sl, appK_ok, appS_none, thenD_ag, agP_nil, agP_cons, e1, e2, e3, q, hbd1, hbd2]
  exact ⟨(_, X2), rfl, by unfold ndY; rw [hm]; exact g2⟩
set_option maxHeartbeats 2000000 in
theorem l_impl_nodeRead_0 (M : Mem) (a : Option Addr) (c : Nat) (ys : List UInt8) (w : Nat) (lg : V) (h : Rep (.sl ty_Byte) M [.slice a ys.length c] ys) (hw : w ≤ 200) (hw1 : 1 ≤ w) (hl : ys.length = 4 * (w + 3)) (v : V) (Z : Mem) (hZ : CbI M v [] Z) :
    ∃ v' X', CbI M v' (ndB w ys) X' ∧ lp (aCall T0) K_impl_nodeRead_0 L_impl_nodeRead_0 [.slice a ys.length c, lg, .int .i64 (w : Int), und, und, und, und, und, v, .int .i64 ((0 * (w + 3) : Nat) : Int), und, und, und, und, und, und, und, und, und, und, und, und, und, und, und, und, und, und, und, und, und, und, und, und, und, und, und, und, und, und, und, und, und, und, und, und, und, und, und, und, und, und, und, und, und, und, und, und, und, und, und, und, und, und, und, und, und, und, und, und, und, und, und, und, und, und, und, und, und, und] Z = lp (aCall T0) K_impl_nodeRead_0 L_impl_nodeRead_0 [.slice a ys.length c, lg, .int .i64 (w : Int), und, und, und, und, und, v', .int .i64 ((nbC w ys * (w + 3) : Nat) : Int), und, und, und, und, und, und, und, und, und, und, und, und, und, und, und, und, und, und, und, und, und, und, und, und, und, und, und, und, und, und, und, und, und, und, und, und, und, und, und, und, und, und, und, und, und, und, und, und, und, und, und, und, und, und, und, und, und, und, und, und, und, und, und, und, und, und, und, und, und, und] X' := by
  refine loop_to (call := aCall T0) (K := K_impl_nodeRead_0) (L := L_impl_nodeRead_0) (fun i v X => CbI M v (ndP w ys i) X) (fun i v => [.slice a ys.length c, lg, .int .i64 (w : Int), und, und, und, und, und, v, .int .i64 ((i * (w + 3) : Nat) : Int), und, und, und, und, und, und, und, und, und, und, und, und, und, und, und, und, und, und, und, und, und, und, und, und, und, und, und, und, und, und, und, und, und, und, und, und, und, und, und, und, und, und, und, und, und, und, und, und, und, und, und, und, und, und, und, und, und, und, und, und, und, und, und, und, und, und, und, und, und, und]) (n := nbC w ys) ?_ 0 v Z (by omega) (by simpa [ndP] using hZ)
  intro i v X hi ⟨L, pX, g0, nd, ge0⟩
  have hi4 := nbC_le w ys
  have hone := nbF_one w ys 4 0 i (by omega) hi
  have hbnd : i * (w + 3) + (w + 3) ≤ 4 * (w + 3) := by rw [← Nat.succ_mul]; exact Nat.mul_le_mul_right _ (by omega)
  rw [ndP_succ]
  have hlen := ndP_len w ys i
  generalize ndP w ys i = xs at g0 hlen ⊢
  obtain ⟨l, o, rfl, _, _⟩ := at_Byte h (i := 0) (by omega)
  have hlM : l < M.length := by obtain ⟨blk, hbk, _⟩ := rep_blk h; exact get_lt hbk
  have b0 := r1_pre pX (byte_at h (i := i * (w + 3)) (by omega))
  have b1 := r1_pre pX (byte_at h (i := i * (w + 3) + 1) (by omega))
  have b2 := r1_pre pX (byte_at h (i := i * (w + 3) + 2) (by omega))
  rw [hone] at b0
  have hnxt : (i + 1) * (w + 3) = i * (w + 3) + (w + 3) := Nat.succ_mul _ _
  have hsub := rep_sub (h.mono pX) (i * (w + 3) + 3) w (by omega)
  have hbd : blkAt w ys i = (((ys.getD (i * (w + 3) + 1) 0).toNat : Int), ((ys.getD (i * (w + 3) + 2) 0).toNat : Int), (ys.drop (i * (w + 3) + 3)).take w) := rfl
  have hdl : List.length (α := UInt8) ((ys.drop (i * (w + 3) + 3)).take w) = w := by rw [List.length_take, List.length_drop]; omega
  have n1 : (ys.getD (i * (w + 3) + 1) 0).toNat < 256 := UInt8.toNat_lt _
  have n2 : (ys.getD (i * (w + 3) + 2) 0).toNat < 256 := UInt8.toNat_lt _
  rw [hbd]
  generalize (ys.drop (i * (w + 3) + 3)).take w = dat at *
  generalize (ys.getD (i * (w + 3) + 1) 0).toNat = q1 at *
  generalize (ys.getD (i * (w + 3) + 2) 0).toNat = q2 at *
  generalize hat : i * (w + 3) = at0 at *
  have e1 : IntKind.i64.wrap ((at0 : Int) + 1) = (at0 : Int) + 1 := wrap_i64 (by omega) (by omega)
  have e2 : IntKind.i64.wrap ((at0 : Int) + 2) = (at0 : Int) + 2 := wrap_i64 (by omega) (by omega)
  have e3 : IntKind.i64.wrap ((at0 : Int) + 3) = (at0 : Int) + 3 := wrap_i64 (by omega) (by omega)
  have e4 : IntKind.i64.wrap ((at0 : Int) + 3 + (w : Int)) = (at0 : Int) + 3 + (w : Int) := wrap_i64 (by omega) (by omega)
  have e5 : IntKind.i64.wrap ((w : Int) + 3) = (w : Int) + 3 := wrap_i64 (by omega) (by omega)
  have e6 : IntKind.i64.wrap ((at0 : Int) + ((w : Int) + 3)) = (at0 : Int) + ((w : Int) + 3) := wrap_i64 (by omega) (by omega)
  have d1 : (0 : Int) ≤ (at0 : Int) + 1 ∧ (at0 : Int) + 1 < (ys.length : Int) := by omega
  have d2 : (0 : Int) ≤ (at0 : Int) + 2 ∧ (at0 : Int) + 2 < (ys.length : Int) := by omega
  have d3 : (0 : Int) ≤ (at0 : Int) + 3 ∧ (at0 : Int) + 3 ≤ (at0 : Int) + 3 + (w : Int) ∧ ((at0 : Int) + 3 + (w : Int) ≤ (ys.length : Int) ∨ (at0 : Int) + 3 + (w : Int) ≤ (c : Int)) := by omega
  have d5 : ((at0 : Int) + 2).toNat = at0 + 2 := by omega
  have d6 : ((at0 : Int) + 3).toNat = at0 + 3 := by omega
  have d7 : ((at0 : Int) + 1).toNat = at0 + 1 := by omega
  have d4 : ((at0 : Int) + 3 + (w : Int) - ((at0 : Int) + 3)).toNat = w := by omega
  have c1 : IntKind.i64.wrap (q1 : Int) = q1 := wrap_i64 (by omega) (by omega)
  have c2 : IntKind.i64.wrap (q2 : Int) = q2 := wrap_i64 (by omega) (by omega)
  have g1 : at0 < ys.length := by omega
  have g2 : at0 + 1 < ys.length := by omega
  have g3 : at0 + 2 < ys.length := by omega
  have g4 : at0 + 3 + w ≤ ys.length := by omega
  obtain ⟨blk, hbk, hbw⟩ := rep_blk h
  have hbX := get_pre pX hbk
  obtain ⟨av, rfl⟩ := g0.shape
  have hwL : ∀ b ∈ wfs (.slice av xs.length xs.length), M.length ≤ b := by
    obtain ⟨_, _, hw⟩ := g0.gr (K := 0) (by simp)
    exact fun b hb => ge0 b (hw b hb)
  have hbw1 : blk.w = 1 := hbw.1
  have s1 := clone_sl (M := X) T_bytes_Clone (t := .u8) fl_Byte rfl (hsub (max ys.length c - (at0 + 3))) (by omega) (by omega)
  have hh2 : ∀ zs : List Nat, (∀ y ∈ zs, y = l) → hits (wfs (.slice av xs.length xs.length)) zs = false := fun zs hy => hits_ge (K := M.length) hwL (fun y h => by rw [hy y h]; exact hlM)
  have t3 := hh2 [l, l, l] (by simp)
  rw [S_impl_nodeRead_0]; unfold B_impl_nodeRead_0; simp [thenD_pp, sliceCells_sl, sliceCells_z, sliceCells_nil, take_full, appS_sl, appK_ok, appS_none, thenD_ag, agP_nil, agP_cons, b0, b1, b2, g1, d1, d2, d3, d4, d5, d6, d7, e1, e2, e3, e4, c1, c2, hbX, hbw1, rfp_slc2, rfS_some]
  generalize hx : aCall T0 F_bytes_Clone _ _ = xhx
  obtain ⟨v1, X3, rfl, K2, p3, gb, ndb, geb⟩ := of_call hx s1
  clear hx
  simp only at p3 gb geb
  obtain ⟨a7, rfl⟩ := gb.shape
  simp [thenD_pp, sliceCells_sl, sliceCells_z, sliceCells_nil, take_full, appS_sl, appK_ok, appS_none, thenD_ag, agP_nil, agP_cons, thenD_pre, p3, zeroCells]
  generalize hy : appS _ _ _ _ _ _ = xhy
  have hdl2 : List.length (α := UInt8) dat = w := hdl
  have w0 : (Lit.int .i64 (q1 : Int)).wf = true := wf_mk (by omega) (by omega)
  have w1 : (Lit.int .i64 (q2 : Int)).wf = true := wf_mk (by omega) (by omega)
  obtain ⟨l4, X4, L', rfl, g4, ag2, len2, hw4, nd4, sub4, hl4⟩ := g0.app (t := ty_Block) hy (p3.trans (List.prefix_append _ _)) (gr_Block (x := ((q1 : Int), (q2 : Int), dat)) w0 w1 (gb.grow (List.prefix_append _ _))) (fun j hj => geb j hj) nd ndb (by rw [hlen]; omega) (by rw [hlen]; omega)
  clear hy
  have pX4 : M <+: X4 := ag2.pre (pf_app (pX.trans p3)) hwL
  simp [thenD_pp, sliceCells_sl, sliceCells_z, sliceCells_nil, take_full, appS_sl, appK_ok, appS_none, thenD_ag, agP_nil, agP_cons, thenD_agree, ag2, t3, e5, e6]
  have hfin : ((i : Int) + 1) * ((w : Int) + 3) = (at0 : Int) + ((w : Int) + 3) := by
    have e9 : ((i * (w + 3) : Nat) : Int) = (i : Int) * ((w : Int) + 3) := by rw [Int.natCast_mul]; rfl
    rw [Int.add_mul, Int.one_mul, ← e9, hat]
  refine ⟨_, _, ⟨L', pX4, g4, nd4, fun j hj => ?_⟩, ?_⟩
  · have hx3 := p3.length_le
    have hpl := pX.length_le
    rcases sub4 j hj with h | h | h
    · exact ge0 j h
    · have := geb j h; omega
    · simp at hl4; omega
  · rw [hfin]
def NrV (M : Mem) (ok : Bool) (bs : List ty_Block.D) (p : V × Mem) : Prop := ∃ r L, p.1 = .tuple #[r, .bool ok] ∧ M <+: p.2 ∧ Gr (.sl ty_Block) p.2 [r] bs L ∧ L.Nodup ∧ ∀ j ∈ L, M.length ≤ j
theorem c_bytes_Equal (M : Mem) (u v : V) (xs ys : List UInt8) (h : Rep (.sl ty_Byte) M [u] xs) (h2 : Rep (.sl ty_Byte) M [v] ys) : aCall T0 F_bytes_Equal [u, v] M = some (.bool (decide (xs = ys)), M) := by
  obtain ⟨a, c, rfl, s1⟩ := cells_Byte h
  obtain ⟨b, d, rfl, s2⟩ := cells_Byte h2
  rw [aCall_eq T_bytes_Equal]; unfold A_bytes_Equal C_bytes_Equal; simp [s1, s2, toBytes_map]
set_option maxHeartbeats 1000000 in
theorem c_impl_nodeRead (M : Mem) (v : V) (ys : List UInt8) (l w : Int) (h : Rep (.sl ty_Byte) M [v] ys) (hn : ys.length ≤ 1048576) : Sat (aCall T0 F_impl_nodeRead [v, .int .i64 l, .int .i64 w] M) (NrV M (ndOk l w ys) (ndX l w ys)) := by
  have e1 := fun M => c_impl_isLog M l
  have e2 := fun M => c_impl_within M w 1 200
  have hlg : (decide (0 ≤ l) && decide (l ≤ 6)) = lgB l := rfl
  have hwd : (decide (1 ≤ w) && decide (w ≤ 200)) = wdB w := rfl
  rw [hlg] at e1
  rw [hwd] at e2
  obtain ⟨a, c, rfl⟩ := h.slen
  have hnil : ∀ {X : Mem}, Gr (.sl ty_Block) X [.slice none 0 0] [] [] := Gr.nil
  cases h1 : lgB l with
  | false =>
    have hs : ndOk l w ys = false := by simp [ndOk, h1]
    have hx : ndX l w ys = [] := by simp [ndX, hs]
    rw [hs, hx]
    rw [h1] at e1
    rw [aCall_eq T_impl_nodeRead]; unfold A_impl_nodeRead C_impl_nodeRead; simp [thenD_pp, sliceCells_sl, sliceCells_z, sliceCells_nil, take_full, appS_sl, appK_ok, appS_none, thenD_ag, agP_nil, agP_cons, e1]
    exact ⟨(_, _), rfl, _, [], rfl, List.prefix_refl _, hnil, by simp, by simp⟩
  | true =>
    rw [h1] at e1
    cases h2 : wdB w with
    | false =>
      have hs : ndOk l w ys = false := by simp [ndOk, h2]
      have hx : ndX l w ys = [] := by simp [ndX, hs]
      rw [hs, hx]
      rw [h2] at e2
      rw [aCall_eq T_impl_nodeRead]; unfold A_impl_nodeRead C_impl_nodeRead; simp [thenD_pp, sliceCells_sl, sliceCells_z, sliceCells_nil, take_full, appS_sl, appK_ok, appS_none, thenD_ag, agP_nil, agP_cons, e1, e2]
      exact ⟨(_, _), rfl, _, [], rfl, List.prefix_refl _, hnil, by simp, by simp⟩
    | true =>
      rw [h2] at e2
      have hw : 1 ≤ w ∧ w ≤ 200 := by unfold wdB at h2; simpa using h2
      obtain ⟨W, rfl⟩ : ∃ W : Nat, w = (W : Int) := ⟨Int.toNat w, by omega⟩
      have hW : Int.toNat (W : Int) = W := by omega
      have w1 : IntKind.i64.wrap ((W : Int) + 3) = (W : Int) + 3 := wrap_i64 (by omega) (by omega)
      have w2 : IntKind.i64.wrap (4 * ((W : Int) + 3)) = 4 * ((W : Int) + 3) := wrap_i64 (by omega) (by omega)
      by_cases h3 : (ys.length : Int) = 4 * ((W : Int) + 3)
      · have h3n : ys.length = 4 * (W + 3) := by omega
        obtain ⟨m, rfl, hm⟩ := log_nat h1
        obtain ⟨v1, X1, ⟨L1, p1, g1, n1, k1⟩, e⟩ := l_impl_nodeRead_0 M a c ys W (.int .i64 (m : Int)) h (by omega) (by omega) h3n (.slice none 0 0) M ⟨[], List.prefix_refl _, Gr.nil, by simp, by simp⟩
        simp only [Nat.zero_mul, Int.natCast_zero, Int.ofNat_zero] at e
        have hblen := ndB_len W ys
        have e3 := c_impl_areBlocks X1 v1 _ m W g1.rep (by omega)
        obtain ⟨l0, o0, rfl, _, _⟩ := at_Byte h (i := 0) (by omega)
        have hex := exit_byte h h3n
        have hO : ndOk m W ys = (blocksB m W (ndB W ys) && decide (ndY W (ndB W ys) = ys)) := by
          unfold ndOk
          rw [h1, h2, hW]
          simp [h3]
        have hX : ndX m W ys = if ndOk m W ys = true then ndB W ys else [] := by unfold ndX; rw [hW]
        rw [hX, hO]
        have hNO := fun (hb : blocksB m W (ndB W ys) = true) => c_impl_nodeOf X1 v1 (ndB W ys) W g1.rep hblen (by omega) (bk_of hm hb)
        have hyl := fun (hb : blocksB m W (ndB W ys) = true) => ndB_len W ys
        generalize ndB W ys = bs at *
        generalize hat : nbC W ys * (W + 3) = at0 at *
        obtain ⟨a1, rfl⟩ := g1.shape
        have hcase : (((¬ (at0 : Int) < (ys.length : Int)) ∧ (¬ at0 < ys.length)) ∧ (¬ at0 < ys.length)) ∨ (at0 < ys.length ∧ ∃ b : Nat, rd1 X1 l0 (o0 + at0) = some (.int .u8 (b : Int)) ∧ ¬ (b : Int) = 1) := by
          rcases hex with hh | ⟨hh, b, q1, q2⟩
          · exact .inl ⟨⟨by omega, by omega⟩, by omega⟩
          · exact .inr ⟨hh, b, r1_pre p1 q1, q2⟩
        rcases hcase with ⟨⟨F1, F2⟩, F3⟩ | ⟨F1, b, F2, F3⟩
        all_goals
          cases hb : blocksB m W bs with
          | false =>
            rw [hb] at e3
            rw [Bool.false_and, if_neg (by simp)]
            rw [aCall_eq T_impl_nodeRead]; unfold A_impl_nodeRead C_impl_nodeRead; simp [thenD_pp, sliceCells_sl, sliceCells_z, sliceCells_nil, take_full, appS_sl, appK_ok, appS_none, thenD_ag, agP_nil, agP_cons, e1, e2, w1, w2, h3, e]
            rw [S_impl_nodeRead_0]; unfold B_impl_nodeRead_0; simp [thenD_pp, sliceCells_sl, sliceCells_z, sliceCells_nil, take_full, appS_sl, appK_ok, appS_none, thenD_ag, agP_nil, agP_cons, F1, F2, F3, e3]
            exact ⟨(_, X1), rfl, _, [], rfl, p1, hnil, by simp, by simp⟩
          | true =>
            rw [hb] at e3
            rw [Bool.true_and]
            rw [aCall_eq T_impl_nodeRead]; unfold A_impl_nodeRead C_impl_nodeRead; simp [thenD_pp, sliceCells_sl, sliceCells_z, sliceCells_nil, take_full, appS_sl, appK_ok, appS_none, thenD_ag, agP_nil, agP_cons, e1, e2, w1, w2, h3, e]
            rw [S_impl_nodeRead_0]; unfold B_impl_nodeRead_0; simp [thenD_pp, sliceCells_sl, sliceCells_z, sliceCells_nil, take_full, appS_sl, appK_ok, appS_none, thenD_ag, agP_nil, agP_cons, F1, F2, F3, e3]
            generalize hx : aCall T0 F_impl_nodeOf _ _ = xhx
            obtain ⟨v2, X2, rfl, g2⟩ := of_call hx (hNO hb)
            clear hx
            obtain ⟨L2, p2, o2, _⟩ := bg_rep g2
            have e5 := c_bytes_Equal X2 v2 _ _ ys o2.rep (h.mono (p1.trans p2))
            obtain ⟨_, _, rfl⟩ := o2.rep.slen
            by_cases hq : ndY W bs = ys
            · rw [decide_eq_true hq] at e5
              rw [decide_eq_true hq, if_pos hq]
              simp [thenD_pp, sliceCells_sl, sliceCells_z, sliceCells_nil, take_full, appS_sl, appK_ok, appS_none, thenD_ag, agP_nil, agP_cons, e5]
              exact ⟨(_, X2), rfl, _, L1, rfl, p1.trans p2, g1.grow p2, n1, k1⟩
            · rw [decide_eq_false hq] at e5
              rw [decide_eq_false hq, if_neg hq]
              simp [thenD_pp, sliceCells_sl, sliceCells_z, sliceCells_nil, take_full, appS_sl, appK_ok, appS_none, thenD_ag, agP_nil, agP_cons, e5]
              exact ⟨(_, X2), rfl, _, [], rfl, p1.trans p2, hnil, by simp, by simp⟩
      · have hs : ndOk l W ys = false := by simp [ndOk, h3]
        have hx : ndX l W ys = [] := by simp [ndX, hs]
        rw [hs, hx]
        rw [aCall_eq T_impl_nodeRead]; unfold A_impl_nodeRead C_impl_nodeRead; simp [thenD_pp, sliceCells_sl, sliceCells_z, sliceCells_nil, take_full, appS_sl, appK_ok, appS_none, thenD_ag, agP_nil, agP_cons, e1, e2, w1, w2, h3]
        exact ⟨(_, _), rfl, _, [], rfl, List.prefix_refl _, hnil, by simp, by simp⟩
abbrev FoB (p : Nat) (v : V) (nd0 : Nat) (a76 n77 i78 : V) (l2 n : Nat) (i : Nat) : List V := [und, .pointer (some ⟨p, 0, none⟩), und, und, v, .int .i64 nd0, und, und, und, und, und, und, und, und, und, und, und, und, und, und, und, und, und, und, und, und, und, und, und, und, und, und, und, und, und, und, und, und, und, und, und, und, und, und, und, und, und, und, und, und, und, und, und, und, und, und, und, und, und, und, und, und, und, und, und, und, und, und, und, und, und, und, und, und, und, und, a76, n77, i78, und, und, und, und, und, und, und, und, und, und, und, und, und, und, und, und, .slice (some ⟨l2, 0, none⟩) n n, .int .i64 n, .int .i64 i, und, und, und, und, und, und, und, und, und, und, und, und, und, und, und, und, und, und, und, und, und, und, und, und]
structure InI (M : Mem) (bs : List ty_Block.D) (l2 : Nat) (css : List (List V)) (Ls : List (List Nat)) (i : Nat) (all : List ty_Block.D) (v : V) (X : Mem) : Prop where
  pre : M <+: X
  gr : ∃ L, Gr (.sl ty_Block) X [v] all L ∧ L.Nodup ∧ (∀ j ∈ L, M.length ≤ j) ∧ (∀ j ∈ L, j ≠ l2 ∧ ∀ (k : Nat) (K : List Nat), i ≤ k → Ls[k]? = some K → j ∉ K)
  hb : X[l2]? = some ⟨css.flatten, 3, 2⟩
  el : ∀ (k : Nat) (ds : List V) (x : ty_Block.D) (K : List Nat), i ≤ k → css[k]? = some ds → bs[k]? = some x → Ls[k]? = some K → Gr ty_Block X ds x K ∧ (∀ j ∈ K, M.length ≤ j ∧ j ≠ l2)
  lt : IdLt all
  rg : IdsR all
theorem gr_Block_nd {M : Mem} {ds : List V} {x : ty_Block.D} {K : List Nat} (h : Gr ty_Block M ds x K) : K.Nodup := by
  obtain ⟨c1, c2, L1, L2, _, ⟨_, rfl⟩, ⟨c3, c4, L3, L4, _, ⟨_, rfl⟩, h, rfl⟩, rfl⟩ := h
  rcases h with ⟨_, _, rfl⟩ | ⟨l, css, Ls, _, _, h1, h2, h3, rfl⟩
  · simp
  · have : Ls.flatten = [] := by
      rw [List.flatten_eq_nil_iff]
      intro K hK
      obtain ⟨i, hi, rfl⟩ := List.getElem_of_mem hK
      exact (h3 i (css[i]'(by omega)) (x.2.2[i]'(by omega)) Ls[i] (by simp) (by simp) (by simp)).2
    simp [this]
abbrev tgB (t1 t2 : Int) (ta : Option Addr) (tn tc : Nat) : List V := [.int .i64 t1, .int .i64 t2, .slice ta tn tc]
theorem c_impl_blockPut_1 (M : Mem) (a a2 b b2 : Int) (ua ub : Option Addr) (na ca nb cb : Nat) (ha : 0 ≤ a ∧ a ≤ 255) (hb : 0 ≤ b ∧ b ≤ 255) : aCall T0 F_impl_blockPut_1 [.agg (tgB a a2 ua na ca).toArray, .agg (tgB b b2 ub nb cb).toArray] M = some (.int .i64 (a - b), M) := by
  have e : IntKind.i64.wrap (a - b) = a - b := wrap_i64 (by omega) (by omega)
  rw [aCall_eq T_impl_blockPut_1]; unfold A_impl_blockPut_1 C_impl_blockPut_1; simp [e]
theorem r_bsB (M : Mem) (a : Option Addr) (c : Nat) (xs : List ty_Block.D) (h : Rep (.sl ty_Block) M [.slice a xs.length c] xs) (hn : xs.length ≤ 1048576) (hr : IdsR xs) (pt : Nat) (t1 t2 : Int) (ta : Option Addr) (tn tc : Nat) (hpt : M[pt]? = some ⟨tgB t1 t2 ta tn tc, 1, 2⟩) (ht : 0 ≤ t1 ∧ t1 ≤ 255) (i j : Nat) (hij : i < j) (hj : j ≤ xs.length) (hi : (i + j) / 2 < xs.length) :
    lp (aCall T0) K_slices_BinarySearchFunc_impl_Block_impl_Block_impl_Block_0 L_slices_BinarySearchFunc_impl_Block_impl_Block_impl_Block_0 [.slice a xs.length c, und, .func (.func F_impl_blockPut_1) #[] #[], und, .pointer (some ⟨pt, 0, none⟩), und, und, und, .int .i64 xs.length, .int .i64 i, .int .i64 j, und, und, und, und, und, und, und, und, und, und, und, und, und, und, und, und, und, und, und, und, und, und, und, und, und, und, und, und, und, und, und, und, und, und, und, und, und, und] M =
    lp (aCall T0) K_slices_BinarySearchFunc_impl_Block_impl_Block_impl_Block_0 L_slices_BinarySearchFunc_impl_Block_impl_Block_impl_Block_0 [.slice a xs.length c, und, .func (.func F_impl_blockPut_1) #[] #[], und, .pointer (some ⟨pt, 0, none⟩), und, und, und, .int .i64 xs.length, .int .i64 (if (xs[(i + j) / 2]).1 < t1 then (((i + j) / 2 + 1 : Nat) : Int) else (i : Int)), .int .i64 (if (xs[(i + j) / 2]).1 < t1 then (j : Int) else (((i + j) / 2 : Nat) : Int)), und, und, und, und, und, und, und, und, und, und, und, und, und, und, und, und, und, und, und, und, und, und, und, und, und, und, und, und, und, und, und, und, und, und, und, und, und, und] M := by
  obtain ⟨m, hm⟩ : ∃ m, m = (i + j) / 2 := ⟨_, rfl⟩
  simp only [← hm] at hi ⊢
  obtain ⟨l, o, u, rfl, _, _, _, hrd, _, _, qu, _⟩ := at_Block h hi
  have hx := hr _ (List.getElem_mem hi)
  generalize xs[m] = b at *
  obtain ⟨b1, b2, b3⟩ := b
  simp only at *
  obtain ⟨ua, uc, rfl⟩ := qu.slen
  have s1 := c_impl_blockPut_1 M b1 b2 t1 t2 ua ta (List.length (α := UInt8) b3) uc tn tc hx ht
  simp only [tgB] at s1 hpt
  have g0 : (i : Int) < j := by omega
  have e1 : IntKind.i64.wrap ((i : Int) + j) = (i : Int) + j := wrap_i64 (by omega) (by omega)
  have e2 : IntKind.u64.wrap ((i : Int) + j) = (i : Int) + j := wrap_u64 (by omega) (by omega)
  have e4 : bshr .u64 ((i : Int) + j) 1 = (m : Int) := by
    unfold bshr
    have hm2 : min (1 : Int).toNat IntKind.u64.bits = 1 := rfl
    rw [hm2, hm]
    show ((i : Int) + j).fdiv (2 ^ 1) = _
    rw [Int.fdiv_eq_ediv_of_nonneg _ (by omega)]
    omega
  have e3 : IntKind.i64.wrap ((m : Nat) : Int) = m := wrap_i64 (by omega) (by omega)
  have e6 : IntKind.i64.wrap ((m : Int) + 1) = m + 1 := wrap_i64 (by omega) (by omega)
  have hpr : rdn M pt 0 3 = some [.int .i64 t1, .int .i64 t2, .slice ta tn tc] := rdn_box hpt rfl
  by_cases hq : b1 < t1
  · have hq2 : b1 - t1 < 0 := Int.sub_neg_of_lt hq
    rw [S_slices_BinarySearchFunc_impl_Block_impl_Block_impl_Block_0]; unfold B_slices_BinarySearchFunc_impl_Block_impl_Block_impl_Block_0; simp [g0, hij, e1, e2, e4, e3, hi, hrd, hpr, s1, hq, hq2, e6]
  · have hq2 : ¬ b1 - t1 < 0 := fun hh => hq (Int.lt_of_sub_neg hh)
    rw [S_slices_BinarySearchFunc_impl_Block_impl_Block_impl_Block_0]; unfold B_slices_BinarySearchFunc_impl_Block_impl_Block_impl_Block_0; simp [g0, hij, e1, e2, e4, e3, hi, hrd, hpr, s1, hq, hq2, e6]
theorem l_bsB (M : Mem) (a : Option Addr) (c : Nat) (xs : List ty_Block.D) (h : Rep (.sl ty_Block) M [.slice a xs.length c] xs) (hn : xs.length ≤ 1048576) (hr : IdsR xs) (pt : Nat) (t1 t2 : Int) (ta : Option Addr) (tn tc : Nat) (hpt : M[pt]? = some ⟨tgB t1 t2 ta tn tc, 1, 2⟩) (ht : 0 ≤ t1 ∧ t1 ≤ 255) : ∀ (d i j : Nat), j - i ≤ d → i ≤ j → j ≤ xs.length →
    (∀ (q : 0 < i) (hq : i - 1 < xs.length), (xs[i - 1]).1 < t1) → (∀ (hq : j < xs.length), ¬ (xs[j]).1 < t1) →
    ∃ r : Nat, r ≤ xs.length ∧ (∀ (q : 0 < r) (hq : r - 1 < xs.length), (xs[r - 1]).1 < t1) ∧ (∀ (hq : r < xs.length), ¬ (xs[r]).1 < t1) ∧
    lp (aCall T0) K_slices_BinarySearchFunc_impl_Block_impl_Block_impl_Block_0 L_slices_BinarySearchFunc_impl_Block_impl_Block_impl_Block_0 [.slice a xs.length c, und, .func (.func F_impl_blockPut_1) #[] #[], und, .pointer (some ⟨pt, 0, none⟩), und, und, und, .int .i64 xs.length, .int .i64 i, .int .i64 j, und, und, und, und, und, und, und, und, und, und, und, und, und, und, und, und, und, und, und, und, und, und, und, und, und, und, und, und, und, und, und, und, und, und, und, und, und, und] M =
    lp (aCall T0) K_slices_BinarySearchFunc_impl_Block_impl_Block_impl_Block_0 L_slices_BinarySearchFunc_impl_Block_impl_Block_impl_Block_0 [.slice a xs.length c, und, .func (.func F_impl_blockPut_1) #[] #[], und, .pointer (some ⟨pt, 0, none⟩), und, und, und, .int .i64 xs.length, .int .i64 r, .int .i64 r, und, und, und, und, und, und, und, und, und, und, und, und, und, und, und, und, und, und, und, und, und, und, und, und, und, und, und, und, und, und, und, und, und, und, und, und, und, und] M
  | 0, i, j, hd, hij, hj, h1, h2 => by
    have e : i = j := by omega
    subst e
    exact ⟨i, hj, h1, h2, rfl⟩
  | d + 1, i, j, hd, hij, hj, h1, h2 => by
    by_cases e : i = j
    · subst e
      exact ⟨i, hj, h1, h2, rfl⟩
    have hm : (i + j) / 2 < xs.length := by omega
    have hrr := r_bsB M a c xs h hn hr pt t1 t2 ta tn tc hpt ht i j (by omega) hj hm
    by_cases hq : (xs[(i + j) / 2]).1 < t1
    · rw [if_pos hq, if_pos hq] at hrr
      rw [hrr]
      exact l_bsB M a c xs h hn hr pt t1 t2 ta tn tc hpt ht d ((i + j) / 2 + 1) j (by omega) (by omega) hj (fun _ _ => hq) h2
    · rw [if_neg hq, if_neg hq] at hrr
      rw [hrr]
      exact l_bsB M a c xs h hn hr pt t1 t2 ta tn tc hpt ht d i ((i + j) / 2) (by omega) (by omega) (by omega) h1 (fun _ => hq)
/-- slices.BinarySearchFunc: the place, and is it there. -/
theorem c_bsB (M : Mem) (v : V) (xs : List ty_Block.D) (h : Rep (.sl ty_Block) M [v] xs) (hn : xs.length ≤ 1048576) (hr : IdsR xs) (t1 t2 : Int) (ta : Option Addr) (tn tc : Nat) (ht : 0 ≤ t1 ∧ t1 ≤ 255) :
    ∃ r : Nat, r ≤ xs.length ∧ (∀ (q : 0 < r) (hq : r - 1 < xs.length), (xs[r - 1]).1 < t1) ∧ (∀ (hq : r < xs.length), ¬ (xs[r]).1 < t1) ∧
    aCall T0 F_slices_BinarySearchFunc_impl_Block_impl_Block_impl_Block [v, .agg (tgB t1 t2 ta tn tc).toArray, .func (.func F_impl_blockPut_1) #[] #[]] M = some (.tuple #[.int .i64 r, .bool (decide (∃ hq : r < xs.length, (xs[r]).1 = t1))], M) := by
  obtain ⟨a, c, rfl⟩ := h.slen
  obtain ⟨r, h1, h2, h3, h4⟩ := l_bsB (M ++ [⟨tgB t1 t2 ta tn tc, 1, 2⟩]) a c xs (h.mono (List.prefix_append _ _)) hn hr M.length t1 t2 ta tn tc (by simp) ht xs.length 0 xs.length (by omega) (by omega) (Nat.le_refl _) (fun q => by omega) (fun q => by omega)
  refine ⟨r, h1, h2, h3, ?_⟩
  simp only [Int.natCast_zero, Int.ofNat_zero] at h4
  have hpr : rdn (M ++ [⟨tgB t1 t2 ta tn tc, 1, 2⟩]) M.length 0 3 = some [.int .i64 t1, .int .i64 t2, .slice ta tn tc] := rdn_box (by simp) rfl
  simp only [tgB] at h4 hpr ⊢
  by_cases hr2 : r < xs.length
  · obtain ⟨l, o, u, rfl, _, _, _, hrd, _, _, qu, _⟩ := at_Block (h.mono (List.prefix_append M [⟨[.int .i64 t1, .int .i64 t2, .slice ta tn tc], 1, 2⟩])) hr2
    have hx := hr _ (List.getElem_mem hr2)
    have hd : decide (∃ hq : r < xs.length, (xs[r]).1 = t1) = decide (xs[r].1 - t1 = 0) := by
      rw [decide_eq_decide]
      exact ⟨fun ⟨_, q⟩ => Int.sub_eq_zero.2 q, fun q => ⟨hr2, Int.sub_eq_zero.1 q⟩⟩
    have g : ¬ r < r := by omega
    rw [hd]
    generalize xs[r] = b at *
    obtain ⟨b1, b2, b3⟩ := b
    simp only at *
    obtain ⟨ua, uc, rfl⟩ := qu.slen
    have s1 := c_impl_blockPut_1 (M ++ [⟨[.int .i64 t1, .int .i64 t2, .slice ta tn tc], 1, 2⟩]) b1 b2 t1 t2 ua ta (List.length (α := UInt8) b3) uc tn tc hx ht
    simp only [tgB] at s1
    rw [aCall_eq T_slices_BinarySearchFunc_impl_Block_impl_Block_impl_Block]; unfold A_slices_BinarySearchFunc_impl_Block_impl_Block_impl_Block C_slices_BinarySearchFunc_impl_Block_impl_Block_impl_Block; simp [h4]
    rw [S_slices_BinarySearchFunc_impl_Block_impl_Block_impl_Block_0]; unfold B_slices_BinarySearchFunc_impl_Block_impl_Block_impl_Block_0; simp [hr2, hrd, hpr, s1]
  · have hd : decide (∃ hq : r < xs.length, (xs[r]).1 = t1) = false := by
      rw [decide_eq_false_iff_not]
      exact fun ⟨q, _⟩ => hr2 q
    rw [hd]
    rw [aCall_eq T_slices_BinarySearchFunc_impl_Block_impl_Block_impl_Block]; unfold A_slices_BinarySearchFunc_impl_Block_impl_Block_impl_Block C_slices_BinarySearchFunc_impl_Block_impl_Block_impl_Block; simp [h4]
    rw [S_slices_BinarySearchFunc_impl_Block_impl_Block_impl_Block_0]; unfold B_slices_BinarySearchFunc_impl_Block_impl_Block_impl_Block_0; simp [hr2]
def InsD (M : Mem) (L J : List Nat) (zs : List ty_Block.D) (p : V × Mem) : Prop := ∃ L', Gr (.sl ty_Block) p.2 [p.1] zs L' ∧ L'.Nodup ∧ (∀ j ∈ L', j ∈ L ∨ j ∈ J ∨ M.length ≤ j) ∧ Agree M p.2 L ∧ M.length < p.2.length
theorem agree_sub {M M' : Mem} {w w' : List Nat} (h : Agree M M' w) (hs : ∀ b ∈ w, b ∈ w') : Agree M M' w' := ⟨h.1, fun b hb hn => h.2 b hb (fun hm => hn (hs b hm))⟩
theorem c_insB (M : Mem) (v : V) (xs : List ty_Block.D) (L : List Nat) (i : Nat) (ds : List V) (y : ty_Block.D) (J : List Nat) (l2 : Nat) (h : Gr (.sl ty_Block) M [v] xs L) (hi : i ≤ xs.length) (hy : Gr ty_Block M ds y J) (hb2 : M[l2]? = some ⟨ds, 3, 2⟩) (hl2 : l2 ∉ L) (hj : ∀ j ∈ J, j ∉ L) (hn : L.Nodup) (hnj : J.Nodup) (hs : xs.length ≤ 10000) :
    Sat (aCall T0 F_slices_Insert_impl_Block_impl_Block [v, .int .i64 (i : Int), .slice (some ⟨l2, 0, none⟩) 1 1] M) (InsD M L J (xs.take i ++ y :: xs.drop i)) := by
  have hlen := hy.len
  have hw : ty_Block.w = 3 := rfl
  rw [hw] at hlen
  obtain ⟨a, rfl⟩ := h.shape
  by_cases he : i = xs.length
  · subst he
    have hr2 : sliceCells M 3 (.slice (some ⟨l2, 0, none⟩) 1 1) = some (1, ds) := by
      simp only [sliceCells, rdn, hb2]
      rw [if_neg (by omega), if_pos (by refine ⟨by simp, by omega⟩), List.drop_zero, List.take_of_length_le (by omega)]
      rfl
    have hfin : xs.take xs.length ++ y :: xs.drop xs.length = xs ++ [y] := by simp
    rw [hfin]
    have key : ∀ x, appS M 3 40 (.slice a xs.length xs.length) 1 ds = x → Sat x (InsD M L J (xs ++ [y])) := by
      intro x hx
      obtain ⟨l, X3, L', rfl, g, ag, hl, hw2, nd, hL, _⟩ := h.app2 (t := ty_Block) (bytes := 40) hx (List.prefix_refl _) hy hj hn hnj (by omega) (by omega)
      exact ⟨_, rfl, L', g, nd, fun j hm => (hL j hm).elim .inl (fun h => h.elim (fun h => .inr (.inl h)) (fun h => .inr (.inr (by omega)))), agree_sub ag hw2, hl⟩
    have hle : (xs.length : Int) ≤ (xs.length : Int) := Int.le_refl _
    have hk : (a = none ∧ xs.length = 0) ∨ ∃ l k, a = some ⟨l, 0, none⟩ ∧ M[l]? = some k ∧ k.w = 3 := by
      rcases h with ⟨e, rfl, _⟩ | ⟨l, css, Ls, e, hb, _⟩
      · cases e; exact .inl ⟨rfl, rfl⟩
      · cases e; exact .inr ⟨l, _, rfl, hb, rfl⟩
    rcases hk with ⟨rfl, h0⟩ | ⟨l, k, rfl, hk, hkw⟩
    · rw [aCall_eq T_slices_Insert_impl_Block_impl_Block]; unfold A_slices_Insert_impl_Block_impl_Block C_slices_Insert_impl_Block_impl_Block; simp [thenD_pp, sliceCells_sl, sliceCells_z, sliceCells_nil, take_full, appS_sl, appK_ok, appS_none, thenD_ag, agP_nil, agP_cons, hr2]
      generalize hy2 : appS _ _ _ _ _ _ = xhy2
      obtain ⟨⟨v3, X3⟩, rfl, L', g, nd, hL, ag, hlen3⟩ := key _ hy2
      clear hy2
      try simp only at g ag hlen3
      obtain ⟨a3, rfl⟩ := g.shape
      have hq : (xs ++ [y]).length = xs.length + 1 := by simp
      rw [hq] at g ⊢
      simp [thenD_pp, sliceCells_sl, sliceCells_z, sliceCells_nil, take_full, appS_sl, appK_ok, appS_none, thenD_ag, agP_nil, agP_cons]
      exact ⟨_, rfl, L', g, nd, hL, ag, hlen3⟩
    · obtain ⟨⟨v3, X3⟩, hap, L', g, nd, hL, ag, hlen3⟩ := key _ rfl
      simp only at g ag hlen3
      rw [appS_sl _ _ _ _ _ _ _ _ _ (by omega), hk] at hap
      obtain ⟨a3, rfl⟩ := g.shape
      have hq : (xs ++ [y]).length = xs.length + 1 := by simp
      rw [hq] at g hap
      rw [aCall_eq T_slices_Insert_impl_Block_impl_Block]; unfold A_slices_Insert_impl_Block_impl_Block C_slices_Insert_impl_Block_impl_Block; simp [thenD_pp, sliceCells_sl, sliceCells_z, sliceCells_nil, take_full, appS_sl, appK_ok, appS_none, thenD_ag, agP_nil, agP_cons, hk, hkw, hr2, hap]
      exact ⟨_, rfl, L', g, nd, hL, ag, hlen3⟩
  · have hlt : i < xs.length := by omega
    obtain ⟨X', L', e, g, ag, hxl, hwl, nd, hL⟩ := h.ins (bytes := 40) hlt hy hb2 hl2 (by show 1 < 3; omega) hj hn hnj (by omega) (by omega)
    have hne : ¬ (i : Int) = (xs.length : Int) := by omega
    have hle : (i : Int) ≤ (xs.length : Int) := by omega
    have hkb : ∃ l k, a = some ⟨l, 0, none⟩ ∧ M[l]? = some k ∧ k.w = 3 := by
      rcases h with ⟨_, rfl, _⟩ | ⟨l, css, Ls, e, hb, _⟩
      · simp at hlt
      · cases e
        exact ⟨l, _, rfl, hb, rfl⟩
    obtain ⟨l, k, rfl, hk, hkw⟩ := hkb
    rw [hw] at e
    rw [aCall_eq T_slices_Insert_impl_Block_impl_Block]; unfold A_slices_Insert_impl_Block_impl_Block C_slices_Insert_impl_Block_impl_Block; simp [thenD_pp, sliceCells_sl, sliceCells_z, sliceCells_nil, take_full, appS_sl, appK_ok, appS_none, thenD_ag, agP_nil, agP_cons, hk, hkw, hne, hle, hlt, he, e]
    exact ⟨(_, X'), rfl, L', g, nd, fun j hm => (hL j hm).elim .inl (fun h => h.elim (fun h => .inr (.inl h)) (fun h => .inr (.inr (by omega)))), agree_sub ag hwl, by show M.length < X'.length; omega⟩
theorem sorted_below {xs : List ty_Block.D} {id : Int} {r : Nat} (hs : IdLt xs) (hr : r ≤ xs.length) (h1 : ∀ (q : 0 < r) (hq : r - 1 < xs.length), (xs[r - 1]).1 < id) : ∀ k (hk : k < xs.length), k < r → xs[k].1 < id := by
  intro k hk hkr
  have h := h1 (by omega) (by omega)
  by_cases e : k = r - 1
  · subst e; exact h
  · exact Int.lt_trans (List.pairwise_iff_getElem.1 hs k (r - 1) hk (by omega) (by omega)) h
theorem withoutL_app (id : Int) (xs ys : List ty_Block.D) : withoutL id (xs ++ ys) = withoutL id xs ++ withoutL id ys := List.filter_append ..
theorem lbB_eq {id : Int} : ∀ {xs : List ty_Block.D} {r : Nat}, r ≤ xs.length → (∀ k (hk : k < xs.length), k < r → xs[k].1 < id) → (∀ hr : r < xs.length, ¬ xs[r].1 < id) → lbB id xs = r
  | [], r, h, _, _ => by simp at h; simp [lbB, h]
  | b :: xs, 0, _, _, h2 => by
    have h := h2 (by simp)
    simp only [List.getElem_cons_zero] at h
    simp [lbB, List.takeWhile_cons, decide_eq_false h]
  | b :: xs, r + 1, hl, h1, h2 => by
    have h := h1 0 (by simp) (by omega)
    simp only [List.getElem_cons_zero] at h
    have ih := lbB_eq (id := id) (xs := xs) (r := r) (by simpa using hl) (fun k hk hkr => h1 (k + 1) (by simpa using hk) (by omega)) (fun hr => h2 (by simpa using hr))
    unfold lbB at ih ⊢
    simp only [List.takeWhile_cons, decide_eq_true h, if_true, List.length_cons, ih]
theorem put_found {b : ty_Block.D} {xs : List ty_Block.D} {r : Nat} (hs : IdLt xs) (hr : r < xs.length) (he : xs[r].1 = b.1) : putL b xs = xs.set r b ∧ (withoutL b.1 xs).length + 1 = xs.length := by
  have e : xs = xs.take r ++ xs[r] :: xs.drop (r + 1) := by rw [← List.drop_eq_getElem_cons hr, List.take_append_drop]
  have hlo : ∀ c ∈ xs.take r, c.1 < b.1 := by
    intro c hc
    obtain ⟨k, hk, rfl⟩ := List.getElem_of_mem hc
    rw [List.length_take] at hk
    rw [List.getElem_take, ← he]
    exact sorted_above hs (r := k) (by omega) r hr (by omega)
  have hhi : ∀ c ∈ xs.drop (r + 1), b.1 < c.1 := by
    intro c hc
    obtain ⟨k, hk, rfl⟩ := List.getElem_of_mem hc
    rw [List.length_drop] at hk
    rw [List.getElem_drop, ← he]
    exact sorted_above hs hr _ (by omega) (by omega)
  have hw : withoutL b.1 xs = xs.take r ++ xs.drop (r + 1) := by
    have h1 : withoutL b.1 [xs[r]] = [] := by simp [withoutL, he]
    have h2 : xs.take r ++ xs[r] :: xs.drop (r + 1) = xs.take r ++ ([xs[r]] ++ xs.drop (r + 1)) := by simp
    conv => lhs; rw [e, h2]
    rw [withoutL_app, withoutL_app, h1, List.nil_append, without_same (fun c hc => Int.ne_of_lt (hlo c hc)), without_same (fun c hc => (Int.ne_of_lt (hhi c hc)).symm)]
  have hlt : (xs.take r).length = r := by rw [List.length_take]; omega
  have hlb : lbB b.1 (xs.take r ++ xs.drop (r + 1)) = r := by
    refine lbB_eq (by rw [List.length_append]; omega) (fun k hk hkr => ?_) (fun hrr => ?_)
    · rw [List.getElem_append_left (by omega)]
      exact hlo _ (List.getElem_mem _)
    · rw [List.getElem_append_right (by omega)]
      exact fun h => Int.lt_irrefl _ (Int.lt_trans h (hhi _ (List.getElem_mem _)))
  unfold putL insL
  rw [hw, hlb]
  refine ⟨?_, ?_⟩
  · rw [List.take_left' hlt, List.drop_left' hlt, List.set_eq_take_append_cons_drop, if_pos hr]
  · rw [List.length_append, List.length_take, List.length_drop]
    omega
theorem put_new {b : ty_Block.D} {xs : List ty_Block.D} {r : Nat} (hs : IdLt xs) (hr : r ≤ xs.length) (h1 : ∀ k (hk : k < xs.length), k < r → xs[k].1 < b.1) (h2 : ∀ hq : r < xs.length, ¬ xs[r].1 < b.1) (hn : ¬ ∃ hq : r < xs.length, xs[r].1 = b.1) : putL b xs = xs.take r ++ b :: xs.drop r ∧ withoutL b.1 xs = xs := by
  have hw : withoutL b.1 xs = xs := by
    refine without_same fun c hc => ?_
    obtain ⟨k, hk, rfl⟩ := List.getElem_of_mem hc
    by_cases hkr : k < r
    · exact Int.ne_of_lt (h1 k hk hkr)
    · by_cases e : k = r
      · subst e
        exact fun e => hn ⟨hk, e⟩
      · have h3 := sorted_above hs (r := r) (by omega) k hk (by omega)
        have h4 := h2 (by omega)
        exact fun e => h4 (by rw [← e]; exact h3)
  unfold putL insL
  rw [hw, lbB_eq hr h1 h2]
  exact ⟨rfl, rfl⟩
def BpD (M : Mem) (L J : List Nat) (zs : List ty_Block.D) (p : V × Mem) : Prop := ∃ L', Gr (.sl ty_Block) p.2 [p.1] zs L' ∧ L'.Nodup ∧ (∀ j ∈ L', j ∈ L ∨ j ∈ J ∨ M.length ≤ j) ∧ Agree M p.2 L ∧ M.length ≤ p.2.length
theorem c_impl_blockPut (M : Mem) (v : V) (xs : List ty_Block.D) (L : List Nat) (ds : List V) (y : ty_Block.D) (J : List Nat) (h : Gr (.sl ty_Block) M [v] xs L) (hy : Gr ty_Block M ds y J) (hj : ∀ j ∈ J, j ∉ L) (hn : L.Nodup) (hnj : J.Nodup) (hs : xs.length ≤ 10000) (hlt : IdLt xs) (hr : IdsR xs) (hyr : 0 ≤ y.1 ∧ y.1 ≤ 255) :
    Sat (aCall T0 F_impl_blockPut [v, .agg ds.toArray] M) (BpD M L J (putL y xs)) := by
  obtain ⟨u, rfl, w0, w1, qu⟩ := rep_g_Block hy.rep
  obtain ⟨ua, uc, rfl⟩ := qu.slen
  obtain ⟨r, r1, r2, r3, r4⟩ := c_bsB (M ++ [⟨[.int .i64 y.1, .int .i64 y.2.1, .slice ua (List.length (α := UInt8) y.2.2) uc], 1, 2⟩]) v xs (h.rep.mono (List.prefix_append _ _)) (by omega) hr y.1 y.2.1 ua (List.length (α := UInt8) y.2.2) uc hyr
  have hb := sorted_below hlt r1 r2
  have hpr : rdn (M ++ [⟨[.int .i64 y.1, .int .i64 y.2.1, .slice ua (List.length (α := UInt8) y.2.2) uc], 1, 2⟩]) M.length 0 3 = some [.int .i64 y.1, .int .i64 y.2.1, .slice ua (List.length (α := UInt8) y.2.2) uc] := rdn_box (by simp) rfl
  obtain ⟨a, rfl⟩ := h.shape
  simp only [tgB] at r4
  by_cases hf : ∃ hq : r < xs.length, (xs[r]).1 = y.1
  · rw [decide_eq_true hf] at r4
    obtain ⟨hq, he⟩ := hf
    rw [(put_found hlt hq he).1]
    obtain ⟨l, cs, L', e, hbl, hle, hlL, g, nd, hL⟩ := (h.grow (List.prefix_append M [(⟨[.int .i64 y.1, .int .i64 y.2.1, .slice ua (List.length (α := UInt8) y.2.2) uc], 1, 2⟩ : Blk)])).put hq (hy.grow (List.prefix_append _ _)) hj hn hnj
    cases e
    have hw : ty_Block.w = 3 := rfl
    rw [hw] at hbl hle g
    have hwr := wrn_eq (o := r * 3) hbl rfl hle hy.one
    have hlX := h.lt l hlL
    generalize splice cs (r * 3) [.int .i64 y.1, .int .i64 y.2.1, .slice ua (List.length (α := UInt8) y.2.2) uc] = cs2 at g hwr
    rw [aCall_eq T_impl_blockPut]; unfold A_impl_blockPut C_impl_blockPut; simp [thenD_pp, sliceCells_sl, sliceCells_z, sliceCells_nil, take_full, appS_sl, appK_ok, appS_none, thenD_ag, agP_nil, agP_cons, r4, hpr, hq, hwr]
    refine ⟨(_, _), rfl, L', g, nd, fun j hm => (hL j hm).elim .inl (fun h => .inr (.inl h)), ⟨by simp, fun b hb1 hb2 => ?_⟩, by simp⟩
    show (List.set _ l _)[b]? = _
    rw [List.getElem?_set_ne (fun e => hb2 (by rw [← e]; exact hlL)), List.getElem?_append_left hb1]
  · rw [decide_eq_false hf] at r4
    rw [(put_new hlt r1 hb r3 hf).1]
    have hI := c_insB (M ++ [⟨[.int .i64 y.1, .int .i64 y.2.1, .slice ua (List.length (α := UInt8) y.2.2) uc], 1, 2⟩, ⟨[.int .i64 y.1, .int .i64 y.2.1, .slice ua (List.length (α := UInt8) y.2.2) uc], 3, 2⟩]) (.slice a xs.length xs.length) xs L r [.int .i64 y.1, .int .i64 y.2.1, .slice ua (List.length (α := UInt8) y.2.2) uc] y J (M.length + 1)
      (h.grow (List.prefix_append _ _)) r1 (hy.grow (List.prefix_append _ _)) (by simp) (fun hm => by have := h.lt _ hm; omega) hj hn hnj hs
    rw [aCall_eq T_impl_blockPut]; unfold A_impl_blockPut C_impl_blockPut; simp [thenD_pp, sliceCells_sl, sliceCells_z, sliceCells_nil, take_full, appS_sl, appK_ok, appS_none, thenD_ag, agP_nil, agP_cons, r4, hpr, zeroCells]
    generalize hx : aCall T0 F_slices_Insert_impl_Block_impl_Block _ _ = xhx
    obtain ⟨v5, X5, rfl, L', g, nd, hL, ag, hl5⟩ := of_call hx hI
    clear hx
    try simp only at g ag hl5
    generalize xs.take r ++ y :: xs.drop r = zz at g ⊢
    obtain ⟨a5, rfl⟩ := g.shape
    simp [thenD_pp, sliceCells_sl, sliceCells_z, sliceCells_nil, take_full, appS_sl, appK_ok, appS_none, thenD_ag, agP_nil, agP_cons]
    try simp at hl5
    refine ⟨(_, X5), rfl, L', g, nd, fun j hm => (hL j hm).elim .inl (fun h => h.elim (fun h => .inr (.inl h)) (fun h => .inr (.inr (by simp at h; omega)))), ⟨by show M.length ≤ X5.length; omega, fun b hb1 hb2 => ?_⟩, by show M.length ≤ X5.length; omega⟩
    have := ag.2 b (by simp; omega) hb2
    rw [this, List.getElem?_append_left hb1]
theorem blen7 {x : Nat} (h : x < 128) : blen x ≤ 7 := blen_le.2 (by simpa using h)
def len8 : List UInt8 := [0, 1, 2, 2, 3, 3, 3, 3, 4, 4, 4, 4, 4, 4, 4, 4, 5, 5, 5, 5, 5, 5, 5, 5, 5, 5, 5, 5, 5, 5, 5, 5, 6, 6, 6, 6, 6, 6, 6, 6, 6, 6, 6, 6, 6, 6, 6, 6, 6, 6, 6, 6, 6, 6, 6, 6, 6, 6, 6, 6, 6, 6, 6, 6, 7, 7, 7, 7, 7, 7, 7, 7, 7, 7, 7, 7, 7, 7, 7, 7, 7, 7, 7, 7, 7, 7, 7, 7, 7, 7, 7, 7, 7, 7, 7, 7, 7, 7, 7, 7, 7, 7, 7, 7, 7, 7, 7, 7, 7, 7, 7, 7, 7, 7, 7, 7, 7, 7, 7, 7, 7, 7, 7, 7, 7, 7, 7, 7, 8, 8, 8, 8, 8, 8, 8, 8, 8, 8, 8, 8, 8, 8, 8, 8, 8, 8, 8, 8, 8, 8, 8, 8, 8, 8, 8, 8, 8, 8, 8, 8, 8, 8, 8, 8, 8, 8, 8, 8, 8, 8, 8, 8, 8, 8, 8, 8, 8, 8, 8, 8, 8, 8, 8, 8, 8, 8, 8, 8, 8, 8, 8, 8, 8, 8, 8, 8, 8, 8, 8, 8, 8, 8, 8, 8, 8, 8, 8, 8, 8, 8, 8, 8, 8, 8, 8, 8, 8, 8, 8, 8, 8, 8, 8, 8, 8, 8, 8, 8, 8, 8, 8, 8, 8, 8, 8, 8, 8, 8, 8, 8, 8, 8, 8, 8, 8, 8, 8, 8, 8, 8, 8, 8, 8, 8, 8, 8]
set_option maxRecDepth 100000 in
theorem len8_all : ∀ x : Fin 128, len8[x.1]? = some (UInt8.ofNat (blen x.1)) := by decide +kernel
theorem len8_at {x : Nat} (hx : x < 128) : len8[x]? = some (UInt8.ofNat (blen x)) := len8_all ⟨x, hx⟩
set_option maxRecDepth 100000 in
set_option maxHeartbeats 4000000 in
theorem c_math_bits_Len64 (M : Mem) (x : Nat) (hx : x < 128) : aCall T0 F_math_bits_Len64 [.int .u64 x] M = some (.int .i64 (blen x), M) := by
  have h1 : ¬ (4294967296 : Int) ≤ x := by omega
  have h2 : ¬ (65536 : Int) ≤ x := by omega
  have h3 : ¬ (256 : Int) ≤ x := by omega
  have hb := blen7 hx
  have w1 : IntKind.u8.wrap (x : Int) = x := wrap_u8 (by omega) (by omega)
  have w2 : IntKind.i64.wrap ((blen x : Nat) : Int) = blen x := wrap_i64 (by omega) (by omega)
  have h0 : (0 : Int) ≤ x := by omega
  have w3 : (UInt8.ofNat (blen x)).toNat = blen x := by simp; omega
  have ht := len8_at hx
  unfold len8 at ht
  rw [aCall_eq T_math_bits_Len64]; unfold A_math_bits_Len64 C_math_bits_Len64; simp [thenD_pp, sliceCells_sl, sliceCells_z, sliceCells_nil, take_full, appS_sl, appK_ok, appS_none, thenD_ag, agP_nil, agP_cons, h1, h2, h3, w1, h0]
  simp only [ht]
  simp [thenD_pp, sliceCells_sl, sliceCells_z, sliceCells_nil, take_full, appS_sl, appK_ok, appS_none, thenD_ag, agP_nil, agP_cons, w2, w3, byteV]
theorem c_math_bits_Len (M : Mem) (x : Nat) (hx : x < 128) : aCall T0 F_math_bits_Len [.int .u64 x] M = some (.int .i64 (blen x), M) := by
  have e := fun M => c_math_bits_Len64 M x hx
  rw [aCall_eq T_math_bits_Len]; unfold A_math_bits_Len C_math_bits_Len; simp [thenD_pp, sliceCells_sl, sliceCells_z, sliceCells_nil, take_full, appS_sl, appK_ok, appS_none, thenD_ag, agP_nil, agP_cons, e]
theorem shr_i64 {x k : Nat} (hx : x < 9223372036854775807) (hk : k ≤ 63) : bshr .i64 (x : Int) (k : Int) = ((x / 2 ^ k : Nat) : Int) := by
  unfold bshr
  have h1 : min ((k : Int).toNat) IntKind.i64.bits = k := by
    have : ((k : Int).toNat) = k := by omega
    rw [this]
    show min k 64 = k
    omega
  rw [h1, Int.fdiv_eq_ediv_of_nonneg _ (by exact_mod_cast Nat.zero_le _)]
  have e : ((2 : Int) ^ k) = ((2 ^ k : Nat) : Int) := by simp
  rw [e]
  rfl
theorem c_impl_nodeAt (M : Mem) (m leaf lv : Nat) (hm : m ≤ 6) (hl : leaf < 2 ^ m) (hv : lv ≤ m) : aCall T0 F_impl_nodeAt [.int .i64 m, .int .i64 leaf, .int .i64 lv] M = some (.int .i64 (((2 ^ m + leaf) / 2 ^ (m - lv) : Nat) : Int), M) := by
  have hp : 2 ^ m ≤ 2 ^ 6 := Nat.pow_le_pow_right (by omega) hm
  have e1 : bshl .i64 1 m = ((2 ^ m : Nat) : Int) := by
    unfold bshl
    have h1 : min ((m : Int).toNat) IntKind.i64.bits = m := by
      have : ((m : Int).toNat) = m := by omega
      rw [this]
      show min m 64 = m
      omega
    rw [h1]
    have e : (1 : Int) * 2 ^ m = ((2 ^ m : Nat) : Int) := by simp
    rw [e]
    exact wrap_i64 (by omega) (by omega)
  have e2 : IntKind.i64.wrap (((2 ^ m : Nat) : Int) + (leaf : Int)) = ((2 ^ m + leaf : Nat) : Int) := by rw [wrap_i64 (by omega) (by omega)]; omega
  have e3 : IntKind.i64.wrap ((m : Int) - (lv : Int)) = ((m - lv : Nat) : Int) := by rw [wrap_i64 (by omega) (by omega)]; omega
  have e4 := shr_i64 (x := 2 ^ m + leaf) (k := m - lv) (by omega) (by omega)
  have h0 : ¬ ((m - lv : Nat) : Int) < 0 := by omega
  have h00 : ¬ (m : Int) < 0 := by omega
  generalize 2 ^ m + leaf = N at *
  generalize (2 : Nat) ^ m = q at *
  generalize m - lv = k at *
  generalize N / 2 ^ k = r at *
  rw [aCall_eq T_impl_nodeAt]; unfold A_impl_nodeAt C_impl_nodeAt; simp [thenD_pp, sliceCells_sl, sliceCells_z, sliceCells_nil, take_full, appS_sl, appK_ok, appS_none, thenD_ag, agP_nil, agP_cons, e1, e2, e3, e4, h0, h00]
theorem c_impl_onPath (M : Mem) (m node leaf : Nat) (hm : m ≤ 6) (hl : leaf < 2 ^ m) (h1 : 1 ≤ node) (h2 : node < 2 * 2 ^ m) : aCall T0 F_impl_onPath [.int .i64 m, .int .i64 node, .int .i64 leaf] M = some (.bool (onP m node leaf), M) := by
  have hp : 2 ^ m ≤ 2 ^ 6 := Nat.pow_le_pow_right (by omega) hm
  have hb : blen node ≤ m + 1 := blen_le.2 (by rw [Nat.pow_succ]; omega)
  have hb1 := blen_pos (x := node) (by omega)
  have e1 : IntKind.u64.wrap (node : Int) = node := wrap_u64 (by omega) (by omega)
  have e2 := fun M => c_math_bits_Len M node (by omega)
  have e3 : IntKind.i64.wrap (((blen node : Nat) : Int) - 1) = ((blen node - 1 : Nat) : Int) := by rw [wrap_i64 (by omega) (by omega)]; omega
  have e4 := fun M => c_impl_nodeAt M m leaf (blen node - 1) hm hl (by omega)
  unfold onP
  generalize (2 ^ m + leaf) / 2 ^ (m - (blen node - 1)) = q at *
  by_cases hq : q = node
  · have hq' : (q : Int) = (node : Int) := by omega
    rw [decide_eq_true hq]
    rw [aCall_eq T_impl_onPath]; unfold A_impl_onPath C_impl_onPath; simp [thenD_pp, sliceCells_sl, sliceCells_z, sliceCells_nil, take_full, appS_sl, appK_ok, appS_none, thenD_ag, agP_nil, agP_cons, e1, e2, e3, e4, hq, hq']
  · have hq' : ¬ (q : Int) = (node : Int) := by omega
    rw [decide_eq_false hq]
    rw [aCall_eq T_impl_onPath]; unfold A_impl_onPath C_impl_onPath; simp [thenD_pp, sliceCells_sl, sliceCells_z, sliceCells_nil, take_full, appS_sl, appK_ok, appS_none, thenD_ag, agP_nil, agP_cons, e1, e2, e3, e4, hq, hq']
theorem first_of {p : Nat → Bool} : ∀ {n : Nat}, (∃ i, i < n ∧ p i = true) → ∃ i, i < n ∧ p i = true ∧ ∀ j, j < i → p j = false
  | 0, ⟨i, hi, _⟩ => by omega
  | n + 1, ⟨i, hi, hp⟩ => by
    by_cases h : ∃ j, j < n ∧ p j = true
    · obtain ⟨j, h1, h2, h3⟩ := first_of h
      exact ⟨j, by omega, h2, h3⟩
    · have e : i = n := by
        apply Classical.byContradiction
        intro hne
        exact h ⟨i, by omega, hp⟩
      subst e
      refine ⟨i, by omega, hp, fun j hj => ?_⟩
      cases hh : p j with
      | false => rfl
      | true => exact absurd ⟨j, hj, hh⟩ h
theorem c_impl_blockIndex_1 (M : Mem) (p : Nat) (id b1 b2 : Int) (ua : Option Addr) (n c : Nat) (hp : rd1 M p 0 = some (.int .i64 id)) : aCall T0 F_impl_blockIndex_1 [.agg (tgB b1 b2 ua n c).toArray, .pointer (some ⟨p, 0, none⟩)] M = some (.bool (decide (b1 = id)), M) := by
  have hp' := fun N : Mem => r1_pre (List.prefix_append M N) hp
  by_cases h : b1 = id
  · rw [decide_eq_true h]
    rw [aCall_eq T_impl_blockIndex_1]; unfold A_impl_blockIndex_1 C_impl_blockIndex_1; simp [hp', h]
  · rw [decide_eq_false h]
    rw [aCall_eq T_impl_blockIndex_1]; unfold A_impl_blockIndex_1 C_impl_blockIndex_1; simp [hp', h]
theorem l_idxB (M : Mem) (p : Nat) (id : Int) (a : Option Addr) (c : Nat) (xs : List ty_Block.D) (h : Rep (.sl ty_Block) M [.slice a xs.length c] xs) (hp : rd1 M p 0 = some (.int .i64 id)) (hn : xs.length ≤ 1048576) (r : Nat) (hr : r ≤ xs.length) (hlt : ∀ k (hk : k < xs.length), k < r → xs[k].1 ≠ id) :
    lp (aCall T0) K_slices_IndexFunc_impl_Block_impl_Block_0 L_slices_IndexFunc_impl_Block_impl_Block_0 [.slice a xs.length c, .func (.func F_impl_blockIndex_1) #[] #[.pointer (some ⟨p, 0, none⟩)], und, und, und, und, und, .int .i64 xs.length, .int .i64 (0 : Nat), und, und, und, und, und, und, und, und, und, und] M = lp (aCall T0) K_slices_IndexFunc_impl_Block_impl_Block_0 L_slices_IndexFunc_impl_Block_impl_Block_0 [.slice a xs.length c, .func (.func F_impl_blockIndex_1) #[] #[.pointer (some ⟨p, 0, none⟩)], und, und, und, und, und, .int .i64 xs.length, .int .i64 r, und, und, und, und, und, und, und, und, und, und] M := by
  have key := loop_to (call := aCall T0) (K := K_slices_IndexFunc_impl_Block_impl_Block_0) (L := L_slices_IndexFunc_impl_Block_impl_Block_0) (fun i (_ : Nat) Y => Y = M) (fun i (_ : Nat) => [.slice a xs.length c, .func (.func F_impl_blockIndex_1) #[] #[.pointer (some ⟨p, 0, none⟩)], und, und, und, und, und, .int .i64 xs.length, .int .i64 i, und, und, und, und, und, und, und, und, und, und]) (n := r) ?_ 0 0 M (by omega) rfl
  · obtain ⟨_, X', rfl, e⟩ := key
    exact e
  intro i _ Y hi hY
  subst hY
  have hix : i < xs.length := by omega
  obtain ⟨l, o, u, rfl, _, _, _, hrd, _, _, qu, _⟩ := at_Block h hix
  have hb := hlt i hix hi
  generalize xs[i] = b at *
  obtain ⟨b1, b2, b3⟩ := b
  simp only at *
  obtain ⟨ua, uc, rfl⟩ := qu.slen
  have s1 := c_impl_blockIndex_1 Y p id b1 b2 ua (List.length (α := UInt8) b3) uc hp
  simp only [tgB] at s1
  rw [decide_eq_false hb] at s1
  have e6 : IntKind.i64.wrap ((i : Int) + 1) = i + 1 := wrap_i64 (by omega) (by omega)
  refine ⟨0, Y, rfl, ?_⟩
  rw [S_slices_IndexFunc_impl_Block_impl_Block_0]; unfold B_slices_IndexFunc_impl_Block_impl_Block_0; simp [thenD_pp, sliceCells_sl, sliceCells_z, sliceCells_nil, take_full, appS_sl, appK_ok, appS_none, thenD_ag, agP_nil, agP_cons, hix, hrd, s1, e6]
theorem c_impl_blockIndex (M : Mem) (v : V) (xs : List ty_Block.D) (id : Int) (h : Rep (.sl ty_Block) M [v] xs) (hn : xs.length ≤ 1048576) : ∃ r : Int, aCall T0 F_impl_blockIndex [v, .int .i64 id] M = some (.int .i64 r, M) ∧ decide (0 ≤ r) = hasId id xs ∧ (0 ≤ r ∨ r = -1) := by
  obtain ⟨a, c, rfl⟩ := h.slen
  have hm := h.mono (List.prefix_append M [(⟨[.int .i64 id], 1, 2⟩ : Blk)])
  have hp : rd1 (M ++ [(⟨[.int .i64 id], 1, 2⟩ : Blk)]) M.length 0 = some (.int .i64 id) := by simp [rd1]
  cases hh : hasId id xs with
  | false =>
    have hlt : ∀ k (hk : k < xs.length), k < xs.length → xs[k].1 ≠ id := fun k hk _ e => by
      have : hasId id xs = true := List.any_eq_true.2 ⟨xs[k], List.getElem_mem hk, decide_eq_true e⟩
      rw [hh] at this
      cases this
    have e := l_idxB _ M.length id a c xs hm hp hn xs.length (Nat.le_refl _) hlt
    simp only [Int.natCast_zero, Int.ofNat_zero] at e
    have e2 : aCall T0 F_slices_IndexFunc_impl_Block_impl_Block [.slice a xs.length c, .func (.func F_impl_blockIndex_1) #[] #[.pointer (some ⟨M.length, 0, none⟩)]] (M ++ [(⟨[.int .i64 id], 1, 2⟩ : Blk)]) = some (.int .i64 (-1), M ++ [(⟨[.int .i64 id], 1, 2⟩ : Blk)]) := by
      rw [aCall_eq T_slices_IndexFunc_impl_Block_impl_Block]; unfold A_slices_IndexFunc_impl_Block_impl_Block C_slices_IndexFunc_impl_Block_impl_Block; simp [thenD_pp, sliceCells_sl, sliceCells_z, sliceCells_nil, take_full, appS_sl, appK_ok, appS_none, thenD_ag, agP_nil, agP_cons, e]
      rw [S_slices_IndexFunc_impl_Block_impl_Block_0]; unfold B_slices_IndexFunc_impl_Block_impl_Block_0; simp [thenD_pp, sliceCells_sl, sliceCells_z, sliceCells_nil, take_full, appS_sl, appK_ok, appS_none, thenD_ag, agP_nil, agP_cons]
    refine ⟨-1, ?_, by simp, .inr rfl⟩
    rw [aCall_eq T_impl_blockIndex]; unfold A_impl_blockIndex C_impl_blockIndex; simp [thenD_pp, sliceCells_sl, sliceCells_z, sliceCells_nil, take_full, appS_sl, appK_ok, appS_none, thenD_ag, agP_nil, agP_cons, e2]
  | true =>
    obtain ⟨b, hb1, hb2⟩ := List.any_eq_true.1 hh
    obtain ⟨i0, hi0, rfl⟩ := List.getElem_of_mem hb1
    obtain ⟨i, hi, hq, hlt⟩ := first_of (p := fun k => match xs[k]? with | some b => decide (b.1 = id) | none => false) (n := xs.length) ⟨i0, hi0, by rw [List.getElem?_eq_getElem hi0]; exact hb2⟩
    rw [List.getElem?_eq_getElem hi] at hq
    have hq : xs[i].1 = id := of_decide_eq_true hq
    have hlt2 : ∀ k (hk : k < xs.length), k < i → xs[k].1 ≠ id := fun k hk hki e => by
      have := hlt k hki
      rw [List.getElem?_eq_getElem hk] at this
      exact absurd e (of_decide_eq_false this)
    have e := l_idxB _ M.length id a c xs hm hp hn i (by omega) hlt2
    simp only [Int.natCast_zero, Int.ofNat_zero] at e
    obtain ⟨l, o, u, rfl, _, _, _, hrd, _, _, qu, _⟩ := at_Block hm hi
    generalize xs[i] = b at *
    obtain ⟨b1, b2, b3⟩ := b
    simp only at *
    obtain ⟨ua, uc, rfl⟩ := qu.slen
    have s1 := c_impl_blockIndex_1 _ M.length id b1 b2 ua (List.length (α := UInt8) b3) uc hp
    simp only [tgB] at s1
    rw [decide_eq_true hq] at s1
    have e2 : aCall T0 F_slices_IndexFunc_impl_Block_impl_Block [.slice (some ⟨l, o, none⟩) xs.length c, .func (.func F_impl_blockIndex_1) #[] #[.pointer (some ⟨M.length, 0, none⟩)]] (M ++ [(⟨[.int .i64 id], 1, 2⟩ : Blk)]) = some (.int .i64 (i : Int), M ++ [(⟨[.int .i64 id], 1, 2⟩ : Blk)]) := by
      rw [aCall_eq T_slices_IndexFunc_impl_Block_impl_Block]; unfold A_slices_IndexFunc_impl_Block_impl_Block C_slices_IndexFunc_impl_Block_impl_Block; simp [thenD_pp, sliceCells_sl, sliceCells_z, sliceCells_nil, take_full, appS_sl, appK_ok, appS_none, thenD_ag, agP_nil, agP_cons, e]
      rw [S_slices_IndexFunc_impl_Block_impl_Block_0]; unfold B_slices_IndexFunc_impl_Block_impl_Block_0; simp [thenD_pp, sliceCells_sl, sliceCells_z, sliceCells_nil, take_full, appS_sl, appK_ok, appS_none, thenD_ag, agP_nil, agP_cons, hi, hrd, s1]
    refine ⟨i, ?_, by simp, .inl (by omega)⟩
    rw [aCall_eq T_impl_blockIndex]; unfold A_impl_blockIndex C_impl_blockIndex; simp [thenD_pp, sliceCells_sl, sliceCells_z, sliceCells_nil, take_full, appS_sl, appK_ok, appS_none, thenD_ag, agP_nil, agP_cons, e2]
set_option maxHeartbeats 2000000 in
theorem s_oramBlocks_1 (M : Mem) (p m nd0 : Nat) (a76 n77 i78 : V) (bs : List ty_Block.D) (l2 : Nat) (css : List (List V)) (Ls : List (List Nat)) (i : Nat) (hi : i < bs.length) (hp : rd1 M p 0 = some (.int .i64 (m : Int))) (hm : m ≤ 6) (hnd : nd0 + 1 < 2 * 2 ^ m) (h1 : css.length = bs.length) (h2 : Ls.length = bs.length) (hw : ∀ c ∈ css, c.length = 3)
    (hbs : ∀ b ∈ bs, (0 ≤ b.1 ∧ b.1 ≤ 255) ∧ b.2.1 = ((Int.toNat b.2.1 : Nat) : Int) ∧ Int.toNat b.2.1 < 2 ^ m) (hnl : bs.length ≤ 4) (hnd2 : Ls.flatten.Nodup) (hj : ∀ (a b : Nat) (A B : List Nat), a ≠ b → Ls[a]? = some A → Ls[b]? = some B → ∀ j ∈ A, j ∉ B)
    (all : List ty_Block.D) (hal : all.length ≤ 5000) (v : V) (X : Mem) (h : InI M bs l2 css Ls i all v X) :
    ((onP m (nd0 + 1) (Int.toNat bs[i].2.1) && !(hasId bs[i].1 all)) = true ∧ ∃ v' X', InI M bs l2 css Ls (i + 1) (putL bs[i] all) v' X' ∧ lp (aCall T0) K_impl_oramBlocks_1 L_impl_oramBlocks_1 (FoB p v nd0 a76 n77 i78 l2 bs.length i) X = lp (aCall T0) K_impl_oramBlocks_1 L_impl_oramBlocks_1 (FoB p v' nd0 a76 n77 i78 l2 bs.length (i + 1)) X') ∨
    ((onP m (nd0 + 1) (Int.toNat bs[i].2.1) && !(hasId bs[i].1 all)) = false ∧ RtF M (lp (aCall T0) K_impl_oramBlocks_1 L_impl_oramBlocks_1 (FoB p v nd0 a76 n77 i78 l2 bs.length i) X)) := by
  obtain ⟨L, g, nd, hge, hdis⟩ := h.gr
  have hp6 : 2 ^ m ≤ 2 ^ 6 := Nat.pow_le_pow_right (by omega) hm
  have hki := hbs _ (List.getElem_mem hi)
  have hds := h.el i (css[i]'(by omega)) bs[i] (Ls[i]'(by omega)) (Nat.le_refl _) (by simp) (by simp) (by simp)
  have hfl : css.flatten.length = bs.length * 3 := by rw [flat_len hw, h1]
  have hrd : rdn X l2 (i * 3) 3 = some (css[i]'(by omega)) := by
    have := flat_atr (w := 3) css i (by omega) [] hw
    simp only [rdn, h.hb]
    rw [List.append_nil] at this
    rw [if_pos (by refine ⟨by simp, by omega⟩), this]
  obtain ⟨gb, gk⟩ := hds
  obtain ⟨u, hu, w0, w1, qu⟩ := rep_g_Block gb.rep
  obtain ⟨ua, uc, rfl⟩ := qu.slen
  have hon : ∀ Y, aCall T0 F_impl_onPath [.int .i64 m, .int .i64 ((nd0 : Int) + 1), .int .i64 (Int.toNat bs[i].2.1 : Int)] Y = some (.bool (onP m (nd0 + 1) (Int.toNat bs[i].2.1)), Y) := fun Y => c_impl_onPath Y m (nd0 + 1) (Int.toNat bs[i].2.1) hm (by exact hki.2.2) (by omega) hnd
  obtain ⟨a, rfl⟩ := g.shape
  have e6 : IntKind.i64.wrap ((i : Int) + 1) = i + 1 := wrap_i64 (by omega) (by omega)
  have e7 : IntKind.i64.wrap ((nd0 : Int) + 1) = nd0 + 1 := wrap_i64 (by omega) (by omega)
  have hp' := fun N : Mem => r1_pre (h.pre.trans (List.prefix_append X N)) hp
  rw [hu] at hrd gb
  have hlf := hki.2.1
  have hidR := hki.1
  have hnbi := hdis
  generalize hbi : bs[i] = b at *
  obtain ⟨b1, b2, b3⟩ := b
  simp only at hlf hidR hon hrd gb w0 w1 qu ⊢
  generalize Int.toNat b2 = lf at *
  subst hlf
  have hxp : X <+: X ++ [(⟨[.int .i64 b1, .int .i64 (lf : Int), .slice ua (List.length (α := UInt8) b3) uc], 1, 2⟩ : Blk)] := List.prefix_append _ _
  obtain ⟨r, hr1, hr2, hr3⟩ := c_impl_blockIndex _ _ all b1 (g.grow hxp).rep (by omega)
  have hpr : rdn (X ++ [(⟨[.int .i64 b1, .int .i64 (lf : Int), .slice ua (List.length (α := UInt8) b3) uc], 1, 2⟩ : Blk)]) X.length 0 3 = some [.int .i64 b1, .int .i64 (lf : Int), .slice ua (List.length (α := UInt8) b3) uc] := rdn_box (by simp) rfl
  cases h3 : onP m (nd0 + 1) lf with
  | false =>
    rw [h3] at hon
    right
    refine ⟨rfl, ?_⟩
    rw [S_impl_oramBlocks_1]; unfold B_impl_oramBlocks_1; simp [thenD_pp, sliceCells_sl, sliceCells_z, sliceCells_nil, take_full, appS_sl, appK_ok, appS_none, thenD_ag, agP_nil, agP_cons, hi, hrd, hp', e7, hon, zeroCells]
    refine ⟨_, _, rfl, ?_, h.pre.trans hxp⟩
    rfl
  | true =>
    rw [h3] at hon
    cases h4 : hasId b1 all with
    | true =>
      rw [h4] at hr2
      have hr2 := of_decide_eq_true hr2
      right
      refine ⟨rfl, ?_⟩
      rw [S_impl_oramBlocks_1]; unfold B_impl_oramBlocks_1; simp [thenD_pp, sliceCells_sl, sliceCells_z, sliceCells_nil, take_full, appS_sl, appK_ok, appS_none, thenD_ag, agP_nil, agP_cons, hi, hrd, hp', e7, hon, hr1, hr2, zeroCells]
      refine ⟨_, _, rfl, ?_, h.pre.trans hxp⟩
      rfl
    | false =>
      rw [h4] at hr2
      have hr2 : ¬ 0 ≤ r := of_decide_eq_false hr2
      have hB := c_impl_blockPut _ (.slice a all.length all.length) all L [.int .i64 b1, .int .i64 (lf : Int), .slice ua (List.length (α := UInt8) b3) uc] (b1, (lf : Int), b3) _ (g.grow hxp) (gb.grow hxp) (fun j hj hm => by
        have q1 := (hdis j hm).2 i _ (Nat.le_refl _) (List.getElem?_eq_getElem (by omega))
        exact q1 hj) nd (gr_Block_nd gb) (by omega) h.lt h.rg hidR
      left
      refine ⟨rfl, ?_⟩
      rw [S_impl_oramBlocks_1]; unfold B_impl_oramBlocks_1; simp [thenD_pp, sliceCells_sl, sliceCells_z, sliceCells_nil, take_full, appS_sl, appK_ok, appS_none, thenD_ag, agP_nil, agP_cons, hi, hrd, hp', e7, hon, hr1, hr2, hpr, zeroCells]
      generalize hx : aCall T0 F_impl_blockPut _ _ = xhx
      obtain ⟨v3, X3, rfl, L3, g3, n3, hL3, ag, hl3⟩ := of_call hx hB
      clear hx
      simp only at g3 ag hl3
      simp [thenD_pp, sliceCells_sl, sliceCells_z, sliceCells_nil, take_full, appS_sl, appK_ok, appS_none, thenD_ag, agP_nil, agP_cons, e6]
      have hlX := get_lt h.hb
      have hlen : (X ++ [(⟨[.int .i64 b1, .int .i64 (lf : Int), .slice ua (List.length (α := UInt8) b3) uc], 1, 2⟩ : Blk)]).length = X.length + 1 := by simp
      have hL2 : l2 ∉ L := fun hm => (hdis l2 hm).1 rfl
      have hpM := (h.pre.trans hxp).length_le
      have hgetL : Ls[i]? = some (Ls[i]'(by omega)) := List.getElem?_eq_getElem (by omega)
      refine ⟨v3, X3, ⟨ag.pre (h.pre.trans hxp) hge, ⟨L3, g3, n3, fun j hm => ?_, fun j hm => ?_⟩, ?_, ?_, putL_lt h.lt h4, putL_ids h.rg hidR⟩, rfl⟩
      · rcases hL3 j hm with q | q | q
        · exact hge j q
        · exact (gk j q).1
        · have := h.pre.length_le; omega
      · rcases hL3 j hm with q | q | q
        · exact ⟨(hdis j q).1, fun k K hk hK => (hdis j q).2 k K (by omega) hK⟩
        · exact ⟨(gk j q).2, fun k K hk hK => hj i k _ K (by omega) hgetL hK j q⟩
        · refine ⟨by omega, fun k K hk hK hjK => ?_⟩
          have hk2 : k < Ls.length := (List.getElem?_eq_some_iff.1 hK).1
          have := (h.el k (css[k]'(by omega)) (bs[k]'(by omega)) K (by omega) (List.getElem?_eq_getElem (by omega)) (List.getElem?_eq_getElem (by omega)) hK).1.lt j hjK
          omega
      · rw [ag.2 l2 (by omega) hL2]
        exact get_pre hxp h.hb
      · intro k ds x K hk hd hx hK
        obtain ⟨q1, q2⟩ := h.el k ds x K (by omega) hd hx hK
        exact ⟨(q1.grow hxp).agree ag (fun j hm hmL => (hdis j hmL).2 k K (by omega) hK hm), q2⟩
theorem int_lt_len {xs : List Int} (h : xs.Pairwise (· < ·)) (hr : ∀ y ∈ xs, 0 ≤ y ∧ y ≤ 255) : xs.length ≤ 256 := by
  have key : ∀ i (hi : i < xs.length), (i : Int) ≤ xs[i] := by
    intro i
    induction i with
    | zero => intro hi; exact (hr _ (List.getElem_mem hi)).1
    | succ i ih =>
      intro hi
      have h1 := ih (by omega)
      have h2 := List.pairwise_iff_getElem.1 h i (i + 1) (by omega) hi (by omega)
      omega
  by_cases h0 : xs.length = 0
  · omega
  · have h1 := key (xs.length - 1) (by omega)
    have h2 := (hr _ (List.getElem_mem (show xs.length - 1 < xs.length by omega))).2
    omega
theorem lt_len {xs : List ty_Block.D} (h : IdLt xs) (hr : IdsR xs) : xs.length ≤ 256 := by
  have := int_lt_len (xs := xs.map fun b => (b.1 : Int)) ((List.pairwise_map (f := fun b : ty_Block.D => (b.1 : Int)) (R := (· < ·))).2 h) (fun y hy => by
    obtain ⟨b, hb, rfl⟩ := List.mem_map.1 hy
    exact hr b hb)
  simpa using this
theorem l_oramBlocks_1 (M : Mem) (p m nd0 : Nat) (a76 n77 i78 : V) (bs : List ty_Block.D) (l2 : Nat) (css : List (List V)) (Ls : List (List Nat)) (hp : rd1 M p 0 = some (.int .i64 (m : Int))) (hm : m ≤ 6) (hnd : nd0 + 1 < 2 * 2 ^ m) (h1 : css.length = bs.length) (h2 : Ls.length = bs.length) (hw : ∀ c ∈ css, c.length = 3)
    (hbs : ∀ b ∈ bs, (0 ≤ b.1 ∧ b.1 ≤ 255) ∧ b.2.1 = ((Int.toNat b.2.1 : Nat) : Int) ∧ Int.toNat b.2.1 < 2 ^ m) (hnl : bs.length ≤ 4) (hnd2 : Ls.flatten.Nodup) (hj : ∀ (a b : Nat) (A B : List Nat), a ≠ b → Ls[a]? = some A → Ls[b]? = some B → ∀ j ∈ A, j ∉ B) :
    ∀ (d i : Nat), i + d = bs.length → ∀ (all : List ty_Block.D) (v : V) (X : Mem), InI M bs l2 css Ls i all v X →
    (∃ all' v' X', inO m (nd0 + 1) all (bs.drop i) = some all' ∧ InI M bs l2 css Ls bs.length all' v' X' ∧ lp (aCall T0) K_impl_oramBlocks_1 L_impl_oramBlocks_1 (FoB p v nd0 a76 n77 i78 l2 bs.length i) X = lp (aCall T0) K_impl_oramBlocks_1 L_impl_oramBlocks_1 (FoB p v' nd0 a76 n77 i78 l2 bs.length bs.length) X') ∨
    (inO m (nd0 + 1) all (bs.drop i) = none ∧ RtF M (lp (aCall T0) K_impl_oramBlocks_1 L_impl_oramBlocks_1 (FoB p v nd0 a76 n77 i78 l2 bs.length i) X))
  | 0, i, hd, all, v, X, h => by
    have e : i = bs.length := by omega
    subst e
    exact .inl ⟨all, v, X, by simp [inO], h, rfl⟩
  | d + 1, i, hd, all, v, X, h => by
    have hi : i < bs.length := by omega
    have hlen := lt_len h.lt h.rg
    have hdr : bs.drop i = bs[i] :: bs.drop (i + 1) := List.drop_eq_getElem_cons hi
    rw [hdr]
    unfold inO
    rcases s_oramBlocks_1 M p m nd0 a76 n77 i78 bs l2 css Ls i hi hp hm hnd h1 h2 hw hbs hnl hnd2 hj all (by omega) v X h with ⟨q, v', X', h', e⟩ | ⟨q, r⟩
    · rw [if_pos q, e]
      exact l_oramBlocks_1 M p m nd0 a76 n77 i78 bs l2 css Ls hp hm hnd h1 h2 hw hbs hnl hnd2 hj d (i + 1) (by omega) _ v' X' h'
    · rw [if_neg (by rw [q]; simp)]
      exact .inr ⟨rfl, r⟩
theorem in_bs {M X : Mem} {w : V} {bs : List ty_Block.D} {K : List Nat} (hp : M <+: X) (h : Gr (.sl ty_Block) X [w] bs K) (nd : K.Nodup) (hK : ∀ j ∈ K, M.length ≤ j) (hne : bs ≠ []) : ∃ l2 css Ls, w = .slice (some ⟨l2, 0, none⟩) bs.length bs.length ∧ css.length = bs.length ∧ Ls.length = bs.length ∧ (∀ c ∈ css, c.length = 3) ∧ (∀ (a b : Nat) (A B : List Nat), a ≠ b → Ls[a]? = some A → Ls[b]? = some B → ∀ j ∈ A, j ∉ B) ∧ Ls.flatten.Nodup ∧ K = l2 :: Ls.flatten ∧
    ∀ (all : List ty_Block.D) (v : V) (L : List Nat), Gr (.sl ty_Block) X [v] all L → L.Nodup → (∀ j ∈ L, M.length ≤ j) → (∀ j ∈ L, j ∉ K) → IdLt all → IdsR all → InI M bs l2 css Ls 0 all v X := by
  rcases h with ⟨_, rfl, _⟩ | ⟨l2, css, Ls, e, hb, h1, h2, h3, rfl⟩
  · exact absurd rfl hne
  cases e
  have hnd := List.nodup_cons.1 nd
  have hfl := hnd.2
  have hw : ∀ c ∈ css, c.length = 3 := fun c hc => by
    obtain ⟨k, hk, rfl⟩ := List.getElem_of_mem hc
    exact (h3 k _ (bs[k]'(by omega)) (Ls[k]'(by omega)) (by simp) (by simp) (by simp)).len
  refine ⟨l2, css, Ls, rfl, h1, h2, hw, ?_, hfl, rfl, fun all v L g1 g2 g3 g4 g5 g6 => ⟨hp, ⟨L, g1, g2, g3, fun j hj => ⟨fun e => g4 j hj (by rw [e]; exact List.mem_cons_self ..), fun k K _ hK hm => g4 j hj (List.mem_cons_of_mem _ (List.mem_flatten.2 ⟨K, List.mem_of_getElem? hK, hm⟩))⟩⟩, hb, fun k ds x K _ q1 q2 q3 => ⟨h3 k ds x K q1 q2 q3, fun j hj => ⟨hK j (List.mem_cons_of_mem _ (List.mem_flatten.2 ⟨K, List.mem_of_getElem? q3, hj⟩)), fun e => hnd.1 (by rw [← e]; exact List.mem_flatten.2 ⟨K, List.mem_of_getElem? q3, hj⟩)⟩⟩, g5, g6⟩⟩
  intro a b A B hab hA hB j hjA hjB
  have hfl := List.pairwise_flatten.1 hfl
  obtain ⟨ha, rfl⟩ := List.getElem?_eq_some_iff.1 hA
  obtain ⟨hb2, rfl⟩ := List.getElem?_eq_some_iff.1 hB
  have hpw := List.pairwise_iff_getElem.1 hfl.2
  rcases Nat.lt_or_ge a b with h | h
  · exact hpw a b ha hb2 h j hjA j hjB rfl
  · exact hpw b a hb2 ha (by omega) j hjB j hjA rfl
theorem sto_some {M : Mem} {Lp : List V → Mem → R} {F : V → List V} {o : Option (List ty_Block.D)} {a : List ty_Block.D} {r : R} (ho : o = some a) (h : ∃ v' X', OuI M a v' X' ∧ r = Lp (F v') X') : StO M Lp F o r := by subst ho; exact h
theorem sto_none {M : Mem} {Lp : List V → Mem → R} {F : V → List V} {o : Option (List ty_Block.D)} {r : R} (ho : o = none) (h : RtF M r) : StO M Lp F o r := by subst ho; exact h
set_option maxHeartbeats 2000000 in
theorem s_oramBlocks_0 (M : Mem) (p m : Nat) (w : Int) (aC : Option Addr) (cC : Nat) (cells : List ty_Cell.D) (hC : Rep (.sl ty_Cell) M [.slice aC cells.length cC] cells) (i : Nat) (hi : i < cells.length) (hp : rd1 M p 0 = some (.int .i64 (m : Int))) (hpw : rd1 M p 1 = some (.int .i64 w)) (hm : m ≤ 6) (hlen : cells.length + 1 = 2 * 2 ^ m) (hsz : ∀ c ∈ cells, List.length (α := UInt8) c ≤ 1048576)
    (all : List ty_Block.D) (v : V) (X : Mem) (h : OuI M all v X) :
    StO M (lp (aCall T0) K_impl_oramBlocks_0 L_impl_oramBlocks_0) (FoOn p aC cells.length cC (i + 1)) (nxO m w (i + 1) cells[i] all) (lp (aCall T0) K_impl_oramBlocks_0 L_impl_oramBlocks_0 (FoO p v aC cells.length cC i) X) := by
  obtain ⟨L, g, nd, hge⟩ := h.gr
  obtain ⟨l, o, u, rfl, hrd, hrn, hu⟩ := at_Cell (hC.mono h.pre) hi
  have hszi := hsz _ (List.getElem_mem hi)
  have hp6 : 2 ^ m ≤ 2 ^ 6 := Nat.pow_le_pow_right (by omega) hm
  obtain ⟨ua, uc, rfl⟩ := hu.slen
  generalize hcl : cells[i] = c at *
  have e6 : IntKind.i64.wrap ((i : Int) + 1) = i + 1 := wrap_i64 (by omega) (by omega)
  have hp' := fun N : Mem => r1_pre (h.pre.trans (List.prefix_append X N)) hp
  have hpw' := fun N : Mem => r1_pre (h.pre.trans (List.prefix_append X N)) hpw
  have hNR := c_impl_nodeRead (X ++ [(⟨[.slice ua (List.length (α := UInt8) c) uc], 1, 2⟩ : Blk)]) (.slice ua (List.length (α := UInt8) c) uc) c m w (hu.mono (List.prefix_append _ _)) hszi
  rw [S_impl_oramBlocks_0]; unfold B_impl_oramBlocks_0; simp [thenD_pp, sliceCells_sl, sliceCells_z, sliceCells_nil, take_full, appS_sl, appK_ok, appS_none, thenD_ag, agP_nil, agP_cons, hi, hrd, hrn, hp', hpw', zeroCells]
  generalize hx : aCall T0 F_impl_nodeRead _ _ = xhx
  obtain ⟨_, X1, rfl, r, L1, rfl, p1, g1, n1, k1⟩ := of_call hx hNR
  clear hx
  simp only at p1 g1
  have pX : X <+: X1 := (List.prefix_append _ _).trans p1
  have pM := h.pre.trans pX
  have hk1 : ∀ j ∈ L1, X.length ≤ j := fun j hj => by have := k1 j hj; simp at this; omega
  unfold nxO
  cases hok : ndOk m w c with
  | false =>
    refine sto_none (by simp) ?_
    simp [thenD_pp, sliceCells_sl, sliceCells_z, sliceCells_nil, take_full, appS_sl, appK_ok, appS_none, thenD_ag, agP_nil, agP_cons]
    refine ⟨_, _, rfl, ?_, pM⟩
    rfl
  | true =>
    have hx : ndX m w c = ndB (Int.toNat w) c := by unfold ndX; rw [if_pos hok]
    have hbl : blocksB m w (ndB (Int.toNat w) c) = true := by
      unfold ndOk at hok
      simp only [Bool.and_eq_true] at hok
      exact hok.2.2.1
    have hbs := leafs_of hbl
    have hnl := ndB_len (Int.toNat w) c
    rw [hx] at g1
    rw [if_pos rfl]
    generalize ndB (Int.toNat w) c = bs at *
    obtain ⟨a1, rfl⟩ := g1.shape
    have g' := g.grow pX
    by_cases hne : bs = []
    · subst hne
      refine sto_some (a := all) rfl ?_
      simp only [List.length_nil]
      simp [thenD_pp, sliceCells_sl, sliceCells_z, sliceCells_nil, take_full, appS_sl, appK_ok, appS_none, thenD_ag, agP_nil, agP_cons]
      rw [S_impl_oramBlocks_1]; unfold B_impl_oramBlocks_1; simp [thenD_pp, sliceCells_sl, sliceCells_z, sliceCells_nil, take_full, appS_sl, appK_ok, appS_none, thenD_ag, agP_nil, agP_cons, e6]
      exact ⟨_, X1, ⟨pM, ⟨L, g', nd, hge⟩, h.lt, h.rg⟩, rfl⟩
    · obtain ⟨l2, css, Ls, e, h1, h2, hw, hj, hfl, rfl, hI⟩ := in_bs pM g1 n1 (fun j hj => by have := hk1 j hj; have := h.pre.length_le; omega) hne
      cases e
      have hI0 := hI all v L g' nd hge (fun j hj hm => by have := hk1 j hm; have := g.lt j hj; omega) h.lt h.rg
      have key := l_oramBlocks_1 M p m i (.slice (some ⟨l, o, none⟩) cells.length cC) (.int .i64 cells.length) (.int .i64 i) bs l2 css Ls hp hm (by omega) h1 h2 hw hbs hnl hfl hj bs.length 0 (by omega) all v X1 hI0
      rw [List.drop_zero] at key
      simp only [FoB, Int.natCast_zero, Int.ofNat_zero] at key
      rcases key with ⟨all', v', X', q1, q2, e⟩ | ⟨q1, fr, X', e, q2, q3⟩
      · refine sto_some q1 ?_
        simp [thenD_pp, sliceCells_sl, sliceCells_z, sliceCells_nil, take_full, appS_sl, appK_ok, appS_none, thenD_ag, agP_nil, agP_cons, e]
        rw [S_impl_oramBlocks_1]; unfold B_impl_oramBlocks_1; simp [thenD_pp, sliceCells_sl, sliceCells_z, sliceCells_nil, take_full, appS_sl, appK_ok, appS_none, thenD_ag, agP_nil, agP_cons, e6]
        obtain ⟨L', g2, n2, k2, _⟩ := q2.gr
        exact ⟨_, X', ⟨q2.pre, ⟨L', g2, n2, k2⟩, q2.lt, q2.rg⟩, rfl⟩
      · refine sto_none q1 ?_
        simp [thenD_pp, sliceCells_sl, sliceCells_z, sliceCells_nil, take_full, appS_sl, appK_ok, appS_none, thenD_ag, agP_nil, agP_cons, e]
        exact ⟨fr, X', rfl, q2, q3⟩
theorem l_oramBlocks_0 (M : Mem) (p m : Nat) (w : Int) (aC : Option Addr) (cC : Nat) (cells : List ty_Cell.D) (hC : Rep (.sl ty_Cell) M [.slice aC cells.length cC] cells) (hp : rd1 M p 0 = some (.int .i64 (m : Int))) (hpw : rd1 M p 1 = some (.int .i64 w)) (hm : m ≤ 6) (hlen : cells.length + 1 = 2 * 2 ^ m) (hsz : ∀ c ∈ cells, List.length (α := UInt8) c ≤ 1048576) :
    ∀ (d i : Nat), i + d = cells.length → ∀ (all : List ty_Block.D) (v : V) (X : Mem), OuI M all v X →
    StO M (lp (aCall T0) K_impl_oramBlocks_0 L_impl_oramBlocks_0) (FoOn p aC cells.length cC cells.length) (outO m w (i + 1) (cells.drop i) all) (lp (aCall T0) K_impl_oramBlocks_0 L_impl_oramBlocks_0 (FoO p v aC cells.length cC i) X)
  | 0, i, hd, all, v, X, h => by
    have e : i = cells.length := by omega
    subst e
    rw [List.drop_length]
    exact ⟨v, X, h, rfl⟩
  | d + 1, i, hd, all, v, X, h => by
    have hi : i < cells.length := by omega
    have hdr : cells.drop i = cells[i] :: cells.drop (i + 1) := List.drop_eq_getElem_cons hi
    rw [hdr]
    have key := s_oramBlocks_0 M p m w aC cC cells hC i hi hp hpw hm hlen hsz all v X h
    unfold outO
    unfold nxO at key
    by_cases hok : ndOk m w cells[i] = true
    · rw [if_pos hok] at key ⊢
      cases hq : inO m (i + 1) all (ndB (Int.toNat w) cells[i]) with
      | none =>
        rw [hq] at key
        exact key
      | some a =>
        rw [hq] at key
        obtain ⟨v', X', h', e⟩ := key
        rw [e]
        exact l_oramBlocks_0 M p m w aC cC cells hC hp hpw hm hlen hsz d (i + 1) (by omega) a v' X' h'
    · rw [if_neg hok] at key ⊢
      exact key
def OrV (M : Mem) (o : Option (List ty_Block.D)) (p : V × Mem) : Prop := ∃ r L, p.1 = .tuple #[r, .bool o.isSome] ∧ M <+: p.2 ∧ Gr (.sl ty_Block) p.2 [r] (o.getD []) L ∧ L.Nodup ∧ ∀ j ∈ L, M.length ≤ j
theorem c_impl_treeNodes (M : Mem) (m n : Nat) (h : m ≤ 6) (hn : n = 2 * 2 ^ m - 1) : aCall T0 F_impl_treeNodes [.int .i64 m] M = some (.int .i64 n, M) := by
  subst hn
  match m, h with
  | 0, _ => rw [aCall_eq T_impl_treeNodes]; unfold A_impl_treeNodes C_impl_treeNodes; simp; decide
  | 1, _ => rw [aCall_eq T_impl_treeNodes]; unfold A_impl_treeNodes C_impl_treeNodes; simp; decide
  | 2, _ => rw [aCall_eq T_impl_treeNodes]; unfold A_impl_treeNodes C_impl_treeNodes; simp; decide
  | 3, _ => rw [aCall_eq T_impl_treeNodes]; unfold A_impl_treeNodes C_impl_treeNodes; simp; decide
  | 4, _ => rw [aCall_eq T_impl_treeNodes]; unfold A_impl_treeNodes C_impl_treeNodes; simp; decide
  | 5, _ => rw [aCall_eq T_impl_treeNodes]; unfold A_impl_treeNodes C_impl_treeNodes; simp; decide
  | 6, _ => rw [aCall_eq T_impl_treeNodes]; unfold A_impl_treeNodes C_impl_treeNodes; simp; decide
theorem win_ok (M : Mem) (x a b : Int) : aCall T0 F_impl_within [.int .i64 x, .int .i64 a, .int .i64 b] M = some (.bool (decide (a ≤ x ∧ x ≤ b)), M) := by
  rw [c_impl_within, Bool.decide_and]
theorem within_ok {a lo hi : Int} (h1 : lo ≤ a) (h2 : a ≤ hi) : decide (lo ≤ a ∧ a ≤ hi) = true := decide_eq_true ⟨h1, h2⟩
theorem l_impl_isMem_0 (M X : Mem) (m : ty_Mem.D) (a b : Option Addr) (c d p : Nat) (hM : M <+: X) (hb : X[p]? = some ⟨[.int .i64 m.1, .slice a m.2.1.length c, .slice b m.2.2.length d], 1, 2⟩) (h : Rep (.sl ty_Touch) M [.slice b m.2.2.length d] m.2.2) (hn : m.2.2.length ≤ 6000) (hn2 : m.2.1.length ≤ 128) :
    (∃ X', M <+: X' ∧ X <+: X' ∧ (∀ i, i < m.2.2.length → atB (touchB m) m.2.2 i = true) ∧ lp (aCall T0) K_impl_isMem_0 L_impl_isMem_0 [und, .pointer (some ⟨p, 0, none⟩), und, und, und, und, und, und, und, und, und, und, und, und, und, und, und, und, und, und, und, und, .slice b m.2.2.length d, .int .i64 m.2.2.length, .int .i64 (0 : Nat), und, und, und, und, und, und, und, und, und, und, und, und, und, und, und, und, und, und, und, und, und, und, und, und, und, und, und, und, und, und] X = lp (aCall T0) K_impl_isMem_0 L_impl_isMem_0 [und, .pointer (some ⟨p, 0, none⟩), und, und, und, und, und, und, und, und, und, und, und, und, und, und, und, und, und, und, und, und, .slice b m.2.2.length d, .int .i64 m.2.2.length, .int .i64 m.2.2.length, und, und, und, und, und, und, und, und, und, und, und, und, und, und, und, und, und, und, und, und, und, und, und, und, und, und, und, und, und, und] X' ∧ X'[p]? = some ⟨[.int .i64 m.1, .slice a m.2.1.length c, .slice b m.2.2.length d], 1, 2⟩) ∨
    ((∃ i, i < m.2.2.length ∧ atB (touchB m) m.2.2 i = false) ∧ ∀ k, thenF M [.tmp 2] (thenS (blockR 0 (lp (aCall T0) K_impl_isMem_0 L_impl_isMem_0 [und, .pointer (some ⟨p, 0, none⟩), und, und, und, und, und, und, und, und, und, und, und, und, und, und, und, und, und, und, und, und, .slice b m.2.2.length d, .int .i64 m.2.2.length, .int .i64 (0 : Nat), und, und, und, und, und, und, und, und, und, und, und, und, und, und, und, und, und, und, und, und, und, und, und, und, und, und, und, und, und, und] X)) (aCall T0) k) = some (.bool false, M)) := by
  have key := loop_ok (call := aCall T0) (K := K_impl_isMem_0) (L := L_impl_isMem_0) (fun _ Y => X <+: Y) (fun i => [und, .pointer (some ⟨p, 0, none⟩), und, und, und, und, und, und, und, und, und, und, und, und, und, und, und, und, und, und, und, und, .slice b m.2.2.length d, .int .i64 m.2.2.length, .int .i64 i, und, und, und, und, und, und, und, und, und, und, und, und, und, und, und, und, und, und, und, und, und, und, und, und, und, und, und, und, und, und]) (atB (touchB m) m.2.2) (n := m.2.2.length) (M0 := M) (rs := [.tmp 2]) (k0 := 0) (a := .bool false) X (List.prefix_refl _) ?_ ?_
  · rcases key with ⟨X', h0, h1, h2⟩ | h
    · exact .inl ⟨X', hM.trans h0, h0, h1, h2, get_pre h0 hb⟩
    · exact .inr h
  · intro i Y hi hq hY
    obtain ⟨l, o, rfl, _, q1, _⟩ := at_Touch (h.mono (hM.trans hY)) hi
    have hbY := get_pre hY hb
    have hbY2 : ∀ N : Mem, (Y ++ N)[p]? = some ⟨[.int .i64 m.1, .slice a m.2.1.length c, .slice (some ⟨l, o, none⟩) m.2.2.length d], 1, 2⟩ := fun N => get_pre' hbY
    rw [atB_get _ hi] at hq
    have hq := touch_ok hq
    generalize m.2.2[i] = t at q1 hq
    obtain ⟨t1, t2, t3⟩ := t
    simp only at hq q1
    obtain ⟨g1, g2, g2', g3, g3', g3'', g4⟩ := hq
    have e5 : IntKind.i64.wrap ((m.2.1.length : Int) - 1) = m.2.1.length - 1 := wrap_i64 (by omega) (by omega)
    have e6 : IntKind.i64.wrap ((i : Int) + 1) = i + 1 := wrap_i64 (by omega) (by omega)
    have w1 := fun N : Mem => win_ok (Y ++ N) t1 1 2
    rw [within_ok (by omega) (by omega)] at w1
    have w2 := fun N : Mem => win_ok (Y ++ N) t2 0 (m.2.1.length - 1)
    rw [within_ok g2' g3''] at w2
    refine ⟨Y ++ [⟨enc_Touch (t1, t2, t3), 1, 2⟩], hY.trans (List.prefix_append _ _), ?_⟩
    clear g1
    rw [S_impl_isMem_0]; unfold B_impl_isMem_0; simp [thenD_pp, sliceCells_sl, sliceCells_z, sliceCells_nil, take_full, appS_sl, appK_ok, appS_none, thenD_ag, agP_nil, agP_cons, hbY, hbY2, hi, q1, w1, w2, e5, g4, e6, rd1_K, rdJ_ok]
  · intro i Y hi hq hY k
    obtain ⟨l, o, rfl, _, q1, _⟩ := at_Touch (h.mono (hM.trans hY)) hi
    have hbY := get_pre hY hb
    have hbY2 : ∀ N : Mem, (Y ++ N)[p]? = some ⟨[.int .i64 m.1, .slice a m.2.1.length c, .slice (some ⟨l, o, none⟩) m.2.2.length d], 1, 2⟩ := fun N => get_pre' hbY
    rw [atB_get _ hi] at hq
    have hq := touch_cases hq
    generalize m.2.2[i] = t at q1 hq
    obtain ⟨t1, t2, t3⟩ := t
    simp only at hq q1
    have gb := fun (cs : List V) b => gc_boolp (hM.trans (hY.trans (List.prefix_append Y [⟨cs, 1, 2⟩]))) b
    have e5 : IntKind.i64.wrap ((m.2.1.length : Int) - 1) = m.2.1.length - 1 := wrap_i64 (by omega) (by omega)
    have w1 := fun N : Mem => win_ok (Y ++ N) t1 1 2
    have w2 := fun N : Mem => win_ok (Y ++ N) t2 0 (m.2.1.length - 1)
    rcases hq with ⟨g1, g2⟩ | ⟨g1, _, g2⟩ | ⟨g1, ⟨_, g2⟩, _, _, g3⟩ | ⟨g1, ⟨_, g2⟩, ⟨_, _, g3⟩, g4⟩
    · rw [decide_eq_false (by omega)] at w1
      rw [S_impl_isMem_0]; unfold B_impl_isMem_0; simp [thenD_pp, sliceCells_sl, sliceCells_z, sliceCells_nil, take_full, appS_sl, appK_ok, appS_none, thenD_ag, agP_nil, agP_cons, hbY, hbY2, hi, q1, w1, gb, rd1_K, rdJ_ok]
    · rw [within_ok (by omega) (by omega)] at w1
      rw [decide_eq_false (by omega)] at w2
      clear g1
      rw [S_impl_isMem_0]; unfold B_impl_isMem_0; simp [thenD_pp, sliceCells_sl, sliceCells_z, sliceCells_nil, take_full, appS_sl, appK_ok, appS_none, thenD_ag, agP_nil, agP_cons, hbY, hbY2, hi, q1, w1, w2, e5, gb, rd1_K, rdJ_ok]
    · rw [within_ok (by omega) (by omega)] at w1
      rw [decide_eq_false (by omega)] at w2
      clear g1
      rw [S_impl_isMem_0]; unfold B_impl_isMem_0; simp [thenD_pp, sliceCells_sl, sliceCells_z, sliceCells_nil, take_full, appS_sl, appK_ok, appS_none, thenD_ag, agP_nil, agP_cons, hbY, hbY2, hi, q1, w1, w2, e5, gb, rd1_K, rdJ_ok]
    · rw [within_ok (by omega) (by omega)] at w1
      rw [within_ok g2 g3] at w2
      clear g1
      rw [S_impl_isMem_0]; unfold B_impl_isMem_0; simp [thenD_pp, sliceCells_sl, sliceCells_z, sliceCells_nil, take_full, appS_sl, appK_ok, appS_none, thenD_ag, agP_nil, agP_cons, hbY, hbY2, hi, q1, w1, w2, e5, g4, gb, rd1_K, rdJ_ok]
theorem c_impl_isMem_1 (M : Mem) (u : V) (x : ty_Cell.D) (h : Rep (.sl ty_Byte) M [u] x) (p : Nat) (sz : Int) (hp : rd1 M p 0 = some (.int .i64 sz)) : aCall T0 F_impl_isMem_1 [.agg #[u], .pointer (some ⟨p, 0, none⟩)] M = some (.bool (decide (¬ ((List.length (α := UInt8) x : Nat) : Int) = sz)), M) := by
  have h2 : ∀ N, rd1 (M ++ N) p 0 = some (.int .i64 sz) := fun N => rd1_old hp
  obtain ⟨_, _, rfl⟩ := h.slen
  rw [aCall_eq T_impl_isMem_1]; unfold A_impl_isMem_1 C_impl_isMem_1; simp [thenD_pp, sliceCells_sl, sliceCells_z, sliceCells_nil, take_full, appS_sl, appK_ok, appS_none, thenD_ag, agP_nil, agP_cons, h2]
end GoAm
