/- What the functions do that the law reaches; and the law. -/
import Derived.Test.YtiboefiiajkknaaEvictPlanl0
set_option autoImplicit false
set_option linter.unusedVariables false
set_option linter.unusedSimpArgs false
namespace GoAm
open Go
theorem c_spec_EvictPlan (M : Mem) (v : V) (xs : List ty_Block.D) (l w lf : Int) (h : Rep (.sl ty_Block) M [v] xs) (hz : BlkSz xs) : (evB l w lf xs = false ∧ aCall T0 F_spec_EvictPlan [v, .int .i64 l, .int .i64 w, .int .i64 lf] M = some (.slice none 0 0, M)) ∨
    (evB l w lf xs = true ∧ Sat (aCall T0 F_spec_EvictPlan [v, .int .i64 l, .int .i64 w, .int .i64 lf] M) (GrV ty_Put M (levelsE l.toNat lf.toNat xs (l.toNat + 1)).1)) := by
  have e1 := fun M' (hp : M <+: M') => c_spec_StashOk M' v xs l w (h.mono hp) hz.1
  have e1 := e1 M (List.prefix_refl _)
  have e2 := fun M => c_spec_l11Leaf M l lf
  obtain ⟨a, c, rfl⟩ := h.slen
  cases hb : evB l w lf xs with
  | false =>
    left
    refine ⟨rfl, ?_⟩
    unfold evB at hb
    cases h1 : stashB l w xs with
    | false =>
      rw [h1] at e1
      rw [aCall_eq T_spec_EvictPlan]; unfold A_spec_EvictPlan C_spec_EvictPlan; simp [thenD_pp, sliceCells_sl, sliceCells_z, sliceCells_nil, take_full, appS_sl, appK_ok, appS_none, thenD_ag, agP_nil, agP_cons, e1]
    | true =>
      rw [h1] at e1 hb
      rw [Bool.true_and] at hb
      rw [hb] at e2
      rw [aCall_eq T_spec_EvictPlan]; unfold A_spec_EvictPlan C_spec_EvictPlan; simp [thenD_pp, sliceCells_sl, sliceCells_z, sliceCells_nil, take_full, appS_sl, appK_ok, appS_none, thenD_ag, agP_nil, agP_cons, e1, e2]
  | true =>
    right
    refine ⟨rfl, ?_⟩
    obtain ⟨m, n, rfl, rfl, hm, hn, hL, hle, _⟩ := ev_of hb
    unfold evB at hb
    rw [Bool.and_eq_true] at hb
    rw [hb.1] at e1
    rw [hb.2] at e2
    have t1 : ((m : Int).toNat) = m := by omega
    have t2 : ((n : Int).toNat) = n := by omega
    rw [t1, t2]
    rw [aCall_eq T_spec_EvictPlan]; unfold A_spec_EvictPlan C_spec_EvictPlan; simp [thenD_pp, sliceCells_sl, sliceCells_z, sliceCells_nil, take_full, appS_sl, appK_ok, appS_none, thenD_ag, agP_nil, agP_cons, e1, e2, zeroCells]
    generalize hx : aCall T0 F_spec_l13Copy _ _ = xhx
    obtain ⟨v1, X1, rfl, L1, p1, g1, n1, k1⟩ := of_call hx (c_spec_l13Copy _ _ xs (h.mono (List.prefix_append M _)) hz)
    clear hx
    simp only at p1 g1
    have hZ : EvI M xs 0 (.slice (some ⟨M.length, 0, none⟩) 0 0) v1 ([], xs, 0) X1 := ⟨[M.length], L1, (List.prefix_append _ _).trans p1, gr0 (t := ty_Put) (get_pre p1 (by simp [Ty.w])), g1, by simp, by simp, fun l hl => by have := k1 l hl; simp at this; omega, fun l hl hm => by
      simp at hl
      have := k1 l hm
      simp at this
      omega, List.Sublist.refl _, by simp, by simp⟩
    obtain ⟨vo', vr', X', ⟨Lo, Lr, q1, q2, q3, q4, q5, _⟩, e⟩ := l_spec_EvictPlan_0 M a c xs m n h hz hle hL hm hn _ _ X1 hZ
    simp only [Int.natCast_zero, Int.ofNat_zero, Int.sub_zero] at e
    obtain ⟨av, rfl⟩ := g1.shape
    obtain ⟨ao, rfl⟩ := q2.shape
    have hneg : ¬ (m : Int) + 1 ≤ (m : Int) := by omega
    simp [thenD_pp, sliceCells_sl, sliceCells_z, sliceCells_nil, take_full, appS_sl, appK_ok, appS_none, thenD_ag, agP_nil, agP_cons, e]
    rw [S_spec_EvictPlan_0]; unfold B_spec_EvictPlan_0; simp [thenD_pp, sliceCells_sl, sliceCells_z, sliceCells_nil, take_full, appS_sl, appK_ok, appS_none, thenD_ag, agP_nil, agP_cons, hneg]
    exact ⟨(_, X'), rfl, Lo, q1, q2, q4, q5⟩
theorem d_spec_EvictPlan (M : Mem) (v : V) (xs : List ty_Block.D) (h : Rep (.sl ty_Block) M [v] xs) (hb : Bd 1048576 (.sl ty_Block) xs) (l w lf : Int) :
    ∃ M' r, M <+: M' ∧ aCall T0 F_spec_EvictPlan [v, .int .i64 l, .int .i64 w, .int .i64 lf] M = some (r, M') ∧ Rep (.sl ty_Put) M' [r] (planX xs l w lf) := by
  rcases c_spec_EvictPlan M v xs l w lf h (blkSz_of hb) with ⟨h1, e⟩ | ⟨h1, p, e, L, q1, q2, _⟩
  · rw [planX_f h1]
    exact ⟨M, _, List.prefix_refl _, e, .inl ⟨rfl, rfl⟩⟩
  · rw [planX_t h1]
    exact ⟨p.2, p.1, q1, e, q2.rep⟩
theorem plan_len {l w lf : Int} {xs : List ty_Block.D} (h : evB l w lf xs = true) : (levelsE l.toNat lf.toNat xs (l.toNat + 1)).1.length ≤ 10000 := by
  obtain ⟨m, n, rfl, rfl, hm, hn, hL, hle, hbl⟩ := ev_of h
  have t1 : ((m : Int).toNat) = m := by omega
  have t2 : ((n : Int).toNat) = n := by omega
  rw [t1, t2]
  have key : ∀ k, (levelsE m n xs k).1.length ≤ k * 128 := by
    intro k
    induction k with
    | zero => simp [levelsE]
    | succ k ih =>
      rw [levelsE_succ]
      have h2 : ∀ (ys : List ty_Block.D) (s : List ty_Put.D × List ty_Block.D × Nat), (ys.foldl (stepE m n (m - k)) s).1.length ≤ s.1.length + ys.length := by
        intro ys
        induction ys with
        | nil => intro s; simp
        | cons y ys ih2 =>
          intro s
          rw [List.foldl_cons]
          have := ih2 (stepE m n (m - k) s y)
          have h3 : (stepE m n (m - k) s y).1.length ≤ s.1.length + 1 := by
            unfold stepE
            split
            · simp
            · omega
          simp only [List.length_cons]
          omega
      have := h2 xs ((levelsE m n xs k).1, (levelsE m n xs k).2, 0)
      simp only at this
      unfold levelE
      simp only
      omega
  have := key (m + 1)
  omega
theorem planX_bd (xs : List ty_Block.D) (l w lf : Int) : Bd 1048576 (.sl ty_Put) (planX xs l w lf) := by
  refine ⟨?_, fun x _ => ⟨trivial, trivial⟩⟩
  show List.length (planX xs l w lf) ≤ 1048576
  cases h : evB l w lf xs with
  | false => rw [planX_f h]; simp
  | true => rw [planX_t h]; have := plan_len h; omega
theorem gc_ex (M M' : Mem) (v : V) : ∃ X, gc M (some (v, M')) = some (v, X) := by
  simp only [gc]
  split
  · exact ⟨_, rfl⟩
  · exact ⟨_, rfl⟩
set_option maxHeartbeats 8000000 in
set_option maxRecDepth 20000 in
theorem c_laws_FnExactEvictPlan (M : Mem) (v_list : V) (list : List ty_Block.D) (h_list : Rep (.sl ty_Block) M [v_list] list) (hb_list : Bd 9223372036854775807 (.sl ty_Block) list) (l : Int) (w : Int) (lf : Int) : ∃ M', aCall T0 F_laws_FnExactEvictPlan [v_list, .int .i64 l, .int .i64 w, .int .i64 lf] M = some (.bool true, M') := by
  obtain ⟨l_list, s1_list, s2_list, s3_list⟩ := k_laws_szBlockS M v_list list 1048576 (h_list.mono ((List.prefix_refl _).trans (List.prefix_refl _))) hb_list (by omega) (by omega)
  by_cases hl_list : l_list < 0
  · refine ⟨M, ?_⟩
    obtain ⟨_, _, rfl⟩ := h_list.slen
    rw [aCall_eq T_laws_FnExactEvictPlan]; unfold A_laws_FnExactEvictPlan C_laws_FnExactEvictPlan; simp [thenD_pp, sliceCells_sl, sliceCells_z, sliceCells_nil, take_full, appS_sl, appK_ok, appS_none, thenD_ag, agP_nil, agP_cons, s2_list, hl_list]
  have hb1_list := s3_list (by omega)
  have hr_0 : Bd 1048576 (.sl ty_Put) (planX list l w lf) := planX_bd list l w lf
  have ht_0 := tot_PutS _ hr_0
  have ht_list := tot_BlockS _ hb1_list
  obtain ⟨M1, u2, L3, p4, t5, o6, F7⟩ := k_laws_toBlockS M v_list list (h_list.mono ((List.prefix_refl _).trans (List.prefix_refl _))) hb1_list
  have f8 : ∀ l ∈ L3, M.length ≤ l ∧ l < M1.length := by intro l hl; have := F7.2 l hl; (try simp only [List.length_append, List.length_cons, List.length_nil] at this); omega
  have q9 : M <+: M1 := (List.prefix_refl _).trans p4
  have ln10 : M.length ≤ M1.length := by have := p4.length_le; (try simp only [List.length_append, List.length_cons, List.length_nil] at this); omega
  have z11 : M <+: M1 := (List.prefix_refl _).trans q9
  obtain ⟨M13, g16, p14, s15, o17⟩ := d_spec_EvictPlan M1 u2 list ((Own.grow (List.prefix_refl _) o6)).rep hb1_list l w lf
  have q18 : M1 <+: M13 := (List.prefix_refl _).trans p14
  have ln19 : M1.length ≤ M13.length := by have := p14.length_le; (try simp only [List.length_append, List.length_cons, List.length_nil] at this); omega
  have o20 := Own.grow q18 o6
  have z21 : M <+: M13 := z11.trans q18
  obtain ⟨M23, u24, L25, p26, t27, o28, F29⟩ := k_laws_toBlockS M13 v_list list (h_list.mono (z21.trans (List.prefix_refl _))) hb1_list
  have f30 : ∀ l ∈ L25, M13.length ≤ l ∧ l < M23.length := by intro l hl; have := F29.2 l hl; (try simp only [List.length_append, List.length_cons, List.length_nil] at this); omega
  have q31 : M13 <+: M23 := (List.prefix_refl _).trans p26
  have ln32 : M13.length ≤ M23.length := by have := p26.length_le; (try simp only [List.length_append, List.length_cons, List.length_nil] at this); omega
  have z33 : M <+: M23 := z21.trans q31
  have y34 : M13 <+: M23 := (List.prefix_refl _).trans q31
  obtain ⟨M36, g39, L40, p37, s38, o41, F42⟩ := d_impl_EvictPlan M23 u24 list ((Own.grow (List.prefix_refl _) o28)).rep hb1_list l w lf
  have q43 : M23 <+: M36 := (List.prefix_refl _).trans p37
  have ln44 : M23.length ≤ M36.length := by have := p37.length_le; (try simp only [List.length_append, List.length_cons, List.length_nil] at this); omega
  have o45 := Own.grow q43 o28
  have z46 : M <+: M36 := z33.trans q43
  have y47 : M13 <+: M36 := y34.trans q43
  have f48 : ∀ l ∈ L40, M23.length ≤ l ∧ l < M36.length := by intro l hl; have := F42.2 l (by simp [hl]); (try simp only [List.length_append, List.length_cons, List.length_nil] at this); omega
  have nd49 : L40.Nodup := by have := F42.1; first | exact this | (simp only [List.nodup_append] at this; simp [this])
  have e51 := (ans_of (k_laws_eqPutS M36 _ _ _ _ ((Own.grow (List.prefix_refl _) o41)).rep (o17.mono (y47.trans (List.prefix_refl _))) (hr_0.mono (by decide)))).1 rfl
  obtain ⟨M52, u53, L54, p55, t56, o57, F58⟩ := k_laws_toBlockS M36 v_list list (h_list.mono (z46.trans (List.prefix_refl _))) hb1_list
  have f59 : ∀ l ∈ L54, M36.length ≤ l ∧ l < M52.length := by intro l hl; have := F58.2 l hl; (try simp only [List.length_append, List.length_cons, List.length_nil] at this); omega
  have q60 : M36 <+: M52 := (List.prefix_refl _).trans p55
  have ln61 : M36.length ≤ M52.length := by have := p55.length_le; (try simp only [List.length_append, List.length_cons, List.length_nil] at this); omega
  have o62 := Own.grow q60 o45
  have o63 := Own.grow q60 o41
  have z64 : M <+: M52 := z46.trans q60
  have y65 : M13 <+: M52 := y47.trans q60
  have e67 := (ans_of (k_laws_eqBlockS M52 _ _ _ _ ((Own.grow (List.prefix_refl _) o62)).rep ((Own.grow (List.prefix_refl _) o57)).rep (hb1_list.mono (by decide)))).1 rfl
  obtain ⟨M68, m69, up70, o71⟩ := k_laws_markBlockS M52 _ _ _ (1) (Own.grow (List.prefix_refl _) o62) F29.1 hb1_list (by omega) (by omega)
  have ln72 : M52.length ≤ M68.length := by have := up70.1; (try simp only [List.length_append, List.length_cons, List.length_nil] at this); omega
  have o73 := Own.updg up70 (Own.grow (List.prefix_refl _) o63) (fun l hl hk => (by have := f48 l hl; have := f30 l hk; omega))
  have z74 : M <+: M68 := UpdG.pre up70 (z64.trans (List.prefix_refl _)) (fun l hl => by have := f30 l hl; omega)
  have y75 : M13 <+: M68 := UpdG.pre up70 (y65.trans (List.prefix_refl _)) (fun l hl => by have := f30 l hl; omega)
  have c76 : ¬ (1 + gt_BlockS list < 0) := by omega
  have e77 := (ans_of (k_laws_eqPutS M68 _ _ _ _ ((Own.grow (List.prefix_refl _) o73)).rep (o17.mono (y75.trans (List.prefix_refl _))) (hr_0.mono (by decide)))).1 rfl
  obtain ⟨M78, m79, up80, o81⟩ := k_laws_markPutS M68 _ _ _ (1) (Own.grow (List.prefix_refl _) o73) nd49 hr_0 (by omega) (by omega)
  have ln82 : M68.length ≤ M78.length := by have := up80.1; (try simp only [List.length_append, List.length_cons, List.length_nil] at this); omega
  have o83 := Own.updg up80 (Own.grow (List.prefix_refl _) o71) (fun l hl hk => (by have := f30 l hl; have := f48 l hk; omega))
  have z84 : M <+: M78 := UpdG.pre up80 (z74.trans (List.prefix_refl _)) (fun l hl => by have := f48 l hl; omega)
  have y85 : M13 <+: M78 := UpdG.pre up80 (y75.trans (List.prefix_refl _)) (fun l hl => by have := f48 l hl; omega)
  have c86 : ¬ (1 + gt_PutS (planX list l w lf) < 0) := by omega
  have d87 := k_laws_heldPutS M78 _ _ (1) ((Own.grow (List.prefix_refl _) o81)).rep hr_0 (by omega) (by omega)
  have c88 : ¬ (1 + gt_PutS (planX list l w lf) < 0) := by omega
  obtain ⟨M89, u90, L91, p92, t93, o94, F95⟩ := k_laws_toBlockS M78 v_list list (h_list.mono (z84.trans (List.prefix_refl _))) hb1_list
  have f96 : ∀ l ∈ L91, M78.length ≤ l ∧ l < M89.length := by intro l hl; have := F95.2 l hl; (try simp only [List.length_append, List.length_cons, List.length_nil] at this); omega
  have q97 : M78 <+: M89 := (List.prefix_refl _).trans p92
  have ln98 : M78.length ≤ M89.length := by have := p92.length_le; (try simp only [List.length_append, List.length_cons, List.length_nil] at this); omega
  have o99 := Own.grow q97 o83
  have o100 := Own.grow q97 o81
  have z101 : M <+: M89 := z84.trans q97
  have y102 : M13 <+: M89 := y85.trans q97
  obtain ⟨M104, g107, L108, p105, s106, o109, F110⟩ := d_impl_EvictPlan M89 u90 list ((Own.grow (List.prefix_refl _) o94)).rep hb1_list l w lf
  have q111 : M89 <+: M104 := (List.prefix_refl _).trans p105
  have ln112 : M89.length ≤ M104.length := by have := p105.length_le; (try simp only [List.length_append, List.length_cons, List.length_nil] at this); omega
  have o113 := Own.grow q111 o99
  have o114 := Own.grow q111 o100
  have o115 := Own.grow q111 o94
  have z116 : M <+: M104 := z101.trans q111
  have y117 : M13 <+: M104 := y102.trans q111
  have f118 : ∀ l ∈ L108, M89.length ≤ l ∧ l < M104.length := by intro l hl; have := F110.2 l (by simp [hl]); (try simp only [List.length_append, List.length_cons, List.length_nil] at this); omega
  have nd119 : L108.Nodup := by have := F110.1; first | exact this | (simp only [List.nodup_append] at this; simp [this])
  have e121 := (ans_of (k_laws_eqPutS M104 _ _ _ _ ((Own.grow (List.prefix_refl _) o109)).rep (o17.mono (y117.trans (List.prefix_refl _))) (hr_0.mono (by decide)))).1 rfl
  have d122 := k_laws_heldPutS M104 _ _ (1) ((Own.grow (List.prefix_refl _) o114)).rep hr_0 (by omega) (by omega)
  have c123 : ¬ (1 + gt_PutS (planX list l w lf) < 0) := by omega
  obtain ⟨_, _, rfl⟩ := h_list.slen
  rw [aCall_eq T_laws_FnExactEvictPlan]; unfold A_laws_FnExactEvictPlan C_laws_FnExactEvictPlan; simp (maxSteps := 4000000) [thenD_pp, sliceCells_sl, sliceCells_z, sliceCells_nil, take_full, appS_sl, appK_ok, appS_none, thenD_ag, agP_nil, agP_cons, s2_list, hl_list, t5, p4, s15, p14, t27, p26, s38, p37, e51, t56, p55, e67, m69, c76, e77, m79, c86, d87, c88, t93, p92, s106, p105, e121, d122, c123, thenD_pre]
  all_goals exact gc_ex _ _ _
theorem law_laws_FnExactEvictPlan (M : Mem) (avs : List V) (_ : ∀ b ∈ M, b.st ≠ 2) (h : Ins [(false, (.sl (.pr (.int .i64) (.pr (.int .i64) (.sl .u8))))), (false, (.int .i64)), (false, (.int .i64)), (false, (.int .i64))] M avs) : ∃ M', aCall T0 F_laws_FnExactEvictPlan avs M = some (.bool true, M') := by
  obtain ⟨v_list, _, list, rfl, h_list, f_list, h⟩ := ins_cons h
  obtain ⟨v_l, _, l, rfl, h_l, f_l, h⟩ := ins_cons h
  obtain ⟨v_w, _, w, rfl, h_w, f_w, h⟩ := ins_cons h
  obtain ⟨v_lf, _, lf, rfl, h_lf, f_lf, h⟩ := ins_cons h
  obtain rfl := ins_nil h
  obtain ⟨h_l, _⟩ := repv_one h_l
  cases h_l
  obtain ⟨h_w, _⟩ := repv_one h_w
  cases h_w
  obtain ⟨h_lf, _⟩ := repv_one h_lf
  cases h_lf
  exact c_laws_FnExactEvictPlan M v_list list (repv_one h_list) (fit_bd f_list) l w lf
end GoAm
