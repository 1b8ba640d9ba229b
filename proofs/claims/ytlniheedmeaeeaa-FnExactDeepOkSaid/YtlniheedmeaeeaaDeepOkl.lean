/- What the functions do that the law reaches; and the law. -/
import Derived.Test.YtlniheedmeaeeaaDeepOkl1
set_option autoImplicit false
set_option linter.unusedVariables false
set_option linter.unusedSimpArgs false
namespace GoAm
open Go
set_option maxRecDepth 20000 in
set_option maxHeartbeats 4000000 in
theorem c_spec_oramOk (M : Mem) (l w b : Int) (m : ty_Mem.D) (st : List ty_Block.D) (aC : Option Addr) (cC : Nat) (aT : Option Addr) (cT : Nat) (aS : Option Addr) (cS : Nat)
    (hM : Rep ty_Mem M [.int .i64 m.1, .slice aC m.2.1.length cC, .slice aT m.2.2.length cT] m) (hC : Rep (.sl ty_Cell) M [.slice aC m.2.1.length cC] m.2.1) (hS : Rep (.sl ty_Block) M [.slice aS st.length cS] st) (hz : BlkSz st) (hcz : m.2.1.length ≤ 1048576) (hsz : ∀ c ∈ m.2.1, List.length (α := UInt8) c ≤ 1048576) :
    aCall T0 F_spec_OramOk [.agg (aO l w b m.1 aC m.2.1.length cC aT m.2.2.length cT aS st.length cS).toArray] M = some (.bool (orX l w b m st).isSome, M) := by
  have e1 := fun M => c_spec_l12Frame M l w
  have hlw : (decide (0 ≤ l) && decide (l ≤ 6) && (decide (1 ≤ w) && decide (w ≤ 200))) = (lgB l && wdB w) := rfl
  rw [hlw] at e1
  have hpre : M <+: M ++ [(⟨aO l w b m.1 aC m.2.1.length cC aT m.2.2.length cT aS st.length cS, 1, 2⟩ : Blk)] := List.prefix_append _ _
  have e4 := fun N : Mem => c_spec_MemOk (M ++ N) _ m (hM.mono (List.prefix_append _ _))
  have e5 := fun N : Mem => c_spec_StashOk (M ++ N) _ st l w (hS.mono (List.prefix_append _ _)) hz.1
  have gb := fun b => gc_boolp hpre b
  cases h1 : (lgB l && wdB w) with
  | false =>
    rw [h1] at e1
    rw [frO_f (by unfold frO; rw [← Bool.and_assoc, h1]; rfl)]
    rw [aCall_eq T_spec_OramOk]; unfold A_spec_OramOk C_spec_OramOk; simp [thenD_pp, sliceCells_sl, sliceCells_z, sliceCells_nil, take_full, appS_sl, appK_ok, appS_none, thenD_ag, agP_nil, agP_cons, e1, gb]
  | true =>
  rw [h1] at e1
  rw [Bool.and_eq_true] at h1
  obtain ⟨h1, h2⟩ := h1
  have hw : 1 ≤ w ∧ w ≤ 200 := by unfold wdB at h2; simpa using h2
  obtain ⟨k, rfl, hk⟩ := log_nat h1
  have hk0 : Int.toNat (k : Int) = k := by omega
  by_cases h3 : b < 0
  · rw [frO_f (by unfold frO bdB; rw [decide_eq_false (show ¬ 0 ≤ b by omega)]; simp)]
    rw [aCall_eq T_spec_OramOk]; unfold A_spec_OramOk C_spec_OramOk; simp [thenD_pp, sliceCells_sl, sliceCells_z, sliceCells_nil, take_full, appS_sl, appK_ok, appS_none, thenD_ag, agP_nil, agP_cons, e1, h3, gb]
  by_cases h3' : 64 < b
  · rw [frO_f (by unfold frO bdB; rw [decide_eq_false (show ¬ b ≤ 64 by omega)]; simp)]
    rw [aCall_eq T_spec_OramOk]; unfold A_spec_OramOk C_spec_OramOk; simp [thenD_pp, sliceCells_sl, sliceCells_z, sliceCells_nil, take_full, appS_sl, appK_ok, appS_none, thenD_ag, agP_nil, agP_cons, e1, h3, h3', gb]
  have h3b : bdB b = true := by unfold bdB; rw [decide_eq_true (show 0 ≤ b by omega), decide_eq_true (show b ≤ 64 by omega)]; rfl
  by_cases h7 : b < (st.length : Int)
  · rw [frO_f (by unfold frO; rw [decide_eq_false (show ¬ (st.length : Int) ≤ b by omega)]; simp)]
    rw [aCall_eq T_spec_OramOk]; unfold A_spec_OramOk C_spec_OramOk; simp [thenD_pp, sliceCells_sl, sliceCells_z, sliceCells_nil, take_full, appS_sl, appK_ok, appS_none, thenD_ag, agP_nil, agP_cons, e1, h3, h3', h7, gb]
  cases h8 : stashB k w st with
  | false =>
    rw [h8] at e5
    rw [frO_f (by unfold frO; rw [h8]; simp)]
    rw [aCall_eq T_spec_OramOk]; unfold A_spec_OramOk C_spec_OramOk; simp [thenD_pp, sliceCells_sl, sliceCells_z, sliceCells_nil, take_full, appS_sl, appK_ok, appS_none, thenD_ag, agP_nil, agP_cons, e1, h3, h3', h7, e5, gb]
  | true =>
  rw [h8] at e5
  have hp6 : 2 ^ k ≤ 2 ^ 6 := Nat.pow_le_pow_right (by omega) hk
  have hp0 : 0 < 2 ^ k := Nat.two_pow_pos k
  have e6 := fun M => c_spec_TreeNodes M k _ hk rfl
  obtain ⟨N, hN⟩ : ∃ N, N = 2 * 2 ^ k - 1 := ⟨_, rfl⟩
  rw [← hN] at e6
  obtain ⟨W, rfl⟩ : ∃ W : Nat, w = (W : Int) := ⟨Int.toNat w, by omega⟩
  have e7 := fun M => c_spec_NodeSize M W (4 * (W + 3)) (by omega) (by omega) (by omega)
  by_cases h5 : m.2.1.length = N
  · rw [← h5] at e6
    by_cases h6 : (m.1 : Int) = 4 * ((W : Int) + 3)
    · have h6' : ((4 * (W + 3) : Nat) : Int) = m.1 := by rw [h6]; omega
      rw [h6'] at e7
      cases h4 : memB m with
      | false =>
        rw [h4] at e4
        rw [frO_f (by unfold frO; rw [h4]; simp)]
        rw [aCall_eq T_spec_OramOk]; unfold A_spec_OramOk C_spec_OramOk; simp [thenD_pp, sliceCells_sl, sliceCells_z, sliceCells_nil, take_full, appS_sl, appK_ok, appS_none, thenD_ag, agP_nil, agP_cons, e1, h3, h3', h7, e5, e6, e7, e4, gb]
      | true =>
        rw [h4] at e4
        have hX : orX k W b m st = outO k W 1 m.2.1 st := by
          unfold orX
          rw [hk0, if_pos]
          unfold frO
          rw [h1, h2, h3b, h4, hk0, ← hN, decide_eq_true h5, decide_eq_true h6, decide_eq_true (show (st.length : Int) ≤ b by omega), h8]
          rfl
        rw [hX]
        have hNd := c_spec_l14Nodes (M ++ [(⟨aO k W b m.1 aC m.2.1.length cC aT m.2.2.length cT aS st.length cS, 1, 2⟩ : Blk)]) k W b m st aC cC aT cT aS cS (hC.mono hpre) hcz hsz
        rw [aCall_eq T_spec_OramOk]; unfold A_spec_OramOk C_spec_OramOk; simp [thenD_pp, sliceCells_sl, sliceCells_z, sliceCells_nil, take_full, appS_sl, appK_ok, appS_none, thenD_ag, agP_nil, agP_cons, e1, h3, h3', h7, e5, e6, e7, e4]
        generalize hx : aCall T0 F_spec_l14Nodes _ _ = xhx
        obtain ⟨_, X1, rfl, r, LN, rfl, p1, g1, nN, kN⟩ := of_call hx hNd
        clear hx
        simp only at p1 g1
        have g1 := g1.rep
        have pM := hpre.trans p1
        have hbx := get_pre p1 (show (M ++ [(⟨aO k W b m.1 aC m.2.1.length cC aT m.2.2.length cT aS st.length cS, 1, 2⟩ : Blk)])[M.length]? = some _ from List.getElem?_concat_length)
        have st8 : st.length ≤ 128 ∧ blocksB k W st = true := by unfold stashB at h8; simpa using h8
        have hlt := blocks_lt st8.2
        have hid := ids_of st8.2
        cases h9 : m.2.1.all (ndOk k W) with
        | false =>
          have ho : outO k W 1 m.2.1 st = none := by
            cases ho : outO k W 1 m.2.1 st with
            | none => rfl
            | some a =>
              have := (out_good m.2.1 1 st a ho hlt hid).1.1
              rw [h9] at this
              cases this
          rw [ho, h9] at *
          have gb := fun b => gc_boolp pM b
          have hrs : ∃ z n c, r = .slice z n c := by
            obtain ⟨a, c, rfl⟩ := g1.slen
            exact ⟨_, _, _, rfl⟩
          obtain ⟨z, n, c, rfl⟩ := hrs
          simp [thenD_pp, sliceCells_sl, sliceCells_z, sliceCells_nil, take_full, appS_sl, appK_ok, appS_none, thenD_ag, agP_nil, agP_cons, gb]
        | true =>
          rw [h9, if_pos rfl] at g1
          have hnl : (ndsF W m.2.1).length = m.2.1.length := ndsF_len _ _
          obtain ⟨aN, cN, rfl⟩ := g1.slen
          have hget : ∀ bs ∈ ndsF W m.2.1, ∃ c ∈ m.2.1, bs = ndB (Int.toNat (W : Int)) c := fun bs hb => by
            obtain ⟨c, hc, rfl⟩ := List.mem_map.1 hb
            exact ⟨c, hc, rfl⟩
          have hndb : ∀ c ∈ m.2.1, blocksB k W (ndB (Int.toNat (W : Int)) c) = true := fun c hc => by
            have := List.all_eq_true.1 h9 c hc
            unfold ndOk at this
            simp only [Bool.and_eq_true] at this
            exact this.2.2.1
          have hon : ∀ i, i < m.2.1.length → onAll k (ndsF W m.2.1) i = List.all (ndB (Int.toNat (W : Int)) (m.2.1.getD i [])) fun b => onP k (i + 1) (Int.toNat b.2.1) := fun i hi => by
            rw [onAll_get (by rw [hnl]; exact hi), ndsF_get _ _ hi, List.getD_eq_getElem?_getD, List.getElem?_eq_getElem hi]
            rfl
          have hP : (outO k W 1 m.2.1 st).isSome = true ↔ (∀ i, i < m.2.1.length → onAll k (ndsF W m.2.1) i = true) ∧ ∀ j, j < 256 → decide (cntI j (st ++ (ndsF W m.2.1).flatten) ≤ 1) = true := by
            constructor
            · intro h
              obtain ⟨a, ho⟩ := Option.isSome_iff_exists.1 h
              obtain ⟨⟨q1, q2⟩, q3, q4, q5⟩ := out_good m.2.1 1 st a ho hlt hid
              refine ⟨fun i hi => ?_, fun j hj => decide_eq_true ?_⟩
              · rw [onAll_get (by rw [hnl]; exact hi), ndsF_get _ _ hi, List.all_eq_true]
                intro b hb
                rw [Nat.add_comm]
                exact q2 i hi b hb
              · rw [cntI_fl, ← q5 j]
                exact cnt_lt q3 q4 j
            · rintro ⟨h1, h2⟩
              obtain ⟨a, ho⟩ := out_bad m.2.1 1 st hlt hid h9 (fun i hi b hb => by
                have := h1 i hi
                rw [onAll_get (by rw [hnl]; exact hi), ndsF_get _ _ hi, List.all_eq_true] at this
                rw [Nat.add_comm]
                exact this b hb) (fun j hj => of_decide_eq_true (h2 j hj))
              rw [ho]
              rfl
          have hcz0 : cntV [] = zc (.int .i64 0) 256 := rfl
          have hb6 : rd1 X1 M.length 6 = some (.slice aS st.length cS) := by simp [rd1, hbx]
          have hb0 : rd1 X1 M.length 0 = some (.int .i64 (k : Int)) := by simp [rd1, hbx]
          obtain ⟨_, X2, hX2, s0⟩ := l_spec_OramOk_0 X1 M.length X1.length (.slice aN (ndsF W m.2.1).length cN) st aS cS (hS.mono pM) hb6 (Nat.le_refl _) hid hz.1 (X1 ++ [⟨zc (.int .i64 0) 256, 1, 2⟩]) ⟨List.prefix_append _ _, by rw [hcz0]; exact List.getElem?_concat_length⟩
          simp only [Int.natCast_zero, Int.ofNat_zero] at s0
          have hb62 := r1_pre hX2.1 hb6
          have k1 := l_spec_OramOk_1 X1 M.length X1.length k aN cN (ndsF W m.2.1) g1 hb0 (Nat.le_refl _) hk (by rw [hnl]; omega) (fun bs hb => by
            obtain ⟨c, hc, rfl⟩ := hget bs hb
            exact leafs_of (hndb c hc)) (fun bs hb => by
            obtain ⟨c, hc, rfl⟩ := hget bs hb
            exact ndB_len _ _) st (by omega) X2 hX2
          simp only [FtI, Int.natCast_zero, Int.ofNat_zero] at k1
          rcases k1 with ⟨_, X3, hX3, a1, s1⟩ | ⟨⟨i, hi, hf⟩, fr, X', s1, q2, q3⟩
          · have k2 := l_spec_OramOk_3 X1 X1.length (st ++ (ndsF W m.2.1).flatten) X3 hX3
            simp only [Int.natCast_zero, Int.ofNat_zero] at k2
            rcases k2 with ⟨_, rfl, a2, s2⟩ | ⟨⟨i, hi, hf⟩, fr, X', s2, q2, q3⟩
            · rw [hP.2 ⟨fun i hi => a1 i (by rw [hnl]; exact hi), a2⟩]
              have gb := fun b => gc_boolp (pM.trans hX3.1) b
              simp [thenD_pp, sliceCells_sl, sliceCells_z, sliceCells_nil, take_full, appS_sl, appK_ok, appS_none, thenD_ag, agP_nil, agP_cons, zeroCells, s0]
              rw [S_spec_OramOk_0]; unfold B_spec_OramOk_0; simp [thenD_pp, sliceCells_sl, sliceCells_z, sliceCells_nil, take_full, appS_sl, appK_ok, appS_none, thenD_ag, agP_nil, agP_cons, hb62, s1]
              rw [S_spec_OramOk_1]; unfold B_spec_OramOk_1; simp [thenD_pp, sliceCells_sl, sliceCells_z, sliceCells_nil, take_full, appS_sl, appK_ok, appS_none, thenD_ag, agP_nil, agP_cons, s2]
              rw [S_spec_OramOk_3]; unfold B_spec_OramOk_3; simp [thenD_pp, sliceCells_sl, sliceCells_z, sliceCells_nil, take_full, appS_sl, appK_ok, appS_none, thenD_ag, agP_nil, agP_cons, gb]
            · have ho : (outO k W 1 m.2.1 st).isSome = false := by
                cases h : (outO k W 1 m.2.1 st).isSome with
                | false => rfl
                | true =>
                  have := (hP.1 h).2 i hi
                  rw [hf] at this
                  cases this
              rw [ho]
              have gb := fun b => gc_boolp (pM.trans q3) b
              simp [thenD_pp, sliceCells_sl, sliceCells_z, sliceCells_nil, take_full, appS_sl, appK_ok, appS_none, thenD_ag, agP_nil, agP_cons, zeroCells, s0]
              rw [S_spec_OramOk_0]; unfold B_spec_OramOk_0; simp [thenD_pp, sliceCells_sl, sliceCells_z, sliceCells_nil, take_full, appS_sl, appK_ok, appS_none, thenD_ag, agP_nil, agP_cons, hb62, s1]
              rw [S_spec_OramOk_1]; unfold B_spec_OramOk_1; simp [thenD_pp, sliceCells_sl, sliceCells_z, sliceCells_nil, take_full, appS_sl, appK_ok, appS_none, thenD_ag, agP_nil, agP_cons, s2, q2, gb]
          · have ho : (outO k W 1 m.2.1 st).isSome = false := by
              cases h : (outO k W 1 m.2.1 st).isSome with
              | false => rfl
              | true =>
                have := (hP.1 h).1 i (by rw [← hnl]; exact hi)
                rw [hf] at this
                cases this
            rw [ho]
            have gb := fun b => gc_boolp (pM.trans q3) b
            simp [thenD_pp, sliceCells_sl, sliceCells_z, sliceCells_nil, take_full, appS_sl, appK_ok, appS_none, thenD_ag, agP_nil, agP_cons, zeroCells, s0]
            rw [S_spec_OramOk_0]; unfold B_spec_OramOk_0; simp [thenD_pp, sliceCells_sl, sliceCells_z, sliceCells_nil, take_full, appS_sl, appK_ok, appS_none, thenD_ag, agP_nil, agP_cons, hb62, s1, q2, gb]
    · have h6' : ¬ (m.1 : Int) = ((4 * (W + 3) : Nat) : Int) := fun e => h6 (e.trans (show ((4 * (W + 3) : Nat) : Int) = 4 * ((W : Int) + 3) by omega))
      generalize hq : 4 * (W + 3) = Q at *
      rw [frO_f (by unfold frO; rw [decide_eq_false h6]; simp)]
      rw [aCall_eq T_spec_OramOk]; unfold A_spec_OramOk C_spec_OramOk; simp [thenD_pp, sliceCells_sl, sliceCells_z, sliceCells_nil, take_full, appS_sl, appK_ok, appS_none, thenD_ag, agP_nil, agP_cons, e1, h3, h3', h7, e5, e6, e7, h6', gb]
  · have h5' : ¬ (m.2.1.length : Int) = (N : Int) := by omega
    rw [frO_f (by unfold frO; rw [hk0, ← hN, decide_eq_false h5]; simp)]
    rw [aCall_eq T_spec_OramOk]; unfold A_spec_OramOk C_spec_OramOk; simp [thenD_pp, sliceCells_sl, sliceCells_z, sliceCells_nil, take_full, appS_sl, appK_ok, appS_none, thenD_ag, agP_nil, agP_cons, e1, h3, h3', h7, e5, e6, h5', gb]
theorem c_spec_OramOk (M : Mem) (cs : List V) (x : ty_Oram.D) (h : Rep ty_Oram M cs x) (hz : BlkSz x.2.2.2.2) (hc : x.2.2.2.1.2.1.length ≤ 1048576) (hsz : ∀ c ∈ x.2.2.2.1.2.1, List.length (α := UInt8) c ≤ 1048576) : aCall T0 F_spec_OramOk [.agg cs.toArray] M = some (.bool (orO x).isSome, M) := by
  obtain ⟨aC, cC, aT, cT, aS, cS, rfl, hM, hS⟩ := oram_shape h
  obtain ⟨_, _, e, _, hC, _⟩ := rep_g_Mem hM
  cases e
  exact c_spec_oramOk M x.1 x.2.1 x.2.2.1 x.2.2.2.1 x.2.2.2.2 aC cC aT cT aS cS hM hC hS hz hc hsz
set_option maxHeartbeats 1000000 in
theorem l_spec_l13Copy_0 (M : Mem) (a : Option Addr) (c : Nat) (xs : List ty_Block.D) (h : Rep (.sl ty_Block) M [.slice a xs.length c] xs) (hz : BlkSz xs) (v : V) (Z : Mem) (hZ : CbI M v [] Z) :
    ∃ v' X', CbI M v' xs X' ∧ lp (aCall T0) K_spec_l13Copy_0 L_spec_l13Copy_0 [.slice a xs.length c, und, und, v, .int .i64 (0 : Nat), und, und, und, und, und, und, und, und, und, und, und, und, und, und, und, und, und, und, und, und, und, und, und, und, und, und, und, und, und] Z = lp (aCall T0) K_spec_l13Copy_0 L_spec_l13Copy_0 [.slice a xs.length c, und, und, v', .int .i64 xs.length, und, und, und, und, und, und, und, und, und, und, und, und, und, und, und, und, und, und, und, und, und, und, und, und, und, und, und, und, und] X' := by
  have key := loop_to (call := aCall T0) (K := K_spec_l13Copy_0) (L := L_spec_l13Copy_0) (fun i v X => CbI M v (xs.take i) X) (fun i v => [.slice a xs.length c, und, und, v, .int .i64 i, und, und, und, und, und, und, und, und, und, und, und, und, und, und, und, und, und, und, und, und, und, und, und, und, und, und, und, und, und]) (n := xs.length) ?_ 0 v Z (by omega) (by simpa using hZ)
  · rw [List.take_length] at key
    exact key
  intro i v X hi ⟨L, pX, g0, nd, ge0⟩
  obtain ⟨l, o, u, rfl, q1, q2, q3, q4, w0, w1, qu, _⟩ := at_Block (h.mono pX) hi
  rw [List.take_succ_eq_append_getElem hi]
  have hlen : (xs.take i).length = i := by rw [List.length_take]; omega
  have hzi := hz.2 _ (List.getElem_mem hi)
  have hn := hz.1
  generalize xs.take i = ys at g0 hlen ⊢
  generalize xs[i] = b at q1 q2 q3 q4 w0 w1 qu hzi ⊢
  obtain ⟨b1, b2, b3⟩ := b
  simp only at q1 q2 q3 q4 w0 w1 qu hzi ⊢
  obtain ⟨⟨a2, c2, rfl⟩, hc, _⟩ := rep_cellsF fl_Byte (qu.mono (List.prefix_append X [(⟨[], 1, 2⟩ : Blk)]))
  have hc : sliceCells (X ++ [(⟨[], 1, 2⟩ : Blk)]) 1 (.slice a2 (List.length (α := UInt8) b3) c2) = some (List.length (α := UInt8) b3, (List.map enc_Byte b3).flatten) := hc
  have e6 : IntKind.i64.wrap ((i : Int) + 1) = i + 1 := wrap_i64 (by omega) (by omega)
  have hll : l < M.length := by obtain ⟨blk, hbk, _⟩ := rep_blk h; exact get_lt hbk
  have hpl := pX.length_le
  have q3' := fun N : Mem => rd1_old (N := N) q3
  obtain ⟨av, rfl⟩ := g0.shape
  have hh1 : ∀ ys : List Nat, (∀ y ∈ ys, y = l) → hits [X.length] ys = false := fun ys hy => hits_ge (K := M.length) (by simp; omega) (fun y h => by rw [hy y h]; exact hll)
  have hwL : ∀ b ∈ wfs (.slice av ys.length ys.length), M.length ≤ b := by
    obtain ⟨_, _, hw⟩ := g0.gr (K := 0) (by simp)
    exact fun b hb => ge0 b (hw b hb)
  have hh2 : ∀ zs : List Nat, (∀ y ∈ zs, y = l) → hits (wfs (.slice av ys.length ys.length)) zs = false := fun zs hy => hits_ge (K := M.length) hwL (fun y h => by rw [hy y h]; exact hll)
  have s1 := hh1 [l] (by simp)
  have s2 := hh1 [l, l] (by simp)
  have s3 := hh1 [l, l, l] (by simp)
  have t1 := hh2 [l] (by simp)
  have t2 := hh2 [l, l] (by simp)
  have t3 := hh2 [l, l, l] (by simp)
  rw [S_spec_l13Copy_0]; unfold B_spec_l13Copy_0; simp [thenD_pp, sliceCells_sl, sliceCells_z, sliceCells_nil, take_full, appS_sl, appK_ok, appS_none, thenD_ag, agP_nil, agP_cons, hi, q1, q2, q3, q3', hc, zeroCells]
  generalize hy : appS _ _ _ _ _ _ = xhy
  obtain ⟨l2, X3, rfl, hl2, gb, ag⟩ := cp_all (t := .u8) (xs := b3) fl_Byte hy (by simp [Ty.w]) (by simp) (by omega) (by omega)
  clear hy
  have p3 : X <+: X3 := ag.pre (List.prefix_append _ _) (by simp)
  simp [thenD_pp, sliceCells_sl, sliceCells_z, sliceCells_nil, take_full, appS_sl, appK_ok, appS_none, thenD_ag, agP_nil, agP_cons, thenD_agree, ag, s1, s2, s3, zeroCells]
  generalize hy : appS _ _ _ _ _ _ = xhy
  have hcg : Gr ty_Block (X3 ++ [(⟨[.int .i64 b1, .int .i64 b2, .slice (some ⟨l2, 0, none⟩) (List.length (α := UInt8) b3) (List.length (α := UInt8) b3)], 3, 2⟩ : Blk)]) [.int .i64 b1, .int .i64 b2, .slice (some ⟨l2, 0, none⟩) (List.length (α := UInt8) b3) (List.length (α := UInt8) b3)] (b1, b2, b3) [l2] := gr_Block (x := (b1, b2, b3)) w0 w1 (gb.grow (List.prefix_append _ _))
  obtain ⟨l4, X4, L', rfl, g4, ag2, len2, hw4, nd4, sub4, hl4⟩ := g0.app (t := ty_Block) hy (p3.trans (List.prefix_append _ _)) hcg (by simpa using hl2) nd (by simp) (by rw [hlen]; omega) (by rw [hlen]; omega)
  clear hy
  have pX4 : M <+: X4 := ag2.pre (pf_app (pX.trans p3)) hwL
  simp [thenD_pp, sliceCells_sl, sliceCells_z, sliceCells_nil, take_full, appS_sl, appK_ok, appS_none, thenD_ag, agP_nil, agP_cons, e6, thenD_agree, ag2, t1, t2, t3]
  refine ⟨_, _, ⟨L', pX4, g4, nd4, fun j hj => ?_⟩, rfl⟩
  have hx3 := p3.length_le
  rcases sub4 j hj with h | h | h
  · exact ge0 j h
  · simp at h; omega
  · simp at hl4; omega
theorem c_spec_l13Copy (M : Mem) (v : V) (xs : List ty_Block.D) (h : Rep (.sl ty_Block) M [v] xs) (hz : BlkSz xs) : Sat (aCall T0 F_spec_l13Copy [v] M) (GrV ty_Block M xs) := by
  obtain ⟨a, c, rfl⟩ := h.slen
  obtain ⟨v', X', ⟨L, p1, g1, n1, k1⟩, e⟩ := l_spec_l13Copy_0 M a c xs h hz (.slice (some ⟨M.length, 0, none⟩) 0 0) (M ++ [⟨[], 3, 2⟩]) ⟨[M.length], List.prefix_append _ _, gr0 (t := ty_Block) (by simp [Ty.w]), by simp, by simp⟩
  simp only [Int.natCast_zero, Int.ofNat_zero] at e
  rw [aCall_eq T_spec_l13Copy]; unfold A_spec_l13Copy C_spec_l13Copy; simp [thenD_pp, sliceCells_sl, sliceCells_z, sliceCells_nil, take_full, appS_sl, appK_ok, appS_none, thenD_ag, agP_nil, agP_cons, zeroCells, e]
  obtain ⟨av, rfl⟩ := g1.shape
  rw [S_spec_l13Copy_0]; unfold B_spec_l13Copy_0; simp [thenD_pp, sliceCells_sl, sliceCells_z, sliceCells_nil, take_full, appS_sl, appK_ok, appS_none, thenD_ag, agP_nil, agP_cons]
  exact ⟨(_, X'), rfl, L, p1, g1, n1, k1⟩
theorem rep_zs {K : Nat} {X : Mem} {v : V} {zs : List (List V × ty_Block.D)} (h : Grow K 3 X v zs.length (Zl zs)) (hz : ∀ z ∈ zs, Rep ty_Block X z.1 z.2) : Rep (.sl ty_Block) X [v] (zs.map (·.2)) := by
  rcases h.2 with ⟨rfl, h0⟩ | ⟨l, _, rfl, hb⟩
  · have : zs = [] := List.length_eq_zero_iff.1 h0
    subst this
    exact .inl ⟨rfl, rfl⟩
  · refine .inr ⟨l, 0, zs.length, _, zs.map (·.1), by rw [List.length_map], hb, .inr (.inl rfl), rfl, by simp, ?_, ?_⟩
    · intro i ds x hd hx
      rw [List.getElem?_map] at hd hx
      obtain ⟨z, hz1, rfl⟩ := Option.map_eq_some_iff.1 hd
      obtain ⟨z', hz2, rfl⟩ := Option.map_eq_some_iff.1 hx
      rw [hz1] at hz2
      cases hz2
      exact hz z (List.mem_of_getElem? hz1)
    · rw [List.drop_zero]
      exact List.prefix_refl _
def SoI (M : Mem) (ys : List ty_Block.D) (v : V) (X : Mem) : Prop := M <+: X ∧ ∃ zs : List (List V × ty_Block.D), zs.map (·.2) = ys ∧ (∀ z ∈ zs, Rep ty_Block M z.1 z.2) ∧ Grow M.length 3 X v zs.length (Zl zs)
theorem flI_take (k : Nat) (xs : List ty_Block.D) {i : Nat} (hi : i < xs.length) : flI k (xs.take (i + 1)) = flI k (xs.take i) ++ (if Int.toNat xs[i].1 = k then [xs[i]] else []) := by
  rw [List.take_succ_eq_append_getElem hi, flI_app, flI_one]
theorem Zl_app (zs zs' : List (List V × ty_Block.D)) : Zl (zs ++ zs') = Zl zs ++ Zl zs' := by simp [Zl]
set_option maxHeartbeats 1000000 in
theorem l_spec_l14Sorted_1 (M : Mem) (a : Option Addr) (c : Nat) (xs : List ty_Block.D) (h : Rep (.sl ty_Block) M [.slice a xs.length c] xs) (hr : IdsR xs) (hn : xs.length ≤ 100000) (k : Nat) (hk : k < 256) (ys : List ty_Block.D) (hy : ys.length ≤ 100000000) (v : V) (X : Mem) (hX : SoI M ys v X) :
    ∃ v' X', SoI M (ys ++ flI k xs) v' X' ∧ lp (aCall T0) K_spec_l14Sorted_1 L_spec_l14Sorted_1 [.slice a xs.length c, und, und, v, .int .i64 k, .int .i64 (0 : Nat), und, und, und, und, und, und, und, und, und, und, und, und, und, und, und, und, und, und, und, und, und, und, und, und, und, und, und] X = lp (aCall T0) K_spec_l14Sorted_1 L_spec_l14Sorted_1 [.slice a xs.length c, und, und, v', .int .i64 k, .int .i64 xs.length, und, und, und, und, und, und, und, und, und, und, und, und, und, und, und, und, und, und, und, und, und, und, und, und, und, und, und] X' := by
  have key := loop_to (call := aCall T0) (K := K_spec_l14Sorted_1) (L := L_spec_l14Sorted_1) (fun i v X => SoI M (ys ++ flI k (xs.take i)) v X) (fun i v => [.slice a xs.length c, und, und, v, .int .i64 k, .int .i64 i, und, und, und, und, und, und, und, und, und, und, und, und, und, und, und, und, und, und, und, und, und, und, und, und, und, und, und]) (n := xs.length) ?_ 0 v X (by omega) (by simpa [flI] using hX)
  · rw [List.take_length] at key
    exact key
  intro i v X hi ⟨pX, zs, hzs, hz, hg⟩
  have e6 : IntKind.i64.wrap ((i : Int) + 1) = i + 1 := wrap_i64 (by omega) (by omega)
  obtain ⟨l, o, u, rfl, hr0, _, _, hrn, _, _, hub, hrep⟩ := at_Block (h.mono pX) hi
  obtain ⟨_, l', o', e, cs', hrd', hrepM⟩ := rep_at h hi
  cases e
  have hrd2 := rn_pre pX hrd'
  have hw : ty_Block.w = 3 := rfl
  rw [hw] at hrd2
  rw [hrn] at hrd2
  have hcs := (Option.some.inj hrd2).symm
  subst hcs
  obtain ⟨ub, uc, rfl⟩ := hub.slen
  rw [flI_take k xs hi, ← List.append_assoc]
  have hid := ids_nat hr _ (List.getElem_mem hi)
  have hfl : (flI k (xs.take i)).length ≤ i := by
    have h1 : (flI k (xs.take i)).length ≤ (xs.take i).length := List.length_filter_le _ _
    rw [List.length_take] at h1
    omega
  have hzl : zs.length = ys.length + (flI k (xs.take i)).length := by rw [← List.length_map (f := Prod.snd), ← List.length_append]; exact congrArg List.length hzs
  generalize flI k (xs.take i) = fl at *
  have hone := hrepM.one
  generalize hxi : xs[i] = b at *
  obtain ⟨b1, b2, b3⟩ := b
  simp only at hr0 hrn hid hub hone hrepM
  rw [hid.1] at hr0 hrn hone hrepM
  have hlt := hid.2
  by_cases hq : Int.toNat b1 = k
  · rw [if_pos hq]
    subst hq
    generalize hdl : List.length (α := UInt8) b3 = dl at *
    generalize hq : Int.toNat b1 = q at *
    rw [S_spec_l14Sorted_1]; unfold B_spec_l14Sorted_1; simp [thenD_pp, sliceCells_sl, sliceCells_z, sliceCells_nil, take_full, appS_sl, appK_ok, appS_none, thenD_ag, agP_nil, agP_cons, hi, hr0, hrn, hone, zeroCells]
    generalize hy : appS _ _ _ _ _ _ = xhy
    obtain ⟨a2, X3, rfl, g3, ag, hl3, hw3⟩ := grow_app hg hy (List.prefix_append _ _) pX.length_le (by simp) (List.all_eq_true.2 fun x hx => List.all_eq_true.1 hone x hx) (by omega) (by omega)
    clear hy
    simp [thenD_pp, sliceCells_sl, sliceCells_z, sliceCells_nil, take_full, appS_sl, appK_ok, appS_none, thenD_ag, agP_nil, agP_cons, e6]
    refine ⟨_, X3, ⟨ag.pre (pX.trans (List.prefix_append _ _)) hg.ge, zs ++ [([.int .i64 (q : Int), .int .i64 b2, .slice ub dl uc], (b1, b2, b3))], by rw [List.map_append, hzs, List.append_assoc]; rfl, fun z hm => ?_, ?_⟩, rfl⟩
    · rcases List.mem_append.1 hm with hm | hm
      · exact hz z hm
      · rw [List.mem_singleton.1 hm]
        show Rep ty_Block M _ (b1, b2, b3)
        rw [hid.1]
        exact hrepM
    · rw [List.length_append, Zl_app]
      exact g3
  · rw [if_neg hq, List.append_nil]
    generalize hdl : List.length (α := UInt8) b3 = dl at *
    generalize Int.toNat b1 = q at *
    have hq2 : ¬ (q : Int) = (k : Int) := by omega
    rw [S_spec_l14Sorted_1]; unfold B_spec_l14Sorted_1; simp [thenD_pp, sliceCells_sl, sliceCells_z, sliceCells_nil, take_full, appS_sl, appK_ok, appS_none, thenD_ag, agP_nil, agP_cons, hi, hr0, hrn, hq2, hq, e6]
    exact ⟨v, X, ⟨pX, zs, hzs, hz, hg⟩, rfl⟩
def srtL (n : Nat) (xs : List ty_Block.D) : List ty_Block.D := (List.range n).flatMap fun k => flI k xs
theorem srtL_succ (n : Nat) (xs : List ty_Block.D) : srtL (n + 1) xs = srtL n xs ++ flI n xs := by
  unfold srtL
  rw [List.range_succ, List.flatMap_append]
  simp
theorem srtL_len (xs : List ty_Block.D) : ∀ n, (srtL n xs).length ≤ n * xs.length
  | 0 => by simp [srtL]
  | n + 1 => by
    have h1 : (flI n xs).length ≤ xs.length := List.length_filter_le _ _
    have h2 := srtL_len xs n
    rw [srtL_succ, List.length_append, Nat.succ_mul]
    omega
set_option maxHeartbeats 1000000 in
theorem c_spec_l14Sorted (M : Mem) (v : V) (xs : List ty_Block.D) (h : Rep (.sl ty_Block) M [v] xs) (hr : IdsR xs) (hn : xs.length ≤ 4000) (hz : BlkSz xs) : Sat (aCall T0 F_spec_l14Sorted [v] M) (GrV ty_Block M (srtL 256 xs)) := by
  obtain ⟨a, c, rfl⟩ := h.slen
  have key := loop_to (call := aCall T0) (K := K_spec_l14Sorted_0) (L := L_spec_l14Sorted_0) (fun i v X => SoI M (srtL i xs) v X) (fun i v => [.slice a xs.length c, und, und, v, .int .i64 i, und, und, und, und, und, und, und, und, und, und, und, und, und, und, und, und, und, und, und, und, und, und, und, und, und, und, und, und]) (n := 256) ?_ 0 (.slice (some ⟨M.length, 0, none⟩) 0 0) (M ++ [⟨[], 3, 2⟩]) (by omega) ⟨List.prefix_append _ _, [], rfl, by simp, Grow.new (Nat.le_refl _) rfl⟩
  · obtain ⟨v', X', ⟨pX, zs, hzs, hzr, hg⟩, e⟩ := key
    simp only [Int.natCast_zero, Int.ofNat_zero] at e
    have hrep := rep_zs hg (fun z hm => (hzr z hm).mono pX)
    rw [hzs] at hrep
    have hlen := srtL_len xs 256
    have hC := c_spec_l13Copy X' v' _ hrep ⟨by omega, fun x hx => by
      obtain ⟨k, _, hk⟩ := List.mem_flatMap.1 hx
      exact hz.2 x (List.mem_filter.1 hk).1⟩
    rw [aCall_eq T_spec_l14Sorted]; unfold A_spec_l14Sorted C_spec_l14Sorted; simp [thenD_pp, sliceCells_sl, sliceCells_z, sliceCells_nil, take_full, appS_sl, appK_ok, appS_none, thenD_ag, agP_nil, agP_cons, zeroCells, e]
    rw [S_spec_l14Sorted_0]; unfold B_spec_l14Sorted_0; simp [thenD_pp, sliceCells_sl, sliceCells_z, sliceCells_nil, take_full, appS_sl, appK_ok, appS_none, thenD_ag, agP_nil, agP_cons]
    generalize hx : aCall T0 F_spec_l13Copy _ _ = xhx
    obtain ⟨v3, X3, rfl, L3, p3, g3, n3, k3⟩ := of_call hx hC
    clear hx
    simp only at p3 g3
    obtain ⟨a3, rfl⟩ := g3.shape
    simp [thenD_pp, sliceCells_sl, sliceCells_z, sliceCells_nil, take_full, appS_sl, appK_ok, appS_none, thenD_ag, agP_nil, agP_cons]
    exact ⟨(_, X3), rfl, L3, pX.trans p3, g3, n3, fun j hj => Nat.le_trans pX.length_le (k3 j hj)⟩
  · intro i v X hi hX
    have hlen := srtL_len xs i
    have hle : i * xs.length ≤ 256 * 4000 := Nat.mul_le_mul (by omega) hn
    obtain ⟨v', X', hX', e⟩ := l_spec_l14Sorted_1 M a c xs h hr (by omega) i hi (srtL i xs) (by omega) v X hX
    simp only [Int.natCast_zero, Int.ofNat_zero] at e
    have e6 : IntKind.i64.wrap ((i : Int) + 1) = i + 1 := wrap_i64 (by omega) (by omega)
    have hi2 : (i : Int) ≤ 255 := by omega
    rw [srtL_succ]
    refine ⟨v', X', hX', ?_⟩
    rw [S_spec_l14Sorted_0]; unfold B_spec_l14Sorted_0; simp [thenD_pp, sliceCells_sl, sliceCells_z, sliceCells_nil, take_full, appS_sl, appK_ok, appS_none, thenD_ag, agP_nil, agP_cons, hi2, e]
    rw [S_spec_l14Sorted_1]; unfold B_spec_l14Sorted_1; simp [thenD_pp, sliceCells_sl, sliceCells_z, sliceCells_nil, take_full, appS_sl, appK_ok, appS_none, thenD_ag, agP_nil, agP_cons, e6]
    try rfl
theorem nodup_sub {a : Nat} {Ls : List (List Nat)} {k : Nat} {K : List Nat} (hn : (a :: Ls.flatten).Nodup) (hK : Ls[k]? = some K) : a ∉ K := fun hm => (List.nodup_cons.1 hn).1 (List.mem_flatten.2 ⟨K, List.mem_of_getElem? hK, hm⟩)
theorem zl_gr {M : Mem} {v : V} {xs : List ty_Block.D} {L : List Nat} (h : Gr (.sl ty_Block) M [v] xs L) (hn : L.Nodup) : ∃ zs : List (List V × ty_Block.D), zs.map (·.2) = xs ∧ (∀ z ∈ zs, ∃ K, Gr ty_Block M z.1 z.2 K ∧ ∀ j ∈ K, j ∈ L ∧ j ∉ wfs v) ∧ Grow 0 3 M v zs.length (Zl zs) ∧ ∀ j ∈ wfs v, j ∈ L := by
  rcases h with ⟨e, rfl, _⟩ | ⟨l, css, Ls, e, hb, h1, h2, h3, rfl⟩
  · cases e
    exact ⟨[], rfl, by simp, ⟨rfl, .inl ⟨rfl, rfl⟩⟩, by simp [wfs]⟩
  · cases e
    have hzl : (css.zip xs).length = xs.length := by rw [List.length_zip]; omega
    have hm : ((css.zip xs).map (·.1)) = css := List.map_fst_zip (by omega)
    have hcl : ∀ c ∈ css, c.length = 3 := fun c hc => by
      obtain ⟨k, hk, rfl⟩ := List.getElem_of_mem hc
      exact (h3 k _ (xs[k]'(by omega)) (Ls[k]'(by omega)) (by simp) (by simp) (by simp)).len
    refine ⟨css.zip xs, List.map_snd_zip (by omega), ?_, ⟨by unfold Zl; rw [hm, flat_len hcl, hzl, h1], .inr ⟨l, Nat.zero_le _, by rw [hzl], by unfold Zl; rw [hm]; exact hb⟩⟩, by simp [wfs]⟩
    intro z hz
    obtain ⟨i, hi, rfl⟩ := List.getElem_of_mem hz
    rw [List.length_zip] at hi
    rw [List.getElem_zip]
    have hK : Ls[i]? = some (Ls[i]'(by omega)) := List.getElem?_eq_getElem (by omega)
    refine ⟨_, h3 i _ _ _ (List.getElem?_eq_getElem (by omega)) (List.getElem?_eq_getElem (by omega)) hK, fun j hj => ⟨List.mem_cons_of_mem _ (List.mem_flatten.2 ⟨_, List.mem_of_getElem? hK, hj⟩), fun hw => ?_⟩⟩
    have : j = l := by simpa [wfs] using hw
    subst this
    exact nodup_sub hn hK hj
theorem node_at {M : Mem} {v : V} {xs : List ty_Node.D} {L : List Nat} (h : Gr (.sl ty_Node) M [v] xs L) (hn : L.Nodup) {i : Nat} (hi : i < xs.length) : ∃ (l : Nat) (u : V) (K : List Nat), v = .slice (some ⟨l, 0, none⟩) xs.length xs.length ∧ rd1 M l i = some u ∧ Gr (.sl ty_Block) M [u] xs[i] K ∧ K.Nodup ∧ l ∈ L ∧ ∀ j ∈ K, j ∈ L := by
  rcases h with ⟨_, rfl, _⟩ | ⟨l, css, Ls, e, hb, h1, h2, h3, rfl⟩
  · simp at hi
  · cases e
    have hq := h3 i (css[i]'(by omega)) xs[i] (Ls[i]'(by omega)) (by simp) (by simp) (by simp)
    have hcl : ∀ c ∈ css, c.length = 1 := fun c hc => by
      obtain ⟨k, hk, rfl⟩ := List.getElem_of_mem hc
      exact (h3 k _ (xs[k]'(by omega)) (Ls[k]'(by omega)) (by simp) (by simp) (by simp)).len
    have hfl := flat_len hcl
    have hrd : rdn M l (i * 1) 1 = some (css[i]'(by omega)) := by
      have := flat_atr (w := 1) css i (by omega) [] hcl
      rw [List.append_nil] at this
      simp only [rdn, hb]
      rw [if_pos (by refine ⟨by simp, by omega⟩), this]
    have hnK : (Ls[i]'(by omega)).Nodup := (List.pairwise_flatten.1 (List.nodup_cons.1 hn).2).1 _ (List.getElem_mem _)
    have hl := hq.len
    rw [Nat.mul_one] at hrd
    have hsub : ∀ j ∈ Ls[i]'(by omega), j ∈ l :: Ls.flatten := fun j hj => List.mem_cons_of_mem _ (List.mem_flatten.2 ⟨_, List.getElem_mem _, hj⟩)
    generalize css[i]'(by omega) = ds at *
    generalize Ls[i]'(by omega) = K at *
    match ds, hl, hrd, hq with
    | [u], _, hrd, hq => exact ⟨l, u, K, rfl, rd1_of_one hrd, hq, hnK, List.mem_cons_self .., hsub⟩
/-- A list that grows, of blocks that stay. -/
structure AlI (M Z : Mem) (D : List Nat) (ys : List ty_Block.D) (v : V) (X : Mem) : Prop where
  pre : M <+: X
  ag : Agree Z X D
  wf : ∀ b ∈ wfs v, b ∈ D ∨ Z.length ≤ b
  ge : ∀ b ∈ wfs v, M.length ≤ b
  zs : ∃ zs : List (List V × ty_Block.D), zs.map (·.2) = ys ∧ (∀ z ∈ zs, ∃ K, Gr ty_Block Z z.1 z.2 K ∧ ∀ j ∈ K, j ∉ D) ∧ Grow 0 3 X v zs.length (Zl zs)
theorem Zl_all {M : Mem} {zs : List (List V × ty_Block.D)} (h : ∀ z ∈ zs, Rep ty_Block M z.1 z.2) : (Zl zs).all one = true := by
  rw [List.all_eq_true]
  intro x hx
  obtain ⟨c, hc, hx⟩ := List.mem_flatten.1 hx
  obtain ⟨z, hz, rfl⟩ := List.mem_map.1 hc
  exact List.all_eq_true.1 (h z hz).one x hx
set_option maxHeartbeats 2000000 in
theorem l_spec_OramBlocks_0 (M Z : Mem) (D : List Nat) (aN : Option Addr) (cN : Nat) (ns : List ty_Node.D) (LN : List Nat) (hN : Gr (.sl ty_Node) Z [.slice aN ns.length cN] ns LN) (nN : LN.Nodup) (hD : ∀ j ∈ LN, j ∉ D) (hMZ : M.length ≤ Z.length) (hnl : ∀ bs ∈ ns, List.length (α := ty_Block.D) bs ≤ 4) (hnn : ns.length ≤ 1000) (ys : List ty_Block.D) (hys : ys.length ≤ 1000) (v : V) (X : Mem) (h : AlI M Z D ys v X) :
    ∃ v' X', AlI M Z D (ys ++ ns.flatten) v' X' ∧ lp (aCall T0) K_spec_OramBlocks_0 L_spec_OramBlocks_0 [und, und, und, v, .slice aN ns.length cN, und, .int .i64 (0 : Nat), und, und, und, und, und, und, und, und, und, und, und, und, und, und, und, und, und, und, und, und, und, und, und, und, und, und] X = lp (aCall T0) K_spec_OramBlocks_0 L_spec_OramBlocks_0 [und, und, und, v', .slice aN ns.length cN, und, .int .i64 ns.length, und, und, und, und, und, und, und, und, und, und, und, und, und, und, und, und, und, und, und, und, und, und, und, und, und, und] X' := by
  have key := loop_to (call := aCall T0) (K := K_spec_OramBlocks_0) (L := L_spec_OramBlocks_0) (fun i v X => AlI M Z D (ys ++ (ns.take i).flatten) v X) (fun i v => [und, und, und, v, .slice aN ns.length cN, und, .int .i64 i, und, und, und, und, und, und, und, und, und, und, und, und, und, und, und, und, und, und, und, und, und, und, und, und, und, und]) (n := ns.length) ?_ 0 v X (by omega) (by simpa using h)
  · rw [List.take_length] at key
    exact key
  intro i v X hi hX
  have e6 : IntKind.i64.wrap ((i : Int) + 1) = i + 1 := wrap_i64 (by omega) (by omega)
  have hfl := flatten_len (ns := ns.take i) (k := 4) (fun x hx => hnl x (List.mem_of_mem_take hx))
  rw [List.length_take] at hfl
  have hbl := hnl _ (List.getElem_mem hi)
  obtain ⟨zs, hzs, hz, hg⟩ := hX.zs
  have hzl : zs.length = ys.length + ((ns.take i).flatten).length := by rw [← List.length_map (f := Prod.snd), ← List.length_append]; exact congrArg List.length hzs
  rw [flatten_take ns hi, ← List.append_assoc]
  obtain ⟨l, u, K, e, hrd, hgn, hnN, hlL, hK⟩ := node_at hN nN hi
  cases e
  have hrdZ := hrd
  obtain ⟨zs2, hzs2, hz2, hg2, hw2⟩ := zl_gr hgn hnN
  have hru : rd1 X l i = some u := by
    have hlt := hN.lt l hlL
    have e2 := hX.ag.2 l hlt (hD l hlL)
    unfold rd1 at hrd ⊢
    rw [e2]
    exact hrd
  have hgX : Grow 0 3 X u zs2.length (Zl zs2) := hg2.keep fun b hb => hX.ag.2 b (hg2.lt b hb) (hD b (hK b (hw2 b hb)))
  have hsc := hgX.cells
  have hl2 : zs2.length ≤ 4 := by rw [← List.length_map (f := Prod.snd), hzs2]; exact hbl
  have hall : (Zl zs2).all one = true := Zl_all (M := Z) fun z hm => by
    obtain ⟨K2, q, _⟩ := hz2 z hm
    exact q.rep
  obtain ⟨au, rfl⟩ := hgX.shape
  generalize (ns.take i).flatten = fl at *
  rw [S_spec_OramBlocks_0]; unfold B_spec_OramBlocks_0; simp [thenD_pp, sliceCells_sl, sliceCells_z, sliceCells_nil, take_full, appS_sl, appK_ok, appS_none, thenD_ag, agP_nil, agP_cons, hi, hru, hsc]
  generalize hy : appS _ _ _ _ _ _ = xhy
  obtain ⟨a2, X3, rfl, g3, ag, hl3, hw3⟩ := grow_app hg hy (List.prefix_refl _) (Nat.zero_le _) hgX.1 hall (by omega) (by omega)
  clear hy
  simp [thenD_pp, sliceCells_sl, sliceCells_z, sliceCells_nil, take_full, appS_sl, appK_ok, appS_none, thenD_ag, agP_nil, agP_cons, e6]
  have hagX : Agree Z X3 D := ⟨Nat.le_trans hX.ag.1 hl3, fun b hb hn => by
    rw [ag.2 b (by have := hX.ag.1; omega) (fun hm => by rcases hX.wf b hm with h | h; exact hn h; omega)]
    exact hX.ag.2 b hb hn⟩
  refine ⟨_, X3, ⟨ag.pre hX.pre hX.ge, hagX, fun b hb => ?_, fun b hb => ?_, zs ++ zs2, by rw [List.map_append, hzs, hzs2, List.append_assoc], fun z hm => ?_, ?_⟩, rfl⟩
  · rcases hw3 b hb with h | h
    · exact hX.wf b h
    · right; have := hX.ag.1; omega
  · rcases hw3 b hb with h | h
    · exact hX.ge b h
    · have := hX.pre.length_le; omega
  · rcases List.mem_append.1 hm with hm | hm
    · exact hz z hm
    · obtain ⟨K2, q1, q2⟩ := hz2 z hm
      exact ⟨K2, q1, fun j hj => hD j (hK j (q2 j hj).1)⟩
  · rw [List.length_append, Zl_app]
    exact g3
theorem srt_eq {a xs : List ty_Block.D} (h1 : IdLt a) (h2 : IdsR a) (h : ∀ k, flI k a = flI k xs) : srtL 256 xs = a := by
  have e : srtL 256 xs = srtL 256 a := by
    unfold srtL
    congr 1
    funext k
    rw [h k]
  rw [e]
  have key : ∀ (n k : Nat) (a : List ty_Block.D), IdLt a → (∀ x ∈ a, (k : Int) ≤ x.1 ∧ x.1 < ((k + n : Nat) : Int)) → (List.range' k n).flatMap (fun k => flI k a) = a := by
    intro n
    induction n with
    | zero =>
      intro k a _ h
      cases a with
      | nil => rfl
      | cons x xs =>
        have := h x (by simp)
        exfalso
        have h3 : (k : Int) < ((k + 0 : Nat) : Int) := Int.lt_of_le_of_lt this.1 this.2
        omega
    | succ n ih =>
      intro k a h1 h2
      rw [List.range'_succ, List.flatMap_cons]
      cases a with
      | nil => simp [flI]
      | cons x xs =>
        have hx := h2 x (by simp)
        have hp := List.pairwise_cons.1 h1
        have hnn : ∀ y ∈ x :: xs, y.1 = ((Int.toNat y.1 : Nat) : Int) ∧ k ≤ Int.toNat y.1 := fun y hy => by
          have hy := (h2 y hy).1
          generalize y.1 = z at *
          exact (show ∀ z : Int, (k : Int) ≤ z → z = ((Int.toNat z : Nat) : Int) ∧ k ≤ Int.toNat z from fun z hz => by omega) z hy
        by_cases hk : Int.toNat x.1 = k
        · have hxk := (hnn x (by simp)).1
          rw [hk] at hxk
          have hgt : ∀ y ∈ xs, k < Int.toNat y.1 := fun y hy => by
            have h3 := hp.1 y hy
            have h4 := hnn y (by simp [hy])
            rw [hxk, h4.1] at h3
            exact (show ∀ a b : Nat, (a : Int) < (b : Int) → a < b from fun a b h => by omega) _ _ h3
          have e1 : flI k (x :: xs) = [x] := by
            rw [show x :: xs = [x] ++ xs from rfl, flI_app, flI_one, if_pos hk]
            have : flI k xs = [] := by
              unfold flI
              rw [List.filter_eq_nil_iff]
              intro y hy hd
              have := hgt y hy
              have := of_decide_eq_true hd
              omega
            rw [this]
            rfl
          have e2 : (List.range' (k + 1) n).flatMap (fun j => flI j (x :: xs)) = (List.range' (k + 1) n).flatMap (fun j => flI j xs) := by
            rw [List.flatMap_def, List.flatMap_def]
            congr 1
            refine List.map_congr_left fun j hj => ?_
            have hj := (List.mem_range'_1.1 hj).1
            rw [show x :: xs = [x] ++ xs from rfl, flI_app, flI_one, if_neg (by omega)]
            rfl
          rw [e1, e2, ih (k + 1) xs hp.2 fun y hy => ?_]
          · rfl
          · have h3 := hgt y hy
            have h4 := (hnn y (by simp [hy])).1
            have h5 := (h2 y (by simp [hy])).2
            refine ⟨?_, ?_⟩
            · rw [h4]
              exact Int.ofNat_le.2 h3
            · rw [show k + 1 + n = k + (n + 1) by omega]
              exact h5
        · have hxk := (hnn x (by simp)).2
          have hgt : ∀ y ∈ x :: xs, k < Int.toNat y.1 := fun y hy => by
            rcases List.mem_cons.1 hy with rfl | hy'
            · omega
            · have h3 := hp.1 y hy'
              have h4 := (hnn y hy).1
              rw [h4, (hnn x (by simp)).1] at h3
              have h5 : Int.toNat x.1 < Int.toNat y.1 := (show ∀ a b : Nat, (a : Int) < (b : Int) → a < b from fun a b h => by omega) _ _ h3
              omega
          have e1 : flI k (x :: xs) = [] := by
            unfold flI
            rw [List.filter_eq_nil_iff]
            intro y hy hd
            have := hgt y hy
            have := of_decide_eq_true hd
            omega
          rw [e1, List.nil_append]
          refine ih (k + 1) (x :: xs) h1 fun y hy => ?_
          have h3 := hgt y hy
          have h4 := (hnn y hy).1
          have h5 := (h2 y hy).2
          refine ⟨?_, ?_⟩
          · rw [h4]
            exact Int.ofNat_le.2 h3
          · rw [show k + 1 + n = k + (n + 1) by omega]
            exact h5
  have hr := key 256 0 a h1 fun x hx => by
    have := h2 x hx
    refine ⟨this.1, Int.lt_of_le_of_lt this.2 (by decide)⟩
  rw [← List.range_eq_range'] at hr
  exact hr
set_option maxRecDepth 20000 in
set_option maxHeartbeats 2000000 in
theorem c_spec_oramBlocks (M : Mem) (l w b : Int) (m : ty_Mem.D) (st : List ty_Block.D) (aC : Option Addr) (cC : Nat) (aT : Option Addr) (cT : Nat) (aS : Option Addr) (cS : Nat)
    (hM : Rep ty_Mem M [.int .i64 m.1, .slice aC m.2.1.length cC, .slice aT m.2.2.length cT] m) (hC : Rep (.sl ty_Cell) M [.slice aC m.2.1.length cC] m.2.1) (hS : Rep (.sl ty_Block) M [.slice aS st.length cS] st) (hz : BlkSz st) (hcz : m.2.1.length ≤ 1048576) (hsz : ∀ c ∈ m.2.1, List.length (α := UInt8) c ≤ 1048576) :
    Sat (aCall T0 F_spec_OramBlocks [.agg (aO l w b m.1 aC m.2.1.length cC aT m.2.2.length cT aS st.length cS).toArray] M) (GrV ty_Block M ((orX l w b m st).getD [])) := by
  have hpre : M <+: M ++ [(⟨aO l w b m.1 aC m.2.1.length cC aT m.2.2.length cT aS st.length cS, 1, 2⟩ : Blk)] := List.prefix_append _ _
  have hok := c_spec_oramOk (M ++ [(⟨aO l w b m.1 aC m.2.1.length cC aT m.2.2.length cT aS st.length cS, 1, 2⟩ : Blk)]) l w b m st aC cC aT cT aS cS (hM.mono hpre) (hC.mono hpre) (hS.mono hpre) hz hcz hsz
  cases ho : orX l w b m st with
  | none =>
    rw [ho] at hok
    simp only [Option.isSome_none] at hok
    rw [aCall_eq T_spec_OramBlocks]; unfold A_spec_OramBlocks C_spec_OramBlocks; simp [thenD_pp, sliceCells_sl, sliceCells_z, sliceCells_nil, take_full, appS_sl, appK_ok, appS_none, thenD_ag, agP_nil, agP_cons, hok]
    exact ⟨(_, _), rfl, [], hpre, Gr.nil, by simp, by simp⟩
  | some r =>
    rw [ho] at hok
    simp only [Option.isSome_some] at hok
    have hfr : frO l w b m st = true := by
      cases h : frO l w b m st with
      | true => rfl
      | false => unfold orX at ho; rw [h] at ho; cases ho
    have hX : outO (Int.toNat l) w 1 m.2.1 st = some r := by
      unfold orX at ho
      rw [if_pos hfr] at ho
      exact ho
    unfold frO at hfr
    simp only [Bool.and_eq_true, decide_eq_true_eq] at hfr
    obtain ⟨h1, h2, h3, h4, h5, h6, h7, h8⟩ := hfr
    have st8 : st.length ≤ 128 ∧ blocksB l w st = true := by unfold stashB at h8; simpa using h8
    have hlt := blocks_lt st8.2
    have hid := ids_of st8.2
    have hmb := mem_bnd h4
    obtain ⟨k, rfl, hk⟩ := log_nat h1
    have hk0 : Int.toNat (k : Int) = k := by omega
    rw [hk0] at hX
    obtain ⟨⟨q1, q2⟩, q3, q4, q5⟩ := out_good m.2.1 1 st r hX hlt hid
    have hC1 := c_spec_l13Copy (M ++ [(⟨aO k w b m.1 aC m.2.1.length cC aT m.2.2.length cT aS st.length cS, 1, 2⟩ : Blk)]) _ st (hS.mono hpre) hz
    have hbx0 : (M ++ [(⟨aO k w b m.1 aC m.2.1.length cC aT m.2.2.length cT aS st.length cS, 1, 2⟩ : Blk)])[M.length]? = some ⟨aO k w b m.1 aC m.2.1.length cC aT m.2.2.length cT aS st.length cS, 1, 2⟩ := List.getElem?_concat_length
    rw [aCall_eq T_spec_OramBlocks]; unfold A_spec_OramBlocks C_spec_OramBlocks; simp [thenD_pp, sliceCells_sl, sliceCells_z, sliceCells_nil, take_full, appS_sl, appK_ok, appS_none, thenD_ag, agP_nil, agP_cons, hok]
    generalize hx : aCall T0 F_spec_l13Copy _ _ = xhx
    obtain ⟨v1, X1, rfl, L1, p1, g1, n1, k1⟩ := of_call hx hC1
    clear hx
    simp only at p1 g1
    have hbx := get_pre p1 hbx0
    have hr7 : rdn X1 M.length 0 7 = some (aO k w b m.1 aC m.2.1.length cC aT m.2.2.length cT aS st.length cS) := rdn_box hbx rfl
    have pM1 := hpre.trans p1
    have hN := c_spec_l14Nodes X1 k w b m st aC cC aT cT aS cS (hC.mono pM1) hcz hsz
    rw [q1, if_pos rfl] at hN
    simp [thenD_pp, sliceCells_sl, sliceCells_z, sliceCells_nil, take_full, appS_sl, appK_ok, appS_none, thenD_ag, agP_nil, agP_cons, hr7]
    generalize hx : aCall T0 F_spec_l14Nodes _ _ = xhx
    obtain ⟨_, X2, rfl, r2, LN, rfl, p2, g2, nN, kN⟩ := of_call hx hN
    clear hx
    simp only at p2 g2
    have hnl : (ndsF w m.2.1).length = m.2.1.length := ndsF_len _ _
    obtain ⟨aN, cN, rfl⟩ := g2.rep.slen
    obtain ⟨zs, hzs, hz1, hg1, hw1⟩ := zl_gr (g1.grow p2) n1
    have hml := hpre.length_le
    obtain ⟨v3, X3, h3, e⟩ := l_spec_OramBlocks_0 M X2 (wfs v1) aN cN (ndsF w m.2.1) LN g2 nN (fun j hj hm => by
      have := kN j hj
      have := g1.lt j (hw1 j hm)
      omega) (pM1.trans p2).length_le (fun bs hb => by
      obtain ⟨c, _, rfl⟩ := List.mem_map.1 hb
      exact ndB_len _ _) (by omega) st (by omega) v1 X2 ⟨pM1.trans p2, ⟨Nat.le_refl _, fun _ _ _ => rfl⟩, fun b hb => .inl hb, fun b hb => by
        have := k1 b (hw1 b hb)
        omega, zs, hzs, fun z hm => by
        obtain ⟨K, w1, w2⟩ := hz1 z hm
        exact ⟨K, w1, fun j hj => (w2 j hj).2⟩, hg1⟩
    simp only [Int.natCast_zero, Int.ofNat_zero] at e
    obtain ⟨zs3, hzs3, hz3, hg3⟩ := h3.zs
    have hrep := rep_zs hg3 (fun z hm => by
      obtain ⟨K, w1, w2⟩ := hz3 z hm
      exact (w1.agree h3.ag w2).rep)
    rw [hzs3] at hrep
    have hfl := flatten_len (ns := ndsF w m.2.1) (k := 4) (fun bs hb => by
      obtain ⟨c, _, rfl⟩ := List.mem_map.1 hb
      exact ndB_len _ _)
    have hmem : ∀ x ∈ st ++ (ndsF w m.2.1).flatten, (0 ≤ x.1 ∧ x.1 ≤ 255) ∧ List.length (α := UInt8) x.2.2 ≤ 1048576 := fun x hx => by
      rcases List.mem_append.1 hx with hx | hx
      · exact ⟨hid x hx, hz.2 x hx⟩
      · obtain ⟨bs, hbs, hx⟩ := List.mem_flatten.1 hx
        obtain ⟨c, hc, rfl⟩ := List.mem_map.1 hbs
        have hnd := List.all_eq_true.1 q1 c hc
        refine ⟨ndOk_ids hnd x hx, ?_⟩
        have hcl := hsz c hc
        unfold ndB at hx
        obtain ⟨j, _, rfl⟩ := List.mem_map.1 hx
        unfold blkAt
        show List.length (α := UInt8) ((List.drop _ c).take _) ≤ 1048576
        rw [List.length_take, List.length_drop]
        omega
    have hS4 := c_spec_l14Sorted X3 v3 _ hrep (fun x hx => (hmem x hx).1) (by rw [List.length_append]; omega) ⟨by rw [List.length_append]; omega, fun x hx => (hmem x hx).2⟩
    rw [srt_eq q3 q4 q5] at hS4
    obtain ⟨_, rfl⟩ := hg3.shape
    simp [thenD_pp, sliceCells_sl, sliceCells_z, sliceCells_nil, take_full, appS_sl, appK_ok, appS_none, thenD_ag, agP_nil, agP_cons, e]
    rw [S_spec_OramBlocks_0]; unfold B_spec_OramBlocks_0; simp [thenD_pp, sliceCells_sl, sliceCells_z, sliceCells_nil, take_full, appS_sl, appK_ok, appS_none, thenD_ag, agP_nil, agP_cons]
    generalize hx : aCall T0 F_spec_l14Sorted _ _ = xhx
    obtain ⟨v4, X4, rfl, L4, p4, g4, n4, k4⟩ := of_call hx hS4
    clear hx
    simp only at p4 g4
    obtain ⟨a4, rfl⟩ := g4.shape
    simp [thenD_pp, sliceCells_sl, sliceCells_z, sliceCells_nil, take_full, appS_sl, appK_ok, appS_none, thenD_ag, agP_nil, agP_cons]
    exact ⟨(_, X4), rfl, L4, h3.pre.trans p4, g4, n4, fun j hj => Nat.le_trans h3.pre.length_le (k4 j hj)⟩
theorem c_spec_oramBlocksO (M : Mem) (cs : List V) (x : ty_Oram.D) (h : Rep ty_Oram M cs x) (hz : BlkSz x.2.2.2.2) (hc : x.2.2.2.1.2.1.length ≤ 1048576) (hsz : ∀ c ∈ x.2.2.2.1.2.1, List.length (α := UInt8) c ≤ 1048576) : Sat (aCall T0 F_spec_OramBlocks [.agg cs.toArray] M) (GrV ty_Block M ((orO x).getD [])) := by
  obtain ⟨aC, cC, aT, cT, aS, cS, rfl, hM, hS⟩ := oram_shape h
  obtain ⟨_, _, e, _, hC, _⟩ := rep_g_Mem hM
  cases e
  exact c_spec_oramBlocks M x.1 x.2.1 x.2.2.1 x.2.2.2.1 x.2.2.2.2 aC cC aT cT aS cS hM hC hS hz hc hsz
def dk0 (tb : List Int) (one : List ty_Block.D) (k : Nat) : Bool := match one[k]? with
  | some b => decide (b.1 = (k : Int)) && decide (b.2.1 = tb.getD k 0)
  | none => true
def keptB (k : Nat) (tb : List Int) (one : List ty_Block.D) : Bool := decide (one.length = 2 ^ k) && (decide (tb.length = one.length) && (List.range one.length).all (dk0 tb one))
def KpV (M : Mem) (ok : Bool) (xs : List Int) (p : V × Mem) : Prop := ∃ r L, p.1 = .tuple #[r, .bool ok] ∧ M <+: p.2 ∧ Gr (.sl ty_Int) p.2 [r] xs L ∧ L.Nodup ∧ ∀ j ∈ L, M.length ≤ j
abbrev KfI (p : Nat) (v : V) (a : Option Addr) (n c : Nat) (k : Nat) : List V := [und, .pointer (some ⟨p, 0, none⟩), und, und, v, .slice a n c, .int .i64 k, und, und, und, und, und, und, und, und, und, und, und, und, und, und, und, und, und, und, und, und, und, und, und, und, und, und, und, und, und, und, und, und, und, und, und, und, und, und, und, und, und, und, und, und, und, und, und, und, und, und, und, und, und, und, und, und, und, und, und, und, und, und, und]
def KpI (M : Mem) (q : V) (one : List ty_Block.D) (L1 : List Nat) (xs : List Int) (v : V) (X : Mem) : Prop := ∃ L, M <+: X ∧ Gr (.sl ty_Block) X [q] one L1 ∧ Gr (.sl ty_Int) X [v] xs L ∧ L.Nodup ∧ (∀ j ∈ L, M.length ≤ j) ∧ ∀ j ∈ L1, j ∉ L
def inI (x : Int) : Prop := -9223372036854775808 ≤ x ∧ x ≤ 9223372036854775807
theorem wf_range {z : Int} (h : -9223372036854775808 ≤ z ∧ z ≤ 9223372036854775807) : (Lit.int .i64 z).wf = true := by
  simp [Lit.wf, IntKind.min, IntKind.max, IntKind.signed, IntKind.bits]; omega
theorem gr_Int (M : Mem) {x : Int} (h : inI x) : Gr ty_Int M [.int .i64 x] x [] := ⟨⟨rfl, wf_range h⟩, rfl⟩
set_option maxHeartbeats 2000000 in
theorem l_spec_l16Kept_1 (Z : Mem) (p : Nat) (a : Option Addr) (c : Nat) (one : List ty_Block.D) (L1 : List Nat) (k : Nat) (hk : k < one.length) (hd : List.length (α := UInt8) one[k].2.2 = 4) (xs : List Int) (hx : xs.length ≤ 1000000) (v : V) (X : Mem) (hX : KpI Z (.slice a one.length c) one L1 xs v X) :
    ∃ (v' : V) (X' : Mem), KpI Z (.slice a one.length c) one L1 (xs ++ bytI one[k].2.2) v' X' ∧ lp (aCall T0) K_spec_l16Kept_1 L_spec_l16Kept_1 [und, .pointer (some ⟨p, 0, none⟩), und, und, v, .slice a one.length c, .int .i64 k, .int .i64 (0 : Nat), und, und, und, und, und, und, und, und, und, und, und, und, und, und, und, und, und, und, und, und, und, und, und, und, und, und, und, und, und, und, und, und, und, und, und, und, und, und, und, und, und, und, und, und, und, und, und, und, und, und, und, und, und, und, und, und, und, und, und, und, und, und] X = lp (aCall T0) K_spec_l16Kept_1 L_spec_l16Kept_1 [und, .pointer (some ⟨p, 0, none⟩), und, und, v', .slice a one.length c, .int .i64 k, .int .i64 (4 : Nat), und, und, und, und, und, und, und, und, und, und, und, und, und, und, und, und, und, und, und, und, und, und, und, und, und, und, und, und, und, und, und, und, und, und, und, und, und, und, und, und, und, und, und, und, und, und, und, und, und, und, und, und, und, und, und, und, und, und, und, und, und, und] X' := by
  have key := loop_to (call := aCall T0) (K := K_spec_l16Kept_1) (L := L_spec_l16Kept_1) (fun r (v : V) X => KpI Z (.slice a one.length c) one L1 (xs ++ bytI (List.take r one[k].2.2)) v X) (fun r v => [und, .pointer (some ⟨p, 0, none⟩), und, und, v, .slice a one.length c, .int .i64 k, .int .i64 r, und, und, und, und, und, und, und, und, und, und, und, und, und, und, und, und, und, und, und, und, und, und, und, und, und, und, und, und, und, und, und, und, und, und, und, und, und, und, und, und, und, und, und, und, und, und, und, und, und, und, und, und, und, und, und, und, und, und, und, und, und, und]) (n := 4) ?_ 0 v X (by omega) (by simpa [bytI] using hX)
  · rw [List.take_of_length_le (by rw [hd]; exact Nat.le_refl _)] at key
    exact key
  intro r v X hr ⟨L, pX, gB, g0, nd, ge, dis⟩
  obtain ⟨l0, o0, u, rfl, _, _, hru, _, _, _, hu, _⟩ := at_Block gB.rep hk
  generalize one[k] = b at *
  obtain ⟨b1, b2, ys⟩ := b
  simp only at hru hu hd g0 ⊢
  obtain ⟨ub, uc, rfl⟩ := hu.slen
  have hr4 : r < List.length (α := UInt8) ys := by rw [hd]; exact hr
  obtain ⟨l1, o1, rfl, _, hrd⟩ := at_Byte hu hr4
  rw [bytI_take ys hr4, ← List.append_assoc]
  have hbl : (xs ++ bytI (ys.take r)).length ≤ 3000000 := by
    rw [List.length_append]
    unfold bytI
    rw [List.length_map, List.length_take]
    omega
  generalize xs ++ bytI (ys.take r) = zs at *
  have hy : byteV ys[r] = .int .u8 ((ys[r].toNat : Nat) : Int) := rfl
  rw [hy] at hrd
  have n1 : ys[r].toNat < 256 := UInt8.toNat_lt _
  generalize ys[r].toNat = y at *
  have c1 : IntKind.i64.wrap (y : Int) = y := wrap_i64 (by omega) (by omega)
  have e6 : IntKind.i64.wrap ((r : Int) + 1) = r + 1 := wrap_i64 (by omega) (by omega)
  have hr4' : (r : Int) < 4 := by omega
  have hd' : ys.length = 4 := hd
  have hk' : (k : Int) < (one.length : Int) := by omega
  rw [hd'] at hru
  rw [S_spec_l16Kept_1]; unfold B_spec_l16Kept_1; simp [thenD_pp, sliceCells_sl, sliceCells_z, sliceCells_nil, take_full, appS_sl, appK_ok, appS_none, thenD_ag, agP_nil, agP_cons, hr, hr4', hk, hk', hru, hrd, c1, zeroCells, rd1_K, rdJ_ok]
  generalize hy2 : appS _ _ _ _ _ _ = xhy2
  have hin : inI (y : Int) := by unfold inI; omega
  obtain ⟨l4, X4, L', rfl, g4, ag2, len2, hw4, nd4, sub4, hl4⟩ := g0.app (t := ty_Int) hy2 (List.prefix_append _ _) (gr_Int _ hin) (by simp) nd (by simp) (by omega) (by omega)
  clear hy2
  have hwL : ∀ b ∈ wfs v, Z.length ≤ b := by
    obtain ⟨_, _, hw⟩ := g0.gr (K := 0) (by simp)
    exact fun b hb => ge b (hw b hb)
  have pX4 : Z <+: X4 := ag2.pre (pX.trans (List.prefix_append _ _)) hwL
  simp [thenD_pp, sliceCells_sl, sliceCells_z, sliceCells_nil, take_full, appS_sl, appK_ok, appS_none, thenD_ag, agP_nil, agP_cons, e6]
  have hwL1 : ∀ b ∈ wfs v, b ∈ L := by
    obtain ⟨_, _, hw⟩ := g0.gr (K := 0) (by simp)
    exact hw
  have gB4 := (gB.grow (List.prefix_append X [(⟨[.int .i64 (y : Int)], 1, 2⟩ : Blk)])).agree ag2 (fun l hl hm => dis l hl (hwL1 l hm))
  refine ⟨_, _, ⟨L', pX4, gB4, g4, nd4, fun j hj => ?_, fun j hj hm => ?_⟩, rfl⟩
  · have hpl := pX.length_le
    rcases sub4 j hj with h | h | h
    · exact ge j h
    · simp at h
    · simp at hl4; omega
  · have := gB.lt j hj
    rcases sub4 j hm with h | h | h
    · exact dis j hj h
    · simp at h
    · simp at hl4; omega
theorem dk0_get {tb : List Int} {one : List ty_Block.D} {k : Nat} (h : k < one.length) : dk0 tb one k = (decide (one[k].1 = (k : Int)) && decide (one[k].2.1 = tb.getD k 0)) := by unfold dk0; rw [List.getElem?_eq_getElem h]
theorem gc_sat {X X' : Mem} {v : V} {P : V × Mem → Prop} (h1 : P (v, X)) (h2 : P (v, X')) : Sat (gc X (some (v, X'))) P := by
  unfold gc
  simp only
  split
  · exact sat_some h1
  · exact sat_some h2
set_option maxHeartbeats 2000000 in
theorem l_spec_l16Kept_0 (M Z : Mem) (hMZ : M <+: Z) (p : Nat) (a : Option Addr) (c : Nat) (one : List ty_Block.D) (L1 : List Nat) (tb : List Int) (aT : Option Addr) (cT : Nat) (hT : Rep (.sl ty_Int) Z [.slice aT tb.length cT] tb) (hl : one.length = tb.length) (hp1 : rd1 Z p 1 = some (.slice aT tb.length cT)) (hn : one.length ≤ 256) (hd : ∀ b ∈ one, List.length (α := UInt8) b.2.2 = 4) (v : V) (X : Mem) (hX : KpI Z (.slice a one.length c) one L1 [] v X) :
    (∃ (v' : V) (X' : Mem), KpI Z (.slice a one.length c) one L1 (posD one) v' X' ∧ (∀ i, i < one.length → dk0 tb one i = true) ∧ lp (aCall T0) K_spec_l16Kept_0 L_spec_l16Kept_0 (KfI p v a one.length c 0) X = lp (aCall T0) K_spec_l16Kept_0 L_spec_l16Kept_0 (KfI p v' a one.length c one.length) X') ∨
    ((∃ i, i < one.length ∧ dk0 tb one i = false) ∧ ∀ k, Sat (thenF M [.tmp 2, .tmp 3] (thenS (blockR 0 (lp (aCall T0) K_spec_l16Kept_0 L_spec_l16Kept_0 (KfI p v a one.length c 0) X)) (aCall T0) k)) (KpV M false [])) := by
  have key := loop_st (call := aCall T0) (K := K_spec_l16Kept_0) (L := L_spec_l16Kept_0) (fun i (v : V) X => KpI Z (.slice a one.length c) one L1 (posD (one.take i)) v X) (fun i v => KfI p v a one.length c i) (dk0 tb one) (KpV M false []) (n := one.length) (M0 := M) (rs := [.tmp 2, .tmp 3]) (k0 := 0) v X (by simpa [posD] using hX) ?_ ?_
  · rw [List.take_length] at key
    exact key
  · intro i v X hi ho hX
    rw [dk0_get hi] at ho
    obtain ⟨L, pX, gB, _⟩ := id hX
    have hdi := hd _ (List.getElem_mem hi)
    have hpl := posD_len (one := one.take i) (N := 4) (fun b hb => by rw [hd b (List.mem_of_mem_take hb)]; exact Nat.le_refl _)
    rw [List.length_take] at hpl
    have hxs : (posD (one.take i)).length ≤ 1000000 := by omega
    obtain ⟨v', X', hX', e⟩ := l_spec_l16Kept_1 Z p a c one L1 i hi hdi _ hxs v X hX
    rw [← posD_take one hi] at hX'
    obtain ⟨l0, o0, u, rfl, h0, h1, _⟩ := at_Block gB.rep hi
    obtain ⟨lt, ot, rfl, _, hrt⟩ := at_Int (hT.mono pX) (i := i) (by omega)
    have htg : tb[i]'(by omega) = tb.getD i 0 := by rw [List.getD_eq_getElem?_getD, List.getElem?_eq_getElem (by omega)]; rfl
    rw [htg] at hrt
    have e6 : IntKind.i64.wrap ((i : Int) + 1) = i + 1 := wrap_i64 (by omega) (by omega)
    have iT : i < tb.length := by omega
    have iT2 : (i : Int) < (tb.length : Int) := by omega
    have iT3 : (i : Int) < (one.length : Int) := by omega
    generalize tb.getD i 0 = tg at *
    have hp1' := r1_pre pX hp1
    simp only [Bool.and_eq_true, decide_eq_true_eq] at ho
    obtain ⟨w1, w2⟩ := ho
    simp only [w1] at h0
    simp only [w2] at h1
    simp only [Int.natCast_zero, Int.ofNat_zero] at e
    refine ⟨v', X', hX', ?_⟩
    rw [S_spec_l16Kept_0]; unfold B_spec_l16Kept_0; simp [thenD_pp, sliceCells_sl, sliceCells_z, sliceCells_nil, take_full, appS_sl, appK_ok, appS_none, thenD_ag, agP_nil, agP_cons, hi, h0, h1, hp1', hrt, iT, iT2, iT3, rd1_K, rdJ_ok]
    simp [thenD_pp, sliceCells_sl, sliceCells_z, sliceCells_nil, take_full, appS_sl, appK_ok, appS_none, thenD_ag, agP_nil, agP_cons, e]
    rw [S_spec_l16Kept_1]; unfold B_spec_l16Kept_1; simp [thenD_pp, sliceCells_sl, sliceCells_z, sliceCells_nil, take_full, appS_sl, appK_ok, appS_none, thenD_ag, agP_nil, agP_cons, e6]
    try rfl
  · intro i v X hi ho hX k
    rw [dk0_get hi] at ho
    obtain ⟨L, pX, gB, _⟩ := id hX
    obtain ⟨l0, o0, u, rfl, h0, h1, _⟩ := at_Block gB.rep hi
    obtain ⟨lt, ot, rfl, _, hrt⟩ := at_Int (hT.mono pX) (i := i) (by omega)
    have htg : tb[i]'(by omega) = tb.getD i 0 := by rw [List.getD_eq_getElem?_getD, List.getElem?_eq_getElem (by omega)]; rfl
    rw [htg] at hrt
    have iT : i < tb.length := by omega
    have iT2 : (i : Int) < (tb.length : Int) := by omega
    have iT3 : (i : Int) < (one.length : Int) := by omega
    generalize tb.getD i 0 = tg at *
    generalize one[i] = b at *
    obtain ⟨b1, b2, ys⟩ := b
    simp only at h0 h1 ho
    have hp1' := r1_pre pX hp1
    have pM := hMZ.trans pX
    have fin : KpV M false [] (.tuple #[.slice none 0 0, .bool false], M) := ⟨_, [], rfl, List.prefix_refl _, Gr.nil, List.nodup_nil, by simp⟩
    have fin2 : KpV M false [] (.tuple #[.slice none 0 0, .bool false], X) := ⟨_, [], rfl, pM, Gr.nil, List.nodup_nil, by simp⟩
    by_cases w1 : b1 = (i : Int)
    · subst w1
      have w2 : ¬ b2 = tg := by
        intro e
        subst e
        simp at ho
      rw [S_spec_l16Kept_0]; unfold B_spec_l16Kept_0; simp [thenD_pp, sliceCells_sl, sliceCells_z, sliceCells_nil, take_full, appS_sl, appK_ok, appS_none, thenD_ag, agP_nil, agP_cons, hi, h0, h1, hp1', hrt, iT, iT2, iT3, rd1_K, rdJ_ok, w2]
      exact gc_sat fin fin2
    · rw [S_spec_l16Kept_0]; unfold B_spec_l16Kept_0; simp [thenD_pp, sliceCells_sl, sliceCells_z, sliceCells_nil, take_full, appS_sl, appK_ok, appS_none, thenD_ag, agP_nil, agP_cons, hi, h0, h1, hp1', hrt, iT, iT2, iT3, rd1_K, rdJ_ok, w1]
      exact gc_sat fin fin2
def KpO (M : Mem) (k : Nat) (tb : List Int) (one : List ty_Block.D) (p : V × Mem) : Prop := KpV M (keptB k tb one) (if keptB k tb one = true then posD one else []) p
theorem kpO_f {M : Mem} {k : Nat} {tb : List Int} {one : List ty_Block.D} {p : V × Mem} (h : keptB k tb one = false) (hp : KpV M false [] p) : KpO M k tb one p := by
  unfold KpO
  rw [h, if_neg (by decide)]
  exact hp
theorem kpO_t {M : Mem} {k : Nat} {tb : List Int} {one : List ty_Block.D} {p : V × Mem} (h : keptB k tb one = true) (hp : KpV M true (posD one) p) : KpO M k tb one p := by
  unfold KpO
  rw [h, if_pos rfl]
  exact hp
set_option maxHeartbeats 2000000 in
set_option maxRecDepth 20000 in
theorem c_spec_l16Kept (M : Mem) (cs : List V) (l : Int) (tb : List Int) (x1 x2 : ty_Oram.D) (h : Rep ty_Deep M cs (l, tb, x1, x2)) (hz1 : BlkSz x1.2.2.2.2) (hc1 : x1.2.2.2.1.2.1.length ≤ 1048576) (hs1 : ∀ c ∈ x1.2.2.2.1.2.1, List.length (α := UInt8) c ≤ 1048576) (one : List ty_Block.D) (k : Nat) (hk : k ≤ 6) (hd : l - 2 = (k : Int)) (h1 : orO x1 = some one) (w1 : Int) (hw1 : x1.2.1 = w1) (h4 : w1 = 4) :
    Sat (aCall T0 F_spec_l16Kept [.agg cs.toArray] M) (KpO M k tb one) := by
  have ho := h.one
  obtain ⟨aT, cT, o1, o2, F⟩ := deep_shape h
  have hl := F.hl
  have hpre : M <+: M ++ [(⟨cs, 1, 2⟩ : Blk), ⟨[], 1, 2⟩] := List.prefix_append _ _
  have hbx : (M ++ [(⟨cs, 1, 2⟩ : Blk), ⟨[], 1, 2⟩])[M.length]? = some ⟨cs, 1, 2⟩ := by simp
  have hbe : (M ++ [(⟨cs, 1, 2⟩ : Blk), ⟨[], 1, 2⟩])[M.length + 1]? = some ⟨[], 1, 2⟩ := by simp
  have g1 := rdn_bx hbx (by omega) F.n1
  have hK1 := c_spec_oramBlocksO (M ++ [(⟨cs, 1, 2⟩ : Blk), ⟨[], 1, 2⟩]) o1 x1 (F.r1.mono hpre) hz1 hc1 hs1
  rw [h1] at hK1
  have hdt : ∀ b ∈ one, List.length (α := UInt8) b.2.2 = 4 := fun b hb => by
    have := (oram_dat h1 b hb).1
    rw [hw1, h4] at this
    omega
  have on1 := oram_len h1
  have e2 : IntKind.i64.wrap (l - 2) = (k : Int) := by rw [hd]; exact wrap_i64 (by omega) (by omega)
  have e3 := fun M => c_spec_l02Pow M k (by omega)
  have hp2 : (2 : Int) ^ k = ((2 ^ k : Nat) : Int) := by simp
  rw [hp2] at e3
  have hp6 : 2 ^ k ≤ 2 ^ 6 := Nat.pow_le_pow_right (by omega) hk
  have hkb : keptB k tb one = (decide (one.length = 2 ^ k) && (decide (tb.length = one.length) && (List.range one.length).all (dk0 tb one))) := rfl
  generalize (2 : Nat) ^ k = q at *
  unfold Option.getD at hK1
  simp only at hK1
  rw [aCall_eq T_spec_l16Kept]; unfold A_spec_l16Kept C_spec_l16Kept; simp [thenD_pp, sliceCells_sl, sliceCells_z, sliceCells_nil, take_full, appS_sl, appK_ok, appS_none, thenD_ag, agP_nil, agP_cons, ho, hl, g1, zeroCells]
  generalize hx : aCall T0 F_spec_OramBlocks _ _ = xhx
  obtain ⟨v1, X1, rfl, L1, p1, gr1, n1, k1⟩ := of_call hx hK1
  clear hx
  simp only at p1 gr1
  have pM1 := hpre.trans p1
  have hb1 := get_pre p1 hbx
  have he1 := get_pre p1 hbe
  obtain ⟨a1, rfl⟩ := gr1.shape
  have t0 := rd1_bx hb1 F.c0
  have t1 := rd1_bx hb1 F.c1
  simp only at t0 t1
  have fin : KpV M false [] (.tuple #[.slice none 0 0, .bool false], M) := ⟨_, [], rfl, List.prefix_refl _, Gr.nil, List.nodup_nil, by simp⟩
  have fin2 : KpV M false [] (.tuple #[.slice none 0 0, .bool false], X1) := ⟨_, [], rfl, pM1, Gr.nil, List.nodup_nil, by simp⟩
  by_cases h5 : one.length = q
  · by_cases h6 : tb.length = one.length
    · have hp0 : M ++ [(⟨cs, 1, 2⟩ : Blk)] <+: X1 := List.IsPrefix.trans ⟨[(⟨[], 1, 2⟩ : Blk)], by simp⟩ p1
      have hbx0 : (M ++ [(⟨cs, 1, 2⟩ : Blk)])[M.length]? = some ⟨cs, 1, 2⟩ := List.getElem?_concat_length
      have t10 := rd1_bx hbx0 F.c1
      simp only at t10
      have ge0 : Gr (.sl ty_Int) X1 [.slice (some ⟨M.length + 1, 0, none⟩) 0 0] [] [M.length + 1] := .inr ⟨M.length + 1, [], [], rfl, he1, rfl, rfl, by simp, by simp⟩
      have inner := l_spec_l16Kept_0 M (M ++ [(⟨cs, 1, 2⟩ : Blk)]) (List.prefix_append _ _) M.length a1 one.length one L1 tb aT cT (F.rT.mono (List.prefix_append _ _)) h6.symm t10 on1.1 hdt (.slice (some ⟨M.length + 1, 0, none⟩) 0 0) X1 ⟨[M.length + 1], hp0, gr1, ge0, by simp, by simp, fun j hj => by have := k1 j hj; simp at this ⊢; omega⟩
      simp only [KfI, Int.natCast_zero, Int.ofNat_zero] at inner
      have h5' : (one.length : Int) = (q : Int) := by omega
      have h5t : ((one.length : Int) = (q : Int)) = True := eq_true h5'
      have h5n : (one.length = q) = True := eq_true h5
      rcases inner with ⟨v', X', ⟨L, q1, _, q2, q3, q4, _⟩, hall, e⟩ | ⟨⟨i, hi, hf⟩, hS⟩
      · have hA : keptB k tb one = true := by
          rw [hkb]
          rw [decide_eq_true h5, decide_eq_true h6, List.all_eq_true.2 fun i hi => hall i (List.mem_range.1 hi)]
          rfl
        obtain ⟨a', rfl⟩ := q2.shape
        have t1' : rd1 X1 M.length 1 = some (.slice aT one.length cT) := by rw [← h6]; exact t1
        simp [thenD_pp, sliceCells_sl, sliceCells_z, sliceCells_nil, take_full, appS_sl, appK_ok, appS_none, thenD_ag, agP_nil, agP_cons, t0, t1', e2, e3, h5t, h5n, e]
        rw [S_spec_l16Kept_0]; unfold B_spec_l16Kept_0; simp [thenD_pp, sliceCells_sl, sliceCells_z, sliceCells_nil, take_full, appS_sl, appK_ok, appS_none, thenD_ag, agP_nil, agP_cons]
        exact sat_some (kpO_t hA ⟨_, L, rfl, (List.prefix_append _ _).trans q1, q2, q3, fun j hj => by have := q4 j hj; simp at this; omega⟩)
      · have hA : keptB k tb one = false := by
          rw [hkb]
          have : (List.range one.length).all (dk0 tb one) = false := by
            rw [List.all_eq_false]
            exact ⟨i, List.mem_range.2 hi, by rw [hf]; simp⟩
          rw [this]
          simp
        have t1' : rd1 X1 M.length 1 = some (.slice aT one.length cT) := by rw [← h6]; exact t1
        simp [thenD_pp, sliceCells_sl, sliceCells_z, sliceCells_nil, take_full, appS_sl, appK_ok, appS_none, thenD_ag, agP_nil, agP_cons, t0, t1', e2, e3, h5t, h5n]
        refine Sat.mono (hS _) fun p hp => kpO_f hA hp
    · have h5' : (one.length : Int) = (q : Int) := by omega
      have h6' : ¬ (tb.length : Int) = (q : Int) := by omega
      have hA : keptB k tb one = false := by rw [hkb]; rw [decide_eq_false h6]; simp
      simp [thenD_pp, sliceCells_sl, sliceCells_z, sliceCells_nil, take_full, appS_sl, appK_ok, appS_none, thenD_ag, agP_nil, agP_cons, t0, t1, e2, e3, h5', h6']
      exact gc_sat (kpO_f hA fin) (kpO_f hA fin2)
  · have h5' : ¬ (one.length : Int) = (q : Int) := by omega
    have hA : keptB k tb one = false := by rw [hkb]; rw [decide_eq_false h5]; simp
    simp [thenD_pp, sliceCells_sl, sliceCells_z, sliceCells_nil, take_full, appS_sl, appK_ok, appS_none, thenD_ag, agP_nil, agP_cons, t0, t1, e2, e3, h5']
    exact gc_sat (kpO_f hA fin) (kpO_f hA fin2)
def powI (l : Int) : Int := ((2 ^ Int.toNat l : Nat) : Int)
def lowB (l : Int) (ys : List Int) : Bool := ys.all fun y => decide (y < powI l)
def deepS (l : Int) (tb : List Int) (x1 x2 : ty_Oram.D) : Bool := dlB l && (decide (x1.1 = l - 2) && (decide (x1.2.1 = (4 : Int)) && (decide (x2.1 = l) && (match orO x1, orO x2 with
  | some one, some two => keptB (Int.toNat (l - 2)) tb one && (lowB l (posD one) && two.all (kpB (posD one)))
  | _, _ => false))))
theorem leaf_low {l : Int} (h : dlB l = true) (y : Nat) : leafB l (y : Int) = decide ((y : Int) < powI l) := by
  have hg : lgB l = true := by
    unfold dlB at h
    unfold lgB
    simp only [Bool.and_eq_true, decide_eq_true_eq] at h ⊢
    omega
  have e : (2 : Int) ^ l.toNat = powI l := by unfold powI; simp
  unfold leafB
  rw [hg, e, decide_eq_true (show (0 : Int) ≤ (y : Int) by omega)]
  simp
theorem dk_split {l : Int} (h : dlB l = true) (tb : List Int) (one : List ty_Block.D) : (List.range one.length).all (dkB l tb one) = ((List.range one.length).all (dk0 tb one) && lowB l (posD one)) := by
  rw [Bool.eq_iff_iff, Bool.and_eq_true]
  unfold lowB
  simp only [List.all_eq_true, List.mem_range]
  constructor
  · intro ha
    refine ⟨fun i hi => ?_, fun y hy => ?_⟩
    · have := ha i hi
      rw [dkB_get hi, Bool.and_eq_true] at this
      rw [dk0_get hi]
      exact this.1
    · unfold posD at hy
      obtain ⟨ys, h1, h2⟩ := List.mem_flatten.1 hy
      obtain ⟨b, h3, rfl⟩ := List.mem_map.1 h1
      obtain ⟨i, hi, rfl⟩ := List.getElem_of_mem h3
      have := ha i hi
      rw [dkB_get hi, Bool.and_eq_true] at this
      unfold bytI at h2
      obtain ⟨u, h4, rfl⟩ := List.mem_map.1 h2
      have := List.all_eq_true.1 this.2 u h4
      rw [leaf_low h] at this
      exact this
  · rintro ⟨h1, h2⟩ i hi
    have := h1 i hi
    rw [dk0_get hi] at this
    rw [dkB_get hi, this, Bool.true_and]
    refine List.all_eq_true.2 fun u hu => ?_
    rw [leaf_low h]
    refine h2 _ ?_
    unfold posD
    exact List.mem_flatten.2 ⟨_, List.mem_map.2 ⟨_, List.getElem_mem hi, rfl⟩, List.mem_map.2 ⟨u, hu, rfl⟩⟩
theorem deep_alt (l : Int) (tb : List Int) (x1 x2 : ty_Oram.D) : deepB (l, tb, x1, x2) = deepS l tb x1 x2 := by
  unfold deepB deepS dfB
  simp only
  cases h : dlB l with
  | false => simp
  | true =>
    simp only [Bool.true_and]
    cases h1 : orO x1 with
    | none => simp
    | some one =>
      cases h2 : orO x2 with
      | none => simp
      | some two =>
        simp only
        unfold dtB keptB
        simp only
        rw [dk_split h]
        rw [Bool.eq_iff_iff]
        simp only [Bool.and_eq_true, decide_eq_true_eq]
        constructor
        · rintro ⟨⟨a, b, c, d⟩, e, ⟨f, g⟩, i⟩
          exact ⟨b, c, d, ⟨e.trans a, e.symm, f⟩, g, i⟩
        · rintro ⟨b, c, d, ⟨e, e2, f⟩, g, i⟩
          exact ⟨⟨e2.trans e, b, c, d⟩, e2.symm, ⟨f, g⟩, i⟩
def lowAt (l : Int) (ys : List Int) (i : Nat) : Bool := decide (ys.getD i 0 < powI l)
theorem lowAt_all {l : Int} {ys : List Int} : (∀ i, i < ys.length → lowAt l ys i = true) → lowB l ys = true := fun h => List.all_eq_true.2 fun y hy => by
  obtain ⟨i, hi, rfl⟩ := List.getElem_of_mem hy
  have := h i hi
  unfold lowAt at this
  rw [List.getD_eq_getElem?_getD, List.getElem?_eq_getElem hi] at this
  exact this
theorem lowAt_not {l : Int} {ys : List Int} {i : Nat} (hi : i < ys.length) (h : lowAt l ys i = false) : lowB l ys = false := by
  unfold lowB
  rw [List.all_eq_false]
  refine ⟨ys[i], List.getElem_mem hi, ?_⟩
  unfold lowAt at h
  rw [List.getD_eq_getElem?_getD, List.getElem?_eq_getElem hi] at h
  simpa using h
theorem l_spec_DeepOk_0 (M X : Mem) (hMX : M <+: X) (p : Nat) (l : Int) (k : Nat) (hk : l = (k : Int)) (hk6 : k ≤ 6) (a : Option Addr) (c : Nat) (ys : List Int) (h : Rep (.sl ty_Int) X [.slice a ys.length c] ys) (hp : rd1 X p 0 = some (.int .i64 l)) (hn : ys.length ≤ 1000000) :
    (∃ X', X' = X ∧ (∀ i, i < ys.length → lowAt l ys i = true) ∧ lp (aCall T0) K_spec_DeepOk_0 L_spec_DeepOk_0 [und, .pointer (some ⟨p, 0, none⟩), und, .slice a ys.length c, und, .int .i64 (0 : Nat), und, und, und, und, und, und, und, und, und, und, und, und, und, und, und, und, und, und, und, und, und, und, und, und, und, und, und, und, und, und, und, und, und, und, und, und, und, und, und, und, und, und, und, und, und, und, und, und, und, und, und, und, und, und, und, und, und, und, und, und, und, und, und, und, und, und, und, und, und, und, und, und, und, und, und, und, und, und, und, und, und, und, und, und, und, und, und, und, und, und, und, und, und, und, und] X = lp (aCall T0) K_spec_DeepOk_0 L_spec_DeepOk_0 [und, .pointer (some ⟨p, 0, none⟩), und, .slice a ys.length c, und, .int .i64 ys.length, und, und, und, und, und, und, und, und, und, und, und, und, und, und, und, und, und, und, und, und, und, und, und, und, und, und, und, und, und, und, und, und, und, und, und, und, und, und, und, und, und, und, und, und, und, und, und, und, und, und, und, und, und, und, und, und, und, und, und, und, und, und, und, und, und, und, und, und, und, und, und, und, und, und, und, und, und, und, und, und, und, und, und, und, und, und, und, und, und, und, und, und, und, und, und] X') ∨
    ((∃ i, i < ys.length ∧ lowAt l ys i = false) ∧ ∀ k, thenF M [.tmp 2] (thenS (blockR 0 (lp (aCall T0) K_spec_DeepOk_0 L_spec_DeepOk_0 [und, .pointer (some ⟨p, 0, none⟩), und, .slice a ys.length c, und, .int .i64 (0 : Nat), und, und, und, und, und, und, und, und, und, und, und, und, und, und, und, und, und, und, und, und, und, und, und, und, und, und, und, und, und, und, und, und, und, und, und, und, und, und, und, und, und, und, und, und, und, und, und, und, und, und, und, und, und, und, und, und, und, und, und, und, und, und, und, und, und, und, und, und, und, und, und, und, und, und, und, und, und, und, und, und, und, und, und, und, und, und, und, und, und, und, und, und, und, und, und] X)) (aCall T0) k) = some (.bool false, M)) := by
  refine loop_ok (call := aCall T0) (K := K_spec_DeepOk_0) (L := L_spec_DeepOk_0) (fun _ X' => X' = X) (fun i => [und, .pointer (some ⟨p, 0, none⟩), und, .slice a ys.length c, und, .int .i64 i, und, und, und, und, und, und, und, und, und, und, und, und, und, und, und, und, und, und, und, und, und, und, und, und, und, und, und, und, und, und, und, und, und, und, und, und, und, und, und, und, und, und, und, und, und, und, und, und, und, und, und, und, und, und, und, und, und, und, und, und, und, und, und, und, und, und, und, und, und, und, und, und, und, und, und, und, und, und, und, und, und, und, und, und, und, und, und, und, und, und, und, und, und, und, und]) (lowAt l ys) (n := ys.length) (M0 := M) (rs := [.tmp 2]) (k0 := 0) (a := .bool false) X rfl ?_ ?_
  all_goals
    intro i X' hi ho hX'
    subst hX'
    obtain ⟨l1, o1, rfl, _, hr⟩ := at_Int h hi
    have e1 : ys[i] = ys.getD i 0 := by rw [List.getD_eq_getElem?_getD, List.getElem?_eq_getElem hi]; rfl
    rw [e1] at hr
    unfold lowAt at ho
    have e2 := fun M => c_spec_l02Pow M k (by omega)
    have e3 : (2 : Int) ^ k = powI l := by
      subst hk
      unfold powI
      have : Int.toNat (k : Int) = k := by omega
      rw [this]
      simp
    rw [e3, ← hk] at e2
    generalize ys.getD i 0 = y at *
    generalize powI l = q at *
    have iT : (i : Int) < (ys.length : Int) := by omega
    have e6 : IntKind.i64.wrap ((i : Int) + 1) = i + 1 := wrap_i64 (by omega) (by omega)
  · have ho' : y < q := by simpa using ho
    have ho'' : ¬ q ≤ y := by omega
    refine ⟨_, rfl, ?_⟩
    rw [S_spec_DeepOk_0]; unfold B_spec_DeepOk_0; simp [thenD_pp, sliceCells_sl, sliceCells_z, sliceCells_nil, take_full, appS_sl, appK_ok, appS_none, thenD_ag, agP_nil, agP_cons, hi, iT, hr, hp, e2, ho', ho'', e6]
  · have ho' : ¬ y < q := by simpa using ho
    have ho'' : q ≤ y := by omega
    intro k
    have gb := fun b => gc_boolp hMX b
    rw [S_spec_DeepOk_0]; unfold B_spec_DeepOk_0; simp [thenD_pp, sliceCells_sl, sliceCells_z, sliceCells_nil, take_full, appS_sl, appK_ok, appS_none, thenD_ag, agP_nil, agP_cons, hi, iT, hr, hp, e2, ho', ho'', gb]
def kpAt (ys : List Int) (two : List ty_Block.D) (i : Nat) : Bool := match two[i]? with
  | some b => kpB ys b
  | none => true
theorem kpAt_get {ys : List Int} {two : List ty_Block.D} {i : Nat} (h : i < two.length) : kpAt ys two i = kpB ys two[i] := by unfold kpAt; rw [List.getElem?_eq_getElem h]
abbrev cB (x : Int × Int × Int × Int) (u : V) : List V := [.int .i64 x.1, .int .i64 x.2.1, .int .i64 x.2.2.1, .int .i64 x.2.2.2, u]
theorem l_spec_DeepOk_1 (M X : Mem) (hMX : M <+: X) (a : Option Addr) (c : Nat) (ys : List Int) (h : Rep (.sl ty_Int) X [.slice a ys.length c] ys) (aB : Option Addr) (cB : Nat) (two : List ty_Block.D) (hB : Rep (.sl ty_Block) X [.slice aB two.length cB] two) (hn : two.length ≤ 256) (h0 : ∀ b ∈ two, 0 ≤ (b.1 : Int)) :
    (∃ X', X' = X ∧ (∀ i, i < two.length → kpAt ys two i = true) ∧ lp (aCall T0) K_spec_DeepOk_1 L_spec_DeepOk_1 [und, und, und, .slice a ys.length c, und, und, .slice aB two.length cB, .int .i64 (0 : Nat), und, und, und, und, und, und, und, und, und, und, und, und, und, und, und, und, und, und, und, und, und, und, und, und, und, und, und, und, und, und, und, und, und, und, und, und, und, und, und, und, und, und, und, und, und, und, und, und, und, und, und, und, und, und, und, und, und, und, und, und, und, und, und, und, und, und, und, und, und, und, und, und, und, und, und, und, und, und, und, und, und, und, und, und, und, und, und, und, und, und, und, und, und] X = lp (aCall T0) K_spec_DeepOk_1 L_spec_DeepOk_1 [und, und, und, .slice a ys.length c, und, und, .slice aB two.length cB, .int .i64 two.length, und, und, und, und, und, und, und, und, und, und, und, und, und, und, und, und, und, und, und, und, und, und, und, und, und, und, und, und, und, und, und, und, und, und, und, und, und, und, und, und, und, und, und, und, und, und, und, und, und, und, und, und, und, und, und, und, und, und, und, und, und, und, und, und, und, und, und, und, und, und, und, und, und, und, und, und, und, und, und, und, und, und, und, und, und, und, und, und, und, und, und, und, und] X') ∨
    ((∃ i, i < two.length ∧ kpAt ys two i = false) ∧ ∀ k, thenF M [.tmp 2] (thenS (blockR 2 (lp (aCall T0) K_spec_DeepOk_1 L_spec_DeepOk_1 [und, und, und, .slice a ys.length c, und, und, .slice aB two.length cB, .int .i64 (0 : Nat), und, und, und, und, und, und, und, und, und, und, und, und, und, und, und, und, und, und, und, und, und, und, und, und, und, und, und, und, und, und, und, und, und, und, und, und, und, und, und, und, und, und, und, und, und, und, und, und, und, und, und, und, und, und, und, und, und, und, und, und, und, und, und, und, und, und, und, und, und, und, und, und, und, und, und, und, und, und, und, und, und, und, und, und, und, und, und, und, und, und, und, und, und] X)) (aCall T0) k) = some (.bool false, M)) := by
  refine loop_ok (call := aCall T0) (K := K_spec_DeepOk_1) (L := L_spec_DeepOk_1) (fun _ X' => X' = X) (fun i => [und, und, und, .slice a ys.length c, und, und, .slice aB two.length cB, .int .i64 i, und, und, und, und, und, und, und, und, und, und, und, und, und, und, und, und, und, und, und, und, und, und, und, und, und, und, und, und, und, und, und, und, und, und, und, und, und, und, und, und, und, und, und, und, und, und, und, und, und, und, und, und, und, und, und, und, und, und, und, und, und, und, und, und, und, und, und, und, und, und, und, und, und, und, und, und, und, und, und, und, und, und, und, und, und, und, und, und, und, und, und, und, und]) (kpAt ys two) (n := two.length) (M0 := M) (rs := [.tmp 2]) (k0 := 2) (a := .bool false) X rfl ?_ ?_
  all_goals
    intro i X' hi ho hX'
    subst hX'
    rw [kpAt_get hi] at ho
    obtain ⟨l1, o1, u, rfl, hr0, hr1, _⟩ := at_Block hB hi
    have h0i := h0 _ (List.getElem_mem hi)
    generalize two[i] = b at *
    obtain ⟨b1, b2, b3⟩ := b
    simp only at hr0 hr1 h0i
    unfold kpB at ho
    simp only at ho
    obtain ⟨t, rfl⟩ : ∃ t : Nat, b1 = (t : Int) := ⟨Int.toNat b1, (show ∀ z : Int, 0 ≤ z → z = ((Int.toNat z : Nat) : Int) from fun z hz => by omega) b1 h0i⟩
    have ht : Int.toNat (t : Int) = t := by omega
    rw [ht] at ho
    have iT : (i : Int) < (two.length : Int) := by omega
    have e6 : IntKind.i64.wrap ((i : Int) + 1) = i + 1 := wrap_i64 (by omega) (by omega)
  · simp only [Bool.and_eq_true, decide_eq_true_eq] at ho
    obtain ⟨o2a, o3⟩ := ho
    have o2 : (t : Int) < (ys.length : Int) := o2a
    have ht1 : t < ys.length := by omega
    have ht2 : ¬ (ys.length : Int) ≤ (t : Int) := by omega
    obtain ⟨l2, o4, rfl, _, hr⟩ := at_Int h ht1
    have e1 : ys[t] = ys.getD t 0 := by rw [List.getD_eq_getElem?_getD, List.getElem?_eq_getElem ht1]; rfl
    rw [e1, o3] at hr
    refine ⟨_, rfl, ?_⟩
    rw [S_spec_DeepOk_1]; unfold B_spec_DeepOk_1; simp [thenD_pp, sliceCells_sl, sliceCells_z, sliceCells_nil, take_full, appS_sl, appK_ok, appS_none, thenD_ag, agP_nil, agP_cons, hi, iT, hr0, hr1, o2, ht1, ht2, hr, e6]
  · intro k
    have gb := fun b => gc_boolp hMX b
    by_cases ht1 : t < ys.length
    · have o2 : (t : Int) < (ys.length : Int) := by omega
      have ht2 : ¬ (ys.length : Int) ≤ (t : Int) := by omega
      have o3 : ¬ ys.getD t 0 = b2 := by
        intro e
        rw [decide_eq_true o2, decide_eq_true e] at ho
        cases ho
      obtain ⟨l2, o4, rfl, _, hr⟩ := at_Int h ht1
      have e1 : ys[t] = ys.getD t 0 := by rw [List.getD_eq_getElem?_getD, List.getElem?_eq_getElem ht1]; rfl
      rw [e1] at hr
      generalize ys.getD t 0 = z at *
      have o4 : ¬ b2 = z := fun e => o3 e.symm
      rw [S_spec_DeepOk_1]; unfold B_spec_DeepOk_1; simp [thenD_pp, sliceCells_sl, sliceCells_z, sliceCells_nil, take_full, appS_sl, appK_ok, appS_none, thenD_ag, agP_nil, agP_cons, hi, iT, hr0, hr1, o2, ht1, ht2, hr, o3, o4, gb]
    · have ht2 : (ys.length : Int) ≤ (t : Int) := by omega
      rw [S_spec_DeepOk_1]; unfold B_spec_DeepOk_1; simp [thenD_pp, sliceCells_sl, sliceCells_z, sliceCells_nil, take_full, appS_sl, appK_ok, appS_none, thenD_ag, agP_nil, agP_cons, hi, iT, hr0, hr1, ht1, ht2, gb]
set_option maxRecDepth 20000 in
set_option maxHeartbeats 4000000 in
theorem c_spec_DeepOk0 (M : Mem) (cs : List V) (l : Int) (tb : List Int) (x1 x2 : ty_Oram.D) (h : Rep ty_Deep M cs (l, tb, x1, x2)) (l1 w1 l2 : Int) (hl1 : x1.1 = l1) (hw1 : x1.2.1 = w1) (hl2 : x2.1 = l2)
    (hz1 : BlkSz x1.2.2.2.2) (hc1 : x1.2.2.2.1.2.1.length ≤ 1048576) (hs1 : ∀ c ∈ x1.2.2.2.1.2.1, List.length (α := UInt8) c ≤ 1048576) (hz2 : BlkSz x2.2.2.2.2) (hc2 : x2.2.2.2.1.2.1.length ≤ 1048576) (hs2 : ∀ c ∈ x2.2.2.2.1.2.1, List.length (α := UInt8) c ≤ 1048576) :
    aCall T0 F_spec_DeepOk [.agg cs.toArray] M = some (.bool (deepB (l, tb, x1, x2)), M) := by
  have ho := h.one
  obtain ⟨aT, cT, o1, o2, F⟩ := deep_shape h
  have hl := F.hl
  have hpre : M <+: M ++ [(⟨cs, 1, 2⟩ : Blk)] := List.prefix_append _ _
  have hbx : (M ++ [(⟨cs, 1, 2⟩ : Blk)])[M.length]? = some ⟨cs, 1, 2⟩ := List.getElem?_concat_length
  have f0 := rd1_bx hbx F.c0
  have f2 := rd1_bx hbx F.c2
  have f3 := rd1_bx hbx F.c3
  have f9 := rd1_bx hbx F.c9
  have g1 := rdn_bx hbx (by omega) F.n1
  have g2 := rdn_bx hbx (by omega) F.n2
  have gA := rdn_bx (k := 0) (n := 16) hbx (by omega) (by rw [List.drop_zero, List.take_of_length_le (by omega)])
  simp only [hl1, hw1, hl2] at f0 f2 f3 f9
  have e1 := fun M => c_spec_l16Log M l
  have hdl : (decide (2 ≤ l) && decide (l ≤ 6)) = dlB l := rfl
  rw [hdl] at e1
  have gb := fun b => gc_boolp hpre b
  have eO1 := c_spec_OramOk (M ++ [(⟨cs, 1, 2⟩ : Blk)]) o1 x1 (F.r1.mono hpre) hz1 hc1 hs1
  have eO2 := c_spec_OramOk (M ++ [(⟨cs, 1, 2⟩ : Blk)]) o2 x2 (F.r2.mono hpre) hz2 hc2 hs2
  rw [deep_alt]
  have hS : deepS l tb x1 x2 = (dlB l && (decide (l1 = l - 2) && (decide (w1 = 4) && (decide (l2 = l) && (match orO x1, orO x2 with
    | some one, some two => keptB (Int.toNat (l - 2)) tb one && (lowB l (posD one) && two.all (kpB (posD one)))
    | _, _ => false))))) := by rw [← hl1, ← hw1, ← hl2]; rfl
  rw [hS]
  clear hS
  cases h1 : dlB l with
  | false =>
    rw [h1] at e1
    rw [Bool.false_and]
    rw [aCall_eq T_spec_DeepOk]; unfold A_spec_DeepOk C_spec_DeepOk; simp [thenD_pp, sliceCells_sl, sliceCells_z, sliceCells_nil, take_full, appS_sl, appK_ok, appS_none, thenD_ag, agP_nil, agP_cons, ho, hl, f0, e1, gb]
  | true =>
  rw [h1] at e1
  rw [Bool.true_and]
  have hlr : 2 ≤ l ∧ l ≤ 6 := by unfold dlB at h1; simpa using h1
  obtain ⟨k, hk⟩ : ∃ k : Nat, l - 2 = (k : Int) := ⟨Int.toNat (l - 2), by omega⟩
  have hk4 : k ≤ 4 := by omega
  have hk0 : Int.toNat (l - 2) = k := by omega
  have e2 : IntKind.i64.wrap (l - 2) = (k : Int) := by rw [hk]; exact wrap_i64 (by omega) (by omega)
  rw [hk0, hk]
  by_cases h3 : l1 = (k : Int)
  rotate_left
  · rw [decide_eq_false h3, Bool.false_and]
    rw [aCall_eq T_spec_DeepOk]; unfold A_spec_DeepOk C_spec_DeepOk; simp [thenD_pp, sliceCells_sl, sliceCells_z, sliceCells_nil, take_full, appS_sl, appK_ok, appS_none, thenD_ag, agP_nil, agP_cons, ho, hl, f0, f2, e1, e2, h3, gb]
  rw [decide_eq_true h3, Bool.true_and]
  subst h3
  by_cases h4 : w1 = 4
  rotate_left
  · rw [decide_eq_false h4, Bool.false_and]
    rw [aCall_eq T_spec_DeepOk]; unfold A_spec_DeepOk C_spec_DeepOk; simp [thenD_pp, sliceCells_sl, sliceCells_z, sliceCells_nil, take_full, appS_sl, appK_ok, appS_none, thenD_ag, agP_nil, agP_cons, ho, hl, f0, f2, f3, e1, e2, h4, gb]
  rw [decide_eq_true h4, Bool.true_and]
  by_cases h5 : l2 = l
  rotate_left
  · rw [decide_eq_false h5, Bool.false_and]
    subst h4
    rw [aCall_eq T_spec_DeepOk]; unfold A_spec_DeepOk C_spec_DeepOk; simp [thenD_pp, sliceCells_sl, sliceCells_z, sliceCells_nil, take_full, appS_sl, appK_ok, appS_none, thenD_ag, agP_nil, agP_cons, ho, hl, f0, f2, f3, f9, e1, e2, h5, gb]
  rw [decide_eq_true h5, Bool.true_and]
  subst h5
  cases q1 : orO x1 with
  | none =>
    rw [q1] at eO1
    simp only [Option.isSome_none] at eO1
    subst h4
    rw [aCall_eq T_spec_DeepOk]; unfold A_spec_DeepOk C_spec_DeepOk; simp [thenD_pp, sliceCells_sl, sliceCells_z, sliceCells_nil, take_full, appS_sl, appK_ok, appS_none, thenD_ag, agP_nil, agP_cons, ho, hl, f0, f2, f3, f9, e1, e2, g1, eO1, gb]
  | some one =>
  rw [q1] at eO1
  simp only [Option.isSome_some] at eO1
  cases q2 : orO x2 with
  | none =>
    rw [q2] at eO2
    simp only [Option.isSome_none] at eO2
    subst h4
    rw [aCall_eq T_spec_DeepOk]; unfold A_spec_DeepOk C_spec_DeepOk; simp [thenD_pp, sliceCells_sl, sliceCells_z, sliceCells_nil, take_full, appS_sl, appK_ok, appS_none, thenD_ag, agP_nil, agP_cons, ho, hl, f0, f2, f3, f9, e1, e2, g1, eO1, g2, eO2, gb]
  | some two =>
  rw [q2] at eO2
  simp only [Option.isSome_some] at eO2
  simp only
  have hKp := c_spec_l16Kept (M ++ [(⟨cs, 1, 2⟩ : Blk)]) cs l2 tb x1 x2 (h.mono hpre) hz1 hc1 hs1 one k (by omega) hk q1 w1 hw1 h4
  subst h4
  rw [aCall_eq T_spec_DeepOk]; unfold A_spec_DeepOk C_spec_DeepOk; simp [thenD_pp, sliceCells_sl, sliceCells_z, sliceCells_nil, take_full, appS_sl, appK_ok, appS_none, thenD_ag, agP_nil, agP_cons, ho, hl, f0, f2, f3, f9, e1, e2, g1, eO1, g2, eO2, gA]
  generalize hx : aCall T0 F_spec_l16Kept _ _ = xhx
  obtain ⟨_, X1, rfl, v, L, rfl, p1, gk, nk, kk⟩ := of_call hx hKp
  clear hx
  simp only at p1 gk
  have pM1 := hpre.trans p1
  have hb1 := get_pre p1 hbx
  have gb1 := fun b => gc_boolp pM1 b
  cases hkp : keptB k tb one with
  | false =>
    rw [Bool.false_and]
    simp [thenD_pp, sliceCells_sl, sliceCells_z, sliceCells_nil, take_full, appS_sl, appK_ok, appS_none, thenD_ag, agP_nil, agP_cons, gb1]
  | true =>
  rw [hkp, if_pos rfl] at gk
  rw [Bool.true_and]
  obtain ⟨a, rfl⟩ := gk.shape
  have t0 := rd1_bx hb1 F.c0
  simp only at t0
  have on1 := oram_len q1
  have on2 := oram_len q2
  have hpl := posD_len (one := one) (N := 200) (fun b hb => (oram_dat q1 b hb).2)
  generalize posD one = ys at *
  have in0 := l_spec_DeepOk_0 M X1 pM1 M.length l2 (Int.toNat l2) (by omega) (by omega) a ys.length ys gk.rep t0 (by omega)
  simp only [Int.natCast_zero, Int.ofNat_zero] at in0
  rcases in0 with ⟨Y0, hY0, hall, e⟩ | ⟨⟨i, hi, hf⟩, e⟩
  rotate_left
  · rw [lowAt_not hi hf, Bool.false_and]
    simp [thenD_pp, sliceCells_sl, sliceCells_z, sliceCells_nil, take_full, appS_sl, appK_ok, appS_none, thenD_ag, agP_nil, agP_cons, e]
  rw [hY0] at e
  clear hY0
  rw [lowAt_all hall, Bool.true_and]
  have g3 := rdn_bx hb1 (by omega) F.n2
  have hK2 := c_spec_oramBlocksO X1 o2 x2 (F.r2.mono pM1) hz2 hc2 hs2
  rw [q2] at hK2
  unfold Option.getD at hK2
  simp only at hK2
  simp [thenD_pp, sliceCells_sl, sliceCells_z, sliceCells_nil, take_full, appS_sl, appK_ok, appS_none, thenD_ag, agP_nil, agP_cons, e]
  rw [S_spec_DeepOk_0]; unfold B_spec_DeepOk_0; simp [thenD_pp, sliceCells_sl, sliceCells_z, sliceCells_nil, take_full, appS_sl, appK_ok, appS_none, thenD_ag, agP_nil, agP_cons, g3]
  generalize hx : aCall T0 F_spec_OramBlocks _ _ = xhx
  obtain ⟨v2, X2, rfl, L2, p2, gr2, n2, k2⟩ := of_call hx hK2
  clear hx
  simp only at p2 gr2
  obtain ⟨a2, rfl⟩ := gr2.shape
  have pM2 := pM1.trans p2
  have gb2 := fun b => gc_boolp pM2 b
  have in1 := l_spec_DeepOk_1 M X2 pM2 a ys.length ys (gk.rep.mono p2) a2 two.length two gr2.rep (by omega) (fun b hb => (on2.2 b hb).1)
  simp only [Int.natCast_zero, Int.ofNat_zero] at in1
  rcases in1 with ⟨Y1, hY1, hall2, e'⟩ | ⟨⟨i, hi, hf⟩, e'⟩
  · rw [hY1] at e'
    have hA : two.all (kpB ys) = true := List.all_eq_true.2 fun b hb => by
      obtain ⟨i, hi, rfl⟩ := List.getElem_of_mem hb
      have := hall2 i hi
      rw [kpAt_get hi] at this
      exact this
    rw [hA]
    simp [thenD_pp, sliceCells_sl, sliceCells_z, sliceCells_nil, take_full, appS_sl, appK_ok, appS_none, thenD_ag, agP_nil, agP_cons, e']
    rw [S_spec_DeepOk_1]; unfold B_spec_DeepOk_1; simp [thenD_pp, sliceCells_sl, sliceCells_z, sliceCells_nil, take_full, appS_sl, appK_ok, appS_none, thenD_ag, agP_nil, agP_cons, gb2]
  · have hA : two.all (kpB ys) = false := by
      rw [List.all_eq_false]
      refine ⟨two[i], List.getElem_mem hi, ?_⟩
      rw [kpAt_get hi] at hf
      rw [hf]
      simp
    rw [hA]
    simp [thenD_pp, sliceCells_sl, sliceCells_z, sliceCells_nil, take_full, appS_sl, appK_ok, appS_none, thenD_ag, agP_nil, agP_cons, e']
theorem d_spec_DeepOk (M : Mem) (cs : List V) (d : ty_Deep.D) (h : Rep ty_Deep M cs d) (hb : Bd 1048576 ty_Deep d) : aCall T0 F_spec_DeepOk [.agg cs.toArray] M = some (.bool (deepB d), M) := by
  obtain ⟨⟨a1, a2, a3⟩, ⟨b1, b2, b3⟩, c⟩ := deep_bd hb
  obtain ⟨l, tb, x1, x2⟩ := d
  exact c_spec_DeepOk0 M cs l tb x1 x2 h _ _ _ rfl rfl rfl a1 a2 a3 b1 b2 b3
set_option maxHeartbeats 8000000 in
set_option maxRecDepth 20000 in
theorem c_laws_FnExactDeepOk (M : Mem) (v_d : List V) (d : ty_Deep.D) (h_d : Rep ty_Deep M v_d d) (hb_d : Bd 9223372036854775807 ty_Deep d) : ∃ M', aCall T0 F_laws_FnExactDeepOk [.agg v_d.toArray] M = some (.bool true, M') := by
  have hl_v_d : v_d.length = 16 := (h_d).len
  have ho_v_d := (h_d).one
  obtain ⟨l_d, s1_d, s2_d, s3_d⟩ := k_laws_szDeep (M ++ [⟨v_d, 1, 2⟩]) v_d d 1048576 (h_d.mono ((List.prefix_refl _).trans (List.prefix_append _ _))) hb_d (by omega) (by omega)
  have r1 : rdn (M ++ [⟨v_d, 1, 2⟩]) (M.length) 0 16 = some v_d := rdn_box (by first | simp | rfl) hl_v_d.symm
  by_cases hl_d : l_d < 0
  · refine ⟨M, ?_⟩
    rw [aCall_eq T_laws_FnExactDeepOk]; unfold A_laws_FnExactDeepOk C_laws_FnExactDeepOk; simp [thenD_pp, sliceCells_sl, sliceCells_z, sliceCells_nil, take_full, appS_sl, appK_ok, appS_none, thenD_ag, agP_nil, agP_cons, hl_v_d, ho_v_d, r1, s2_d, hl_d]
  have hb1_d := s3_d (by omega)
  have r2 : rdn (M ++ [⟨v_d, 1, 2⟩]) (M.length) 0 16 = some v_d := rdn_box (by first | simp | rfl) hl_v_d.symm
  obtain ⟨M3, u4, L5, p6, t7, o8, F9⟩ := k_laws_toDeep (M ++ [⟨v_d, 1, 2⟩]) v_d d (h_d.mono ((List.prefix_refl _).trans (List.prefix_append _ _))) hb1_d
  have f10 : ∀ l ∈ L5, M.length + 1 ≤ l ∧ l < M3.length := by intro l hl; have := F9.2 l hl; (try simp only [List.length_append, List.length_cons, List.length_nil] at this); omega
  have q11 : M <+: M3 := (List.prefix_append _ _).trans p6
  have ln12 : M.length + 1 ≤ M3.length := by have := p6.length_le; (try simp only [List.length_append, List.length_cons, List.length_nil] at this); omega
  have b13 : M3[M.length]? = some ⟨v_d, 1, 2⟩ := get_pre p6 (by simp)
  have z14 : M <+: M3 := (List.prefix_refl _).trans q11
  have hl_u4 : u4.length = 16 := (o8.rep).len
  have ho_u4 := (o8.rep).one
  have s16 := d_spec_DeepOk M3 u4 d ((Own.grow (List.prefix_refl _) o8)).rep hb1_d
  have r17 : rdn M3 (M.length) 0 16 = some v_d := rdn_box b13 hl_v_d.symm
  obtain ⟨M18, u19, L20, p21, t22, o23, F24⟩ := k_laws_toDeep M3 v_d d (h_d.mono (z14.trans (List.prefix_refl _))) hb1_d
  have f25 : ∀ l ∈ L20, M3.length ≤ l ∧ l < M18.length := by intro l hl; have := F24.2 l hl; (try simp only [List.length_append, List.length_cons, List.length_nil] at this); omega
  have q26 : M3 <+: M18 := (List.prefix_refl _).trans p21
  have ln27 : M3.length ≤ M18.length := by have := p21.length_le; (try simp only [List.length_append, List.length_cons, List.length_nil] at this); omega
  have b28 : M18[M.length]? = some ⟨v_d, 1, 2⟩ := get_pre q26 b13
  have z29 : M <+: M18 := z14.trans q26
  have y30 : M3 <+: M18 := (List.prefix_refl _).trans q26
  have hl_u19 : u19.length = 16 := (o23.rep).len
  have ho_u19 := (o23.rep).one
  have r32 : rdn (M18 ++ [⟨u19, 1, 2⟩]) (M18.length) 0 16 = some u19 := rdn_box (by first | simp | rfl) hl_u19.symm
  have s33 := d_impl_DeepOk (M18 ++ [⟨u19, 1, 2⟩]) u19 d ((Own.grow (List.prefix_append _ _) o23)).rep hb1_d
  have r34 : rdn (M18 ++ [⟨u19, 1, 2⟩]) (M18.length) 0 16 = some u19 := rdn_box (by first | simp | rfl) hl_u19.symm
  have r35 : rdn (M18 ++ [⟨u19, 1, 2⟩]) (M.length) 0 16 = some v_d := rdn_old (rdn_box b28 hl_v_d.symm)
  obtain ⟨M36, u37, L38, p39, t40, o41, F42⟩ := k_laws_toDeep (M18 ++ [⟨u19, 1, 2⟩]) v_d d (h_d.mono (z29.trans (List.prefix_append _ _))) hb1_d
  have f43 : ∀ l ∈ L38, M18.length + 1 ≤ l ∧ l < M36.length := by intro l hl; have := F42.2 l hl; (try simp only [List.length_append, List.length_cons, List.length_nil] at this); omega
  have q44 : M18 <+: M36 := (List.prefix_append _ _).trans p39
  have ln45 : M18.length + 1 ≤ M36.length := by have := p39.length_le; (try simp only [List.length_append, List.length_cons, List.length_nil] at this); omega
  have b46 : M36[M.length]? = some ⟨v_d, 1, 2⟩ := get_pre q44 b28
  have b47 : M36[M18.length]? = some ⟨u19, 1, 2⟩ := get_pre p39 (by simp)
  have o48 := Own.grow q44 o23
  have z49 : M <+: M36 := z29.trans q44
  have y50 : M3 <+: M36 := y30.trans q44
  have hl_u37 : u37.length = 16 := (o41.rep).len
  have ho_u37 := (o41.rep).one
  have e52 := (ans_of (k_laws_eqDeep M36 _ _ _ _ ((Own.grow (List.prefix_refl _) o48)).rep ((Own.grow (List.prefix_refl _) o41)).rep (hb1_d.mono (by decide)))).1 rfl
  rw [aCall_eq T_laws_FnExactDeepOk]; unfold A_laws_FnExactDeepOk C_laws_FnExactDeepOk; simp (maxSteps := 4000000) [thenD_pp, sliceCells_sl, sliceCells_z, sliceCells_nil, take_full, appS_sl, appK_ok, appS_none, thenD_ag, agP_nil, agP_cons, hl_v_d, ho_v_d, r1, s2_d, hl_d, r2, t7, p6, hl_u4, ho_u4, s16, r17, t22, p21, hl_u19, ho_u19, r32, s33, r34, r35, t40, p39, hl_u37, ho_u37, e52, thenD_pre]
  all_goals exact gc_ex _ _ _
theorem law_laws_FnExactDeepOk (M : Mem) (avs : List V) (_ : ∀ b ∈ M, b.st ≠ 2) (h : Ins [(true, (.pr (.int .i64) (.pr (.sl (.int .i64)) (.pr (.pr (.int .i64) (.pr (.int .i64) (.pr (.int .i64) (.pr (.pr (.int .i64) (.pr (.sl (.sl .u8)) (.sl (.pr (.int .i64) (.pr (.int .i64) (.int .i64)))))) (.sl (.pr (.int .i64) (.pr (.int .i64) (.sl .u8)))))))) (.pr (.int .i64) (.pr (.int .i64) (.pr (.int .i64) (.pr (.pr (.int .i64) (.pr (.sl (.sl .u8)) (.sl (.pr (.int .i64) (.pr (.int .i64) (.int .i64)))))) (.sl (.pr (.int .i64) (.pr (.int .i64) (.sl .u8))))))))))))] M avs) : ∃ M', aCall T0 F_laws_FnExactDeepOk avs M = some (.bool true, M') := by
  obtain ⟨v_d, _, d, rfl, h_d, f_d, h⟩ := ins_cons h
  obtain rfl := ins_nil h
  obtain ⟨c_d, rfl, h2_d⟩ := repv_agg h_d
  exact c_laws_FnExactDeepOk M c_d d h2_d (fit_bd f_d)
end GoAm
