/- What the functions do that the law reaches; and the law. -/
import Derived.Test.YtlniheedmeaeeaaOramOkl0
set_option autoImplicit false
set_option linter.unusedVariables false
set_option linter.unusedSimpArgs false
namespace GoAm
open Go
theorem c_impl_isMem (M : Mem) (cs : List V) (m : ty_Mem.D) (h : Rep ty_Mem M cs m) : aCall T0 F_impl_isMem [.agg cs.toArray] M = some (.bool (memB m), M) := by
  obtain ⟨a, b, c, d, rfl, r0, r1⟩ := mem_shape h
  unfold memB
  have hp : M <+: M ++ [⟨[.int .i64 m.1, .slice a m.2.1.length c, .slice b m.2.2.length d], 1, 2⟩] := List.prefix_append _ _
  have w1 := fun N : Mem => win_ok (M ++ N) m.1 1 1000
  rcases mem_cases m.1 m.2.1.length m.2.2.length with ⟨h0, hh⟩ | ⟨h0, ⟨h1, _⟩, ⟨_, h2⟩, ⟨h3, h3'⟩, ⟨h4, h4'⟩⟩
  · rw [h0, Bool.false_and]
    clear h0
    rcases hh with ⟨_, h1⟩ | ⟨⟨h1, _⟩, _, h2⟩ | ⟨⟨h1, _⟩, ⟨_, h2⟩, h3, h3'⟩ | ⟨⟨h1, _⟩, ⟨_, h2⟩, ⟨h3, h3'⟩, h4, h4'⟩
    · rw [decide_eq_false (fun q => h1 q.1)] at w1
      rw [aCall_eq T_impl_isMem]; unfold A_impl_isMem C_impl_isMem; simp [thenD_pp, sliceCells_sl, sliceCells_z, sliceCells_nil, take_full, appS_sl, appK_ok, appS_none, thenD_ag, agP_nil, agP_cons, w1]
    · rw [decide_eq_false (fun q => h2 q.2)] at w1
      rw [aCall_eq T_impl_isMem]; unfold A_impl_isMem C_impl_isMem; simp [thenD_pp, sliceCells_sl, sliceCells_z, sliceCells_nil, take_full, appS_sl, appK_ok, appS_none, thenD_ag, agP_nil, agP_cons, w1]
    · rw [within_ok h1 h2] at w1
      rw [aCall_eq T_impl_isMem]; unfold A_impl_isMem C_impl_isMem; simp [thenD_pp, sliceCells_sl, sliceCells_z, sliceCells_nil, take_full, appS_sl, appK_ok, appS_none, thenD_ag, agP_nil, agP_cons, w1, h3, h3']
    · rw [within_ok h1 h2] at w1
      rw [aCall_eq T_impl_isMem]; unfold A_impl_isMem C_impl_isMem; simp [thenD_pp, sliceCells_sl, sliceCells_z, sliceCells_nil, take_full, appS_sl, appK_ok, appS_none, thenD_ag, agP_nil, agP_cons, w1, h3, h3', h4, h4']
  rw [h0, Bool.true_and]
  rw [within_ok h1 h2] at w1
  rcases l_impl_isMem_0 M _ m a b c d M.length hp (by simp) r1 (by omega) (by omega) with ⟨X', hX, hX2, ha2, e2, hb⟩ | ⟨hn2, e2⟩
  · simp only [Int.natCast_zero, Int.ofNat_zero] at e2
    rw [atB_all ha2, Bool.and_true]
    have gb := fun b => gc_boolp hX b
    have ha := any_sl T_slices_ContainsFunc_impl_Cell_impl_Cell T_slices_IndexFunc_impl_Cell_impl_Cell rfl (r0.mono hX) (by omega) F_impl_isMem_1 [.pointer (some ⟨M.length, 0, none⟩)] (fun x => decide (¬ ((List.length (α := UInt8) x : Nat) : Int) = m.1)) (fun i hi cs hr => by
      obtain ⟨u, rfl⟩ := rep_cell1 hr
      exact c_impl_isMem_1 X' u _ hr M.length m.1 (by rw [rd1_K, hb]; rfl))
    have hall : (m.2.1.any (fun x => decide (¬ ((List.length (α := UInt8) x : Nat) : Int) = m.1))) = !(m.2.1.all (cellB m)) := by
      rw [List.any_eq_not_all_not]
      congr 2
      funext x
      unfold cellB
      simp
    rw [hall] at ha
    cases hq : m.2.1.all (cellB m) with
    | true =>
      rw [hq] at ha
      rw [aCall_eq T_impl_isMem]; unfold A_impl_isMem C_impl_isMem; simp [thenD_pp, sliceCells_sl, sliceCells_z, sliceCells_nil, take_full, appS_sl, appK_ok, appS_none, thenD_ag, agP_nil, agP_cons, w1, h3, h3', h4, h4', e2]
      rw [S_impl_isMem_0]; unfold B_impl_isMem_0; simp [thenD_pp, sliceCells_sl, sliceCells_z, sliceCells_nil, take_full, appS_sl, appK_ok, appS_none, thenD_ag, agP_nil, agP_cons, rd1_K, rdJ_ok, hb, gb, ha]
    | false =>
      rw [hq] at ha
      rw [aCall_eq T_impl_isMem]; unfold A_impl_isMem C_impl_isMem; simp [thenD_pp, sliceCells_sl, sliceCells_z, sliceCells_nil, take_full, appS_sl, appK_ok, appS_none, thenD_ag, agP_nil, agP_cons, w1, h3, h3', h4, h4', e2]
      rw [S_impl_isMem_0]; unfold B_impl_isMem_0; simp [thenD_pp, sliceCells_sl, sliceCells_z, sliceCells_nil, take_full, appS_sl, appK_ok, appS_none, thenD_ag, agP_nil, agP_cons, rd1_K, rdJ_ok, hb, gb, ha]
  · simp only [Int.natCast_zero, Int.ofNat_zero] at e2
    rw [atB_not hn2, Bool.and_false]
    rw [aCall_eq T_impl_isMem]; unfold A_impl_isMem C_impl_isMem; simp [thenD_pp, sliceCells_sl, sliceCells_z, sliceCells_nil, take_full, appS_sl, appK_ok, appS_none, thenD_ag, agP_nil, agP_cons, w1, h3, h3', h4, h4', e2]
set_option maxRecDepth 20000 in
set_option maxHeartbeats 2000000 in
theorem c_impl_oramBlocks (M : Mem) (l w b : Int) (m : ty_Mem.D) (st : List ty_Block.D) (aC : Option Addr) (cC : Nat) (aT : Option Addr) (cT : Nat) (aS : Option Addr) (cS : Nat)
    (hM : Rep ty_Mem M [.int .i64 m.1, .slice aC m.2.1.length cC, .slice aT m.2.2.length cT] m) (hS : Rep (.sl ty_Block) M [.slice aS st.length cS] st) (hz : BlkSz st) (hcz : m.2.1.length ≤ 1048576) :
    Sat (aCall T0 F_impl_oramBlocks [.agg (aO l w b m.1 aC m.2.1.length cC aT m.2.2.length cT aS st.length cS).toArray] M) (OrV M (orX l w b m st)) := by
  have e1 := fun M => c_impl_isLog M l
  have e2 := fun M => c_impl_within M w 1 200
  have e3 := fun M => c_impl_within M b 0 64
  have hlg : (decide (0 ≤ l) && decide (l ≤ 6)) = lgB l := rfl
  have hwd : (decide (1 ≤ w) && decide (w ≤ 200)) = wdB w := rfl
  have hbd : (decide (0 ≤ b) && decide (b ≤ 64)) = bdB b := rfl
  rw [hlg] at e1
  rw [hwd] at e2
  rw [hbd] at e3
  have e4 := fun N : Mem => c_impl_isMem (M ++ N) _ m (hM.mono (List.prefix_append _ _))
  have e5 := fun N : Mem => c_impl_isStash (M ++ N) _ st l w (hS.mono (List.prefix_append _ _)) hz.1
  have hnil : ∀ {X : Mem}, Gr (.sl ty_Block) X [.slice none 0 0] [] [] := Gr.nil
  have hpre : M <+: M ++ [(⟨aO l w b m.1 aC m.2.1.length cC aT m.2.2.length cT aS st.length cS, 1, 2⟩ : Blk)] := List.prefix_append _ _
  have fin : ∀ {o : Option (List ty_Block.D)} {r}, o = none → r = some (.tuple #[.slice none 0 0, .bool false], M ++ [(⟨aO l w b m.1 aC m.2.1.length cC aT m.2.2.length cT aS st.length cS, 1, 2⟩ : Blk)]) → Sat r (OrV M o) := fun ho hr => by
    subst ho
    subst hr
    exact ⟨(_, _), rfl, _, [], rfl, hpre, hnil, by simp, by simp⟩
  have hf : frO l w b m st = false → orX l w b m st = none := fun h => by unfold orX; rw [h]; rfl
  cases h1 : lgB l with
  | false =>
    rw [h1] at e1
    refine fin (hf (by unfold frO; simp [h1])) ?_
    rw [aCall_eq T_impl_oramBlocks]; unfold A_impl_oramBlocks C_impl_oramBlocks; simp [thenD_pp, sliceCells_sl, sliceCells_z, sliceCells_nil, take_full, appS_sl, appK_ok, appS_none, thenD_ag, agP_nil, agP_cons, e1]
  | true =>
  rw [h1] at e1
  cases h2 : wdB w with
  | false =>
    rw [h2] at e2
    refine fin (hf (by unfold frO; simp [h2])) ?_
    rw [aCall_eq T_impl_oramBlocks]; unfold A_impl_oramBlocks C_impl_oramBlocks; simp [thenD_pp, sliceCells_sl, sliceCells_z, sliceCells_nil, take_full, appS_sl, appK_ok, appS_none, thenD_ag, agP_nil, agP_cons, e1, e2]
  | true =>
  rw [h2] at e2
  cases h3 : bdB b with
  | false =>
    rw [h3] at e3
    refine fin (hf (by unfold frO; simp [h3])) ?_
    rw [aCall_eq T_impl_oramBlocks]; unfold A_impl_oramBlocks C_impl_oramBlocks; simp [thenD_pp, sliceCells_sl, sliceCells_z, sliceCells_nil, take_full, appS_sl, appK_ok, appS_none, thenD_ag, agP_nil, agP_cons, e1, e2, e3]
  | true =>
  rw [h3] at e3
  have hw : 1 ≤ w ∧ w ≤ 200 := by unfold wdB at h2; simpa using h2
  have hb : 0 ≤ b ∧ b ≤ 64 := by unfold bdB at h3; simpa using h3
  obtain ⟨k, rfl, hk⟩ := log_nat h1
  have hk0 : Int.toNat (k : Int) = k := by omega
  have e6 := fun M => c_impl_treeNodes M k _ hk rfl
  have w1 : IntKind.i64.wrap (w + 3) = w + 3 := wrap_i64 (by omega) (by omega)
  have w2 : IntKind.i64.wrap (4 * (w + 3)) = 4 * (w + 3) := wrap_i64 (by omega) (by omega)
  have hp6 : 2 ^ k ≤ 2 ^ 6 := Nat.pow_le_pow_right (by omega) hk
  have hp0 : 0 < 2 ^ k := Nat.two_pow_pos k
  have hN : ∃ N, N = 2 * 2 ^ k - 1 := ⟨_, rfl⟩
  obtain ⟨N, hN⟩ := hN
  cases h4 : memB m with
  | false =>
    rw [h4] at e4
    refine fin (hf (by unfold frO; simp [h4])) ?_
    rw [aCall_eq T_impl_oramBlocks]; unfold A_impl_oramBlocks C_impl_oramBlocks; simp [thenD_pp, sliceCells_sl, sliceCells_z, sliceCells_nil, take_full, appS_sl, appK_ok, appS_none, thenD_ag, agP_nil, agP_cons, e1, e2, e3, e4]
  | true =>
  rw [h4] at e4
  by_cases h5 : m.2.1.length = N
  · have hmb := mem_bnd h4
    rw [← hN, ← h5] at e6
    by_cases h6 : (m.1 : Int) = 4 * (w + 3)
    · have w2 : IntKind.i64.wrap (4 * (w + 3)) = m.1 := w2.trans h6.symm
      by_cases h7 : (st.length : Int) ≤ b
      · have h7' : ¬ b < (st.length : Int) := by omega
        cases h8 : stashB k w st with
        | false =>
          rw [h8] at e5
          refine fin (hf (by unfold frO; simp [h8])) ?_
          rw [aCall_eq T_impl_oramBlocks]; unfold A_impl_oramBlocks C_impl_oramBlocks; simp [thenD_pp, sliceCells_sl, sliceCells_z, sliceCells_nil, take_full, appS_sl, appK_ok, appS_none, thenD_ag, agP_nil, agP_cons, e1, e2, e3, e4, e5, e6, w1, w2, h7']
        | true =>
          rw [h8] at e5
          have hX : orX k w b m st = outO k w 1 m.2.1 st := by
            unfold orX
            rw [hk0, if_pos]
            unfold frO
            rw [h1, h2, h3, h4, hk0, ← hN, decide_eq_true h5, decide_eq_true h6, decide_eq_true h7, h8]
            rfl
          rw [hX]
          have hCB := fun N : Mem => c_impl_cloneBlocks (M ++ N) _ st (hS.mono (List.prefix_append _ _)) hz
          rw [aCall_eq T_impl_oramBlocks]; unfold A_impl_oramBlocks C_impl_oramBlocks; simp [thenD_pp, sliceCells_sl, sliceCells_z, sliceCells_nil, take_full, appS_sl, appK_ok, appS_none, thenD_ag, agP_nil, agP_cons, e1, e2, e3, e4, e5, e6, w1, w2, h7']
          generalize hx : aCall T0 F_impl_cloneBlocks _ _ = xhx
          obtain ⟨v1, X1, rfl, L1, p1, g1, n1, k1⟩ := of_call hx (hCB _)
          clear hx
          simp only at p1 g1
          have hbx := get_pre p1 (show (M ++ [(⟨aO k w b m.1 aC m.2.1.length cC aT m.2.2.length cT aS st.length cS, 1, 2⟩ : Blk)])[M.length]? = some _ from List.getElem?_concat_length)
          have hb4 : rd1 X1 M.length 4 = some (.slice aC m.2.1.length cC) := by simp [rd1, hbx]
          have st8 : st.length ≤ 128 ∧ blocksB k w st = true := by unfold stashB at h8; simpa using h8
          have key := l_oramBlocks_0 (M ++ [(⟨aO k w b m.1 aC m.2.1.length cC aT m.2.2.length cT aS st.length cS, 1, 2⟩ : Blk)]) M.length k w aC cC m.2.1 ((rep_g_Mem hM).elim fun u0 h => by
            obtain ⟨u1, e, _, r0, _⟩ := h
            cases e
            exact r0.mono hpre) (by simp [rd1]) (by simp [rd1]) hk (by omega) (fun c hc => by have := hmb.2.2 c hc; omega) m.2.1.length 0 (by omega) st v1 X1 ⟨p1, ⟨L1, g1, n1, k1⟩, blocks_lt st8.2, ids_of st8.2⟩
          rw [List.drop_zero] at key
          simp only [FoO, Int.natCast_zero, Int.ofNat_zero] at key
          cases ho : outO k w (0 + 1) m.2.1 st with
          | none =>
            rw [ho] at key
            obtain ⟨fr, X', e, q2, q3⟩ := key
            have pX := hpre.trans q3
            simp [thenD_pp, sliceCells_sl, sliceCells_z, sliceCells_nil, take_full, appS_sl, appK_ok, appS_none, thenD_ag, agP_nil, agP_cons, hb4, e]
            have q2 : (fr[2]?.getD und) = .slice none 0 0 ∧ (fr[3]?.getD und) = .bool false := by simpa [resOf] using q2
            rw [q2.1, q2.2, gc_not rfl]
            exact ⟨(_, X'), rfl, _, [], rfl, pX, hnil, by simp, by simp⟩
          | some a =>
            rw [ho] at key
            obtain ⟨v', X', ⟨q1, ⟨L', g2, n2, k2⟩, _, _⟩, e⟩ := key
            simp only [FoOn, FoO] at e
            have pX := hpre.trans q1
            simp [thenD_pp, sliceCells_sl, sliceCells_z, sliceCells_nil, take_full, appS_sl, appK_ok, appS_none, thenD_ag, agP_nil, agP_cons, hb4, e]
            obtain ⟨a5, rfl⟩ := g2.shape
            rw [S_impl_oramBlocks_0]; unfold B_impl_oramBlocks_0; simp [thenD_pp, sliceCells_sl, sliceCells_z, sliceCells_nil, take_full, appS_sl, appK_ok, appS_none, thenD_ag, agP_nil, agP_cons, pX]
            exact ⟨(_, X'), rfl, _, L', rfl, pX, g2, n2, fun j hj => by have := k2 j hj; simp at this; omega⟩
      · have h7' : b < (st.length : Int) := by omega
        refine fin (hf (by unfold frO; rw [decide_eq_false h7]; simp)) ?_
        rw [aCall_eq T_impl_oramBlocks]; unfold A_impl_oramBlocks C_impl_oramBlocks; simp [thenD_pp, sliceCells_sl, sliceCells_z, sliceCells_nil, take_full, appS_sl, appK_ok, appS_none, thenD_ag, agP_nil, agP_cons, e1, e2, e3, e4, e6, w1, w2, h7']
    · refine fin (hf (by unfold frO; rw [decide_eq_false h6]; simp)) ?_
      rw [aCall_eq T_impl_oramBlocks]; unfold A_impl_oramBlocks C_impl_oramBlocks; simp [thenD_pp, sliceCells_sl, sliceCells_z, sliceCells_nil, take_full, appS_sl, appK_ok, appS_none, thenD_ag, agP_nil, agP_cons, e1, e2, e3, e4, e6, w1, w2, h6]
  · have h5' : ¬ (m.2.1.length : Int) = (N : Int) := by omega
    refine fin (hf (by unfold frO; rw [hk0, ← hN, decide_eq_false h5]; simp)) ?_
    rw [← hN] at e6
    generalize m.2.1.length = nC at *
    rw [aCall_eq T_impl_oramBlocks]; unfold A_impl_oramBlocks C_impl_oramBlocks; simp [thenD_pp, sliceCells_sl, sliceCells_z, sliceCells_nil, take_full, appS_sl, appK_ok, appS_none, thenD_ag, agP_nil, agP_cons, e1, e2, e3, e4, e6, h5', h5]
theorem oram_shape {M : Mem} {cs : List V} {x : ty_Oram.D} (h : Rep ty_Oram M cs x) : ∃ (aC : Option Addr) (cC : Nat) (aT : Option Addr) (cT : Nat) (aS : Option Addr) (cS : Nat), cs = aO x.1 x.2.1 x.2.2.1 x.2.2.2.1.1 aC x.2.2.2.1.2.1.length cC aT x.2.2.2.1.2.2.length cT aS x.2.2.2.2.length cS ∧
    Rep ty_Mem M [.int .i64 x.2.2.2.1.1, .slice aC x.2.2.2.1.2.1.length cC, .slice aT x.2.2.2.1.2.2.length cT] x.2.2.2.1 ∧ Rep (.sl ty_Block) M [.slice aS x.2.2.2.2.length cS] x.2.2.2.2 := by
  obtain ⟨u0, u1, u2, rfl, w0, w1, w2, w3, r0, r1, r2⟩ := rep_g_Oram h
  obtain ⟨a, c, rfl⟩ := r0.slen
  obtain ⟨b, d, rfl⟩ := r1.slen
  obtain ⟨e, f, rfl⟩ := r2.slen
  exact ⟨a, c, b, d, e, f, rfl, mkrep_g_Mem w3 r0 r1, r2⟩
theorem c_impl_OramOk (M : Mem) (cs : List V) (x : ty_Oram.D) (h : Rep ty_Oram M cs x) (hz : BlkSz x.2.2.2.2) (hc : x.2.2.2.1.2.1.length ≤ 1048576) : aCall T0 F_impl_OramOk [.agg cs.toArray] M = some (.bool (orO x).isSome, M) := by
  obtain ⟨aC, cC, aT, cT, aS, cS, rfl, hM, hS⟩ := oram_shape h
  have hpre : M <+: M ++ [(⟨aO x.1 x.2.1 x.2.2.1 x.2.2.2.1.1 aC x.2.2.2.1.2.1.length cC aT x.2.2.2.1.2.2.length cT aS x.2.2.2.2.length cS, 1, 2⟩ : Blk)] := List.prefix_append _ _
  have key := c_impl_oramBlocks _ x.1 x.2.1 x.2.2.1 x.2.2.2.1 x.2.2.2.2 aC cC aT cT aS cS (hM.mono hpre) (hS.mono hpre) hz hc
  unfold orO
  generalize orX x.1 x.2.1 x.2.2.1 x.2.2.2.1 x.2.2.2.2 = o at *
  rw [aCall_eq T_impl_OramOk]; unfold A_impl_OramOk C_impl_OramOk; simp [thenD_pp, sliceCells_sl, sliceCells_z, sliceCells_nil, take_full, appS_sl, appK_ok, appS_none, thenD_ag, agP_nil, agP_cons]
  generalize hx : aCall T0 F_impl_oramBlocks _ _ = xhx
  obtain ⟨v1, X1, rfl, r, L1, rfl, p1, g1, n1, k1⟩ := of_call hx key
  clear hx
  simp only at p1 g1
  have gb := fun b => gc_boolp (hpre.trans p1) b
  simp [thenD_pp, sliceCells_sl, sliceCells_z, sliceCells_nil, take_full, appS_sl, appK_ok, appS_none, thenD_ag, agP_nil, agP_cons, gb]
theorem blkSz_of {xs : List ty_Block.D} (h : Bd 1048576 (.sl ty_Block) xs) : BlkSz xs := ⟨h.1, fun x hx => (h.2 x hx).2.2.1⟩
theorem oram_bd {x : ty_Oram.D} (h : Bd 1048576 ty_Oram x) : BlkSz x.2.2.2.2 ∧ x.2.2.2.1.2.1.length ≤ 1048576 ∧ ∀ c ∈ x.2.2.2.1.2.1, List.length (α := UInt8) c ≤ 1048576 := ⟨blkSz_of h.2.2.2.2, h.2.2.2.1.2.1.1, fun c hc => (h.2.2.2.1.2.1.2 c hc).1⟩
theorem d_impl_OramOk (M : Mem) (cs : List V) (x : ty_Oram.D) (h : Rep ty_Oram M cs x) (hb : Bd 1048576 ty_Oram x) : aCall T0 F_impl_OramOk [.agg cs.toArray] M = some (.bool (orO x).isSome, M) := by
  obtain ⟨h1, h2, h3⟩ := oram_bd hb
  exact c_impl_OramOk M cs x h h1 h2
theorem l_spec_l02Pow (M : Mem) : ∀ (n : Nat) (x : Int), 0 ≤ x → x * 2 ^ n ≤ 4611686018427387904 → n ≤ 1000 →
    ∃ e0 e1 e2 e4 e5 e6 e7 e8 e9 e10, lp (aCall T0) K_spec_l02Pow_0 L_spec_l02Pow_0 [.int .i64 n, und, und, .int .i64 x, und, und, und, und, und, und, und] M = some (.exit 0, [e0, e1, e2, .int .i64 (x * 2 ^ n), e4, e5, e6, e7, e8, e9, e10], M)
  | 0, x, _, _, _ => by
    rw [S_spec_l02Pow_0]; unfold B_spec_l02Pow_0; simp
  | n + 1, x, h0, h1, h2 => by
    have hp : (1 : Int) ≤ 2 ^ n := by
      have : (0 : Int) < 2 ^ n := Int.pow_pos (by omega)
      omega
    have e : x * 2 ^ (n + 1) = 2 * x * 2 ^ n := by rw [Int.pow_succ, ← Int.mul_assoc, Int.mul_right_comm, Int.mul_comm x 2]
    rw [e] at h1
    have hx : 2 * x ≤ 2 * x * 2 ^ n := by
      have := Int.mul_le_mul_of_nonneg_left hp (show (0 : Int) ≤ 2 * x by omega)
      simpa using this
    have ih := l_spec_l02Pow M n (2 * x) (by omega) h1 (by omega)
    rw [e]
    rw [S_spec_l02Pow_0]; unfold B_spec_l02Pow_0; simp
    rw [wrap_i64 (z := 2 * x) (by omega) (by omega), wrap_i64 (z := n) (by omega) (by omega)]
    exact ih
theorem c_spec_l02Pow (M : Mem) (n : Nat) (h : n ≤ 60) : aCall T0 F_spec_l02Pow [.int .i64 n] M = some (.int .i64 (2 ^ n), M) := by
  obtain ⟨e0, e1, e2, e4, e5, e6, e7, e8, e9, e10, ih⟩ := l_spec_l02Pow M n 1 (by omega) (by
    have : (2 : Int) ^ n ≤ 2 ^ 60 := pow2_le h
    omega) (by omega)
  rw [aCall_eq T_spec_l02Pow]; unfold A_spec_l02Pow C_spec_l02Pow; simp [ih]
theorem c_spec_l11Log (M : Mem) (x : Int) : aCall T0 F_spec_l11Log [.int .i64 x] M = some (.bool (decide (0 ≤ x) && decide (x ≤ 6)), M) := by
  rw [aCall_eq T_spec_l11Log]; unfold A_spec_l11Log C_spec_l11Log; simp
  repeat' ((first | rw [selO_some] | rw [condR_bool] | rw [selD_some]); split <;> rename_i hq <;> (have hq2 := hq) <;> (try simp at hq2) <;> (try simp [*]))
theorem c_spec_l11Leaf (M : Mem) (l x : Int) : aCall T0 F_spec_l11Leaf [.int .i64 l, .int .i64 x] M = some (.bool (leafB l x), M) := by
  unfold leafB
  cases h : lgB l with
  | false =>
    have e : (decide (0 ≤ l) && decide (l ≤ 6)) = false := h
    rw [aCall_eq T_spec_l11Leaf]; unfold A_spec_l11Leaf C_spec_l11Leaf; simp [c_spec_l11Log, e]
  | true =>
    have e : (decide (0 ≤ l) && decide (l ≤ 6)) = true := h
    obtain ⟨m, rfl, hm⟩ := log_nat h
    have e2 := fun M => (c_spec_l11Log M m).trans (by rw [e])
    have e3 := fun M => c_spec_l02Pow M m (by omega)
    by_cases h1 : 0 ≤ x
    · rw [aCall_eq T_spec_l11Leaf]; unfold A_spec_l11Leaf C_spec_l11Leaf; simp [e2, e3, h1]
    · rw [aCall_eq T_spec_l11Leaf]; unfold A_spec_l11Leaf C_spec_l11Leaf; simp [e2, e3, h1]
theorem c_spec_l12Frame (M : Mem) (l w : Int) : aCall T0 F_spec_l12Frame [.int .i64 l, .int .i64 w] M = some (.bool (decide (0 ≤ l) && decide (l ≤ 6) && (decide (1 ≤ w) && decide (w ≤ 200))), M) := by
  rw [aCall_eq T_spec_l12Frame]; unfold A_spec_l12Frame C_spec_l12Frame; simp [c_spec_l11Log]
  rcases hp : (decide (0 ≤ l) && decide (l ≤ 6)) with _ | _
  · simp [hp]
  · simp [hp]
    by_cases h1 : 1 ≤ w <;> simp [h1]
theorem c_spec_BlockOk (M : Mem) (cs : List V) (b : ty_Block.D) (h : Rep ty_Block M cs b) (l w : Int) : aCall T0 F_spec_BlockOk [.agg cs.toArray, .int .i64 l, .int .i64 w] M = some (.bool (blockB l w b), M) := by
  obtain ⟨u, rfl, w0, w1, hr⟩ := rep_g_Block h
  obtain ⟨a, c, rfl⟩ := hr.slen
  unfold blockB
  have e1 := fun M => c_spec_l12Frame M l w
  have e2 := fun M => c_spec_l11Leaf M l b.2.1
  cases h1 : lgB l && wdB w with
  | false =>
    have h1 : (decide (0 ≤ l) && decide (l ≤ 6) && (decide (1 ≤ w) && decide (w ≤ 200))) = false := h1
    rw [aCall_eq T_spec_BlockOk]; unfold A_spec_BlockOk C_spec_BlockOk; simp [e1, h1]
  | true =>
    have h1 : (decide (0 ≤ l) && decide (l ≤ 6) && (decide (1 ≤ w) && decide (w ≤ 200))) = true := h1
    unfold bidB
    by_cases h2 : 0 ≤ b.1
    · by_cases h3 : b.1 ≤ 255
      · cases h4 : leafB l b.2.1
        · rw [aCall_eq T_spec_BlockOk]; unfold A_spec_BlockOk C_spec_BlockOk; simp [e1, h1, h2, h3, e2, h4]
        · rw [aCall_eq T_spec_BlockOk]; unfold A_spec_BlockOk C_spec_BlockOk; simp [e1, h1, h2, h3, e2, h4]
      · rw [aCall_eq T_spec_BlockOk]; unfold A_spec_BlockOk C_spec_BlockOk; simp [e1, h1, h2, h3, e2]
    · rw [aCall_eq T_spec_BlockOk]; unfold A_spec_BlockOk C_spec_BlockOk; simp [e1, h1, h2, e2]
theorem l_spec_BlocksOk_0 (M : Mem) (a : Option Addr) (c : Nat) (xs : List ty_Block.D) (l w : Int) (h : Rep (.sl ty_Block) M [.slice a xs.length c] xs) (hn : xs.length ≤ 1048576) :
    ((∀ i, i < xs.length → stepB l w xs i = true) ∧ lp (aCall T0) K_spec_BlocksOk_0 L_spec_BlocksOk_0 [.slice a xs.length c, .int .i64 l, .int .i64 w, und, und, und, und, .int .i64 (0 : Nat), und, und, und, und, und, und, und, und, und, und, und, und, und, und, und, und, und, und, und, und, und, und, und, und, und, und, und, und, und, und, und, und, und, und, und, und] M = lp (aCall T0) K_spec_BlocksOk_0 L_spec_BlocksOk_0 [.slice a xs.length c, .int .i64 l, .int .i64 w, und, und, und, und, .int .i64 xs.length, und, und, und, und, und, und, und, und, und, und, und, und, und, und, und, und, und, und, und, und, und, und, und, und, und, und, und, und, und, und, und, und, und, und, und, und] M) ∨
    ((∃ i, i < xs.length ∧ stepB l w xs i = false) ∧ ∀ k, thenF M [.tmp 6] (thenS (blockR 0 (lp (aCall T0) K_spec_BlocksOk_0 L_spec_BlocksOk_0 [.slice a xs.length c, .int .i64 l, .int .i64 w, und, und, und, und, .int .i64 (0 : Nat), und, und, und, und, und, und, und, und, und, und, und, und, und, und, und, und, und, und, und, und, und, und, und, und, und, und, und, und, und, und, und, und, und, und, und, und] M)) (aCall T0) k) = some (.bool false, M)) := by
  have key := loop_ok (call := aCall T0) (K := K_spec_BlocksOk_0) (L := L_spec_BlocksOk_0) (fun _ Y => Y = M) (fun i => [.slice a xs.length c, .int .i64 l, .int .i64 w, und, und, und, und, .int .i64 i, und, und, und, und, und, und, und, und, und, und, und, und, und, und, und, und, und, und, und, und, und, und, und, und, und, und, und, und, und, und, und, und, und, und, und, und]) (stepB l w xs) (n := xs.length) (M0 := M) (rs := [.tmp 6]) (k0 := 0) (a := .bool false) M rfl ?_ ?_
  · rcases key with ⟨X', rfl, h1, h2⟩ | h
    · exact .inl ⟨h1, h2⟩
    · exact .inr h
  · intro i Y hi hq e
    subst e
    have e6 : IntKind.i64.wrap ((i : Int) + 1) = i + 1 := wrap_i64 (by omega) (by omega)
    have e8 : IntKind.i64.wrap 1 = 1 := wrap_i64 (by omega) (by omega)
    obtain ⟨b, o, u, rfl, q1, q2, q3, q4, _, _, qu, qr⟩ := at_Block h hi
    have hc := c_spec_BlockOk Y _ _ qr l w
    rcases Nat.eq_zero_or_pos i with h0 | h0
    · subst h0
      rw [stepB_zero hi] at hq
      refine ⟨Y, rfl, ?_⟩
      simp only [Int.natCast_zero, Int.ofNat_zero, Nat.zero_mul, Nat.add_zero] at *
      rw [S_spec_BlocksOk_0]; unfold B_spec_BlocksOk_0; simp [thenD_pp, sliceCells_sl, sliceCells_z, sliceCells_nil, take_full, appS_sl, appK_ok, appS_none, thenD_ag, agP_nil, agP_cons, hi, q4, hc, hq, e6, e8]
    · rw [stepB_pos hi h0, Bool.and_eq_true] at hq
      have hi' : (0 : Int) < (i : Int) := by omega
      have e7 : IntKind.i64.wrap ((i : Int) - 1) = ((i - 1 : Nat) : Int) := by rw [wrap_i64 (by omega) (by omega)]; omega
      obtain ⟨b', o', u', e, q1', _⟩ := at_Block h (i := i - 1) (by omega)
      cases e
      have hlt := of_decide_eq_true hq.2
      have hge : ¬ (xs[i].1 ≤ (xs[i - 1]'(by omega)).1) := Int.not_le.2 hlt
      have hi1 : i - 1 < xs.length := by omega
      refine ⟨Y, rfl, ?_⟩
      rw [S_spec_BlocksOk_0]; unfold B_spec_BlocksOk_0; simp [thenD_pp, sliceCells_sl, sliceCells_z, sliceCells_nil, take_full, appS_sl, appK_ok, appS_none, thenD_ag, agP_nil, agP_cons, hi, q4, hc, hq.1, e6, hi', h0, e7, q1', q1, hge, hi1]
  · intro i Y hi hq e k
    subst e
    have e6 : IntKind.i64.wrap ((i : Int) + 1) = i + 1 := wrap_i64 (by omega) (by omega)
    have e8 : IntKind.i64.wrap 1 = 1 := wrap_i64 (by omega) (by omega)
    obtain ⟨b, o, u, rfl, q1, q2, q3, q4, _, _, qu, qr⟩ := at_Block h hi
    have hc := c_spec_BlockOk Y _ _ qr l w
    rcases Nat.eq_zero_or_pos i with h0 | h0
    · subst h0
      rw [stepB_zero hi] at hq
      simp only [Int.natCast_zero, Int.ofNat_zero, Nat.zero_mul, Nat.add_zero] at *
      rw [S_spec_BlocksOk_0]; unfold B_spec_BlocksOk_0; simp [thenD_pp, sliceCells_sl, sliceCells_z, sliceCells_nil, take_full, appS_sl, appK_ok, appS_none, thenD_ag, agP_nil, agP_cons, hi, q4, hc, hq, e6, e8]
    · rw [stepB_pos hi h0] at hq
      have hi' : (0 : Int) < (i : Int) := by omega
      have e7 : IntKind.i64.wrap ((i : Int) - 1) = ((i - 1 : Nat) : Int) := by rw [wrap_i64 (by omega) (by omega)]; omega
      obtain ⟨b', o', u', e, q1', _⟩ := at_Block h (i := i - 1) (by omega)
      cases e
      have hi1 : i - 1 < xs.length := by omega
      cases hb : blockB l w xs[i] with
      | false =>
        rw [hb] at hc
        rw [S_spec_BlocksOk_0]; unfold B_spec_BlocksOk_0; simp [thenD_pp, sliceCells_sl, sliceCells_z, sliceCells_nil, take_full, appS_sl, appK_ok, appS_none, thenD_ag, agP_nil, agP_cons, hi, q4, hc, e6]
      | true =>
        rw [hb] at hc
        rw [hb, Bool.true_and] at hq
        have hlt := of_decide_eq_false hq
        have hge : xs[i].1 ≤ (xs[i - 1]'(by omega)).1 := Int.not_lt.1 hlt
        rw [S_spec_BlocksOk_0]; unfold B_spec_BlocksOk_0; simp [thenD_pp, sliceCells_sl, sliceCells_z, sliceCells_nil, take_full, appS_sl, appK_ok, appS_none, thenD_ag, agP_nil, agP_cons, hi, q4, hc, e6, hi', h0, e7, q1', q1, hge, hi1]
theorem c_spec_BlocksOk (M : Mem) (v : V) (xs : List ty_Block.D) (l w : Int) (h : Rep (.sl ty_Block) M [v] xs) (hn : xs.length ≤ 1048576) : aCall T0 F_spec_BlocksOk [v, .int .i64 l, .int .i64 w] M = some (.bool (blocksB l w xs), M) := by
  obtain ⟨a, c, rfl⟩ := h.slen
  have e1 := c_spec_l12Frame M l w
  unfold blocksB
  cases h1 : lgB l && wdB w with
  | false =>
    have h1 : (decide (0 ≤ l) && decide (l ≤ 6) && (decide (1 ≤ w) && decide (w ≤ 200))) = false := h1
    rw [aCall_eq T_spec_BlocksOk]; unfold A_spec_BlocksOk C_spec_BlocksOk; simp [thenD_pp, sliceCells_sl, sliceCells_z, sliceCells_nil, take_full, appS_sl, appK_ok, appS_none, thenD_ag, agP_nil, agP_cons, e1, h1]
  | true =>
    have h1 : (decide (0 ≤ l) && decide (l ≤ 6) && (decide (1 ≤ w) && decide (w ≤ 200))) = true := h1
    rcases l_spec_BlocksOk_0 M a c xs l w h hn with ⟨ha, e⟩ | ⟨hx, e⟩
    · simp only [Int.natCast_zero, Int.ofNat_zero] at e
      rw [rall_all ha]
      rw [aCall_eq T_spec_BlocksOk]; unfold A_spec_BlocksOk C_spec_BlocksOk; simp [thenD_pp, sliceCells_sl, sliceCells_z, sliceCells_nil, take_full, appS_sl, appK_ok, appS_none, thenD_ag, agP_nil, agP_cons, e1, h1, e]
      rw [S_spec_BlocksOk_0]; unfold B_spec_BlocksOk_0; simp [thenD_pp, sliceCells_sl, sliceCells_z, sliceCells_nil, take_full, appS_sl, appK_ok, appS_none, thenD_ag, agP_nil, agP_cons]
    · simp only [Int.natCast_zero, Int.ofNat_zero] at e
      rw [rall_not hx]
      rw [aCall_eq T_spec_BlocksOk]; unfold A_spec_BlocksOk C_spec_BlocksOk; simp [thenD_pp, sliceCells_sl, sliceCells_z, sliceCells_nil, take_full, appS_sl, appK_ok, appS_none, thenD_ag, agP_nil, agP_cons, e1, h1, e]
theorem c_spec_StashOk (M : Mem) (v : V) (xs : List ty_Block.D) (l w : Int) (h : Rep (.sl ty_Block) M [v] xs) (hn : xs.length ≤ 1048576) : aCall T0 F_spec_StashOk [v, .int .i64 l, .int .i64 w] M = some (.bool (stashB l w xs), M) := by
  have e1 := c_spec_BlocksOk M v xs l w h hn
  obtain ⟨a, c, rfl⟩ := h.slen
  unfold stashB
  by_cases hs : xs.length ≤ 128
  · have hs' : (xs.length : Int) ≤ 128 := by omega
    rw [aCall_eq T_spec_StashOk]; unfold A_spec_StashOk C_spec_StashOk; simp [thenD_pp, sliceCells_sl, sliceCells_z, sliceCells_nil, take_full, appS_sl, appK_ok, appS_none, thenD_ag, agP_nil, agP_cons, e1, hs, hs']
  · have hs' : ¬ (xs.length : Int) ≤ 128 := by omega
    rw [aCall_eq T_spec_StashOk]; unfold A_spec_StashOk C_spec_StashOk; simp [thenD_pp, sliceCells_sl, sliceCells_z, sliceCells_nil, take_full, appS_sl, appK_ok, appS_none, thenD_ag, agP_nil, agP_cons, e1, hs, hs']
abbrev ty_Node : Ty := .sl ty_Block
def ndsF (w : Int) (cells : List ty_Cell.D) : List ty_Node.D := cells.map fun c => ndB (Int.toNat w) c
def NsV (M : Mem) (ok : Bool) (xs : List ty_Node.D) (p : V × Mem) : Prop := ∃ r L, p.1 = .tuple #[r, .bool ok] ∧ M <+: p.2 ∧ Gr (.sl ty_Node) p.2 [r] xs L ∧ L.Nodup ∧ ∀ j ∈ L, M.length ≤ j
def ndAt (l w : Int) (cells : List ty_Cell.D) (i : Nat) : Bool := match cells[i]? with
  | some c => ndOk l w c
  | none => true
theorem ndAt_get {l w : Int} {cells : List ty_Cell.D} {i : Nat} (hi : i < cells.length) : ndAt l w cells i = ndOk l w cells[i] := by unfold ndAt; rw [List.getElem?_eq_getElem hi]
theorem c_spec_NodeOk (M : Mem) (u : V) (bs : List ty_Block.D) (l w : Int) (h : Rep (.sl ty_Block) M [u] bs) (hn : bs.length ≤ 1048576) : aCall T0 F_spec_NodeOk [.agg #[u], .int .i64 l, .int .i64 w] M = some (.bool (decide (bs.length ≤ 4) && blocksB l w bs), M) := by
  have hp : M <+: M ++ [(⟨[u], 1, 2⟩ : Blk)] := List.prefix_append _ _
  have e1 := c_spec_BlocksOk _ u bs l w (h.mono hp) hn
  obtain ⟨a, c, rfl⟩ := h.slen
  by_cases h4 : bs.length ≤ 4
  · have h4' : (bs.length : Int) ≤ 4 := by omega
    rw [decide_eq_true h4, Bool.true_and]
    rw [aCall_eq T_spec_NodeOk]; unfold A_spec_NodeOk C_spec_NodeOk; simp [thenD_pp, sliceCells_sl, sliceCells_z, sliceCells_nil, take_full, appS_sl, appK_ok, appS_none, thenD_ag, agP_nil, agP_cons, h4, h4', e1]
  · have h4' : ¬ (bs.length : Int) ≤ 4 := by omega
    rw [decide_eq_false h4, Bool.false_and]
    rw [aCall_eq T_spec_NodeOk]; unfold A_spec_NodeOk C_spec_NodeOk; simp [thenD_pp, sliceCells_sl, sliceCells_z, sliceCells_nil, take_full, appS_sl, appK_ok, appS_none, thenD_ag, agP_nil, agP_cons, h4, h4', e1]
set_option maxHeartbeats 1000000 in
theorem l_spec_NodeOf_0 (M0 : Mem) (w p : Nat) (a : Option Addr) (c : Nat) (bs : List ty_Block.D) (hp : M0[p]? = some ⟨[.slice a bs.length c], 1, 2⟩) (h : Rep (.sl ty_Block) M0 [.slice a bs.length c] bs) (hn : bs.length ≤ 1000) (hw : w ≤ 200) (hk : BkOk w bs) (v : V) (Z : Mem) (hZ : NoI M0 [] v Z) :
    ∃ v' X', NoI M0 bs v' X' ∧ lp (aCall T0) K_spec_NodeOf_0 L_spec_NodeOf_0 [und, und, .int .i64 (w : Int), .pointer (some ⟨p, 0, none⟩), und, und, und, v, .int .i64 (0 : Nat), und, und, und, und, und, und, und, und, und, und, und, und, und, und, und, und, und, und, und, und, und, und, und, und, und, und, und, und, und, und, und, und, und, und, und, und, und, und, und, und, und, und, und, und, und] Z = lp (aCall T0) K_spec_NodeOf_0 L_spec_NodeOf_0 [und, und, .int .i64 (w : Int), .pointer (some ⟨p, 0, none⟩), und, und, und, v', .int .i64 bs.length, und, und, und, und, und, und, und, und, und, und, und, und, und, und, und, und, und, und, und, und, und, und, und, und, und, und, und, und, und, und, und, und, und, und, und, und, und, und, und, und, und, und, und, und, und] X' := by
  have key := loop_to (call := aCall T0) (K := K_spec_NodeOf_0) (L := L_spec_NodeOf_0) (fun i v X => NoI M0 (bs.take i) v X) (fun i v => [und, und, .int .i64 (w : Int), .pointer (some ⟨p, 0, none⟩), und, und, und, v, .int .i64 i, und, und, und, und, und, und, und, und, und, und, und, und, und, und, und, und, und, und, und, und, und, und, und, und, und, und, und, und, und, und, und, und, und, und, und, und, und, und, und, und, und, und, und, und, und]) (n := bs.length) ?_ 0 v Z (by omega) (by simpa using hZ)
  · rw [List.take_length] at key
    exact key
  intro i v X hi ⟨pX, hg⟩
  have e6 : IntKind.i64.wrap ((i : Int) + 1) = i + 1 := wrap_i64 (by omega) (by omega)
  have hkt : BkOk w (bs.take i) := fun b hb => hk b (List.mem_of_mem_take hb)
  have hlen := blksY_len hkt
  have hle : (bs.take i).length * (w + 3) ≤ 1000 * 203 := Nat.mul_le_mul (by rw [List.length_take]; omega) (by omega)
  obtain ⟨l, o, u, rfl, q1, q2, q3, _, _, _, hq0, _⟩ := at_Block h hi
  have hki := hk _ (List.getElem_mem hi)
  unfold NoI
  rw [blksY_succ hi]
  have hp0 : rd1 M0 p 0 = some (.slice (some ⟨l, o, none⟩) bs.length c) := rd1_of_rdn (rdn_box hp rfl) (k := 0) rfl
  generalize bs[i] = b at *
  generalize blksY (bs.take i) = ys at *
  obtain ⟨b1, b2, b3⟩ := b
  simp only at q1 q2 q3 hki hq0
  obtain ⟨h1, h2, h3⟩ := hki
  obtain ⟨y1, z1⟩ := byte_int h1
  obtain ⟨y2, z2⟩ := byte_int h2
  obtain ⟨ua, uc, hu, hsc⟩ := cells_Byte hq0
  cases hu
  have hll : ∀ x ∈ wfs v, M0.length ≤ x := hg.ge
  have hlp := get_lt hp
  have hlM : l < M0.length := rd1_lt q1
  obtain ⟨av, rfl⟩ := hg.shape
  have r0 := r1_pre pX hp0
  have r1 := r1_pre pX q1
  have r2 := r1_pre pX q2
  have hA : ∀ zs : List Nat, (∀ y ∈ zs, y = l ∨ y = p) → hits (wfs (.slice av ys.length ys.length)) zs = false := fun zs hz => hits_ge (K := M0.length) hll (fun y hy => by rcases hz y hy with h | h <;> omega)
  have hA2 := hA [l, p, l, p] (by simp)
  rw [S_spec_NodeOf_0]; unfold B_spec_NodeOf_0; simp [thenD_pp, sliceCells_sl, sliceCells_z, sliceCells_nil, take_full, appS_sl, appK_ok, appS_none, thenD_ag, agP_nil, agP_cons, hi, r0, r1, r2, zeroCells, z1, z2]
  generalize hy : appS _ _ _ _ _ _ = xhy
  obtain ⟨a2, X2, rfl, hg2, ag2, hl2, hw2⟩ := grow_app hg hy (List.prefix_append _ _) (by have := pX.length_le; omega) (by rfl) (by rfl) (by omega) (by omega)
  clear hy
  have hpX : M0 <+: X2 := ag2.pre (pf_app pX) hg.ge
  have r02 := r1_pre hpX hp0
  have r32 := r1_pre hpX q3
  obtain ⟨_, _, hu2, hsc2⟩ := cells_Byte (hq0.mono hpX)
  cases hu2
  simp [thenD_pp, sliceCells_sl, sliceCells_z, sliceCells_nil, take_full, appS_sl, appK_ok, appS_none, thenD_ag, agP_nil, agP_cons, thenD_agree, ag2, hA2, hi, r02, r32, hsc2]
  generalize hy : appS _ _ _ _ _ _ = xhy
  obtain ⟨a3, X3, rfl, hg3, ag3, hl3, hw3⟩ := grow_app hg2 hy (List.prefix_refl _) (by have := hpX.length_le; omega) (by simp) (map_byte_all _) (by omega) (by omega)
  clear hy
  have hpX3 : M0 <+: X3 := ag3.pre hpX hg2.ge
  simp [thenD_pp, sliceCells_sl, sliceCells_z, sliceCells_nil, take_full, appS_sl, appK_ok, appS_none, thenD_ag, agP_nil, agP_cons, e6]
  refine ⟨_, X3, ⟨hpX3, ?_⟩, rfl⟩
  have hl4 : (blkY (b1, b2, b3)).length = 3 + List.length (α := UInt8) b3 := blkY_len _
  have hc4 : (blkY (b1, b2, b3)).map byteV = [.int .u8 1, .int .u8 b1, .int .u8 b2] ++ List.map byteV b3 := by
    unfold blkY
    simp only [List.map_cons, byteV_one, y1, y2]
    rfl
  rw [hl4, hc4]
  simpa [Nat.add_assoc] using hg3
theorem c_spec_NodeSize (M : Mem) (w sz : Nat) (h1 : 1 ≤ w) (h2 : w ≤ 200) (hs : (sz : Int) = 4 * ((w : Int) + 3)) : aCall T0 F_spec_NodeSize [.int .i64 w] M = some (.int .i64 sz, M) := by
  have e1 : IntKind.i64.wrap ((w : Int) + 3) = w + 3 := wrap_i64 (by omega) (by omega)
  have e2 : IntKind.i64.wrap (4 * ((w : Int) + 3)) = sz := by rw [hs]; exact wrap_i64 (by omega) (by omega)
  have g1 : ¬ (w : Int) < 1 := by omega
  have g2 : ¬ 200 < (w : Int) := by omega
  rw [aCall_eq T_spec_NodeSize]; unfold A_spec_NodeSize C_spec_NodeSize; simp [g1, g2, e1, e2]
theorem c_spec_NodeOf (M : Mem) (u : V) (bs : List ty_Block.D) (l : Int) (w : Nat) (h : Rep (.sl ty_Block) M [u] bs) (hn : bs.length ≤ 1048576) (hw : w ≤ 200) (hw1 : 1 ≤ w) : Sat (aCall T0 F_spec_NodeOf [.agg #[u], .int .i64 l, .int .i64 (w : Int)] M) (Bytes M (if (decide (bs.length ≤ 4) && blocksB l w bs) = true then ndY w bs else [])) := by
  have hpre : M <+: M ++ [(⟨[u], 1, 2⟩ : Blk)] := List.prefix_append _ _
  have e0 := c_spec_NodeOk _ u bs l w (h.mono hpre) hn
  obtain ⟨a, c, rfl⟩ := h.slen
  have hpr : rdn (M ++ [(⟨[.slice a bs.length c], 1, 2⟩ : Blk)]) M.length 0 1 = some [.slice a bs.length c] := rdn_box (by simp) rfl
  cases hb : decide (bs.length ≤ 4) && blocksB l w bs with
  | false =>
    rw [hb] at e0
    rw [aCall_eq T_spec_NodeOf]; unfold A_spec_NodeOf C_spec_NodeOf; simp [thenD_pp, sliceCells_sl, sliceCells_z, sliceCells_nil, take_full, appS_sl, appK_ok, appS_none, thenD_ag, agP_nil, agP_cons, e0, hpr]
    exact ⟨(_, _), rfl, 0, rfl, hpre, Grow.nil⟩
  | true =>
    rw [hb] at e0
    rw [if_pos rfl]
    rw [Bool.and_eq_true] at hb
    have h4 := of_decide_eq_true hb.1
    have hlg : lgB l = true := by
      have := hb.2
      unfold blocksB at this
      simp only [Bool.and_eq_true] at this
      exact this.1.1
    obtain ⟨m, rfl, hm⟩ := log_nat hlg
    have hk := bk_of hm hb.2
    obtain ⟨v', X', ⟨pX, hg⟩, e⟩ := l_spec_NodeOf_0 (M ++ [⟨[.slice a bs.length c], 1, 2⟩]) w M.length a c bs (by simp) (h.mono hpre) (by omega) hw hk (.slice (some ⟨M.length + 1, 0, none⟩) 0 0) (M ++ [⟨[.slice a bs.length c], 1, 2⟩, ⟨[], 1, 2⟩]) ⟨by simp, by simp, .inr ⟨M.length + 1, by simp, rfl, by simp [blksY]⟩⟩
    simp only [Int.natCast_zero, Int.ofNat_zero] at e
    have hlen := blksY_len hk
    have hle : bs.length * (w + 3) ≤ 4 * (w + 3) := Nat.mul_le_mul_right _ h4
    have e1 := fun X => c_spec_NodeSize X w (4 * (w + 3)) hw1 hw (by omega)
    have e3 : IntKind.i64.wrap (((4 * (w + 3) : Nat) : Int) - ((blksY bs).length : Int)) = ((4 * (w + 3) - (blksY bs).length : Nat) : Int) := by rw [wrap_i64 (by omega) (by omega)]; omega
    have hbd1 : (((4 * (w + 3) - (blksY bs).length : Nat) : Int)) ≤ 9223372036854775807 := by omega
    have hbd2 : (((4 * (w + 3) - (blksY bs).length : Nat) : Int)) ≤ 281474976710656 := by omega
    obtain ⟨v2, X2, q, g2⟩ := bg_padz (⟨_, rfl, pX, hg⟩ : BG (M ++ [⟨[.slice a bs.length c], 1, 2⟩]) X' v' (blksY bs)) rfl (4 * (w + 3) - (blksY bs).length) (by omega)
    obtain ⟨av, rfl⟩ := hg.shape
    obtain ⟨n2, hn2, hp2, hg2⟩ := id g2
    obtain ⟨a2, rfl⟩ := hg2.shape
    generalize hm : 4 * (w + 3) - (blksY bs).length = mm at *
    generalize hsz : 4 * (w + 3) = sz at *
    have hp1 := r1_pre pX (rd1_of_rdn hpr (k := 0) rfl)
    rw [aCall_eq T_spec_NodeOf]; unfold A_spec_NodeOf C_spec_NodeOf; simp [thenD_pp, sliceCells_sl, sliceCells_z, sliceCells_nil, take_full, appS_sl, appK_ok, appS_none, thenD_ag, agP_nil, agP_cons, e0, hpr, e, zeroCells]
    rw [S_spec_NodeOf_0]; unfold B_spec_NodeOf_0; simp [thenD_pp, sliceCells_sl, sliceCells_z, sliceCells_nil, take_full, appS_sl, appK_ok, appS_none, thenD_ag, agP_nil, agP_cons, hp1, e1, e3, q, hbd1, hbd2]
    refine ⟨(_, X2), rfl, n2, ?_, hpre.trans hp2, ?_⟩
    · unfold ndY; rw [hsz, hm]; exact hn2
    · unfold ndY; rw [hsz, hm]; exact hg2.le (by simp)
def SnI (M : Mem) (xs : List ty_Block.D) (X : Mem) : Prop := ∃ v L, M <+: X ∧ X[M.length]? = some ⟨[.slice none 0 0], 1, 2⟩ ∧ X[M.length + 1]? = some ⟨[v], 1, 2⟩ ∧ Gr (.sl ty_Block) X [v] xs L ∧ L.Nodup ∧ ∀ j ∈ L, M.length + 2 ≤ j
set_option maxHeartbeats 2000000 in
theorem l_spec_NodeRead_0 (M : Mem) (a : Option Addr) (c : Nat) (ys : List UInt8) (w : Nat) (lg : V) (h : Rep (.sl ty_Byte) M [.slice a ys.length c] ys) (hw : w ≤ 200) (hw1 : 1 ≤ w) (hl : ys.length = 4 * (w + 3)) (Z : Mem) (hZ : SnI M [] Z) :
    ∃ (v' : Nat) (X' : Mem), SnI M (ndB w ys) X' ∧ lp (aCall T0) K_spec_NodeRead_0 L_spec_NodeRead_0 [.slice a ys.length c, lg, .int .i64 (w : Int), und, und, und, .pointer (some ⟨M.length, 0, none⟩), und, .pointer (some ⟨M.length + 1, 0, none⟩), .int .i64 ((0 * (w + 3) : Nat) : Int), und, und, und, und, und, und, und, und, und, und, und, und, und, und, und, und, und, und, und, und, und, und, und, und, und, und, und, und, und, und, und, und, und, und, und, und, und, und, und, und, und, und, und, und, und, und, und, und, und, und, und, und, und, und, und, und, und, und, und, und, und, und, und, und, und, und] Z = lp (aCall T0) K_spec_NodeRead_0 L_spec_NodeRead_0 [.slice a ys.length c, lg, .int .i64 (w : Int), und, und, und, .pointer (some ⟨M.length, 0, none⟩), und, .pointer (some ⟨M.length + 1, 0, none⟩), .int .i64 ((nbC w ys * (w + 3) : Nat) : Int), und, und, und, und, und, und, und, und, und, und, und, und, und, und, und, und, und, und, und, und, und, und, und, und, und, und, und, und, und, und, und, und, und, und, und, und, und, und, und, und, und, und, und, und, und, und, und, und, und, und, und, und, und, und, und, und, und, und, und, und, und, und, und, und, und, und] X' := by
  refine loop_to (call := aCall T0) (K := K_spec_NodeRead_0) (L := L_spec_NodeRead_0) (fun i (_ : Nat) X => SnI M (ndP w ys i) X) (fun i (_ : Nat) => [.slice a ys.length c, lg, .int .i64 (w : Int), und, und, und, .pointer (some ⟨M.length, 0, none⟩), und, .pointer (some ⟨M.length + 1, 0, none⟩), .int .i64 ((i * (w + 3) : Nat) : Int), und, und, und, und, und, und, und, und, und, und, und, und, und, und, und, und, und, und, und, und, und, und, und, und, und, und, und, und, und, und, und, und, und, und, und, und, und, und, und, und, und, und, und, und, und, und, und, und, und, und, und, und, und, und, und, und, und, und, und, und, und, und, und, und, und, und]) (n := nbC w ys) ?_ 0 0 Z (by omega) (by simpa [ndP] using hZ)
  intro i _ X hi ⟨v, L, pX, br, bp, g0, nd, ge0⟩
  have hi4 := nbC_le w ys
  have hone := nbF_one w ys 4 0 i (by omega) hi
  have hbnd : i * (w + 3) + (w + 3) ≤ 4 * (w + 3) := by rw [← Nat.succ_mul]; exact Nat.mul_le_mul_right _ (by omega)
  rw [ndP_succ]
  have hlen := ndP_len w ys i
  generalize ndP w ys i = xs at g0 hlen ⊢
  obtain ⟨l, o, rfl, _, _⟩ := at_Byte h (i := 0) (by omega)
  have hlM : l < M.length := by obtain ⟨blk, hbk, _⟩ := rep_blk h; exact get_lt hbk
  have b0 := r1_pre pX (byte_at h (i := i * (w + 3)) (by omega))
  have b1 := r1_pre pX (byte_at h (i := i * (w + 3) + 1) (by omega))
  have b2 := r1_pre pX (byte_at h (i := i * (w + 3) + 2) (by omega))
  rw [hone] at b0
  have hnxt : (i + 1) * (w + 3) = i * (w + 3) + (w + 3) := Nat.succ_mul _ _
  have hsub := rep_sub (h.mono pX) (i * (w + 3) + 3) w (by omega)
  have hbd : blkAt w ys i = (((ys.getD (i * (w + 3) + 1) 0).toNat : Int), ((ys.getD (i * (w + 3) + 2) 0).toNat : Int), (ys.drop (i * (w + 3) + 3)).take w) := rfl
  have hdl : List.length (α := UInt8) ((ys.drop (i * (w + 3) + 3)).take w) = w := by rw [List.length_take, List.length_drop]; omega
  have n1 : (ys.getD (i * (w + 3) + 1) 0).toNat < 256 := UInt8.toNat_lt _
  have n2 : (ys.getD (i * (w + 3) + 2) 0).toNat < 256 := UInt8.toNat_lt _
  rw [hbd]
  generalize (ys.drop (i * (w + 3) + 3)).take w = dat at *
  generalize (ys.getD (i * (w + 3) + 1) 0).toNat = q1 at *
  generalize (ys.getD (i * (w + 3) + 2) 0).toNat = q2 at *
  generalize hat : i * (w + 3) = at0 at *
  have e1 : IntKind.i64.wrap ((at0 : Int) + 1) = (at0 : Int) + 1 := wrap_i64 (by omega) (by omega)
  have e2 : IntKind.i64.wrap ((at0 : Int) + 2) = (at0 : Int) + 2 := wrap_i64 (by omega) (by omega)
  have e3 : IntKind.i64.wrap ((at0 : Int) + 3) = (at0 : Int) + 3 := wrap_i64 (by omega) (by omega)
  have e4 : IntKind.i64.wrap ((at0 : Int) + 3 + (w : Int)) = (at0 : Int) + 3 + (w : Int) := wrap_i64 (by omega) (by omega)
  have e5 : IntKind.i64.wrap ((at0 : Int) + (w : Int)) = (at0 : Int) + (w : Int) := wrap_i64 (by omega) (by omega)
  have e6 : IntKind.i64.wrap ((at0 : Int) + (w : Int) + 3) = (at0 : Int) + (w : Int) + 3 := wrap_i64 (by omega) (by omega)
  have d1 : (0 : Int) ≤ (at0 : Int) + 1 ∧ (at0 : Int) + 1 < (ys.length : Int) := by omega
  have d2 : (0 : Int) ≤ (at0 : Int) + 2 ∧ (at0 : Int) + 2 < (ys.length : Int) := by omega
  have d3 : (0 : Int) ≤ (at0 : Int) + 3 ∧ (at0 : Int) + 3 ≤ (at0 : Int) + 3 + (w : Int) ∧ ((at0 : Int) + 3 + (w : Int) ≤ (ys.length : Int) ∨ (at0 : Int) + 3 + (w : Int) ≤ (c : Int)) := by omega
  have d5 : ((at0 : Int) + 2).toNat = at0 + 2 := by omega
  have d6 : ((at0 : Int) + 3).toNat = at0 + 3 := by omega
  have d7 : ((at0 : Int) + 1).toNat = at0 + 1 := by omega
  have d4 : ((at0 : Int) + 3 + (w : Int) - ((at0 : Int) + 3)).toNat = w := by omega
  have c1 : IntKind.i64.wrap (q1 : Int) = q1 := wrap_i64 (by omega) (by omega)
  have c2 : IntKind.i64.wrap (q2 : Int) = q2 := wrap_i64 (by omega) (by omega)
  have g1 : at0 < ys.length := by omega
  obtain ⟨blk, hbk, hbw⟩ := rep_blk h
  have hbw1 : blk.w = 1 := hbw.1
  have hbX := fun N : Mem => get_pre' (N := N) (get_pre pX hbk)
  have hbX0 := get_pre pX hbk
  obtain ⟨av, rfl⟩ := g0.shape
  have hpl := pX.length_le
  have hbpl := get_lt bp
  have hwL : ∀ b ∈ wfs (.slice av xs.length xs.length), M.length + 2 ≤ b := by
    obtain ⟨_, _, hw⟩ := g0.gr (K := 0) (by simp)
    exact fun b hb => ge0 b (hw b hb)
  have rp : rd1 X (M.length + 1) 0 = some (.slice av xs.length xs.length) := rd1_of_rdn (rdn_box bp rfl) (k := 0) rfl
  have hdl2 : List.length (α := UInt8) dat = w := hdl
  obtain ⟨_, hc0, _⟩ := rep_cellsF fl_Byte ((hsub (max ys.length c - (at0 + 3))).mono (List.prefix_append X [(⟨[], 1, 2⟩ : Blk)]))
  have hc0 : sliceCells (X ++ [(⟨[], 1, 2⟩ : Blk)]) 1 (.slice (some ⟨l, o + (at0 + 3), none⟩) w (max ys.length c - (at0 + 3))) = some (w, (List.map enc_Byte dat).flatten) := by rw [← hdl2] at hc0 ⊢; exact hc0
  have hX1 : hits [X.length] [l, l, l, M.length + 1] = false := hits_ne fun x hx y hy e => by simp at hx hy; omega
  have hX2 : hits (wfs (.slice av xs.length xs.length)) [l, l, l, M.length + 1] = false := hits_ge (K := M.length + 2) hwL (by simp; omega)
  rw [S_spec_NodeRead_0]; unfold B_spec_NodeRead_0; simp [thenD_pp, sliceCells_sl, sliceCells_z, sliceCells_nil, take_full, appS_sl, appK_ok, appS_none, thenD_ag, agP_nil, agP_cons, b0, b1, b2, g1, rp, d1, d2, d3, d4, d5, d6, d7, e1, e2, e3, e4, c1, c2, hbX, hbX0, hbw1, rfp_slc2, rfS_some, hc0, zeroCells]
  generalize hy : appS _ _ _ _ _ _ = xhy
  rw [← hdl2] at hy
  obtain ⟨l2, X3, rfl, hl2, gb, ag⟩ := cp_all (t := .u8) (xs := dat) fl_Byte hy (by simp [Ty.w]) (by simp) (by omega) (by omega)
  clear hy
  rw [hdl2] at gb ⊢
  have p3 : X <+: X3 := ag.pre (List.prefix_append _ _) (by simp)
  simp [thenD_pp, sliceCells_sl, sliceCells_z, sliceCells_nil, take_full, appS_sl, appK_ok, appS_none, thenD_ag, agP_nil, agP_cons, thenD_agree, ag, hX1, zeroCells, rfp_slc2, rfS_some]
  generalize hy : appS _ _ _ _ _ _ = xhy
  have w0 : (Lit.int .i64 (q1 : Int)).wf = true := wf_mk (by omega) (by omega)
  have w1 : (Lit.int .i64 (q2 : Int)).wf = true := wf_mk (by omega) (by omega)
  obtain ⟨l4, X4, L', rfl, g4, ag2, len2, hw4, nd4, sub4, hl4⟩ := g0.app (t := ty_Block) hy (p3.trans (List.prefix_append _ _)) (gr_Block (x := ((q1 : Int), (q2 : Int), dat)) w0 w1 (gb.grow (List.prefix_append _ _))) (by simpa using hl2) nd (by simp) (by rw [hlen]; omega) (by rw [hlen]; omega)
  clear hy
  have hx3 := p3.length_le
  have pX4 : M <+: X4 := ag2.pre (pf_app (pX.trans p3)) (fun b hb => by have := hwL b hb; omega)
  have br4 : X4[M.length]? = some ⟨[.slice none 0 0], 1, 2⟩ := ag2.get (get_pre' (get_pre p3 br)) (fun hm => by have := hwL _ hm; omega)
  have bp4 : X4[M.length + 1]? = some ⟨[.slice av xs.length xs.length], 1, 2⟩ := ag2.get (get_pre' (get_pre p3 bp)) (fun hm => by have := hwL _ hm; omega)
  have hwr : ∀ u : V, one u = true → wrn X4 (M.length + 1) 0 [u] = some (X4.set (M.length + 1) ⟨[u], 1, 2⟩) := fun u hu => by
    rw [wrn_eq bp4 rfl (by simp) (by simp [hu])]
    rfl
  have hwr4 := hwr (.slice (some ⟨l4, 0, none⟩) (xs.length + 1) (xs.length + 1)) rfl
  simp [thenD_pp, sliceCells_sl, sliceCells_z, sliceCells_nil, take_full, appS_sl, appK_ok, appS_none, thenD_ag, agP_nil, agP_cons, thenD_agree, ag2, hX2, hwr4, e5, e6]
  have hge4 : ∀ j ∈ L', M.length + 2 ≤ j := fun j hj => by
    rcases sub4 j hj with h | h | h
    · exact ge0 j h
    · simp at h; omega
    · simp at hl4; omega
  have hfin : ((i : Int) + 1) * ((w : Int) + 3) = (at0 : Int) + (w : Int) + 3 := by
    have e9 : ((i * (w + 3) : Nat) : Int) = (i : Int) * ((w : Int) + 3) := by rw [Int.natCast_mul]; rfl
    rw [Int.add_mul, Int.one_mul, ← e9, hat]
    omega
  refine ⟨X4.set (M.length + 1) ⟨[.slice (some ⟨l4, 0, none⟩) (xs.length + 1) (xs.length + 1)], 1, 2⟩, ⟨_, L', pf_set (by omega) pX4, by rw [gt_set (by omega)]; exact br4, gs_of bp4 _, g4.set _ (fun hm => by have := hge4 _ hm; omega), nd4, hge4⟩, ?_⟩
  rw [hfin]
def SrV (M : Mem) (ok : Bool) (bs : List ty_Block.D) (p : V × Mem) : Prop := ∃ r L, p.1 = .tuple #[.agg #[r], .bool ok] ∧ M <+: p.2 ∧ Gr (.sl ty_Block) p.2 [r] bs L ∧ L.Nodup ∧ ∀ j ∈ L, M.length ≤ j
set_option maxHeartbeats 2000000 in
theorem c_spec_NodeRead (M : Mem) (v : V) (ys : List UInt8) (l w : Int) (h : Rep (.sl ty_Byte) M [v] ys) (hn : ys.length ≤ 1048576) : Sat (aCall T0 F_spec_NodeRead [v, .int .i64 l, .int .i64 w] M) (SrV M (ndOk l w ys) (ndX l w ys)) := by
  have e1 : ∀ M, aCall T0 F_spec_l12Frame [.int .i64 l, .int .i64 w] M = some (.bool (lgB l && wdB w), M) := fun M => c_spec_l12Frame M l w
  obtain ⟨a, c, rfl⟩ := h.slen
  have hnil : ∀ {X : Mem}, Gr (.sl ty_Block) X [.slice none 0 0] [] [] := Gr.nil
  have hpre : M <+: M ++ [(⟨[.slice none 0 0], 1, 2⟩ : Blk)] := List.prefix_append _ _
  cases h1 : lgB l && wdB w with
  | false =>
    have hs : ndOk l w ys = false := by unfold ndOk; rw [h1]; rfl
    have hx : ndX l w ys = [] := by simp [ndX, hs]
    rw [hs, hx]
    rw [h1] at e1
    rw [aCall_eq T_spec_NodeRead]; unfold A_spec_NodeRead C_spec_NodeRead; simp [thenD_pp, sliceCells_sl, sliceCells_z, sliceCells_nil, take_full, appS_sl, appK_ok, appS_none, thenD_ag, agP_nil, agP_cons, e1]
    exact ⟨(_, _), rfl, _, [], rfl, hpre, hnil, by simp, by simp⟩
  | true =>
    rw [h1] at e1
    rw [Bool.and_eq_true] at h1
    have hw : 1 ≤ w ∧ w ≤ 200 := by have := h1.2; unfold wdB at this; simpa using this
    obtain ⟨W, rfl⟩ : ∃ W : Nat, w = (W : Int) := ⟨Int.toNat w, by omega⟩
    have hW : Int.toNat (W : Int) = W := by omega
    have e2 := fun M => c_spec_NodeSize M W (4 * (W + 3)) (by omega) (by omega) (by omega)
    by_cases h3 : (ys.length : Int) = 4 * ((W : Int) + 3)
    · have h3n : ys.length = 4 * (W + 3) := by omega
      have e2 := fun M => c_spec_NodeSize M W ys.length (by omega) (by omega) (by omega)
      have hO : ndOk l W ys = (blocksB l W (ndB W ys) && decide (ndY W (ndB W ys) = ys)) := by
        unfold ndOk
        rw [h1.1, h1.2, hW]
        simp [h3]
      have hX : ndX l W ys = if ndOk l W ys = true then ndB W ys else [] := by unfold ndX; rw [hW]
      obtain ⟨_, X1, ⟨v1, L1, p1, br, bp, g1, n1, k1⟩, e⟩ := l_spec_NodeRead_0 M a c ys W (.int .i64 l) h (by omega) (by omega) h3n (M ++ [⟨[.slice none 0 0], 1, 2⟩, ⟨[.slice none 0 0], 1, 2⟩]) ⟨.slice none 0 0, [], List.prefix_append _ _, by simp, by simp, Gr.nil, by simp, by simp⟩
      simp only [Nat.zero_mul, Int.natCast_zero, Int.ofNat_zero] at e
      have hblen := ndB_len W ys
      obtain ⟨l0, o0, rfl, _, _⟩ := at_Byte h (i := 0) (by omega)
      have hex := exit_byte h h3n
      rw [hX, hO]
      have hNO := c_spec_NodeOf X1 v1 (ndB W ys) l W g1.rep (by omega) (by omega) (by omega)
      rw [decide_eq_true hblen, Bool.true_and] at hNO
      generalize ndB W ys = bs at *
      generalize hat : nbC W ys * (W + 3) = at0 at *
      obtain ⟨a1, rfl⟩ := g1.shape
      have hv1 : rdn X1 (M.length + 1) 0 1 = some [.slice a1 bs.length bs.length] := rdn_box bp rfl
      have hr1 : rdn X1 M.length 0 1 = some [.slice none 0 0] := rdn_box br rfl
      have hcase : (((¬ (at0 : Int) < (ys.length : Int)) ∧ (¬ at0 < ys.length)) ∧ (¬ at0 < ys.length)) ∨ (at0 < ys.length ∧ ∃ b : Nat, rd1 X1 l0 (o0 + at0) = some (.int .u8 (b : Int)) ∧ ¬ (b : Int) = 1) := by
        rcases hex with hh | ⟨hh, b, q1, q2⟩
        · exact .inl ⟨⟨by omega, by omega⟩, by omega⟩
        · exact .inr ⟨hh, b, r1_pre p1 q1, q2⟩
      rcases hcase with ⟨⟨F1, F2⟩, F3⟩ | ⟨F1, b, F2, F3⟩
      all_goals
        rw [aCall_eq T_spec_NodeRead]; unfold A_spec_NodeRead C_spec_NodeRead; simp [thenD_pp, sliceCells_sl, sliceCells_z, sliceCells_nil, take_full, appS_sl, appK_ok, appS_none, thenD_ag, agP_nil, agP_cons, e1, e2, e, zeroCells]
        rw [S_spec_NodeRead_0]; unfold B_spec_NodeRead_0; simp [thenD_pp, sliceCells_sl, sliceCells_z, sliceCells_nil, take_full, appS_sl, appK_ok, appS_none, thenD_ag, agP_nil, agP_cons, F1, F2, F3, hv1]
        generalize hx : aCall T0 F_spec_NodeOf _ _ = xhx
        obtain ⟨v2, X2, rfl, g2⟩ := of_call hx hNO
        clear hx
        obtain ⟨L2, p2, o2, _⟩ := bg_rep g2
        obtain ⟨a2, c2, hv2, hs2⟩ := cells_Byte o2.rep
        cases hv2
        obtain ⟨a3, c3, hv3, hs3⟩ := cells_Byte (h.mono (p1.trans p2))
        cases hv3
        have hv2 := rn_pre p2 hv1
        have hr2 := rn_pre p2 hr1
        have hpM := p1.trans p2
        have br2 := get_pre p2 br
        have hwn : ∀ u : V, one u = true → wrn X2 M.length 0 [u] = some (X2.set M.length ⟨[u], 1, 2⟩) := fun u hu => by
          rw [wrn_eq br2 rfl (by simp) (by simp [hu])]
          rfl
        have hwn0 := hwn (.slice none 0 0) rfl
        have hwn1 := hwn (.slice a1 bs.length bs.length) rfl
        have hrs : ∀ u : V, rdn (X2.set M.length ⟨[u], 1, 2⟩) M.length 0 1 = some [u] := fun u => rdn_box (gs_of br2 _) rfl
        have hpS : ∀ k : Blk, M <+: X2.set M.length k := fun k => pf_set (Nat.le_refl _) hpM
        have hgS : ∀ k : Blk, Gr (.sl ty_Block) (X2.set M.length k) [.slice a1 bs.length bs.length] bs L1 := fun k => (g1.grow p2).set _ (fun hm => by have := k1 _ hm; omega)
        have hk1 : ∀ j ∈ L1, M.length ≤ j := fun j hj => by have := k1 j hj; omega
        cases hb : blocksB l W bs with
        | false =>
          rw [hb] at hs2
          have hne : ¬ ([] : List UInt8) = ys := fun e => by rw [← e] at h3n; simp at h3n
          have hie : ys.isEmpty = false := by cases ys with
            | nil => exact absurd rfl hne
            | cons _ _ => rfl
          rw [Bool.false_and, if_neg (by simp)]
          simp only [Bool.false_eq_true, if_false, List.length_nil, List.map_nil] at hs2
          have ht0 : toBytes [] = some [] := rfl
          simp [thenD_pp, sliceCells_sl, sliceCells_z, sliceCells_nil, take_full, appS_sl, appK_ok, appS_none, thenD_ag, agP_nil, agP_cons, thenD_pre, p2, hb, hs2, hs3, toBytes_map, ht0, hne, hie, hwn0, hrs, zeroCells]
          exact ⟨(_, _), rfl, _, [], rfl, hpS _, hnil, by simp, by simp⟩
        | true =>
          rw [hb] at hs2
          rw [Bool.true_and]
          simp only [if_true] at hs2
          simp only [if_true, true_and]
          by_cases hq : ndY W bs = ys
          · rw [decide_eq_true hq, if_pos hq]
            rw [hq] at hs2
            simp [thenD_pp, sliceCells_sl, sliceCells_z, sliceCells_nil, take_full, appS_sl, appK_ok, appS_none, thenD_ag, agP_nil, agP_cons, thenD_pre, p2, hb, hs2, hs3, toBytes_map, hq, hv2, hwn1, hrs, zeroCells]
            exact ⟨(_, _), rfl, _, L1, rfl, hpS _, hgS _, n1, hk1⟩
          · rw [decide_eq_false hq, if_neg hq]
            simp [thenD_pp, sliceCells_sl, sliceCells_z, sliceCells_nil, take_full, appS_sl, appK_ok, appS_none, thenD_ag, agP_nil, agP_cons, thenD_pre, p2, hb, hs2, hs3, toBytes_map, hq, hwn0, hrs, zeroCells]
            exact ⟨(_, _), rfl, _, [], rfl, hpS _, hnil, by simp, by simp⟩
    · have hs : ndOk l W ys = false := by unfold ndOk; rw [decide_eq_false h3]; simp
      have hx : ndX l W ys = [] := by simp [ndX, hs]
      rw [hs, hx]
      have h3' : ¬ (ys.length : Int) = ((4 * (W + 3) : Nat) : Int) := by omega
      generalize hsz : 4 * (W + 3) = sz at *
      rw [aCall_eq T_spec_NodeRead]; unfold A_spec_NodeRead C_spec_NodeRead; simp [thenD_pp, sliceCells_sl, sliceCells_z, sliceCells_nil, take_full, appS_sl, appK_ok, appS_none, thenD_ag, agP_nil, agP_cons, e1, e2, h3', zeroCells]
      exact ⟨(_, _), rfl, _, [], rfl, hpre, hnil, by simp, by simp⟩
def NsI (M : Mem) (xs : List ty_Node.D) (v : V) (X : Mem) : Prop := ∃ L, M <+: X ∧ Gr (.sl ty_Node) X [v] xs L ∧ L.Nodup ∧ ∀ j ∈ L, M.length ≤ j
set_option maxHeartbeats 2000000 in
theorem l_spec_l14Nodes_0 (M : Mem) (l w b : Int) (sz : Int) (aC : Option Addr) (cC : Nat) (aT : Option Addr) (nT cT : Nat) (aS : Option Addr) (nS cS : Nat) (cells : List ty_Cell.D) (hC : Rep (.sl ty_Cell) M [.slice aC cells.length cC] cells) (hn : cells.length ≤ 1048576) (hsz : ∀ c ∈ cells, List.length (α := UInt8) c ≤ 1048576) (p : Nat)
    (Z : Mem) (hZ : M <+: Z) (hp : Z[p]? = some ⟨aO l w b sz aC cells.length cC aT nT cT aS nS cS, 1, 2⟩) (v : V) (X : Mem) (h : NsI Z [] v X) :
    (∃ v' X', NsI Z (ndsF w cells) v' X' ∧ (∀ i, i < cells.length → ndAt l w cells i = true) ∧ lp (aCall T0) K_spec_l14Nodes_0 L_spec_l14Nodes_0 [und, .pointer (some ⟨p, 0, none⟩), und, und, v, .int .i64 (0 : Nat), und, und, und, und, und, und, und, und, und, und, und, und, und, und, und, und, und, und, und, und, und, und, und, und, und, und, und, und, und, und, und, und, und] X = lp (aCall T0) K_spec_l14Nodes_0 L_spec_l14Nodes_0 [und, .pointer (some ⟨p, 0, none⟩), und, und, v', .int .i64 cells.length, und, und, und, und, und, und, und, und, und, und, und, und, und, und, und, und, und, und, und, und, und, und, und, und, und, und, und, und, und, und, und, und, und] X') ∨
    ((∃ i, i < cells.length ∧ ndAt l w cells i = false) ∧ ∀ k, Sat (thenF M [.tmp 2, .tmp 3] (thenS (blockR 0 (lp (aCall T0) K_spec_l14Nodes_0 L_spec_l14Nodes_0 [und, .pointer (some ⟨p, 0, none⟩), und, und, v, .int .i64 (0 : Nat), und, und, und, und, und, und, und, und, und, und, und, und, und, und, und, und, und, und, und, und, und, und, und, und, und, und, und, und, und, und, und, und, und] X)) (aCall T0) k)) (NsV M false [])) := by
  have key := loop_st (call := aCall T0) (K := K_spec_l14Nodes_0) (L := L_spec_l14Nodes_0) (fun i v X => NsI Z (ndsF w (cells.take i)) v X) (fun i v => [und, .pointer (some ⟨p, 0, none⟩), und, und, v, .int .i64 i, und, und, und, und, und, und, und, und, und, und, und, und, und, und, und, und, und, und, und, und, und, und, und, und, und, und, und, und, und, und, und, und, und]) (ndAt l w cells) (NsV M false []) (n := cells.length) (M0 := M) (rs := [.tmp 2, .tmp 3]) (k0 := 0) v X (by simpa [ndsF] using h) ?_ ?_
  · rw [List.take_length] at key
    exact key
  · intro i v X hi hq ⟨L, pX, g0, nd, ge⟩
    rw [ndAt_get hi] at hq
    have hbX := get_pre pX hp
    obtain ⟨lc, oc, u, rfl, hrd, hrn, hu⟩ := at_Cell (hC.mono (hZ.trans pX)) hi
    have hszi := hsz _ (List.getElem_mem hi)
    obtain ⟨ua, uc, rfl⟩ := hu.slen
    have hNR := c_spec_NodeRead X (.slice ua (List.length (α := UInt8) cells[i]) uc) cells[i] l w hu hszi
    have hx : ndX l w cells[i] = ndB (Int.toNat w) cells[i] := by unfold ndX; rw [if_pos hq]
    rw [hq, hx] at hNR
    have hts : ndsF w (cells.take (i + 1)) = ndsF w (cells.take i) ++ [ndB (Int.toNat w) cells[i]] := by
      unfold ndsF
      rw [List.take_succ_eq_append_getElem hi, List.map_append]
      rfl
    rw [hts]
    have hlen : (ndsF w (cells.take i)).length = i := by unfold ndsF; rw [List.length_map, List.length_take]; omega
    generalize ndsF w (cells.take i) = xs at *
    generalize ndB (Int.toNat w) cells[i] = bs at *
    generalize cells[i] = c at *
    have e6 : IntKind.i64.wrap ((i : Int) + 1) = i + 1 := wrap_i64 (by omega) (by omega)
    have r0 : rd1 X p 0 = some (.int .i64 l) := by simp [rd1, hbX]
    have r1 : rd1 X p 1 = some (.int .i64 w) := by simp [rd1, hbX]
    have r4 : rd1 X p 4 = some (.slice (some ⟨lc, oc, none⟩) cells.length cC) := by simp [rd1, hbX]
    rw [S_spec_l14Nodes_0]; unfold B_spec_l14Nodes_0; simp [thenD_pp, sliceCells_sl, sliceCells_z, sliceCells_nil, take_full, appS_sl, appK_ok, appS_none, thenD_ag, agP_nil, agP_cons, hi, r0, r1, r4, hrd, zeroCells]
    generalize hx : aCall T0 F_spec_NodeRead _ _ = xhx
    obtain ⟨_, X1, rfl, r, L1, rfl, p1, g1, n1, k1⟩ := of_call hx hNR
    clear hx
    simp only at p1 g1
    obtain ⟨a1, rfl⟩ := g1.shape
    simp [thenD_pp, sliceCells_sl, sliceCells_z, sliceCells_nil, take_full, appS_sl, appK_ok, appS_none, thenD_ag, agP_nil, agP_cons, thenD_pre, p1, zeroCells]
    generalize hy : appS _ _ _ _ _ _ = xhy
    have hdis : ∀ j ∈ L1, j ∉ L := fun j hj hm => by have := k1 j hj; have := g0.lt j hm; omega
    obtain ⟨l4, X4, L', rfl, g4, ag2, len2, hw4, nd4, sub4, hl4⟩ := g0.app (t := ty_Node) hy (p1.trans (List.prefix_append _ _)) (show Gr ty_Node _ _ bs L1 from g1.grow (List.prefix_append _ _)) (fun j hj => k1 j hj) nd n1 (by rw [hlen]; omega) (by rw [hlen]; omega)
    clear hy
    have hwL : ∀ b ∈ wfs v, Z.length ≤ b := by
      obtain ⟨_, _, hw⟩ := g0.gr (K := 0) (by simp)
      exact fun b hb => ge b (hw b hb)
    have pX4 : Z <+: X4 := ag2.pre (pf_app (pX.trans p1)) hwL
    simp [thenD_pp, sliceCells_sl, sliceCells_z, sliceCells_nil, take_full, appS_sl, appK_ok, appS_none, thenD_ag, agP_nil, agP_cons, e6]
    refine ⟨_, _, ⟨L', pX4, g4, nd4, fun j hj => ?_⟩, rfl⟩
    have hx3 := p1.length_le
    have hpl := pX.length_le
    rcases sub4 j hj with h | h | h
    · exact ge j h
    · have := k1 j h; omega
    · simp at hl4; omega
  · intro i v X hi hq ⟨L, pX, g0, nd, ge⟩ k
    rw [ndAt_get hi] at hq
    have hbX := get_pre pX hp
    obtain ⟨lc, oc, u, rfl, hrd, hrn, hu⟩ := at_Cell (hC.mono (hZ.trans pX)) hi
    have hszi := hsz _ (List.getElem_mem hi)
    obtain ⟨ua, uc, rfl⟩ := hu.slen
    have hNR := c_spec_NodeRead X (.slice ua (List.length (α := UInt8) cells[i]) uc) cells[i] l w hu hszi
    rw [hq] at hNR
    generalize ndX l w cells[i] = bs at *
    generalize cells[i] = c at *
    have r0 : rd1 X p 0 = some (.int .i64 l) := by simp [rd1, hbX]
    have r1 : rd1 X p 1 = some (.int .i64 w) := by simp [rd1, hbX]
    have r4 : rd1 X p 4 = some (.slice (some ⟨lc, oc, none⟩) cells.length cC) := by simp [rd1, hbX]
    rw [S_spec_l14Nodes_0]; unfold B_spec_l14Nodes_0; simp [thenD_pp, sliceCells_sl, sliceCells_z, sliceCells_nil, take_full, appS_sl, appK_ok, appS_none, thenD_ag, agP_nil, agP_cons, hi, r0, r1, r4, hrd, zeroCells]
    generalize hx : aCall T0 F_spec_NodeRead _ _ = xhx
    obtain ⟨_, X1, rfl, r, L1, rfl, p1, g1, n1, k1⟩ := of_call hx hNR
    clear hx
    simp only at p1 g1
    obtain ⟨a1, rfl⟩ := g1.shape
    simp [thenD_pp, sliceCells_sl, sliceCells_z, sliceCells_nil, take_full, appS_sl, appK_ok, appS_none, thenD_ag, agP_nil, agP_cons, thenD_pre, p1, zeroCells]
    exact ⟨(_, _), rfl, _, [], rfl, (hZ.trans pX).trans (p1.trans (List.prefix_append _ _)), Gr.nil, by simp, by simp⟩
theorem c_spec_l14Nodes (M : Mem) (l w b : Int) (m : ty_Mem.D) (st : List ty_Block.D) (aC : Option Addr) (cC : Nat) (aT : Option Addr) (cT : Nat) (aS : Option Addr) (cS : Nat)
    (hC : Rep (.sl ty_Cell) M [.slice aC m.2.1.length cC] m.2.1) (hn : m.2.1.length ≤ 1048576) (hsz : ∀ c ∈ m.2.1, List.length (α := UInt8) c ≤ 1048576) :
    Sat (aCall T0 F_spec_l14Nodes [.agg (aO l w b m.1 aC m.2.1.length cC aT m.2.2.length cT aS st.length cS).toArray] M) (NsV M (m.2.1.all (ndOk l w)) (if m.2.1.all (ndOk l w) = true then ndsF w m.2.1 else [])) := by
  rcases l_spec_l14Nodes_0 M l w b m.1 aC cC aT m.2.2.length cT aS st.length cS m.2.1 hC hn hsz M.length (M ++ [(⟨aO l w b m.1 aC m.2.1.length cC aT m.2.2.length cT aS st.length cS, 1, 2⟩ : Blk)]) (List.prefix_append _ _) (by simp) (.slice (some ⟨M.length + 1, 0, none⟩) 0 0) (M ++ [(⟨aO l w b m.1 aC m.2.1.length cC aT m.2.2.length cT aS st.length cS, 1, 2⟩ : Blk)] ++ [⟨[], 1, 2⟩]) ⟨[M.length + 1], List.prefix_append _ _, gr0 (t := ty_Node) (by simp [Ty.w]), by simp, by simp⟩ with ⟨v', X', ⟨L, pX, g, nd, ge⟩, hall, e⟩ | ⟨⟨i, hi, hq⟩, e⟩
  · have ha : m.2.1.all (ndOk l w) = true := List.all_eq_true.2 fun c hc => by
      obtain ⟨k, hk, rfl⟩ := List.getElem_of_mem hc
      rw [← ndAt_get hk]
      exact hall k hk
    rw [ha, if_pos rfl]
    simp only [Int.natCast_zero, Int.ofNat_zero, List.append_assoc, List.singleton_append, List.cons_append, List.nil_append] at e
    obtain ⟨a, rfl⟩ := g.shape
    have pM : M <+: X' := (List.prefix_append _ _).trans pX
    have hbX := get_pre pX (show (M ++ [(⟨aO l w b m.1 aC m.2.1.length cC aT m.2.2.length cT aS st.length cS, 1, 2⟩ : Blk)])[M.length]? = some _ from List.getElem?_concat_length)
    have r4 : rd1 X' M.length 4 = some (.slice aC m.2.1.length cC) := by simp [rd1, hbX]
    rw [aCall_eq T_spec_l14Nodes]; unfold A_spec_l14Nodes C_spec_l14Nodes; simp [thenD_pp, sliceCells_sl, sliceCells_z, sliceCells_nil, take_full, appS_sl, appK_ok, appS_none, thenD_ag, agP_nil, agP_cons, zeroCells, e]
    rw [S_spec_l14Nodes_0]; unfold B_spec_l14Nodes_0; simp [thenD_pp, sliceCells_sl, sliceCells_z, sliceCells_nil, take_full, appS_sl, appK_ok, appS_none, thenD_ag, agP_nil, agP_cons, r4]
    exact ⟨(_, X'), rfl, _, L, rfl, pM, g, nd, fun j hj => by have := ge j hj; simp at this; omega⟩
  · have ha : m.2.1.all (ndOk l w) = false := by
      rw [List.all_eq_false]
      exact ⟨m.2.1[i], List.getElem_mem hi, by rw [← ndAt_get hi, hq]; simp⟩
    rw [ha, if_neg (by simp)]
    simp only [Int.natCast_zero, Int.ofNat_zero, List.append_assoc, List.singleton_append, List.cons_append, List.nil_append] at e
    rw [aCall_eq T_spec_l14Nodes]; unfold A_spec_l14Nodes C_spec_l14Nodes; simp [thenD_pp, sliceCells_sl, sliceCells_z, sliceCells_nil, take_full, appS_sl, appK_ok, appS_none, thenD_ag, agP_nil, agP_cons, zeroCells]
    exact e _
def cntI (k : Nat) (xs : List ty_Block.D) : Nat := (xs.filter fun b => decide (Int.toNat b.1 = k)).length
def cntV (xs : List ty_Block.D) : List V := (List.range 256).map fun k => .int .i64 ((cntI k xs : Nat) : Int)
theorem cntV_len (xs : List ty_Block.D) : (cntV xs).length = 256 := by simp [cntV]
theorem cntV_get (xs : List ty_Block.D) {k : Nat} (h : k < 256) : (cntV xs)[k]? = some (.int .i64 ((cntI k xs : Nat) : Int)) := by simp [cntV, h]
theorem cntI_le (k : Nat) (xs : List ty_Block.D) : cntI k xs ≤ xs.length := List.length_filter_le _ _
theorem cntI_app (k : Nat) (xs : List ty_Block.D) (b : ty_Block.D) : cntI k (xs ++ [b]) = if Int.toNat b.1 = k then cntI k xs + 1 else cntI k xs := by
  unfold cntI
  rw [List.filter_append, List.length_append]
  by_cases h : Int.toNat b.1 = k
  · rw [if_pos h, List.filter_cons, if_pos (decide_eq_true h)]; rfl
  · rw [if_neg h, List.filter_cons, if_neg (by rw [decide_eq_false h]; simp)]; rfl
theorem cntV_set (xs : List ty_Block.D) (b : ty_Block.D) (h : Int.toNat b.1 < 256) : splice (cntV xs) (Int.toNat b.1) [.int .i64 ((cntI (Int.toNat b.1) xs + 1 : Nat) : Int)] = cntV (xs ++ [b]) := by
  apply List.ext_getElem?
  intro j
  rw [splice1 (by rw [cntV_len]; exact h), List.getElem?_set]
  by_cases hj : Int.toNat b.1 = j
  · subst hj
    rw [if_pos rfl, if_pos (by rw [cntV_len]; exact h), cntV_get _ h, cntI_app, if_pos rfl]
  · rw [if_neg hj]
    by_cases hC : j < 256
    · rw [cntV_get _ hC, cntV_get _ hC, cntI_app, if_neg hj]
    · rw [List.getElem?_eq_none (by rw [cntV_len]; omega), List.getElem?_eq_none (by rw [cntV_len]; omega)]
/-- The place of the counts, behind what was there. -/
def SeI (M : Mem) (q : Nat) (xs : List ty_Block.D) (X : Mem) : Prop := M <+: X ∧ X[q]? = some ⟨cntV xs, 1, 2⟩
theorem nat_255 {z : Int} (h : 0 ≤ z ∧ z ≤ 255) : z = ((Int.toNat z : Nat) : Int) ∧ Int.toNat z < 256 := by omega
theorem ids_nat {xs : List ty_Block.D} (h : IdsR xs) : ∀ b ∈ xs, b.1 = ((Int.toNat b.1 : Nat) : Int) ∧ Int.toNat b.1 < 256 := fun b hb => nat_255 (h b hb)
set_option maxRecDepth 20000 in
set_option maxHeartbeats 1000000 in
theorem l_spec_OramOk_0 (M : Mem) (p q : Nat) (v3 : V) (st : List ty_Block.D) (aS : Option Addr) (cS : Nat) (hS : Rep (.sl ty_Block) M [.slice aS st.length cS] st) (hp : rd1 M p 6 = some (.slice aS st.length cS)) (hq : M.length ≤ q) (hr : IdsR st) (hn : st.length ≤ 1048576) (X : Mem) (h : SeI M q [] X) :
    ∃ (u : Unit) (X' : Mem), SeI M q st X' ∧ lp (aCall T0) K_spec_OramOk_0 L_spec_OramOk_0 [und, .pointer (some ⟨p, 0, none⟩), und, v3, und, .slice (some ⟨q, 0, none⟩) 256 256, .int .i64 (0 : Nat), und, und, und, und, und, und, und, und, und, und, und, und, und, und, und, und, und, und, und, und, und, und, und, und, und, und, und, und, und, und, und, und, und, und, und, und, und, und, und, und, und, und, und, und, und, und, und, und, und, und, und, und, und, und, und, und, und, und, und, und, und, und, und, und, und, und, und, und, und, und, und, und, und, und, und, und, und, und, und, und, und, und, und, und, und, und, und, und, und, und, und, und, und, und, und, und, und, und, und, und, und, und, und, und, und, und, und, und, und, und, und, und, und, und, und, und, und, und, und, und, und, und, und, und, und, und, und, und, und, und, und, und, und, und, und, und, und] X = lp (aCall T0) K_spec_OramOk_0 L_spec_OramOk_0 [und, .pointer (some ⟨p, 0, none⟩), und, v3, und, .slice (some ⟨q, 0, none⟩) 256 256, .int .i64 st.length, und, und, und, und, und, und, und, und, und, und, und, und, und, und, und, und, und, und, und, und, und, und, und, und, und, und, und, und, und, und, und, und, und, und, und, und, und, und, und, und, und, und, und, und, und, und, und, und, und, und, und, und, und, und, und, und, und, und, und, und, und, und, und, und, und, und, und, und, und, und, und, und, und, und, und, und, und, und, und, und, und, und, und, und, und, und, und, und, und, und, und, und, und, und, und, und, und, und, und, und, und, und, und, und, und, und, und, und, und, und, und, und, und, und, und, und, und, und, und, und, und, und, und, und, und, und, und, und, und, und, und, und, und, und, und, und, und] X' := by
  have key := loop_to (call := aCall T0) (K := K_spec_OramOk_0) (L := L_spec_OramOk_0) (fun i (_ : Unit) X => SeI M q (st.take i) X) (fun i (_ : Unit) => [und, .pointer (some ⟨p, 0, none⟩), und, v3, und, .slice (some ⟨q, 0, none⟩) 256 256, .int .i64 i, und, und, und, und, und, und, und, und, und, und, und, und, und, und, und, und, und, und, und, und, und, und, und, und, und, und, und, und, und, und, und, und, und, und, und, und, und, und, und, und, und, und, und, und, und, und, und, und, und, und, und, und, und, und, und, und, und, und, und, und, und, und, und, und, und, und, und, und, und, und, und, und, und, und, und, und, und, und, und, und, und, und, und, und, und, und, und, und, und, und, und, und, und, und, und, und, und, und, und, und, und, und, und, und, und, und, und, und, und, und, und, und, und, und, und, und, und, und, und, und, und, und, und, und, und, und, und, und, und, und, und, und, und, und, und, und, und]) (n := st.length) ?_ 0 () X (by omega) (by simpa using h)
  · rw [List.take_length] at key
    exact key
  intro i _ X hi ⟨pX, hb⟩
  obtain ⟨l, o, u, rfl, hr0, _⟩ := at_Block (hS.mono pX) hi
  have hid := ids_nat hr _ (List.getElem_mem hi)
  have hts : st.take (i + 1) = st.take i ++ [st[i]] := List.take_succ_eq_append_getElem hi
  rw [hts]
  have hset := cntV_set (st.take i) st[i] hid.2
  have hget := cntV_get (st.take i) hid.2
  have hle := cntI_le (Int.toNat st[i].1) (st.take i)
  have hlen := cntV_len (st.take i)
  have htl : (st.take i).length = i := by rw [List.length_take]; omega
  rw [hid.1] at hr0
  have hlt := hid.2
  generalize hcs2 : cntV (st.take i ++ [st[i]]) = cs2 at *
  generalize cntI (Int.toNat st[i].1) (st.take i) = z at *
  generalize Int.toNat st[i].1 = t at *
  generalize cntV (st.take i) = cs at *
  have e6 : IntKind.i64.wrap ((i : Int) + 1) = i + 1 := wrap_i64 (by omega) (by omega)
  have ez : IntKind.i64.wrap ((z : Int) + 1) = (z : Int) + 1 := wrap_i64 (by omega) (by omega)
  have hp' := r1_pre pX hp
  have hrq : rd1 X q t = some (.int .i64 (z : Int)) := by simp [rd1, hb, hget]
  have hwr : wrn X q t [.int .i64 ((z : Int) + 1)] = some (X.set q ⟨cs2, 1, 2⟩) := by
    rw [show ((z : Int) + 1) = ((z + 1 : Nat) : Int) by omega, wrn_eq hb rfl (by show t + 1 ≤ cs.length; omega) rfl, ← hset]
  refine ⟨(), X.set q ⟨cs2, 1, 2⟩, ⟨pf_set hq pX, by rw [hcs2]; exact gs_of hb _⟩, ?_⟩
  have hlt2 : (t : Int) < 256 := by omega
  rw [S_spec_OramOk_0]; unfold B_spec_OramOk_0; simp [thenD_pp, sliceCells_sl, sliceCells_z, sliceCells_nil, take_full, appS_sl, appK_ok, appS_none, thenD_ag, agP_nil, agP_cons, hi, hp', hr0, hrq, hwr, hlt, hlt2, e6, ez]
def onAll (m : Nat) (ns : List ty_Node.D) (i : Nat) : Bool := match ns[i]? with
  | some bs => bs.all fun b => onP m (i + 1) (Int.toNat b.2.1)
  | none => true
theorem onAll_get {m : Nat} {ns : List ty_Node.D} {i : Nat} (h : i < ns.length) : onAll m ns i = List.all (α := ty_Block.D) ns[i] fun b => onP m (i + 1) (Int.toNat b.2.1) := by unfold onAll; rw [List.getElem?_eq_getElem h]
abbrev FtI (p q : Nat) (aN : Option Addr) (nN cN : Nat) (i : Nat) : List V := [und, .pointer (some ⟨p, 0, none⟩), und, .slice aN nN cN, und, .slice (some ⟨q, 0, none⟩) 256 256, und, .int .i64 i, und, und, und, und, und, und, und, und, und, und, und, und, und, und, und, und, und, und, und, und, und, und, und, und, und, und, und, und, und, und, und, und, und, und, und, und, und, und, und, und, und, und, und, und, und, und, und, und, und, und, und, und, und, und, und, und, und, und, und, und, und, und, und, und, und, und, und, und, und, und, und, und, und, und, und, und, und, und, und, und, und, und, und, und, und, und, und, und, und, und, und, und, und, und, und, und, und, und, und, und, und, und, und, und, und, und, und, und, und, und, und, und, und, und, und, und, und, und, und, und, und, und, und, und, und, und, und, und, und, und, und, und, und, und, und, und]
theorem loop_rt {α : Type} {call : CallT} {K : List Bool} {L : ACode} (Inv : Nat → α → Mem → Prop) (F : Nat → α → List V) (p : Nat → Bool) (Rt : R → Prop) {n : Nat} (s : α) (X : Mem) (h : Inv 0 s X)
    (good : ∀ i s X, i < n → p i = true → Inv i s X → ∃ s' X', Inv (i + 1) s' X' ∧ lp call K L (F i s) X = lp call K L (F (i + 1) s') X')
    (bad : ∀ i s X, i < n → p i = false → Inv i s X → Rt (lp call K L (F i s) X)) :
    (∃ s' X', Inv n s' X' ∧ (∀ i, i < n → p i = true) ∧ lp call K L (F 0 s) X = lp call K L (F n s') X') ∨ ((∃ i, i < n ∧ p i = false) ∧ Rt (lp call K L (F 0 s) X)) := by
  have go : ∀ m, m ≤ n → (∀ i, i < m → p i = true) → ∃ s' X', Inv m s' X' ∧ lp call K L (F 0 s) X = lp call K L (F m s') X' := by
    intro m
    induction m with
    | zero => intro _ _; exact ⟨s, X, h, rfl⟩
    | succ m ih =>
      intro hm hp
      obtain ⟨s1, X1, h1, e1⟩ := ih (by omega) (fun i hi => hp i (by omega))
      obtain ⟨s2, X2, h2, e2⟩ := good m s1 X1 (by omega) (hp m (by omega)) h1
      exact ⟨s2, X2, h2, e1.trans e2⟩
  rcases first_bad p n with hg | ⟨j, hj, h1, h2⟩
  · obtain ⟨s', X', i1, i2⟩ := go n (Nat.le_refl _) hg
    exact .inl ⟨s', X', i1, hg, i2⟩
  · obtain ⟨s', X', i1, i2⟩ := go j (by omega) h1
    refine .inr ⟨⟨j, hj, h2⟩, ?_⟩
    rw [i2]
    exact bad j s' X' hj h2 i1
theorem at_Node {M : Mem} {a : Option Addr} {n c : Nat} {xs : List ty_Node.D} (h : Rep (.sl ty_Node) M [.slice a n c] xs) {i : Nat} (hi : i < xs.length) : ∃ l o u, a = some ⟨l, o, none⟩ ∧ rd1 M l (o + i) = some u ∧ rdn M l (o + i) 1 = some [u] ∧ Rep (.sl ty_Block) M [u] xs[i] := by
  obtain ⟨_, l, o, rfl, cs, hrd, hrep⟩ := rep_at h hi
  have hl := hrep.len
  have hw1 : ty_Node.w = 1 := rfl
  rw [hw1, Nat.mul_one] at hrd
  match cs, hl, hrd, hrep with
  | [u], _, hrd, hrep => exact ⟨l, o, u, rfl, rd1_of_one hrd, hrd, hrep⟩
def RtB (M : Mem) (r : R) : Prop := ∃ fr X', r = some (.ret, fr, X') ∧ fr[2]? = some (.bool false) ∧ M <+: X'
abbrev FsI (p q : Nat) (aN : Option Addr) (nN cN : Nat) (i : Nat) (j : Nat) : List V := [und, .pointer (some ⟨p, 0, none⟩), und, .slice aN nN cN, und, .slice (some ⟨q, 0, none⟩) 256 256, und, .int .i64 i, .int .i64 j, und, und, und, und, und, und, und, und, und, und, und, und, und, und, und, und, und, und, und, und, und, und, und, und, und, und, und, und, und, und, und, und, und, und, und, und, und, und, und, und, und, und, und, und, und, und, und, und, und, und, und, und, und, und, und, und, und, und, und, und, und, und, und, und, und, und, und, und, und, und, und, und, und, und, und, und, und, und, und, und, und, und, und, und, und, und, und, und, und, und, und, und, und, und, und, und, und, und, und, und, und, und, und, und, und, und, und, und, und, und, und, und, und, und, und, und, und, und, und, und, und, und, und, und, und, und, und, und, und, und, und, und, und, und, und]
def onAt (m nd : Nat) (bs : List ty_Block.D) (j : Nat) : Bool := match bs[j]? with
  | some b => onP m nd (Int.toNat b.2.1)
  | none => true
theorem onAt_get {m nd : Nat} {bs : List ty_Block.D} {j : Nat} (h : j < bs.length) : onAt m nd bs j = onP m nd (Int.toNat bs[j].2.1) := by unfold onAt; rw [List.getElem?_eq_getElem h]
def outL (N j : Nat) : List Int := (List.range j).map fun i => ((N / 2 ^ (j - 1 - i) : Nat) : Int)
theorem outL_len (N j : Nat) : (outL N j).length = j := by simp [outL]
theorem outL_get {N j i : Nat} (hi : i < (outL N j).length) : (outL N j)[i] = ((N / 2 ^ (j - 1 - i) : Nat) : Int) := by simp [outL]
theorem outL_succ (N j : Nat) : outL N (j + 1) = ((N / 2 ^ j : Nat) : Int) :: outL N j := by
  unfold outL
  rw [List.range_succ_eq_map, List.map_cons, List.map_map]
  congr 1
  refine List.map_congr_left fun i _ => ?_
  simp only [Function.comp]
  congr 3
  omega
def Ic (xs : List Int) : List V := xs.map fun n => (.int .i64 n : V)
theorem Ic_len (xs : List Int) : (Ic xs).length = xs.length := by simp [Ic]
theorem Ic_one (xs : List Int) : (Ic xs).all one = true := by
  rw [List.all_eq_true]
  intro v hv
  obtain ⟨n, _, rfl⟩ := List.mem_map.1 hv
  rfl
def PnI (M : Mem) (N j : Nat) (v : V) (X : Mem) : Prop := M <+: X ∧ Grow M.length 1 X v j (Ic (outL N j))
theorem l_spec_PathNodes_0 (M : Mem) (N n : Nat) (hN : N < 128) (hn : n ≤ 7) (hge : ∀ j, j < n → 1 ≤ N / 2 ^ j) (v : V) (Z : Mem) (hZ : PnI M N 0 v Z) :
    ∃ v' X', PnI M N n v' X' ∧ lp (aCall T0) K_spec_PathNodes_0 L_spec_PathNodes_0 [und, und, und, und, und, v, .int .i64 ((N / 2 ^ 0 : Nat) : Int), und, und, und, und, und, und, und, und, und, und, und, und, und, und, und, und, und, und] Z = lp (aCall T0) K_spec_PathNodes_0 L_spec_PathNodes_0 [und, und, und, und, und, v', .int .i64 ((N / 2 ^ n : Nat) : Int), und, und, und, und, und, und, und, und, und, und, und, und, und, und, und, und, und, und] X' := by
  refine loop_to (call := aCall T0) (K := K_spec_PathNodes_0) (L := L_spec_PathNodes_0) (fun j v X => PnI M N j v X) (fun j v => [und, und, und, und, und, v, .int .i64 ((N / 2 ^ j : Nat) : Int), und, und, und, und, und, und, und, und, und, und, und, und, und, und, und, und, und, und]) (n := n) ?_ 0 v Z (by omega) hZ
  intro j v X hj ⟨pX, gX⟩
  have hq : (N / 2 ^ j) / 2 = N / 2 ^ (j + 1) := by rw [Nat.div_div_eq_div_mul, Nat.pow_succ]
  have hle := Nat.div_le_self N (2 ^ j)
  have h1 : (1 : Int) ≤ ((N / 2 ^ j : Nat) : Int) := by have := hge j hj; omega
  have hd : IntKind.i64.wrap (((N / 2 ^ j : Nat) : Int) / 2) = ((N / 2 ^ (j + 1) : Nat) : Int) := by rw [← hq, wrap_i64 (by omega) (by omega)]; rfl
  have hc := fun Y : Mem => (gX.pre (List.prefix_append X Y)).cells
  have hgl := gX.ge
  have hpl := pX.length_le
  unfold PnI
  rw [outL_succ]
  generalize N / 2 ^ (j + 1) = q2 at hd ⊢
  generalize N / 2 ^ j = q at hd h1 ⊢
  have hg1 : Grow M.length 1 (X ++ [(⟨[.int .i64 q], 1, 2⟩ : Blk)]) (.slice (some ⟨X.length, 0, none⟩) 1 1) 1 [.int .i64 q] := Grow.new hpl rfl
  obtain ⟨av, rfl⟩ := gX.shape
  by_cases h0 : j = 0
  · subst h0
    have e0 : outL N 0 = [] := rfl
    rw [e0] at hc ⊢
    rw [S_spec_PathNodes_0]; unfold B_spec_PathNodes_0; simp [thenD_pp, sliceCells_sl, sliceCells_z, sliceCells_nil, take_full, appS_sl, appK_ok, appS_none, thenD_ag, agP_nil, agP_cons, h1, hc, appS, hd, Ic]
    exact ⟨_, _, ⟨pf_app pX, hg1⟩, rfl⟩
  · rw [S_spec_PathNodes_0]; unfold B_spec_PathNodes_0; simp [thenD_pp, sliceCells_sl, sliceCells_z, sliceCells_nil, take_full, appS_sl, appK_ok, appS_none, thenD_ag, agP_nil, agP_cons, h1, hc]
    generalize hy : appS _ _ _ _ _ _ = xhy
    obtain ⟨a3, X3, rfl, g3, ag, l3⟩ := hg1.at hy (List.prefix_refl _) (by simp; omega) (by rw [Ic_len, outL_len]; omega) (by omega) (Ic_one _) (by omega) (by omega)
    clear hy
    have ec : 1 + j = j + 1 := by omega
    simp only [ec] at g3
    simp [thenD_pp, sliceCells_sl, sliceCells_z, sliceCells_nil, take_full, appS_sl, appK_ok, appS_none, thenD_ag, agP_nil, agP_cons, hd, ec]
    exact ⟨_, _, ⟨ag.pre (pf_app pX) fun b hb => hg1.ge b hb, g3⟩, rfl⟩
/-- The path of a leaf. -/
def PnD (M : Mem) (m a : Nat) (p : V × Mem) : Prop := ∃ av : Option Addr, p.1 = .slice av (m + 1) (m + 1) ∧ M <+: p.2 ∧ Grow M.length 1 p.2 (.slice av (m + 1) (m + 1)) (m + 1) (Ic (outL (2 ^ m + a) (m + 1)))
theorem c_spec_PathNodes (M : Mem) (m a : Nat) (hm : m ≤ 6) (ha : a < 2 ^ m) : Sat (aCall T0 F_spec_PathNodes [.int .i64 m, .int .i64 a] M) (PnD M m a) := by
  have hp : 2 ^ m ≤ 2 ^ 6 := Nat.pow_le_pow_right (by omega) hm
  have hL : leafB m a = true := by
    unfold leafB lgB
    have : (a : Int) < 2 ^ m := by rw [pow2_cast]; omega
    simp [this]; omega
  have e1 := fun M => c_spec_l11Leaf M m a
  rw [hL] at e1
  have e2 := fun M => c_spec_l02Pow M m (by omega)
  have e3 : IntKind.i64.wrap ((2 : Int) ^ m + a) = ((2 ^ m + a : Nat) : Int) := by rw [pow2_cast, wrap_i64 (by omega) (by omega)]; omega
  have hge : ∀ j, j < m + 1 → 1 ≤ (2 ^ m + a) / 2 ^ j := fun j hj => by
    have h1 : 2 ^ j ≤ 2 ^ m := Nat.pow_le_pow_right (by omega) (by omega)
    exact (Nat.le_div_iff_mul_le (Nat.two_pow_pos j)).2 (by omega)
  have hz : (2 ^ m + a) / 2 ^ (m + 1) = 0 := Nat.div_eq_of_lt (by rw [Nat.pow_succ]; omega)
  obtain ⟨v', X', ⟨pX, gX⟩, e⟩ := l_spec_PathNodes_0 M (2 ^ m + a) (m + 1) (by omega) (by omega) hge (.slice (some ⟨M.length, 0, none⟩) 0 0) (M ++ [⟨[], 1, 2⟩]) ⟨List.prefix_append _ _, Grow.new (Nat.le_refl _) rfl⟩
  simp only [Nat.pow_zero, Nat.div_one, hz] at e
  obtain ⟨av, rfl⟩ := gX.shape
  unfold PnD
  generalize 2 ^ m + a = N at e e3 gX
  rw [aCall_eq T_spec_PathNodes]; unfold A_spec_PathNodes C_spec_PathNodes; simp [thenD_pp, sliceCells_sl, sliceCells_z, sliceCells_nil, take_full, appS_sl, appK_ok, appS_none, thenD_ag, agP_nil, agP_cons, e1, e2, e3, zeroCells, e]
  rw [S_spec_PathNodes_0]; unfold B_spec_PathNodes_0; simp [thenD_pp, sliceCells_sl, sliceCells_z, sliceCells_nil, take_full, appS_sl, appK_ok, appS_none, thenD_ag, agP_nil, agP_cons]
  exact ⟨(_, X'), rfl, av, rfl, pX, gX⟩
theorem Ic_at {K : Nat} {M : Mem} {a : Option Addr} {n : Nat} {xs : List Int} (h : Grow K 1 M (.slice a n n) n (Ic xs)) {i : Nat} (hi : i < xs.length) : ∃ l o, a = some ⟨l, o, none⟩ ∧ rd1 M l (o + i) = some (.int .i64 xs[i]) := by
  obtain ⟨h1, ⟨h2, rfl⟩ | ⟨l, _, hv, hb⟩⟩ := h
  · rw [Ic_len] at h1; omega
  · cases hv
    exact ⟨l, 0, rfl, by simp [rd1, hb, Ic, hi]⟩
theorem path_len {m leaf i : Nat} (hl : leaf < 2 ^ m) (hi : i ≤ m) : blen ((2 ^ m + leaf) / 2 ^ (m - i)) = i + 1 := by
  have e : 2 ^ m = 2 ^ i * 2 ^ (m - i) := by rw [← Nat.pow_add]; congr 1; omega
  have hd : (2 ^ m + leaf) / 2 ^ (m - i) = 2 ^ i + leaf / 2 ^ (m - i) := by
    rw [e, Nat.add_comm, Nat.add_mul_div_right _ _ (Nat.two_pow_pos _), Nat.add_comm]
  have hlt : leaf / 2 ^ (m - i) < 2 ^ i := by
    rw [Nat.div_lt_iff_lt_mul (Nat.two_pow_pos _), ← e]
    exact hl
  have key : ∀ q, q < 2 ^ i → blen (2 ^ i + q) = i + 1 := by
    intro q hq
    have hpos := Nat.two_pow_pos i
    have h1 : blen (2 ^ i + q) ≤ i + 1 := blen_le.2 (by rw [Nat.pow_succ]; omega)
    have h2 : ¬ blen (2 ^ i + q) ≤ i := fun h => by
      have := blen_le.1 h
      omega
    omega
  rw [hd]
  exact key _ hlt
theorem onP_iff {m node leaf : Nat} (hl : leaf < 2 ^ m) (h2 : node < 2 * 2 ^ m) (h1 : 1 ≤ node) : onP m node leaf = true ↔ ∃ i, i < m + 1 ∧ (2 ^ m + leaf) / 2 ^ (m - i) = node := by
  unfold onP
  rw [decide_eq_true_eq]
  have hb : blen node ≤ m + 1 := blen_le.2 (by rw [Nat.pow_succ]; omega)
  have hb1 := blen_pos (x := node) (by omega)
  constructor
  · intro h
    exact ⟨blen node - 1, by omega, h⟩
  · rintro ⟨i, hi, rfl⟩
    rw [path_len hl (by omega)]
    simp
theorem c_spec_OnPath (M : Mem) (m node leaf : Nat) (hm : m ≤ 6) (hl : leaf < 2 ^ m) (h1 : 1 ≤ node) (h2 : node < 2 * 2 ^ m) : aCall T0 F_spec_OnPath [.int .i64 m, .int .i64 node, .int .i64 leaf] M = some (.bool (onP m node leaf), M) := by
  obtain ⟨⟨v1, X1⟩, ep, av, hv1, p1, hg⟩ := c_spec_PathNodes M m leaf hm hl
  simp only at hv1 p1 hg
  subst hv1
  have hlen := outL_len (2 ^ m + leaf) (m + 1)
  have hget : ∀ i, i < m + 1 → (outL (2 ^ m + leaf) (m + 1))[i]? = some (((2 ^ m + leaf) / 2 ^ (m - i) : Nat) : Int) := fun i hi => by
    rw [List.getElem?_eq_getElem (by omega), outL_get]
    congr 4
  have hat : ∀ i, i < m + 1 → ∃ l o, av = some ⟨l, o, none⟩ ∧ rd1 X1 l (o + i) = some (.int .i64 (((2 ^ m + leaf) / 2 ^ (m - i) : Nat) : Int)) := fun i hi => by
    obtain ⟨l, o, e, hr⟩ := Ic_at hg (i := i) (by omega)
    refine ⟨l, o, e, ?_⟩
    have := hget i hi
    rw [List.getElem?_eq_getElem (by omega)] at this
    rw [hr, Option.some.inj this]
  have hp : 2 ^ m ≤ 2 ^ 6 := Nat.pow_le_pow_right (by omega) hm
  have gb := fun b => gc_boolp p1 b
  have key := loop_ok (call := aCall T0) (K := K_spec_OnPath_0) (L := L_spec_OnPath_0) (fun _ Y => Y = X1) (fun i => [und, .int .i64 node, und, und, und, und, und, .slice av (m + 1) (m + 1), .int .i64 i, und, und, und, und, und, und, und, und, und, und, und, und, und, und, und]) (fun i => decide (¬ (2 ^ m + leaf) / 2 ^ (m - i) = node)) (n := m + 1) (M0 := M) (rs := [.tmp 6]) (k0 := 0) (a := .bool true) X1 rfl ?_ ?_
  · rcases key with ⟨X', rfl, ha, e⟩ | ⟨⟨i, hi, hx⟩, e⟩
    · simp only [Int.natCast_zero, Int.ofNat_zero] at e
      have hf : onP m node leaf = false := by
        cases ho : onP m node leaf with
        | false => rfl
        | true =>
          obtain ⟨i, hi, h⟩ := (onP_iff hl h2 h1).1 ho
          have := of_decide_eq_true (ha i hi)
          exact absurd h this
      rw [hf]
      rw [aCall_eq T_spec_OnPath]; unfold A_spec_OnPath C_spec_OnPath; simp [thenD_pp, sliceCells_sl, sliceCells_z, sliceCells_nil, take_full, appS_sl, appK_ok, appS_none, thenD_ag, agP_nil, agP_cons, ep, e]
      rw [S_spec_OnPath_0]; unfold B_spec_OnPath_0; simp [thenD_pp, sliceCells_sl, sliceCells_z, sliceCells_nil, take_full, appS_sl, appK_ok, appS_none, thenD_ag, agP_nil, agP_cons, gb]
    · simp only [Int.natCast_zero, Int.ofNat_zero] at e
      have ht : onP m node leaf = true := (onP_iff hl h2 h1).2 ⟨i, hi, by simpa using hx⟩
      rw [ht]
      rw [aCall_eq T_spec_OnPath]; unfold A_spec_OnPath C_spec_OnPath; simp [thenD_pp, sliceCells_sl, sliceCells_z, sliceCells_nil, take_full, appS_sl, appK_ok, appS_none, thenD_ag, agP_nil, agP_cons, ep, e]
  · intro i Y hi hq hY
    subst hY
    have e6 : IntKind.i64.wrap ((i : Int) + 1) = i + 1 := wrap_i64 (by omega) (by omega)
    obtain ⟨l, o, rfl, hr⟩ := hat i hi
    have hq := of_decide_eq_true hq
    have hmi : (i : Int) < (m : Int) + 1 := by omega
    generalize (2 ^ m + leaf) / 2 ^ (m - i) = q at *
    have hq' : ¬ (q : Int) = (node : Int) := by omega
    refine ⟨Y, rfl, ?_⟩
    rw [S_spec_OnPath_0]; unfold B_spec_OnPath_0; simp [thenD_pp, sliceCells_sl, sliceCells_z, sliceCells_nil, take_full, appS_sl, appK_ok, appS_none, thenD_ag, agP_nil, agP_cons, hi, hmi, hr, hq', hq, e6]
  · intro i Y hi hq hY k
    subst hY
    obtain ⟨l, o, rfl, hr⟩ := hat i hi
    have hq : (2 ^ m + leaf) / 2 ^ (m - i) = node := by simpa using hq
    rw [hq] at hr
    have hmi : (i : Int) < (m : Int) + 1 := by omega
    rw [S_spec_OnPath_0]; unfold B_spec_OnPath_0; simp [thenD_pp, sliceCells_sl, sliceCells_z, sliceCells_nil, take_full, appS_sl, appK_ok, appS_none, thenD_ag, agP_nil, agP_cons, hi, hmi, hr, gb]
set_option maxRecDepth 20000 in
set_option maxHeartbeats 2000000 in
theorem l_spec_OramOk_2 (M : Mem) (p q m : Nat) (aN : Option Addr) (cN : Nat) (ns : List ty_Node.D) (hN : Rep (.sl ty_Node) M [.slice aN ns.length cN] ns) (hp : rd1 M p 0 = some (.int .i64 (m : Int))) (hq : M.length ≤ q) (hm : m ≤ 6) (hlen : ns.length + 1 = 2 * 2 ^ m) (i : Nat) (hi : i < ns.length) (hbs : ∀ b ∈ ns[i], (0 ≤ b.1 ∧ b.1 ≤ 255) ∧ b.2.1 = ((Int.toNat b.2.1 : Nat) : Int) ∧ Int.toNat b.2.1 < 2 ^ m) (hnl : ns[i].length ≤ 4)
    (xs : List ty_Block.D) (hxs : xs.length ≤ 100000) (X : Mem) (h : SeI M q xs X) :
    (∃ (u : Unit) (X' : Mem), SeI M q (xs ++ ns[i]) X' ∧ (∀ j, j < ns[i].length → onAt m (i + 1) ns[i] j = true) ∧ lp (aCall T0) K_spec_OramOk_2 L_spec_OramOk_2 (FsI p q aN ns.length cN i 0) X = lp (aCall T0) K_spec_OramOk_2 L_spec_OramOk_2 (FsI p q aN ns.length cN i ns[i].length) X') ∨
    ((∃ j, j < ns[i].length ∧ onAt m (i + 1) ns[i] j = false) ∧ RtB M (lp (aCall T0) K_spec_OramOk_2 L_spec_OramOk_2 (FsI p q aN ns.length cN i 0) X)) := by
  have hp6 : 2 ^ m ≤ 2 ^ 6 := Nat.pow_le_pow_right (by omega) hm
  have key := loop_rt (call := aCall T0) (K := K_spec_OramOk_2) (L := L_spec_OramOk_2) (fun j (_ : Unit) X => SeI M q (xs ++ ns[i].take j) X) (fun j (_ : Unit) => FsI p q aN ns.length cN i j) (onAt m (i + 1) ns[i]) (RtB M) (n := ns[i].length) () X (by simpa using h) ?_ ?_
  · rw [List.take_length] at key
    exact key
  all_goals
    intro j _ X hj ho ⟨pX, hb⟩
    rw [onAt_get hj] at ho
    obtain ⟨l, o, u, rfl, hru, _, hrep⟩ := at_Node (hN.mono pX) hi
    obtain ⟨a1, c1, rfl⟩ := hrep.slen
    obtain ⟨l1, o1, u1, rfl, _, _, _, hrb, _, _, hub, _⟩ := at_Block hrep hj
    obtain ⟨ub, uc, rfl⟩ := hub.slen
    have hk := hbs _ (List.getElem_mem hj)
    have hid := nat_255 hk.1
    have hts : xs ++ ns[i].take (j + 1) = (xs ++ ns[i].take j) ++ [ns[i][j]] := by rw [List.take_succ_eq_append_getElem hj, List.append_assoc]
    have hset := cntV_set (xs ++ ns[i].take j) ns[i][j] hid.2
    have hget := cntV_get (xs ++ ns[i].take j) hid.2
    have hle := cntI_le (Int.toNat ns[i][j].1) (xs ++ ns[i].take j)
    have hln := cntV_len (xs ++ ns[i].take j)
    have htl : (xs ++ ns[i].take j).length ≤ 200000 := by rw [List.length_append, List.length_take]; omega
    have hon : ∀ Y, aCall T0 F_spec_OnPath [.int .i64 m, .int .i64 ((i : Int) + 1), .int .i64 (Int.toNat ns[i][j].2.1 : Int)] Y = some (.bool (onP m (i + 1) (Int.toNat ns[i][j].2.1)), Y) := fun Y => c_spec_OnPath Y m (i + 1) (Int.toNat ns[i][j].2.1) hm (by exact hk.2.2) (by omega) (by omega)
    rw [hid.1, hk.2.1] at hrb
    rw [ho] at hon
    have hlt := hid.2
    generalize hcs2 : cntV ((xs ++ ns[i].take j) ++ [ns[i][j]]) = cs2 at *
    generalize cntI (Int.toNat ns[i][j].1) (xs ++ ns[i].take j) = z at *
    generalize Int.toNat ns[i][j].1 = t at *
    generalize Int.toNat ns[i][j].2.1 = lf at *
    generalize hdl : List.length (α := UInt8) ns[i][j].2.2 = dl at *
    generalize cntV (xs ++ ns[i].take j) = cs at *
    have e6 : IntKind.i64.wrap ((j : Int) + 1) = j + 1 := wrap_i64 (by omega) (by omega)
    have e7 : IntKind.i64.wrap ((i : Int) + 1) = i + 1 := wrap_i64 (by omega) (by omega)
    have ez : IntKind.i64.wrap ((z : Int) + 1) = (z : Int) + 1 := wrap_i64 (by omega) (by omega)
    have pB : M <+: X ++ [(⟨[.int .i64 (t : Int), .int .i64 (lf : Int), .slice ub dl uc], 1, 2⟩ : Blk)] := pX.trans (List.prefix_append _ _)
    have hp' := fun N : Mem => r1_pre (pX.trans (List.prefix_append X N)) hp
    have hlt2 : (t : Int) < 256 := by omega
    have hqX := get_lt hb
    have hbB := get_pre (List.prefix_append X [(⟨[.int .i64 (t : Int), .int .i64 (lf : Int), .slice ub dl uc], 1, 2⟩ : Blk)]) hb
    have hwr : wrn (X ++ [(⟨[.int .i64 (t : Int), .int .i64 (lf : Int), .slice ub dl uc], 1, 2⟩ : Blk)]) q t [.int .i64 ((z : Int) + 1)] = some ((X ++ [(⟨[.int .i64 (t : Int), .int .i64 (lf : Int), .slice ub dl uc], 1, 2⟩ : Blk)]).set q ⟨cs2, 1, 2⟩) := by
      rw [show ((z : Int) + 1) = ((z + 1 : Nat) : Int) by omega, wrn_eq hbB rfl (by show t + 1 ≤ cs.length; omega) rfl, ← hset]
    have hrq : rd1 (X ++ [(⟨[.int .i64 (t : Int), .int .i64 (lf : Int), .slice ub dl uc], 1, 2⟩ : Blk)]) q t = some (.int .i64 (z : Int)) := by simp [rd1, hbB, hget]
    have pS := pf_set (b := ⟨cs2, 1, 2⟩) hq pB
    have hpS := r1_pre pS hp
    have hbx : ((X ++ [(⟨[.int .i64 (t : Int), .int .i64 (lf : Int), .slice ub dl uc], 1, 2⟩ : Blk)]).set q ⟨cs2, 1, 2⟩)[X.length]? = some ⟨[.int .i64 (t : Int), .int .i64 (lf : Int), .slice ub dl uc], 1, 2⟩ := by
      rw [List.getElem?_set_ne (by omega)]
      simp
    have hbr : rd1 ((X ++ [(⟨[.int .i64 (t : Int), .int .i64 (lf : Int), .slice ub dl uc], 1, 2⟩ : Blk)]).set q ⟨cs2, 1, 2⟩) X.length 1 = some (.int .i64 (lf : Int)) := by simp only [rd1, hbx]; rfl
  · refine ⟨(), _, ⟨pS, by rw [hts, hcs2]; exact gs_of hbB _⟩, ?_⟩
    rw [S_spec_OramOk_2]; unfold B_spec_OramOk_2; simp [thenD_pp, sliceCells_sl, sliceCells_z, sliceCells_nil, take_full, appS_sl, appK_ok, appS_none, thenD_ag, agP_nil, agP_cons, hi, hj, hru, hrb, hp', hrq, hwr, hlt, hlt2, hpS, hbr, hon, e6, e7, ez]
    rfl
  · rw [S_spec_OramOk_2]; unfold B_spec_OramOk_2; simp [thenD_pp, sliceCells_sl, sliceCells_z, sliceCells_nil, take_full, appS_sl, appK_ok, appS_none, thenD_ag, agP_nil, agP_cons, hi, hj, hru, hrb, hp', hrq, hwr, hlt, hlt2, hpS, hbr, hon, e6, e7, ez]
    refine ⟨_, _, rfl, ?_, pS⟩
    rfl
theorem flatten_take {α : Type} (ns : List (List α)) {i : Nat} (hi : i < ns.length) : (ns.take (i + 1)).flatten = (ns.take i).flatten ++ ns[i] := by
  rw [List.take_succ_eq_append_getElem hi, List.flatten_append, List.flatten_cons, List.flatten_nil, List.append_nil]
theorem flatten_len {α : Type} {ns : List (List α)} {k : Nat} (h : ∀ x ∈ ns, x.length ≤ k) : ns.flatten.length ≤ ns.length * k := by
  induction ns with
  | nil => simp
  | cons x xs ih =>
    rw [List.flatten_cons, List.length_append, List.length_cons, Nat.succ_mul]
    have h1 := h x (by simp)
    have h2 := ih (fun y hy => h y (by simp [hy]))
    omega
set_option maxRecDepth 20000 in
set_option maxHeartbeats 2000000 in
theorem l_spec_OramOk_1 (M : Mem) (p q m : Nat) (aN : Option Addr) (cN : Nat) (ns : List ty_Node.D) (hN : Rep (.sl ty_Node) M [.slice aN ns.length cN] ns) (hp : rd1 M p 0 = some (.int .i64 (m : Int))) (hq : M.length ≤ q) (hm : m ≤ 6) (hlen : ns.length + 1 = 2 * 2 ^ m) (hbs : ∀ bs ∈ ns, ∀ b ∈ bs, (0 ≤ b.1 ∧ b.1 ≤ 255) ∧ b.2.1 = ((Int.toNat b.2.1 : Nat) : Int) ∧ Int.toNat b.2.1 < 2 ^ m) (hnl : ∀ bs ∈ ns, List.length (α := ty_Block.D) bs ≤ 4)
    (st : List ty_Block.D) (hst : st.length ≤ 1000) (X : Mem) (h : SeI M q st X) :
    (∃ (u : Unit) (X' : Mem), SeI M q (st ++ ns.flatten) X' ∧ (∀ i, i < ns.length → onAll m ns i = true) ∧ lp (aCall T0) K_spec_OramOk_1 L_spec_OramOk_1 (FtI p q aN ns.length cN 0) X = lp (aCall T0) K_spec_OramOk_1 L_spec_OramOk_1 (FtI p q aN ns.length cN ns.length) X') ∨
    ((∃ i, i < ns.length ∧ onAll m ns i = false) ∧ RtB M (lp (aCall T0) K_spec_OramOk_1 L_spec_OramOk_1 (FtI p q aN ns.length cN 0) X)) := by
  have hp6 : 2 ^ m ≤ 2 ^ 6 := Nat.pow_le_pow_right (by omega) hm
  have key := loop_rt (call := aCall T0) (K := K_spec_OramOk_1) (L := L_spec_OramOk_1) (fun i (_ : Unit) X => SeI M q (st ++ (ns.take i).flatten) X) (fun i (_ : Unit) => FtI p q aN ns.length cN i) (onAll m ns) (RtB M) (n := ns.length) () X (by simpa using h) ?_ ?_
  · rw [List.take_length] at key
    exact key
  all_goals
    intro i _ X hi ho hX
    rw [onAll_get hi] at ho
    have hfl := flatten_len (ns := ns.take i) (k := 4) (fun x hx => hnl x (List.mem_of_mem_take hx))
    rw [List.length_take] at hfl
    have key := l_spec_OramOk_2 M p q m aN cN ns hN hp hq hm hlen i hi (hbs _ (List.getElem_mem hi)) (hnl _ (List.getElem_mem hi)) (st ++ (ns.take i).flatten) (by rw [List.length_append]; omega) X hX
    have e6 : IntKind.i64.wrap ((i : Int) + 1) = i + 1 := wrap_i64 (by omega) (by omega)
    obtain ⟨l, o, u, rfl, hru, _, hrep⟩ := at_Node (hN.mono hX.1) hi
    obtain ⟨a1, c1, rfl⟩ := hrep.slen
    simp only [FsI, Int.natCast_zero, Int.ofNat_zero] at key
    rcases key with ⟨_, X', hX', hall, e⟩ | ⟨⟨j, hj, hon⟩, fr, X', e, q2, q3⟩
  · refine ⟨(), X', by rw [flatten_take ns hi, ← List.append_assoc]; exact hX', ?_⟩
    obtain ⟨l', o', u', e', hru', _, hrep'⟩ := at_Node (hN.mono hX'.1) hi
    cases e'
    obtain ⟨a1', c1', rfl⟩ := hrep'.slen
    rw [S_spec_OramOk_1]; unfold B_spec_OramOk_1; simp [thenD_pp, sliceCells_sl, sliceCells_z, sliceCells_nil, take_full, appS_sl, appK_ok, appS_none, thenD_ag, agP_nil, agP_cons, hi, e]
    rw [S_spec_OramOk_2]; unfold B_spec_OramOk_2; simp [thenD_pp, sliceCells_sl, sliceCells_z, sliceCells_nil, take_full, appS_sl, appK_ok, appS_none, thenD_ag, agP_nil, agP_cons, hi, hru', e6]
    try rfl
  · exfalso
    rw [onAt_get hj] at hon
    have := List.all_eq_true.1 ho _ (List.getElem_mem hj)
    rw [hon] at this
    cases this
  · exfalso
    have : (List.all (α := ty_Block.D) ns[i] fun b => onP m (i + 1) (Int.toNat b.2.1)) = true := List.all_eq_true.2 fun b hb => by
      obtain ⟨k, hk, rfl⟩ := List.getElem_of_mem hb
      rw [← onAt_get hk]
      exact hall k hk
    rw [this] at ho
    cases ho
  · rw [S_spec_OramOk_1]; unfold B_spec_OramOk_1; simp [thenD_pp, sliceCells_sl, sliceCells_z, sliceCells_nil, take_full, appS_sl, appK_ok, appS_none, thenD_ag, agP_nil, agP_cons, hi, e]
    exact ⟨fr, X', rfl, q2, q3⟩
set_option maxRecDepth 20000 in
set_option maxHeartbeats 2000000 in
theorem l_spec_OramOk_3 (M : Mem) (q : Nat) (xs : List ty_Block.D) (X : Mem) (h : SeI M q xs X) :
    (∃ X', X' = X ∧ (∀ i, i < 256 → decide (cntI i xs ≤ 1) = true) ∧ lp (aCall T0) K_spec_OramOk_3 L_spec_OramOk_3 [und, und, und, und, und, .slice (some ⟨q, 0, none⟩) 256 256, und, und, und, und, .int .i64 (0 : Nat), und, und, und, und, und, und, und, und, und, und, und, und, und, und, und, und, und, und, und, und, und, und, und, und, und, und, und, und, und, und, und, und, und, und, und, und, und, und, und, und, und, und, und, und, und, und, und, und, und, und, und, und, und, und, und, und, und, und, und, und, und, und, und, und, und, und, und, und, und, und, und, und, und, und, und, und, und, und, und, und, und, und, und, und, und, und, und, und, und, und, und, und, und, und, und, und, und, und, und, und, und, und, und, und, und, und, und, und, und, und, und, und, und, und, und, und, und, und, und, und, und, und, und, und, und, und, und, und, und, und, und, und, und] X = lp (aCall T0) K_spec_OramOk_3 L_spec_OramOk_3 [und, und, und, und, und, .slice (some ⟨q, 0, none⟩) 256 256, und, und, und, und, .int .i64 (256 : Nat), und, und, und, und, und, und, und, und, und, und, und, und, und, und, und, und, und, und, und, und, und, und, und, und, und, und, und, und, und, und, und, und, und, und, und, und, und, und, und, und, und, und, und, und, und, und, und, und, und, und, und, und, und, und, und, und, und, und, und, und, und, und, und, und, und, und, und, und, und, und, und, und, und, und, und, und, und, und, und, und, und, und, und, und, und, und, und, und, und, und, und, und, und, und, und, und, und, und, und, und, und, und, und, und, und, und, und, und, und, und, und, und, und, und, und, und, und, und, und, und, und, und, und, und, und, und, und, und, und, und, und, und, und] X') ∨
    ((∃ i, i < 256 ∧ decide (cntI i xs ≤ 1) = false) ∧ RtB M (lp (aCall T0) K_spec_OramOk_3 L_spec_OramOk_3 [und, und, und, und, und, .slice (some ⟨q, 0, none⟩) 256 256, und, und, und, und, .int .i64 (0 : Nat), und, und, und, und, und, und, und, und, und, und, und, und, und, und, und, und, und, und, und, und, und, und, und, und, und, und, und, und, und, und, und, und, und, und, und, und, und, und, und, und, und, und, und, und, und, und, und, und, und, und, und, und, und, und, und, und, und, und, und, und, und, und, und, und, und, und, und, und, und, und, und, und, und, und, und, und, und, und, und, und, und, und, und, und, und, und, und, und, und, und, und, und, und, und, und, und, und, und, und, und, und, und, und, und, und, und, und, und, und, und, und, und, und, und, und, und, und, und, und, und, und, und, und, und, und, und, und, und, und, und, und, und, und] X)) := by
  have key := loop_rt (call := aCall T0) (K := K_spec_OramOk_3) (L := L_spec_OramOk_3) (fun _ (_ : Unit) Y => Y = X) (fun i (_ : Unit) => [und, und, und, und, und, .slice (some ⟨q, 0, none⟩) 256 256, und, und, und, und, .int .i64 i, und, und, und, und, und, und, und, und, und, und, und, und, und, und, und, und, und, und, und, und, und, und, und, und, und, und, und, und, und, und, und, und, und, und, und, und, und, und, und, und, und, und, und, und, und, und, und, und, und, und, und, und, und, und, und, und, und, und, und, und, und, und, und, und, und, und, und, und, und, und, und, und, und, und, und, und, und, und, und, und, und, und, und, und, und, und, und, und, und, und, und, und, und, und, und, und, und, und, und, und, und, und, und, und, und, und, und, und, und, und, und, und, und, und, und, und, und, und, und, und, und, und, und, und, und, und, und, und, und, und, und, und, und]) (fun i => decide (cntI i xs ≤ 1)) (RtB M) (n := 256) () X rfl ?_ ?_
  · rcases key with ⟨_, X', h1, h2, h3⟩ | h
    · exact .inl ⟨X', h1, h2, h3⟩
    · exact .inr h
  all_goals
    intro i _ Y hi ho hY
    subst hY
    have hget := cntV_get xs hi
    have hr : rd1 Y q i = some (.int .i64 (cntI i xs : Int)) := by simp [rd1, h.2, hget]
    have e6 : IntKind.i64.wrap ((i : Int) + 1) = i + 1 := wrap_i64 (by omega) (by omega)
    have hi2 : (i : Int) < 256 := by omega
  · have ho := of_decide_eq_true ho
    generalize cntI i xs = z at *
    have ho2 : ¬ (1 : Int) < (z : Int) := by omega
    refine ⟨(), Y, rfl, ?_⟩
    rw [S_spec_OramOk_3]; unfold B_spec_OramOk_3; simp [thenD_pp, sliceCells_sl, sliceCells_z, sliceCells_nil, take_full, appS_sl, appK_ok, appS_none, thenD_ag, agP_nil, agP_cons, hi, hi2, hr, ho2, e6]
    try rfl
  · have ho := of_decide_eq_false ho
    generalize cntI i xs = z at *
    have ho2 : (1 : Int) < (z : Int) := by omega
    rw [S_spec_OramOk_3]; unfold B_spec_OramOk_3; simp [thenD_pp, sliceCells_sl, sliceCells_z, sliceCells_nil, take_full, appS_sl, appK_ok, appS_none, thenD_ag, agP_nil, agP_cons, hi, hi2, hr, ho2, e6]
    refine ⟨_, _, rfl, ?_, h.1⟩
    rfl
def flI (k : Nat) (xs : List ty_Block.D) : List ty_Block.D := xs.filter fun b => decide (Int.toNat b.1 = k)
theorem cntI_fl (k : Nat) (xs : List ty_Block.D) : cntI k xs = (flI k xs).length := rfl
theorem toNat_inj {a b : Int} (ha : 0 ≤ a) (hb : 0 ≤ b) (h : Int.toNat a = Int.toNat b) : a = b := by omega
theorem cnt_lt {xs : List ty_Block.D} (h : IdLt xs) (hr : IdsR xs) (k : Nat) : cntI k xs ≤ 1 := by
  rw [cntI_fl]
  by_cases h2 : (flI k xs).length ≤ 1
  · exact h2
  · exfalso
    have hs : (flI k xs).Pairwise fun a b => a.1 < b.1 := h.sublist List.filter_sublist
    have h3 := List.pairwise_iff_getElem.1 hs 0 1 (by omega) (by omega) (by omega)
    have m0 := List.mem_filter.1 (List.getElem_mem (show 0 < (flI k xs).length by omega))
    have m1 := List.mem_filter.1 (List.getElem_mem (show 1 < (flI k xs).length by omega))
    have e := toNat_inj (hr _ m0.1).1 (hr _ m1.1).1 ((of_decide_eq_true m0.2).trans (of_decide_eq_true m1.2).symm)
    rw [e] at h3
    exact Int.lt_irrefl _ h3
theorem flI_app (k : Nat) (xs ys : List ty_Block.D) : flI k (xs ++ ys) = flI k xs ++ flI k ys := List.filter_append ..
theorem flI_one (k : Nat) (b : ty_Block.D) : flI k [b] = if Int.toNat b.1 = k then [b] else [] := by
  unfold flI
  by_cases h : Int.toNat b.1 = k
  · rw [if_pos h, List.filter_cons, if_pos (decide_eq_true h)]; rfl
  · rw [if_neg h, List.filter_cons, if_neg (by rw [decide_eq_false h]; simp)]; rfl
theorem flI_none {id : Int} (h0 : 0 ≤ id) {xs : List ty_Block.D} (hr : IdsR xs) (h : hasId id xs = false) : flI (Int.toNat id) xs = [] := by
  unfold flI
  rw [List.filter_eq_nil_iff]
  intro c hc hd
  exact ids_ne h c hc (toNat_inj (hr c hc).1 h0 (of_decide_eq_true hd))
theorem flI_put {b : ty_Block.D} {xs : List ty_Block.D} (hb : 0 ≤ b.1 ∧ b.1 ≤ 255) (hr : IdsR xs) (h : hasId b.1 xs = false) (k : Nat) : flI k (putL b xs) = flI k (xs ++ [b]) := by
  rw [(putL_new h).1]
  unfold insL
  generalize lbB b.1 xs = r
  have e : xs.take r ++ b :: xs.drop r = xs.take r ++ ([b] ++ xs.drop r) := by simp
  rw [e, flI_app, flI_app, flI_app, flI_one]
  have hx : flI k (xs.take r) ++ flI k (xs.drop r) = flI k xs := by rw [← flI_app, List.take_append_drop]
  by_cases hk : Int.toNat b.1 = k
  · rw [if_pos hk]
    have h0 := flI_none hb.1 hr h
    rw [hk] at h0
    rw [h0] at hx ⊢
    have := List.append_eq_nil_iff.1 hx
    rw [this.1, this.2]
    rfl
  · rw [if_neg hk, List.nil_append, hx, List.append_nil]
theorem in_good {m nd : Nat} : ∀ (bs all a : List ty_Block.D), inO m nd all bs = some a → IdLt all → IdsR all → IdsR bs → (∀ b ∈ bs, onP m nd (Int.toNat b.2.1) = true) ∧ IdLt a ∧ IdsR a ∧ ∀ k, flI k a = flI k (all ++ bs)
  | [], all, a, h, h1, h2, h3 => by
    cases h
    exact ⟨by simp, h1, h2, by simp⟩
  | b :: bs, all, a, h, h1, h2, h3 => by
    unfold inO at h
    by_cases hc : (onP m nd (Int.toNat b.2.1) && !(hasId b.1 all)) = true
    · rw [if_pos hc] at h
      rw [Bool.and_eq_true] at hc
      have hn : hasId b.1 all = false := by simpa using hc.2
      have hb := h3 b (by simp)
      obtain ⟨q1, q2, q3, q4⟩ := in_good bs (putL b all) a h (putL_lt h1 hn) (putL_ids h2 hb) (fun x hx => h3 x (by simp [hx]))
      refine ⟨fun x hx => ?_, q2, q3, fun k => ?_⟩
      · rcases List.mem_cons.1 hx with rfl | hx
        · exact hc.1
        · exact q1 x hx
      · rw [q4 k, flI_app, flI_put hb h2 hn, ← flI_app, List.append_assoc]
        rfl
    · rw [if_neg hc] at h
      cases h
theorem ndOk_ids {l w : Int} {c : ty_Cell.D} (h : ndOk l w c = true) : IdsR (ndB (Int.toNat w) c) := by
  unfold ndOk at h
  simp only [Bool.and_eq_true] at h
  exact ids_of h.2.2.1
theorem out_good {m : Nat} {w : Int} : ∀ (cells : List ty_Cell.D) (nd : Nat) (all a : List ty_Block.D), outO m w nd cells all = some a → IdLt all → IdsR all →
    (cells.all (ndOk m w) = true ∧ ∀ i (hi : i < cells.length), ∀ b ∈ ndB (Int.toNat w) cells[i], onP m (nd + i) (Int.toNat b.2.1) = true) ∧ IdLt a ∧ IdsR a ∧ ∀ k, flI k a = flI k (all ++ (ndsF w cells).flatten)
  | [], nd, all, a, h, h1, h2 => by
    cases h
    exact ⟨⟨rfl, by simp⟩, h1, h2, by simp [ndsF]⟩
  | c :: cs, nd, all, a, h, h1, h2 => by
    unfold outO at h
    by_cases hok : ndOk m w c = true
    · rw [if_pos hok] at h
      have hid := ndOk_ids hok
      cases hi : inO m nd all (ndB (Int.toNat w) c) with
      | none => rw [hi] at h; cases h
      | some a1 =>
        rw [hi] at h
        obtain ⟨q1, q2, q3, q4⟩ := in_good _ all a1 hi h1 h2 hid
        obtain ⟨⟨r1, r2⟩, r3, r4, r5⟩ := out_good cs (nd + 1) a1 a h q2 q3
        refine ⟨⟨by rw [List.all_cons, hok, r1]; rfl, fun i hi b hb => ?_⟩, r3, r4, fun k => ?_⟩
        · cases i with
          | zero => exact q1 b hb
          | succ i =>
            have := r2 i (by simpa using hi) b (by simpa using hb)
            rw [show nd + (i + 1) = nd + 1 + i by omega]
            exact this
        · rw [r5 k, flI_app, q4 k, ← flI_app, List.append_assoc]
          rfl
    · rw [if_neg hok] at h
      cases h
theorem in_bad {m nd : Nat} : ∀ (bs all : List ty_Block.D), IdLt all → IdsR all → IdsR bs → (∀ b ∈ bs, onP m nd (Int.toNat b.2.1) = true) → (∀ k, k < 256 → cntI k (all ++ bs) ≤ 1) → ∃ a, inO m nd all bs = some a
  | [], all, _, _, _, _, _ => ⟨all, rfl⟩
  | b :: bs, all, h1, h2, h3, h4, h5 => by
    have hb := h3 b (by simp)
    have hbn := nat_255 hb
    have hn : hasId b.1 all = false := by
      cases hh : hasId b.1 all with
      | false => rfl
      | true =>
        obtain ⟨c, hc, hd⟩ := List.any_eq_true.1 hh
        have he : c.1 = b.1 := of_decide_eq_true hd
        have := h5 (Int.toNat b.1) hbn.2
        rw [cntI_fl, flI_app, List.length_append] at this
        have e2 : flI (Int.toNat b.1) (b :: bs) = [b] ++ flI (Int.toNat b.1) bs := by
          rw [show b :: bs = [b] ++ bs from rfl, flI_app, flI_one, if_pos rfl]
        rw [e2, List.length_append, List.length_singleton] at this
        have hcm : c ∈ flI (Int.toNat b.1) all := List.mem_filter.2 ⟨hc, decide_eq_true (by rw [he])⟩
        have := List.length_pos_of_mem hcm
        omega
    unfold inO
    rw [if_pos (by rw [h4 b (by simp), hn]; rfl)]
    refine in_bad bs (putL b all) (putL_lt h1 hn) (putL_ids h2 hb) (fun x hx => h3 x (by simp [hx])) (fun x hx => h4 x (by simp [hx])) fun k hk => ?_
    rw [cntI_fl, flI_app, flI_put hb h2 hn, ← flI_app, List.append_assoc]
    exact h5 k hk
theorem out_bad {m : Nat} {w : Int} : ∀ (cells : List ty_Cell.D) (nd : Nat) (all : List ty_Block.D), IdLt all → IdsR all → cells.all (ndOk m w) = true → (∀ i (hi : i < cells.length), ∀ b ∈ ndB (Int.toNat w) cells[i], onP m (nd + i) (Int.toNat b.2.1) = true) → (∀ k, k < 256 → cntI k (all ++ (ndsF w cells).flatten) ≤ 1) → ∃ a, outO m w nd cells all = some a
  | [], nd, all, _, _, _, _, _ => ⟨all, rfl⟩
  | c :: cs, nd, all, h1, h2, h3, h4, h5 => by
    rw [List.all_cons, Bool.and_eq_true] at h3
    have hid := ndOk_ids h3.1
    have hfl : (ndsF w (c :: cs)).flatten = ndB (Int.toNat w) c ++ (ndsF w cs).flatten := rfl
    obtain ⟨a1, hi⟩ := in_bad (m := m) (nd := nd) (ndB (Int.toNat w) c) all h1 h2 hid (fun b hb => h4 0 (by simp) b hb) (fun k hk => by
      have := h5 k hk
      rw [hfl, ← List.append_assoc, cntI_fl, flI_app, List.length_append] at this
      rw [cntI_fl]
      omega)
    obtain ⟨q1, q2, q3, q4⟩ := in_good _ all a1 hi h1 h2 hid
    unfold outO
    rw [if_pos h3.1, hi]
    refine out_bad cs (nd + 1) a1 q2 q3 h3.2 (fun i hi b hb => ?_) fun k hk => ?_
    · have := h4 (i + 1) (by simpa using hi) b (by simpa using hb)
      rw [show nd + 1 + i = nd + (i + 1) by omega]
      exact this
    · rw [cntI_fl, flI_app, q4 k, ← flI_app, List.append_assoc, ← hfl]
      exact h5 k hk
theorem frO_f {l w b : Int} {m : ty_Mem.D} {st : List ty_Block.D} (h : frO l w b m st = false) : (orX l w b m st).isSome = false := by unfold orX; rw [h]; rfl
theorem ndsF_get (w : Int) (cells : List ty_Cell.D) {i : Nat} (hi : i < cells.length) : (ndsF w cells)[i]'(by unfold ndsF; rw [List.length_map]; exact hi) = ndB (Int.toNat w) cells[i] := by simp [ndsF]
theorem ndsF_len (w : Int) (cells : List ty_Cell.D) : (ndsF w cells).length = cells.length := by simp [ndsF]
theorem c_spec_TreeNodes (M : Mem) (m n : Nat) (h : m ≤ 6) (hn : n = 2 * 2 ^ m - 1) : aCall T0 F_spec_TreeNodes [.int .i64 m] M = some (.int .i64 n, M) := by
  have hp : (2 : Int) ^ m ≤ 2 ^ 6 := pow2_le h
  have hq : (0 : Int) < 2 ^ m := pow2_pos m
  have hn2 : (n : Int) = 2 * 2 ^ m - 1 := by
    have : 0 < 2 ^ m := Nat.pow_pos (by omega)
    subst hn
    rw [Int.natCast_sub (by omega)]
    simp
  have e1 : IntKind.i64.wrap (2 * 2 ^ m) = 2 * 2 ^ m := wrap_i64 (by omega) (by omega)
  have e2 : IntKind.i64.wrap (2 * 2 ^ m - 1) = n := by rw [hn2]; exact wrap_i64 (by omega) (by omega)
  have hb : (decide ((0 : Int) ≤ m) && decide ((m : Int) ≤ 6)) = true := by simp; omega
  have e3 := c_spec_l11Log M m
  rw [hb] at e3
  rw [aCall_eq T_spec_TreeNodes]; unfold A_spec_TreeNodes C_spec_TreeNodes; simp [e3, c_spec_l02Pow _ m (by omega), e1, e2]
theorem l_spec_MemOk_0 (M X : Mem) (m : ty_Mem.D) (a b : Option Addr) (c d p : Nat) (hM : M <+: X) (hb : X[p]? = some ⟨[.int .i64 m.1, .slice a m.2.1.length c, .slice b m.2.2.length d], 1, 2⟩) (h : Rep (.sl ty_Cell) M [.slice a m.2.1.length c] m.2.1) (hn : m.2.1.length ≤ 128) :
    ((∀ i, i < m.2.1.length → atB (cellB m) m.2.1 i = true) ∧ lp (aCall T0) K_spec_MemOk_0 L_spec_MemOk_0 [und, .pointer (some ⟨p, 0, none⟩), und, .int .i64 (0 : Nat), und, und, und, und, und, und, und, und, und, und, und, und, und, und, und, und, und, und, und, und, und, und, und, und, und, und, und, und, und, und, und, und, und, und, und, und, und, und, und, und, und, und, und, und, und, und, und, und, und, und, und, und, und, und, und, und, und, und, und, und, und, und, und, und, und, und, und, und, und, und, und, und, und, und, und, und, und, und, und] X = lp (aCall T0) K_spec_MemOk_0 L_spec_MemOk_0 [und, .pointer (some ⟨p, 0, none⟩), und, .int .i64 m.2.1.length, und, und, und, und, und, und, und, und, und, und, und, und, und, und, und, und, und, und, und, und, und, und, und, und, und, und, und, und, und, und, und, und, und, und, und, und, und, und, und, und, und, und, und, und, und, und, und, und, und, und, und, und, und, und, und, und, und, und, und, und, und, und, und, und, und, und, und, und, und, und, und, und, und, und, und, und, und, und, und] X) ∨
    ((∃ i, i < m.2.1.length ∧ atB (cellB m) m.2.1 i = false) ∧ ∀ k, thenF M [.tmp 2] (thenS (blockR 0 (lp (aCall T0) K_spec_MemOk_0 L_spec_MemOk_0 [und, .pointer (some ⟨p, 0, none⟩), und, .int .i64 (0 : Nat), und, und, und, und, und, und, und, und, und, und, und, und, und, und, und, und, und, und, und, und, und, und, und, und, und, und, und, und, und, und, und, und, und, und, und, und, und, und, und, und, und, und, und, und, und, und, und, und, und, und, und, und, und, und, und, und, und, und, und, und, und, und, und, und, und, und, und, und, und, und, und, und, und, und, und, und, und, und, und] X)) (aCall T0) k) = some (.bool false, M)) := by
  have key := loop_ok (call := aCall T0) (K := K_spec_MemOk_0) (L := L_spec_MemOk_0) (fun _ Y => Y = X) (fun i => [und, .pointer (some ⟨p, 0, none⟩), und, .int .i64 i, und, und, und, und, und, und, und, und, und, und, und, und, und, und, und, und, und, und, und, und, und, und, und, und, und, und, und, und, und, und, und, und, und, und, und, und, und, und, und, und, und, und, und, und, und, und, und, und, und, und, und, und, und, und, und, und, und, und, und, und, und, und, und, und, und, und, und, und, und, und, und, und, und, und, und, und, und, und, und]) (atB (cellB m) m.2.1) (n := m.2.1.length) (M0 := M) (rs := [.tmp 2]) (k0 := 0) (a := .bool false) X rfl ?_ ?_
  · rcases key with ⟨X', rfl, h1, h2⟩ | h
    · exact .inl ⟨h1, h2⟩
    · exact .inr h
  · intro i Y hi hq e
    subst e
    obtain ⟨l, o, u, rfl, q1, _, q3⟩ := at_Cell (h.mono hM) hi
    obtain ⟨_, _, rfl⟩ := q3.slen
    rw [atB_get _ hi] at hq
    have hq := of_decide_eq_true hq
    have e6 : IntKind.i64.wrap ((i : Int) + 1) = i + 1 := wrap_i64 (by omega) (by omega)
    refine ⟨Y, rfl, ?_⟩
    rw [S_spec_MemOk_0]; unfold B_spec_MemOk_0; simp [thenD_pp, sliceCells_sl, sliceCells_z, sliceCells_nil, take_full, appS_sl, appK_ok, appS_none, thenD_ag, agP_nil, agP_cons, hb, hi, q1, hq, e6, rd1_K, rdJ_ok]
  · intro i Y hi hq e k
    subst e
    obtain ⟨l, o, u, rfl, q1, _, q3⟩ := at_Cell (h.mono hM) hi
    obtain ⟨_, _, rfl⟩ := q3.slen
    rw [atB_get _ hi] at hq
    have hq := of_decide_eq_false hq
    have gb := fun b => gc_boolp hM b
    rw [S_spec_MemOk_0]; unfold B_spec_MemOk_0; simp [thenD_pp, sliceCells_sl, sliceCells_z, sliceCells_nil, take_full, appS_sl, appK_ok, appS_none, thenD_ag, agP_nil, agP_cons, hb, hi, q1, hq, gb, rd1_K, rdJ_ok]
set_option maxHeartbeats 4000000 in
theorem l_spec_MemOk_1 (M X : Mem) (m : ty_Mem.D) (a b : Option Addr) (c d p : Nat) (hM : M <+: X) (hb : X[p]? = some ⟨[.int .i64 m.1, .slice a m.2.1.length c, .slice b m.2.2.length d], 1, 2⟩) (h : Rep (.sl ty_Touch) M [.slice b m.2.2.length d] m.2.2) (hn : m.2.2.length ≤ 6000) :
    (∃ X', M <+: X' ∧ (∀ i, i < m.2.2.length → atB (touchB m) m.2.2 i = true) ∧ lp (aCall T0) K_spec_MemOk_1 L_spec_MemOk_1 [und, .pointer (some ⟨p, 0, none⟩), und, und, .int .i64 (0 : Nat), und, und, und, und, und, und, und, und, und, und, und, und, und, und, und, und, und, und, und, und, und, und, und, und, und, und, und, und, und, und, und, und, und, und, und, und, und, und, und, und, und, und, und, und, und, und, und, und, und, und, und, und, und, und, und, und, und, und, und, und, und, und, und, und, und, und, und, und, und, und, und, und, und, und, und, und, und, und] X = lp (aCall T0) K_spec_MemOk_1 L_spec_MemOk_1 [und, .pointer (some ⟨p, 0, none⟩), und, und, .int .i64 m.2.2.length, und, und, und, und, und, und, und, und, und, und, und, und, und, und, und, und, und, und, und, und, und, und, und, und, und, und, und, und, und, und, und, und, und, und, und, und, und, und, und, und, und, und, und, und, und, und, und, und, und, und, und, und, und, und, und, und, und, und, und, und, und, und, und, und, und, und, und, und, und, und, und, und, und, und, und, und, und, und] X' ∧ X'[p]? = some ⟨[.int .i64 m.1, .slice a m.2.1.length c, .slice b m.2.2.length d], 1, 2⟩) ∨
    ((∃ i, i < m.2.2.length ∧ atB (touchB m) m.2.2 i = false) ∧ ∀ k, thenF M [.tmp 2] (thenS (blockR 2 (lp (aCall T0) K_spec_MemOk_1 L_spec_MemOk_1 [und, .pointer (some ⟨p, 0, none⟩), und, und, .int .i64 (0 : Nat), und, und, und, und, und, und, und, und, und, und, und, und, und, und, und, und, und, und, und, und, und, und, und, und, und, und, und, und, und, und, und, und, und, und, und, und, und, und, und, und, und, und, und, und, und, und, und, und, und, und, und, und, und, und, und, und, und, und, und, und, und, und, und, und, und, und, und, und, und, und, und, und, und, und, und, und, und, und] X)) (aCall T0) k) = some (.bool false, M)) := by
  have key := loop_ok (call := aCall T0) (K := K_spec_MemOk_1) (L := L_spec_MemOk_1) (fun _ Y => X <+: Y) (fun i => [und, .pointer (some ⟨p, 0, none⟩), und, und, .int .i64 i, und, und, und, und, und, und, und, und, und, und, und, und, und, und, und, und, und, und, und, und, und, und, und, und, und, und, und, und, und, und, und, und, und, und, und, und, und, und, und, und, und, und, und, und, und, und, und, und, und, und, und, und, und, und, und, und, und, und, und, und, und, und, und, und, und, und, und, und, und, und, und, und, und, und, und, und, und, und]) (atB (touchB m) m.2.2) (n := m.2.2.length) (M0 := M) (rs := [.tmp 2]) (k0 := 2) (a := .bool false) X (List.prefix_refl _) ?_ ?_
  · rcases key with ⟨X', h0, h1, h2⟩ | h
    · exact .inl ⟨X', hM.trans h0, h1, h2, get_pre h0 hb⟩
    · exact .inr h
  · intro i Y hi hq hY
    obtain ⟨l, o, rfl, _, q1, _⟩ := at_Touch (h.mono (hM.trans hY)) hi
    have hbY := get_pre hY hb
    have hbY2 : ∀ N : Mem, (Y ++ N)[p]? = some ⟨[.int .i64 m.1, .slice a m.2.1.length c, .slice (some ⟨l, o, none⟩) m.2.2.length d], 1, 2⟩ := fun N => get_pre' hbY
    rw [atB_get _ hi] at hq
    have hq := touch_ok hq
    generalize m.2.2[i] = t at q1 hq
    obtain ⟨t1, t2, t3⟩ := t
    simp only at hq q1
    obtain ⟨g1, g2, _, g3, _, _, g4⟩ := hq
    have e6 : IntKind.i64.wrap ((i : Int) + 1) = i + 1 := wrap_i64 (by omega) (by omega)
    refine ⟨Y ++ [⟨enc_Touch (t1, t2, t3), 1, 2⟩], hY.trans (List.prefix_append _ _), ?_⟩
    rcases g1 with g1 | g1
    · rw [S_spec_MemOk_1]; unfold B_spec_MemOk_1; simp [thenD_pp, sliceCells_sl, sliceCells_z, sliceCells_nil, take_full, appS_sl, appK_ok, appS_none, thenD_ag, agP_nil, agP_cons, hbY, hbY2, hi, q1, g1, g2, g3, g4, e6, rd1_K, rdJ_ok]
    · rw [S_spec_MemOk_1]; unfold B_spec_MemOk_1; simp [thenD_pp, sliceCells_sl, sliceCells_z, sliceCells_nil, take_full, appS_sl, appK_ok, appS_none, thenD_ag, agP_nil, agP_cons, hbY, hbY2, hi, q1, g1, g2, g3, g4, e6, rd1_K, rdJ_ok]
  · intro i Y hi hq hY k
    obtain ⟨l, o, rfl, _, q1, _⟩ := at_Touch (h.mono (hM.trans hY)) hi
    have hbY := get_pre hY hb
    have hbY2 : ∀ N : Mem, (Y ++ N)[p]? = some ⟨[.int .i64 m.1, .slice a m.2.1.length c, .slice (some ⟨l, o, none⟩) m.2.2.length d], 1, 2⟩ := fun N => get_pre' hbY
    rw [atB_get _ hi] at hq
    have hq := touch_cases hq
    generalize m.2.2[i] = t at q1 hq
    obtain ⟨t1, t2, t3⟩ := t
    simp only at hq q1
    have gb := fun (cs : List V) b => gc_boolp (hM.trans (hY.trans (List.prefix_append Y [⟨cs, 1, 2⟩]))) b
    rcases hq with ⟨g1, g2⟩ | ⟨g1, g2, _⟩ | ⟨g1, ⟨g2, _⟩, g3, _⟩ | ⟨g1, ⟨g2, _⟩, ⟨g3, _⟩, g4⟩
    · rw [S_spec_MemOk_1]; unfold B_spec_MemOk_1; simp [thenD_pp, sliceCells_sl, sliceCells_z, sliceCells_nil, take_full, appS_sl, appK_ok, appS_none, thenD_ag, agP_nil, agP_cons, hbY, hbY2, hi, q1, g1, g2, gb, rd1_K, rdJ_ok]
    · rcases g1 with g1 | g1
      · rw [S_spec_MemOk_1]; unfold B_spec_MemOk_1; simp [thenD_pp, sliceCells_sl, sliceCells_z, sliceCells_nil, take_full, appS_sl, appK_ok, appS_none, thenD_ag, agP_nil, agP_cons, hbY, hbY2, hi, q1, g1, g2, gb, rd1_K, rdJ_ok]
      · rw [S_spec_MemOk_1]; unfold B_spec_MemOk_1; simp [thenD_pp, sliceCells_sl, sliceCells_z, sliceCells_nil, take_full, appS_sl, appK_ok, appS_none, thenD_ag, agP_nil, agP_cons, hbY, hbY2, hi, q1, g1, g2, gb, rd1_K, rdJ_ok]
    · rcases g1 with g1 | g1
      · rw [S_spec_MemOk_1]; unfold B_spec_MemOk_1; simp [thenD_pp, sliceCells_sl, sliceCells_z, sliceCells_nil, take_full, appS_sl, appK_ok, appS_none, thenD_ag, agP_nil, agP_cons, hbY, hbY2, hi, q1, g1, g2, g3, gb, rd1_K, rdJ_ok]
      · rw [S_spec_MemOk_1]; unfold B_spec_MemOk_1; simp [thenD_pp, sliceCells_sl, sliceCells_z, sliceCells_nil, take_full, appS_sl, appK_ok, appS_none, thenD_ag, agP_nil, agP_cons, hbY, hbY2, hi, q1, g1, g2, g3, gb, rd1_K, rdJ_ok]
    · rcases g1 with g1 | g1
      · rw [S_spec_MemOk_1]; unfold B_spec_MemOk_1; simp [thenD_pp, sliceCells_sl, sliceCells_z, sliceCells_nil, take_full, appS_sl, appK_ok, appS_none, thenD_ag, agP_nil, agP_cons, hbY, hbY2, hi, q1, g1, g2, g3, g4, gb, rd1_K, rdJ_ok]
      · rw [S_spec_MemOk_1]; unfold B_spec_MemOk_1; simp [thenD_pp, sliceCells_sl, sliceCells_z, sliceCells_nil, take_full, appS_sl, appK_ok, appS_none, thenD_ag, agP_nil, agP_cons, hbY, hbY2, hi, q1, g1, g2, g3, g4, gb, rd1_K, rdJ_ok]
theorem c_spec_MemOk (M : Mem) (cs : List V) (m : ty_Mem.D) (h : Rep ty_Mem M cs m) : aCall T0 F_spec_MemOk [.agg cs.toArray] M = some (.bool (memB m), M) := by
  obtain ⟨a, b, c, d, rfl, r0, r1⟩ := mem_shape h
  unfold memB
  have hp : M <+: M ++ [⟨[.int .i64 m.1, .slice a m.2.1.length c, .slice b m.2.2.length d], 1, 2⟩] := List.prefix_append _ _
  rcases mem_cases m.1 m.2.1.length m.2.2.length with ⟨h0, hh⟩ | ⟨h0, ⟨_, h1⟩, ⟨h2, _⟩, ⟨h3, h3'⟩, ⟨h4, h4'⟩⟩
  · rw [h0, Bool.false_and]
    clear h0
    rcases hh with ⟨h1, _⟩ | ⟨⟨_, h1⟩, h2, _⟩ | ⟨⟨_, h1⟩, ⟨h2, _⟩, h3, h3'⟩ | ⟨⟨_, h1⟩, ⟨h2, _⟩, ⟨h3, h3'⟩, h4, h4'⟩
    · rw [aCall_eq T_spec_MemOk]; unfold A_spec_MemOk C_spec_MemOk; simp [thenD_pp, sliceCells_sl, sliceCells_z, sliceCells_nil, take_full, appS_sl, appK_ok, appS_none, thenD_ag, agP_nil, agP_cons, h1]
    · rw [aCall_eq T_spec_MemOk]; unfold A_spec_MemOk C_spec_MemOk; simp [thenD_pp, sliceCells_sl, sliceCells_z, sliceCells_nil, take_full, appS_sl, appK_ok, appS_none, thenD_ag, agP_nil, agP_cons, h1, h2]
    · rw [aCall_eq T_spec_MemOk]; unfold A_spec_MemOk C_spec_MemOk; simp [thenD_pp, sliceCells_sl, sliceCells_z, sliceCells_nil, take_full, appS_sl, appK_ok, appS_none, thenD_ag, agP_nil, agP_cons, h1, h2, h3, h3']
    · rw [aCall_eq T_spec_MemOk]; unfold A_spec_MemOk C_spec_MemOk; simp [thenD_pp, sliceCells_sl, sliceCells_z, sliceCells_nil, take_full, appS_sl, appK_ok, appS_none, thenD_ag, agP_nil, agP_cons, h1, h2, h3, h3', h4, h4']
  rw [h0, Bool.true_and]
  rcases l_spec_MemOk_0 M _ m a b c d M.length hp (by simp) r0 (by omega) with ⟨ha, e⟩ | ⟨hn, e⟩
  · simp only [Int.natCast_zero, Int.ofNat_zero] at e
    rw [atB_all ha, Bool.true_and]
    rcases l_spec_MemOk_1 M _ m a b c d M.length hp (by simp) r1 (by omega) with ⟨X', hX, ha2, e2, hb⟩ | ⟨hn2, e2⟩
    · simp only [Int.natCast_zero, Int.ofNat_zero] at e2
      rw [atB_all ha2]
      have gb := fun b => gc_boolp hX b
      rw [aCall_eq T_spec_MemOk]; unfold A_spec_MemOk C_spec_MemOk; simp [thenD_pp, sliceCells_sl, sliceCells_z, sliceCells_nil, take_full, appS_sl, appK_ok, appS_none, thenD_ag, agP_nil, agP_cons, h1, h2, h3, h3', h4, h4', e]
      rw [S_spec_MemOk_0]; unfold B_spec_MemOk_0; simp [thenD_pp, sliceCells_sl, sliceCells_z, sliceCells_nil, take_full, appS_sl, appK_ok, appS_none, thenD_ag, agP_nil, agP_cons, rd1_K, rdJ_ok]
      simp [e2]
      rw [S_spec_MemOk_1]; unfold B_spec_MemOk_1; simp [thenD_pp, sliceCells_sl, sliceCells_z, sliceCells_nil, take_full, appS_sl, appK_ok, appS_none, thenD_ag, agP_nil, agP_cons, rd1_K, rdJ_ok, hb, gb]
    · simp only [Int.natCast_zero, Int.ofNat_zero] at e2
      rw [atB_not hn2]
      rw [aCall_eq T_spec_MemOk]; unfold A_spec_MemOk C_spec_MemOk; simp [thenD_pp, sliceCells_sl, sliceCells_z, sliceCells_nil, take_full, appS_sl, appK_ok, appS_none, thenD_ag, agP_nil, agP_cons, h1, h2, h3, h3', h4, h4', e]
      rw [S_spec_MemOk_0]; unfold B_spec_MemOk_0; simp [thenD_pp, sliceCells_sl, sliceCells_z, sliceCells_nil, take_full, appS_sl, appK_ok, appS_none, thenD_ag, agP_nil, agP_cons, rd1_K, rdJ_ok]
      simp [e2]
  · simp only [Int.natCast_zero, Int.ofNat_zero] at e
    rw [atB_not hn, Bool.false_and]
    rw [aCall_eq T_spec_MemOk]; unfold A_spec_MemOk C_spec_MemOk; simp [thenD_pp, sliceCells_sl, sliceCells_z, sliceCells_nil, take_full, appS_sl, appK_ok, appS_none, thenD_ag, agP_nil, agP_cons, h1, h2, h3, h3', h4, h4', e]
set_option maxRecDepth 20000 in
set_option maxHeartbeats 4000000 in
theorem c_spec_oramOk (M : Mem) (l w b : Int) (m : ty_Mem.D) (st : List ty_Block.D) (aC : Option Addr) (cC : Nat) (aT : Option Addr) (cT : Nat) (aS : Option Addr) (cS : Nat)
    (hM : Rep ty_Mem M [.int .i64 m.1, .slice aC m.2.1.length cC, .slice aT m.2.2.length cT] m) (hC : Rep (.sl ty_Cell) M [.slice aC m.2.1.length cC] m.2.1) (hS : Rep (.sl ty_Block) M [.slice aS st.length cS] st) (hz : BlkSz st) (hcz : m.2.1.length ≤ 1048576) (hsz : ∀ c ∈ m.2.1, List.length (α := UInt8) c ≤ 1048576) :
    aCall T0 F_spec_OramOk [.agg (aO l w b m.1 aC m.2.1.length cC aT m.2.2.length cT aS st.length cS).toArray] M = some (.bool (orX l w b m st).isSome, M) := by
  have e1 := fun M => c_spec_l12Frame M l w
  have hlw : (decide (0 ≤ l) && decide (l ≤ 6) && (decide (1 ≤ w) && decide (w ≤ 200))) = (lgB l && wdB w) := rfl
  rw [hlw] at e1
  have hpre : M <+: M ++ [(⟨aO l w b m.1 aC m.2.1.length cC aT m.2.2.length cT aS st.length cS, 1, 2⟩ : Blk)] := List.prefix_append _ _
  have e4 := fun N : Mem => c_spec_MemOk (M ++ N) _ m (hM.mono (List.prefix_append _ _))
  have e5 := fun N : Mem => c_spec_StashOk (M ++ N) _ st l w (hS.mono (List.prefix_append _ _)) hz.1
  have gb := fun b => gc_boolp hpre b
  cases h1 : (lgB l && wdB w) with
  | false =>
    rw [h1] at e1
    rw [frO_f (by unfold frO; rw [← Bool.and_assoc, h1]; rfl)]
    rw [aCall_eq T_spec_OramOk]; unfold A_spec_OramOk C_spec_OramOk; simp [thenD_pp, sliceCells_sl, sliceCells_z, sliceCells_nil, take_full, appS_sl, appK_ok, appS_none, thenD_ag, agP_nil, agP_cons, e1, gb]
  | true =>
  rw [h1] at e1
  rw [Bool.and_eq_true] at h1
  obtain ⟨h1, h2⟩ := h1
  have hw : 1 ≤ w ∧ w ≤ 200 := by unfold wdB at h2; simpa using h2
  obtain ⟨k, rfl, hk⟩ := log_nat h1
  have hk0 : Int.toNat (k : Int) = k := by omega
  by_cases h3 : b < 0
  · rw [frO_f (by unfold frO bdB; rw [decide_eq_false (show ¬ 0 ≤ b by omega)]; simp)]
    rw [aCall_eq T_spec_OramOk]; unfold A_spec_OramOk C_spec_OramOk; simp [thenD_pp, sliceCells_sl, sliceCells_z, sliceCells_nil, take_full, appS_sl, appK_ok, appS_none, thenD_ag, agP_nil, agP_cons, e1, h3, gb]
  by_cases h3' : 64 < b
  · rw [frO_f (by unfold frO bdB; rw [decide_eq_false (show ¬ b ≤ 64 by omega)]; simp)]
    rw [aCall_eq T_spec_OramOk]; unfold A_spec_OramOk C_spec_OramOk; simp [thenD_pp, sliceCells_sl, sliceCells_z, sliceCells_nil, take_full, appS_sl, appK_ok, appS_none, thenD_ag, agP_nil, agP_cons, e1, h3, h3', gb]
  have h3b : bdB b = true := by unfold bdB; rw [decide_eq_true (show 0 ≤ b by omega), decide_eq_true (show b ≤ 64 by omega)]; rfl
  by_cases h7 : b < (st.length : Int)
  · rw [frO_f (by unfold frO; rw [decide_eq_false (show ¬ (st.length : Int) ≤ b by omega)]; simp)]
    rw [aCall_eq T_spec_OramOk]; unfold A_spec_OramOk C_spec_OramOk; simp [thenD_pp, sliceCells_sl, sliceCells_z, sliceCells_nil, take_full, appS_sl, appK_ok, appS_none, thenD_ag, agP_nil, agP_cons, e1, h3, h3', h7, gb]
  cases h8 : stashB k w st with
  | false =>
    rw [h8] at e5
    rw [frO_f (by unfold frO; rw [h8]; simp)]
    rw [aCall_eq T_spec_OramOk]; unfold A_spec_OramOk C_spec_OramOk; simp [thenD_pp, sliceCells_sl, sliceCells_z, sliceCells_nil, take_full, appS_sl, appK_ok, appS_none, thenD_ag, agP_nil, agP_cons, e1, h3, h3', h7, e5, gb]
  | true =>
  rw [h8] at e5
  have hp6 : 2 ^ k ≤ 2 ^ 6 := Nat.pow_le_pow_right (by omega) hk
  have hp0 : 0 < 2 ^ k := Nat.two_pow_pos k
  have e6 := fun M => c_spec_TreeNodes M k _ hk rfl
  obtain ⟨N, hN⟩ : ∃ N, N = 2 * 2 ^ k - 1 := ⟨_, rfl⟩
  rw [← hN] at e6
  obtain ⟨W, rfl⟩ : ∃ W : Nat, w = (W : Int) := ⟨Int.toNat w, by omega⟩
  have e7 := fun M => c_spec_NodeSize M W (4 * (W + 3)) (by omega) (by omega) (by omega)
  by_cases h5 : m.2.1.length = N
  · rw [← h5] at e6
    by_cases h6 : (m.1 : Int) = 4 * ((W : Int) + 3)
    · have h6' : ((4 * (W + 3) : Nat) : Int) = m.1 := by rw [h6]; omega
      rw [h6'] at e7
      cases h4 : memB m with
      | false =>
        rw [h4] at e4
        rw [frO_f (by unfold frO; rw [h4]; simp)]
        rw [aCall_eq T_spec_OramOk]; unfold A_spec_OramOk C_spec_OramOk; simp [thenD_pp, sliceCells_sl, sliceCells_z, sliceCells_nil, take_full, appS_sl, appK_ok, appS_none, thenD_ag, agP_nil, agP_cons, e1, h3, h3', h7, e5, e6, e7, e4, gb]
      | true =>
        rw [h4] at e4
        have hX : orX k W b m st = outO k W 1 m.2.1 st := by
          unfold orX
          rw [hk0, if_pos]
          unfold frO
          rw [h1, h2, h3b, h4, hk0, ← hN, decide_eq_true h5, decide_eq_true h6, decide_eq_true (show (st.length : Int) ≤ b by omega), h8]
          rfl
        rw [hX]
        have hNd := c_spec_l14Nodes (M ++ [(⟨aO k W b m.1 aC m.2.1.length cC aT m.2.2.length cT aS st.length cS, 1, 2⟩ : Blk)]) k W b m st aC cC aT cT aS cS (hC.mono hpre) hcz hsz
        rw [aCall_eq T_spec_OramOk]; unfold A_spec_OramOk C_spec_OramOk; simp [thenD_pp, sliceCells_sl, sliceCells_z, sliceCells_nil, take_full, appS_sl, appK_ok, appS_none, thenD_ag, agP_nil, agP_cons, e1, h3, h3', h7, e5, e6, e7, e4]
        generalize hx : aCall T0 F_spec_l14Nodes _ _ = xhx
        obtain ⟨_, X1, rfl, r, LN, rfl, p1, g1, nN, kN⟩ := of_call hx hNd
        clear hx
        simp only at p1 g1
        have g1 := g1.rep
        have pM := hpre.trans p1
        have hbx := get_pre p1 (show (M ++ [(⟨aO k W b m.1 aC m.2.1.length cC aT m.2.2.length cT aS st.length cS, 1, 2⟩ : Blk)])[M.length]? = some _ from List.getElem?_concat_length)
        have st8 : st.length ≤ 128 ∧ blocksB k W st = true := by unfold stashB at h8; simpa using h8
        have hlt := blocks_lt st8.2
        have hid := ids_of st8.2
        cases h9 : m.2.1.all (ndOk k W) with
        | false =>
          have ho : outO k W 1 m.2.1 st = none := by
            cases ho : outO k W 1 m.2.1 st with
            | none => rfl
            | some a =>
              have := (out_good m.2.1 1 st a ho hlt hid).1.1
              rw [h9] at this
              cases this
          rw [ho, h9] at *
          have gb := fun b => gc_boolp pM b
          have hrs : ∃ z n c, r = .slice z n c := by
            obtain ⟨a, c, rfl⟩ := g1.slen
            exact ⟨_, _, _, rfl⟩
          obtain ⟨z, n, c, rfl⟩ := hrs
          simp [thenD_pp, sliceCells_sl, sliceCells_z, sliceCells_nil, take_full, appS_sl, appK_ok, appS_none, thenD_ag, agP_nil, agP_cons, gb]
        | true =>
          rw [h9, if_pos rfl] at g1
          have hnl : (ndsF W m.2.1).length = m.2.1.length := ndsF_len _ _
          obtain ⟨aN, cN, rfl⟩ := g1.slen
          have hget : ∀ bs ∈ ndsF W m.2.1, ∃ c ∈ m.2.1, bs = ndB (Int.toNat (W : Int)) c := fun bs hb => by
            obtain ⟨c, hc, rfl⟩ := List.mem_map.1 hb
            exact ⟨c, hc, rfl⟩
          have hndb : ∀ c ∈ m.2.1, blocksB k W (ndB (Int.toNat (W : Int)) c) = true := fun c hc => by
            have := List.all_eq_true.1 h9 c hc
            unfold ndOk at this
            simp only [Bool.and_eq_true] at this
            exact this.2.2.1
          have hon : ∀ i, i < m.2.1.length → onAll k (ndsF W m.2.1) i = List.all (ndB (Int.toNat (W : Int)) (m.2.1.getD i [])) fun b => onP k (i + 1) (Int.toNat b.2.1) := fun i hi => by
            rw [onAll_get (by rw [hnl]; exact hi), ndsF_get _ _ hi, List.getD_eq_getElem?_getD, List.getElem?_eq_getElem hi]
            rfl
          have hP : (outO k W 1 m.2.1 st).isSome = true ↔ (∀ i, i < m.2.1.length → onAll k (ndsF W m.2.1) i = true) ∧ ∀ j, j < 256 → decide (cntI j (st ++ (ndsF W m.2.1).flatten) ≤ 1) = true := by
            constructor
            · intro h
              obtain ⟨a, ho⟩ := Option.isSome_iff_exists.1 h
              obtain ⟨⟨q1, q2⟩, q3, q4, q5⟩ := out_good m.2.1 1 st a ho hlt hid
              refine ⟨fun i hi => ?_, fun j hj => decide_eq_true ?_⟩
              · rw [onAll_get (by rw [hnl]; exact hi), ndsF_get _ _ hi, List.all_eq_true]
                intro b hb
                rw [Nat.add_comm]
                exact q2 i hi b hb
              · rw [cntI_fl, ← q5 j]
                exact cnt_lt q3 q4 j
            · rintro ⟨h1, h2⟩
              obtain ⟨a, ho⟩ := out_bad m.2.1 1 st hlt hid h9 (fun i hi b hb => by
                have := h1 i hi
                rw [onAll_get (by rw [hnl]; exact hi), ndsF_get _ _ hi, List.all_eq_true] at this
                rw [Nat.add_comm]
                exact this b hb) (fun j hj => of_decide_eq_true (h2 j hj))
              rw [ho]
              rfl
          have hcz0 : cntV [] = zc (.int .i64 0) 256 := rfl
          have hb6 : rd1 X1 M.length 6 = some (.slice aS st.length cS) := by simp [rd1, hbx]
          have hb0 : rd1 X1 M.length 0 = some (.int .i64 (k : Int)) := by simp [rd1, hbx]
          obtain ⟨_, X2, hX2, s0⟩ := l_spec_OramOk_0 X1 M.length X1.length (.slice aN (ndsF W m.2.1).length cN) st aS cS (hS.mono pM) hb6 (Nat.le_refl _) hid hz.1 (X1 ++ [⟨zc (.int .i64 0) 256, 1, 2⟩]) ⟨List.prefix_append _ _, by rw [hcz0]; exact List.getElem?_concat_length⟩
          simp only [Int.natCast_zero, Int.ofNat_zero] at s0
          have hb62 := r1_pre hX2.1 hb6
          have k1 := l_spec_OramOk_1 X1 M.length X1.length k aN cN (ndsF W m.2.1) g1 hb0 (Nat.le_refl _) hk (by rw [hnl]; omega) (fun bs hb => by
            obtain ⟨c, hc, rfl⟩ := hget bs hb
            exact leafs_of (hndb c hc)) (fun bs hb => by
            obtain ⟨c, hc, rfl⟩ := hget bs hb
            exact ndB_len _ _) st (by omega) X2 hX2
          simp only [FtI, Int.natCast_zero, Int.ofNat_zero] at k1
          rcases k1 with ⟨_, X3, hX3, a1, s1⟩ | ⟨⟨i, hi, hf⟩, fr, X', s1, q2, q3⟩
          · have k2 := l_spec_OramOk_3 X1 X1.length (st ++ (ndsF W m.2.1).flatten) X3 hX3
            simp only [Int.natCast_zero, Int.ofNat_zero] at k2
            rcases k2 with ⟨_, rfl, a2, s2⟩ | ⟨⟨i, hi, hf⟩, fr, X', s2, q2, q3⟩
            · rw [hP.2 ⟨fun i hi => a1 i (by rw [hnl]; exact hi), a2⟩]
              have gb := fun b => gc_boolp (pM.trans hX3.1) b
              simp [thenD_pp, sliceCells_sl, sliceCells_z, sliceCells_nil, take_full, appS_sl, appK_ok, appS_none, thenD_ag, agP_nil, agP_cons, zeroCells, s0]
              rw [S_spec_OramOk_0]; unfold B_spec_OramOk_0; simp [thenD_pp, sliceCells_sl, sliceCells_z, sliceCells_nil, take_full, appS_sl, appK_ok, appS_none, thenD_ag, agP_nil, agP_cons, hb62, s1]
              rw [S_spec_OramOk_1]; unfold B_spec_OramOk_1; simp [thenD_pp, sliceCells_sl, sliceCells_z, sliceCells_nil, take_full, appS_sl, appK_ok, appS_none, thenD_ag, agP_nil, agP_cons, s2]
              rw [S_spec_OramOk_3]; unfold B_spec_OramOk_3; simp [thenD_pp, sliceCells_sl, sliceCells_z, sliceCells_nil, take_full, appS_sl, appK_ok, appS_none, thenD_ag, agP_nil, agP_cons, gb]
            · have ho : (outO k W 1 m.2.1 st).isSome = false := by
                cases h : (outO k W 1 m.2.1 st).isSome with
                | false => rfl
                | true =>
                  have := (hP.1 h).2 i hi
                  rw [hf] at this
                  cases this
              rw [ho]
              have gb := fun b => gc_boolp (pM.trans q3) b
              simp [thenD_pp, sliceCells_sl, sliceCells_z, sliceCells_nil, take_full, appS_sl, appK_ok, appS_none, thenD_ag, agP_nil, agP_cons, zeroCells, s0]
              rw [S_spec_OramOk_0]; unfold B_spec_OramOk_0; simp [thenD_pp, sliceCells_sl, sliceCells_z, sliceCells_nil, take_full, appS_sl, appK_ok, appS_none, thenD_ag, agP_nil, agP_cons, hb62, s1]
              rw [S_spec_OramOk_1]; unfold B_spec_OramOk_1; simp [thenD_pp, sliceCells_sl, sliceCells_z, sliceCells_nil, take_full, appS_sl, appK_ok, appS_none, thenD_ag, agP_nil, agP_cons, s2, q2, gb]
          · have ho : (outO k W 1 m.2.1 st).isSome = false := by
              cases h : (outO k W 1 m.2.1 st).isSome with
              | false => rfl
              | true =>
                have := (hP.1 h).1 i (by rw [← hnl]; exact hi)
                rw [hf] at this
                cases this
            rw [ho]
            have gb := fun b => gc_boolp (pM.trans q3) b
            simp [thenD_pp, sliceCells_sl, sliceCells_z, sliceCells_nil, take_full, appS_sl, appK_ok, appS_none, thenD_ag, agP_nil, agP_cons, zeroCells, s0]
            rw [S_spec_OramOk_0]; unfold B_spec_OramOk_0; simp [thenD_pp, sliceCells_sl, sliceCells_z, sliceCells_nil, take_full, appS_sl, appK_ok, appS_none, thenD_ag, agP_nil, agP_cons, hb62, s1, q2, gb]
    · have h6' : ¬ (m.1 : Int) = ((4 * (W + 3) : Nat) : Int) := fun e => h6 (e.trans (show ((4 * (W + 3) : Nat) : Int) = 4 * ((W : Int) + 3) by omega))
      generalize hq : 4 * (W + 3) = Q at *
      rw [frO_f (by unfold frO; rw [decide_eq_false h6]; simp)]
      rw [aCall_eq T_spec_OramOk]; unfold A_spec_OramOk C_spec_OramOk; simp [thenD_pp, sliceCells_sl, sliceCells_z, sliceCells_nil, take_full, appS_sl, appK_ok, appS_none, thenD_ag, agP_nil, agP_cons, e1, h3, h3', h7, e5, e6, e7, h6', gb]
  · have h5' : ¬ (m.2.1.length : Int) = (N : Int) := by omega
    rw [frO_f (by unfold frO; rw [hk0, ← hN, decide_eq_false h5]; simp)]
    rw [aCall_eq T_spec_OramOk]; unfold A_spec_OramOk C_spec_OramOk; simp [thenD_pp, sliceCells_sl, sliceCells_z, sliceCells_nil, take_full, appS_sl, appK_ok, appS_none, thenD_ag, agP_nil, agP_cons, e1, h3, h3', h7, e5, e6, h5', gb]
theorem c_spec_OramOk (M : Mem) (cs : List V) (x : ty_Oram.D) (h : Rep ty_Oram M cs x) (hz : BlkSz x.2.2.2.2) (hc : x.2.2.2.1.2.1.length ≤ 1048576) (hsz : ∀ c ∈ x.2.2.2.1.2.1, List.length (α := UInt8) c ≤ 1048576) : aCall T0 F_spec_OramOk [.agg cs.toArray] M = some (.bool (orO x).isSome, M) := by
  obtain ⟨aC, cC, aT, cT, aS, cS, rfl, hM, hS⟩ := oram_shape h
  obtain ⟨_, _, e, _, hC, _⟩ := rep_g_Mem hM
  cases e
  exact c_spec_oramOk M x.1 x.2.1 x.2.2.1 x.2.2.2.1 x.2.2.2.2 aC cC aT cT aS cS hM hC hS hz hc hsz
theorem d_spec_OramOk (M : Mem) (cs : List V) (x : ty_Oram.D) (h : Rep ty_Oram M cs x) (hb : Bd 1048576 ty_Oram x) : aCall T0 F_spec_OramOk [.agg cs.toArray] M = some (.bool (orO x).isSome, M) := by
  obtain ⟨h1, h2, h3⟩ := oram_bd hb
  exact c_spec_OramOk M cs x h h1 h2 h3
set_option maxHeartbeats 8000000 in
set_option maxRecDepth 20000 in
theorem c_laws_FnExactOramOk (M : Mem) (v_o : List V) (o : ty_Oram.D) (h_o : Rep ty_Oram M v_o o) (hb_o : Bd 9223372036854775807 ty_Oram o) : ∃ M', aCall T0 F_laws_FnExactOramOk [.agg v_o.toArray] M = some (.bool true, M') := by
  have hl_v_o : v_o.length = 7 := (h_o).len
  have ho_v_o := (h_o).one
  obtain ⟨l_o, s1_o, s2_o, s3_o⟩ := k_laws_szOram (M ++ [⟨v_o, 1, 2⟩]) v_o o 1048576 (h_o.mono ((List.prefix_refl _).trans (List.prefix_append _ _))) hb_o (by omega) (by omega)
  have r1 : rdn (M ++ [⟨v_o, 1, 2⟩]) (M.length) 0 7 = some v_o := rdn_box (by first | simp | rfl) hl_v_o.symm
  by_cases hl_o : l_o < 0
  · refine ⟨M, ?_⟩
    rw [aCall_eq T_laws_FnExactOramOk]; unfold A_laws_FnExactOramOk C_laws_FnExactOramOk; simp [thenD_pp, sliceCells_sl, sliceCells_z, sliceCells_nil, take_full, appS_sl, appK_ok, appS_none, thenD_ag, agP_nil, agP_cons, hl_v_o, ho_v_o, r1, s2_o, hl_o]
  have hb1_o := s3_o (by omega)
  have r2 : rdn (M ++ [⟨v_o, 1, 2⟩]) (M.length) 0 7 = some v_o := rdn_box (by first | simp | rfl) hl_v_o.symm
  obtain ⟨M3, u4, L5, p6, t7, o8, F9⟩ := k_laws_toOram (M ++ [⟨v_o, 1, 2⟩]) v_o o (h_o.mono ((List.prefix_refl _).trans (List.prefix_append _ _))) hb1_o
  have f10 : ∀ l ∈ L5, M.length + 1 ≤ l ∧ l < M3.length := by intro l hl; have := F9.2 l hl; (try simp only [List.length_append, List.length_cons, List.length_nil] at this); omega
  have q11 : M <+: M3 := (List.prefix_append _ _).trans p6
  have ln12 : M.length + 1 ≤ M3.length := by have := p6.length_le; (try simp only [List.length_append, List.length_cons, List.length_nil] at this); omega
  have b13 : M3[M.length]? = some ⟨v_o, 1, 2⟩ := get_pre p6 (by simp)
  have z14 : M <+: M3 := (List.prefix_refl _).trans q11
  have hl_u4 : u4.length = 7 := (o8.rep).len
  have ho_u4 := (o8.rep).one
  have s16 := d_spec_OramOk M3 u4 o ((Own.grow (List.prefix_refl _) o8)).rep hb1_o
  have r17 : rdn M3 (M.length) 0 7 = some v_o := rdn_box b13 hl_v_o.symm
  obtain ⟨M18, u19, L20, p21, t22, o23, F24⟩ := k_laws_toOram M3 v_o o (h_o.mono (z14.trans (List.prefix_refl _))) hb1_o
  have f25 : ∀ l ∈ L20, M3.length ≤ l ∧ l < M18.length := by intro l hl; have := F24.2 l hl; (try simp only [List.length_append, List.length_cons, List.length_nil] at this); omega
  have q26 : M3 <+: M18 := (List.prefix_refl _).trans p21
  have ln27 : M3.length ≤ M18.length := by have := p21.length_le; (try simp only [List.length_append, List.length_cons, List.length_nil] at this); omega
  have b28 : M18[M.length]? = some ⟨v_o, 1, 2⟩ := get_pre q26 b13
  have z29 : M <+: M18 := z14.trans q26
  have y30 : M3 <+: M18 := (List.prefix_refl _).trans q26
  have hl_u19 : u19.length = 7 := (o23.rep).len
  have ho_u19 := (o23.rep).one
  have r32 : rdn (M18 ++ [⟨u19, 1, 2⟩]) (M18.length) 0 7 = some u19 := rdn_box (by first | simp | rfl) hl_u19.symm
  have s33 := d_impl_OramOk (M18 ++ [⟨u19, 1, 2⟩]) u19 o ((Own.grow (List.prefix_append _ _) o23)).rep hb1_o
  have r34 : rdn (M18 ++ [⟨u19, 1, 2⟩]) (M18.length) 0 7 = some u19 := rdn_box (by first | simp | rfl) hl_u19.symm
  have r35 : rdn (M18 ++ [⟨u19, 1, 2⟩]) (M.length) 0 7 = some v_o := rdn_old (rdn_box b28 hl_v_o.symm)
  obtain ⟨M36, u37, L38, p39, t40, o41, F42⟩ := k_laws_toOram (M18 ++ [⟨u19, 1, 2⟩]) v_o o (h_o.mono (z29.trans (List.prefix_append _ _))) hb1_o
  have f43 : ∀ l ∈ L38, M18.length + 1 ≤ l ∧ l < M36.length := by intro l hl; have := F42.2 l hl; (try simp only [List.length_append, List.length_cons, List.length_nil] at this); omega
  have q44 : M18 <+: M36 := (List.prefix_append _ _).trans p39
  have ln45 : M18.length + 1 ≤ M36.length := by have := p39.length_le; (try simp only [List.length_append, List.length_cons, List.length_nil] at this); omega
  have b46 : M36[M.length]? = some ⟨v_o, 1, 2⟩ := get_pre q44 b28
  have b47 : M36[M18.length]? = some ⟨u19, 1, 2⟩ := get_pre p39 (by simp)
  have o48 := Own.grow q44 o23
  have z49 : M <+: M36 := z29.trans q44
  have y50 : M3 <+: M36 := y30.trans q44
  have hl_u37 : u37.length = 7 := (o41.rep).len
  have ho_u37 := (o41.rep).one
  have e52 := (ans_of (k_laws_eqOram M36 _ _ _ _ ((Own.grow (List.prefix_refl _) o48)).rep ((Own.grow (List.prefix_refl _) o41)).rep (hb1_o.mono (by decide)))).1 rfl
  rw [aCall_eq T_laws_FnExactOramOk]; unfold A_laws_FnExactOramOk C_laws_FnExactOramOk; simp (maxSteps := 4000000) [thenD_pp, sliceCells_sl, sliceCells_z, sliceCells_nil, take_full, appS_sl, appK_ok, appS_none, thenD_ag, agP_nil, agP_cons, hl_v_o, ho_v_o, r1, s2_o, hl_o, r2, t7, p6, hl_u4, ho_u4, s16, r17, t22, p21, hl_u19, ho_u19, r32, s33, r34, r35, t40, p39, hl_u37, ho_u37, e52, thenD_pre]
  all_goals exact gc_ex _ _ _
theorem law_laws_FnExactOramOk (M : Mem) (avs : List V) (_ : ∀ b ∈ M, b.st ≠ 2) (h : Ins [(true, (.pr (.int .i64) (.pr (.int .i64) (.pr (.int .i64) (.pr (.pr (.int .i64) (.pr (.sl (.sl .u8)) (.sl (.pr (.int .i64) (.pr (.int .i64) (.int .i64)))))) (.sl (.pr (.int .i64) (.pr (.int .i64) (.sl .u8)))))))))] M avs) : ∃ M', aCall T0 F_laws_FnExactOramOk avs M = some (.bool true, M') := by
  obtain ⟨v_o, _, o, rfl, h_o, f_o, h⟩ := ins_cons h
  obtain rfl := ins_nil h
  obtain ⟨c_o, rfl, h2_o⟩ := repv_agg h_o
  exact c_laws_FnExactOramOk M c_o o h2_o (fit_bd f_o)
end GoAm
