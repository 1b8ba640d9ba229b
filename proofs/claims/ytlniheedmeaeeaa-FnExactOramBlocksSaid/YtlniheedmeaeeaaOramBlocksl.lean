/- What the functions do that the law reaches; and the law. -/
import Derived.Test.YtlniheedmeaeeaaOramBlocksl1
set_option autoImplicit false
set_option linter.unusedVariables false
set_option linter.unusedSimpArgs false
namespace GoAm
open Go
theorem rep_cell1 {M : Mem} {cs : List V} {x : ty_Cell.D} (h : Rep ty_Cell M cs x) : ∃ u, cs = [u] := by
  rcases h with ⟨rfl, _⟩ | ⟨_, _, _, _, _, rfl, _⟩
  · exact ⟨_, rfl⟩
  · exact ⟨_, rfl⟩
theorem c_impl_isMem (M : Mem) (cs : List V) (m : ty_Mem.D) (h : Rep ty_Mem M cs m) : aCall T0 F_impl_isMem [.agg cs.toArray] M = some (.bool (memB m), M) := by
  obtain ⟨a, b, c, d, rfl, r0, r1⟩ := mem_shape h
  unfold memB
  have hp : M <+: M ++ [⟨[.int .i64 m.1, .slice a m.2.1.length c, .slice b m.2.2.length d], 1, 2⟩] := List.prefix_append _ _
  have w1 := fun N : Mem => win_ok (M ++ N) m.1 1 1000
  rcases mem_cases m.1 m.2.1.length m.2.2.length with ⟨h0, hh⟩ | ⟨h0, ⟨h1, _⟩, ⟨_, h2⟩, ⟨h3, h3'⟩, ⟨h4, h4'⟩⟩
  · rw [h0, Bool.false_and]
    clear h0
    rcases hh with ⟨_, h1⟩ | ⟨⟨h1, _⟩, _, h2⟩ | ⟨⟨h1, _⟩, ⟨_, h2⟩, h3, h3'⟩ | ⟨⟨h1, _⟩, ⟨_, h2⟩, ⟨h3, h3'⟩, h4, h4'⟩
    · rw [decide_eq_false (fun q => h1 q.1)] at w1
      rw [aCall_eq T_impl_isMem]; unfold A_impl_isMem C_impl_isMem; simp [thenD_pp, sliceCells_sl, sliceCells_z, sliceCells_nil, take_full, appS_sl, appK_ok, appS_none, thenD_ag, agP_nil, agP_cons, w1]
    · rw [decide_eq_false (fun q => h2 q.2)] at w1
      rw [aCall_eq T_impl_isMem]; unfold A_impl_isMem C_impl_isMem; simp [thenD_pp, sliceCells_sl, sliceCells_z, sliceCells_nil, take_full, appS_sl, appK_ok, appS_none, thenD_ag, agP_nil, agP_cons, w1]
    · rw [within_ok h1 h2] at w1
      rw [aCall_eq T_impl_isMem]; unfold A_impl_isMem C_impl_isMem; simp [thenD_pp, sliceCells_sl, sliceCells_z, sliceCells_nil, take_full, appS_sl, appK_ok, appS_none, thenD_ag, agP_nil, agP_cons, w1, h3, h3']
    · rw [within_ok h1 h2] at w1
      rw [aCall_eq T_impl_isMem]; unfold A_impl_isMem C_impl_isMem; simp [thenD_pp, sliceCells_sl, sliceCells_z, sliceCells_nil, take_full, appS_sl, appK_ok, appS_none, thenD_ag, agP_nil, agP_cons, w1, h3, h3', h4, h4']
  rw [h0, Bool.true_and]
  rw [within_ok h1 h2] at w1
  rcases l_impl_isMem_0 M _ m a b c d M.length hp (by simp) r1 (by omega) (by omega) with ⟨X', hX, hX2, ha2, e2, hb⟩ | ⟨hn2, e2⟩
  · simp only [Int.natCast_zero, Int.ofNat_zero] at e2
    rw [atB_all ha2, Bool.and_true]
    have gb := fun b => gc_boolp hX b
    have ha := any_sl T_slices_ContainsFunc_impl_Cell_impl_Cell T_slices_IndexFunc_impl_Cell_impl_Cell rfl (r0.mono hX) (by omega) F_impl_isMem_1 [.pointer (some ⟨M.length, 0, none⟩)] (fun x => decide (¬ ((List.length (α := UInt8) x : Nat) : Int) = m.1)) (fun i hi cs hr => by
      obtain ⟨u, rfl⟩ := rep_cell1 hr
      exact c_impl_isMem_1 X' u _ hr M.length m.1 (by rw [rd1_K, hb]; rfl))
    have hall : (m.2.1.any (fun x => decide (¬ ((List.length (α := UInt8) x : Nat) : Int) = m.1))) = !(m.2.1.all (cellB m)) := by
      rw [List.any_eq_not_all_not]
      congr 2
      funext x
      unfold cellB
      simp
    rw [hall] at ha
    cases hq : m.2.1.all (cellB m) with
    | true =>
      rw [hq] at ha
      rw [aCall_eq T_impl_isMem]; unfold A_impl_isMem C_impl_isMem; simp [thenD_pp, sliceCells_sl, sliceCells_z, sliceCells_nil, take_full, appS_sl, appK_ok, appS_none, thenD_ag, agP_nil, agP_cons, w1, h3, h3', h4, h4', e2]
      rw [S_impl_isMem_0]; unfold B_impl_isMem_0; simp [thenD_pp, sliceCells_sl, sliceCells_z, sliceCells_nil, take_full, appS_sl, appK_ok, appS_none, thenD_ag, agP_nil, agP_cons, rd1_K, rdJ_ok, hb, gb, ha]
    | false =>
      rw [hq] at ha
      rw [aCall_eq T_impl_isMem]; unfold A_impl_isMem C_impl_isMem; simp [thenD_pp, sliceCells_sl, sliceCells_z, sliceCells_nil, take_full, appS_sl, appK_ok, appS_none, thenD_ag, agP_nil, agP_cons, w1, h3, h3', h4, h4', e2]
      rw [S_impl_isMem_0]; unfold B_impl_isMem_0; simp [thenD_pp, sliceCells_sl, sliceCells_z, sliceCells_nil, take_full, appS_sl, appK_ok, appS_none, thenD_ag, agP_nil, agP_cons, rd1_K, rdJ_ok, hb, gb, ha]
  · simp only [Int.natCast_zero, Int.ofNat_zero] at e2
    rw [atB_not hn2, Bool.and_false]
    rw [aCall_eq T_impl_isMem]; unfold A_impl_isMem C_impl_isMem; simp [thenD_pp, sliceCells_sl, sliceCells_z, sliceCells_nil, take_full, appS_sl, appK_ok, appS_none, thenD_ag, agP_nil, agP_cons, w1, h3, h3', h4, h4', e2]
set_option maxRecDepth 20000 in
set_option maxHeartbeats 2000000 in
theorem c_impl_oramBlocks (M : Mem) (l w b : Int) (m : ty_Mem.D) (st : List ty_Block.D) (aC : Option Addr) (cC : Nat) (aT : Option Addr) (cT : Nat) (aS : Option Addr) (cS : Nat)
    (hM : Rep ty_Mem M [.int .i64 m.1, .slice aC m.2.1.length cC, .slice aT m.2.2.length cT] m) (hS : Rep (.sl ty_Block) M [.slice aS st.length cS] st) (hz : BlkSz st) (hcz : m.2.1.length ≤ 1048576) :
    Sat (aCall T0 F_impl_oramBlocks [.agg (aO l w b m.1 aC m.2.1.length cC aT m.2.2.length cT aS st.length cS).toArray] M) (OrV M (orX l w b m st)) := by
  have e1 := fun M => c_impl_isLog M l
  have e2 := fun M => c_impl_within M w 1 200
  have e3 := fun M => c_impl_within M b 0 64
  have hlg : (decide (0 ≤ l) && decide (l ≤ 6)) = lgB l := rfl
  have hwd : (decide (1 ≤ w) && decide (w ≤ 200)) = wdB w := rfl
  have hbd : (decide (0 ≤ b) && decide (b ≤ 64)) = bdB b := rfl
  rw [hlg] at e1
  rw [hwd] at e2
  rw [hbd] at e3
  have e4 := fun N : Mem => c_impl_isMem (M ++ N) _ m (hM.mono (List.prefix_append _ _))
  have e5 := fun N : Mem => c_impl_isStash (M ++ N) _ st l w (hS.mono (List.prefix_append _ _)) hz.1
  have hnil : ∀ {X : Mem}, Gr (.sl ty_Block) X [.slice none 0 0] [] [] := Gr.nil
  have hpre : M <+: M ++ [(⟨aO l w b m.1 aC m.2.1.length cC aT m.2.2.length cT aS st.length cS, 1, 2⟩ : Blk)] := List.prefix_append _ _
  have fin : ∀ {o : Option (List ty_Block.D)} {r}, o = none → r = some (.tuple #[.slice none 0 0, .bool false], M ++ [(⟨aO l w b m.1 aC m.2.1.length cC aT m.2.2.length cT aS st.length cS, 1, 2⟩ : Blk)]) → Sat r (OrV M o) := fun ho hr => by
    subst ho
    subst hr
    exact ⟨(_, _), rfl, _, [], rfl, hpre, hnil, by simp, by simp⟩
  have hf : frO l w b m st = false → orX l w b m st = none := fun h => by unfold orX; rw [h]; rfl
  cases h1 : lgB l with
  | false =>
    rw [h1] at e1
    refine fin (hf (by unfold frO; simp [h1])) ?_
    rw [aCall_eq T_impl_oramBlocks]; unfold A_impl_oramBlocks C_impl_oramBlocks; simp [thenD_pp, sliceCells_sl, sliceCells_z, sliceCells_nil, take_full, appS_sl, appK_ok, appS_none, thenD_ag, agP_nil, agP_cons, e1]
  | true =>
  rw [h1] at e1
  cases h2 : wdB w with
  | false =>
    rw [h2] at e2
    refine fin (hf (by unfold frO; simp [h2])) ?_
    rw [aCall_eq T_impl_oramBlocks]; unfold A_impl_oramBlocks C_impl_oramBlocks; simp [thenD_pp, sliceCells_sl, sliceCells_z, sliceCells_nil, take_full, appS_sl, appK_ok, appS_none, thenD_ag, agP_nil, agP_cons, e1, e2]
  | true =>
  rw [h2] at e2
  cases h3 : bdB b with
  | false =>
    rw [h3] at e3
    refine fin (hf (by unfold frO; simp [h3])) ?_
    rw [aCall_eq T_impl_oramBlocks]; unfold A_impl_oramBlocks C_impl_oramBlocks; simp [thenD_pp, sliceCells_sl, sliceCells_z, sliceCells_nil, take_full, appS_sl, appK_ok, appS_none, thenD_ag, agP_nil, agP_cons, e1, e2, e3]
  | true =>
  rw [h3] at e3
  have hw : 1 ≤ w ∧ w ≤ 200 := by unfold wdB at h2; simpa using h2
  have hb : 0 ≤ b ∧ b ≤ 64 := by unfold bdB at h3; simpa using h3
  obtain ⟨k, rfl, hk⟩ := log_nat h1
  have hk0 : Int.toNat (k : Int) = k := by omega
  have e6 := fun M => c_impl_treeNodes M k _ hk rfl
  have w1 : IntKind.i64.wrap (w + 3) = w + 3 := wrap_i64 (by omega) (by omega)
  have w2 : IntKind.i64.wrap (4 * (w + 3)) = 4 * (w + 3) := wrap_i64 (by omega) (by omega)
  have hp6 : 2 ^ k ≤ 2 ^ 6 := Nat.pow_le_pow_right (by omega) hk
  have hp0 : 0 < 2 ^ k := Nat.two_pow_pos k
  have hN : ∃ N, N = 2 * 2 ^ k - 1 := ⟨_, rfl⟩
  obtain ⟨N, hN⟩ := hN
  cases h4 : memB m with
  | false =>
    rw [h4] at e4
    refine fin (hf (by unfold frO; simp [h4])) ?_
    rw [aCall_eq T_impl_oramBlocks]; unfold A_impl_oramBlocks C_impl_oramBlocks; simp [thenD_pp, sliceCells_sl, sliceCells_z, sliceCells_nil, take_full, appS_sl, appK_ok, appS_none, thenD_ag, agP_nil, agP_cons, e1, e2, e3, e4]
  | true =>
  rw [h4] at e4
  by_cases h5 : m.2.1.length = N
  · have hmb := mem_bnd h4
    rw [← hN, ← h5] at e6
    by_cases h6 : (m.1 : Int) = 4 * (w + 3)
    · have w2 : IntKind.i64.wrap (4 * (w + 3)) = m.1 := w2.trans h6.symm
      by_cases h7 : (st.length : Int) ≤ b
      · have h7' : ¬ b < (st.length : Int) := by omega
        cases h8 : stashB k w st with
        | false =>
          rw [h8] at e5
          refine fin (hf (by unfold frO; simp [h8])) ?_
          rw [aCall_eq T_impl_oramBlocks]; unfold A_impl_oramBlocks C_impl_oramBlocks; simp [thenD_pp, sliceCells_sl, sliceCells_z, sliceCells_nil, take_full, appS_sl, appK_ok, appS_none, thenD_ag, agP_nil, agP_cons, e1, e2, e3, e4, e5, e6, w1, w2, h7']
        | true =>
          rw [h8] at e5
          have hX : orX k w b m st = outO k w 1 m.2.1 st := by
            unfold orX
            rw [hk0, if_pos]
            unfold frO
            rw [h1, h2, h3, h4, hk0, ← hN, decide_eq_true h5, decide_eq_true h6, decide_eq_true h7, h8]
            rfl
          rw [hX]
          have hCB := fun N : Mem => c_impl_cloneBlocks (M ++ N) _ st (hS.mono (List.prefix_append _ _)) hz
          rw [aCall_eq T_impl_oramBlocks]; unfold A_impl_oramBlocks C_impl_oramBlocks; simp [thenD_pp, sliceCells_sl, sliceCells_z, sliceCells_nil, take_full, appS_sl, appK_ok, appS_none, thenD_ag, agP_nil, agP_cons, e1, e2, e3, e4, e5, e6, w1, w2, h7']
          generalize hx : aCall T0 F_impl_cloneBlocks _ _ = xhx
          obtain ⟨v1, X1, rfl, L1, p1, g1, n1, k1⟩ := of_call hx (hCB _)
          clear hx
          simp only at p1 g1
          have hbx := get_pre p1 (show (M ++ [(⟨aO k w b m.1 aC m.2.1.length cC aT m.2.2.length cT aS st.length cS, 1, 2⟩ : Blk)])[M.length]? = some _ from List.getElem?_concat_length)
          have hb4 : rd1 X1 M.length 4 = some (.slice aC m.2.1.length cC) := by simp [rd1, hbx]
          have st8 : st.length ≤ 128 ∧ blocksB k w st = true := by unfold stashB at h8; simpa using h8
          have key := l_oramBlocks_0 (M ++ [(⟨aO k w b m.1 aC m.2.1.length cC aT m.2.2.length cT aS st.length cS, 1, 2⟩ : Blk)]) M.length k w aC cC m.2.1 ((rep_g_Mem hM).elim fun u0 h => by
            obtain ⟨u1, e, _, r0, _⟩ := h
            cases e
            exact r0.mono hpre) (by simp [rd1]) (by simp [rd1]) hk (by omega) (fun c hc => by have := hmb.2.2 c hc; omega) m.2.1.length 0 (by omega) st v1 X1 ⟨p1, ⟨L1, g1, n1, k1⟩, blocks_lt st8.2, ids_of st8.2⟩
          rw [List.drop_zero] at key
          simp only [FoO, Int.natCast_zero, Int.ofNat_zero] at key
          cases ho : outO k w (0 + 1) m.2.1 st with
          | none =>
            rw [ho] at key
            obtain ⟨fr, X', e, q2, q3⟩ := key
            have pX := hpre.trans q3
            simp [thenD_pp, sliceCells_sl, sliceCells_z, sliceCells_nil, take_full, appS_sl, appK_ok, appS_none, thenD_ag, agP_nil, agP_cons, hb4, e]
            have q2 : (fr[2]?.getD und) = .slice none 0 0 ∧ (fr[3]?.getD und) = .bool false := by simpa [resOf] using q2
            rw [q2.1, q2.2, gc_not rfl]
            exact ⟨(_, X'), rfl, _, [], rfl, pX, hnil, by simp, by simp⟩
          | some a =>
            rw [ho] at key
            obtain ⟨v', X', ⟨q1, ⟨L', g2, n2, k2⟩, _, _⟩, e⟩ := key
            simp only [FoOn, FoO] at e
            have pX := hpre.trans q1
            simp [thenD_pp, sliceCells_sl, sliceCells_z, sliceCells_nil, take_full, appS_sl, appK_ok, appS_none, thenD_ag, agP_nil, agP_cons, hb4, e]
            obtain ⟨a5, rfl⟩ := g2.shape
            rw [S_impl_oramBlocks_0]; unfold B_impl_oramBlocks_0; simp [thenD_pp, sliceCells_sl, sliceCells_z, sliceCells_nil, take_full, appS_sl, appK_ok, appS_none, thenD_ag, agP_nil, agP_cons, pX]
            exact ⟨(_, X'), rfl, _, L', rfl, pX, g2, n2, fun j hj => by have := k2 j hj; simp at this; omega⟩
      · have h7' : b < (st.length : Int) := by omega
        refine fin (hf (by unfold frO; rw [decide_eq_false h7]; simp)) ?_
        rw [aCall_eq T_impl_oramBlocks]; unfold A_impl_oramBlocks C_impl_oramBlocks; simp [thenD_pp, sliceCells_sl, sliceCells_z, sliceCells_nil, take_full, appS_sl, appK_ok, appS_none, thenD_ag, agP_nil, agP_cons, e1, e2, e3, e4, e6, w1, w2, h7']
    · refine fin (hf (by unfold frO; rw [decide_eq_false h6]; simp)) ?_
      rw [aCall_eq T_impl_oramBlocks]; unfold A_impl_oramBlocks C_impl_oramBlocks; simp [thenD_pp, sliceCells_sl, sliceCells_z, sliceCells_nil, take_full, appS_sl, appK_ok, appS_none, thenD_ag, agP_nil, agP_cons, e1, e2, e3, e4, e6, w1, w2, h6]
  · have h5' : ¬ (m.2.1.length : Int) = (N : Int) := by omega
    refine fin (hf (by unfold frO; rw [hk0, ← hN, decide_eq_false h5]; simp)) ?_
    rw [← hN] at e6
    generalize m.2.1.length = nC at *
    rw [aCall_eq T_impl_oramBlocks]; unfold A_impl_oramBlocks C_impl_oramBlocks; simp [thenD_pp, sliceCells_sl, sliceCells_z, sliceCells_nil, take_full, appS_sl, appK_ok, appS_none, thenD_ag, agP_nil, agP_cons, e1, e2, e3, e4, e6, h5', h5]
def ObV (M : Mem) (o : Option (List ty_Block.D)) (p : V × Mem) : Prop := ∃ L, M <+: p.2 ∧ Gr (.sl ty_Block) p.2 [p.1] (o.getD []) L ∧ L.Nodup ∧ ∀ j ∈ L, M.length ≤ j
theorem c_impl_OramBlocks (M : Mem) (cs : List V) (x : ty_Oram.D) (h : Rep ty_Oram M cs x) (hz : BlkSz x.2.2.2.2) (hc : x.2.2.2.1.2.1.length ≤ 1048576) : Sat (aCall T0 F_impl_OramBlocks [.agg cs.toArray] M) (ObV M (orO x)) := by
  obtain ⟨aC, cC, aT, cT, aS, cS, rfl, hM, hS⟩ := oram_shape h
  have hpre : M <+: M ++ [(⟨aO x.1 x.2.1 x.2.2.1 x.2.2.2.1.1 aC x.2.2.2.1.2.1.length cC aT x.2.2.2.1.2.2.length cT aS x.2.2.2.2.length cS, 1, 2⟩ : Blk)] := List.prefix_append _ _
  have key := c_impl_oramBlocks _ x.1 x.2.1 x.2.2.1 x.2.2.2.1 x.2.2.2.2 aC cC aT cT aS cS (hM.mono hpre) (hS.mono hpre) hz hc
  unfold orO
  generalize orX x.1 x.2.1 x.2.2.1 x.2.2.2.1 x.2.2.2.2 = o at *
  rw [aCall_eq T_impl_OramBlocks]; unfold A_impl_OramBlocks C_impl_OramBlocks; simp [thenD_pp, sliceCells_sl, sliceCells_z, sliceCells_nil, take_full, appS_sl, appK_ok, appS_none, thenD_ag, agP_nil, agP_cons]
  generalize hx : aCall T0 F_impl_oramBlocks _ _ = xhx
  obtain ⟨v1, X1, rfl, r, L1, rfl, p1, g1, n1, k1⟩ := of_call hx key
  clear hx
  simp only at p1 g1
  obtain ⟨a5, rfl⟩ := g1.shape
  simp [thenD_pp, sliceCells_sl, sliceCells_z, sliceCells_nil, take_full, appS_sl, appK_ok, appS_none, thenD_ag, agP_nil, agP_cons]
  exact ⟨(_, X1), rfl, L1, hpre.trans p1, g1, n1, fun j hj => by have := k1 j hj; simp at this; omega⟩
theorem d_impl_OramBlocks (M : Mem) (cs : List V) (x : ty_Oram.D) (h : Rep ty_Oram M cs x) (hb : Bd 1048576 ty_Oram x) :
    ∃ M' r L, M <+: M' ∧ aCall T0 F_impl_OramBlocks [.agg cs.toArray] M = some (r, M') ∧ Own (.sl ty_Block) M' [r] ((orO x).getD []) L ∧ Fresh M M' L := by
  obtain ⟨h1, h2, h3⟩ := oram_bd hb
  obtain ⟨⟨r, M'⟩, e, L, q1, q2, q3, q4⟩ := c_impl_OramBlocks M cs x h h1 h2
  simp only at q1 q2
  obtain ⟨L', o, hs⟩ := q2.own
  exact ⟨M', r, L', q1, e, o, hs.nodup q3, fun j hj => ⟨q4 j (hs.subset hj), q2.lt j (hs.subset hj)⟩⟩
theorem filt_bd {P : ty_Block.D → Prop} {xs ys : List ty_Block.D} (h : ∀ k, flI k xs = flI k ys) (hp : ∀ y ∈ ys, P y) : ∀ x ∈ xs, P x := fun x hx => by
  have : x ∈ flI (Int.toNat x.1) xs := List.mem_filter.2 ⟨hx, decide_eq_true rfl⟩
  rw [h] at this
  exact hp x (List.mem_filter.1 this).1
theorem orO_good {x : ty_Oram.D} {r : List ty_Block.D} (h : orO x = some r) : ∃ k : Nat, x.1 = (k : Int) ∧ k ≤ 6 ∧ frO k x.2.1 x.2.2.1 x.2.2.2.1 x.2.2.2.2 = true ∧ outO k x.2.1 1 x.2.2.2.1.2.1 x.2.2.2.2 = some r ∧ IdLt r ∧ IdsR r ∧ x.2.2.2.1.2.1.all (ndOk k x.2.1) = true ∧ ∀ j, flI j r = flI j (x.2.2.2.2 ++ (ndsF x.2.1 x.2.2.2.1.2.1).flatten) := by
  unfold orO orX at h
  by_cases hfr : frO x.1 x.2.1 x.2.2.1 x.2.2.2.1 x.2.2.2.2 = true
  · rw [if_pos hfr] at h
    have hfr2 := hfr
    unfold frO at hfr2
    simp only [Bool.and_eq_true] at hfr2
    obtain ⟨k, hk, hk6⟩ := log_nat hfr2.1
    rw [hk] at h hfr
    have hk0 : Int.toNat (k : Int) = k := by omega
    rw [hk0] at h
    have h8 := hfr2.2.2.2.2.2.2.2
    have st8 : x.2.2.2.2.length ≤ 128 ∧ blocksB x.1 x.2.1 x.2.2.2.2 = true := by unfold stashB at h8; simpa using h8
    obtain ⟨⟨q1, q2⟩, q3, q4, q5⟩ := out_good _ 1 _ r h (blocks_lt st8.2) (ids_of st8.2)
    exact ⟨k, hk, hk6, hfr, h, q3, q4, q1, q5⟩
  · rw [if_neg hfr] at h
    cases h
theorem orO_bd (x : ty_Oram.D) (hb : Bd 1048576 ty_Oram x) : Bd 1048576 (.sl ty_Block) ((orO x).getD []) := by
  cases ho : orO x with
  | none => exact ⟨by simp, by simp⟩
  | some r =>
    obtain ⟨k, hk, hk6, hfr, hout, q3, q4, q1, q5⟩ := orO_good ho
    refine ⟨?_, ?_⟩
    · have := lt_len q3 q4
      show List.length r ≤ 1048576
      omega
    · show ∀ y ∈ r, Bd 1048576 ty_Block y
      refine filt_bd q5 fun y hy => ?_
      rcases List.mem_append.1 hy with hy | hy
      · exact hb.2.2.2.2.2 y hy
      · obtain ⟨bs, hbs, hx⟩ := List.mem_flatten.1 hy
        obtain ⟨c, hc, rfl⟩ := List.mem_map.1 hbs
        have hcl := (hb.2.2.2.1.2.1.2 c hc).1
        unfold ndB at hx
        obtain ⟨j, _, rfl⟩ := List.mem_map.1 hx
        unfold blkAt
        refine ⟨trivial, trivial, ?_, fun _ _ => trivial⟩
        show List.length (α := UInt8) ((List.drop _ c).take _) ≤ 1048576
        rw [List.length_take, List.length_drop]
        omega
set_option maxHeartbeats 8000000 in
set_option maxRecDepth 20000 in
theorem c_laws_FnExactOramBlocks (M : Mem) (v_o : List V) (o : ty_Oram.D) (h_o : Rep ty_Oram M v_o o) (hb_o : Bd 9223372036854775807 ty_Oram o) : ∃ M', aCall T0 F_laws_FnExactOramBlocks [.agg v_o.toArray] M = some (.bool true, M') := by
  have hl_v_o : v_o.length = 7 := (h_o).len
  have ho_v_o := (h_o).one
  obtain ⟨l_o, s1_o, s2_o, s3_o⟩ := k_laws_szOram (M ++ [⟨v_o, 1, 2⟩]) v_o o 1048576 (h_o.mono ((List.prefix_refl _).trans (List.prefix_append _ _))) hb_o (by omega) (by omega)
  have r1 : rdn (M ++ [⟨v_o, 1, 2⟩]) (M.length) 0 7 = some v_o := rdn_box (by first | simp | rfl) hl_v_o.symm
  by_cases hl_o : l_o < 0
  · refine ⟨M, ?_⟩
    rw [aCall_eq T_laws_FnExactOramBlocks]; unfold A_laws_FnExactOramBlocks C_laws_FnExactOramBlocks; simp [thenD_pp, sliceCells_sl, sliceCells_z, sliceCells_nil, take_full, appS_sl, appK_ok, appS_none, thenD_ag, agP_nil, agP_cons, hl_v_o, ho_v_o, r1, s2_o, hl_o]
  have hb1_o := s3_o (by omega)
  have hr_0 : Bd 1048576 (.sl ty_Block) ((orO o).getD []) := orO_bd o hb1_o
  have ht_0 := tot_BlockS _ hr_0
  have ht_o := tot_Oram _ hb1_o
  have r2 : rdn (M ++ [⟨v_o, 1, 2⟩]) (M.length) 0 7 = some v_o := rdn_box (by first | simp | rfl) hl_v_o.symm
  obtain ⟨M3, u4, L5, p6, t7, o8, F9⟩ := k_laws_toOram (M ++ [⟨v_o, 1, 2⟩]) v_o o (h_o.mono ((List.prefix_refl _).trans (List.prefix_append _ _))) hb1_o
  have f10 : ∀ l ∈ L5, M.length + 1 ≤ l ∧ l < M3.length := by intro l hl; have := F9.2 l hl; (try simp only [List.length_append, List.length_cons, List.length_nil] at this); omega
  have q11 : M <+: M3 := (List.prefix_append _ _).trans p6
  have ln12 : M.length + 1 ≤ M3.length := by have := p6.length_le; (try simp only [List.length_append, List.length_cons, List.length_nil] at this); omega
  have b13 : M3[M.length]? = some ⟨v_o, 1, 2⟩ := get_pre p6 (by simp)
  have z14 : M <+: M3 := (List.prefix_refl _).trans q11
  have hl_u4 : u4.length = 7 := (o8.rep).len
  have ho_u4 := (o8.rep).one
  obtain ⟨M16, g19, p17, s18, o20⟩ := d_spec_OramBlocks M3 u4 o ((Own.grow (List.prefix_refl _) o8)).rep hb1_o
  have q21 : M3 <+: M16 := (List.prefix_refl _).trans p17
  have ln22 : M3.length ≤ M16.length := by have := p17.length_le; (try simp only [List.length_append, List.length_cons, List.length_nil] at this); omega
  have b23 : M16[M.length]? = some ⟨v_o, 1, 2⟩ := get_pre q21 b13
  have o24 := Own.grow q21 o8
  have z25 : M <+: M16 := z14.trans q21
  have r27 : rdn M16 (M.length) 0 7 = some v_o := rdn_box b23 hl_v_o.symm
  obtain ⟨M28, u29, L30, p31, t32, o33, F34⟩ := k_laws_toOram M16 v_o o (h_o.mono (z25.trans (List.prefix_refl _))) hb1_o
  have f35 : ∀ l ∈ L30, M16.length ≤ l ∧ l < M28.length := by intro l hl; have := F34.2 l hl; (try simp only [List.length_append, List.length_cons, List.length_nil] at this); omega
  have q36 : M16 <+: M28 := (List.prefix_refl _).trans p31
  have ln37 : M16.length ≤ M28.length := by have := p31.length_le; (try simp only [List.length_append, List.length_cons, List.length_nil] at this); omega
  have b38 : M28[M.length]? = some ⟨v_o, 1, 2⟩ := get_pre q36 b23
  have z39 : M <+: M28 := z25.trans q36
  have y40 : M16 <+: M28 := (List.prefix_refl _).trans q36
  have hl_u29 : u29.length = 7 := (o33.rep).len
  have ho_u29 := (o33.rep).one
  have r42 : rdn (M28 ++ [⟨u29, 1, 2⟩]) (M28.length) 0 7 = some u29 := rdn_box (by first | simp | rfl) hl_u29.symm
  obtain ⟨M43, g46, L47, p44, s45, o48, F49⟩ := d_impl_OramBlocks (M28 ++ [⟨u29, 1, 2⟩]) u29 o ((Own.grow (List.prefix_append _ _) o33)).rep hb1_o
  have q50 : M28 <+: M43 := (List.prefix_append _ _).trans p44
  have ln51 : M28.length + 1 ≤ M43.length := by have := p44.length_le; (try simp only [List.length_append, List.length_cons, List.length_nil] at this); omega
  have b52 : M43[M.length]? = some ⟨v_o, 1, 2⟩ := get_pre q50 b38
  have b53 : M43[M28.length]? = some ⟨u29, 1, 2⟩ := get_pre p44 (by simp)
  have o54 := Own.grow q50 o33
  have z55 : M <+: M43 := z39.trans q50
  have y56 : M16 <+: M43 := y40.trans q50
  have f57 : ∀ l ∈ L47, M28.length + 1 ≤ l ∧ l < M43.length := by intro l hl; have := F49.2 l (by simp [hl]); (try simp only [List.length_append, List.length_cons, List.length_nil] at this); omega
  have nd58 : L47.Nodup := by have := F49.1; first | exact this | (simp only [List.nodup_append] at this; simp [this])
  have e60 := (ans_of (k_laws_eqBlockS M43 _ _ _ _ ((Own.grow (List.prefix_refl _) o48)).rep (o20.mono (y56.trans (List.prefix_refl _))) (hr_0.mono (by decide)))).1 rfl
  have r61 : rdn M43 (M28.length) 0 7 = some u29 := rdn_box b53 hl_u29.symm
  have r62 : rdn M43 (M.length) 0 7 = some v_o := rdn_box b52 hl_v_o.symm
  obtain ⟨M63, u64, L65, p66, t67, o68, F69⟩ := k_laws_toOram M43 v_o o (h_o.mono (z55.trans (List.prefix_refl _))) hb1_o
  have f70 : ∀ l ∈ L65, M43.length ≤ l ∧ l < M63.length := by intro l hl; have := F69.2 l hl; (try simp only [List.length_append, List.length_cons, List.length_nil] at this); omega
  have q71 : M43 <+: M63 := (List.prefix_refl _).trans p66
  have ln72 : M43.length ≤ M63.length := by have := p66.length_le; (try simp only [List.length_append, List.length_cons, List.length_nil] at this); omega
  have b73 : M63[M.length]? = some ⟨v_o, 1, 2⟩ := get_pre q71 b52
  have b74 : M63[M28.length]? = some ⟨u29, 1, 2⟩ := get_pre q71 b53
  have o75 := Own.grow q71 o54
  have o76 := Own.grow q71 o48
  have z77 : M <+: M63 := z55.trans q71
  have y78 : M16 <+: M63 := y56.trans q71
  have hl_u64 : u64.length = 7 := (o68.rep).len
  have ho_u64 := (o68.rep).one
  have e80 := (ans_of (k_laws_eqOram M63 _ _ _ _ ((Own.grow (List.prefix_refl _) o75)).rep ((Own.grow (List.prefix_refl _) o68)).rep (hb1_o.mono (by decide)))).1 rfl
  have r81 : rdn M63 (M28.length) 0 7 = some u29 := rdn_box b74 hl_u29.symm
  obtain ⟨M82, m83, up84, o85⟩ := k_laws_markOram M63 _ _ _ (1) (Own.grow (List.prefix_refl _) o75) F34.1 hb1_o (by omega) (by omega)
  have ln86 : M63.length ≤ M82.length := by have := up84.1; (try simp only [List.length_append, List.length_cons, List.length_nil] at this); omega
  have hh88 : M63[M.length]? = some ⟨v_o, 1, 2⟩ := get_pre (List.prefix_refl _) b73
  have b87 : M82[M.length]? = some ⟨v_o, 1, 2⟩ := UpdG.get up84 hh88 (fun hl => by have := f35 _ hl; omega)
  have hh90 : M63[M28.length]? = some ⟨u29, 1, 2⟩ := get_pre (List.prefix_refl _) b74
  have b89 : M82[M28.length]? = some ⟨u29, 1, 2⟩ := UpdG.get up84 hh90 (fun hl => by have := f35 _ hl; omega)
  have o91 := Own.updg up84 (Own.grow (List.prefix_refl _) o76) (fun l hl hk => (by have := f57 l hl; have := f35 l hk; omega))
  have z92 : M <+: M82 := UpdG.pre up84 (z77.trans (List.prefix_refl _)) (fun l hl => by have := f35 l hl; omega)
  have y93 : M16 <+: M82 := UpdG.pre up84 (y78.trans (List.prefix_refl _)) (fun l hl => by have := f35 l hl; omega)
  have c94 : ¬ (1 + gt_Oram o < 0) := by omega
  have e95 := (ans_of (k_laws_eqBlockS M82 _ _ _ _ ((Own.grow (List.prefix_refl _) o91)).rep (o20.mono (y93.trans (List.prefix_refl _))) (hr_0.mono (by decide)))).1 rfl
  obtain ⟨M96, m97, up98, o99⟩ := k_laws_markBlockS M82 _ _ _ (1) (Own.grow (List.prefix_refl _) o91) nd58 hr_0 (by omega) (by omega)
  have ln100 : M82.length ≤ M96.length := by have := up98.1; (try simp only [List.length_append, List.length_cons, List.length_nil] at this); omega
  have hh102 : M82[M.length]? = some ⟨v_o, 1, 2⟩ := get_pre (List.prefix_refl _) b87
  have b101 : M96[M.length]? = some ⟨v_o, 1, 2⟩ := UpdG.get up98 hh102 (fun hl => by have := f57 _ hl; omega)
  have hh104 : M82[M28.length]? = some ⟨u29, 1, 2⟩ := get_pre (List.prefix_refl _) b89
  have b103 : M96[M28.length]? = some ⟨u29, 1, 2⟩ := UpdG.get up98 hh104 (fun hl => by have := f57 _ hl; omega)
  have o105 := Own.updg up98 (Own.grow (List.prefix_refl _) o85) (fun l hl hk => (by have := f35 l hl; have := f57 l hk; omega))
  have z106 : M <+: M96 := UpdG.pre up98 (z92.trans (List.prefix_refl _)) (fun l hl => by have := f57 l hl; omega)
  have y107 : M16 <+: M96 := UpdG.pre up98 (y93.trans (List.prefix_refl _)) (fun l hl => by have := f57 l hl; omega)
  have c108 : ¬ (1 + gt_BlockS ((orO o).getD []) < 0) := by omega
  have d109 := k_laws_heldBlockS M96 _ _ (1) ((Own.grow (List.prefix_refl _) o99)).rep hr_0 (by omega) (by omega)
  have c110 : ¬ (1 + gt_BlockS ((orO o).getD []) < 0) := by omega
  have r111 : rdn M96 (M.length) 0 7 = some v_o := rdn_box b101 hl_v_o.symm
  obtain ⟨M112, u113, L114, p115, t116, o117, F118⟩ := k_laws_toOram M96 v_o o (h_o.mono (z106.trans (List.prefix_refl _))) hb1_o
  have f119 : ∀ l ∈ L114, M96.length ≤ l ∧ l < M112.length := by intro l hl; have := F118.2 l hl; (try simp only [List.length_append, List.length_cons, List.length_nil] at this); omega
  have q120 : M96 <+: M112 := (List.prefix_refl _).trans p115
  have ln121 : M96.length ≤ M112.length := by have := p115.length_le; (try simp only [List.length_append, List.length_cons, List.length_nil] at this); omega
  have b122 : M112[M.length]? = some ⟨v_o, 1, 2⟩ := get_pre q120 b101
  have b123 : M112[M28.length]? = some ⟨u29, 1, 2⟩ := get_pre q120 b103
  have o124 := Own.grow q120 o105
  have o125 := Own.grow q120 o99
  have z126 : M <+: M112 := z106.trans q120
  have y127 : M16 <+: M112 := y107.trans q120
  have hl_u113 : u113.length = 7 := (o117.rep).len
  have ho_u113 := (o117.rep).one
  obtain ⟨M129, g132, L133, p130, s131, o134, F135⟩ := d_impl_OramBlocks M112 u113 o ((Own.grow (List.prefix_refl _) o117)).rep hb1_o
  have q136 : M112 <+: M129 := (List.prefix_refl _).trans p130
  have ln137 : M112.length ≤ M129.length := by have := p130.length_le; (try simp only [List.length_append, List.length_cons, List.length_nil] at this); omega
  have b138 : M129[M.length]? = some ⟨v_o, 1, 2⟩ := get_pre q136 b122
  have b139 : M129[M28.length]? = some ⟨u29, 1, 2⟩ := get_pre q136 b123
  have o140 := Own.grow q136 o124
  have o141 := Own.grow q136 o125
  have o142 := Own.grow q136 o117
  have z143 : M <+: M129 := z126.trans q136
  have y144 : M16 <+: M129 := y127.trans q136
  have f145 : ∀ l ∈ L133, M112.length ≤ l ∧ l < M129.length := by intro l hl; have := F135.2 l (by simp [hl]); (try simp only [List.length_append, List.length_cons, List.length_nil] at this); omega
  have nd146 : L133.Nodup := by have := F135.1; first | exact this | (simp only [List.nodup_append] at this; simp [this])
  have e148 := (ans_of (k_laws_eqBlockS M129 _ _ _ _ ((Own.grow (List.prefix_refl _) o134)).rep (o20.mono (y144.trans (List.prefix_refl _))) (hr_0.mono (by decide)))).1 rfl
  have d149 := k_laws_heldBlockS M129 _ _ (1) ((Own.grow (List.prefix_refl _) o141)).rep hr_0 (by omega) (by omega)
  have c150 : ¬ (1 + gt_BlockS ((orO o).getD []) < 0) := by omega
  rw [aCall_eq T_laws_FnExactOramBlocks]; unfold A_laws_FnExactOramBlocks C_laws_FnExactOramBlocks; simp (maxSteps := 4000000) [thenD_pp, sliceCells_sl, sliceCells_z, sliceCells_nil, take_full, appS_sl, appK_ok, appS_none, thenD_ag, agP_nil, agP_cons, hl_v_o, ho_v_o, r1, s2_o, hl_o, r2, t7, p6, hl_u4, ho_u4, s18, p17, r27, t32, p31, hl_u29, ho_u29, r42, s45, p44, e60, r61, r62, t67, p66, hl_u64, ho_u64, e80, r81, m83, c94, e95, m97, c108, d109, c110, r111, t116, p115, hl_u113, ho_u113, s131, p130, e148, d149, c150, thenD_pre]
  all_goals exact gc_ex _ _ _
theorem law_laws_FnExactOramBlocks (M : Mem) (avs : List V) (_ : ∀ b ∈ M, b.st ≠ 2) (h : Ins [(true, (.pr (.int .i64) (.pr (.int .i64) (.pr (.int .i64) (.pr (.pr (.int .i64) (.pr (.sl (.sl .u8)) (.sl (.pr (.int .i64) (.pr (.int .i64) (.int .i64)))))) (.sl (.pr (.int .i64) (.pr (.int .i64) (.sl .u8)))))))))] M avs) : ∃ M', aCall T0 F_laws_FnExactOramBlocks avs M = some (.bool true, M') := by
  obtain ⟨v_o, _, o, rfl, h_o, f_o, h⟩ := ins_cons h
  obtain rfl := ins_nil h
  obtain ⟨c_o, rfl, h2_o⟩ := repv_agg h_o
  exact c_laws_FnExactOramBlocks M c_o o h2_o (fit_bd f_o)
end GoAm
