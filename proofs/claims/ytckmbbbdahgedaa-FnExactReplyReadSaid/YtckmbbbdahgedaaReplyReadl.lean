/- What the functions do that the law reaches; and the law. -/
import Derived.Test.YtckmbbbdahgedaaReplyReadl0
set_option autoImplicit false
set_option linter.unusedVariables false
set_option linter.unusedSimpArgs false
namespace GoAm
open Go
set_option maxHeartbeats 2000000 in
theorem w_spec_ReplyRead (M : Mem) (kind slots : Int) (v : V) (ys : List UInt8) (h : Rep (.sl ty_Byte) M [v] ys) (hyl : ys.length ≤ 1048576) : Sat (aCall T0 F_spec_ReplyRead [.int .i64 kind, .int .i64 slots, v] M) (RRD M (rrR kind slots ys) (rrB kind slots ys)) := by
  obtain ⟨a, c, rfl⟩ := h.slen
  unfold rrR rrB
  have s1 := fun M => c_spec_l18Shape M kind slots
  have s2 := fun M => c_spec_ReplySize M kind slots
  cases hs : shapeB kind slots with
  | false =>
    rw [hs] at s1
    rw [aCall_eq T_spec_ReplyRead]; unfold A_spec_ReplyRead C_spec_ReplyRead; simp [thenD_pp, sliceCells_sl, sliceCells_z, sliceCells_nil, take_full, appS_sl, appK_ok, appS_none, thenD_ag, agP_nil, agP_cons, s1, prim]
    exact sat_some (rrd_nil (List.prefix_append _ _))
  | true =>
  rw [hs] at s1
  have hsl : 0 ≤ slots ∧ slots ≤ 16 := by
    unfold shapeB at hs
    split at hs <;> simp at hs <;> omega
  have hz : replySz kind slots = replyS kind slots := by
    unfold replySz replyS
    rw [hs, if_pos rfl, Int.toNat_of_nonneg]
    split
    · omega
    · split <;> omega
  rw [hz] at s2
  have hz1 : 1 ≤ replyS kind slots ∧ replyS kind slots ≤ 297 := by
    unfold replyS
    split
    · omega
    · split <;> omega
  by_cases hl : ys.length = replyS kind slots
  rotate_left
  · rw [decide_eq_false hl]
    have hl2 : ¬ (ys.length : Int) = (replyS kind slots : Nat) := by omega
    rw [aCall_eq T_spec_ReplyRead]; unfold A_spec_ReplyRead C_spec_ReplyRead; simp [thenD_pp, sliceCells_sl, sliceCells_z, sliceCells_nil, take_full, appS_sl, appK_ok, appS_none, thenD_ag, agP_nil, agP_cons, s1, s2, hl, hl2, prim]
    exact sat_some (rrd_nil (List.prefix_append _ _))
  rw [decide_eq_true hl, Bool.true_and, Bool.true_and]
  have hl2 : (ys.length : Int) = (replyS kind slots : Nat) := by omega
  obtain ⟨l, o, rfl, _⟩ := at_Byte h (show 0 < ys.length by omega)
  have q0 := at_B h (show 0 < ys.length by omega)
  have t0 := atN_lt ys 0
  have t1 := atN_lt ys 1
  have t2 := atN_lt ys 2
  have t3 := atN_lt ys 3
  rw [Nat.add_zero] at q0
  have k0 := fun N : Mem => rd1_old (N := N) q0
  have e0 : IntKind.i64.wrap (atN ys 0 : Int) = atN ys 0 := wrap_i64 (by omega) (by omega)
  have hlp : 0 < ys.length := by omega
  have w0 : IntKind.i64.wrap 0 = 0 := by decide
  by_cases hk0 : atN ys 0 = 0
  rotate_left
  · have hki : ¬ (atN ys 0 : Int) = 0 := by omega
    have hr : rrX kind ys = ((atN ys 0 : Int), false, 0, [], []) := by
      unfold rrX
      simp only [hk0, false_and, if_false]
    rw [hr]
    obtain ⟨bq, hbq⟩ : ∃ b, b = decide (replyX kind slots ((atN ys 0 : Int), false, (0 : Int), [], []) = ys) := ⟨_, rfl⟩
    rw [← hbq]
    have st := rs_new (M := M) (k := (atN ys 0 : Int)) (f := false) (w := 0)
    unfold zY at st
    rw [aCall_eq T_spec_ReplyRead]; unfold A_spec_ReplyRead C_spec_ReplyRead; simp [thenD_pp, sliceCells_sl, sliceCells_z, sliceCells_nil, take_full, appS_sl, appK_ok, appS_none, thenD_ag, agP_nil, agP_cons, s1, s2, eq_true hl2, hlp, k0, e0, hk0, w0, prim]
    generalize hx : aCall T0 F_spec_ReplyOf _ _ = xhx
    obtain ⟨X2, u2, p2, e2, r2⟩ := d_spec_ReplyOf _ kind slots _ ((atN ys 0 : Int), false, (0 : Int), [], []) (mkrep_g_Reply (show (Lit.int .i64 (atN ys 0 : Int)).wf = true from wf_range ⟨by omega, by omega⟩) (show (Lit.int .i64 0).wf = true from by decide) st.o1.rep st.o2.rep) ⟨trivial, trivial, trivial, ⟨by simp, by simp⟩, ⟨by simp, by simp⟩⟩
    have hx := hx.symm.trans e2
    subst hx
    have st2 := st.grow p2
    obtain ⟨_, _, y1, y2⟩ := cells_Byte (h.mono st2.pre)
    cases y1
    obtain ⟨_, _, rfl, z2⟩ := cells_Byte r2
    have i1 := one_head st2.o1.rep.one
    have i2 := one_head st2.o2.rep.one
    have b0 := st2.b0
    have b1 := st2.b1
    have b0' : X2[M.length]? = some ⟨[.int .i64 0, .bool false, .int .i64 0, .slice none 0 0, .slice none 0 0], 1, 2⟩ := b0
    cases bq with
    | true =>
      have hbq := of_decide_eq_true hbq.symm
      try rw [if_pos rfl]
      generalize (replyX kind slots ((atN ys 0 : Int), false, (0 : Int), [], [])).length = nq at z2
      rw [hbq] at z2
      simp [thenD_pp, sliceCells_sl, sliceCells_z, sliceCells_nil, take_full, appS_sl, appK_ok, appS_none, thenD_ag, agP_nil, agP_cons, i1, i2, y2, z2, toBytes_map, p2, thenD_pre, b0', b1, gs_of b0, prim, rd1_K, rdJ_ok, rdn_K, rnJ_ok, wrn_K, wrJ_ok]
      exact sat_some (st2.done (by refine ⟨?_, ?_⟩ <;> first | omega | decide) (by refine ⟨?_, ?_⟩ <;> first | omega | decide) true)
    | false =>
      have hbq := of_decide_eq_false hbq.symm
      try rw [if_neg (show ¬ ((false : Bool) = true) by decide)]
      generalize replyX kind slots ((atN ys 0 : Int), false, (0 : Int), [], []) = zs at z2 hbq
      simp [thenD_pp, sliceCells_sl, sliceCells_z, sliceCells_nil, take_full, appS_sl, appK_ok, appS_none, thenD_ag, agP_nil, agP_cons, i1, i2, y2, z2, toBytes_map, p2, thenD_pre, hbq, b0', b1, gs_of b0, prim, rd1_K, rdJ_ok, rdn_K, rnJ_ok, wrn_K, wrJ_ok]
      exact sat_some (rrd_nil (pf_set (Nat.le_refl _) st2.pre))
  have hki : (atN ys 0 : Int) = 0 := by omega
  by_cases h1 : kind = 1
  · subst h1
    obtain ⟨kind, hkd⟩ : ∃ k : Int, k = 1 := ⟨_, rfl⟩
    have hl4 : ys.length = 4 := by rw [hl]; rfl
    have k1 := fun N : Mem => rd1_old (N := N) (at_B h (show 1 < ys.length by omega))
    have k2 := fun N : Mem => rd1_old (N := N) (at_B h (show 2 < ys.length by omega))
    have k3 := fun N : Mem => rd1_old (N := N) (at_B h (show 3 < ys.length by omega))
    have e2 : IntKind.i64.wrap (atN ys 2 : Int) = atN ys 2 := wrap_i64 (by omega) (by omega)
    have e3 : IntKind.i64.wrap (atN ys 3 : Int) = atN ys 3 := wrap_i64 (by omega) (by omega)
    have e4 : IntKind.i64.wrap (256 * (atN ys 2 : Int)) = 256 * (atN ys 2 : Int) := wrap_i64 (by omega) (by omega)
    have e5 : IntKind.i64.wrap (256 * (atN ys 2 : Int) + (atN ys 3 : Int)) = 256 * (atN ys 2 : Int) + (atN ys 3 : Int) := wrap_i64 (by omega) (by omega)
    have d1 : (1 : Int) < ys.length := by omega
    have d2 : (2 : Int) < ys.length := by omega
    have d3 : (3 : Int) < ys.length := by omega
    have hr : rrX 1 ys = ((0 : Int), decide ((atN ys 1 : Int) = 1), 256 * (atN ys 2 : Int) + (atN ys 3 : Int), [], []) := by
      unfold rrX
      rw [if_pos ⟨hk0, rfl⟩, show decide (atN ys 1 = 1) = decide ((atN ys 1 : Int) = 1) from decide_eq_decide.2 (by omega)]
      simp
    rw [hr]
    obtain ⟨bq, hbq⟩ : ∃ b, b = decide (replyX 1 slots ((0 : Int), decide ((atN ys 1 : Int) = 1), 256 * (atN ys 2 : Int) + (atN ys 3 : Int), [], []) = ys) := ⟨_, rfl⟩
    rw [← hbq]
    have st := rs_new (M := M) (k := 0) (f := decide ((atN ys 1 : Int) = 1)) (w := 256 * (atN ys 2 : Int) + (atN ys 3 : Int))
    unfold zY at st
    rw [aCall_eq T_spec_ReplyRead]; unfold A_spec_ReplyRead C_spec_ReplyRead; simp [thenD_pp, sliceCells_sl, sliceCells_z, sliceCells_nil, take_full, appS_sl, appK_ok, appS_none, thenD_ag, agP_nil, agP_cons, s1, s2, eq_true hl2, hlp, k0, e0, hk0, w0, k1, k2, k3, e2, e3, e4, e5, d1, d2, d3, prim]
    generalize hx : aCall T0 F_spec_ReplyOf _ _ = xhx
    obtain ⟨X2, u2, p2, e2, r2⟩ := d_spec_ReplyOf _ 1 slots _ ((0 : Int), decide ((atN ys 1 : Int) = 1), 256 * (atN ys 2 : Int) + (atN ys 3 : Int), [], []) (mkrep_g_Reply (show (Lit.int .i64 0).wf = true from by decide) (show (Lit.int .i64 (256 * (atN ys 2 : Int) + (atN ys 3 : Int))).wf = true from wf_range ⟨by omega, by omega⟩) st.o1.rep st.o2.rep) ⟨trivial, trivial, trivial, ⟨by simp, by simp⟩, ⟨by simp, by simp⟩⟩
    have hx := hx.symm.trans e2
    subst hx
    have st2 := st.grow p2
    obtain ⟨_, _, y1, y2⟩ := cells_Byte (h.mono st2.pre)
    cases y1
    obtain ⟨_, _, rfl, z2⟩ := cells_Byte r2
    have i1 := one_head st2.o1.rep.one
    have i2 := one_head st2.o2.rep.one
    have b0 := st2.b0
    have b1 := st2.b1
    have b0' : X2[M.length]? = some ⟨[.int .i64 0, .bool false, .int .i64 0, .slice none 0 0, .slice none 0 0], 1, 2⟩ := b0
    cases bq with
    | true =>
      have hbq := of_decide_eq_true hbq.symm
      try rw [if_pos rfl]
      generalize (replyX 1 slots ((0 : Int), decide ((atN ys 1 : Int) = 1), 256 * (atN ys 2 : Int) + (atN ys 3 : Int), [], [])).length = nq at z2
      rw [hbq] at z2
      simp [thenD_pp, sliceCells_sl, sliceCells_z, sliceCells_nil, take_full, appS_sl, appK_ok, appS_none, thenD_ag, agP_nil, agP_cons, i1, i2, y2, z2, toBytes_map, p2, thenD_pre, b0', b1, gs_of b0, prim, rd1_K, rdJ_ok, rdn_K, rnJ_ok, wrn_K, wrJ_ok]
      exact sat_some (st2.done (by refine ⟨?_, ?_⟩ <;> first | omega | decide) (by refine ⟨?_, ?_⟩ <;> first | omega | decide) true)
    | false =>
      have hbq := of_decide_eq_false hbq.symm
      try rw [if_neg (show ¬ ((false : Bool) = true) by decide)]
      generalize replyX 1 slots ((0 : Int), decide ((atN ys 1 : Int) = 1), 256 * (atN ys 2 : Int) + (atN ys 3 : Int), [], []) = zs at z2 hbq
      simp [thenD_pp, sliceCells_sl, sliceCells_z, sliceCells_nil, take_full, appS_sl, appK_ok, appS_none, thenD_ag, agP_nil, agP_cons, i1, i2, y2, z2, toBytes_map, p2, thenD_pre, hbq, b0', b1, gs_of b0, prim, rd1_K, rdJ_ok, rdn_K, rnJ_ok, wrn_K, wrJ_ok]
      exact sat_some (rrd_nil (pf_set (Nat.le_refl _) st2.pre))
  by_cases h2 : kind = 2
  · subst h2
    have hl4 : ys.length = 297 := by rw [hl]; rfl
    have hr : rrX 2 ys = ((0 : Int), false, 0, topR ys 8, []) := by
      unfold rrX
      rw [if_neg (by simp), if_pos ⟨hk0, rfl⟩]
    rw [hr]
    obtain ⟨bq, hbq⟩ : ∃ b, b = decide (replyX 2 slots ((0 : Int), false, (0 : Int), topR ys 8, []) = ys) := ⟨_, rfl⟩
    rw [← hbq]
    rw [hl4] at h ⊢
    have hrt : RT M 0 (M ++ [⟨zY, 1, 2⟩, ⟨[.int .i64 0, .bool false, .int .i64 0, .slice none 0 0, .slice none 0 0], 1, 2⟩]) (.slice none 0 0) [] := ⟨0, rfl, List.prefix_append _ _, by simp, by simp, Grow.nil⟩
    obtain ⟨v', X', g1, lq⟩ := l_spec_ReplyRead_0 M 0 l o c ys (.int .i64 2) (.int .i64 slots) h hl4 _ _ hrt
    have hbd := topR_bd ys hl4
    obtain ⟨L1, st⟩ := rt_st g1 (fun r hr => (hbd r hr).1)
    have n8 : (topR ys 8).length ≤ 1048576 := by unfold topR; simp
    unfold zY at lq
    simp only [Int.natCast_zero, Int.ofNat_zero] at lq
    have hl2 : (297 : Int) = (replyS 2 slots : Nat) := by omega
    have st0 := st.b0
    have st1 := st.b1
    rw [aCall_eq T_spec_ReplyRead]; unfold A_spec_ReplyRead C_spec_ReplyRead; simp [thenD_pp, sliceCells_sl, sliceCells_z, sliceCells_nil, take_full, appS_sl, appK_ok, appS_none, thenD_ag, agP_nil, agP_cons, s1, s2, eq_true hl2, k0, e0, hk0, w0, prim, lq]
    rw [S_spec_ReplyRead_0]; unfold B_spec_ReplyRead_0; simp [thenD_pp, sliceCells_sl, sliceCells_z, sliceCells_nil, take_full, appS_sl, appK_ok, appS_none, thenD_ag, agP_nil, agP_cons, st0, st1, rd1_K, rdJ_ok, rdn_K, rnJ_ok]
    generalize hx : aCall T0 F_spec_ReplyOf _ _ = xhx
    obtain ⟨X2, u2, p2, e2, r2⟩ := d_spec_ReplyOf _ 2 slots _ ((0 : Int), false, (0 : Int), topR ys 8, []) (mkrep_g_Reply (show (Lit.int .i64 0).wf = true from by decide) (show (Lit.int .i64 0).wf = true from by decide) st.o1.rep st.o2.rep) ⟨trivial, trivial, trivial, ⟨n8, fun r hr => ⟨trivial, trivial, trivial, Nat.le_trans (hbd r hr).2 (by decide)⟩⟩, ⟨by simp, by simp⟩⟩
    have hx := hx.symm.trans e2
    subst hx
    have st2 := st.grow p2
    obtain ⟨_, _, y1, y2⟩ := cells_Byte (h.mono st2.pre)
    rw [hl4] at y1 y2
    cases y1
    obtain ⟨_, _, rfl, z2⟩ := cells_Byte r2
    have i1 := one_head st2.o1.rep.one
    have i2 := one_head st2.o2.rep.one
    have b0 := st2.b0
    have b1 := st2.b1
    have b0' : X2[M.length]? = some ⟨[.int .i64 0, .bool false, .int .i64 0, .slice none 0 0, .slice none 0 0], 1, 2⟩ := b0
    cases bq with
    | true =>
      have hbq := of_decide_eq_true hbq.symm
      try rw [if_pos rfl]
      generalize (replyX 2 slots ((0 : Int), false, (0 : Int), topR ys 8, [])).length = nq at z2
      rw [hbq] at z2
      simp [thenD_pp, sliceCells_sl, sliceCells_z, sliceCells_nil, take_full, appS_sl, appK_ok, appS_none, thenD_ag, agP_nil, agP_cons, i1, i2, y2, z2, toBytes_map, p2, thenD_pre, b0', b1, gs_of b0, prim, rd1_K, rdJ_ok, rdn_K, rnJ_ok, wrn_K, wrJ_ok]
      exact sat_some (st2.done (by refine ⟨?_, ?_⟩ <;> first | omega | decide) (by refine ⟨?_, ?_⟩ <;> first | omega | decide) true)
    | false =>
      have hbq := of_decide_eq_false hbq.symm
      try rw [if_neg (show ¬ ((false : Bool) = true) by decide)]
      generalize replyX 2 slots ((0 : Int), false, (0 : Int), topR ys 8, []) = zs at z2 hbq
      simp [thenD_pp, sliceCells_sl, sliceCells_z, sliceCells_nil, take_full, appS_sl, appK_ok, appS_none, thenD_ag, agP_nil, agP_cons, i1, i2, y2, z2, toBytes_map, p2, thenD_pre, hbq, b0', b1, gs_of b0, prim, rd1_K, rdJ_ok, rdn_K, rnJ_ok, wrn_K, wrJ_ok]
      exact sat_some (rrd_nil (pf_set (Nat.le_refl _) st2.pre))
  by_cases h6 : kind = 6
  · subst h6
    obtain ⟨n0, hn0⟩ : ∃ n : Nat, slots = n := ⟨slots.toNat, (Int.toNat_of_nonneg hsl.1).symm⟩
    subst hn0
    have hl4 : ys.length = n0 + 1 := by rw [hl]; unfold replyS; rw [if_neg (by decide), if_neg (by decide)]; omega
    have hr : rrX 6 ys = ((0 : Int), false, 0, [], markR ys) := by
      unfold rrX
      rw [if_neg (by simp), if_neg (by simp), if_pos ⟨hk0, rfl⟩]
    rw [hr]
    obtain ⟨bq, hbq⟩ : ∃ b, b = decide (replyX 6 n0 ((0 : Int), false, (0 : Int), [], markR ys) = ys) := ⟨_, rfl⟩
    rw [← hbq]
    rw [hl4] at h ⊢
    have hrt : RM M 0 (M ++ [⟨zY, 1, 2⟩, ⟨[.int .i64 0, .bool false, .int .i64 0, .slice none 0 0, .slice none 0 0], 1, 2⟩]) (.slice none 0 0) [] := ⟨0, rfl, List.prefix_append _ _, by simp, by simp, Grow.nil⟩
    obtain ⟨v', X', g1, lq⟩ := l_spec_ReplyRead_1 M 0 l o c n0 ys (.int .i64 6) h hl4 (by omega) _ _ hrt
    have hbd := markR_bd ys
    obtain ⟨L1, st⟩ := rm_st g1 (fun m hm => by have := hbd m hm; omega)
    have n8 : (markR ys).length ≤ 1048576 := by rw [markR_len]; omega
    unfold zY at lq
    simp only [Int.natCast_zero, Int.ofNat_zero] at lq
    have hl2 : ((n0 : Int) + 1) = (replyS 6 n0 : Nat) := by omega
    have st0 := st.b0
    have st1 := st.b1
    rw [aCall_eq T_spec_ReplyRead]; unfold A_spec_ReplyRead C_spec_ReplyRead; simp [thenD_pp, sliceCells_sl, sliceCells_z, sliceCells_nil, take_full, appS_sl, appK_ok, appS_none, thenD_ag, agP_nil, agP_cons, s1, s2, eq_true hl2, k0, e0, hk0, w0, prim, lq]
    rw [S_spec_ReplyRead_1]; unfold B_spec_ReplyRead_1; simp [thenD_pp, sliceCells_sl, sliceCells_z, sliceCells_nil, take_full, appS_sl, appK_ok, appS_none, thenD_ag, agP_nil, agP_cons, st0, st1, rd1_K, rdJ_ok, rdn_K, rnJ_ok]
    generalize hx : aCall T0 F_spec_ReplyOf _ _ = xhx
    obtain ⟨X2, u2, p2, e2, r2⟩ := d_spec_ReplyOf _ 6 n0 _ ((0 : Int), false, (0 : Int), [], markR ys) (mkrep_g_Reply (show (Lit.int .i64 0).wf = true from by decide) (show (Lit.int .i64 0).wf = true from by decide) st.o1.rep st.o2.rep) ⟨trivial, trivial, trivial, ⟨by simp, by simp⟩, ⟨n8, fun _ _ => trivial⟩⟩
    have hx := hx.symm.trans e2
    subst hx
    have st2 := st.grow p2
    obtain ⟨_, _, y1, y2⟩ := cells_Byte (h.mono st2.pre)
    rw [hl4] at y1 y2
    cases y1
    obtain ⟨_, _, rfl, z2⟩ := cells_Byte r2
    have i1 := one_head st2.o1.rep.one
    have i2 := one_head st2.o2.rep.one
    have b0 := st2.b0
    have b1 := st2.b1
    have b0' : X2[M.length]? = some ⟨[.int .i64 0, .bool false, .int .i64 0, .slice none 0 0, .slice none 0 0], 1, 2⟩ := b0
    cases bq with
    | true =>
      have hbq := of_decide_eq_true hbq.symm
      try rw [if_pos rfl]
      generalize (replyX 6 n0 ((0 : Int), false, (0 : Int), [], markR ys)).length = nq at z2
      rw [hbq] at z2
      simp [thenD_pp, sliceCells_sl, sliceCells_z, sliceCells_nil, take_full, appS_sl, appK_ok, appS_none, thenD_ag, agP_nil, agP_cons, i1, i2, y2, z2, toBytes_map, p2, thenD_pre, b0', b1, gs_of b0, prim, rd1_K, rdJ_ok, rdn_K, rnJ_ok, wrn_K, wrJ_ok]
      exact sat_some (st2.done (by refine ⟨?_, ?_⟩ <;> first | omega | decide) (by refine ⟨?_, ?_⟩ <;> first | omega | decide) true)
    | false =>
      have hbq := of_decide_eq_false hbq.symm
      try rw [if_neg (show ¬ ((false : Bool) = true) by decide)]
      generalize replyX 6 n0 ((0 : Int), false, (0 : Int), [], markR ys) = zs at z2 hbq
      simp [thenD_pp, sliceCells_sl, sliceCells_z, sliceCells_nil, take_full, appS_sl, appK_ok, appS_none, thenD_ag, agP_nil, agP_cons, i1, i2, y2, z2, toBytes_map, p2, thenD_pre, hbq, b0', b1, gs_of b0, prim, rd1_K, rdJ_ok, rdn_K, rnJ_ok, wrn_K, wrJ_ok]
      exact sat_some (rrd_nil (pf_set (Nat.le_refl _) st2.pre))
  · have hr : rrX kind ys = ((atN ys 0 : Int), false, 0, [], []) := by
      unfold rrX
      simp only [h1, h2, h6, and_false, if_false]
    rw [hr]
    obtain ⟨bq, hbq⟩ : ∃ b, b = decide (replyX kind slots ((atN ys 0 : Int), false, (0 : Int), [], []) = ys) := ⟨_, rfl⟩
    rw [← hbq]
    have st := rs_new (M := M) (k := (0 : Int)) (f := false) (w := 0)
    unfold zY at st
    rw [hki] at hbq ⊢
    rw [aCall_eq T_spec_ReplyRead]; unfold A_spec_ReplyRead C_spec_ReplyRead; simp [thenD_pp, sliceCells_sl, sliceCells_z, sliceCells_nil, take_full, appS_sl, appK_ok, appS_none, thenD_ag, agP_nil, agP_cons, s1, s2, eq_true hl2, hlp, k0, e0, hk0, h1, h2, h6, w0, prim]
    generalize hx : aCall T0 F_spec_ReplyOf _ _ = xhx
    obtain ⟨X2, u2, p2, e2, r2⟩ := d_spec_ReplyOf _ kind slots _ ((0 : Int), false, (0 : Int), [], []) (mkrep_g_Reply (show (Lit.int .i64 0).wf = true from by decide) (show (Lit.int .i64 0).wf = true from by decide) st.o1.rep st.o2.rep) ⟨trivial, trivial, trivial, ⟨by simp, by simp⟩, ⟨by simp, by simp⟩⟩
    have hx := hx.symm.trans e2
    subst hx
    have st2 := st.grow p2
    obtain ⟨_, _, y1, y2⟩ := cells_Byte (h.mono st2.pre)
    cases y1
    obtain ⟨_, _, rfl, z2⟩ := cells_Byte r2
    have i1 := one_head st2.o1.rep.one
    have i2 := one_head st2.o2.rep.one
    have b0 := st2.b0
    have b1 := st2.b1
    have b0' : X2[M.length]? = some ⟨[.int .i64 0, .bool false, .int .i64 0, .slice none 0 0, .slice none 0 0], 1, 2⟩ := b0
    cases bq with
    | true =>
      have hbq := of_decide_eq_true hbq.symm
      try rw [if_pos rfl]
      generalize (replyX kind slots ((0 : Int), false, (0 : Int), [], [])).length = nq at z2
      rw [hbq] at z2
      simp [thenD_pp, sliceCells_sl, sliceCells_z, sliceCells_nil, take_full, appS_sl, appK_ok, appS_none, thenD_ag, agP_nil, agP_cons, i1, i2, y2, z2, toBytes_map, p2, thenD_pre, b0', b1, gs_of b0, prim, rd1_K, rdJ_ok, rdn_K, rnJ_ok, wrn_K, wrJ_ok]
      exact sat_some (st2.done (by refine ⟨?_, ?_⟩ <;> first | omega | decide) (by refine ⟨?_, ?_⟩ <;> first | omega | decide) true)
    | false =>
      have hbq := of_decide_eq_false hbq.symm
      try rw [if_neg (show ¬ ((false : Bool) = true) by decide)]
      generalize replyX kind slots ((0 : Int), false, (0 : Int), [], []) = zs at z2 hbq
      simp [thenD_pp, sliceCells_sl, sliceCells_z, sliceCells_nil, take_full, appS_sl, appK_ok, appS_none, thenD_ag, agP_nil, agP_cons, i1, i2, y2, z2, toBytes_map, p2, thenD_pre, hbq, b0', b1, gs_of b0, prim, rd1_K, rdJ_ok, rdn_K, rnJ_ok, wrn_K, wrJ_ok]
      exact sat_some (rrd_nil (pf_set (Nat.le_refl _) st2.pre))
theorem d_spec_ReplyRead (M : Mem) (kind slots : Int) (v : V) (ys : List UInt8) (h : Rep (.sl ty_Byte) M [v] ys) (hb : Bd 1048576 (.sl ty_Byte) ys) :
    ∃ M' cs, M <+: M' ∧ aCall T0 F_spec_ReplyRead [.int .i64 kind, .int .i64 slots, v] M = some (.tuple #[.agg (cs : List V).toArray, .bool (rrB kind slots ys)], M') ∧ Rep ty_Reply M' cs (rrR kind slots ys) := by
  obtain ⟨⟨u, X⟩, e, cs, L, rfl, p, o, f⟩ := w_spec_ReplyRead M kind slots v ys h hb.1
  exact ⟨X, cs, p, e, o.rep⟩
theorem c_impl_within (M : Mem) (x a b : Int) : aCall T0 F_impl_within [.int .i64 x, .int .i64 a, .int .i64 b] M = some (.bool (decide (a ≤ x) && decide (x ≤ b)), M) := by
  rw [aCall_eq T_impl_within]; unfold A_impl_within C_impl_within; simp
  repeat' ((first | rw [selO_some] | rw [condR_bool] | rw [selD_some]); split <;> rename_i hq <;> (have hq2 := hq) <;> (try simp at hq2) <;> (try simp [*]))
theorem c_impl_isShape (M : Mem) (k s : Int) : aCall T0 F_impl_isShape [.int .i64 k, .int .i64 s] M = some (.bool (shapeB k s), M) := by
  unfold shapeB
  rw [aCall_eq T_impl_isShape]; unfold A_impl_isShape C_impl_isShape; simp [c_impl_within]
  repeat' ((first | rw [selO_some] | rw [condR_bool] | rw [selD_some]); split <;> rename_i hq <;> (have hq2 := hq) <;> (try simp at hq2) <;> (try simp [*, c_impl_within]))
theorem c_impl_replySize (M : Mem) (k s : Int) (hs : 0 ≤ s ∧ s ≤ 16) : aCall T0 F_impl_replySize [.int .i64 k, .int .i64 s] M = some (.int .i64 (if k = 1 then 4 else if k = 2 then 297 else 1 + s), M) := by
  rw [aCall_eq T_impl_replySize]; unfold A_impl_replySize C_impl_replySize; simp
  repeat' ((first | rw [selO_some] | rw [condR_bool] | rw [selD_some]); split <;> rename_i hq <;> (have hq2 := hq) <;> (try simp at hq2) <;> (try simp [*]))
  rw [wrap_i64 (by omega) (by omega)]
theorem c_bytes_Equal (M : Mem) (u v : V) (xs ys : List UInt8) (h : Rep (.sl ty_Byte) M [u] xs) (h2 : Rep (.sl ty_Byte) M [v] ys) : aCall T0 F_bytes_Equal [u, v] M = some (.bool (decide (xs = ys)), M) := by
  obtain ⟨a, c, rfl, s1⟩ := cells_Byte h
  obtain ⟨b, d, rfl, s2⟩ := cells_Byte h2
  rw [aCall_eq T_bytes_Equal]; unfold A_bytes_Equal C_bytes_Equal; simp [s1, s2, toBytes_map]
theorem or_i64 {a b : Nat} (ha : a < 256) (hb : b < 256) : bor .i64 ((256 * a : Nat) : Int) (b : Nat) = ((256 * a + b : Nat) : Int) := by
  have e : 256 * a ||| b = 256 * a + b := by
    have := Nat.shiftLeft_add_eq_or_of_lt (show b < 2 ^ 8 by omega) a
    rw [Nat.shiftLeft_eq] at this
    rw [Nat.mul_comm, ← this]
  unfold bor
  rw [ofInt_nat, ofInt_nat, BitVec.toNat_or, BitVec.toNat_ofNat, BitVec.toNat_ofNat]
  show IntKind.i64.wrap (((256 * a) % 2 ^ 64 ||| b % 2 ^ 64 : Nat) : Int) = _
  rw [Nat.mod_eq_of_lt (by omega), Nat.mod_eq_of_lt (by omega), e]
  exact wrap_i64 (by omega) (by omega)
theorem shl_8 {a : Nat} (ha : a < 256) : bshl .i64 (a : Int) 8 = ((256 * a : Nat) : Int) := by
  unfold bshl
  have : min (8 : Int).toNat IntKind.i64.bits = 8 := by decide
  rw [this, wrap_i64 (by omega) (by omega)]
  omega
theorem r_idx_Int (M : Mem) (a : Option Addr) (c : Nat) (xs : List ty_Int.D) (h : Rep (.sl ty_Int) M [.slice a xs.length c] xs) (hn : xs.length ≤ 9223372036854775807) (f : FuncId) (cap : List V) (p : Int → Bool)
    (hp : ∀ i (hi : i < xs.length), aCall T0 f (.int .i64 xs[i] :: cap) M = some (.bool (p xs[i]), M)) (i : Nat) (hi : i < xs.length) (hq : p xs[i] = false) :
    lp (aCall T0) K_slices_IndexFunc_int_int_0 L_slices_IndexFunc_int_int_0 [.slice a xs.length c, .func (.func f) #[] cap.toArray, und, und, und, und, und, .int .i64 xs.length, .int .i64 i, und, und, und, und, und, und, und, und, und, und] M =
    lp (aCall T0) K_slices_IndexFunc_int_int_0 L_slices_IndexFunc_int_int_0 [.slice a xs.length c, .func (.func f) #[] cap.toArray, und, und, und, und, und, .int .i64 xs.length, .int .i64 (i + 1 : Nat), und, und, und, und, und, und, und, und, und, und] M := by
  obtain ⟨l, o, rfl, hrep, hrd⟩ := at_Int h hi
  have ec := hp i hi
  have e6 : IntKind.i64.wrap ((i : Int) + 1) = i + 1 := wrap_i64 (by omega) (by omega)
  rw [S_slices_IndexFunc_int_int_0]; unfold B_slices_IndexFunc_int_int_0; simp [hrd, ec, e6, hi, hq]
theorem x_idx_Int (M : Mem) (a : Option Addr) (c : Nat) (xs : List ty_Int.D) (h : Rep (.sl ty_Int) M [.slice a xs.length c] xs) (f : FuncId) (cap : List V) (p : Int → Bool)
    (hp : ∀ i (hi : i < xs.length), aCall T0 f (.int .i64 xs[i] :: cap) M = some (.bool (p xs[i]), M)) (i : Nat) (hi : i < xs.length) (hq : p xs[i] = true) (k : ACode) :
    thenF M [.tmp 4] (thenS (blockR 0 (lp (aCall T0) K_slices_IndexFunc_int_int_0 L_slices_IndexFunc_int_int_0 [.slice a xs.length c, .func (.func f) #[] cap.toArray, und, und, und, und, und, .int .i64 xs.length, .int .i64 i, und, und, und, und, und, und, und, und, und, und] M)) (aCall T0) k) = some (.int .i64 i, M) := by
  obtain ⟨l, o, rfl, hrep, hrd⟩ := at_Int h hi
  have ec := hp i hi
  rw [S_slices_IndexFunc_int_int_0]; unfold B_slices_IndexFunc_int_int_0; simp [hrd, ec, hi, hq]
theorem c_idx_Int (M : Mem) (v : V) (xs : List ty_Int.D) (h : Rep (.sl ty_Int) M [v] xs) (hn : xs.length ≤ 9223372036854775807) (f : FuncId) (cap : List V) (p : Int → Bool)
    (hp : ∀ i (hi : i < xs.length), aCall T0 f (.int .i64 xs[i] :: cap) M = some (.bool (p xs[i]), M)) :
    aCall T0 F_slices_IndexFunc_int_int [v, .func (.func f) #[] cap.toArray] M = some (.int .i64 (idx p xs), M) := by
  obtain ⟨a, c, rfl⟩ := h.slen
  rcases idx_cases p xs with ⟨ha, h1⟩ | ⟨j, hj, ha, h1, h2⟩
  · have hc := chain (g := fun i : Nat => lp (aCall T0) K_slices_IndexFunc_int_int_0 L_slices_IndexFunc_int_int_0 [.slice a xs.length c, .func (.func f) #[] cap.toArray, und, und, und, und, und, .int .i64 xs.length, .int .i64 i, und, und, und, und, und, und, und, und, und, und] M) (n := xs.length) fun i hi => r_idx_Int M a c xs h hn f cap p hp i hi (h1 i hi)
    simp only [Int.natCast_zero, Int.ofNat_zero] at hc
    rw [ha]
    rw [aCall_eq T_slices_IndexFunc_int_int]; unfold A_slices_IndexFunc_int_int C_slices_IndexFunc_int_int; simp [hc]
    rw [S_slices_IndexFunc_int_int_0]; unfold B_slices_IndexFunc_int_int_0; simp
  · have hc := chain (g := fun i : Nat => lp (aCall T0) K_slices_IndexFunc_int_int_0 L_slices_IndexFunc_int_int_0 [.slice a xs.length c, .func (.func f) #[] cap.toArray, und, und, und, und, und, .int .i64 xs.length, .int .i64 i, und, und, und, und, und, und, und, und, und, und] M) (n := j) fun i hi => r_idx_Int M a c xs h hn f cap p hp i (by omega) (h1 i (by omega) hi)
    simp only [Int.natCast_zero, Int.ofNat_zero] at hc
    rw [ha]
    rw [aCall_eq T_slices_IndexFunc_int_int]; unfold A_slices_IndexFunc_int_int C_slices_IndexFunc_int_int; simp [hc, x_idx_Int M a c xs h f cap p hp j hj h2]
theorem c_any_Int (M : Mem) (v : V) (xs : List ty_Int.D) (h : Rep (.sl ty_Int) M [v] xs) (hn : xs.length ≤ 9223372036854775807) (f : FuncId) (cap : List V) (p : Int → Bool)
    (hp : ∀ i (hi : i < xs.length), aCall T0 f (.int .i64 xs[i] :: cap) M = some (.bool (p xs[i]), M)) :
    aCall T0 F_slices_ContainsFunc_int_int [v, .func (.func f) #[] cap.toArray] M = some (.bool (xs.any p), M) := by
  have h1 := c_idx_Int M v xs h hn f cap p hp
  have h2 := idx_any p xs
  rw [← h2]
  rw [aCall_eq T_slices_ContainsFunc_int_int]; unfold A_slices_ContainsFunc_int_int C_slices_ContainsFunc_int_int; simp [h1]
theorem gc_boolp {M M' : Mem} (hp : M <+: M') (b : Bool) : gc M (some (.bool b, M')) = some (.bool b, M) := by
  obtain ⟨N, rfl⟩ := hp
  exact gc_bool M N b
theorem r_impl_isWord (M : Mem) (w : List UInt8) (hw : w.length ≤ 9223372036854775807) (i : Nat) (hi : i < w.length) (hb : okByte w[i] = true) :
    lp (aCall T0) K_impl_isWord_0 L_impl_isWord_0 [strV w, und, und, und, und, .int .i64 w.length, .int .i64 i, und, und, und, und, und, und, und, und, und, und, und, und, und, und, und, und] M = lp (aCall T0) K_impl_isWord_0 L_impl_isWord_0 [strV w, und, und, und, und, .int .i64 w.length, .int .i64 (i + 1 : Nat), und, und, und, und, und, und, und, und, und, und, und, und, und, und, und, und] M := by
  obtain ⟨h1, h2⟩ := okByte_t hb
  rw [S_impl_isWord_0]; unfold B_impl_isWord_0; simp [hi, byteV, h1, h2]
  rw [wrap_i64 (by omega) (by omega)]
theorem x_impl_isWord (M : Mem) (w : List UInt8) (hw : w.length ≤ 9223372036854775807) (i : Nat) (hi : i < w.length) (hb : okByte w[i] = false) (k : ACode) :
    thenF M [.tmp 2] (thenS (blockR 0 (lp (aCall T0) K_impl_isWord_0 L_impl_isWord_0 [strV w, und, und, und, und, .int .i64 w.length, .int .i64 i, und, und, und, und, und, und, und, und, und, und, und, und, und, und, und, und] M)) (aCall T0) k) = some (.bool false, M) := by
  rcases okByte_f hb with h1 | ⟨h1, h2⟩
  · rw [S_impl_isWord_0]; unfold B_impl_isWord_0; simp [hi, byteV, h1]
  · rw [S_impl_isWord_0]; unfold B_impl_isWord_0; simp [hi, byteV, h1, h2]
theorem c_impl_isWord (M : Mem) (w : List UInt8) (hw : w.length ≤ 9223372036854775807) : aCall T0 F_impl_isWord [strV w] M = some (.bool (wordB w), M) := by
  unfold wordB
  rcases first_byte w with ha | ⟨ha, j, hj, h1, h2⟩
  · have hl := chain (g := fun i : Nat => lp (aCall T0) K_impl_isWord_0 L_impl_isWord_0 [strV w, und, und, und, und, .int .i64 w.length, .int .i64 i, und, und, und, und, und, und, und, und, und, und, und, und, und, und, und, und] M) (n := w.length) fun i hi => r_impl_isWord M w hw i hi (List.all_eq_true.1 ha _ (List.getElem_mem hi))
    simp only [Int.natCast_zero, Int.ofNat_zero] at hl
    rw [ha]
    rw [aCall_eq T_impl_isWord]; unfold A_impl_isWord C_impl_isWord; simp [hl]
    rw [S_impl_isWord_0]; unfold B_impl_isWord_0; simp [c_impl_within]
  · have hl := chain (g := fun i : Nat => lp (aCall T0) K_impl_isWord_0 L_impl_isWord_0 [strV w, und, und, und, und, .int .i64 w.length, .int .i64 i, und, und, und, und, und, und, und, und, und, und, und, und, und, und, und, und] M) (n := j) fun i hi => r_impl_isWord M w hw i (by omega) (h1 i (by omega) hi)
    simp only [Int.natCast_zero, Int.ofNat_zero] at hl
    rw [ha]
    rw [aCall_eq T_impl_isWord]; unfold A_impl_isWord C_impl_isWord; simp [hl, x_impl_isWord M w hw j hj h2]
theorem c_impl_isRec (M : Mem) (r : ty_Rec.D) (hw : r.2.2.2.length ≤ 9223372036854775807) : aCall T0 F_impl_isRec [.agg (enc_Rec r).toArray] M = some (.bool (recB r), M) := by
  unfold recB
  have h2 := fun M => c_impl_isWord M r.2.2.2 hw
  cases he : decide (r = zRec) with
  | true =>
    have h3 := eq_rec r
    rw [he] at h3
    rw [aCall_eq T_impl_isRec]; unfold A_impl_isRec C_impl_isRec; simp [h3]
  | false =>
    have h3 := eq_rec r
    rw [he] at h3
    rw [aCall_eq T_impl_isRec]; unfold A_impl_isRec C_impl_isRec; simp [h3, h2, c_impl_within]
    repeat' ((first | rw [selO_some] | rw [condR_bool] | rw [selD_some]); split <;> rename_i hq <;> (have hq2 := hq) <;> (try simp at hq2) <;> (try simp [*, h2, c_impl_within]))
theorem less_irr : ∀ a : List UInt8, Op.bytesLess a a = false
  | [] => rfl
  | x :: a => by
    rw [Op.bytesLess, less_irr a]
    simp
theorem c_cmp_isNaN_string (M : Mem) (a : List UInt8) : aCall T0 F_cmp_isNaN_string [strV a] M = some (.bool false, M) := by
  rw [aCall_eq T_cmp_isNaN_string]; unfold A_cmp_isNaN_string C_cmp_isNaN_string; simp
theorem c_cmp_Compare_string (M : Mem) (a b : List UInt8) : aCall T0 F_cmp_Compare_string [strV a, strV b] M = some (.int .i64 (cmpW a b), M) := by
  unfold cmpW
  cases h : Op.bytesLess a b with
  | true => rw [aCall_eq T_cmp_Compare_string]; unfold A_cmp_Compare_string C_cmp_Compare_string; simp [c_cmp_isNaN_string, h]
  | false => cases h2 : Op.bytesLess b a with
    | true =>
      have hne : ¬ a = b := by
        intro e
        rw [e, less_irr] at h2
        cases h2
      rw [aCall_eq T_cmp_Compare_string]; unfold A_cmp_Compare_string C_cmp_Compare_string; simp [c_cmp_isNaN_string, h, hne]
    | false =>
      have he : a = b := cmpW_zero (by simp [cmpW, h, h2])
      subst he
      rw [aCall_eq T_cmp_Compare_string]; unfold A_cmp_Compare_string C_cmp_Compare_string; simp [c_cmp_isNaN_string, h]
theorem c_cmp_isNaN_int (M : Mem) (a : Int) : aCall T0 F_cmp_isNaN_int [.int .i64 a] M = some (.bool false, M) := by
  rw [aCall_eq T_cmp_isNaN_int]; unfold A_cmp_isNaN_int C_cmp_isNaN_int; simp
theorem c_cmp_Compare_int (M : Mem) (a b : Int) : aCall T0 F_cmp_Compare_int [.int .i64 a, .int .i64 b] M = some (.int .i64 (cmpI a b), M) := by
  unfold cmpI
  by_cases h : a < b
  · rw [aCall_eq T_cmp_Compare_int]; unfold A_cmp_Compare_int C_cmp_Compare_int; simp [c_cmp_isNaN_int, h]
  · by_cases h2 : b < a
    · rw [aCall_eq T_cmp_Compare_int]; unfold A_cmp_Compare_int C_cmp_Compare_int; simp [c_cmp_isNaN_int, h, h2]
    · rw [aCall_eq T_cmp_Compare_int]; unfold A_cmp_Compare_int C_cmp_Compare_int; simp [c_cmp_isNaN_int, h, h2]
theorem c_cmp_Or_int (M : Mem) (a b c : Int) : aCall T0 F_cmp_Or_int [.slice (some ⟨M.length, 0, none⟩) 3 3] (M ++ [⟨[.int .i64 a, .int .i64 b, .int .i64 c], 1, 2⟩]) = some (.int .i64 (orI a b c), M ++ [⟨[.int .i64 a, .int .i64 b, .int .i64 c], 1, 2⟩]) := by
  have e0 : IntKind.i64.wrap 1 = 1 := by decide
  have e1 : IntKind.i64.wrap 2 = 2 := by decide
  have e2 : IntKind.i64.wrap 3 = 3 := by decide
  unfold orI
  by_cases h : a = 0
  · by_cases h2 : b = 0
    · by_cases h3 : c = 0
      · rw [aCall_eq T_cmp_Or_int]; unfold A_cmp_Or_int C_cmp_Or_int; simp
        rw [S_cmp_Or_int_0]; unfold B_cmp_Or_int_0; simp [h, e0]
        rw [S_cmp_Or_int_0]; unfold B_cmp_Or_int_0; simp [h2, e1]
        rw [S_cmp_Or_int_0]; unfold B_cmp_Or_int_0; simp [h3, e2]
        rw [S_cmp_Or_int_0]; unfold B_cmp_Or_int_0; simp [h, h2, h3]
      · rw [aCall_eq T_cmp_Or_int]; unfold A_cmp_Or_int C_cmp_Or_int; simp
        rw [S_cmp_Or_int_0]; unfold B_cmp_Or_int_0; simp [h, e0]
        rw [S_cmp_Or_int_0]; unfold B_cmp_Or_int_0; simp [h2, e1]
        rw [S_cmp_Or_int_0]; unfold B_cmp_Or_int_0; simp [h, h2, h3, e2]
    · rw [aCall_eq T_cmp_Or_int]; unfold A_cmp_Or_int C_cmp_Or_int; simp
      rw [S_cmp_Or_int_0]; unfold B_cmp_Or_int_0; simp [h, e0]
      rw [S_cmp_Or_int_0]; unfold B_cmp_Or_int_0; simp [h, h2, e1]
  · rw [aCall_eq T_cmp_Or_int]; unfold A_cmp_Or_int C_cmp_Or_int; simp
    rw [S_cmp_Or_int_0]; unfold B_cmp_Or_int_0; simp [h, e0]
theorem c_impl_isAhead (M : Mem) (a b : ty_Rec.D) : aCall T0 F_impl_isAhead [.agg (enc_Rec a).toArray, .agg (enc_Rec b).toArray] M = some (.bool (aheadB a b), M) := by
  unfold aheadB
  obtain ⟨a1, a2, a3, a4⟩ := a
  obtain ⟨b1, b2, b3, b4⟩ := b
  have s1 := fun M => c_cmp_Compare_int M a2 b2
  have s2 := fun M => c_cmp_Compare_int M b3 a3
  have s3 := fun M => c_cmp_Compare_string M a4 b4
  cases a1
  · cases b1
    · rw [aCall_eq T_impl_isAhead]; unfold A_impl_isAhead C_impl_isAhead; simp
    · rw [aCall_eq T_impl_isAhead]; unfold A_impl_isAhead C_impl_isAhead; simp
  · cases b1
    · rw [aCall_eq T_impl_isAhead]; unfold A_impl_isAhead C_impl_isAhead; simp
    · simp only [and_self, if_true]
      have s4 := c_cmp_Or_int (M ++ [⟨enc_Rec (true, a2, a3, a4), 1, 2⟩, ⟨enc_Rec (true, b2, b3, b4), 1, 2⟩]) (cmpI a2 b2) (cmpI b3 a3) (cmpW a4 b4)
      generalize cmpI a2 b2 = x1 at s1 s4 ⊢
      generalize cmpI b3 a3 = x2 at s2 s4 ⊢
      generalize cmpW a4 b4 = x3 at s3 s4 ⊢
      simp at s4
      rw [aCall_eq T_impl_isAhead]; unfold A_impl_isAhead C_impl_isAhead; simp [s1, s2, s3, s4, zeroCells, thenD_pre]
theorem r_idx_Rec (M : Mem) (a : Option Addr) (c : Nat) (xs : List ty_Rec.D) (h : Rep (.sl ty_Rec) M [.slice a xs.length c] xs) (hn : xs.length ≤ 9223372036854775807) (f : FuncId) (cap : List V) (p : ty_Rec.D → Bool)
    (hp : ∀ i (hi : i < xs.length), aCall T0 f (.agg (enc_Rec xs[i]).toArray :: cap) M = some (.bool (p xs[i]), M)) (i : Nat) (hi : i < xs.length) (hq : p xs[i] = false) :
    lp (aCall T0) K_slices_IndexFunc_impl_Rec_impl_Rec_0 L_slices_IndexFunc_impl_Rec_impl_Rec_0 [.slice a xs.length c, .func (.func f) #[] cap.toArray, und, und, und, und, und, .int .i64 xs.length, .int .i64 i, und, und, und, und, und, und, und, und, und, und] M =
    lp (aCall T0) K_slices_IndexFunc_impl_Rec_impl_Rec_0 L_slices_IndexFunc_impl_Rec_impl_Rec_0 [.slice a xs.length c, .func (.func f) #[] cap.toArray, und, und, und, und, und, .int .i64 xs.length, .int .i64 (i + 1 : Nat), und, und, und, und, und, und, und, und, und, und] M := by
  obtain ⟨l, o, rfl, hrep, hrd, _⟩ := at_Rec h hi
  have ec := hp i hi
  have e6 : IntKind.i64.wrap ((i : Int) + 1) = i + 1 := wrap_i64 (by omega) (by omega)
  rw [S_slices_IndexFunc_impl_Rec_impl_Rec_0]; unfold B_slices_IndexFunc_impl_Rec_impl_Rec_0; simp [hrd, ec, e6, hi, hq]
theorem x_idx_Rec (M : Mem) (a : Option Addr) (c : Nat) (xs : List ty_Rec.D) (h : Rep (.sl ty_Rec) M [.slice a xs.length c] xs) (f : FuncId) (cap : List V) (p : ty_Rec.D → Bool)
    (hp : ∀ i (hi : i < xs.length), aCall T0 f (.agg (enc_Rec xs[i]).toArray :: cap) M = some (.bool (p xs[i]), M)) (i : Nat) (hi : i < xs.length) (hq : p xs[i] = true) (k : ACode) :
    thenF M [.tmp 4] (thenS (blockR 0 (lp (aCall T0) K_slices_IndexFunc_impl_Rec_impl_Rec_0 L_slices_IndexFunc_impl_Rec_impl_Rec_0 [.slice a xs.length c, .func (.func f) #[] cap.toArray, und, und, und, und, und, .int .i64 xs.length, .int .i64 i, und, und, und, und, und, und, und, und, und, und] M)) (aCall T0) k) = some (.int .i64 i, M) := by
  obtain ⟨l, o, rfl, hrep, hrd, _⟩ := at_Rec h hi
  have ec := hp i hi
  rw [S_slices_IndexFunc_impl_Rec_impl_Rec_0]; unfold B_slices_IndexFunc_impl_Rec_impl_Rec_0; simp [hrd, ec, hi, hq]
theorem c_idx_Rec (M : Mem) (v : V) (xs : List ty_Rec.D) (h : Rep (.sl ty_Rec) M [v] xs) (hn : xs.length ≤ 9223372036854775807) (f : FuncId) (cap : List V) (p : ty_Rec.D → Bool)
    (hp : ∀ i (hi : i < xs.length), aCall T0 f (.agg (enc_Rec xs[i]).toArray :: cap) M = some (.bool (p xs[i]), M)) :
    aCall T0 F_slices_IndexFunc_impl_Rec_impl_Rec [v, .func (.func f) #[] cap.toArray] M = some (.int .i64 (idx p xs), M) := by
  obtain ⟨a, c, rfl⟩ := h.slen
  rcases idx_cases p xs with ⟨ha, h1⟩ | ⟨j, hj, ha, h1, h2⟩
  · have hc := chain (g := fun i : Nat => lp (aCall T0) K_slices_IndexFunc_impl_Rec_impl_Rec_0 L_slices_IndexFunc_impl_Rec_impl_Rec_0 [.slice a xs.length c, .func (.func f) #[] cap.toArray, und, und, und, und, und, .int .i64 xs.length, .int .i64 i, und, und, und, und, und, und, und, und, und, und] M) (n := xs.length) fun i hi => r_idx_Rec M a c xs h hn f cap p hp i hi (h1 i hi)
    simp only [Int.natCast_zero, Int.ofNat_zero] at hc
    rw [ha]
    rw [aCall_eq T_slices_IndexFunc_impl_Rec_impl_Rec]; unfold A_slices_IndexFunc_impl_Rec_impl_Rec C_slices_IndexFunc_impl_Rec_impl_Rec; simp [hc]
    rw [S_slices_IndexFunc_impl_Rec_impl_Rec_0]; unfold B_slices_IndexFunc_impl_Rec_impl_Rec_0; simp
  · have hc := chain (g := fun i : Nat => lp (aCall T0) K_slices_IndexFunc_impl_Rec_impl_Rec_0 L_slices_IndexFunc_impl_Rec_impl_Rec_0 [.slice a xs.length c, .func (.func f) #[] cap.toArray, und, und, und, und, und, .int .i64 xs.length, .int .i64 i, und, und, und, und, und, und, und, und, und, und] M) (n := j) fun i hi => r_idx_Rec M a c xs h hn f cap p hp i (by omega) (h1 i (by omega) hi)
    simp only [Int.natCast_zero, Int.ofNat_zero] at hc
    rw [ha]
    rw [aCall_eq T_slices_IndexFunc_impl_Rec_impl_Rec]; unfold A_slices_IndexFunc_impl_Rec_impl_Rec C_slices_IndexFunc_impl_Rec_impl_Rec; simp [hc, x_idx_Rec M a c xs h f cap p hp j hj h2]
theorem c_any_Rec (M : Mem) (v : V) (xs : List ty_Rec.D) (h : Rep (.sl ty_Rec) M [v] xs) (hn : xs.length ≤ 9223372036854775807) (f : FuncId) (cap : List V) (p : ty_Rec.D → Bool)
    (hp : ∀ i (hi : i < xs.length), aCall T0 f (.agg (enc_Rec xs[i]).toArray :: cap) M = some (.bool (p xs[i]), M)) :
    aCall T0 F_slices_ContainsFunc_impl_Rec_impl_Rec [v, .func (.func f) #[] cap.toArray] M = some (.bool (xs.any p), M) := by
  have h1 := c_idx_Rec M v xs h hn f cap p hp
  have h2 := idx_any p xs
  rw [← h2]
  rw [aCall_eq T_slices_ContainsFunc_impl_Rec_impl_Rec]; unfold A_slices_ContainsFunc_impl_Rec_impl_Rec C_slices_ContainsFunc_impl_Rec_impl_Rec; simp [h1]
theorem rep_take {t : Ty} {M : Mem} {l o n c : Nat} {xs : List t.D} (h : Rep (.sl t) M [.slice (some ⟨l, o, none⟩) n c] xs) (k : Nat) (hk : k ≤ xs.length) (c2 : Nat) : Rep (.sl t) M [.slice (some ⟨l, o, none⟩) k c2] (xs.take k) := by
  rcases h with ⟨e, rfl⟩ | ⟨l', o', c', blk, css, e, h2, h3, h4, h5, h6, h7⟩
  · simp at e
  · simp only [List.cons.injEq, Value.slice.injEq, Option.some.injEq, Addr.mk.injEq, and_true] at e
    obtain ⟨⟨rfl, rfl⟩, rfl, rfl⟩ := e
    refine .inr ⟨l, o, c2, blk, css.take k, ?_, h2, ?_, h4, ?_, ?_, ?_⟩
    · rw [List.length_take, Nat.min_eq_left hk]
    · rcases h3 with h3 | h3 | h3
      · exact .inl h3
      · exact .inr (.inl h3)
      · exact .inr (.inr (by subst h3; simp))
    · rw [List.length_take, List.length_take, h5]
    · intro i ds x hd hx
      rw [List.getElem?_take] at hd hx
      split at hd
      · rename_i hik
        rw [if_pos hik] at hx
        exact h6 _ _ _ hd hx
      · cases hd
    · have : (css.take k).flatten <+: css.flatten := by
        conv => rhs; rw [← List.take_append_drop k css, List.flatten_append]
        exact List.prefix_append _ _
      exact this.trans h7
theorem c_impl_isTop_1 (M : Mem) (r : ty_Rec.D) (p : Nat) (w : List UInt8) (hp : rd1 M p 3 = some (strV w)) : aCall T0 F_impl_isTop_1 [.agg (enc_Rec r).toArray, .pointer (some ⟨p, 0, none⟩)] M = some (.bool (decide (r.2.2.2 = w)), M) := by
  have h2 : ∀ N, rd1 (M ++ N) p 3 = some (strV w) := fun N => rd1_old hp
  rw [aCall_eq T_impl_isTop_1]; unfold A_impl_isTop_1 C_impl_isTop_1; simp [h2]
theorem x_impl_isTop (M0 M : Mem) (hM : M0 <+: M) (a : Option Addr) (c : Nat) (xs : List ty_Rec.D) (h : Rep (.sl ty_Rec) M0 [.slice a xs.length c] xs) (hn : xs.length ≤ 1048576) (hf : ∀ x ∈ xs, x.2.2.2.length ≤ 9223372036854775807) (i : Nat) (hi : i < xs.length) (hq : okT xs i = false) (K : ACode) :
    thenF M0 [.tmp 2] (thenS (blockR 0 (lp (aCall T0) K_impl_isTop_0 L_impl_isTop_0 [.slice a xs.length c, und, und, und, und, .slice a xs.length c, .int .i64 xs.length, .int .i64 i, und, und, und, und, und, und, und, und, und, und, und, und, und, und, und, und, und, und, und, und, und, und, und, und, und, und, und, und, und, und, und, und, und, und, und, und, und, und] M)) (aCall T0) K) = some (.bool false, M0) := by
  have hA : M <+: M ++ [(⟨enc_Rec xs[i], 1, 2⟩ : Blk)] := List.prefix_append _ _
  have gb := fun b => gc_boolp (hM.trans hA) b
  have h1 := h.mono (hM.trans hA)
  have h2 := h.mono hM
  obtain ⟨l, o, e1, hrep, hrd, hfs⟩ := at_Rec h1 hi
  obtain ⟨l2, o2, e2, _, hrd2, _⟩ := at_Rec h2 hi
  subst e1
  simp at e2
  obtain ⟨rfl, rfl⟩ := e2
  rw [okT_get xs i hi] at hq
  have s1 := c_impl_isRec (M ++ [(⟨enc_Rec xs[i], 1, 2⟩ : Blk)]) xs[i] (hf _ (List.getElem_mem hi))
  cases k1 : recB xs[i] with
  | false =>
    rw [k1] at s1
    rw [S_impl_isTop_0]; unfold B_impl_isTop_0; simp [hi, hrd2, s1, gb]
  | true =>
  rw [k1] at s1
  by_cases k2 : (xs[i].2.1 : Int) ≤ 3
  rotate_left
  · have k2' : 3 < (xs[i].2.1 : Int) := Int.not_le.1 k2
    rw [S_impl_isTop_0]; unfold B_impl_isTop_0; simp [hi, hrd2, s1, k2', gb]
  have k2' : ¬ 3 < (xs[i].2.1 : Int) := Int.not_lt.2 k2
  rw [k1, decide_eq_true k2] at hq
  obtain ⟨blk, hb, hbw, _⟩ := rep_blk h1
  have hbw : blk.w = 4 := hbw
  have hle : i ≤ xs.length := by omega
  have ht := rep_take h1 i (by omega) (max xs.length c)
  have ha := c_any_Rec _ _ (xs.take i) ht (by rw [List.length_take]; omega) F_impl_isTop_1 [.pointer (some ⟨M.length, 0, none⟩)] (fun p => decide (p.2.2.2 = xs[i].2.2.2)) (fun j hj => c_impl_isTop_1 _ _ M.length _ (by simp))
  by_cases h0 : i = 0
  · subst h0
    simp at hq
  · obtain ⟨l3, o3, e3, _, hrd3, _⟩ := at_Rec h1 (show i - 1 < xs.length by omega)
    simp at e3
    obtain ⟨rfl, rfl⟩ := e3
    have g0 : 0 < (i : Int) := by omega
    have g2 : 0 < i := by omega
    have g1 : IntKind.i64.wrap ((i : Int) - 1) = ((i - 1 : Nat) : Int) := by rw [wrap_i64 (by omega) (by omega)]; omega
    have hi1 : i - 1 < xs.length := by omega
    have s2 := c_impl_isAhead (M ++ [(⟨enc_Rec xs[i], 1, 2⟩ : Blk)]) xs[i] (xs[i - 1]'hi1)
    rw [decide_eq_false h0] at hq
    cases ka : aheadB xs[i] (xs[i - 1]'hi1) with
    | true =>
      rw [ka] at s2
      rw [S_impl_isTop_0]; unfold B_impl_isTop_0; simp [hi, hrd2, s1, k2', g0, g2, g1, hi1, hrd3, s2, gb]
    | false =>
      rw [ka] at s2 hq
      simp only [Bool.not_false, Bool.or_true, Bool.and_true, Bool.true_and, Bool.not_eq_false', Bool.and_eq_true] at hq
      obtain ⟨hl, hany⟩ := hq
      rw [hany] at ha
      rw [S_impl_isTop_0]; unfold B_impl_isTop_0; simp [hi, hrd2, s1, k2', g0, g2, g1, hi1, hrd3, s2]
      simp [hl, hb, hbw, hle, ha, gb]
theorem r_impl_isTop (M0 M : Mem) (hM : M0 <+: M) (a : Option Addr) (c : Nat) (xs : List ty_Rec.D) (h : Rep (.sl ty_Rec) M0 [.slice a xs.length c] xs) (hn : xs.length ≤ 1048576) (hf : ∀ x ∈ xs, x.2.2.2.length ≤ 9223372036854775807) (i : Nat) (hi : i < xs.length) (hq : okT xs i = true) :
    ∃ M', M0 <+: M' ∧ lp (aCall T0) K_impl_isTop_0 L_impl_isTop_0 [.slice a xs.length c, und, und, und, und, .slice a xs.length c, .int .i64 xs.length, .int .i64 i, und, und, und, und, und, und, und, und, und, und, und, und, und, und, und, und, und, und, und, und, und, und, und, und, und, und, und, und, und, und, und, und, und, und, und, und, und, und] M = lp (aCall T0) K_impl_isTop_0 L_impl_isTop_0 [.slice a xs.length c, und, und, und, und, .slice a xs.length c, .int .i64 xs.length, .int .i64 (i + 1 : Nat), und, und, und, und, und, und, und, und, und, und, und, und, und, und, und, und, und, und, und, und, und, und, und, und, und, und, und, und, und, und, und, und, und, und, und, und, und, und] M' := by
  have hA : M <+: M ++ [(⟨enc_Rec xs[i], 1, 2⟩ : Blk)] := List.prefix_append _ _
  refine ⟨M ++ [(⟨enc_Rec xs[i], 1, 2⟩ : Blk)], hM.trans hA, ?_⟩
  have h1 := h.mono (hM.trans hA)
  have h2 := h.mono hM
  obtain ⟨l, o, e1, hrep, hrd, hfs⟩ := at_Rec h1 hi
  obtain ⟨l2, o2, e2, _, hrd2, _⟩ := at_Rec h2 hi
  subst e1
  simp at e2
  obtain ⟨rfl, rfl⟩ := e2
  obtain ⟨k1, k2, k3, k4⟩ := okT_parts hi hq
  have e6 : IntKind.i64.wrap ((i : Int) + 1) = i + 1 := wrap_i64 (by omega) (by omega)
  have s1 := c_impl_isRec (M ++ [(⟨enc_Rec xs[i], 1, 2⟩ : Blk)]) xs[i] (hf _ (List.getElem_mem hi))
  rw [k1] at s1
  have k2' : ¬ 3 < (xs[i].2.1 : Int) := Int.not_lt.2 k2
  obtain ⟨blk, hb, hbw, _⟩ := rep_blk h1
  have hbw : blk.w = 4 := hbw
  have hle : i ≤ xs.length := by omega
  have ht := rep_take h1 i (by omega) (max xs.length c)
  have ha := c_any_Rec _ _ (xs.take i) ht (by rw [List.length_take]; omega) F_impl_isTop_1 [.pointer (some ⟨M.length, 0, none⟩)] (fun p => decide (p.2.2.2 = xs[i].2.2.2)) (fun j hj => c_impl_isTop_1 _ _ M.length _ (by simp))
  have hany : (xs[i].1 = true) → ((xs.take i).any fun p => decide (p.2.2.2 = xs[i].2.2.2)) = false := by
    intro hl
    rw [List.any_eq_false]
    intro x hx
    obtain ⟨j, hj, rfl⟩ := List.mem_take_iff_getElem.1 hx
    have := k4 hl j (by omega) (by omega)
    simp [this]
  by_cases h0 : i = 0
  · have g0 : ¬ 0 < (i : Int) := by omega
    have g1 : ¬ 0 < i := by omega
    cases hl : xs[i].1 with
    | false =>
      rw [S_impl_isTop_0]; unfold B_impl_isTop_0; simp [hi, hrd2, s1, k2', g0, g1, e6]
      simp [hl, e6]
    | true =>
      rw [hany hl] at ha
      rw [S_impl_isTop_0]; unfold B_impl_isTop_0; simp [hi, hrd2, s1, k2', g0, g1, e6]
      simp [hl, hb, hbw, hle, ha, e6]
  · obtain ⟨l3, o3, e3, _, hrd3, _⟩ := at_Rec h1 (show i - 1 < xs.length by omega)
    simp at e3
    obtain ⟨rfl, rfl⟩ := e3
    have g0 : 0 < (i : Int) := by omega
    have g2 : 0 < i := by omega
    have g1 : IntKind.i64.wrap ((i : Int) - 1) = ((i - 1 : Nat) : Int) := by rw [wrap_i64 (by omega) (by omega)]; omega
    have hi1 : i - 1 < xs.length := by omega
    have s2 := c_impl_isAhead (M ++ [(⟨enc_Rec xs[i], 1, 2⟩ : Blk)]) xs[i] (xs[i - 1]'hi1)
    rw [k3 g2] at s2
    cases hl : xs[i].1 with
    | false =>
      rw [S_impl_isTop_0]; unfold B_impl_isTop_0; simp [hi, hrd2, s1, k2', g0, g2, g1, hi1, hrd3, s2, e6]
      simp [hl, e6]
    | true =>
      rw [hany hl] at ha
      rw [S_impl_isTop_0]; unfold B_impl_isTop_0; simp [hi, hrd2, s1, k2', g0, g2, g1, hi1, hrd3, s2, e6]
      simp [hl, hb, hbw, hle, ha, e6]
theorem l_impl_isTop (M0 : Mem) (a : Option Addr) (c : Nat) (xs : List ty_Rec.D) (h : Rep (.sl ty_Rec) M0 [.slice a xs.length c] xs) (hn : xs.length ≤ 1048576) (hf : ∀ x ∈ xs, x.2.2.2.length ≤ 9223372036854775807) (n : Nat) (hnx : n ≤ xs.length) (hg : ∀ i, i < n → okT xs i = true) :
    ∀ (j i : Nat) (M : Mem), i + j = n → M0 <+: M → ∃ M', M0 <+: M' ∧ lp (aCall T0) K_impl_isTop_0 L_impl_isTop_0 [.slice a xs.length c, und, und, und, und, .slice a xs.length c, .int .i64 xs.length, .int .i64 i, und, und, und, und, und, und, und, und, und, und, und, und, und, und, und, und, und, und, und, und, und, und, und, und, und, und, und, und, und, und, und, und, und, und, und, und, und, und] M = lp (aCall T0) K_impl_isTop_0 L_impl_isTop_0 [.slice a xs.length c, und, und, und, und, .slice a xs.length c, .int .i64 xs.length, .int .i64 n, und, und, und, und, und, und, und, und, und, und, und, und, und, und, und, und, und, und, und, und, und, und, und, und, und, und, und, und, und, und, und, und, und, und, und, und, und, und] M'
  | 0, i, M, hi, hM => by
    have e : i = n := by omega
    subst e
    exact ⟨M, hM, rfl⟩
  | j + 1, i, M, hi, hM => by
    obtain ⟨M', q1, q2⟩ := r_impl_isTop M0 M hM a c xs h hn hf i (by omega) (hg i (by omega))
    rw [q2]
    exact l_impl_isTop M0 a c xs h hn hf n hnx hg j (i + 1) M' (by omega) q1
theorem c_impl_isTop (M : Mem) (v : V) (xs : List ty_Rec.D) (h : Rep (.sl ty_Rec) M [v] xs) (hn : xs.length ≤ 1048576) (hf : ∀ x ∈ xs, x.2.2.2.length ≤ 9223372036854775807) : aCall T0 F_impl_isTop [v] M = some (.bool (topB xs), M) := by
  obtain ⟨a, c, rfl⟩ := h.slen
  unfold topB
  rcases first_bad (okT xs) xs.length with hg | ⟨j, hj, h1, h2⟩
  · obtain ⟨M', q1, q2⟩ := l_impl_isTop M a c xs h hn hf xs.length (Nat.le_refl _) hg xs.length 0 M (by omega) (List.prefix_refl _)
    simp only [Int.natCast_zero, Int.ofNat_zero] at q2
    have gb := fun b => gc_boolp q1 b
    rw [range_all hg]
    by_cases h8 : xs.length = 8
    · have h8' : (xs.length : Int) = 8 := by omega
      rw [aCall_eq T_impl_isTop]; unfold A_impl_isTop C_impl_isTop; simp [q2]
      rw [S_impl_isTop_0]; unfold B_impl_isTop_0; simp [h8', h8, gb]
    · have h8' : ¬ (xs.length : Int) = 8 := by omega
      rw [aCall_eq T_impl_isTop]; unfold A_impl_isTop C_impl_isTop; simp [q2]
      rw [S_impl_isTop_0]; unfold B_impl_isTop_0; simp [h8', h8, gb]
  · obtain ⟨M', q1, q2⟩ := l_impl_isTop M a c xs h hn hf j (by omega) h1 j 0 M (by omega) (List.prefix_refl _)
    simp only [Int.natCast_zero, Int.ofNat_zero] at q2
    rw [range_not hj h2]
    have x := x_impl_isTop M M' q1 a c xs h hn hf j hj h2
    rw [aCall_eq T_impl_isTop]; unfold A_impl_isTop C_impl_isTop; simp [q2, x]
theorem c_impl_isReply_1 (M : Mem) (n : Int) : aCall T0 F_impl_isReply_1 [.int .i64 n] M = some (.bool (!markOk n), M) := by
  unfold markOk
  rw [aCall_eq T_impl_isReply_1]; unfold A_impl_isReply_1 C_impl_isReply_1; simp [c_impl_within]
set_option maxHeartbeats 4000000 in
theorem c_impl_isReply (M : Mem) (kind slots k : Int) (f : Bool) (w : Int) (v u : V) (top : List ty_Rec.D) (marks : List Int) (h : Rep (.sl ty_Rec) M [v] top) (h2 : Rep (.sl ty_Int) M [u] marks) (hn : top.length ≤ 1048576) (hn2 : marks.length ≤ 1048576) (hf : ∀ x ∈ top, x.2.2.2.length ≤ 9223372036854775807) :
    aCall T0 F_impl_isReply [.int .i64 kind, .int .i64 slots, .agg (cY k f w v u).toArray] M = some (.bool (replyB kind slots k f w top marks), M) := by
  have s1 := fun M => c_impl_isShape M kind slots
  have s2 := c_impl_isTop (M ++ [⟨cY k f w v u, 1, 2⟩]) v top (h.mono (List.prefix_append _ _)) hn hf
  have s3 := c_any_Int (M ++ [⟨cY k f w v u, 1, 2⟩]) u marks (h2.mono (List.prefix_append _ _)) (by omega) F_impl_isReply_1 [] (fun n => !markOk n) (fun i hi => c_impl_isReply_1 _ _)
  have hm : (marks.any fun n => !markOk n) = !marks.all markOk := by
    rw [List.not_all_eq_any_not]
  rw [hm] at s3
  unfold replyB marksB
  generalize topB top = T at s2
  generalize marks.all markOk = A at s3
  obtain ⟨a, c, rfl⟩ := h.slen
  obtain ⟨b, d, rfl⟩ := h2.slen
  generalize top.length = n1 at s2 s3 ⊢
  generalize marks.length = n2 at s2 s3 ⊢
  clear hm h h2 hn hn2 hf
  cases hs : shapeB kind slots with
  | false =>
    simp only [hs] at s1
    rw [aCall_eq T_impl_isReply]; unfold A_impl_isReply C_impl_isReply; simp [s1]
  | true =>
  simp only [hs] at s1
  cases hk : (decide (0 ≤ k) && decide (k ≤ 8)) with
  | false => rw [aCall_eq T_impl_isReply]; unfold A_impl_isReply C_impl_isReply; simp [s1, c_impl_within, hk]
  | true =>
  by_cases k0 : k = 0
  · subst k0
    by_cases q1 : kind = 1
    · subst q1
      cases f with
      | false =>
        cases hw : (decide (0 ≤ w) && decide (w ≤ 65535))
        · rw [aCall_eq T_impl_isReply]; unfold A_impl_isReply C_impl_isReply; simp [s1, c_impl_within, hk, hw, s2, s3]
        · rw [aCall_eq T_impl_isReply]; unfold A_impl_isReply C_impl_isReply; simp [s1, c_impl_within, hk, hw, s2, s3]
          repeat' ((first | rw [selO_some] | rw [condR_bool] | rw [selD_some]); split <;> rename_i hq <;> (have hq2 := hq) <;> (try simp at hq2) <;> (try simp [*]))
      | true =>
        cases hw : (decide (0 ≤ w) && decide (w ≤ 65535))
        · rw [aCall_eq T_impl_isReply]; unfold A_impl_isReply C_impl_isReply; simp [s1, c_impl_within, hk, hw, s2, s3]
        · rw [aCall_eq T_impl_isReply]; unfold A_impl_isReply C_impl_isReply; simp [s1, c_impl_within, hk, hw, s2, s3]
          repeat' ((first | rw [selO_some] | rw [condR_bool] | rw [selD_some]); split <;> rename_i hq <;> (have hq2 := hq) <;> (try simp at hq2) <;> (try simp [*]))
    · by_cases q2 : kind = 2
      · subst q2
        cases f with
        | true => rw [aCall_eq T_impl_isReply]; unfold A_impl_isReply C_impl_isReply; simp [s1, c_impl_within, hk, s2, s3]
        | false =>
          rw [aCall_eq T_impl_isReply]; unfold A_impl_isReply C_impl_isReply; simp [s1, c_impl_within, hk, s2, s3]
          repeat' ((first | rw [selO_some] | rw [condR_bool] | rw [selD_some]); split <;> rename_i hq <;> (have hq2 := hq) <;> (try simp at hq2) <;> (try simp [*]))
      · by_cases q6 : kind = 6
        · subst q6
          by_cases hm : (n2 : Int) = slots
          · cases f with
            | true => rw [aCall_eq T_impl_isReply]; unfold A_impl_isReply C_impl_isReply; simp [s1, c_impl_within, hk, s2, s3, hm]
            | false =>
              rw [aCall_eq T_impl_isReply]; unfold A_impl_isReply C_impl_isReply; simp [s1, c_impl_within, hk, s2, s3, hm]
              repeat' ((first | rw [selO_some] | rw [condR_bool] | rw [selD_some]); split <;> rename_i hq <;> (have hq2 := hq) <;> (try simp at hq2) <;> (try simp [*]))
          · cases f with
            | true => rw [aCall_eq T_impl_isReply]; unfold A_impl_isReply C_impl_isReply; simp [s1, c_impl_within, hk, s2, s3, hm]
            | false =>
              rw [aCall_eq T_impl_isReply]; unfold A_impl_isReply C_impl_isReply; simp [s1, c_impl_within, hk, s2, s3, hm]
              repeat' ((first | rw [selO_some] | rw [condR_bool] | rw [selD_some]); split <;> rename_i hq <;> (have hq2 := hq) <;> (try simp at hq2) <;> (try simp [*]))
        · cases f with
          | true => rw [aCall_eq T_impl_isReply]; unfold A_impl_isReply C_impl_isReply; simp [s1, c_impl_within, hk, s2, s3, q1, q2, q6]
          | false =>
            rw [aCall_eq T_impl_isReply]; unfold A_impl_isReply C_impl_isReply; simp [s1, c_impl_within, hk, s2, s3, q1, q2, q6]
            repeat' ((first | rw [selO_some] | rw [condR_bool] | rw [selD_some]); split <;> rename_i hq <;> (have hq2 := hq) <;> (try simp at hq2) <;> (try simp [*]))
  · cases f with
    | true => rw [aCall_eq T_impl_isReply]; unfold A_impl_isReply C_impl_isReply; simp [s1, c_impl_within, hk, s2, s3, k0]
    | false =>
      rw [aCall_eq T_impl_isReply]; unfold A_impl_isReply C_impl_isReply; simp [s1, c_impl_within, hk, s2, s3, k0]
      repeat' ((first | rw [selO_some] | rw [condR_bool] | rw [selD_some]); split <;> rename_i hq <;> (have hq2 := hq) <;> (try simp at hq2) <;> (try simp [*]))
theorem wrap_u8_mod (n : Nat) : IntKind.u8.wrap (n : Int) = ((n % 256 : Nat) : Int) := by
  simp [IntKind.wrap, IntKind.min, IntKind.max, IntKind.signed, IntKind.bits]
theorem shr8 (w : Nat) : bshr .i64 (w : Int) 8 = ((w / 256 : Nat) : Int) := by
  unfold bshr
  have : min (8 : Int).toNat IntKind.i64.bits = 8 := by decide
  rw [this, Int.fdiv_eq_ediv_of_nonneg _ (by decide)]
  simp
theorem c_impl_pad (M : Mem) (w : List UInt8) (hw : w.length ≤ 9223372036854775807) : aCall T0 F_impl_pad [strV w] M = some (.slice (some ⟨M.length, 0, none⟩) 33 33, M ++ [padB w]) := by
  unfold padB
  cases hb : wordB w with
  | false => rw [padL_f hb]; rw [aCall_eq T_impl_pad]; unfold A_impl_pad C_impl_pad; simp [c_impl_isWord _ _ hw, hb]
  | true =>
    obtain ⟨h1, h2⟩ := wordB_len hb
    rw [padL_t hb]
    have e1 : min w.length 32 = w.length := by omega
    have e2 : w ≠ [] := by rintro rfl; simp at h1
    rw [aCall_eq T_impl_pad]; unfold A_impl_pad C_impl_pad; simp [c_impl_isWord _ _ hw, hb, e1, e2]
    (simp (disch := omega) only [wrap_i64, wrap_u64, wrap_u8, wrap_u32, if_pos, if_neg]; try simp)
theorem c_impl_recOf (M : Mem) (r : ty_Rec.D) (hr : recB r = true) : Sat (aCall T0 F_impl_recOf [.agg (enc_Rec r).toArray] M) (Bytes M (recT r)) := by
  obtain ⟨⟨d, hd, hd7⟩, ⟨w, hw, hw7⟩, hs⟩ := rec_bounds hr
  have g1 := c_impl_pad (M ++ [⟨enc_Rec r, 1, 2⟩]) r.2.2.2 (by omega)
  obtain ⟨q, hq⟩ : ∃ q, q = w / 256 := ⟨_, rfl⟩
  obtain ⟨p, hp⟩ : ∃ p, p = w % 256 := ⟨_, rfl⟩
  have e1 : IntKind.u8.wrap (d : Int) = d := wrap_u8 (by omega) (by omega)
  have e2 : IntKind.u8.wrap (q : Int) = q := wrap_u8 (by omega) (by omega)
  have e3 := wrap_u8_mod w
  have e4 := shr8 w
  have hpl := padL_len r.2.2.2
  have hal := map_byte_all (padL r.2.2.2)
  obtain ⟨r1, r2, r3, r4⟩ := r
  simp only at hd hw
  subst hd hw
  have hc := recT_cells r1 d w r4 hd7 hw7
  rw [← hq] at e4 hc
  rw [← hp] at e3 hc
  dsimp only at g1 hpl hal
  cases r1 with
  | true =>
    rw [aCall_eq T_impl_recOf]; unfold A_impl_recOf C_impl_recOf; simp [thenD_pp, sliceCells_sl, sliceCells_z, sliceCells_nil, take_full, appS_sl, appK_ok, appS_none, thenD_ag, agP_nil, agP_cons, g1, e1, e2, e3, e4, hpl, hal]
    exact sat_some (bytes_of rfl hc.symm (recT_len _))
  | false =>
    rw [aCall_eq T_impl_recOf]; unfold A_impl_recOf C_impl_recOf; simp [thenD_pp, sliceCells_sl, sliceCells_z, sliceCells_nil, take_full, appS_sl, appK_ok, appS_none, thenD_ag, agP_nil, agP_cons, g1, e1, e2, e3, e4, hpl, hal]
    exact sat_some (bytes_of rfl hc.symm (recT_len _))
theorem l_impl_replyOf_0 (M0 : Mem) (p : Nat) (a : Option Addr) (c : Nat) (top : List ty_Rec.D) (k s : V) (h : Rep (.sl ty_Rec) M0 [.slice a top.length c] top) (hok : ∀ r ∈ top, recB r = true) (hn : top.length ≤ 1000) (ys : List UInt8) (hy : ys.length ≤ 1000) (v : V) (X : Mem) (hX : BG M0 X v ys) :
    ∃ v' X', BG M0 X' v' (ys ++ recsT top) ∧ lp (aCall T0) K_impl_replyOf_0 L_impl_replyOf_0 [k, s, und, und, und, .pointer (some ⟨p, 0, none⟩), und, v, und, und, und, und, und, und, und, und, und, und, und, und, und, und, und, und, und, und, und, und, und, und, und, und, und, .slice a top.length c, .int .i64 top.length, .int .i64 (0 : Nat), und, und, und, und, und, und, und, und, und, und, und, und, und, und, und, und, und, und, und, und, und, und, und, und, und, und, und, und, und] X = lp (aCall T0) K_impl_replyOf_0 L_impl_replyOf_0 [k, s, und, und, und, .pointer (some ⟨p, 0, none⟩), und, v', und, und, und, und, und, und, und, und, und, und, und, und, und, und, und, und, und, und, und, und, und, und, und, und, und, .slice a top.length c, .int .i64 top.length, .int .i64 top.length, und, und, und, und, und, und, und, und, und, und, und, und, und, und, und, und, und, und, und, und, und, und, und, und, und, und, und, und, und] X' := by
  have := loop_to (call := aCall T0) (K := K_impl_replyOf_0) (L := L_impl_replyOf_0) (fun i v X => BG M0 X v (ys ++ recsT (top.take i))) (fun i v => [k, s, und, und, und, .pointer (some ⟨p, 0, none⟩), und, v, und, und, und, und, und, und, und, und, und, und, und, und, und, und, und, und, und, und, und, und, und, und, und, und, und, .slice a top.length c, .int .i64 top.length, .int .i64 i, und, und, und, und, und, und, und, und, und, und, und, und, und, und, und, und, und, und, und, und, und, und, und, und, und, und, und, und, und]) (n := top.length) ?_ 0 v X (by omega) (by simpa [recsT] using hX)
  · simpa using this
  intro i v X hi hX
  obtain ⟨l, o, rfl, hrep, hrd, _⟩ := at_Rec h hi
  obtain ⟨n, hn1, pX, gX⟩ := hX
  have hr := hok _ (List.getElem_mem hi)
  have e6 : IntKind.i64.wrap ((i : Int) + 1) = i + 1 := wrap_i64 (by omega) (by omega)
  have r2 := rn_pre pX hrd
  have hL := recsT_len (top.take i)
  rw [List.length_take, Nat.min_eq_left (by omega)] at hL
  have hle := hn1
  rw [List.length_append] at hle
  obtain ⟨_, rfl⟩ := gX.shape
  rw [S_impl_replyOf_0]; unfold B_impl_replyOf_0; simp [thenD_pp, sliceCells_sl, sliceCells_z, sliceCells_nil, take_full, appS_sl, appK_ok, appS_none, thenD_ag, agP_nil, agP_cons, hi, r2, e6]
  generalize hx : aCall T0 F_impl_recOf _ _ = xhx
  obtain ⟨v1, X1, rfl, b1⟩ := of_call hx (c_impl_recOf _ _ hr)
  clear hx
  obtain ⟨p1, ⟨_, rfl⟩, hc⟩ := Bytes.get b1 (recT_len _)
  obtain ⟨a1, a2⟩ := bg_app pX gX hn1 ((List.prefix_append _ _).trans p1) (recT_len top[i]) (by omega) (by omega)
  simp [thenD_pp, sliceCells_sl, sliceCells_z, sliceCells_nil, take_full, appS_sl, appK_ok, appS_none, thenD_ag, agP_nil, agP_cons, hi, hc, a1, e6]
  refine ⟨_, _, ?_, rfl⟩
  simp only [recsT_succ hi]
  simpa using a2 []
theorem l_impl_replyOf_1 (M0 : Mem) (a : Option Addr) (c : Nat) (xs : List Int) (k s : V) (h : Rep (.sl ty_Int) M0 [.slice a xs.length c] xs) (hok : ∀ n ∈ xs, markOk n = true) (hn : xs.length ≤ 1000) (ys : List UInt8) (hy : ys.length ≤ 100000) (v : V) (X : Mem) (hX : BG M0 X v ys) :
    ∃ v' X', BG M0 X' v' (ys ++ marksT xs) ∧ lp (aCall T0) K_impl_replyOf_1 L_impl_replyOf_1 [k, s, und, und, und, und, und, v, und, und, und, und, und, und, und, und, und, und, und, und, und, und, und, und, und, und, und, und, und, und, und, und, und, und, und, und, und, und, und, und, und, und, und, und, und, .slice a xs.length c, .int .i64 xs.length, .int .i64 (0 : Nat), und, und, und, und, und, und, und, und, und, und, und, und, und, und, und, und, und] X = lp (aCall T0) K_impl_replyOf_1 L_impl_replyOf_1 [k, s, und, und, und, und, und, v', und, und, und, und, und, und, und, und, und, und, und, und, und, und, und, und, und, und, und, und, und, und, und, und, und, und, und, und, und, und, und, und, und, und, und, und, und, .slice a xs.length c, .int .i64 xs.length, .int .i64 xs.length, und, und, und, und, und, und, und, und, und, und, und, und, und, und, und, und, und] X' := by
  have := loop_to (call := aCall T0) (K := K_impl_replyOf_1) (L := L_impl_replyOf_1) (fun i v X => BG M0 X v (ys ++ marksT (xs.take i))) (fun i v => [k, s, und, und, und, und, und, v, und, und, und, und, und, und, und, und, und, und, und, und, und, und, und, und, und, und, und, und, und, und, und, und, und, und, und, und, und, und, und, und, und, und, und, und, und, .slice a xs.length c, .int .i64 xs.length, .int .i64 i, und, und, und, und, und, und, und, und, und, und, und, und, und, und, und, und, und]) (n := xs.length) ?_ 0 v X (by omega) (by simpa [marksT] using hX)
  · simpa using this
  intro i v X hi hX
  obtain ⟨l, o, rfl, hrep, hrd⟩ := at_Int h hi
  obtain ⟨n, hn1, pX, gX⟩ := hX
  obtain ⟨b1, b2⟩ := mark_byte (hok _ (List.getElem_mem hi))
  have e6 : IntKind.i64.wrap ((i : Int) + 1) = i + 1 := wrap_i64 (by omega) (by omega)
  have r2 := r1_pre pX hrd
  have hL := marksT_len (xs.take i)
  rw [List.length_take, Nat.min_eq_left (by omega)] at hL
  have hle := hn1
  rw [List.length_append] at hle
  obtain ⟨_, rfl⟩ := gX.shape
  obtain ⟨a1, a2⟩ := bg_app (X1 := X ++ [⟨[.int .u8 xs[i]], 1, 2⟩]) (m := 1) (zs := [UInt8.ofNat (xs[i] : Int).toNat]) pX gX hn1 (List.prefix_append _ _) rfl (by omega) (by omega)
  simp only [List.map_cons, List.map_nil, b1] at a1
  rw [S_impl_replyOf_1]; unfold B_impl_replyOf_1; simp [thenD_pp, sliceCells_sl, sliceCells_z, sliceCells_nil, take_full, appS_sl, appK_ok, appS_none, thenD_ag, agP_nil, agP_cons, hi, r2, b2, e6, a1]
  refine ⟨_, _, ?_, rfl⟩
  simp only [marksT_succ hi]
  simpa [b1] using a2 []
theorem c_impl_replyOf (M : Mem) (kind slots k : Int) (f : Bool) (w : Int) (v u : V) (top : List ty_Rec.D) (marks : List Int) (h : Rep (.sl ty_Rec) M [v] top) (h2 : Rep (.sl ty_Int) M [u] marks) (hb : replyB kind slots k f w top marks = true) :
    Sat (aCall T0 F_impl_replyOf [.int .i64 kind, .int .i64 slots, .agg (cY k f w v u).toArray] M) (Bytes M (replyT kind slots k f w top marks)) := by
  obtain ⟨hs, hk, hw, ht, hm, ht8, hm16, hz, hle, hz2, hsl, hfw, h1⟩ := reply_facts hb
  obtain ⟨k, rfl⟩ : ∃ n : Nat, k = n := ⟨k.toNat, (Int.toNat_of_nonneg hk.1).symm⟩
  obtain ⟨w, rfl⟩ : ∃ n : Nat, w = n := ⟨w.toNat, (Int.toNat_of_nonneg hw.1).symm⟩
  obtain ⟨a, c, rfl⟩ := h.slen
  obtain ⟨b, d, rfl⟩ := h2.slen
  have e1 : IntKind.u8.wrap (k : Int) = k := wrap_u8 (by omega) (by omega)
  obtain ⟨q, hq⟩ : ∃ q, q = w / 256 := ⟨_, rfl⟩
  obtain ⟨p, hp⟩ : ∃ p, p = w % 256 := ⟨_, rfl⟩
  have e2 : IntKind.u8.wrap (q : Int) = q := wrap_u8 (by omega) (by omega)
  have e3 := wrap_u8_mod w
  have e4 := shr8 w
  have e5 := fun M => c_impl_replySize M kind slots hsl
  rw [← hq] at e4
  rw [← hp] at e3
  rw [hz] at e5
  obtain ⟨A, hA⟩ : ∃ A, A = M ++ [(⟨cY k f w (.slice a top.length c) (.slice b marks.length d), 1, 2⟩ : Blk)] := ⟨_, rfl⟩
  have pA : M <+: A := by rw [hA]; exact List.prefix_append _ _
  have rA : rd1 A M.length 4 = some (.slice b marks.length d) := by rw [hA]; simp
  have main : ∀ X v0, BG A X v0 (replyH kind k f w) → ∃ v1 X1 v2 X2 v3 X3 n2, lp (aCall T0) K_impl_replyOf_0 L_impl_replyOf_0 [.int .i64 kind, .int .i64 slots, und, und, und, .pointer (some ⟨M.length, 0, none⟩), und, v0, und, und, und, und, und, und, und, und, und, und, und, und, und, und, und, und, und, und, und, und, und, und, und, und, und, .slice a top.length c, .int .i64 top.length, .int .i64 (0 : Nat), und, und, und, und, und, und, und, und, und, und, und, und, und, und, und, und, und, und, und, und, und, und, und, und, und, und, und, und, und] X = lp (aCall T0) K_impl_replyOf_0 L_impl_replyOf_0 [.int .i64 kind, .int .i64 slots, und, und, und, .pointer (some ⟨M.length, 0, none⟩), und, v1, und, und, und, und, und, und, und, und, und, und, und, und, und, und, und, und, und, und, und, und, und, und, und, und, und, .slice a top.length c, .int .i64 top.length, .int .i64 top.length, und, und, und, und, und, und, und, und, und, und, und, und, und, und, und, und, und, und, und, und, und, und, und, und, und, und, und, und, und] X1 ∧
      rd1 X1 M.length 4 = some (.slice b marks.length d) ∧
      lp (aCall T0) K_impl_replyOf_1 L_impl_replyOf_1 [.int .i64 kind, .int .i64 slots, und, und, und, und, und, v1, und, und, und, und, und, und, und, und, und, und, und, und, und, und, und, und, und, und, und, und, und, und, und, und, und, und, und, und, und, und, und, und, und, und, und, und, und, .slice b marks.length d, .int .i64 marks.length, .int .i64 (0 : Nat), und, und, und, und, und, und, und, und, und, und, und, und, und, und, und, und, und] X1 = lp (aCall T0) K_impl_replyOf_1 L_impl_replyOf_1 [.int .i64 kind, .int .i64 slots, und, und, und, und, und, v2, und, und, und, und, und, und, und, und, und, und, und, und, und, und, und, und, und, und, und, und, und, und, und, und, und, und, und, und, und, und, und, und, und, und, und, und, und, .slice b marks.length d, .int .i64 marks.length, .int .i64 marks.length, und, und, und, und, und, und, und, und, und, und, und, und, und, und, und, und, und] X2 ∧
      (∃ a2, v2 = .slice a2 n2 n2) ∧ n2 = (replyL kind k f w top marks).length ∧ appS X2 1 1 v2 (replyS kind slots - n2) (zc (.int .u8 0) (replyS kind slots - n2)) = some (v3, X3) ∧ BG A X3 v3 (replyT kind slots k f w top marks) := by
    intro X v0 hX
    have hh : (replyH kind k f w).length ≤ 4 := by unfold replyH; split <;> simp
    obtain ⟨v1, X1, g1, q1⟩ := l_impl_replyOf_0 A M.length a c top (.int .i64 kind) (.int .i64 slots) (h.mono pA) ht (by omega) _ (by omega) v0 X hX
    have hl := recsT_len top
    obtain ⟨v2, X2, g2, q2⟩ := l_impl_replyOf_1 A b d marks (.int .i64 kind) (.int .i64 slots) (h2.mono pA) hm (by omega) _ (by rw [List.length_append]; omega) v1 X1 g1
    obtain ⟨a2, n2, s2, s3⟩ := BG.sl g2
    obtain ⟨v3, X3, q3, g3⟩ := bg_padz g2 s3 (replyS kind slots - n2) (by have : n2 = (replyL kind k f w top marks).length := s3.symm; omega)
    refine ⟨v1, X1, v2, X2, v3, X3, n2, q1, r1_pre (BG.pre g1) rA, q2, ⟨a2, s2⟩, s3.symm, q3, ?_⟩
    unfold replyT
    rw [show (replyL kind k f w top marks).length = n2 from s3]
    exact g3
  by_cases hk1 : kind = 1
  · subst hk1
    have hbk : BG A (M ++ [(⟨cY k f w (.slice a top.length c) (.slice b marks.length d), 1, 2⟩ : Blk), ⟨[.int .u8 k], 1, 0⟩, ⟨[.int .u8 (if f = true then 1 else 0), .int .u8 q, .int .u8 p], 1, 2⟩, ⟨[.int .u8 k, .int .u8 (if f = true then 1 else 0), .int .u8 q, .int .u8 p], 1, 2⟩]) (.slice (some ⟨M.length + 3, 0, none⟩) 4 4) (replyH 1 k f w) := by
      refine bg_here (cs := [.int .u8 k, .int .u8 (if f = true then 1 else 0), .int .u8 q, .int .u8 p]) (by rw [hA]; simp) (by rw [hA]; simp) (by simp) ?_ rfl
      unfold replyH
      simp only [if_true, List.map_cons, List.map_nil, Int.toNat_natCast]
      rw [byteV_len (by omega), byteV_len (by omega), byteV_len (by omega), hq, hp]
      cases f <;> rfl
    obtain ⟨v1, X1, v2, X2, v3, X3, n2, q1, q2, q3, ⟨a2, rfl⟩, q5, q6, q7⟩ := main _ _ hbk
    have w1 : IntKind.i64.wrap ((replyS 1 slots : Nat) - (n2 : Int)) = ((replyS 1 slots - n2 : Nat) : Int) := by rw [wrap_i64 (by omega) (by omega)]; omega
    have w2 : ((replyS 1 slots - n2 : Nat) : Int) ≤ 9223372036854775807 := by omega
    have w3 : ((replyS 1 slots - n2 : Nat) : Int) ≤ 281474976710656 := by omega
    generalize hm9 : replyS 1 slots - n2 = m9 at w1 w2 w3 q6
    refine sat_of (a := (v3, X3)) ?_ (BG.le q7 pA)
    obtain ⟨_, _, rfl, _⟩ := BG.sl q7
    simp only [Int.natCast_zero, Int.ofNat_zero] at q1 q3
    cases f with
    | true =>
      simp only [if_true] at q1
      rw [aCall_eq T_impl_replyOf]; unfold A_impl_replyOf C_impl_replyOf; simp [thenD_pp, sliceCells_sl, sliceCells_z, sliceCells_nil, take_full, appS_sl, appK_ok, appS_none, thenD_ag, agP_nil, agP_cons, e1, e2, e3, e4, q1]
      rw [S_impl_replyOf_0]; unfold B_impl_replyOf_0; simp [thenD_pp, sliceCells_sl, sliceCells_z, sliceCells_nil, take_full, appS_sl, appK_ok, appS_none, thenD_ag, agP_nil, agP_cons, q2, q3]
      rw [S_impl_replyOf_1]; unfold B_impl_replyOf_1; simp [thenD_pp, sliceCells_sl, sliceCells_z, sliceCells_nil, take_full, appS_sl, appK_ok, appS_none, thenD_ag, agP_nil, agP_cons, e5, w1, w2, w3, q6]
    | false =>
      simp only [Bool.false_eq_true, if_false] at q1
      rw [aCall_eq T_impl_replyOf]; unfold A_impl_replyOf C_impl_replyOf; simp [thenD_pp, sliceCells_sl, sliceCells_z, sliceCells_nil, take_full, appS_sl, appK_ok, appS_none, thenD_ag, agP_nil, agP_cons, e1, e2, e3, e4, q1]
      rw [S_impl_replyOf_0]; unfold B_impl_replyOf_0; simp [thenD_pp, sliceCells_sl, sliceCells_z, sliceCells_nil, take_full, appS_sl, appK_ok, appS_none, thenD_ag, agP_nil, agP_cons, q2, q3]
      rw [S_impl_replyOf_1]; unfold B_impl_replyOf_1; simp [thenD_pp, sliceCells_sl, sliceCells_z, sliceCells_nil, take_full, appS_sl, appK_ok, appS_none, thenD_ag, agP_nil, agP_cons, e5, w1, w2, w3, q6]
  · have hbk : BG A (M ++ [(⟨cY k f w (.slice a top.length c) (.slice b marks.length d), 1, 2⟩ : Blk), ⟨[.int .u8 k], 1, 2⟩]) (.slice (some ⟨M.length + 1, 0, none⟩) 1 1) (replyH kind k f w) := by
      refine bg_here (cs := [.int .u8 k]) (by rw [hA]; simp) (by rw [hA]; simp) (by simp) ?_ (by unfold replyH; rw [if_neg hk1]; rfl)
      unfold replyH
      simp only [if_neg hk1, List.map_cons, List.map_nil, Int.toNat_natCast]
      rw [byteV_len (by omega)]
    obtain ⟨v1, X1, v2, X2, v3, X3, n2, q1, q2, q3, ⟨a2, rfl⟩, q5, q6, q7⟩ := main _ _ hbk
    have w1 : IntKind.i64.wrap ((replyS kind slots : Nat) - (n2 : Int)) = ((replyS kind slots - n2 : Nat) : Int) := by rw [wrap_i64 (by omega) (by omega)]; omega
    have w2 : ((replyS kind slots - n2 : Nat) : Int) ≤ 9223372036854775807 := by omega
    have w3 : ((replyS kind slots - n2 : Nat) : Int) ≤ 281474976710656 := by omega
    generalize hm9 : replyS kind slots - n2 = m9 at w1 w2 w3 q6
    refine sat_of (a := (v3, X3)) ?_ (BG.le q7 pA)
    obtain ⟨_, _, rfl, _⟩ := BG.sl q7
    simp only [Int.natCast_zero, Int.ofNat_zero] at q1 q3
    rw [aCall_eq T_impl_replyOf]; unfold A_impl_replyOf C_impl_replyOf; simp [thenD_pp, sliceCells_sl, sliceCells_z, sliceCells_nil, take_full, appS_sl, appK_ok, appS_none, thenD_ag, agP_nil, agP_cons, hk1, e1, q1]
    rw [S_impl_replyOf_0]; unfold B_impl_replyOf_0; simp [thenD_pp, sliceCells_sl, sliceCells_z, sliceCells_nil, take_full, appS_sl, appK_ok, appS_none, thenD_ag, agP_nil, agP_cons, q2, q3]
    rw [S_impl_replyOf_1]; unfold B_impl_replyOf_1; simp [thenD_pp, sliceCells_sl, sliceCells_z, sliceCells_nil, take_full, appS_sl, appK_ok, appS_none, thenD_ag, agP_nil, agP_cons, e5, w1, w2, w3, q6]
theorem c_impl_Unpad (M : Mem) (v : V) (ys : List UInt8) (h : Rep (.sl ty_Byte) M [v] ys) (hl : ys.length = 33) : aCall T0 F_impl_Unpad [v] M = some (.tuple #[strV (unW ys), .bool (unB ys)], M) := by
  obtain ⟨a, c, rfl⟩ := h.slen
  have h0 : 0 < ys.length := by omega
  obtain ⟨l, o, rfl, _, hrd⟩ := at_Byte h h0
  obtain ⟨blk, hb, hbw, _⟩ := rep_blk h
  have e0 : unL ys = ys[0].toNat := by
    match ys, h0 with
    | y :: ys, _ => rfl
  rw [Nat.add_zero] at hrd
  have hbw : blk.w = 1 := hbw
  unfold unW unB
  obtain ⟨d, hd⟩ : ∃ d, d = unL ys := ⟨_, rfl⟩
  have hby : byteV ys[0] = .int .u8 d := by rw [hd, e0]; rfl
  rw [hby] at hrd
  rw [← hd]
  by_cases h32 : d ≤ 32
  · have g1 : ¬ 32 < (d : Int) := by omega
    have e1 : IntKind.u8.wrap (1 + (d : Int)) = 1 + d := wrap_u8 (by omega) (by omega)
    have g2 : d ≤ 32 := h32
    have hs := rep_sub h 1 d (by omega) (max ys.length c - 1)
    have hs2 : Rep (.sl ty_Byte) M [.slice (some ⟨l, o + 1, none⟩) d (max ys.length c - 1)] (unC ys) := by unfold unC; rw [← hd]; exact hs
    have hul : (unC ys).length = d := by
      unfold unC
      rw [← hd, List.length_take, List.length_drop]
      omega
    obtain ⟨a1, c1, z1, z2⟩ := cells_Byte hs2
    rw [hul] at z1 z2
    cases z1
    rw [hl] at z2
    have b1 : (1 : Int) ≤ 1 + d := by omega
    have b2 : (1 : Int) + d ≤ 33 := by omega
    have b3 : ((1 : Int) + d).toNat - 1 = d := by omega
    rw [decide_eq_true h32]
    have w1 := fun M => c_impl_isWord M (unC ys) (by omega)
    have w2 := c_impl_pad M (unC ys) (by omega)
    have w3 := c_bytes_Equal (M ++ [padB (unC ys)]) _ _ (padL (unC ys)) ys (rep_blkB (l := M.length) 33 (by simp)) (h.mono (List.prefix_append _ _))
    rw [padL_len] at w3
    generalize decide (padL (unC ys) = ys) = q at w3 ⊢
    cases hw : wordB (unC ys) with
    | false =>
      rw [hw] at w1
      rw [aCall_eq T_impl_Unpad]; unfold A_impl_Unpad C_impl_Unpad; simp [hl, hrd, g1, e1, b1, b2, b3, hb, hbw, z2, toBytes_map, w1]
    | true =>
      rw [hw] at w1
      rw [hl] at w3
      cases q with
      | false => rw [aCall_eq T_impl_Unpad]; unfold A_impl_Unpad C_impl_Unpad; simp [hl, hrd, g1, e1, b1, b2, b3, hb, hbw, z2, toBytes_map, w1, w2, w3]
      | true => rw [aCall_eq T_impl_Unpad]; unfold A_impl_Unpad C_impl_Unpad; simp [hl, hrd, g1, e1, b1, b2, b3, hb, hbw, z2, toBytes_map, w1, w2, w3]
  · have g1 : 32 < (d : Int) := by omega
    rw [decide_eq_false h32]
    rw [aCall_eq T_impl_Unpad]; unfold A_impl_Unpad C_impl_Unpad; simp [hl, hrd, g1]
theorem c_impl_RecRead (M : Mem) (v : V) (ys : List UInt8) (h : Rep (.sl ty_Byte) M [v] ys) : Sat (aCall T0 F_impl_RecRead [v] M) (RecD M (recX ys) (recR ys)) := by
  obtain ⟨a, c, rfl⟩ := h.slen
  unfold recX recR
  by_cases hl : ys.length = 37
  rotate_left
  · rw [decide_eq_false hl]
    have hl2 : ¬ (ys.length : Int) = 37 := by omega
    rw [aCall_eq T_impl_RecRead]; unfold A_impl_RecRead C_impl_RecRead; simp [thenD_pp, sliceCells_sl, sliceCells_z, sliceCells_nil, take_full, appS_sl, appK_ok, appS_none, thenD_ag, agP_nil, agP_cons, hl, hl2, prim]
    exact sat_some ⟨rfl, List.prefix_append _ _⟩
  rw [decide_eq_true hl]
  rw [hl] at h ⊢
  obtain ⟨l, o, rfl, _⟩ := at_Byte h (show 0 < ys.length by omega)
  have q0 := at_B h (show 0 < ys.length by omega)
  have q1 := at_B h (show 1 < ys.length by omega)
  have q2 := at_B h (show 2 < ys.length by omega)
  have q3 := at_B h (show 3 < ys.length by omega)
  have t1 := atN_lt ys 1
  have t2 := atN_lt ys 2
  have t3 := atN_lt ys 3
  have t0 := atN_lt ys 0
  have e1 : IntKind.i64.wrap (atN ys 1 : Int) = atN ys 1 := wrap_i64 (by omega) (by omega)
  have e2 : IntKind.i64.wrap (atN ys 2 : Int) = atN ys 2 := wrap_i64 (by omega) (by omega)
  have e3 : IntKind.i64.wrap (atN ys 3 : Int) = atN ys 3 := wrap_i64 (by omega) (by omega)
  have e4 := shl_8 t2
  have e5 := or_i64 t2 t3
  obtain ⟨blk, hb, hbw, _⟩ := rep_blk h
  have hbw : blk.w = 1 := hbw
  have hd := rep_drop h 4 (by omega) 33 (by omega) (max 37 c - 4)
  have hdl : (ys.drop 4).length = 33 := by rw [List.length_drop, hl]
  have s1 := fun N : Mem => c_impl_Unpad (M ++ N) _ _ (hd.mono (List.prefix_append M N)) hdl
  have hw := unW_len (ys.drop 4)
  have hrI : recI ys = ((decide ((atN ys 0 : Int) = 1), (atN ys 1 : Int), 256 * (atN ys 2 : Int) + (atN ys 3 : Int), unW (ys.drop 4)) : ty_Rec.D) := by
    unfold recI
    rw [show decide (atN ys 0 = 1) = decide ((atN ys 0 : Int) = 1) from decide_eq_decide.2 (by omega)]
    simp
  rw [hrI]
  simp only [Int.natCast_mul, Int.natCast_add, Int.cast_ofNat_Int] at e4 e5
  rw [Nat.add_zero] at q0
  have k0 := fun N : Mem => rd1_old (N := N) q0
  have k1 := fun N : Mem => rd1_old (N := N) q1
  have k2 := fun N : Mem => rd1_old (N := N) q2
  have k3 := fun N : Mem => rd1_old (N := N) q3
  have hlt := get_lt hb
  have hb2 := fun N : Mem => (gt_app (N := N) hlt).trans hb
  rw [aCall_eq T_impl_RecRead]; unfold A_impl_RecRead C_impl_RecRead; simp [thenD_pp, sliceCells_sl, sliceCells_z, sliceCells_nil, take_full, appS_sl, appK_ok, appS_none, thenD_ag, agP_nil, agP_cons, hl, k0, k1, k2, k3, e1, e2, e3, e4, e5, hb2, hbw, s1, prim]
  generalize hx : aCall T0 F_impl_isRec _ _ = xhx
  have hx := hx.symm.trans (c_impl_isRec _ ((decide ((atN ys 0 : Int) = 1), (atN ys 1 : Int), 256 * (atN ys 2 : Int) + (atN ys 3 : Int), unW (ys.drop 4)) : ty_Rec.D) (by show (unW (ys.drop 4)).length ≤ _; omega))
  subst hx
  cases hq : recB ((decide ((atN ys 0 : Int) = 1), (atN ys 1 : Int), 256 * (atN ys 2 : Int) + (atN ys 3 : Int), unW (ys.drop 4)) : ty_Rec.D) with
  | false =>
    simp [thenD_pp, sliceCells_sl, sliceCells_z, sliceCells_nil, take_full, appS_sl, appK_ok, appS_none, thenD_ag, agP_nil, agP_cons, prim]
    exact sat_some ⟨rfl, List.prefix_append _ _⟩
  | true =>
    simp [thenD_pp, sliceCells_sl, sliceCells_z, sliceCells_nil, take_full, appS_sl, appK_ok, appS_none, thenD_ag, agP_nil, agP_cons]
    generalize hx : aCall T0 F_impl_recOf _ _ = xhx
    obtain ⟨v1, X1, rfl, g1⟩ := of_call hx (c_impl_recOf _ ((decide ((atN ys 0 : Int) = 1), (atN ys 1 : Int), 256 * (atN ys 2 : Int) + (atN ys 3 : Int), unW (ys.drop 4)) : ty_Rec.D) hq)
    clear hx
    obtain ⟨p1, ⟨_, rfl⟩, _⟩ := Bytes.get g1 (recT_len _)
    obtain ⟨L, _, o1, _⟩ := bg_rep g1
    have pM : M <+: X1 := (List.prefix_append _ _).trans p1
    have b0 : X1[M.length]? = some ⟨_, 1, 2⟩ := get_pre p1 (by simp; rfl)
    have b1 : X1[M.length + 1]? = some ⟨_, 1, 2⟩ := get_pre p1 (by simp; rfl)
    have s3 := c_bytes_Equal X1 _ _ _ ys o1.rep (h.mono pM)
    generalize hrt : recT ((decide ((atN ys 0 : Int) = 1), (atN ys 1 : Int), 256 * (atN ys 2 : Int) + (atN ys 3 : Int), unW (ys.drop 4)) : ty_Rec.D) = rt at s3 ⊢
    by_cases hbq : rt = ys
    · rw [decide_eq_true hbq] at s3
      clear hrt
      subst hbq
      simp [thenD_pp, sliceCells_sl, sliceCells_z, sliceCells_nil, take_full, appS_sl, appK_ok, appS_none, thenD_ag, agP_nil, agP_cons, s3, b0, b1, gs_of b0, prim, rd1_K, rdJ_ok, rdn_K, rnJ_ok, wrn_K, wrJ_ok]
      exact sat_some ⟨rfl, pf_set (Nat.le_refl _) pM⟩
    · rw [decide_eq_false hbq] at s3
      simp [thenD_pp, sliceCells_sl, sliceCells_z, sliceCells_nil, take_full, appS_sl, appK_ok, appS_none, thenD_ag, agP_nil, agP_cons, s3, hbq, b0, b1, gs_of b0, prim, rd1_K, rdJ_ok, rdn_K, rnJ_ok, wrn_K, wrJ_ok]
      exact sat_some ⟨rfl, pf_set (Nat.le_refl _) pM⟩
/-- It ends at once, with nothing. -/
def RetZ (M : Mem) (r : R) : Prop := ∃ fr X', r = some (.ret, fr, X') ∧ fr.getD 6 und = .pointer (some ⟨M.length, 0, none⟩) ∧ fr.getD 7 und = .bool false ∧ X'[M.length]? = some ⟨zY, 1, 2⟩ ∧ M <+: X'
theorem r_impl_ReplyRead_0 (M : Mem) (k : Int) (l o c : Nat) (ys : List UInt8) (t0 t1 : V) (h : Rep (.sl ty_Byte) M [.slice (some ⟨l, o, none⟩) 297 c] ys) (hl : ys.length = 297) (v : V) (X : Mem) (i : Nat) (hi : i < 8) (hX : RT M k X v (topR ys i)) :
    (recR (chunkR ys i) = true → ∃ v' X', RT M k X' v' (topR ys (i + 1)) ∧ lp (aCall T0) K_impl_ReplyRead_0 L_impl_ReplyRead_0 [t0, t1, .slice (some ⟨l, o, none⟩) 297 c, und, und, und, .pointer (some ⟨M.length, 0, none⟩), und, .pointer (some ⟨M.length + 1, 0, none⟩), .int .i64 (1 + 37 * (i : Int)), und, und, und, und, und, und, und, und, und, und, und, und, und, und, und, und, und, und, und, und, und, und, und, und, und, und, und, und, und, und, und, und, und, und, und, und, und, und, und, und, und, und, und, und, und, und, und, und, und, und, und, und, und, und, und, und, und, und, und, und, und, und, und, und, und, und, und, und, und, und, und, und, und, und, und, und, und, und, und, und, und, und, und, und, und, und, und, und, und, und, und, und, und, und, und, und, und, und, und, und, und, und, und] X = lp (aCall T0) K_impl_ReplyRead_0 L_impl_ReplyRead_0 [t0, t1, .slice (some ⟨l, o, none⟩) 297 c, und, und, und, .pointer (some ⟨M.length, 0, none⟩), und, .pointer (some ⟨M.length + 1, 0, none⟩), .int .i64 (1 + 37 * ((i + 1 : Nat) : Int)), und, und, und, und, und, und, und, und, und, und, und, und, und, und, und, und, und, und, und, und, und, und, und, und, und, und, und, und, und, und, und, und, und, und, und, und, und, und, und, und, und, und, und, und, und, und, und, und, und, und, und, und, und, und, und, und, und, und, und, und, und, und, und, und, und, und, und, und, und, und, und, und, und, und, und, und, und, und, und, und, und, und, und, und, und, und, und, und, und, und, und, und, und, und, und, und, und, und, und, und, und, und, und] X') ∧
    (recR (chunkR ys i) = false → RetZ M (lp (aCall T0) K_impl_ReplyRead_0 L_impl_ReplyRead_0 [t0, t1, .slice (some ⟨l, o, none⟩) 297 c, und, und, und, .pointer (some ⟨M.length, 0, none⟩), und, .pointer (some ⟨M.length + 1, 0, none⟩), .int .i64 (1 + 37 * (i : Int)), und, und, und, und, und, und, und, und, und, und, und, und, und, und, und, und, und, und, und, und, und, und, und, und, und, und, und, und, und, und, und, und, und, und, und, und, und, und, und, und, und, und, und, und, und, und, und, und, und, und, und, und, und, und, und, und, und, und, und, und, und, und, und, und, und, und, und, und, und, und, und, und, und, und, und, und, und, und, und, und, und, und, und, und, und, und, und, und, und, und, und, und, und, und, und, und, und, und, und, und, und, und, und] X)) := by
  obtain ⟨n, hn1, pX, b0, b1, gX⟩ := hX
  have hn : n ≤ 8 := by rw [← hn1]; unfold topR; simp; omega
  obtain ⟨blk, hb, hbw, _⟩ := rep_blk h
  have hbw : blk.w = 1 := hbw
  have hbX := get_pre pX hb
  have e3 : IntKind.i64.wrap (1 + 37 * (i : Int) + 37) = 38 + 37 * i := by rw [wrap_i64 (by omega) (by omega)]; omega
  have d1 : (0 : Int) ≤ 1 + 37 * i := by omega
  have d2 : (1 : Int) + 37 * i ≤ 38 + 37 * i := by omega
  have d3 : (38 : Int) + 37 * i ≤ 297 := by omega
  have d4 : ((1 : Int) + 37 * i).toNat = 1 + 37 * i := by omega
  have d5 : ((38 : Int) + 37 * i - (1 + 37 * i)).toNat = 37 := by omega
  have d6 : (1 : Int) + 37 * i < 297 := by omega
  have d7 : (38 : Int) + 37 * i = 1 + 37 * (i + 1) := by omega
  have hr := chunk_rep (h.mono pX) i (by omega) (max 297 c - (1 + 37 * i))
  have key := c_impl_RecRead X _ _ hr
  refine ⟨fun hq => ?_, fun hq => ?_⟩
  · rw [S_impl_ReplyRead_0]; unfold B_impl_ReplyRead_0; simp [thenD_pp, sliceCells_sl, sliceCells_z, sliceCells_nil, take_full, appS_sl, appK_ok, appS_none, thenD_ag, agP_nil, agP_cons, e3, d1, d2, d3, d4, d5, d6, hbX, hbw]
    generalize hx : aCall T0 F_impl_RecRead _ _ = xhx
    obtain ⟨w1, X1, rfl, rfl, p1⟩ := of_call hx key
    clear hx
    have c0 := get_pre p1 b0
    have c1 := get_pre p1 b1
    have l1 := get_lt c1
    have k1 : ∀ N : Mem, rd1 (X1 ++ N) (M.length + 1) 3 = some v := fun N => rd1_old (by rw [rd1_K, c1]; rfl)
    rw [topR_succ]
    generalize recX (chunkR ys i) = rr
    obtain ⟨_, rfl⟩ := gX.shape
    simp [thenD_pp, sliceCells_sl, sliceCells_z, sliceCells_nil, take_full, appS_sl, appK_ok, appS_none, thenD_ag, agP_nil, agP_cons, k1, hq, zeroCells]
    generalize hy : appS _ _ _ _ _ _ = xhy
    obtain ⟨a3, X3, rfl, g3, ag, l3⟩ := gX.at hy (p1.trans (List.prefix_append _ _)) (by have := get_lt b1; omega) (by rfl) (by omega) (by rfl) (by omega) (by omega)
    clear hy
    have hd : ∀ j, j < M.length + 2 → j ∉ wfs (.slice ‹_› n n) := fun j hj hm => by have := gX.ge j hm; omega
    have y0 := ag.get (get_pre' c0) (hd _ (by omega))
    have y1 := ag.get (get_pre' c1) (hd _ (by omega))
    simp [thenD_pp, sliceCells_sl, sliceCells_z, sliceCells_nil, take_full, appS_sl, appK_ok, appS_none, thenD_ag, agP_nil, agP_cons, y1, e3, d7, rd1_K, rdJ_ok, wrn_K, wrJ_ok]
    refine ⟨_, _, ⟨n + 1, by rw [List.length_append, hn1]; rfl, pf_set (by omega) (ag.pre (pf_app (pX.trans p1)) fun j hj => by have := gX.ge j hj; omega), ?_, gs_of y1 _, ?_⟩, rfl⟩
    · rw [gt_set (by omega)]; exact y0
    · rw [List.map_append, List.flatten_append]
      simpa using g3.set (l := M.length + 1) (by omega) _
  · show RetZ M _
    rw [S_impl_ReplyRead_0]; unfold B_impl_ReplyRead_0; simp [thenD_pp, sliceCells_sl, sliceCells_z, sliceCells_nil, take_full, appS_sl, appK_ok, appS_none, thenD_ag, agP_nil, agP_cons, e3, d1, d2, d3, d4, d5, d6, hbX, hbw]
    generalize hx : aCall T0 F_impl_RecRead _ _ = xhx
    obtain ⟨w1, X1, rfl, rfl, p1⟩ := of_call hx key
    clear hx
    have c0 := get_pre p1 b0
    have c0' := fun N : Mem => get_pre' (N := N) c0
    generalize recX (chunkR ys i) = rr
    have l0 := get_lt c0
    have c0 : X1[M.length]? = some ⟨zY, 1, 2⟩ := c0
    have c0' : ∀ N : Mem, (X1 ++ N)[M.length]? = some ⟨[.int .i64 0, .bool false, .int .i64 0, .slice none 0 0, .slice none 0 0], 1, 2⟩ := fun N => get_pre' c0
    simp [thenD_pp, sliceCells_sl, sliceCells_z, sliceCells_nil, take_full, appS_sl, appK_ok, appS_none, thenD_ag, agP_nil, agP_cons, hq, c0', rd1_K, rdJ_ok, wrn_K, wrJ_ok]
    refine ⟨_, _, rfl, rfl, rfl, gs_of (c0' _) _, pf_set (Nat.le_refl _) (pf_app (pX.trans p1))⟩
theorem l_impl_ReplyRead_1 (M : Mem) (k : Int) (l o c c2 n0 : Nat) (ys : List UInt8) (t0 t1 t2 : V) (h : Rep (.sl ty_Byte) M [.slice (some ⟨l, o, none⟩) (n0 + 1) c] ys) (hl : ys.length = n0 + 1) (hn0 : n0 ≤ 16) (v : V) (X : Mem) (hX : RM M k X v []) :
    ∃ v' X', RM M k X' v' (markR ys) ∧ lp (aCall T0) K_impl_ReplyRead_1 L_impl_ReplyRead_1 [t0, t1, t2, und, und, und, .pointer (some ⟨M.length, 0, none⟩), und, .pointer (some ⟨M.length + 1, 0, none⟩), und, und, und, und, und, und, und, und, und, und, und, und, und, und, und, und, und, und, und, und, und, und, und, und, und, und, und, und, und, und, und, und, und, und, und, und, und, und, und, und, und, und, und, und, und, und, und, und, und, und, und, und, und, und, und, und, und, und, und, und, und, und, und, und, und, und, und, und, und, und, und, und, und, und, .slice (some ⟨l, o + 1, none⟩) n0 c2, .int .i64 n0, .int .i64 (0 : Nat), und, und, und, und, und, und, und, und, und, und, und, und, und, und, und, und, und, und, und, und, und, und, und, und, und, und, und] X = lp (aCall T0) K_impl_ReplyRead_1 L_impl_ReplyRead_1 [t0, t1, t2, und, und, und, .pointer (some ⟨M.length, 0, none⟩), und, .pointer (some ⟨M.length + 1, 0, none⟩), und, und, und, und, und, und, und, und, und, und, und, und, und, und, und, und, und, und, und, und, und, und, und, und, und, und, und, und, und, und, und, und, und, und, und, und, und, und, und, und, und, und, und, und, und, und, und, und, und, und, und, und, und, und, und, und, und, und, und, und, und, und, und, und, und, und, und, und, und, und, und, und, und, und, .slice (some ⟨l, o + 1, none⟩) n0 c2, .int .i64 n0, .int .i64 n0, und, und, und, und, und, und, und, und, und, und, und, und, und, und, und, und, und, und, und, und, und, und, und, und, und, und, und] X' := by
  have := loop_to (call := aCall T0) (K := K_impl_ReplyRead_1) (L := L_impl_ReplyRead_1) (fun i v X => RM M k X v (markR (ys.take (i + 1)))) (fun i v => [t0, t1, t2, und, und, und, .pointer (some ⟨M.length, 0, none⟩), und, .pointer (some ⟨M.length + 1, 0, none⟩), und, und, und, und, und, und, und, und, und, und, und, und, und, und, und, und, und, und, und, und, und, und, und, und, und, und, und, und, und, und, und, und, und, und, und, und, und, und, und, und, und, und, und, und, und, und, und, und, und, und, und, und, und, und, und, und, und, und, und, und, und, und, und, und, und, und, und, und, und, und, und, und, und, und, .slice (some ⟨l, o + 1, none⟩) n0 c2, .int .i64 n0, .int .i64 i, und, und, und, und, und, und, und, und, und, und, und, und, und, und, und, und, und, und, und, und, und, und, und, und, und, und, und]) (n := n0) ?_ 0 v X (by omega) (by
    have : markR (ys.take 1) = [] := by apply List.length_eq_zero_iff.1; rw [markR_len, List.length_take]; omega
    rw [this]; exact hX)
  · rw [List.take_of_length_le (show ys.length ≤ n0 + 1 by omega)] at this
    exact this
  intro i v X hi hX
  obtain ⟨n, hn1, pX, b0, b1, gX⟩ := hX
  have hn : n ≤ 16 := by rw [← hn1, markR_len, List.length_take]; omega
  have q1 := r1_pre pX (at_B h (show i + 1 < ys.length by omega))
  rw [show o + (i + 1) = o + 1 + i by omega] at q1
  have hb := atN_lt ys (i + 1)
  rw [markR_succ ys i (by omega)]
  generalize atN ys (i + 1) = m at q1 hb ⊢
  have e2 : IntKind.i64.wrap (m : Int) = m := wrap_i64 (by omega) (by omega)
  have e6 : IntKind.i64.wrap ((i : Int) + 1) = i + 1 := wrap_i64 (by omega) (by omega)
  have k1 : rd1 X (M.length + 1) 4 = some v := by rw [rd1_K, b1]; rfl
  obtain ⟨_, rfl⟩ := gX.shape
  rw [S_impl_ReplyRead_1]; unfold B_impl_ReplyRead_1; simp [thenD_pp, sliceCells_sl, sliceCells_z, sliceCells_nil, take_full, appS_sl, appK_ok, appS_none, thenD_ag, agP_nil, agP_cons, hi, k1, q1, e2, zeroCells]
  generalize hy : appS _ _ _ _ _ _ = xhy
  obtain ⟨a3, X3, rfl, g3, ag, l3⟩ := gX.at hy (List.prefix_append _ _) (by have := get_lt b1; omega) (by rfl) (by omega) (by rfl) (by omega) (by omega)
  clear hy
  have hd : ∀ j, j < M.length + 2 → j ∉ wfs (.slice ‹_› n n) := fun j hj hm => by have := gX.ge j hm; omega
  have y0 := ag.get (get_pre' b0) (hd _ (by omega))
  have y1 := ag.get (get_pre' b1) (hd _ (by omega))
  simp [thenD_pp, sliceCells_sl, sliceCells_z, sliceCells_nil, take_full, appS_sl, appK_ok, appS_none, thenD_ag, agP_nil, agP_cons, y1, e6, rd1_K, rdJ_ok, wrn_K, wrJ_ok]
  refine ⟨_, _, ⟨n + 1, by rw [List.length_append, hn1]; rfl, pf_set (by omega) (ag.pre (pf_app pX) fun j hj => by have := gX.ge j hj; omega), ?_, gs_of y1 _, ?_⟩, rfl⟩
  · rw [gt_set (by omega)]; exact y0
  · rw [List.map_append]
    simpa using g3.set (l := M.length + 1) (by omega) _
theorem flatT {w : Nat} : ∀ (L : List (List UInt8)) (i : Nat) (hi : i < L.length), (∀ c ∈ L, c.length = w) → (L.flatten.drop (i * w)).take w = L[i]
  | c :: L, 0, _, h => by
    rw [Nat.zero_mul, List.drop_zero, List.flatten_cons, List.take_left' (h c (by simp))]
    rfl
  | c :: L, i + 1, hi, h => by
    have := flatT L i (by simpa using hi) (fun d hd => h d (by simp [hd]))
    rw [List.flatten_cons, Nat.add_mul, Nat.one_mul, Nat.add_comm, ← List.drop_drop, List.drop_left' (h c (by simp))]
    exact this
theorem rec_z : recR (recT zRec) = true := by decide
theorem top_all {slots : Int} {ys : List UInt8} (hp : 0 < ys.length) (e : replyX 2 slots ((0 : Int), false, (0 : Int), topR ys 8, []) = ys) (i : Nat) (hi : i < 8) : recR (chunkR ys i) = true := by
  cases hq : recR (chunkR ys i) with
  | true => rfl
  | false =>
    exfalso
    have hx : recX (chunkR ys i) = zRec := by unfold recX; rw [hq]; rfl
    unfold replyX at e
    split at e
    · unfold replyT replyL replyH at e
      rw [if_neg (by decide)] at e
      have hc : chunkR ys i = recT zRec := by
        have hw : chunkR ys i = (ys.drop (1 + 37 * i)).take 37 := rfl
        rw [hw]
        rw [← e]
        have hlen : (recsT (topR ys 8)).length = 296 := by rw [recsT_len]; unfold topR; simp
        simp only [List.append_assoc]
        rw [← List.drop_drop, List.drop_left' (by rfl), List.drop_append_of_le_length (by omega), List.take_append_of_le_length (by rw [List.length_drop]; omega)]
        unfold recsT
        rw [Nat.mul_comm, flatT _ i (by unfold topR; simpa using hi) (fun c hc => by obtain ⟨r, _, rfl⟩ := List.mem_map.1 hc; exact recT_len r)]
        simp only [List.getElem_map]
        unfold topR
        simp only [List.getElem_map, List.getElem_range]
        rw [hx]
      rw [hc] at hq
      rw [rec_z] at hq
      cases hq
    · rw [← e] at hp
      simp at hp
set_option maxHeartbeats 2000000 in
theorem w_impl_ReplyRead (M : Mem) (kind slots : Int) (v : V) (ys : List UInt8) (h : Rep (.sl ty_Byte) M [v] ys) (hyl : ys.length ≤ 1048576) : Sat (aCall T0 F_impl_ReplyRead [.int .i64 kind, .int .i64 slots, v] M) (RRD M (rrR kind slots ys) (rrB kind slots ys)) := by
  obtain ⟨a, c, rfl⟩ := h.slen
  unfold rrR rrB
  have s1 := fun M => c_impl_isShape M kind slots
  cases hs : shapeB kind slots with
  | false =>
    rw [hs] at s1
    rw [aCall_eq T_impl_ReplyRead]; unfold A_impl_ReplyRead C_impl_ReplyRead; simp [thenD_pp, sliceCells_sl, sliceCells_z, sliceCells_nil, take_full, appS_sl, appK_ok, appS_none, thenD_ag, agP_nil, agP_cons, s1, prim]
    exact sat_some (rrd_nil (List.prefix_append _ _))
  | true =>
  rw [hs] at s1
  have hsl : 0 ≤ slots ∧ slots ≤ 16 := by
    unfold shapeB at hs
    split at hs <;> simp at hs <;> omega
  have s2 := fun M => c_impl_replySize M kind slots hsl
  have hz : (if kind = 1 then (4 : Int) else if kind = 2 then 297 else 1 + slots) = replyS kind slots := by
    unfold replyS
    rw [Int.toNat_of_nonneg]
    split
    · omega
    · split <;> omega
  rw [hz] at s2
  have hz1 : 1 ≤ replyS kind slots ∧ replyS kind slots ≤ 297 := by
    unfold replyS
    split
    · omega
    · split <;> omega
  by_cases hl : ys.length = replyS kind slots
  rotate_left
  · rw [decide_eq_false hl]
    have hl2 : ¬ (ys.length : Int) = (replyS kind slots : Nat) := by omega
    rw [aCall_eq T_impl_ReplyRead]; unfold A_impl_ReplyRead C_impl_ReplyRead; simp [thenD_pp, sliceCells_sl, sliceCells_z, sliceCells_nil, take_full, appS_sl, appK_ok, appS_none, thenD_ag, agP_nil, agP_cons, s1, s2, hl, hl2, prim]
    exact sat_some (rrd_nil (List.prefix_append _ _))
  rw [decide_eq_true hl, Bool.true_and, Bool.true_and]
  have hl2 : (ys.length : Int) = (replyS kind slots : Nat) := by omega
  obtain ⟨l, o, rfl, _⟩ := at_Byte h (show 0 < ys.length by omega)
  have q0 := at_B h (show 0 < ys.length by omega)
  have t0 := atN_lt ys 0
  have t1 := atN_lt ys 1
  have t2 := atN_lt ys 2
  have t3 := atN_lt ys 3
  rw [Nat.add_zero] at q0
  have k0 := fun N : Mem => rd1_old (N := N) q0
  have e0 : IntKind.i64.wrap (atN ys 0 : Int) = atN ys 0 := wrap_i64 (by omega) (by omega)
  have hlp : 0 < ys.length := by omega
  have w0 : IntKind.i64.wrap 0 = 0 := by decide
  by_cases hk0 : atN ys 0 = 0
  rotate_left
  · have hki : ¬ (atN ys 0 : Int) = 0 := by omega
    have hr : rrX kind ys = ((atN ys 0 : Int), false, 0, [], []) := by
      unfold rrX
      simp only [hk0, false_and, if_false]
    rw [hr]
    obtain ⟨bq, hbq⟩ : ∃ b, b = decide (replyX kind slots ((atN ys 0 : Int), false, (0 : Int), [], []) = ys) := ⟨_, rfl⟩
    rw [← hbq]
    have st := rs_new (M := M) (k := (atN ys 0 : Int)) (f := false) (w := 0)
    unfold zY at st
    rw [aCall_eq T_impl_ReplyRead]; unfold A_impl_ReplyRead C_impl_ReplyRead; simp [thenD_pp, sliceCells_sl, sliceCells_z, sliceCells_nil, take_full, appS_sl, appK_ok, appS_none, thenD_ag, agP_nil, agP_cons, s1, s2, eq_true hl2, hlp, k0, e0, hk0, prim]
    generalize hx : aCall T0 F_impl_isReply _ _ = xhx
    have hx := hx.symm.trans (c_impl_isReply _ kind slots (atN ys 0 : Int) false 0 (.slice none 0 0) (.slice none 0 0) [] [] st.o1.rep st.o2.rep (by simp) (by simp) (by simp))
    subst hx
    cases hq : replyB kind slots (atN ys 0 : Int) false 0 [] [] with
    | false =>
      have hbf : bq = false := by
        rw [hbq]
        unfold replyX
        rw [hq]
        refine decide_eq_false fun e => ?_
        rw [if_neg (by simp)] at e
        rw [← e] at hlp
        simp at hlp
      subst hbf
      try rw [if_neg (show ¬ ((false : Bool) = true) by decide)]
      have b0 := st.b0
      have b1 := st.b1
      have b0' : _ = some (⟨[.int .i64 0, .bool false, .int .i64 0, .slice none 0 0, .slice none 0 0], 1, 2⟩ : Blk) := b0
      simp [thenD_pp, sliceCells_sl, sliceCells_z, sliceCells_nil, take_full, appS_sl, appK_ok, appS_none, thenD_ag, agP_nil, agP_cons, b0', b1, gs_of b0, prim, rd1_K, rdJ_ok, rdn_K, rnJ_ok, wrn_K, wrJ_ok]
      exact sat_some (by first | exact rrd_nil (pf_set (Nat.le_refl _) st.pre) | exact rrd_nil (List.prefix_append _ _))
    | true =>
      have i1 := one_head st.o1.rep.one
      have i2 := one_head st.o2.rep.one
      have b1 := st.b1
      simp [thenD_pp, sliceCells_sl, sliceCells_z, sliceCells_nil, take_full, appS_sl, appK_ok, appS_none, thenD_ag, agP_nil, agP_cons, b1, rdn_K, rnJ_ok]
      generalize hx : aCall T0 F_impl_replyOf _ _ = xhx
      obtain ⟨vv, X2, rfl, gg⟩ := of_call hx (c_impl_replyOf _ kind slots (atN ys 0 : Int) false 0 (.slice none 0 0) (.slice none 0 0) [] [] st.o1.rep st.o2.rep hq)
      clear hx
      obtain ⟨L9, p2, o9, _⟩ := bg_rep gg
      have st2 := st.grow p2
      have b0 := st2.b0
      have b1 := st2.b1
      have b0' : X2[M.length]? = some ⟨[.int .i64 0, .bool false, .int .i64 0, .slice none 0 0, .slice none 0 0], 1, 2⟩ := b0
      have s3 := c_bytes_Equal X2 _ _ _ ys o9.rep (h.mono st2.pre)
      have hrt : replyX kind slots ((atN ys 0 : Int), false, (0 : Int), [], []) = replyT kind slots (atN ys 0 : Int) false 0 [] [] := by unfold replyX; rw [if_pos hq]
      rw [hrt] at hbq
      obtain ⟨_, _, rfl⟩ := o9.rep.slen
      generalize replyT kind slots (atN ys 0 : Int) false 0 [] [] = zs at s3 hbq ⊢
      cases bq with
      | true =>
        have hbq := of_decide_eq_true hbq.symm
        rw [decide_eq_true hbq] at s3
        try rw [if_pos rfl]
        simp [thenD_pp, sliceCells_sl, sliceCells_z, sliceCells_nil, take_full, appS_sl, appK_ok, appS_none, thenD_ag, agP_nil, agP_cons, s3, i1, i2, b0', b1, gs_of b0, prim, rd1_K, rdJ_ok, rdn_K, rnJ_ok, wrn_K, wrJ_ok]
        exact sat_some (st2.done (by refine ⟨?_, ?_⟩ <;> first | omega | decide) (by refine ⟨?_, ?_⟩ <;> first | omega | decide) true)
      | false =>
        have hbq := of_decide_eq_false hbq.symm
        rw [decide_eq_false hbq] at s3
        try rw [if_neg (show ¬ ((false : Bool) = true) by decide)]
        simp [thenD_pp, sliceCells_sl, sliceCells_z, sliceCells_nil, take_full, appS_sl, appK_ok, appS_none, thenD_ag, agP_nil, agP_cons, s3, i1, i2, b0', b1, gs_of b0, prim, rd1_K, rdJ_ok, rdn_K, rnJ_ok, wrn_K, wrJ_ok]
        exact sat_some (rrd_nil (pf_set (Nat.le_refl _) st2.pre))
  have hki : (atN ys 0 : Int) = 0 := by omega
  by_cases h1 : kind = 1
  · subst h1
    have hl4 : ys.length = 4 := by rw [hl]; rfl
    have k1 := fun N : Mem => rd1_old (N := N) (at_B h (show 1 < ys.length by omega))
    have k2 := fun N : Mem => rd1_old (N := N) (at_B h (show 2 < ys.length by omega))
    have k3 := fun N : Mem => rd1_old (N := N) (at_B h (show 3 < ys.length by omega))
    have e2 : IntKind.i64.wrap (atN ys 2 : Int) = atN ys 2 := wrap_i64 (by omega) (by omega)
    have e3 : IntKind.i64.wrap (atN ys 3 : Int) = atN ys 3 := wrap_i64 (by omega) (by omega)
    have e4 := shl_8 t2
    have e5 := or_i64 t2 t3
    simp only [Int.natCast_mul, Int.natCast_add, Int.cast_ofNat_Int] at e4 e5
    have d1 : (1 : Int) < ys.length := by omega
    have d2 : (2 : Int) < ys.length := by omega
    have d3 : (3 : Int) < ys.length := by omega
    have hr : rrX 1 ys = ((0 : Int), decide ((atN ys 1 : Int) = 1), 256 * (atN ys 2 : Int) + (atN ys 3 : Int), [], []) := by
      unfold rrX
      rw [if_pos ⟨hk0, rfl⟩, show decide (atN ys 1 = 1) = decide ((atN ys 1 : Int) = 1) from decide_eq_decide.2 (by omega)]
      simp
    rw [hr]
    obtain ⟨bq, hbq⟩ : ∃ b, b = decide (replyX 1 slots ((0 : Int), decide ((atN ys 1 : Int) = 1), 256 * (atN ys 2 : Int) + (atN ys 3 : Int), [], []) = ys) := ⟨_, rfl⟩
    rw [← hbq]
    have hll : l < M.length := by obtain ⟨blk, hbk, _⟩ := rep_blk h; exact get_lt hbk
    have hhl : hits [M.length + 1] [l] = false := hits_ge (K := M.length + 1) (by simp) (by simp; omega)
    have hhl2 : hits [l] [M.length + 1] = false := by simp [hits]; omega
    have st := rs_new (M := M) (k := 0) (f := decide ((atN ys 1 : Int) = 1)) (w := 256 * (atN ys 2 : Int) + (atN ys 3 : Int))
    unfold zY at st
    rw [aCall_eq T_impl_ReplyRead]; unfold A_impl_ReplyRead C_impl_ReplyRead; simp [thenD_pp, sliceCells_sl, sliceCells_z, sliceCells_nil, take_full, appS_sl, appK_ok, appS_none, thenD_ag, agP_nil, agP_cons, s1, s2, eq_true hl2, hlp, k0, e0, hk0, w0, k1, k2, k3, e2, e3, e4, e5, d1, d2, d3, prim, hhl, hhl2]
    generalize hx : aCall T0 F_impl_isReply _ _ = xhx
    have hx := hx.symm.trans (c_impl_isReply _ 1 slots 0 (decide ((atN ys 1 : Int) = 1)) (256 * (atN ys 2 : Int) + (atN ys 3 : Int)) (.slice none 0 0) (.slice none 0 0) [] [] st.o1.rep st.o2.rep (by simp) (by simp) (by simp))
    subst hx
    cases hq : replyB 1 slots 0 (decide ((atN ys 1 : Int) = 1)) (256 * (atN ys 2 : Int) + (atN ys 3 : Int)) [] [] with
    | false =>
      have hbf : bq = false := by
        rw [hbq]
        unfold replyX
        rw [hq]
        refine decide_eq_false fun e => ?_
        rw [if_neg (by simp)] at e
        rw [← e] at hlp
        simp at hlp
      subst hbf
      try rw [if_neg (show ¬ ((false : Bool) = true) by decide)]
      have b0 := st.b0
      have b1 := st.b1
      have b0' : _ = some (⟨[.int .i64 0, .bool false, .int .i64 0, .slice none 0 0, .slice none 0 0], 1, 2⟩ : Blk) := b0
      simp [thenD_pp, sliceCells_sl, sliceCells_z, sliceCells_nil, take_full, appS_sl, appK_ok, appS_none, thenD_ag, agP_nil, agP_cons, b0', b1, gs_of b0, prim, rd1_K, rdJ_ok, rdn_K, rnJ_ok, wrn_K, wrJ_ok]
      exact sat_some (by first | exact rrd_nil (pf_set (Nat.le_refl _) st.pre) | exact rrd_nil (List.prefix_append _ _))
    | true =>
      have i1 := one_head st.o1.rep.one
      have i2 := one_head st.o2.rep.one
      have b1 := st.b1
      simp [thenD_pp, sliceCells_sl, sliceCells_z, sliceCells_nil, take_full, appS_sl, appK_ok, appS_none, thenD_ag, agP_nil, agP_cons, b1, rdn_K, rnJ_ok]
      generalize hx : aCall T0 F_impl_replyOf _ _ = xhx
      obtain ⟨vv, X2, rfl, gg⟩ := of_call hx (c_impl_replyOf _ 1 slots 0 (decide ((atN ys 1 : Int) = 1)) (256 * (atN ys 2 : Int) + (atN ys 3 : Int)) (.slice none 0 0) (.slice none 0 0) [] [] st.o1.rep st.o2.rep hq)
      clear hx
      obtain ⟨L9, p2, o9, _⟩ := bg_rep gg
      have st2 := st.grow p2
      have b0 := st2.b0
      have b1 := st2.b1
      have b0' : X2[M.length]? = some ⟨[.int .i64 0, .bool false, .int .i64 0, .slice none 0 0, .slice none 0 0], 1, 2⟩ := b0
      have s3 := c_bytes_Equal X2 _ _ _ ys o9.rep (h.mono st2.pre)
      have hrt : replyX 1 slots ((0 : Int), decide ((atN ys 1 : Int) = 1), 256 * (atN ys 2 : Int) + (atN ys 3 : Int), [], []) = replyT 1 slots 0 (decide ((atN ys 1 : Int) = 1)) (256 * (atN ys 2 : Int) + (atN ys 3 : Int)) [] [] := by unfold replyX; rw [if_pos hq]
      rw [hrt] at hbq
      obtain ⟨_, _, rfl⟩ := o9.rep.slen
      generalize replyT 1 slots 0 (decide ((atN ys 1 : Int) = 1)) (256 * (atN ys 2 : Int) + (atN ys 3 : Int)) [] [] = zs at s3 hbq ⊢
      cases bq with
      | true =>
        have hbq := of_decide_eq_true hbq.symm
        rw [decide_eq_true hbq] at s3
        try rw [if_pos rfl]
        simp [thenD_pp, sliceCells_sl, sliceCells_z, sliceCells_nil, take_full, appS_sl, appK_ok, appS_none, thenD_ag, agP_nil, agP_cons, s3, i1, i2, b0', b1, gs_of b0, prim, rd1_K, rdJ_ok, rdn_K, rnJ_ok, wrn_K, wrJ_ok]
        exact sat_some (st2.done (by refine ⟨?_, ?_⟩ <;> first | omega | decide) (by refine ⟨?_, ?_⟩ <;> first | omega | decide) true)
      | false =>
        have hbq := of_decide_eq_false hbq.symm
        rw [decide_eq_false hbq] at s3
        try rw [if_neg (show ¬ ((false : Bool) = true) by decide)]
        simp [thenD_pp, sliceCells_sl, sliceCells_z, sliceCells_nil, take_full, appS_sl, appK_ok, appS_none, thenD_ag, agP_nil, agP_cons, s3, i1, i2, b0', b1, gs_of b0, prim, rd1_K, rdJ_ok, rdn_K, rnJ_ok, wrn_K, wrJ_ok]
        exact sat_some (rrd_nil (pf_set (Nat.le_refl _) st2.pre))
  by_cases h2 : kind = 2
  · subst h2
    have hl4 : ys.length = 297 := by rw [hl]; rfl
    have hr : rrX 2 ys = ((0 : Int), false, 0, topR ys 8, []) := by
      unfold rrX
      rw [if_neg (by simp), if_pos ⟨hk0, rfl⟩]
    rw [hr]
    obtain ⟨bq, hbq⟩ : ∃ b, b = decide (replyX 2 slots ((0 : Int), false, (0 : Int), topR ys 8, []) = ys) := ⟨_, rfl⟩
    rw [← hbq]
    have hbd := topR_bd ys hl4
    rw [hl4] at h ⊢
    have hl2 : (297 : Int) = (replyS 2 slots : Nat) := by omega
    have hrt : RT M 0 (M ++ [⟨zY, 1, 2⟩, ⟨[.int .i64 0, .bool false, .int .i64 0, .slice none 0 0, .slice none 0 0], 1, 2⟩]) (.slice none 0 0) [] := ⟨0, rfl, List.prefix_append _ _, by simp, by simp, Grow.nil⟩
    rcases first_bad (fun i => recR (chunkR ys i)) 8 with hg | ⟨j, hj, hg, hbad⟩
    · obtain ⟨v', X', g1, lq⟩ := loop_to (call := aCall T0) (K := K_impl_ReplyRead_0) (L := L_impl_ReplyRead_0) (fun i v X => RT M 0 X v (topR ys i)) (fun i v => [.int .i64 2, .int .i64 slots, .slice (some ⟨l, o, none⟩) 297 c, und, und, und, .pointer (some ⟨M.length, 0, none⟩), und, .pointer (some ⟨M.length + 1, 0, none⟩), .int .i64 (1 + 37 * (i : Int)), und, und, und, und, und, und, und, und, und, und, und, und, und, und, und, und, und, und, und, und, und, und, und, und, und, und, und, und, und, und, und, und, und, und, und, und, und, und, und, und, und, und, und, und, und, und, und, und, und, und, und, und, und, und, und, und, und, und, und, und, und, und, und, und, und, und, und, und, und, und, und, und, und, und, und, und, und, und, und, und, und, und, und, und, und, und, und, und, und, und, und, und, und, und, und, und, und, und, und, und, und, und, und]) (n := 8) (fun i v X hi hX => (r_impl_ReplyRead_0 M 0 l o c ys _ _ h hl4 v X i hi hX).1 (hg i hi)) 0 _ _ (by omega) hrt
      obtain ⟨L1, st⟩ := rt_st g1 (fun r hr => (hbd r hr).1)
      have n8 : (topR ys 8).length ≤ 1048576 := by unfold topR; simp
      unfold zY at lq
      simp at lq
      have st0 := st.b0
      have st1 := st.b1
      have j1 := one_head st.o1.rep.one
      have j2 := one_head st.o2.rep.one
      rw [aCall_eq T_impl_ReplyRead]; unfold A_impl_ReplyRead C_impl_ReplyRead; simp [thenD_pp, sliceCells_sl, sliceCells_z, sliceCells_nil, take_full, appS_sl, appK_ok, appS_none, thenD_ag, agP_nil, agP_cons, s1, s2, eq_true hl2, k0, e0, hk0, w0, prim, lq]
      rw [S_impl_ReplyRead_0]; unfold B_impl_ReplyRead_0; simp [thenD_pp, sliceCells_sl, sliceCells_z, sliceCells_nil, take_full, appS_sl, appK_ok, appS_none, thenD_ag, agP_nil, agP_cons, st0, st1, j1, j2, rd1_K, rdJ_ok, rdn_K, rnJ_ok]
      generalize hx : aCall T0 F_impl_isReply _ _ = xhx
      have hx := hx.symm.trans (c_impl_isReply _ 2 slots 0 false 0 v' (.slice none 0 0) (topR ys 8) [] st.o1.rep st.o2.rep n8 (by simp) (fun r hr => Nat.le_trans (hbd r hr).2 (by decide)))
      subst hx
      cases hq : replyB 2 slots 0 false 0 (topR ys 8) [] with
      | false =>
        have hbf : bq = false := by
          rw [hbq]
          unfold replyX
          rw [hq]
          refine decide_eq_false fun e => ?_
          rw [if_neg (by simp)] at e
          rw [← e] at hlp
          simp at hlp
        subst hbf
        try rw [if_neg (show ¬ ((false : Bool) = true) by decide)]
        have b0 := st.b0
        have b1 := st.b1
        have b0' : _ = some (⟨[.int .i64 0, .bool false, .int .i64 0, .slice none 0 0, .slice none 0 0], 1, 2⟩ : Blk) := b0
        simp [thenD_pp, sliceCells_sl, sliceCells_z, sliceCells_nil, take_full, appS_sl, appK_ok, appS_none, thenD_ag, agP_nil, agP_cons, b0', b1, gs_of b0, prim, rd1_K, rdJ_ok, rdn_K, rnJ_ok, wrn_K, wrJ_ok]
        exact sat_some (by first | exact rrd_nil (pf_set (Nat.le_refl _) st.pre) | exact rrd_nil (List.prefix_append _ _))
      | true =>
        have i1 := one_head st.o1.rep.one
        have i2 := one_head st.o2.rep.one
        have b1 := st.b1
        simp [thenD_pp, sliceCells_sl, sliceCells_z, sliceCells_nil, take_full, appS_sl, appK_ok, appS_none, thenD_ag, agP_nil, agP_cons, b1, rdn_K, rnJ_ok]
        generalize hx : aCall T0 F_impl_replyOf _ _ = xhx
        obtain ⟨vv, X2, rfl, gg⟩ := of_call hx (c_impl_replyOf _ 2 slots 0 false 0 v' (.slice none 0 0) (topR ys 8) [] st.o1.rep st.o2.rep hq)
        clear hx
        obtain ⟨L9, p2, o9, _⟩ := bg_rep gg
        have st2 := st.grow p2
        have b0 := st2.b0
        have b1 := st2.b1
        have b0' : X2[M.length]? = some ⟨[.int .i64 0, .bool false, .int .i64 0, .slice none 0 0, .slice none 0 0], 1, 2⟩ := b0
        have s3 := c_bytes_Equal X2 _ _ _ ys o9.rep (h.mono st2.pre)
        have hrt : replyX 2 slots ((0 : Int), false, (0 : Int), topR ys 8, []) = replyT 2 slots 0 false 0 (topR ys 8) [] := by unfold replyX; rw [if_pos hq]
        rw [hrt] at hbq
        obtain ⟨_, _, rfl⟩ := o9.rep.slen
        generalize replyT 2 slots 0 false 0 (topR ys 8) [] = zs at s3 hbq ⊢
        cases bq with
        | true =>
          have hbq := of_decide_eq_true hbq.symm
          rw [decide_eq_true hbq] at s3
          try rw [if_pos rfl]
          simp [thenD_pp, sliceCells_sl, sliceCells_z, sliceCells_nil, take_full, appS_sl, appK_ok, appS_none, thenD_ag, agP_nil, agP_cons, s3, i1, i2, b0', b1, gs_of b0, prim, rd1_K, rdJ_ok, rdn_K, rnJ_ok, wrn_K, wrJ_ok]
          exact sat_some (st2.done (by refine ⟨?_, ?_⟩ <;> first | omega | decide) (by refine ⟨?_, ?_⟩ <;> first | omega | decide) true)
        | false =>
          have hbq := of_decide_eq_false hbq.symm
          rw [decide_eq_false hbq] at s3
          try rw [if_neg (show ¬ ((false : Bool) = true) by decide)]
          simp [thenD_pp, sliceCells_sl, sliceCells_z, sliceCells_nil, take_full, appS_sl, appK_ok, appS_none, thenD_ag, agP_nil, agP_cons, s3, i1, i2, b0', b1, gs_of b0, prim, rd1_K, rdJ_ok, rdn_K, rnJ_ok, wrn_K, wrJ_ok]
          exact sat_some (rrd_nil (pf_set (Nat.le_refl _) st2.pre))
    · obtain ⟨v', X', g1, lq⟩ := loop_to (call := aCall T0) (K := K_impl_ReplyRead_0) (L := L_impl_ReplyRead_0) (fun i v X => RT M 0 X v (topR ys i)) (fun i v => [.int .i64 2, .int .i64 slots, .slice (some ⟨l, o, none⟩) 297 c, und, und, und, .pointer (some ⟨M.length, 0, none⟩), und, .pointer (some ⟨M.length + 1, 0, none⟩), .int .i64 (1 + 37 * (i : Int)), und, und, und, und, und, und, und, und, und, und, und, und, und, und, und, und, und, und, und, und, und, und, und, und, und, und, und, und, und, und, und, und, und, und, und, und, und, und, und, und, und, und, und, und, und, und, und, und, und, und, und, und, und, und, und, und, und, und, und, und, und, und, und, und, und, und, und, und, und, und, und, und, und, und, und, und, und, und, und, und, und, und, und, und, und, und, und, und, und, und, und, und, und, und, und, und, und, und, und, und, und, und, und]) (n := j) (fun i v X hi hX => (r_impl_ReplyRead_0 M 0 l o c ys _ _ h hl4 v X i (by omega) hX).1 (hg i hi)) 0 _ _ (by omega) hrt
      obtain ⟨fr, X3, e9, f6, f7, b9, p9⟩ := (r_impl_ReplyRead_0 M 0 l o c ys (.int .i64 2) (.int .i64 slots) h hl4 v' X' j hj g1).2 hbad
      have lq := lq.trans e9
      unfold zY at lq b9
      simp at lq
      simp only [List.getD_eq_getElem?_getD] at f6 f7
      have hbf : bq = false := by rw [hbq]; exact decide_eq_false fun e => by have := top_all hlp e j hj; rw [hbad] at this; cases this
      subst hbf
      try rw [if_neg (show ¬ ((false : Bool) = true) by decide)]
      rw [aCall_eq T_impl_ReplyRead]; unfold A_impl_ReplyRead C_impl_ReplyRead; simp [thenD_pp, sliceCells_sl, sliceCells_z, sliceCells_nil, take_full, appS_sl, appK_ok, appS_none, thenD_ag, agP_nil, agP_cons, s1, s2, eq_true hl2, k0, e0, hk0, w0, prim, lq, f6, f7, b9, rdn_K, rnJ_ok]
      exact sat_some (rrd_nil p9)
  by_cases h6 : kind = 6
  · subst h6
    obtain ⟨n0, hn0⟩ : ∃ n : Nat, slots = n := ⟨slots.toNat, (Int.toNat_of_nonneg hsl.1).symm⟩
    subst hn0
    have hl4 : ys.length = n0 + 1 := by rw [hl]; unfold replyS; rw [if_neg (by decide), if_neg (by decide)]; omega
    have hr : rrX 6 ys = ((0 : Int), false, 0, [], markR ys) := by
      unfold rrX
      rw [if_neg (by simp), if_neg (by simp), if_pos ⟨hk0, rfl⟩]
    rw [hr]
    obtain ⟨bq, hbq⟩ : ∃ b, b = decide (replyX 6 n0 ((0 : Int), false, (0 : Int), [], markR ys) = ys) := ⟨_, rfl⟩
    rw [← hbq]
    rw [hl4] at h ⊢
    have hrt : RM M 0 (M ++ [⟨zY, 1, 2⟩, ⟨[.int .i64 0, .bool false, .int .i64 0, .slice none 0 0, .slice none 0 0], 1, 2⟩]) (.slice none 0 0) [] := ⟨0, rfl, List.prefix_append _ _, by simp, by simp, Grow.nil⟩
    obtain ⟨v', X', g1, lq⟩ := l_impl_ReplyRead_1 M 0 l o c (max (n0 + 1) c - 1) n0 ys (.int .i64 6) (.int .i64 n0) (.slice (some ⟨l, o, none⟩) (n0 + 1) c) h hl4 (by omega) _ _ hrt
    have hbd := markR_bd ys
    obtain ⟨L1, st⟩ := rm_st g1 (fun m hm => by have := hbd m hm; omega)
    have n8 : (markR ys).length ≤ 1048576 := by rw [markR_len]; omega
    unfold zY at lq
    simp only [Int.natCast_zero, Int.ofNat_zero] at lq
    have hl2 : ((n0 : Int) + 1) = (replyS 6 n0 : Nat) := by omega
    obtain ⟨blk, hb, hbw, _⟩ := rep_blk h
    have hbw : blk.w = 1 := hbw
    have hb2 := fun N : Mem => (gt_app (N := N) (get_lt hb)).trans hb
    have d1 : (1 : Int) ≤ n0 + 1 := by omega
    have st0 := st.b0
    have st1 := st.b1
    have j1 := one_head st.o1.rep.one
    have j2 := one_head st.o2.rep.one
    rw [aCall_eq T_impl_ReplyRead]; unfold A_impl_ReplyRead C_impl_ReplyRead; simp [thenD_pp, sliceCells_sl, sliceCells_z, sliceCells_nil, take_full, appS_sl, appK_ok, appS_none, thenD_ag, agP_nil, agP_cons, s1, s2, eq_true hl2, k0, e0, hk0, w0, prim, hb2, hbw, d1, lq]
    rw [S_impl_ReplyRead_1]; unfold B_impl_ReplyRead_1; simp [thenD_pp, sliceCells_sl, sliceCells_z, sliceCells_nil, take_full, appS_sl, appK_ok, appS_none, thenD_ag, agP_nil, agP_cons, st0, st1, j1, j2, rd1_K, rdJ_ok, rdn_K, rnJ_ok]
    generalize hx : aCall T0 F_impl_isReply _ _ = xhx
    have hx := hx.symm.trans (c_impl_isReply _ 6 n0 0 false 0 (.slice none 0 0) v' [] (markR ys) st.o1.rep st.o2.rep (by simp) n8 (by simp))
    subst hx
    cases hq : replyB 6 n0 0 false 0 [] (markR ys) with
    | false =>
      have hbf : bq = false := by
        rw [hbq]
        unfold replyX
        rw [hq]
        refine decide_eq_false fun e => ?_
        rw [if_neg (by simp)] at e
        rw [← e] at hlp
        simp at hlp
      subst hbf
      try rw [if_neg (show ¬ ((false : Bool) = true) by decide)]
      have b0 := st.b0
      have b1 := st.b1
      have b0' : _ = some (⟨[.int .i64 0, .bool false, .int .i64 0, .slice none 0 0, .slice none 0 0], 1, 2⟩ : Blk) := b0
      simp [thenD_pp, sliceCells_sl, sliceCells_z, sliceCells_nil, take_full, appS_sl, appK_ok, appS_none, thenD_ag, agP_nil, agP_cons, b0', b1, gs_of b0, prim, rd1_K, rdJ_ok, rdn_K, rnJ_ok, wrn_K, wrJ_ok]
      exact sat_some (by first | exact rrd_nil (pf_set (Nat.le_refl _) st.pre) | exact rrd_nil (List.prefix_append _ _))
    | true =>
      have i1 := one_head st.o1.rep.one
      have i2 := one_head st.o2.rep.one
      have b1 := st.b1
      simp [thenD_pp, sliceCells_sl, sliceCells_z, sliceCells_nil, take_full, appS_sl, appK_ok, appS_none, thenD_ag, agP_nil, agP_cons, b1, rdn_K, rnJ_ok]
      generalize hx : aCall T0 F_impl_replyOf _ _ = xhx
      obtain ⟨vv, X2, rfl, gg⟩ := of_call hx (c_impl_replyOf _ 6 n0 0 false 0 (.slice none 0 0) v' [] (markR ys) st.o1.rep st.o2.rep hq)
      clear hx
      obtain ⟨L9, p2, o9, _⟩ := bg_rep gg
      have st2 := st.grow p2
      have b0 := st2.b0
      have b1 := st2.b1
      have b0' : X2[M.length]? = some ⟨[.int .i64 0, .bool false, .int .i64 0, .slice none 0 0, .slice none 0 0], 1, 2⟩ := b0
      have s3 := c_bytes_Equal X2 _ _ _ ys o9.rep (h.mono st2.pre)
      have hrt : replyX 6 n0 ((0 : Int), false, (0 : Int), [], markR ys) = replyT 6 n0 0 false 0 [] (markR ys) := by unfold replyX; rw [if_pos hq]
      rw [hrt] at hbq
      obtain ⟨_, _, rfl⟩ := o9.rep.slen
      generalize replyT 6 n0 0 false 0 [] (markR ys) = zs at s3 hbq ⊢
      cases bq with
      | true =>
        have hbq := of_decide_eq_true hbq.symm
        rw [decide_eq_true hbq] at s3
        try rw [if_pos rfl]
        simp [thenD_pp, sliceCells_sl, sliceCells_z, sliceCells_nil, take_full, appS_sl, appK_ok, appS_none, thenD_ag, agP_nil, agP_cons, s3, i1, i2, b0', b1, gs_of b0, prim, rd1_K, rdJ_ok, rdn_K, rnJ_ok, wrn_K, wrJ_ok]
        exact sat_some (st2.done (by refine ⟨?_, ?_⟩ <;> first | omega | decide) (by refine ⟨?_, ?_⟩ <;> first | omega | decide) true)
      | false =>
        have hbq := of_decide_eq_false hbq.symm
        rw [decide_eq_false hbq] at s3
        try rw [if_neg (show ¬ ((false : Bool) = true) by decide)]
        simp [thenD_pp, sliceCells_sl, sliceCells_z, sliceCells_nil, take_full, appS_sl, appK_ok, appS_none, thenD_ag, agP_nil, agP_cons, s3, i1, i2, b0', b1, gs_of b0, prim, rd1_K, rdJ_ok, rdn_K, rnJ_ok, wrn_K, wrJ_ok]
        exact sat_some (rrd_nil (pf_set (Nat.le_refl _) st2.pre))
  · have hr : rrX kind ys = ((atN ys 0 : Int), false, 0, [], []) := by
      unfold rrX
      simp only [h1, h2, h6, and_false, if_false]
    rw [hr]
    obtain ⟨bq, hbq⟩ : ∃ b, b = decide (replyX kind slots ((atN ys 0 : Int), false, (0 : Int), [], []) = ys) := ⟨_, rfl⟩
    rw [← hbq]
    have st := rs_new (M := M) (k := (0 : Int)) (f := false) (w := 0)
    unfold zY at st
    rw [hki] at hbq ⊢
    rw [aCall_eq T_impl_ReplyRead]; unfold A_impl_ReplyRead C_impl_ReplyRead; simp [thenD_pp, sliceCells_sl, sliceCells_z, sliceCells_nil, take_full, appS_sl, appK_ok, appS_none, thenD_ag, agP_nil, agP_cons, s1, s2, eq_true hl2, hlp, k0, e0, hk0, h1, h2, h6, w0, prim]
    generalize hx : aCall T0 F_impl_isReply _ _ = xhx
    have hx := hx.symm.trans (c_impl_isReply _ kind slots 0 false 0 (.slice none 0 0) (.slice none 0 0) [] [] st.o1.rep st.o2.rep (by simp) (by simp) (by simp))
    subst hx
    cases hq : replyB kind slots 0 false 0 [] [] with
    | false =>
      have hbf : bq = false := by
        rw [hbq]
        unfold replyX
        rw [hq]
        refine decide_eq_false fun e => ?_
        rw [if_neg (by simp)] at e
        rw [← e] at hlp
        simp at hlp
      subst hbf
      try rw [if_neg (show ¬ ((false : Bool) = true) by decide)]
      have b0 := st.b0
      have b1 := st.b1
      have b0' : _ = some (⟨[.int .i64 0, .bool false, .int .i64 0, .slice none 0 0, .slice none 0 0], 1, 2⟩ : Blk) := b0
      simp [thenD_pp, sliceCells_sl, sliceCells_z, sliceCells_nil, take_full, appS_sl, appK_ok, appS_none, thenD_ag, agP_nil, agP_cons, b0', b1, gs_of b0, prim, rd1_K, rdJ_ok, rdn_K, rnJ_ok, wrn_K, wrJ_ok]
      exact sat_some (by first | exact rrd_nil (pf_set (Nat.le_refl _) st.pre) | exact rrd_nil (List.prefix_append _ _))
    | true =>
      have i1 := one_head st.o1.rep.one
      have i2 := one_head st.o2.rep.one
      have b1 := st.b1
      simp [thenD_pp, sliceCells_sl, sliceCells_z, sliceCells_nil, take_full, appS_sl, appK_ok, appS_none, thenD_ag, agP_nil, agP_cons, b1, rdn_K, rnJ_ok]
      generalize hx : aCall T0 F_impl_replyOf _ _ = xhx
      obtain ⟨vv, X2, rfl, gg⟩ := of_call hx (c_impl_replyOf _ kind slots 0 false 0 (.slice none 0 0) (.slice none 0 0) [] [] st.o1.rep st.o2.rep hq)
      clear hx
      obtain ⟨L9, p2, o9, _⟩ := bg_rep gg
      have st2 := st.grow p2
      have b0 := st2.b0
      have b1 := st2.b1
      have b0' : X2[M.length]? = some ⟨[.int .i64 0, .bool false, .int .i64 0, .slice none 0 0, .slice none 0 0], 1, 2⟩ := b0
      have s3 := c_bytes_Equal X2 _ _ _ ys o9.rep (h.mono st2.pre)
      have hrt : replyX kind slots ((0 : Int), false, (0 : Int), [], []) = replyT kind slots 0 false 0 [] [] := by unfold replyX; rw [if_pos hq]
      rw [hrt] at hbq
      obtain ⟨_, _, rfl⟩ := o9.rep.slen
      generalize replyT kind slots 0 false 0 [] [] = zs at s3 hbq ⊢
      cases bq with
      | true =>
        have hbq := of_decide_eq_true hbq.symm
        rw [decide_eq_true hbq] at s3
        try rw [if_pos rfl]
        simp [thenD_pp, sliceCells_sl, sliceCells_z, sliceCells_nil, take_full, appS_sl, appK_ok, appS_none, thenD_ag, agP_nil, agP_cons, s3, i1, i2, b0', b1, gs_of b0, prim, rd1_K, rdJ_ok, rdn_K, rnJ_ok, wrn_K, wrJ_ok]
        exact sat_some (st2.done (by refine ⟨?_, ?_⟩ <;> first | omega | decide) (by refine ⟨?_, ?_⟩ <;> first | omega | decide) true)
      | false =>
        have hbq := of_decide_eq_false hbq.symm
        rw [decide_eq_false hbq] at s3
        try rw [if_neg (show ¬ ((false : Bool) = true) by decide)]
        simp [thenD_pp, sliceCells_sl, sliceCells_z, sliceCells_nil, take_full, appS_sl, appK_ok, appS_none, thenD_ag, agP_nil, agP_cons, s3, i1, i2, b0', b1, gs_of b0, prim, rd1_K, rdJ_ok, rdn_K, rnJ_ok, wrn_K, wrJ_ok]
        exact sat_some (rrd_nil (pf_set (Nat.le_refl _) st2.pre))
theorem d_impl_ReplyRead (M : Mem) (kind slots : Int) (v : V) (ys : List UInt8) (h : Rep (.sl ty_Byte) M [v] ys) (hb : Bd 1048576 (.sl ty_Byte) ys) :
    ∃ M' cs L, M <+: M' ∧ aCall T0 F_impl_ReplyRead [.int .i64 kind, .int .i64 slots, v] M = some (.tuple #[.agg (cs : List V).toArray, .bool (rrB kind slots ys)], M') ∧ Own ty_Reply M' cs (rrR kind slots ys) L ∧ Fresh M M' L := by
  obtain ⟨⟨u, X⟩, e, cs, L, rfl, p, o, f⟩ := w_impl_ReplyRead M kind slots v ys h hb.1
  exact ⟨X, cs, L, p, e, o, f⟩
set_option maxHeartbeats 8000000 in
set_option maxRecDepth 20000 in
theorem c_laws_FnExactReplyRead (M : Mem) (kind : Int) (slots : Int) (v_data : V) (data : List ty_Byte.D) (h_data : Rep (.sl ty_Byte) M [v_data] data) (hb_data : Bd 9223372036854775807 (.sl ty_Byte) data) : ∃ M', aCall T0 F_laws_FnExactReplyRead [.int .i64 kind, .int .i64 slots, v_data] M = some (.bool true, M') := by
  by_cases hg_data : 1048576 < (data.length : Int)
  · refine ⟨M, ?_⟩
    obtain ⟨_, _, rfl⟩ := h_data.slen
    rw [aCall_eq T_laws_FnExactReplyRead]; unfold A_laws_FnExactReplyRead C_laws_FnExactReplyRead; simp [thenD_pp, sliceCells_sl, sliceCells_z, sliceCells_nil, take_full, appS_sl, appK_ok, appS_none, thenD_ag, agP_nil, agP_cons, hg_data]
  have hb1_data : Bd 1048576 (.sl ty_Byte) data := ⟨by omega, fun _ _ => trivial⟩
  have hr_0 : Bd 1048576 ty_Reply (rrR kind slots data) := rrR_bd kind slots data hb1_data
  have ht_0 := tot_Reply _ hr_0
  have ht_data := tot_ByteS _ hb1_data
  obtain ⟨M1, u2, L3, p4, t5, o6, F7⟩ := k_laws_toByteS M v_data data (h_data.mono ((List.prefix_refl _).trans (List.prefix_refl _))) hb1_data
  have f8 : ∀ l ∈ L3, M.length ≤ l ∧ l < M1.length := by intro l hl; have := F7.2 l hl; (try simp only [List.length_append, List.length_cons, List.length_nil] at this); omega
  have q9 : M <+: M1 := (List.prefix_refl _).trans p4
  have ln10 : M.length ≤ M1.length := by have := p4.length_le; (try simp only [List.length_append, List.length_cons, List.length_nil] at this); omega
  have z11 : M <+: M1 := (List.prefix_refl _).trans q9
  obtain ⟨M13, g16, p14, s15, o17⟩ := d_spec_ReplyRead M1 kind slots u2 data ((Own.grow (List.prefix_refl _) o6)).rep hb1_data
  have q18 : M1 <+: M13 := (List.prefix_refl _).trans p14
  have ln19 : M1.length ≤ M13.length := by have := p14.length_le; (try simp only [List.length_append, List.length_cons, List.length_nil] at this); omega
  have o20 := Own.grow q18 o6
  have z21 : M <+: M13 := z11.trans q18
  have hl_g16 : g16.length = 5 := (o17).len
  have ho_g16 := (o17).one
  obtain ⟨M23, u24, L25, p26, t27, o28, F29⟩ := k_laws_toByteS (M13 ++ [⟨g16, 1, 2⟩]) v_data data (h_data.mono (z21.trans (List.prefix_append _ _))) hb1_data
  have f30 : ∀ l ∈ L25, M13.length + 1 ≤ l ∧ l < M23.length := by intro l hl; have := F29.2 l hl; (try simp only [List.length_append, List.length_cons, List.length_nil] at this); omega
  have q31 : M13 <+: M23 := (List.prefix_append _ _).trans p26
  have ln32 : M13.length + 1 ≤ M23.length := by have := p26.length_le; (try simp only [List.length_append, List.length_cons, List.length_nil] at this); omega
  have b33 : M23[M13.length]? = some ⟨g16, 1, 2⟩ := get_pre p26 (by simp)
  have z34 : M <+: M23 := z21.trans q31
  have y35 : M13 <+: M23 := (List.prefix_refl _).trans q31
  obtain ⟨M37, g40, L41, p38, s39, o42, F43⟩ := d_impl_ReplyRead M23 kind slots u24 data ((Own.grow (List.prefix_refl _) o28)).rep hb1_data
  have q44 : M23 <+: M37 := (List.prefix_refl _).trans p38
  have ln45 : M23.length ≤ M37.length := by have := p38.length_le; (try simp only [List.length_append, List.length_cons, List.length_nil] at this); omega
  have b46 : M37[M13.length]? = some ⟨g16, 1, 2⟩ := get_pre q44 b33
  have o47 := Own.grow q44 o28
  have z48 : M <+: M37 := z34.trans q44
  have y49 : M13 <+: M37 := y35.trans q44
  have f50 : ∀ l ∈ L41, M23.length ≤ l ∧ l < M37.length := by intro l hl; have := F43.2 l (by simp [hl]); (try simp only [List.length_append, List.length_cons, List.length_nil] at this); omega
  have nd51 : L41.Nodup := by have := F43.1; first | exact this | (simp only [List.nodup_append] at this; simp [this])
  have hl_g40 : g40.length = 5 := (o42.rep).len
  have ho_g40 := (o42.rep).one
  have r53 : rdn (M37 ++ [⟨g40, 1, 2⟩]) (M37.length) 0 5 = some g40 := rdn_box (by first | simp | rfl) hl_g40.symm
  have r54 : rdn (M37 ++ [⟨g40, 1, 2⟩]) (M13.length) 0 5 = some g16 := rdn_old (rdn_box b46 hl_g16.symm)
  have e55 := (ans_of (k_laws_eqReply (M37 ++ [⟨g40, 1, 2⟩]) _ _ _ _ ((Own.grow (List.prefix_append _ _) o42)).rep (o17.mono (y49.trans (List.prefix_append _ _))) (hr_0.mono (by decide)))).1 rfl
  obtain ⟨M56, u57, L58, p59, t60, o61, F62⟩ := k_laws_toByteS (M37 ++ [⟨g40, 1, 2⟩]) v_data data (h_data.mono (z48.trans (List.prefix_append _ _))) hb1_data
  have f63 : ∀ l ∈ L58, M37.length + 1 ≤ l ∧ l < M56.length := by intro l hl; have := F62.2 l hl; (try simp only [List.length_append, List.length_cons, List.length_nil] at this); omega
  have q64 : M37 <+: M56 := (List.prefix_append _ _).trans p59
  have ln65 : M37.length + 1 ≤ M56.length := by have := p59.length_le; (try simp only [List.length_append, List.length_cons, List.length_nil] at this); omega
  have b66 : M56[M13.length]? = some ⟨g16, 1, 2⟩ := get_pre q64 b46
  have b67 : M56[M37.length]? = some ⟨g40, 1, 2⟩ := get_pre p59 (by simp)
  have o68 := Own.grow q64 o47
  have o69 := Own.grow q64 o42
  have z70 : M <+: M56 := z48.trans q64
  have y71 : M13 <+: M56 := y49.trans q64
  have e73 := (ans_of (k_laws_eqByteS M56 _ _ _ _ ((Own.grow (List.prefix_refl _) o68)).rep ((Own.grow (List.prefix_refl _) o61)).rep (hb1_data.mono (by decide)))).1 rfl
  obtain ⟨M74, m75, up76, o77⟩ := k_laws_markByteS M56 _ _ _ (1) (Own.grow (List.prefix_refl _) o68) F29.1 hb1_data (by omega) (by omega)
  have ln78 : M56.length ≤ M74.length := by have := up76.1; (try simp only [List.length_append, List.length_cons, List.length_nil] at this); omega
  have hh80 : M56[M13.length]? = some ⟨g16, 1, 2⟩ := get_pre (List.prefix_refl _) b66
  have b79 : M74[M13.length]? = some ⟨g16, 1, 2⟩ := UpdG.get up76 hh80 (fun hl => by have := f30 _ hl; omega)
  have hh82 : M56[M37.length]? = some ⟨g40, 1, 2⟩ := get_pre (List.prefix_refl _) b67
  have b81 : M74[M37.length]? = some ⟨g40, 1, 2⟩ := UpdG.get up76 hh82 (fun hl => by have := f30 _ hl; omega)
  have o83 := Own.updg up76 (Own.grow (List.prefix_refl _) o69) (fun l hl hk => (by have := f50 l hl; have := f30 l hk; omega))
  have z84 : M <+: M74 := UpdG.pre up76 (z70.trans (List.prefix_refl _)) (fun l hl => by have := f30 l hl; omega)
  have y85 : M13 <+: M74 := UpdG.pre up76 (y71.trans (List.prefix_refl _)) (fun l hl => by have := f30 l hl; omega)
  have c86 : ¬ (1 + gt_ByteS data < 0) := by omega
  have r87 : rdn M74 (M37.length) 0 5 = some g40 := rdn_box b81 hl_g40.symm
  have r88 : rdn M74 (M13.length) 0 5 = some g16 := rdn_box b79 hl_g16.symm
  have e89 := (ans_of (k_laws_eqReply M74 _ _ _ _ ((Own.grow (List.prefix_refl _) o83)).rep (o17.mono (y85.trans (List.prefix_refl _))) (hr_0.mono (by decide)))).1 rfl
  have r90 : rdn M74 (M37.length) 0 5 = some g40 := rdn_box b81 hl_g40.symm
  obtain ⟨M91, m92, up93, o94⟩ := k_laws_markReply M74 _ _ _ (1) (Own.grow (List.prefix_refl _) o83) nd51 hr_0 (by omega) (by omega)
  have ln95 : M74.length ≤ M91.length := by have := up93.1; (try simp only [List.length_append, List.length_cons, List.length_nil] at this); omega
  have hh97 : M74[M13.length]? = some ⟨g16, 1, 2⟩ := get_pre (List.prefix_refl _) b79
  have b96 : M91[M13.length]? = some ⟨g16, 1, 2⟩ := UpdG.get up93 hh97 (fun hl => by have := f50 _ hl; omega)
  have hh99 : M74[M37.length]? = some ⟨g40, 1, 2⟩ := get_pre (List.prefix_refl _) b81
  have b98 : M91[M37.length]? = some ⟨g40, 1, 2⟩ := UpdG.get up93 hh99 (fun hl => by have := f50 _ hl; omega)
  have o100 := Own.updg up93 (Own.grow (List.prefix_refl _) o77) (fun l hl hk => (by have := f30 l hl; have := f50 l hk; omega))
  have z101 : M <+: M91 := UpdG.pre up93 (z84.trans (List.prefix_refl _)) (fun l hl => by have := f50 l hl; omega)
  have y102 : M13 <+: M91 := UpdG.pre up93 (y85.trans (List.prefix_refl _)) (fun l hl => by have := f50 l hl; omega)
  have c103 : ¬ (1 + gt_Reply (rrR kind slots data) < 0) := by omega
  have r104 : rdn M91 (M37.length) 0 5 = some g40 := rdn_box b98 hl_g40.symm
  have d105 := k_laws_heldReply M91 _ _ (1) ((Own.grow (List.prefix_refl _) o94)).rep hr_0 (by omega) (by omega)
  have c106 : ¬ (1 + gt_Reply (rrR kind slots data) < 0) := by omega
  obtain ⟨M107, u108, L109, p110, t111, o112, F113⟩ := k_laws_toByteS M91 v_data data (h_data.mono (z101.trans (List.prefix_refl _))) hb1_data
  have f114 : ∀ l ∈ L109, M91.length ≤ l ∧ l < M107.length := by intro l hl; have := F113.2 l hl; (try simp only [List.length_append, List.length_cons, List.length_nil] at this); omega
  have q115 : M91 <+: M107 := (List.prefix_refl _).trans p110
  have ln116 : M91.length ≤ M107.length := by have := p110.length_le; (try simp only [List.length_append, List.length_cons, List.length_nil] at this); omega
  have b117 : M107[M13.length]? = some ⟨g16, 1, 2⟩ := get_pre q115 b96
  have b118 : M107[M37.length]? = some ⟨g40, 1, 2⟩ := get_pre q115 b98
  have o119 := Own.grow q115 o100
  have o120 := Own.grow q115 o94
  have z121 : M <+: M107 := z101.trans q115
  have y122 : M13 <+: M107 := y102.trans q115
  obtain ⟨M124, g127, L128, p125, s126, o129, F130⟩ := d_impl_ReplyRead M107 kind slots u108 data ((Own.grow (List.prefix_refl _) o112)).rep hb1_data
  have q131 : M107 <+: M124 := (List.prefix_refl _).trans p125
  have ln132 : M107.length ≤ M124.length := by have := p125.length_le; (try simp only [List.length_append, List.length_cons, List.length_nil] at this); omega
  have b133 : M124[M13.length]? = some ⟨g16, 1, 2⟩ := get_pre q131 b117
  have b134 : M124[M37.length]? = some ⟨g40, 1, 2⟩ := get_pre q131 b118
  have o135 := Own.grow q131 o119
  have o136 := Own.grow q131 o120
  have o137 := Own.grow q131 o112
  have z138 : M <+: M124 := z121.trans q131
  have y139 : M13 <+: M124 := y122.trans q131
  have f140 : ∀ l ∈ L128, M107.length ≤ l ∧ l < M124.length := by intro l hl; have := F130.2 l (by simp [hl]); (try simp only [List.length_append, List.length_cons, List.length_nil] at this); omega
  have nd141 : L128.Nodup := by have := F130.1; first | exact this | (simp only [List.nodup_append] at this; simp [this])
  have hl_g127 : g127.length = 5 := (o129.rep).len
  have ho_g127 := (o129.rep).one
  have r143 : rdn (M124 ++ [⟨g127, 1, 2⟩]) (M124.length) 0 5 = some g127 := rdn_box (by first | simp | rfl) hl_g127.symm
  have r144 : rdn (M124 ++ [⟨g127, 1, 2⟩]) (M13.length) 0 5 = some g16 := rdn_old (rdn_box b133 hl_g16.symm)
  have e145 := (ans_of (k_laws_eqReply (M124 ++ [⟨g127, 1, 2⟩]) _ _ _ _ ((Own.grow (List.prefix_append _ _) o129)).rep (o17.mono (y139.trans (List.prefix_append _ _))) (hr_0.mono (by decide)))).1 rfl
  have r146 : rdn (M124 ++ [⟨g127, 1, 2⟩]) (M37.length) 0 5 = some g40 := rdn_old (rdn_box b134 hl_g40.symm)
  have d147 := k_laws_heldReply (M124 ++ [⟨g127, 1, 2⟩]) _ _ (1) ((Own.grow (List.prefix_append _ _) o136)).rep hr_0 (by omega) (by omega)
  have c148 : ¬ (1 + gt_Reply (rrR kind slots data) < 0) := by omega
  obtain ⟨_, _, rfl⟩ := h_data.slen
  rw [aCall_eq T_laws_FnExactReplyRead]; unfold A_laws_FnExactReplyRead C_laws_FnExactReplyRead; simp (maxSteps := 4000000) [thenD_pp, sliceCells_sl, sliceCells_z, sliceCells_nil, take_full, appS_sl, appK_ok, appS_none, thenD_ag, agP_nil, agP_cons, hg_data, t5, p4, s15, p14, hl_g16, ho_g16, t27, p26, s39, p38, hl_g40, ho_g40, r53, r54, e55, t60, p59, e73, m75, c86, r87, r88, e89, r90, m92, c103, r104, d105, c106, t111, p110, s126, p125, hl_g127, ho_g127, r143, r144, e145, r146, d147, c148, thenD_pre]
  all_goals exact gc_ex _ _ _
theorem law_laws_FnExactReplyRead (M : Mem) (avs : List V) (_ : ∀ b ∈ M, b.st ≠ 2) (h : Ins [(false, (.int .i64)), (false, (.int .i64)), (false, (.sl .u8))] M avs) : ∃ M', aCall T0 F_laws_FnExactReplyRead avs M = some (.bool true, M') := by
  obtain ⟨v_kind, _, kind, rfl, h_kind, f_kind, h⟩ := ins_cons h
  obtain ⟨v_slots, _, slots, rfl, h_slots, f_slots, h⟩ := ins_cons h
  obtain ⟨v_data, _, data, rfl, h_data, f_data, h⟩ := ins_cons h
  obtain rfl := ins_nil h
  obtain ⟨h_kind, _⟩ := repv_one h_kind
  cases h_kind
  obtain ⟨h_slots, _⟩ := repv_one h_slots
  cases h_slots
  exact c_laws_FnExactReplyRead M kind slots v_data data (repv_one h_data) (fit_bd f_data)
end GoAm
