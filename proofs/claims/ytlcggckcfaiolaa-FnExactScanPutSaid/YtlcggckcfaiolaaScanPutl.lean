/- What the functions do that the law reaches; and the law. -/
import Derived.Test.YtlcggckcfaiolaaScanPutl0
set_option autoImplicit false
set_option linter.unusedVariables false
set_option linter.unusedSimpArgs false
namespace GoAm
open Go
theorem c_impl_Scan_put (M : Mem) (p : Nat) (sz : Int) (u0 u1 v : V) (cells : List ty_Cell.D) (log : List ty_Touch.D) (rs : List ty_Rec.D) (L0 L1 Lr : List Nat) (op : Int) (e : ty_Entry.D)
    (hb : M[p]? = some ⟨[.int .i64 sz, u0, u1], 1, 2⟩) (g0 : Gr (.sl ty_Cell) M [u0] cells L0) (g1 : Gr (.sl ty_Touch) M [u1] log L1) (nd : (L0 ++ L1).Nodup) (hp : p ∉ L0 ++ L1) (gr : Gr (.sl ty_Rec) M [v] rs Lr) (hd : ∀ j ∈ Lr, j ∉ p :: (L0 ++ L1)) (ndr : Lr.Nodup)
    (hr : ∀ r ∈ rs, recB r = true) (hn : rs.length = cells.length) (hn0 : 1 ≤ rs.length) (hn2 : rs.length ≤ 64) (hl : log.length + 2 * rs.length ≤ 6000) (hw : (Lit.int .i64 sz).wf = true) (he : e.1.length ≤ 9223372036854775807) (hew : (Lit.int .i64 e.2).wf = true) :
    Sat (aCall T0 F_impl_Scan_put [.pointer (some ⟨p, 0, none⟩), v, .int .i64 op, .agg (enc_Entry e).toArray] M) (PutD M p sz u0 (L0 ++ L1 ++ Lr) cells log rs op e) := by
  have hpl := get_lt hb
  have hpX := List.prefix_append M [(⟨enc_Entry e, 1, 2⟩ : Blk)]
  have s1 := c_impl_scanPlace (M ++ [(⟨enc_Entry e, 1, 2⟩ : Blk)]) v rs op e (gr.rep.mono hpX) (by omega) he
  obtain ⟨a1, rfl⟩ := g1.shape
  obtain ⟨ar, rfl⟩ := gr.shape
  have w1 : IntKind.i64.wrap (2 * (rs.length : Int)) = 2 * rs.length := wrap_i64 (by omega) (by omega)
  have w2 : IntKind.i64.wrap ((log.length : Int) + 2 * (rs.length : Int)) = log.length + 2 * rs.length := wrap_i64 (by omega) (by omega)
  have w3 : ¬ (6000 : Int) < (log.length : Int) + 2 * (rs.length : Int) := by omega
  have b2' : ∀ N : Mem, (M ++ N)[p]? = some ⟨[.int .i64 sz, u0, .slice a1 log.length log.length], 1, 2⟩ := fun N => get_pre' hb
  have hps : PSt (M ++ [(⟨enc_Entry e, 1, 2⟩ : Blk)]) p sz u0 (L0 ++ L1) cells log (M ++ [(⟨enc_Entry e, 1, 2⟩ : Blk)]) := ⟨_, L0, L1, b2' _, g0.grow hpX, g1.grow hpX, nd, fun j hj => .inl hj, Nat.le_refl _, fun _ _ _ => rfl⟩
  by_cases h0 : op = 0
  · subst h0
    obtain ⟨X', q, eq⟩ := l_impl_Scan_put_0 (M ++ [(⟨enc_Entry e, 1, 2⟩ : Blk)]) p sz u0 (.slice ar rs.length rs.length) (L0 ++ L1) cells log rs (.int .i64 0) (gr.rep.mono hpX) (fun l o n c ee => by
      have := gr_wfs gr l (by cases ee; simp [wfs])
      exact hd l this) (by simp; omega) hp hr hn hn2 (by omega) hw _ hps
    simp only [Int.natCast_zero, Int.ofNat_zero] at eq
    have q2 : PSt M p sz u0 (L0 ++ L1 ++ Lr) (wrP cells (putR rs 0 e) rs.length) (logP sz log rs.length) X' := put_end (by unfold putR; rw [if_neg (by simp)]; exact q) (fun j hj _ => List.getElem?_append_left hj) (by simp) (fun j hj => .inl (List.mem_append_left _ hj))
    have hnp := put_np hb q2 (by rw [logP_len]; omega)
    rw [aCall_eq T_impl_Scan_put]; unfold A_impl_Scan_put C_impl_Scan_put; simp [thenD_pp, sliceCells_sl, sliceCells_z, sliceCells_nil, take_full, appS_sl, appK_ok, appS_none, thenD_ag, agP_nil, agP_cons, b2', w1, w2, w3, eq, rd1_K, rdJ_ok]
    rw [S_impl_Scan_put_0]; unfold B_impl_Scan_put_0; simp [thenD_pp, sliceCells_sl, sliceCells_z, sliceCells_nil, take_full, appS_sl, appK_ok, appS_none, thenD_ag, agP_nil, agP_cons]
    rw [gc_np hnp]
    exact sat_some ⟨rfl, by rw [← List.append_assoc]; exact q2⟩
  have hps2 : ∀ rp : V, ∃ X', PSt M p sz u0 (L0 ++ L1 ++ Lr) (wrP cells rs rs.length) (logP sz log rs.length) X' ∧ lp (aCall T0) K_impl_Scan_put_0 L_impl_Scan_put_0 [.pointer (some ⟨p, 0, none⟩), und, und, und, und, und, und, und, und, und, und, rp, und, und, und, und, und, und, und, und, und, und, und, und, und, und, und, und, und, und, und, und, und, und, und, und, und, und, und, und, und, und, und, und, und, und, und, und, und, und, und, und, und, und, .slice ar rs.length rs.length, .int .i64 rs.length, .int .i64 0, und, und, und, und, und, und, und, und, und, und, und, und, und, und, und, und, und, und] (M ++ [(⟨enc_Entry e, 1, 2⟩ : Blk)]) = lp (aCall T0) K_impl_Scan_put_0 L_impl_Scan_put_0 [.pointer (some ⟨p, 0, none⟩), und, und, und, und, und, und, und, und, und, und, rp, und, und, und, und, und, und, und, und, und, und, und, und, und, und, und, und, und, und, und, und, und, und, und, und, und, und, und, und, und, und, und, und, und, und, und, und, und, und, und, und, und, und, .slice ar rs.length rs.length, .int .i64 rs.length, .int .i64 rs.length, und, und, und, und, und, und, und, und, und, und, und, und, und, und, und, und, und, und] X' := fun rp => by
    obtain ⟨X', q, eq⟩ := l_impl_Scan_put_0 (M ++ [(⟨enc_Entry e, 1, 2⟩ : Blk)]) p sz u0 (.slice ar rs.length rs.length) (L0 ++ L1) cells log rs rp (gr.rep.mono hpX) (fun l o n c ee => by
      have := gr_wfs gr l (by cases ee; simp [wfs])
      exact hd l this) (by simp; omega) hp hr hn hn2 (by omega) hw _ hps
    simp only [Int.natCast_zero, Int.ofNat_zero] at eq
    exact ⟨X', put_end q (fun j hj _ => List.getElem?_append_left hj) (by simp) (fun j hj => .inl (List.mem_append_left _ hj)), eq⟩
  rcases place_cases rs op e with hpl0 | ⟨hpl0, hee, j, hj1, hj2⟩
  · obtain ⟨X', q2, eq⟩ := hps2 (.int .i64 (placeX rs op e).2)
    have hnp := put_np hb q2 (by rw [logP_len]; omega)
    have hR : putR rs op e = rs := by unfold putR; rw [if_neg (fun h => hpl0 h.2)]
    have hC : putC rs op e = (placeX rs op e).2 := by unfold putC; rw [if_neg h0]
    rw [aCall_eq T_impl_Scan_put]; unfold A_impl_Scan_put C_impl_Scan_put; simp [thenD_pp, sliceCells_sl, sliceCells_z, sliceCells_nil, take_full, appS_sl, appK_ok, appS_none, thenD_ag, agP_nil, agP_cons, b2', w1, w2, w3, h0, s1, hpl0, eq, rd1_K, rdJ_ok]
    rw [S_impl_Scan_put_0]; unfold B_impl_Scan_put_0; simp [thenD_pp, sliceCells_sl, sliceCells_z, sliceCells_nil, take_full, appS_sl, appK_ok, appS_none, thenD_ag, agP_nil, agP_cons]
    rw [gc_np hnp]
    exact sat_some ⟨by rw [hC], by rw [hR, ← List.append_assoc]; exact q2⟩
  · have hR : putR rs op e = rs.set j (nowX op e) := by unfold putR; rw [if_pos ⟨h0, hpl0⟩, hj1]; rfl
    have hC : putC rs op e = 0 := by unfold putC; rw [if_neg h0, hpl0]
    rw [hj1, hpl0] at s1
    obtain ⟨l, cs, Lr1, ev, hbl, hcl, hlr, gz, ndz, subz⟩ := (gr.grow hpX).put hj2 (fl_Rec.1 (M ++ [(⟨enc_Entry e, 1, 2⟩ : Blk)]) zRec ⟨by decide, by decide⟩) (by simp) ndr (by simp)
    cases ev
    have hlp : l ≠ p := fun ee => hd l hlr (by simp [ee])
    have hlM : l < M.length := gr.lt l hlr
    have hbl : (M ++ [(⟨enc_Entry e, 1, 2⟩ : Blk)])[l]? = some ⟨cs, 4, 2⟩ := hbl
    have hcl : j * 4 + 4 ≤ cs.length := hcl
    have wr1 : wrn (M ++ [(⟨enc_Entry e, 1, 2⟩ : Blk)]) l (j * 4) [.bool false, .int .i64 0, .int .i64 0, .string ⟨#[]⟩] = some ((M ++ [(⟨enc_Entry e, 1, 2⟩ : Blk)]).set l ⟨splice cs (j * ty_Rec.w) (enc_Rec zRec), ty_Rec.w, 2⟩) := wrn_eq hbl rfl hcl rfl
    generalize hZ1 : ((M ++ [(⟨enc_Entry e, 1, 2⟩ : Blk)]).set l ⟨splice cs (j * ty_Rec.w) (enc_Rec zRec), ty_Rec.w, 2⟩ : Mem) = Z1 at gz wr1
    have hZ1n : ∀ i, i ≠ l → Z1[i]? = (M ++ [(⟨enc_Entry e, 1, 2⟩ : Blk)])[i]? := fun i hi => by rw [← hZ1]; exact gt_set (Ne.symm hi)
    have hZ1l : Z1.length = M.length + 1 := by rw [← hZ1]; simp
    have fin : ∀ (Z : Mem) (rp : V) (Lr2 : List Nat), Z.length = M.length + 1 → (∀ i, i ≠ l → Z[i]? = (M ++ [(⟨enc_Entry e, 1, 2⟩ : Blk)])[i]?) → Gr (.sl ty_Rec) Z [.slice (some ⟨l, 0, none⟩) rs.length rs.length] (rs.set j (nowX op e)) Lr2 → (∀ x ∈ Lr2, x ∈ Lr) → ∃ X', PSt M p sz u0 (L0 ++ L1 ++ Lr) (wrP cells (putR rs op e) rs.length) (logP sz log rs.length) X' ∧ lp (aCall T0) K_impl_Scan_put_0 L_impl_Scan_put_0 [.pointer (some ⟨p, 0, none⟩), und, und, und, und, und, und, und, und, und, und, rp, und, und, und, und, und, und, und, und, und, und, und, und, und, und, und, und, und, und, und, und, und, und, und, und, und, und, und, und, und, und, und, und, und, und, und, und, und, und, und, und, und, und, .slice (some ⟨l, 0, none⟩) rs.length rs.length, .int .i64 rs.length, .int .i64 0, und, und, und, und, und, und, und, und, und, und, und, und, und, und, und, und, und, und] Z = lp (aCall T0) K_impl_Scan_put_0 L_impl_Scan_put_0 [.pointer (some ⟨p, 0, none⟩), und, und, und, und, und, und, und, und, und, und, rp, und, und, und, und, und, und, und, und, und, und, und, und, und, und, und, und, und, und, und, und, und, und, und, und, und, und, und, und, und, und, und, und, und, und, und, und, und, und, und, und, und, und, .slice (some ⟨l, 0, none⟩) rs.length rs.length, .int .i64 rs.length, .int .i64 rs.length, und, und, und, und, und, und, und, und, und, und, und, und, und, und, und, und, und, und] X' := by
      intro Z rp Lr2 hzl hzn gZ hL2
      have hnl : ∀ x ∈ L0 ++ L1, x ≠ l := fun x hx ee => hd l hlr (List.mem_cons_of_mem _ (ee ▸ hx))
      have hln : (putR rs op e).length = rs.length := putR_len rs op e
      have hps3 : PSt Z p sz u0 (L0 ++ L1) cells log Z := ⟨_, L0, L1, by rw [hzn p (Ne.symm hlp)]; exact b2' _, (g0.grow hpX).keep (fun x hx => hzn x (hnl x (List.mem_append_left _ hx))), (g1.grow hpX).keep (fun x hx => hzn x (hnl x (List.mem_append_right _ hx))), nd, fun x hx => .inl hx, Nat.le_refl _, fun _ _ _ => rfl⟩
      obtain ⟨X', q, eq⟩ := l_impl_Scan_put_0 Z p sz u0 (.slice (some ⟨l, 0, none⟩) rs.length rs.length) (L0 ++ L1) cells log (putR rs op e) rp (by rw [hR]; exact gZ.rep) (fun l2 o n c ee => by
        cases ee
        exact hd l hlr) (by omega) hp (putR_ok hr) (by omega) (by omega) (by omega) hw Z hps3
      rw [hln] at q eq
      simp only [Int.natCast_zero, Int.ofNat_zero] at eq
      refine ⟨X', put_end q (fun i hi hni => ?_) (by omega) (fun i hi => .inl (List.mem_append_left _ hi)), eq⟩
      rw [hzn i (fun ee => hni (by subst ee; simp [hlr])), List.getElem?_append_left hi]
    by_cases h4 : op = 4
    · obtain ⟨X', q2, eq⟩ := fin Z1 (.int .i64 0) Lr1 hZ1l hZ1n (by unfold nowX; rw [if_pos h4]; exact gz) (fun x hx => by
        rcases subz x hx with h | h
        · exact h
        · simp at h)
      have hnp := put_np hb q2 (by rw [logP_len]; omega)
      subst h4
      rw [aCall_eq T_impl_Scan_put]; unfold A_impl_Scan_put C_impl_Scan_put; simp [thenD_pp, sliceCells_sl, sliceCells_z, sliceCells_nil, take_full, appS_sl, appK_ok, appS_none, thenD_ag, agP_nil, agP_cons, b2', w1, w2, w3, s1, hj2, wr1, eq, rd1_K, rdJ_ok]
      rw [S_impl_Scan_put_0]; unfold B_impl_Scan_put_0; simp [thenD_pp, sliceCells_sl, sliceCells_z, sliceCells_nil, take_full, appS_sl, appK_ok, appS_none, thenD_ag, agP_nil, agP_cons]
      rw [gc_np hnp]
      exact sat_some ⟨by rw [hC], by rw [← List.append_assoc]; exact q2⟩
    · have hbe : Z1[M.length]? = some ⟨enc_Entry e, 1, 2⟩ := by rw [hZ1n _ (by omega)]; simp
      obtain ⟨l', cs', Lr2, ev, hbl2, hcl2, hlr2, gz2, ndz2, subz2⟩ := gz.put (i := j) (by simpa using hj2) (fl_Rec.1 Z1 (true, (0 : Int), e.2, e.1) ⟨show (Lit.int .i64 0).wf = true by decide, hew⟩) (by simp) ndz (by simp)
      simp only [List.length_set] at ev
      cases ev
      have hbl2 : Z1[l]? = some ⟨cs', 4, 2⟩ := hbl2
      have hcl2 : j * 4 + 4 ≤ cs'.length := hcl2
      have wr2 : wrn Z1 l (j * 4) [.bool true, .int .i64 0, .int .i64 e.2, strV e.1] = some (Z1.set l ⟨splice cs' (j * ty_Rec.w) (enc_Rec (true, (0 : Int), e.2, e.1)), ty_Rec.w, 2⟩) := wrn_eq hbl2 rfl hcl2 rfl
      generalize hZ2 : (Z1.set l ⟨splice cs' (j * ty_Rec.w) (enc_Rec (true, (0 : Int), e.2, e.1)), ty_Rec.w, 2⟩ : Mem) = Z2 at gz2 wr2
      obtain ⟨X', q2, eq⟩ := fin Z2 (.int .i64 0) Lr2 (by rw [← hZ2, List.length_set, hZ1l]) (fun i hi => by rw [← hZ2, gt_set (Ne.symm hi)]; exact hZ1n i hi) (by
        unfold nowX
        rw [if_neg h4]
        rw [List.set_set] at gz2
        exact gz2) (fun x hx => by
        rcases subz2 x hx with h | h
        · rcases subz x h with h | h
          · exact h
          · simp at h
        · simp at h)
      have hnp := put_np hb q2 (by rw [logP_len]; omega)
      rw [aCall_eq T_impl_Scan_put]; unfold A_impl_Scan_put C_impl_Scan_put; simp [thenD_pp, sliceCells_sl, sliceCells_z, sliceCells_nil, take_full, appS_sl, appK_ok, appS_none, thenD_ag, agP_nil, agP_cons, b2', w1, w2, w3, h0, s1, hj2, wr1, h4, hbe, wr2, eq, rd1_K, rdJ_ok]
      rw [S_impl_Scan_put_0]; unfold B_impl_Scan_put_0; simp [thenD_pp, sliceCells_sl, sliceCells_z, sliceCells_nil, take_full, appS_sl, appK_ok, appS_none, thenD_ag, agP_nil, agP_cons]
      rw [gc_np hnp]
      exact sat_some ⟨by rw [hC], by rw [← List.append_assoc]; exact q2⟩
theorem c_impl_Scan_put_full (M : Mem) (p : Nat) (sz : Int) (u0 u1 v : V) (log : List ty_Touch.D) (rs : List ty_Rec.D) (op : Int) (e : ty_Entry.D)
    (hb : M[p]? = some ⟨[.int .i64 sz, u0, u1], 1, 2⟩) (g1 : Rep (.sl ty_Touch) M [u1] log) (gr : Rep (.sl ty_Rec) M [v] rs) (hl : 6000 < log.length + 2 * rs.length) (hn2 : rs.length ≤ 1048576) (hl2 : log.length ≤ 1048576) :
    aCall T0 F_impl_Scan_put [.pointer (some ⟨p, 0, none⟩), v, .int .i64 op, .agg (enc_Entry e).toArray] M = some (.tuple #[.int .i64 0, .int .i64 4], M) := by
  obtain ⟨a1, c1, rfl⟩ := g1.slen
  obtain ⟨ar, cr, rfl⟩ := gr.slen
  have w1 : IntKind.i64.wrap (2 * (rs.length : Int)) = 2 * rs.length := wrap_i64 (by omega) (by omega)
  have w2 : IntKind.i64.wrap ((log.length : Int) + 2 * (rs.length : Int)) = log.length + 2 * rs.length := wrap_i64 (by omega) (by omega)
  have w3 : (6000 : Int) < (log.length : Int) + 2 * (rs.length : Int) := by omega
  have b2' : ∀ N : Mem, (M ++ N)[p]? = some ⟨[.int .i64 sz, u0, .slice a1 log.length c1], 1, 2⟩ := fun N => get_pre' hb
  rw [aCall_eq T_impl_Scan_put]; unfold A_impl_Scan_put C_impl_Scan_put; simp [thenD_pp, sliceCells_sl, sliceCells_z, sliceCells_nil, take_full, appS_sl, appK_ok, appS_none, thenD_ag, agP_nil, agP_cons, b2', w1, w2, w3, rd1_K, rdJ_ok]
/-- What ScanPut hands back. -/
def ScPD (M : Mem) (m : ty_Scan.D) (op : Int) (e : ty_Entry.D) (p : V × Mem) : Prop := ∃ (ds : List V) (L : List Nat), p.1 = .tuple #[.agg ds.toArray, .int .i64 (putA m op e), .int .i64 (putB m op)] ∧ M <+: p.2 ∧ Gr ty_Mem p.2 ds (putX m op e) L ∧ L.Nodup ∧ ∀ l ∈ L, M.length ≤ l
theorem scpd_nil {M X : Mem} {m : ty_Scan.D} {op : Int} {e : ty_Entry.D} (h : M <+: X) (hb : putBad m op = true ∨ putFull m = true) {k : Int} (hk : putB m op = k) : ScPD M m op e (.tuple #[.agg #[.int .i64 0, .slice none 0 0, .slice none 0 0], .int .i64 0, .int .i64 k], X) := by
  refine ⟨[.int .i64 0, .slice none 0 0, .slice none 0 0], [] ++ [], ?_, h, ?_, by simp, by simp⟩
  · unfold putA
    rw [if_pos hb, hk]
  · unfold putX
    rw [if_pos hb]
    exact gr_Mem (x := zScan) (by decide) Gr.nil Gr.nil
theorem scan_parts {m : ty_Scan.D} (h : scanB m = true) : (m.1 : Int) = 37 ∧ (1 ≤ m.2.1.length ∧ m.2.1.length ≤ 64) ∧ m.2.2.length ≤ 6000 ∧ (∀ c ∈ m.2.1, List.length (α := UInt8) c = 37) ∧ (∀ c ∈ m.2.1, recR c = true) := by
  unfold scanB at h
  simp only [Bool.and_eq_true, decide_eq_true_eq] at h
  obtain ⟨⟨⟨h1, h2, h3⟩, hm⟩, h4, _⟩ := h
  unfold memB mem0 at hm
  simp only [Bool.and_eq_true, decide_eq_true_eq, List.all_eq_true] at hm h4
  refine ⟨h1, ⟨h2, h3⟩, hm.1.2.2, fun c hc => ?_, fun c hc => ?_⟩
  · have := hm.2.1 c hc
    unfold cellB at this
    have := of_decide_eq_true this
    exact Int.ofNat.inj (this.trans h1)
  · have := h4 c hc
    unfold recOk at this
    rw [Bool.and_eq_true] at this
    exact this.1
theorem Gr.of_eq {t : Ty} {M : Mem} {cs : List V} {x y : t.D} {L : List Nat} (h : Gr t M cs x L) (e : x = y) : Gr t M cs y L := e ▸ h
theorem gr_Mem_inv {M : Mem} {ds : List V} {m : ty_Mem.D} {L : List Nat} (h : Gr ty_Mem M ds m L) : ∃ u0 u1 L0 L1, ds = [.int .i64 m.1, u0, u1] ∧ (Lit.int .i64 m.1).wf = true ∧ Gr (.sl ty_Cell) M [u0] m.2.1 L0 ∧ Gr (.sl ty_Touch) M [u1] m.2.2 L1 ∧ L = L0 ++ L1 := by
  obtain ⟨c1, c2, K1, K2, rfl, ⟨⟨rfl, w⟩, rfl⟩, ⟨d1, d2, K3, K4, rfl, g0, g1, rfl⟩, rfl⟩ := h
  have h0 := g0.len
  have h1 := g1.len
  match d1, h0, d2, h1 with
  | [u0], _, [u1], _ => exact ⟨u0, u1, K3, K4, rfl, w, g0, g1, rfl⟩
set_option maxHeartbeats 1000000 in
theorem w_impl_ScanPut (M : Mem) (cs : List V) (m : ty_Scan.D) (op : Int) (e : ty_Entry.D) (h : Rep ty_Scan M cs m) (he : e.1.length ≤ 9223372036854775807) (hew : (Lit.int .i64 e.2).wf = true) :
    Sat (aCall T0 F_impl_ScanPut [.agg cs.toArray, .int .i64 op, .agg (enc_Entry e).toArray] M) (ScPD M m op e) := by
  have s1 := fun N : Mem => c_impl_scanRecs (M ++ N) cs m (h.mono (List.prefix_append _ _))
  obtain ⟨a, b, c, d, rfl, r0, r1⟩ := mem_shape h
  rw [aCall_eq T_impl_ScanPut]; unfold A_impl_ScanPut C_impl_ScanPut; simp [thenD_pp, sliceCells_sl, sliceCells_z, sliceCells_nil, take_full, appS_sl, appK_ok, appS_none, thenD_ag, agP_nil, agP_cons]
  generalize hx : aCall T0 F_impl_scanRecs _ _ = xhx
  obtain ⟨w1, X1, rfl, v, n, e1, p1, hn1, g1⟩ := of_call hx (s1 _)
  clear hx
  simp only at e1
  subst e1
  have pM : M <+: X1 := (List.prefix_append _ _).trans p1
  have b0 : X1[M.length]? = some ⟨[.int .i64 m.1, .slice a m.2.1.length c, .slice b m.2.2.length d], 1, 2⟩ := get_pre p1 (by simp)
  have b1 : X1[M.length + 1]? = some ⟨enc_Entry e, 1, 2⟩ := get_pre p1 (by simp)
  have b2 : X1[M.length + 2]? = some ⟨[.int .i64 0, .slice none 0 0, .slice none 0 0], 1, 2⟩ := get_pre p1 (by simp)
  cases hs : scanB m with
  | false =>
    have hbad : putBad m op = true := by unfold putBad; rw [hs]; rfl
    simp [thenD_pp, sliceCells_sl, sliceCells_z, sliceCells_nil, take_full, appS_sl, appK_ok, appS_none, thenD_ag, agP_nil, agP_cons, b2, gs_of b2, rdn_K, rnJ_ok, wrn_K, wrJ_ok]
    exact sat_some (scpd_nil (pf_set (by omega) pM) (.inl hbad) (by unfold putB; rw [if_pos hbad]))
  | true =>
  by_cases hop : op ≠ 0 ∧ op ≠ 3 ∧ op ≠ 4 ∧ op ≠ 5
  · have hbad : putBad m op = true := by unfold putBad; rw [decide_eq_true hop, Bool.or_true]
    obtain ⟨o1, o2, o3, o4⟩ := hop
    simp [thenD_pp, sliceCells_sl, sliceCells_z, sliceCells_nil, take_full, appS_sl, appK_ok, appS_none, thenD_ag, agP_nil, agP_cons, o1, o2, o3, o4, b2, gs_of b2, rdn_K, rnJ_ok, wrn_K, wrJ_ok]
    exact sat_some (scpd_nil (pf_set (by omega) pM) (.inl hbad) (by unfold putB; rw [if_pos hbad]))
  obtain ⟨z1, ⟨z2, z3⟩, z4, z5, z6⟩ := scan_parts hs
  have s2 := c_impl_cloneMem X1 _ m (h.mono pM) ⟨by omega, z4, fun x hx => by rw [z5 x hx]; omega⟩
  unfold scanR at hn1 g1
  rw [if_pos hs] at hn1 g1
  obtain ⟨Lr, gr, ndr, hlr⟩ := grow_gr fl_Rec g1 hn1 (fun r hr => by
    have := recs_bd r hr
    exact ⟨wf_range this.1.1, wf_range this.1.2⟩)
  have hop2 : op = 0 ∨ op = 3 ∨ op = 4 ∨ op = 5 := by omega
  have hngood : putBad m op = false := by unfold putBad; rw [hs, decide_eq_false hop]; rfl
  have fin1 : ∀ (x : Option (V × Mem)), True := fun _ => trivial
  rcases hop2 with rfl | rfl | rfl | rfl
  · simp [thenD_pp, sliceCells_sl, sliceCells_z, sliceCells_nil, take_full, appS_sl, appK_ok, appS_none, thenD_ag, agP_nil, agP_cons, b0, rdn_K, rnJ_ok]
    generalize hx : aCall T0 F_impl_cloneMem _ _ = xhx
    obtain ⟨w2, X2, rfl, ds, L, rfl, p2, gm, ndm, hlm⟩ := of_call hx s2
    clear hx
    simp only at p2 gm hlm
    obtain ⟨u0, u1, L0, L1, rfl, hw, gc0, gl0, rfl⟩ := gr_Mem_inv gm
    have y2 := get_pre p2 b2
    have y1 := get_pre p2 b1
    have i0 := one_head gc0.one
    have i1 := one_head gl0.one
    obtain ⟨a0, rfl⟩ := gc0.shape
    obtain ⟨a1, rfl⟩ := gl0.shape
    have y1' := fun N : Mem => get_pre' (N := N) y1
    have y2' := fun N : Mem => get_pre' (N := N) y2
    simp [thenD_pp, sliceCells_sl, sliceCells_z, sliceCells_nil, take_full, appS_sl, appK_ok, appS_none, thenD_ag, agP_nil, agP_cons, y1', rdn_K, rnJ_ok]
    generalize hx : aCall T0 F_impl_Scan_put _ _ = xhx
    have hpX2 := List.prefix_append X2 [(⟨[.int .i64 m.1, .slice a0 m.2.1.length m.2.1.length, .slice a1 m.2.2.length m.2.2.length], 1, 2⟩ : Blk)]
    cases hf : putFull m with
    | true =>
      have hx := hx.symm.trans (c_impl_Scan_put_full _ X2.length m.1 (.slice a0 m.2.1.length m.2.1.length) (.slice a1 m.2.2.length m.2.2.length) v m.2.2 (m.2.1.map recX) (0) e (by simp) (gl0.grow hpX2).rep ((gr.grow p2).grow hpX2).rep (by unfold putFull at hf; have := of_decide_eq_true hf; simp; omega) (by simp; omega) (by omega))
      subst hx
      simp [thenD_pp, sliceCells_sl, sliceCells_z, sliceCells_nil, take_full, appS_sl, appK_ok, appS_none, thenD_ag, agP_nil, agP_cons, y2', gs_of (y2' _), rdn_K, rnJ_ok, wrn_K, wrJ_ok]
      exact sat_some (scpd_nil (pf_set (by omega) (pf_app (pM.trans p2))) (.inr hf) (by unfold putB; rw [hngood, if_neg (by decide), if_pos hf]))
    | false =>
      have hle : m.2.2.length + 2 * m.2.1.length ≤ 6000 := by
        unfold putFull at hf
        have := of_decide_eq_false hf
        omega
      have hlr2 : ∀ j ∈ Lr, j < X1.length := fun j hj => gr.lt j hj
      have hlrM : ∀ j ∈ Lr, M.length + 3 ≤ j := fun j hj => by have := hlr j hj; simp at this; omega
      have hx' := c_impl_Scan_put (X2 ++ [(⟨[.int .i64 m.1, .slice a0 m.2.1.length m.2.1.length, .slice a1 m.2.2.length m.2.2.length], 1, 2⟩ : Blk)]) X2.length m.1 (.slice a0 m.2.1.length m.2.1.length) (.slice a1 m.2.2.length m.2.2.length) v m.2.1 m.2.2 (m.2.1.map recX) L0 L1 Lr (0) e (by simp) (gc0.grow hpX2) (gl0.grow hpX2) ndm (fun hm => by have := gm.lt _ hm; omega) ((gr.grow p2).grow hpX2) (fun j hj hm => by
        have := hlr2 j hj
        have := p2.length_le
        rcases List.mem_cons.1 hm with hm | hm
        · omega
        · have := hlm j hm; omega) ndr (fun r hr => by
        obtain ⟨c0, hc0, rfl⟩ := List.mem_map.1 hr
        have := z6 c0 hc0
        unfold recX
        rw [if_pos this]
        unfold recR at this
        simp only [Bool.and_eq_true] at this
        exact this.2.1) (by simp) (by simp; omega) (by simp; omega) (by simp; omega) hw he hew
      obtain ⟨w3, X4, rfl, e3, q⟩ := of_call hx hx'
      clear hx hx'
      simp only at e3
      subst e3
      obtain ⟨u1', K0, K1, q1, gc, gl, ndk, subk, ag⟩ := q
      have hX1l : M.length + 3 ≤ X1.length := by have := p1.length_le; simpa using this
      have hX2l := p2.length_le
      have hX4l : X2.length + 1 ≤ X4.length := by have := ag.1; simpa using this
      have y4 : X4[M.length + 2]? = some ⟨[.int .i64 0, .slice none 0 0, .slice none 0 0], 1, 2⟩ := by
        rw [ag.2 (M.length + 2) (by simp; omega) (fun hm => by
          simp only [List.mem_cons, List.mem_append] at hm
          rcases hm with hm | (hm | hm) | hm
          · omega
          · have := hlm _ (List.mem_append_left _ hm); omega
          · have := hlm _ (List.mem_append_right _ hm); omega
          · have := hlrM _ hm; omega)]
        exact y2' _
      obtain ⟨a5, rfl⟩ := gl.shape
      simp [thenD_pp, sliceCells_sl, sliceCells_z, sliceCells_nil, take_full, appS_sl, appK_ok, appS_none, thenD_ag, agP_nil, agP_cons, q1, y4, gs_of y4, rdn_K, rnJ_ok, wrn_K, wrJ_ok]
      rw [gc_not (by rfl)]
      have hmm : M.length + 2 ∉ K0 ++ K1 := fun hm => by
        rcases subk _ hm with h | h
        · simp only [List.mem_append] at h
          rcases h with (h | h) | h
          · have := hlm _ (List.mem_append_left _ h); omega
          · have := hlm _ (List.mem_append_right _ h); omega
          · have := hlrM _ h; omega
        · simp at h; omega
      have hpX4 : M <+: X4 := ag.pre (pf_app (pM.trans p2)) (fun j hj => by
        simp only [List.mem_cons, List.mem_append] at hj
        rcases hj with h | (h | h) | h
        · omega
        · have := hlm _ (List.mem_append_left _ h); omega
        · have := hlm _ (List.mem_append_right _ h); omega
        · have := hlrM _ h; omega)
      have hno : ¬ (putBad m (0) = true ∨ putFull m = true) := by rw [hngood, hf]; simp
      have gm2 := gr_Mem (x := (m.1, wrP m.2.1 (putR (m.2.1.map recX) (0) e) (m.2.1.map recX).length, logP m.1 m.2.2 (m.2.1.map recX).length)) hw gc gl
      have hwr : wrP m.2.1 (putR (m.2.1.map recX) (0) e) (m.2.1.map recX).length = (putR (m.2.1.map recX) (0) e).map recT := by
        unfold wrP
        rw [List.take_of_length_le (by rw [putR_len]; exact Nat.le_refl _), List.drop_of_length_le (by simp), List.append_nil]
      rw [hwr, List.length_map] at gm2
      refine sat_some ⟨_, K0 ++ K1, ?_, pf_set (by omega) hpX4, Gr.of_eq (Gr.set (l := M.length + 2) (b := _) gm2 hmm) ?_, ndk, fun j hj => ?_⟩
      · unfold putA putB
        rw [if_neg hno, if_neg (by rw [hngood]; decide), if_neg (by rw [hf]; decide)]
      · unfold putX
        rw [if_neg hno]
      · rcases subk j hj with h | h
        · simp only [List.mem_append] at h
          rcases h with (h | h) | h
          · have := hlm _ (List.mem_append_left _ h); omega
          · have := hlm _ (List.mem_append_right _ h); omega
          · have := hlrM _ h; omega
        · simp at h; omega
  · simp [thenD_pp, sliceCells_sl, sliceCells_z, sliceCells_nil, take_full, appS_sl, appK_ok, appS_none, thenD_ag, agP_nil, agP_cons, b0, rdn_K, rnJ_ok]
    generalize hx : aCall T0 F_impl_cloneMem _ _ = xhx
    obtain ⟨w2, X2, rfl, ds, L, rfl, p2, gm, ndm, hlm⟩ := of_call hx s2
    clear hx
    simp only at p2 gm hlm
    obtain ⟨u0, u1, L0, L1, rfl, hw, gc0, gl0, rfl⟩ := gr_Mem_inv gm
    have y2 := get_pre p2 b2
    have y1 := get_pre p2 b1
    have i0 := one_head gc0.one
    have i1 := one_head gl0.one
    obtain ⟨a0, rfl⟩ := gc0.shape
    obtain ⟨a1, rfl⟩ := gl0.shape
    have y1' := fun N : Mem => get_pre' (N := N) y1
    have y2' := fun N : Mem => get_pre' (N := N) y2
    simp [thenD_pp, sliceCells_sl, sliceCells_z, sliceCells_nil, take_full, appS_sl, appK_ok, appS_none, thenD_ag, agP_nil, agP_cons, y1', rdn_K, rnJ_ok]
    generalize hx : aCall T0 F_impl_Scan_put _ _ = xhx
    have hpX2 := List.prefix_append X2 [(⟨[.int .i64 m.1, .slice a0 m.2.1.length m.2.1.length, .slice a1 m.2.2.length m.2.2.length], 1, 2⟩ : Blk)]
    cases hf : putFull m with
    | true =>
      have hx := hx.symm.trans (c_impl_Scan_put_full _ X2.length m.1 (.slice a0 m.2.1.length m.2.1.length) (.slice a1 m.2.2.length m.2.2.length) v m.2.2 (m.2.1.map recX) (3) e (by simp) (gl0.grow hpX2).rep ((gr.grow p2).grow hpX2).rep (by unfold putFull at hf; have := of_decide_eq_true hf; simp; omega) (by simp; omega) (by omega))
      subst hx
      simp [thenD_pp, sliceCells_sl, sliceCells_z, sliceCells_nil, take_full, appS_sl, appK_ok, appS_none, thenD_ag, agP_nil, agP_cons, y2', gs_of (y2' _), rdn_K, rnJ_ok, wrn_K, wrJ_ok]
      exact sat_some (scpd_nil (pf_set (by omega) (pf_app (pM.trans p2))) (.inr hf) (by unfold putB; rw [hngood, if_neg (by decide), if_pos hf]))
    | false =>
      have hle : m.2.2.length + 2 * m.2.1.length ≤ 6000 := by
        unfold putFull at hf
        have := of_decide_eq_false hf
        omega
      have hlr2 : ∀ j ∈ Lr, j < X1.length := fun j hj => gr.lt j hj
      have hlrM : ∀ j ∈ Lr, M.length + 3 ≤ j := fun j hj => by have := hlr j hj; simp at this; omega
      have hx' := c_impl_Scan_put (X2 ++ [(⟨[.int .i64 m.1, .slice a0 m.2.1.length m.2.1.length, .slice a1 m.2.2.length m.2.2.length], 1, 2⟩ : Blk)]) X2.length m.1 (.slice a0 m.2.1.length m.2.1.length) (.slice a1 m.2.2.length m.2.2.length) v m.2.1 m.2.2 (m.2.1.map recX) L0 L1 Lr (3) e (by simp) (gc0.grow hpX2) (gl0.grow hpX2) ndm (fun hm => by have := gm.lt _ hm; omega) ((gr.grow p2).grow hpX2) (fun j hj hm => by
        have := hlr2 j hj
        have := p2.length_le
        rcases List.mem_cons.1 hm with hm | hm
        · omega
        · have := hlm j hm; omega) ndr (fun r hr => by
        obtain ⟨c0, hc0, rfl⟩ := List.mem_map.1 hr
        have := z6 c0 hc0
        unfold recX
        rw [if_pos this]
        unfold recR at this
        simp only [Bool.and_eq_true] at this
        exact this.2.1) (by simp) (by simp; omega) (by simp; omega) (by simp; omega) hw he hew
      obtain ⟨w3, X4, rfl, e3, q⟩ := of_call hx hx'
      clear hx hx'
      simp only at e3
      subst e3
      obtain ⟨u1', K0, K1, q1, gc, gl, ndk, subk, ag⟩ := q
      have hX1l : M.length + 3 ≤ X1.length := by have := p1.length_le; simpa using this
      have hX2l := p2.length_le
      have hX4l : X2.length + 1 ≤ X4.length := by have := ag.1; simpa using this
      have y4 : X4[M.length + 2]? = some ⟨[.int .i64 0, .slice none 0 0, .slice none 0 0], 1, 2⟩ := by
        rw [ag.2 (M.length + 2) (by simp; omega) (fun hm => by
          simp only [List.mem_cons, List.mem_append] at hm
          rcases hm with hm | (hm | hm) | hm
          · omega
          · have := hlm _ (List.mem_append_left _ hm); omega
          · have := hlm _ (List.mem_append_right _ hm); omega
          · have := hlrM _ hm; omega)]
        exact y2' _
      obtain ⟨a5, rfl⟩ := gl.shape
      simp [thenD_pp, sliceCells_sl, sliceCells_z, sliceCells_nil, take_full, appS_sl, appK_ok, appS_none, thenD_ag, agP_nil, agP_cons, q1, y4, gs_of y4, rdn_K, rnJ_ok, wrn_K, wrJ_ok]
      rw [gc_not (by rfl)]
      have hmm : M.length + 2 ∉ K0 ++ K1 := fun hm => by
        rcases subk _ hm with h | h
        · simp only [List.mem_append] at h
          rcases h with (h | h) | h
          · have := hlm _ (List.mem_append_left _ h); omega
          · have := hlm _ (List.mem_append_right _ h); omega
          · have := hlrM _ h; omega
        · simp at h; omega
      have hpX4 : M <+: X4 := ag.pre (pf_app (pM.trans p2)) (fun j hj => by
        simp only [List.mem_cons, List.mem_append] at hj
        rcases hj with h | (h | h) | h
        · omega
        · have := hlm _ (List.mem_append_left _ h); omega
        · have := hlm _ (List.mem_append_right _ h); omega
        · have := hlrM _ h; omega)
      have hno : ¬ (putBad m (3) = true ∨ putFull m = true) := by rw [hngood, hf]; simp
      have gm2 := gr_Mem (x := (m.1, wrP m.2.1 (putR (m.2.1.map recX) (3) e) (m.2.1.map recX).length, logP m.1 m.2.2 (m.2.1.map recX).length)) hw gc gl
      have hwr : wrP m.2.1 (putR (m.2.1.map recX) (3) e) (m.2.1.map recX).length = (putR (m.2.1.map recX) (3) e).map recT := by
        unfold wrP
        rw [List.take_of_length_le (by rw [putR_len]; exact Nat.le_refl _), List.drop_of_length_le (by simp), List.append_nil]
      rw [hwr, List.length_map] at gm2
      refine sat_some ⟨_, K0 ++ K1, ?_, pf_set (by omega) hpX4, Gr.of_eq (Gr.set (l := M.length + 2) (b := _) gm2 hmm) ?_, ndk, fun j hj => ?_⟩
      · unfold putA putB
        rw [if_neg hno, if_neg (by rw [hngood]; decide), if_neg (by rw [hf]; decide)]
      · unfold putX
        rw [if_neg hno]
      · rcases subk j hj with h | h
        · simp only [List.mem_append] at h
          rcases h with (h | h) | h
          · have := hlm _ (List.mem_append_left _ h); omega
          · have := hlm _ (List.mem_append_right _ h); omega
          · have := hlrM _ h; omega
        · simp at h; omega
  · simp [thenD_pp, sliceCells_sl, sliceCells_z, sliceCells_nil, take_full, appS_sl, appK_ok, appS_none, thenD_ag, agP_nil, agP_cons, b0, rdn_K, rnJ_ok]
    generalize hx : aCall T0 F_impl_cloneMem _ _ = xhx
    obtain ⟨w2, X2, rfl, ds, L, rfl, p2, gm, ndm, hlm⟩ := of_call hx s2
    clear hx
    simp only at p2 gm hlm
    obtain ⟨u0, u1, L0, L1, rfl, hw, gc0, gl0, rfl⟩ := gr_Mem_inv gm
    have y2 := get_pre p2 b2
    have y1 := get_pre p2 b1
    have i0 := one_head gc0.one
    have i1 := one_head gl0.one
    obtain ⟨a0, rfl⟩ := gc0.shape
    obtain ⟨a1, rfl⟩ := gl0.shape
    have y1' := fun N : Mem => get_pre' (N := N) y1
    have y2' := fun N : Mem => get_pre' (N := N) y2
    simp [thenD_pp, sliceCells_sl, sliceCells_z, sliceCells_nil, take_full, appS_sl, appK_ok, appS_none, thenD_ag, agP_nil, agP_cons, y1', rdn_K, rnJ_ok]
    generalize hx : aCall T0 F_impl_Scan_put _ _ = xhx
    have hpX2 := List.prefix_append X2 [(⟨[.int .i64 m.1, .slice a0 m.2.1.length m.2.1.length, .slice a1 m.2.2.length m.2.2.length], 1, 2⟩ : Blk)]
    cases hf : putFull m with
    | true =>
      have hx := hx.symm.trans (c_impl_Scan_put_full _ X2.length m.1 (.slice a0 m.2.1.length m.2.1.length) (.slice a1 m.2.2.length m.2.2.length) v m.2.2 (m.2.1.map recX) (4) e (by simp) (gl0.grow hpX2).rep ((gr.grow p2).grow hpX2).rep (by unfold putFull at hf; have := of_decide_eq_true hf; simp; omega) (by simp; omega) (by omega))
      subst hx
      simp [thenD_pp, sliceCells_sl, sliceCells_z, sliceCells_nil, take_full, appS_sl, appK_ok, appS_none, thenD_ag, agP_nil, agP_cons, y2', gs_of (y2' _), rdn_K, rnJ_ok, wrn_K, wrJ_ok]
      exact sat_some (scpd_nil (pf_set (by omega) (pf_app (pM.trans p2))) (.inr hf) (by unfold putB; rw [hngood, if_neg (by decide), if_pos hf]))
    | false =>
      have hle : m.2.2.length + 2 * m.2.1.length ≤ 6000 := by
        unfold putFull at hf
        have := of_decide_eq_false hf
        omega
      have hlr2 : ∀ j ∈ Lr, j < X1.length := fun j hj => gr.lt j hj
      have hlrM : ∀ j ∈ Lr, M.length + 3 ≤ j := fun j hj => by have := hlr j hj; simp at this; omega
      have hx' := c_impl_Scan_put (X2 ++ [(⟨[.int .i64 m.1, .slice a0 m.2.1.length m.2.1.length, .slice a1 m.2.2.length m.2.2.length], 1, 2⟩ : Blk)]) X2.length m.1 (.slice a0 m.2.1.length m.2.1.length) (.slice a1 m.2.2.length m.2.2.length) v m.2.1 m.2.2 (m.2.1.map recX) L0 L1 Lr (4) e (by simp) (gc0.grow hpX2) (gl0.grow hpX2) ndm (fun hm => by have := gm.lt _ hm; omega) ((gr.grow p2).grow hpX2) (fun j hj hm => by
        have := hlr2 j hj
        have := p2.length_le
        rcases List.mem_cons.1 hm with hm | hm
        · omega
        · have := hlm j hm; omega) ndr (fun r hr => by
        obtain ⟨c0, hc0, rfl⟩ := List.mem_map.1 hr
        have := z6 c0 hc0
        unfold recX
        rw [if_pos this]
        unfold recR at this
        simp only [Bool.and_eq_true] at this
        exact this.2.1) (by simp) (by simp; omega) (by simp; omega) (by simp; omega) hw he hew
      obtain ⟨w3, X4, rfl, e3, q⟩ := of_call hx hx'
      clear hx hx'
      simp only at e3
      subst e3
      obtain ⟨u1', K0, K1, q1, gc, gl, ndk, subk, ag⟩ := q
      have hX1l : M.length + 3 ≤ X1.length := by have := p1.length_le; simpa using this
      have hX2l := p2.length_le
      have hX4l : X2.length + 1 ≤ X4.length := by have := ag.1; simpa using this
      have y4 : X4[M.length + 2]? = some ⟨[.int .i64 0, .slice none 0 0, .slice none 0 0], 1, 2⟩ := by
        rw [ag.2 (M.length + 2) (by simp; omega) (fun hm => by
          simp only [List.mem_cons, List.mem_append] at hm
          rcases hm with hm | (hm | hm) | hm
          · omega
          · have := hlm _ (List.mem_append_left _ hm); omega
          · have := hlm _ (List.mem_append_right _ hm); omega
          · have := hlrM _ hm; omega)]
        exact y2' _
      obtain ⟨a5, rfl⟩ := gl.shape
      simp [thenD_pp, sliceCells_sl, sliceCells_z, sliceCells_nil, take_full, appS_sl, appK_ok, appS_none, thenD_ag, agP_nil, agP_cons, q1, y4, gs_of y4, rdn_K, rnJ_ok, wrn_K, wrJ_ok]
      rw [gc_not (by rfl)]
      have hmm : M.length + 2 ∉ K0 ++ K1 := fun hm => by
        rcases subk _ hm with h | h
        · simp only [List.mem_append] at h
          rcases h with (h | h) | h
          · have := hlm _ (List.mem_append_left _ h); omega
          · have := hlm _ (List.mem_append_right _ h); omega
          · have := hlrM _ h; omega
        · simp at h; omega
      have hpX4 : M <+: X4 := ag.pre (pf_app (pM.trans p2)) (fun j hj => by
        simp only [List.mem_cons, List.mem_append] at hj
        rcases hj with h | (h | h) | h
        · omega
        · have := hlm _ (List.mem_append_left _ h); omega
        · have := hlm _ (List.mem_append_right _ h); omega
        · have := hlrM _ h; omega)
      have hno : ¬ (putBad m (4) = true ∨ putFull m = true) := by rw [hngood, hf]; simp
      have gm2 := gr_Mem (x := (m.1, wrP m.2.1 (putR (m.2.1.map recX) (4) e) (m.2.1.map recX).length, logP m.1 m.2.2 (m.2.1.map recX).length)) hw gc gl
      have hwr : wrP m.2.1 (putR (m.2.1.map recX) (4) e) (m.2.1.map recX).length = (putR (m.2.1.map recX) (4) e).map recT := by
        unfold wrP
        rw [List.take_of_length_le (by rw [putR_len]; exact Nat.le_refl _), List.drop_of_length_le (by simp), List.append_nil]
      rw [hwr, List.length_map] at gm2
      refine sat_some ⟨_, K0 ++ K1, ?_, pf_set (by omega) hpX4, Gr.of_eq (Gr.set (l := M.length + 2) (b := _) gm2 hmm) ?_, ndk, fun j hj => ?_⟩
      · unfold putA putB
        rw [if_neg hno, if_neg (by rw [hngood]; decide), if_neg (by rw [hf]; decide)]
      · unfold putX
        rw [if_neg hno]
      · rcases subk j hj with h | h
        · simp only [List.mem_append] at h
          rcases h with (h | h) | h
          · have := hlm _ (List.mem_append_left _ h); omega
          · have := hlm _ (List.mem_append_right _ h); omega
          · have := hlrM _ h; omega
        · simp at h; omega
  · simp [thenD_pp, sliceCells_sl, sliceCells_z, sliceCells_nil, take_full, appS_sl, appK_ok, appS_none, thenD_ag, agP_nil, agP_cons, b0, rdn_K, rnJ_ok]
    generalize hx : aCall T0 F_impl_cloneMem _ _ = xhx
    obtain ⟨w2, X2, rfl, ds, L, rfl, p2, gm, ndm, hlm⟩ := of_call hx s2
    clear hx
    simp only at p2 gm hlm
    obtain ⟨u0, u1, L0, L1, rfl, hw, gc0, gl0, rfl⟩ := gr_Mem_inv gm
    have y2 := get_pre p2 b2
    have y1 := get_pre p2 b1
    have i0 := one_head gc0.one
    have i1 := one_head gl0.one
    obtain ⟨a0, rfl⟩ := gc0.shape
    obtain ⟨a1, rfl⟩ := gl0.shape
    have y1' := fun N : Mem => get_pre' (N := N) y1
    have y2' := fun N : Mem => get_pre' (N := N) y2
    simp [thenD_pp, sliceCells_sl, sliceCells_z, sliceCells_nil, take_full, appS_sl, appK_ok, appS_none, thenD_ag, agP_nil, agP_cons, y1', rdn_K, rnJ_ok]
    generalize hx : aCall T0 F_impl_Scan_put _ _ = xhx
    have hpX2 := List.prefix_append X2 [(⟨[.int .i64 m.1, .slice a0 m.2.1.length m.2.1.length, .slice a1 m.2.2.length m.2.2.length], 1, 2⟩ : Blk)]
    cases hf : putFull m with
    | true =>
      have hx := hx.symm.trans (c_impl_Scan_put_full _ X2.length m.1 (.slice a0 m.2.1.length m.2.1.length) (.slice a1 m.2.2.length m.2.2.length) v m.2.2 (m.2.1.map recX) (5) e (by simp) (gl0.grow hpX2).rep ((gr.grow p2).grow hpX2).rep (by unfold putFull at hf; have := of_decide_eq_true hf; simp; omega) (by simp; omega) (by omega))
      subst hx
      simp [thenD_pp, sliceCells_sl, sliceCells_z, sliceCells_nil, take_full, appS_sl, appK_ok, appS_none, thenD_ag, agP_nil, agP_cons, y2', gs_of (y2' _), rdn_K, rnJ_ok, wrn_K, wrJ_ok]
      exact sat_some (scpd_nil (pf_set (by omega) (pf_app (pM.trans p2))) (.inr hf) (by unfold putB; rw [hngood, if_neg (by decide), if_pos hf]))
    | false =>
      have hle : m.2.2.length + 2 * m.2.1.length ≤ 6000 := by
        unfold putFull at hf
        have := of_decide_eq_false hf
        omega
      have hlr2 : ∀ j ∈ Lr, j < X1.length := fun j hj => gr.lt j hj
      have hlrM : ∀ j ∈ Lr, M.length + 3 ≤ j := fun j hj => by have := hlr j hj; simp at this; omega
      have hx' := c_impl_Scan_put (X2 ++ [(⟨[.int .i64 m.1, .slice a0 m.2.1.length m.2.1.length, .slice a1 m.2.2.length m.2.2.length], 1, 2⟩ : Blk)]) X2.length m.1 (.slice a0 m.2.1.length m.2.1.length) (.slice a1 m.2.2.length m.2.2.length) v m.2.1 m.2.2 (m.2.1.map recX) L0 L1 Lr (5) e (by simp) (gc0.grow hpX2) (gl0.grow hpX2) ndm (fun hm => by have := gm.lt _ hm; omega) ((gr.grow p2).grow hpX2) (fun j hj hm => by
        have := hlr2 j hj
        have := p2.length_le
        rcases List.mem_cons.1 hm with hm | hm
        · omega
        · have := hlm j hm; omega) ndr (fun r hr => by
        obtain ⟨c0, hc0, rfl⟩ := List.mem_map.1 hr
        have := z6 c0 hc0
        unfold recX
        rw [if_pos this]
        unfold recR at this
        simp only [Bool.and_eq_true] at this
        exact this.2.1) (by simp) (by simp; omega) (by simp; omega) (by simp; omega) hw he hew
      obtain ⟨w3, X4, rfl, e3, q⟩ := of_call hx hx'
      clear hx hx'
      simp only at e3
      subst e3
      obtain ⟨u1', K0, K1, q1, gc, gl, ndk, subk, ag⟩ := q
      have hX1l : M.length + 3 ≤ X1.length := by have := p1.length_le; simpa using this
      have hX2l := p2.length_le
      have hX4l : X2.length + 1 ≤ X4.length := by have := ag.1; simpa using this
      have y4 : X4[M.length + 2]? = some ⟨[.int .i64 0, .slice none 0 0, .slice none 0 0], 1, 2⟩ := by
        rw [ag.2 (M.length + 2) (by simp; omega) (fun hm => by
          simp only [List.mem_cons, List.mem_append] at hm
          rcases hm with hm | (hm | hm) | hm
          · omega
          · have := hlm _ (List.mem_append_left _ hm); omega
          · have := hlm _ (List.mem_append_right _ hm); omega
          · have := hlrM _ hm; omega)]
        exact y2' _
      obtain ⟨a5, rfl⟩ := gl.shape
      simp [thenD_pp, sliceCells_sl, sliceCells_z, sliceCells_nil, take_full, appS_sl, appK_ok, appS_none, thenD_ag, agP_nil, agP_cons, q1, y4, gs_of y4, rdn_K, rnJ_ok, wrn_K, wrJ_ok]
      rw [gc_not (by rfl)]
      have hmm : M.length + 2 ∉ K0 ++ K1 := fun hm => by
        rcases subk _ hm with h | h
        · simp only [List.mem_append] at h
          rcases h with (h | h) | h
          · have := hlm _ (List.mem_append_left _ h); omega
          · have := hlm _ (List.mem_append_right _ h); omega
          · have := hlrM _ h; omega
        · simp at h; omega
      have hpX4 : M <+: X4 := ag.pre (pf_app (pM.trans p2)) (fun j hj => by
        simp only [List.mem_cons, List.mem_append] at hj
        rcases hj with h | (h | h) | h
        · omega
        · have := hlm _ (List.mem_append_left _ h); omega
        · have := hlm _ (List.mem_append_right _ h); omega
        · have := hlrM _ h; omega)
      have hno : ¬ (putBad m (5) = true ∨ putFull m = true) := by rw [hngood, hf]; simp
      have gm2 := gr_Mem (x := (m.1, wrP m.2.1 (putR (m.2.1.map recX) (5) e) (m.2.1.map recX).length, logP m.1 m.2.2 (m.2.1.map recX).length)) hw gc gl
      have hwr : wrP m.2.1 (putR (m.2.1.map recX) (5) e) (m.2.1.map recX).length = (putR (m.2.1.map recX) (5) e).map recT := by
        unfold wrP
        rw [List.take_of_length_le (by rw [putR_len]; exact Nat.le_refl _), List.drop_of_length_le (by simp), List.append_nil]
      rw [hwr, List.length_map] at gm2
      refine sat_some ⟨_, K0 ++ K1, ?_, pf_set (by omega) hpX4, Gr.of_eq (Gr.set (l := M.length + 2) (b := _) gm2 hmm) ?_, ndk, fun j hj => ?_⟩
      · unfold putA putB
        rw [if_neg hno, if_neg (by rw [hngood]; decide), if_neg (by rw [hf]; decide)]
      · unfold putX
        rw [if_neg hno]
      · rcases subk j hj with h | h
        · simp only [List.mem_append] at h
          rcases h with (h | h) | h
          · have := hlm _ (List.mem_append_left _ h); omega
          · have := hlm _ (List.mem_append_right _ h); omega
          · have := hlrM _ h; omega
        · simp at h; omega
theorem entry_wf {M : Mem} {cs : List V} {x : ty_Entry.D} (h : Rep ty_Entry M cs x) : (Lit.int .i64 x.2).wf = true := by
  obtain ⟨c1, c2, _, _, h2⟩ := h
  exact h2.2
theorem scpd_own {M : Mem} {m : ty_Scan.D} {op : Int} {e : ty_Entry.D} {r : Option (V × Mem)} (h : Sat r (ScPD M m op e)) : ∃ M' ds L, M <+: M' ∧ r = some (.tuple #[.agg (ds : List V).toArray, .int .i64 (putA m op e), .int .i64 (putB m op)], M') ∧ Own ty_Scan M' ds (putX m op e) L ∧ Fresh M M' L := by
  obtain ⟨p, rfl, ds, L, e1, e2, g, nd, hl⟩ := h
  obtain ⟨v, X⟩ := p
  simp only at e1 e2 g
  subst e1
  obtain ⟨L', o, sub⟩ := Gr.own g
  exact ⟨X, ds, L', e2, rfl, o, sub.nodup nd, fun l hl2 => ⟨hl l (sub.subset hl2), g.lt l (sub.subset hl2)⟩⟩
theorem d_impl_ScanPut (M : Mem) (cs : List V) (m : ty_Scan.D) (h : Rep ty_Scan M cs m) (hb : Bd 1048576 ty_Scan m) (op : Int) (ce : List V) (e : ty_Entry.D) (he : Rep ty_Entry M ce e) (hbe : Bd 1048576 ty_Entry e) :
    ∃ M' ds L, M <+: M' ∧ aCall T0 F_impl_ScanPut [.agg cs.toArray, .int .i64 op, .agg ce.toArray] M = some (.tuple #[.agg (ds : List V).toArray, .int .i64 (putA m op e), .int .i64 (putB m op)], M') ∧ Own ty_Scan M' ds (putX m op e) L ∧ Fresh M M' L := by
  have hwf := entry_wf he
  have := rep_Entry he
  subst this
  exact scpd_own (w_impl_ScanPut M cs m op e h (by have : List.length (α := UInt8) e.1 ≤ 1048576 := hbe.1; omega) hwf)
theorem r_spec_WordOk (M : Mem) (w : List UInt8) (hw : w.length ≤ 9223372036854775807) (i : Nat) (hi : i < w.length) (hb : okByte w[i] = true) :
    lp (aCall T0) K_spec_WordOk_0 L_spec_WordOk_0 [strV w, und, und, .int .i64 i, und, und, und, und, und, und, und, und, und, und, und, und, und, und, und, und, und, und, und, und, und, und, und, und] M = lp (aCall T0) K_spec_WordOk_0 L_spec_WordOk_0 [strV w, und, und, .int .i64 (i + 1 : Nat), und, und, und, und, und, und, und, und, und, und, und, und, und, und, und, und, und, und, und, und, und, und, und, und] M := by
  obtain ⟨h1, h2⟩ := okByte_t hb
  rw [S_spec_WordOk_0]; unfold B_spec_WordOk_0; simp [hi, byteV, h1, h2]
  rw [wrap_i64 (by omega) (by omega)]
theorem x_spec_WordOk (M : Mem) (w : List UInt8) (hw : w.length ≤ 9223372036854775807) (i : Nat) (hi : i < w.length) (hb : okByte w[i] = false) (k : ACode) :
    thenF M [.tmp 2] (thenS (blockR 0 (lp (aCall T0) K_spec_WordOk_0 L_spec_WordOk_0 [strV w, und, und, .int .i64 i, und, und, und, und, und, und, und, und, und, und, und, und, und, und, und, und, und, und, und, und, und, und, und, und] M)) (aCall T0) k) = some (.bool false, M) := by
  rcases okByte_f hb with h1 | ⟨h1, h2⟩
  · rw [S_spec_WordOk_0]; unfold B_spec_WordOk_0; simp [hi, byteV, h1]
  · rw [S_spec_WordOk_0]; unfold B_spec_WordOk_0; simp [hi, byteV, h1, h2]
theorem c_spec_WordOk (M : Mem) (w : List UInt8) (hw : w.length ≤ 9223372036854775807) : aCall T0 F_spec_WordOk [strV w] M = some (.bool (wordB w), M) := by
  unfold wordB
  by_cases hl1 : (w.length : Int) < 1
  · have : w = [] := List.length_eq_zero_iff.1 (by omega)
    subst this
    rw [aCall_eq T_spec_WordOk]; unfold A_spec_WordOk C_spec_WordOk; simp
  by_cases hl2 : 32 < (w.length : Int)
  · rw [aCall_eq T_spec_WordOk]; unfold A_spec_WordOk C_spec_WordOk; simp [hl1, hl2]
  have e : (decide (1 ≤ (w.length : Int)) && decide ((w.length : Int) ≤ 32)) = true := by simp; omega
  rw [e, Bool.and_true]
  rcases first_byte w with ha | ⟨ha, j, hj, h1, h2⟩
  · have hl := chain (g := fun i : Nat => lp (aCall T0) K_spec_WordOk_0 L_spec_WordOk_0 [strV w, und, und, .int .i64 i, und, und, und, und, und, und, und, und, und, und, und, und, und, und, und, und, und, und, und, und, und, und, und, und] M) (n := w.length) fun i hi => r_spec_WordOk M w hw i hi (List.all_eq_true.1 ha _ (List.getElem_mem hi))
    simp only [Int.natCast_zero, Int.ofNat_zero] at hl
    rw [ha]
    rw [aCall_eq T_spec_WordOk]; unfold A_spec_WordOk C_spec_WordOk; simp [hl, hl1, hl2]
    rw [S_spec_WordOk_0]; unfold B_spec_WordOk_0; simp
  · have hl := chain (g := fun i : Nat => lp (aCall T0) K_spec_WordOk_0 L_spec_WordOk_0 [strV w, und, und, .int .i64 i, und, und, und, und, und, und, und, und, und, und, und, und, und, und, und, und, und, und, und, und, und, und, und, und] M) (n := j) fun i hi => r_spec_WordOk M w hw i (by omega) (h1 i (by omega) hi)
    simp only [Int.natCast_zero, Int.ofNat_zero] at hl
    rw [ha]
    rw [aCall_eq T_spec_WordOk]; unfold A_spec_WordOk C_spec_WordOk; simp [hl, hl1, hl2, x_spec_WordOk M w hw j hj h2]
theorem c_spec_l17Full (M : Mem) (e : ty_Entry.D) (he : e.1.length ≤ 9223372036854775807) : aCall T0 F_spec_l17Full [.agg (enc_Entry e).toArray] M = some (.bool (entB e), M) := by
  unfold entB
  have h := fun M => c_spec_WordOk M e.1 he
  rw [aCall_eq T_spec_l17Full]; unfold A_spec_l17Full C_spec_l17Full; simp [h]
  repeat' ((first | rw [selO_some] | rw [condR_bool] | rw [selD_some]); split <;> rename_i hq <;> (have hq2 := hq) <;> (try simp at hq2) <;> (try simp [*, h]))
def padC (w : List UInt8) (i : Nat) : List V := .int .u8 w.length :: ((w.take i).map byteV ++ zc (.int .u8 0) (32 - i))
theorem padC_set (w : List UInt8) (i : Nat) (hi : i < w.length) (hw : w.length ≤ 32) : (padC w i).set (i + 1) (byteV w[i]) = padC w (i + 1) := by
  unfold padC
  rw [List.set_cons_succ, List.set_append_right _ _ (by simp; omega)]
  have e1 : i - ((w.take i).map byteV).length = 0 := by simp; omega
  have e2 : 32 - i = 32 - (i + 1) + 1 := by omega
  rw [e1, e2, zc_set, List.take_succ_eq_append_getElem hi]
  simp only [List.map_append, List.map_cons, List.map_nil, List.append_assoc, List.cons_append, List.nil_append]
theorem padC_len (w : List UInt8) (i : Nat) (hi : i ≤ w.length) (hw : w.length ≤ 32) : (padC w i).length = 33 := by
  unfold padC; simp; omega
theorem r_spec_Pad (M : Mem) (w : List UInt8) (h2 : w.length ≤ 32) (i : Nat) (hi : i < w.length) :
    lp (aCall T0) K_spec_Pad_0 L_spec_Pad_0 [strV w, und, und, .slice (some ⟨M.length, 0, none⟩) 33 33, .int .i64 i, und, und, und, und, und, und, und, und, und, und, und, und, und, und, und, und, und, und, und, und, und, und, und, und] (M ++ [⟨padC w i, 1, 2⟩]) =
    lp (aCall T0) K_spec_Pad_0 L_spec_Pad_0 [strV w, und, und, .slice (some ⟨M.length, 0, none⟩) 33 33, .int .i64 (i + 1 : Nat), und, und, und, und, und, und, und, und, und, und, und, und, und, und, und, und, und, und, und, und, und, und, und, und] (M ++ [⟨padC w (i + 1), 1, 2⟩]) := by
  have e1 : ((i : Int) + 1).toNat = i + 1 := by omega
  have e2 : (0 : Int) ≤ i + 1 := by omega
  have e3 : (i : Int) + 1 < 33 := by omega
  have e4 := padC_len w i (by omega) h2
  have e5 : i + 1 + 1 ≤ 33 := by omega
  have e6 : splice (padC w i) (i + 1) [byteV w[i]] = padC w (i + 1) := by rw [splice_one (by omega), padC_set w i hi h2]
  have e7 : IntKind.i64.wrap ((i : Int) + 1) = i + 1 := wrap_i64 (by omega) (by omega)
  unfold splice at e6
  simp at e6
  rw [S_spec_Pad_0]; unfold B_spec_Pad_0; simp [hi, e1, e2, e3, e4, e5, e6, e7]
theorem c_spec_Pad (M : Mem) (w : List UInt8) (hw : w.length ≤ 9223372036854775807) : aCall T0 F_spec_Pad [strV w] M = some (.slice (some ⟨M.length, 0, none⟩) 33 33, M ++ [padB w]) := by
  unfold padB
  cases hb : wordB w with
  | false => rw [padL_f hb]; rw [aCall_eq T_spec_Pad]; unfold A_spec_Pad C_spec_Pad; simp [c_spec_WordOk _ _ hw, hb]
  | true =>
    obtain ⟨h1, h2⟩ := wordB_len hb
    rw [padL_t hb]
    have hl := chain (g := fun i : Nat => lp (aCall T0) K_spec_Pad_0 L_spec_Pad_0 [strV w, und, und, .slice (some ⟨M.length, 0, none⟩) 33 33, .int .i64 i, und, und, und, und, und, und, und, und, und, und, und, und, und, und, und, und, und, und, und, und, und, und, und, und] (M ++ [⟨padC w i, 1, 2⟩])) (n := w.length) fun i hi => r_spec_Pad M w h2 i hi
    have e0 : padC w 0 = .int .u8 w.length :: zc (.int .u8 0) 32 := by simp [padC]
    have e1 : padC w w.length = .int .u8 w.length :: (w.map byteV ++ zc (.int .u8 0) (32 - w.length)) := by simp [padC]
    simp only [Int.natCast_zero, Int.ofNat_zero, e0, e1] at hl
    rw [aCall_eq T_spec_Pad]; unfold A_spec_Pad C_spec_Pad; simp [c_spec_WordOk _ _ hw, hb]
    rw [wrap_u8 (by omega) (by omega), hl]
    rw [S_spec_Pad_0]; unfold B_spec_Pad_0; simp
theorem c_spec_l09Two (M : Mem) (n : Nat) (hn : n ≤ 65535) : aCall T0 F_spec_l09Two [.int .i64 n] M = some (.slice (some ⟨M.length, 0, none⟩) 2 2, M ++ [⟨[byteV (UInt8.ofNat (n / 256)), byteV (UInt8.ofNat (n % 256))], 1, 2⟩]) := by
  rw [byteV_len (by omega), byteV_len (by omega)]
  obtain ⟨h, hh⟩ : ∃ h, h = n / 256 := ⟨_, rfl⟩
  obtain ⟨l, hl⟩ : ∃ l, l = n % 256 := ⟨_, rfl⟩
  have e1 : (n : Int).tdiv 256 = h := by rw [Int.tdiv_eq_ediv_of_nonneg (by omega), hh]; simp
  have e2 : (n : Int).tmod 256 = l := by rw [Int.tmod_eq_emod_of_nonneg (by omega), hl]; simp
  have e3 : IntKind.i64.wrap (h : Int) = h := wrap_i64 (by omega) (by omega)
  have e4 : IntKind.u8.wrap (h : Int) = h := wrap_u8 (by omega) (by omega)
  have e5 : IntKind.u8.wrap (l : Int) = l := wrap_u8 (by omega) (by omega)
  rw [← hh, ← hl]
  rw [aCall_eq T_spec_l09Two]; unfold A_spec_l09Two C_spec_l09Two; simp [e1, e2, e3, e4, e5, zeroCells]
theorem c_spec_l09Empty (M : Mem) (r : ty_Rec.D) : aCall T0 F_spec_l09Empty [.agg (enc_Rec r).toArray] M = some (.bool (decide (r = zRec)), M) := by
  rw [aCall_eq T_spec_l09Empty]; unfold A_spec_l09Empty C_spec_l09Empty; simp [eq_rec]
  rw [z_rec]
  simp
theorem c_spec_RecOk (M : Mem) (r : ty_Rec.D) (hw : r.2.2.2.length ≤ 9223372036854775807) : aCall T0 F_spec_RecOk [.agg (enc_Rec r).toArray] M = some (.bool (recB r), M) := by
  unfold recB
  have h := fun M => c_spec_l09Empty M r
  have h2 := fun M => c_spec_WordOk M r.2.2.2 hw
  cases he : decide (r = zRec) with
  | true =>
    simp only [he] at h
    rw [aCall_eq T_spec_RecOk]; unfold A_spec_RecOk C_spec_RecOk; simp [h]
  | false =>
    simp only [he] at h
    rw [aCall_eq T_spec_RecOk]; unfold A_spec_RecOk C_spec_RecOk; simp [h, h2]
    repeat' ((first | rw [selO_some] | rw [condR_bool] | rw [selD_some]); split <;> rename_i hq <;> (have hq2 := hq) <;> (try simp at hq2) <;> (try simp [*, h2]))
theorem c_spec_RecOf (M : Mem) (r : ty_Rec.D) (hr : recB r = true) : Sat (aCall T0 F_spec_RecOf [.agg (enc_Rec r).toArray] M) (Bytes M (recT r)) := by
  obtain ⟨⟨d, hd, hd7⟩, ⟨w, hw, hw7⟩, hs⟩ := rec_bounds hr
  have g0 := fun M => c_spec_RecOk M r (by omega)
  rw [hr] at g0
  have g1 := fun M => c_spec_Pad M r.2.2.2 (by omega)
  have g2 := fun M => c_spec_l09Two M w hw7
  obtain ⟨q, hq⟩ : ∃ q, q = w / 256 := ⟨_, rfl⟩
  obtain ⟨p, hp⟩ : ∃ p, p = w % 256 := ⟨_, rfl⟩
  have e1 : IntKind.u8.wrap (d : Int) = d := wrap_u8 (by omega) (by omega)
  have hpl := padL_len r.2.2.2
  have hal := map_byte_all (padL r.2.2.2)
  obtain ⟨r1, r2, r3, r4⟩ := r
  simp only at hd hw
  subst hd hw
  have hc := recT_cells r1 d w r4 hd7 hw7
  rw [← hq] at hc
  rw [← hp] at hc
  have b2 : (byteV (UInt8.ofNat (w / 256))) = .int .u8 q := by rw [hq]; exact byteV_len (by omega)
  have b3 : (byteV (UInt8.ofNat (w % 256))) = .int .u8 p := by rw [hp]; exact byteV_len (by omega)
  simp only [b2, b3] at g2
  dsimp only at g1 hpl hal
  cases r1 with
  | true =>
    rw [aCall_eq T_spec_RecOf]; unfold A_spec_RecOf C_spec_RecOf; simp [thenD_pp, sliceCells_sl, sliceCells_z, sliceCells_nil, take_full, appS_sl, appK_ok, appS_none, thenD_ag, agP_nil, agP_cons, g0, g1, g2, e1, hpl, hal]
    exact sat_some (bytes_of rfl hc.symm (recT_len _))
  | false =>
    rw [aCall_eq T_spec_RecOf]; unfold A_spec_RecOf C_spec_RecOf; simp [thenD_pp, sliceCells_sl, sliceCells_z, sliceCells_nil, take_full, appS_sl, appK_ok, appS_none, thenD_ag, agP_nil, agP_cons, g0, g1, g2, e1, hpl, hal]
    exact sat_some (bytes_of rfl hc.symm (recT_len _))
def specR (m : ty_Mem.D) : List ty_Rec.D := if m.2.1.all recOk = true then m.2.1.map recX else []
theorem c_spec_Unpad (M : Mem) (v : V) (ys : List UInt8) (h : Rep (.sl ty_Byte) M [v] ys) (hl : ys.length = 33) : aCall T0 F_spec_Unpad [v] M = some (.tuple #[strV (unW ys), .bool (unB ys)], M) := by
  obtain ⟨a, c, rfl⟩ := h.slen
  have h0 : 0 < ys.length := by omega
  obtain ⟨l, o, rfl, _, hrd⟩ := at_Byte h h0
  obtain ⟨blk, hb, hbw, _⟩ := rep_blk h
  have e0 : unL ys = ys[0].toNat := by
    match ys, h0 with
    | y :: ys, _ => rfl
  rw [Nat.add_zero] at hrd
  have hbw : blk.w = 1 := hbw
  obtain ⟨d, hd⟩ : ∃ d, d = unL ys := ⟨_, rfl⟩
  have hby : byteV ys[0] = .int .u8 d := by rw [hd, e0]; rfl
  rw [hby] at hrd
  by_cases hd1 : d < 1
  · have hu : unB ys = false := by
      have : unC ys = [] := by
        unfold unC
        rw [← hd, show d = 0 by omega]
        rfl
      unfold unB
      rw [this]
      simp [wordB]
    have g0 : (d : Int) < 1 := by omega
    unfold unW
    rw [hu]
    have g3 : d = 0 := by omega
    rw [aCall_eq T_spec_Unpad]; unfold A_spec_Unpad C_spec_Unpad; simp [hl, hrd, g0, g3]
  have g0 : ¬ (d : Int) < 1 := by omega
  have g00 : ¬ d = 0 := by omega
  unfold unW unB
  rw [← hd]
  by_cases h32 : d ≤ 32
  · have g1 : ¬ 32 < (d : Int) := by omega
    have g2 : d ≤ 32 := h32
    have e2 : IntKind.i64.wrap (d : Int) = d := wrap_i64 (by omega) (by omega)
    have e1 : IntKind.i64.wrap (1 + (d : Int)) = 1 + d := wrap_i64 (by omega) (by omega)
    have hs := rep_sub h 1 d (by omega) (max ys.length c - 1)
    have hs2 : Rep (.sl ty_Byte) M [.slice (some ⟨l, o + 1, none⟩) d (max ys.length c - 1)] (unC ys) := by unfold unC; rw [← hd]; exact hs
    have hul : (unC ys).length = d := by
      unfold unC
      rw [← hd, List.length_take, List.length_drop]
      omega
    obtain ⟨a1, c1, z1, z2⟩ := cells_Byte hs2
    rw [hul] at z1 z2
    cases z1
    rw [hl] at z2
    have b1 : (1 : Int) ≤ 1 + d := by omega
    have b2 : (1 : Int) + d ≤ 33 := by omega
    have b3 : ((1 : Int) + d).toNat - 1 = d := by omega
    rw [decide_eq_true h32]
    have w1 := fun M => c_spec_WordOk M (unC ys) (by omega)
    have w2 := c_spec_Pad M (unC ys) (by omega)
    obtain ⟨_, _, y1, y2⟩ := cells_Byte (rep_blkB (M := M ++ [padB (unC ys)]) (l := M.length) (ys := padL (unC ys)) 33 (by simp))
    cases y1
    obtain ⟨_, _, x1, x2⟩ := cells_Byte (h.mono (List.prefix_append M [padB (unC ys)]))
    cases x1
    rw [padL_len] at y2
    rw [hl] at x2
    have pp : M <+: M ++ [padB (unC ys)] := List.prefix_append _ _
    obtain ⟨A, hA⟩ : ∃ A, A = M ++ [padB (unC ys)] := ⟨_, rfl⟩
    have gt := gc_tup M [padB (unC ys)]
    rw [← hA] at w2 y2 x2 pp gt
    cases hw : wordB (unC ys) with
    | false =>
      rw [hw] at w1
      rw [aCall_eq T_spec_Unpad]; unfold A_spec_Unpad C_spec_Unpad; simp [hl, hrd, g0, g00, g1, e1, e2, b1, b2, b3, hb, hbw, z2, toBytes_map, w1]
    | true =>
      rw [hw] at w1
      by_cases hq : padL (unC ys) = ys
      · rw [decide_eq_true hq]
        rw [hq] at y2
        rw [aCall_eq T_spec_Unpad]; unfold A_spec_Unpad C_spec_Unpad; simp [hl, hrd, g0, g00, g1, e1, e2, b1, b2, b3, hb, hbw, z2, toBytes_map, w1, w2, y2, x2, pp, thenD_pre, gt, prim]
      · rw [decide_eq_false hq]
        rw [aCall_eq T_spec_Unpad]; unfold A_spec_Unpad C_spec_Unpad; simp [hl, hrd, g0, g00, g1, e1, e2, b1, b2, b3, hb, hbw, z2, toBytes_map, w1, w2, y2, x2, pp, thenD_pre, hq, gt, prim]
  · have g1 : 32 < (d : Int) := by omega
    rw [decide_eq_false h32]
    rw [aCall_eq T_spec_Unpad]; unfold A_spec_Unpad C_spec_Unpad; simp [hl, hrd, g0, g00, g1]
def recS (ys : List UInt8) : ty_Rec.D := if atN ys 0 = 1 then recI ys else zRec
theorem recI_z : recI (recT zRec) = zRec := by decide
theorem recS_ok (ys : List UInt8) (hl : ys.length = 37) : (recB (recS ys) = true ∧ recT (recS ys) = ys) ↔ recR ys = true := by
  unfold recR recS
  rw [hl]
  split
  · simp
  · rename_i h0
    constructor
    · rintro ⟨_, h⟩
      have : recI ys = zRec := by rw [← h]; exact recI_z
      rw [this]
      simp only [decide_true, Bool.true_and, Bool.and_eq_true, decide_eq_true_eq]
      exact ⟨by decide, h⟩
    · intro h
      simp only [decide_true, Bool.true_and, Bool.and_eq_true, decide_eq_true_eq] at h
      obtain ⟨h1, h2⟩ := h
      have : recI ys = zRec := by
        unfold recB at h1
        rw [Bool.or_eq_true] at h1
        rcases h1 with h1 | h1
        · exact of_decide_eq_true h1
        · simp only [Bool.and_eq_true] at h1
          have := h1.1.1.1
          unfold recI at this
          simp at this
          exact absurd this h0
      rw [← this]
      exact ⟨h1, h2⟩
theorem recS_x (ys : List UInt8) (h : recR ys = true) : recS ys = recX ys := by
  unfold recX
  rw [if_pos h]
  unfold recS
  split
  · rfl
  · rename_i h0
    unfold recR at h
    simp only [Bool.and_eq_true] at h
    have h1 := h.2.1
    unfold recB at h1
    rw [Bool.or_eq_true] at h1
    rcases h1 with h1 | h1
    · exact (of_decide_eq_true h1).symm
    · simp only [Bool.and_eq_true] at h1
      have := h1.1.1.1
      unfold recI at this
      simp at this
      exact absurd this h0
theorem c_spec_RecRead (M : Mem) (v : V) (ys : List UInt8) (h : Rep (.sl ty_Byte) M [v] ys) : Sat (aCall T0 F_spec_RecRead [v] M) (RecD M (recX ys) (recR ys)) := by
  obtain ⟨a, c, rfl⟩ := h.slen
  by_cases hl : ys.length = 37
  rotate_left
  · have : recR ys = false := by unfold recR; rw [decide_eq_false hl]; rfl
    unfold recX
    rw [this]
    have hl2 : ¬ (ys.length : Int) = 37 := by omega
    rw [aCall_eq T_spec_RecRead]; unfold A_spec_RecRead C_spec_RecRead; simp [thenD_pp, sliceCells_sl, sliceCells_z, sliceCells_nil, take_full, appS_sl, appK_ok, appS_none, thenD_ag, agP_nil, agP_cons, hl, hl2, prim]
    exact sat_some ⟨rfl, List.prefix_append _ _⟩
  have hok := recS_ok ys hl
  have hx := recS_x ys
  rw [hl] at h ⊢
  obtain ⟨l, o, rfl, _⟩ := at_Byte h (show 0 < ys.length by omega)
  have q0 := at_B h (show 0 < ys.length by omega)
  have q1 := at_B h (show 1 < ys.length by omega)
  have q2 := at_B h (show 2 < ys.length by omega)
  have q3 := at_B h (show 3 < ys.length by omega)
  have t1 := atN_lt ys 1
  have t2 := atN_lt ys 2
  have t3 := atN_lt ys 3
  have e1 : IntKind.i64.wrap (atN ys 1 : Int) = atN ys 1 := wrap_i64 (by omega) (by omega)
  have e2 : IntKind.i64.wrap (atN ys 2 : Int) = atN ys 2 := wrap_i64 (by omega) (by omega)
  have e3 : IntKind.i64.wrap (atN ys 3 : Int) = atN ys 3 := wrap_i64 (by omega) (by omega)
  have e4 : IntKind.i64.wrap (256 * (atN ys 2 : Int)) = 256 * (atN ys 2 : Int) := wrap_i64 (by omega) (by omega)
  have e5 : IntKind.i64.wrap (256 * (atN ys 2 : Int) + (atN ys 3 : Int)) = 256 * (atN ys 2 : Int) + (atN ys 3 : Int) := wrap_i64 (by omega) (by omega)
  obtain ⟨blk, hb, hbw, _⟩ := rep_blk h
  have hbw : blk.w = 1 := hbw
  have hd := rep_drop h 4 (by omega) 33 (by omega) (max 37 c - 4)
  have hdl : (ys.drop 4).length = 33 := by rw [List.length_drop, hl]
  have s1 := fun N : Mem => c_spec_Unpad (M ++ N) _ _ (hd.mono (List.prefix_append M N)) hdl
  have hw := unW_len (ys.drop 4)
  rw [Nat.add_zero] at q0
  have k0 := fun N : Mem => rd1_old (N := N) q0
  have k1 := fun N : Mem => rd1_old (N := N) q1
  have k2 := fun N : Mem => rd1_old (N := N) q2
  have k3 := fun N : Mem => rd1_old (N := N) q3
  have hlt := get_lt hb
  have hb2 := fun N : Mem => (gt_app (N := N) hlt).trans hb
  by_cases h0 : atN ys 0 = 1
  · have h1 : (atN ys 0 : Int) = 1 := by omega
    have hr : recS ys = (true, (atN ys 1 : Int), 256 * (atN ys 2 : Int) + (atN ys 3 : Int), unW (ys.drop 4)) := by
      unfold recS recI
      rw [if_pos h0, decide_eq_true h0]
      simp
    rw [hr] at hok hx
    rw [aCall_eq T_spec_RecRead]; unfold A_spec_RecRead C_spec_RecRead; simp [thenD_pp, sliceCells_sl, sliceCells_z, sliceCells_nil, take_full, appS_sl, appK_ok, appS_none, thenD_ag, agP_nil, agP_cons, hl, h1, k0, k1, k2, k3, e1, e2, e3, e4, e5, hb2, hbw, s1, prim]
    generalize hx1 : aCall T0 F_spec_RecOk _ _ = xhx1
    have hx1 := hx1.symm.trans (c_spec_RecOk _ ((true, (atN ys 1 : Int), 256 * (atN ys 2 : Int) + (atN ys 3 : Int), unW (ys.drop 4)) : ty_Rec.D) (by show (unW (ys.drop 4)).length ≤ _; omega))
    subst hx1
    cases hq : recB ((true, (atN ys 1 : Int), 256 * (atN ys 2 : Int) + (atN ys 3 : Int), unW (ys.drop 4)) : ty_Rec.D) with
    | false =>
      have hn : recR ys = false := by
        cases hh : recR ys with
        | false => rfl
        | true => have := (hok.2 hh).1; rw [hq] at this; cases this
      unfold recX
      rw [hn]
      simp [thenD_pp, sliceCells_sl, sliceCells_z, sliceCells_nil, take_full, appS_sl, appK_ok, appS_none, thenD_ag, agP_nil, agP_cons, prim]
      exact sat_some ⟨rfl, List.prefix_append _ _⟩
    | true =>
      simp [thenD_pp, sliceCells_sl, sliceCells_z, sliceCells_nil, take_full, appS_sl, appK_ok, appS_none, thenD_ag, agP_nil, agP_cons]
      generalize hx1 : aCall T0 F_spec_RecOf _ _ = xhx1
      obtain ⟨v1, X1, rfl, g1⟩ := of_call hx1 (c_spec_RecOf _ ((true, (atN ys 1 : Int), 256 * (atN ys 2 : Int) + (atN ys 3 : Int), unW (ys.drop 4)) : ty_Rec.D) hq)
      clear hx1
      obtain ⟨p1, ⟨_, rfl⟩, c1⟩ := Bytes.get g1 (recT_len _)
      have pM : M <+: X1 := (List.prefix_append _ _).trans p1
      have b0 : X1[M.length]? = some ⟨_, 1, 2⟩ := get_pre p1 (by simp; rfl)
      have b1 : X1[M.length + 1]? = some ⟨_, 1, 2⟩ := get_pre p1 (by simp; rfl)
      obtain ⟨_, _, y1, y2⟩ := cells_Byte (h.mono pM)
      rw [hl] at y1 y2
      cases y1
      generalize hrt : recT ((true, (atN ys 1 : Int), 256 * (atN ys 2 : Int) + (atN ys 3 : Int), unW (ys.drop 4)) : ty_Rec.D) = rt at c1 hok
      by_cases hbq : rt = ys
      · have hn := hok.1 ⟨hq, hbq⟩
        rw [← hx hn, hn]
        clear hrt
        subst hbq
        simp [thenD_pp, sliceCells_sl, sliceCells_z, sliceCells_nil, take_full, appS_sl, appK_ok, appS_none, thenD_ag, agP_nil, agP_cons, c1, y2, toBytes_map, p1, thenD_pre, b0, b1, gs_of b0, prim, rd1_K, rdJ_ok, rdn_K, rnJ_ok, wrn_K, wrJ_ok]
        exact sat_some ⟨rfl, pf_set (Nat.le_refl _) pM⟩
      · have hn : recR ys = false := by
          cases hh : recR ys with
          | false => rfl
          | true => exact absurd (hok.2 hh).2 hbq
        unfold recX
        rw [hn]
        simp [thenD_pp, sliceCells_sl, sliceCells_z, sliceCells_nil, take_full, appS_sl, appK_ok, appS_none, thenD_ag, agP_nil, agP_cons, c1, y2, toBytes_map, p1, thenD_pre, hbq, b0, b1, gs_of b0, prim, rd1_K, rdJ_ok, rdn_K, rnJ_ok, wrn_K, wrJ_ok]
        exact sat_some ⟨rfl, pf_set (Nat.le_refl _) pM⟩
  · have h1 : ¬ (atN ys 0 : Int) = 1 := by omega
    have hr : recS ys = zRec := by unfold recS; rw [if_neg h0]
    rw [hr] at hok hx
    rw [aCall_eq T_spec_RecRead]; unfold A_spec_RecRead C_spec_RecRead; simp [thenD_pp, sliceCells_sl, sliceCells_z, sliceCells_nil, take_full, appS_sl, appK_ok, appS_none, thenD_ag, agP_nil, agP_cons, hl, h1, k0]
    generalize hx1 : aCall T0 F_spec_RecOk _ _ = xhx1
    have hx1 := hx1.symm.trans (c_spec_RecOk _ zRec (by decide))
    subst hx1
    cases hq : recB zRec with
    | false =>
      have hn : recR ys = false := by
        cases hh : recR ys with
        | false => rfl
        | true => have := (hok.2 hh).1; rw [hq] at this; cases this
      unfold recX
      rw [hn]
      simp [thenD_pp, sliceCells_sl, sliceCells_z, sliceCells_nil, take_full, appS_sl, appK_ok, appS_none, thenD_ag, agP_nil, agP_cons, prim]
      exact sat_some ⟨rfl, List.prefix_append _ _⟩
    | true =>
      simp [thenD_pp, sliceCells_sl, sliceCells_z, sliceCells_nil, take_full, appS_sl, appK_ok, appS_none, thenD_ag, agP_nil, agP_cons]
      generalize hx1 : aCall T0 F_spec_RecOf _ _ = xhx1
      obtain ⟨v1, X1, rfl, g1⟩ := of_call hx1 (c_spec_RecOf _ zRec hq)
      clear hx1
      obtain ⟨p1, ⟨_, rfl⟩, c1⟩ := Bytes.get g1 (recT_len _)
      have pM : M <+: X1 := (List.prefix_append _ _).trans p1
      have b0 : X1[M.length]? = some ⟨_, 1, 2⟩ := get_pre p1 (by simp; rfl)
      have b1 : X1[M.length + 1]? = some ⟨_, 1, 2⟩ := get_pre p1 (by simp; rfl)
      obtain ⟨_, _, y1, y2⟩ := cells_Byte (h.mono pM)
      rw [hl] at y1 y2
      cases y1
      generalize hrt : recT zRec = rt at c1 hok
      by_cases hbq : rt = ys
      · have hn := hok.1 ⟨hq, hbq⟩
        rw [← hx hn, hn]
        clear hrt
        subst hbq
        simp [thenD_pp, sliceCells_sl, sliceCells_z, sliceCells_nil, take_full, appS_sl, appK_ok, appS_none, thenD_ag, agP_nil, agP_cons, c1, y2, toBytes_map, p1, thenD_pre, b0, b1, gs_of b0, prim, rd1_K, rdJ_ok, rdn_K, rnJ_ok, wrn_K, wrJ_ok]
        exact sat_some ⟨rfl, pf_set (Nat.le_refl _) pM⟩
      · have hn : recR ys = false := by
          cases hh : recR ys with
          | false => rfl
          | true => exact absurd (hok.2 hh).2 hbq
        unfold recX
        rw [hn]
        simp [thenD_pp, sliceCells_sl, sliceCells_z, sliceCells_nil, take_full, appS_sl, appK_ok, appS_none, thenD_ag, agP_nil, agP_cons, c1, y2, toBytes_map, p1, thenD_pre, hbq, b0, b1, gs_of b0, prim, rd1_K, rdJ_ok, rdn_K, rnJ_ok, wrn_K, wrJ_ok]
        exact sat_some ⟨rfl, pf_set (Nat.le_refl _) pM⟩
theorem l_spec_l21Recs_0 (M Z : Mem) (m : ty_Mem.D) (a b : Option Addr) (c d : Nat) (h : Rep (.sl ty_Cell) M [.slice a m.2.1.length c] m.2.1) (hn : m.2.1.length ≤ 128) (v : V) (hZ : RL (M ++ [⟨[.int .i64 m.1, .slice a m.2.1.length c, .slice b m.2.2.length d], 1, 2⟩]) (M.length + 1) Z v []) :
    (∃ v' X', RL (M ++ [⟨[.int .i64 m.1, .slice a m.2.1.length c, .slice b m.2.2.length d], 1, 2⟩]) (M.length + 1) X' v' (m.2.1.map recX) ∧ (∀ i, i < m.2.1.length → atB recOk m.2.1 i = true) ∧ lp (aCall T0) K_spec_l21Recs_0 L_spec_l21Recs_0 [und, .pointer (some ⟨M.length, 0, none⟩), und, und, v, .int .i64 (0 : Nat), und, und, und, und, und, und, und, und, und, und, und, und, und, und, und, und, und, und, und, und, und, und, und, und, und, und, und, und, und, und, und, und, und, und] Z = lp (aCall T0) K_spec_l21Recs_0 L_spec_l21Recs_0 [und, .pointer (some ⟨M.length, 0, none⟩), und, und, v', .int .i64 m.2.1.length, und, und, und, und, und, und, und, und, und, und, und, und, und, und, und, und, und, und, und, und, und, und, und, und, und, und, und, und, und, und, und, und, und, und] X') ∨
    ((∃ i, i < m.2.1.length ∧ atB recOk m.2.1 i = false) ∧ ∀ k, Sat (thenF M [.tmp 2, .tmp 3] (thenS (blockR 0 (lp (aCall T0) K_spec_l21Recs_0 L_spec_l21Recs_0 [und, .pointer (some ⟨M.length, 0, none⟩), und, und, v, .int .i64 (0 : Nat), und, und, und, und, und, und, und, und, und, und, und, und, und, und, und, und, und, und, und, und, und, und, und, und, und, und, und, und, und, und, und, und, und, und] Z)) (aCall T0) k)) (RecsD M [] false)) := by
  have key := loop_st (call := aCall T0) (K := K_spec_l21Recs_0) (L := L_spec_l21Recs_0) (fun i w Y => RL (M ++ [⟨[.int .i64 m.1, .slice a m.2.1.length c, .slice b m.2.2.length d], 1, 2⟩]) (M.length + 1) Y w ((m.2.1.take i).map recX)) (fun i w => [und, .pointer (some ⟨M.length, 0, none⟩), und, und, w, .int .i64 i, und, und, und, und, und, und, und, und, und, und, und, und, und, und, und, und, und, und, und, und, und, und, und, und, und, und, und, und, und, und, und, und, und, und]) (atB recOk m.2.1) (RecsD M [] false) (n := m.2.1.length) (M0 := M) (rs := [.tmp 2, .tmp 3]) (k0 := 0) v Z (by simpa using hZ) ?_ ?_
  · rcases key with ⟨v', X', h0, h1, h2⟩ | h
    · rw [List.take_length] at h0
      exact .inl ⟨v', X', h0, h1, h2⟩
    · exact .inr h
  · intro i w Y hi hq hY
    obtain ⟨n, hn1, pY, gY⟩ := hY
    have hn2 : n ≤ 128 := by rw [← hn1]; simp; omega
    have pM : M <+: Y := (List.prefix_append _ _).trans pY
    have b0 : Y[M.length]? = some ⟨[.int .i64 m.1, .slice a m.2.1.length c, .slice b m.2.2.length d], 1, 2⟩ := get_pre pY (by simp)
    obtain ⟨l, o, u, rfl, q1, _, q3⟩ := at_Cell (h.mono pM) hi
    rw [scanL (P := recOk) hi]
    generalize (m.2.1.take i).map recX = rs at hn1 gY ⊢
    rw [atB_get _ hi] at hq
    unfold recOk at hq
    rw [Bool.and_eq_true] at hq
    obtain ⟨hq, hd⟩ := hq
    have hd := of_decide_eq_true hd
    generalize m.2.1[i] = cell at q3 hq hd ⊢
    have e6 : IntKind.i64.wrap ((i : Int) + 1) = i + 1 := wrap_i64 (by omega) (by omega)
    rw [S_spec_l21Recs_0]; unfold B_spec_l21Recs_0; simp [thenD_pp, sliceCells_sl, sliceCells_z, sliceCells_nil, take_full, appS_sl, appK_ok, appS_none, thenD_ag, agP_nil, agP_cons, b0, hi, q1, rd1_K, rdJ_ok]
    generalize hx : aCall T0 F_spec_RecRead _ _ = xhx
    obtain ⟨w1, X1, rfl, rfl, p1⟩ := of_call hx (c_spec_RecRead _ _ _ q3)
    clear hx
    have c0 := get_pre p1 b0
    generalize recX cell = rr at hd ⊢
    obtain ⟨r1, r2, r3, r4⟩ := rr
    simp only at hd
    subst hd
    obtain ⟨_, rfl⟩ := gY.shape
    simp [thenD_pp, sliceCells_sl, sliceCells_z, sliceCells_nil, take_full, appS_sl, appK_ok, appS_none, thenD_ag, agP_nil, agP_cons, hq, zeroCells, rd1_K, rdJ_ok, rdn_K, rnJ_ok]
    generalize hy : appS _ _ _ _ _ _ = xhy
    obtain ⟨a3, X3, rfl, g3, ag, l3⟩ := gY.at hy (p1.trans (List.prefix_append _ _)) (by have := get_lt b0; omega) (by rfl) (by omega) (by rfl) (by omega) (by omega)
    clear hy
    have hd : ∀ j, j < M.length + 1 → j ∉ wfs (.slice ‹_› n n) := fun j hj hm => by have := gY.ge j hm; omega
    simp [thenD_pp, sliceCells_sl, sliceCells_z, sliceCells_nil, take_full, appS_sl, appK_ok, appS_none, thenD_ag, agP_nil, agP_cons, e6]
    refine ⟨_, _, ⟨n + 1, by rw [List.length_append, hn1]; rfl, ag.pre (pf_app (pY.trans p1)) fun j hj => by have := gY.ge j hj; simp; omega, ?_⟩, rfl⟩
    rw [List.map_append, List.flatten_append]
    simpa using g3
  · intro i w Y hi hq hY k
    obtain ⟨n, hn1, pY, gY⟩ := hY
    have pM : M <+: Y := (List.prefix_append _ _).trans pY
    have b0 : Y[M.length]? = some ⟨[.int .i64 m.1, .slice a m.2.1.length c, .slice b m.2.2.length d], 1, 2⟩ := get_pre pY (by simp)
    obtain ⟨l, o, u, rfl, q1, _, q3⟩ := at_Cell (h.mono pM) hi
    rw [atB_get _ hi] at hq
    unfold recOk at hq
    generalize m.2.1[i] = cell at q3 hq ⊢
    rw [S_spec_l21Recs_0]; unfold B_spec_l21Recs_0; simp [thenD_pp, sliceCells_sl, sliceCells_z, sliceCells_nil, take_full, appS_sl, appK_ok, appS_none, thenD_ag, agP_nil, agP_cons, b0, hi, q1, rd1_K, rdJ_ok]
    generalize hx : aCall T0 F_spec_RecRead _ _ = xhx
    obtain ⟨w1, X1, rfl, rfl, p1⟩ := of_call hx (c_spec_RecRead _ _ _ q3)
    clear hx
    generalize recX cell = rr at hq ⊢
    obtain ⟨r1, r2, r3, r4⟩ := rr
    cases hr : recR cell with
    | false =>
      simp [thenD_pp, sliceCells_sl, sliceCells_z, sliceCells_nil, take_full, appS_sl, appK_ok, appS_none, thenD_ag, agP_nil, agP_cons, hr]
      exact sat_some (recsD_nil (pf_app (pM.trans p1)))
    | true =>
      rw [hr, Bool.true_and] at hq
      have hq := of_decide_eq_false hq
      simp only at hq
      simp [thenD_pp, sliceCells_sl, sliceCells_z, sliceCells_nil, take_full, appS_sl, appK_ok, appS_none, thenD_ag, agP_nil, agP_cons, hr, hq]
      exact sat_some (recsD_nil (pf_app (pM.trans p1)))
theorem c_spec_l21Recs (M : Mem) (cs : List V) (m : ty_Mem.D) (h : Rep ty_Mem M cs m) (hn : m.2.1.length ≤ 128) : Sat (aCall T0 F_spec_l21Recs [.agg cs.toArray] M) (RecsD M (specR m) (m.2.1.all recOk)) := by
  obtain ⟨a, b, c, d, rfl, r0, r1⟩ := mem_shape h
  unfold specR
  rcases l_spec_l21Recs_0 M _ m a b c d r0 hn (.slice (some ⟨M.length + 1, 0, none⟩) 0 0) ⟨0, rfl, List.prefix_append _ [(⟨[], 4, 2⟩ : Blk)], ⟨rfl, .inr ⟨M.length + 1, by omega, rfl, by simp⟩⟩⟩ with ⟨v', X', h0, h1, e⟩ | ⟨hb, e⟩
  · simp only [Int.natCast_zero, Int.ofNat_zero] at e
    rw [atB_all h1, if_pos rfl]
    rw [aCall_eq T_spec_l21Recs]; unfold A_spec_l21Recs C_spec_l21Recs; simp [thenD_pp, sliceCells_sl, sliceCells_z, sliceCells_nil, take_full, appS_sl, appK_ok, appS_none, thenD_ag, agP_nil, agP_cons, zeroCells]
    rw [show (M ++ [⟨[.int .i64 m.1, .slice a m.2.1.length c, .slice b m.2.2.length d], 1, 2⟩, ⟨[], 4, 2⟩] : Mem) = M ++ [⟨[.int .i64 m.1, .slice a m.2.1.length c, .slice b m.2.2.length d], 1, 2⟩] ++ [⟨[], 4, 2⟩] by simp, e]
    have b0 : X'[M.length]? = some ⟨[.int .i64 m.1, .slice a m.2.1.length c, .slice b m.2.2.length d], 1, 2⟩ := get_pre (by obtain ⟨_, _, hp, _⟩ := h0; exact hp) (by simp)
    have hs := rl_D (ok := true) h0
    obtain ⟨_, _, hg⟩ := h0
    obtain ⟨_, rfl⟩ := hg.2.shape
    rw [S_spec_l21Recs_0]; unfold B_spec_l21Recs_0; simp [thenD_pp, sliceCells_sl, sliceCells_z, sliceCells_nil, take_full, appS_sl, appK_ok, appS_none, thenD_ag, agP_nil, agP_cons, b0, rd1_K, rdJ_ok]
    exact sat_some hs
  · simp only [Int.natCast_zero, Int.ofNat_zero] at e
    rw [atB_not hb, if_neg (by decide)]
    rw [aCall_eq T_spec_l21Recs]; unfold A_spec_l21Recs C_spec_l21Recs; simp [thenD_pp, sliceCells_sl, sliceCells_z, sliceCells_nil, take_full, appS_sl, appK_ok, appS_none, thenD_ag, agP_nil, agP_cons, zeroCells]
    rw [show (M ++ [⟨[.int .i64 m.1, .slice a m.2.1.length c, .slice b m.2.2.length d], 1, 2⟩, ⟨[], 4, 2⟩] : Mem) = M ++ [⟨[.int .i64 m.1, .slice a m.2.1.length c, .slice b m.2.2.length d], 1, 2⟩] ++ [⟨[], 4, 2⟩] by simp]
    exact e _
theorem c_spec_l21At (M : Mem) (v : V) (xs : List ty_Rec.D) (w : List UInt8) (h : Rep (.sl ty_Rec) M [v] xs) (hn : xs.length ≤ 1048576) : aCall T0 F_spec_l21At [v, strV w] M = some (.int .i64 (idx (liveW w) xs), M) := by
  obtain ⟨a, c, rfl⟩ := h.slen
  have step : ∀ i (hi : i < xs.length), liveW w xs[i] = false → lp (aCall T0) K_spec_l21At_0 L_spec_l21At_0 [.slice a xs.length c, strV w, und, und, und, .int .i64 i, und, und, und, und, und, und, und, und, und, und, und, und, und, und, und, und, und, und, und, und, und] M = lp (aCall T0) K_spec_l21At_0 L_spec_l21At_0 [.slice a xs.length c, strV w, und, und, und, .int .i64 (i + 1 : Nat), und, und, und, und, und, und, und, und, und, und, und, und, und, und, und, und, und, und, und, und, und] M := by
    intro i hi hq
    obtain ⟨l, o, rfl, _, q0, q1, _, _, q2⟩ := at_Rec h hi
    have e6 : IntKind.i64.wrap ((i : Int) + 1) = i + 1 := wrap_i64 (by omega) (by omega)
    unfold liveW at hq
    generalize xs[i] = r at q1 q2 hq
    obtain ⟨r1, r2, r3, r4⟩ := r
    cases r1 with
    | false =>
      rw [S_spec_l21At_0]; unfold B_spec_l21At_0; simp [thenD_pp, sliceCells_sl, sliceCells_z, sliceCells_nil, take_full, appS_sl, appK_ok, appS_none, thenD_ag, agP_nil, agP_cons, hi, q1, e6]
    | true =>
      have hq := of_decide_eq_false hq
      simp only at hq q2
      rw [S_spec_l21At_0]; unfold B_spec_l21At_0; simp [thenD_pp, sliceCells_sl, sliceCells_z, sliceCells_nil, take_full, appS_sl, appK_ok, appS_none, thenD_ag, agP_nil, agP_cons, hi, q1, q2, hq, e6]
  rcases idx_cases (liveW w) xs with ⟨ha, h1⟩ | ⟨j, hj, ha, h1, h2⟩
  · have hc := chain (g := fun i : Nat => lp (aCall T0) K_spec_l21At_0 L_spec_l21At_0 [.slice a xs.length c, strV w, und, und, und, .int .i64 i, und, und, und, und, und, und, und, und, und, und, und, und, und, und, und, und, und, und, und, und, und] M) (n := xs.length) fun i hi => step i hi (h1 i hi)
    simp only [Int.natCast_zero, Int.ofNat_zero] at hc
    rw [ha]
    rw [aCall_eq T_spec_l21At]; unfold A_spec_l21At C_spec_l21At; simp [thenD_pp, sliceCells_sl, sliceCells_z, sliceCells_nil, take_full, appS_sl, appK_ok, appS_none, thenD_ag, agP_nil, agP_cons, hc]
    rw [S_spec_l21At_0]; unfold B_spec_l21At_0; simp [thenD_pp, sliceCells_sl, sliceCells_z, sliceCells_nil, take_full, appS_sl, appK_ok, appS_none, thenD_ag, agP_nil, agP_cons]
  · have hc := chain (g := fun i : Nat => lp (aCall T0) K_spec_l21At_0 L_spec_l21At_0 [.slice a xs.length c, strV w, und, und, und, .int .i64 i, und, und, und, und, und, und, und, und, und, und, und, und, und, und, und, und, und, und, und, und, und] M) (n := j) fun i hi => step i (by omega) (h1 i (by omega) hi)
    simp only [Int.natCast_zero, Int.ofNat_zero] at hc
    obtain ⟨l, o, rfl, _, q0, q1, _, _, q2⟩ := at_Rec h hj
    unfold liveW at h2
    generalize xs[j] = r at q1 q2 h2
    obtain ⟨r1, r2, r3, r4⟩ := r
    simp only [Bool.and_eq_true, decide_eq_true_eq] at h2
    obtain ⟨rfl, rfl⟩ := h2
    rw [ha]
    rw [aCall_eq T_spec_l21At]; unfold A_spec_l21At C_spec_l21At; simp [thenD_pp, sliceCells_sl, sliceCells_z, sliceCells_nil, take_full, appS_sl, appK_ok, appS_none, thenD_ag, agP_nil, agP_cons, hc]
    rw [S_spec_l21At_0]; unfold B_spec_l21At_0; simp [thenD_pp, sliceCells_sl, sliceCells_z, sliceCells_nil, take_full, appS_sl, appK_ok, appS_none, thenD_ag, agP_nil, agP_cons, hj, q1, q2]
theorem l_spec_MemOk_0 (M X : Mem) (m : ty_Mem.D) (a b : Option Addr) (c d p : Nat) (hM : M <+: X) (hb : X[p]? = some ⟨[.int .i64 m.1, .slice a m.2.1.length c, .slice b m.2.2.length d], 1, 2⟩) (h : Rep (.sl ty_Cell) M [.slice a m.2.1.length c] m.2.1) (hn : m.2.1.length ≤ 128) :
    ((∀ i, i < m.2.1.length → atB (cellB m) m.2.1 i = true) ∧ lp (aCall T0) K_spec_MemOk_0 L_spec_MemOk_0 [und, .pointer (some ⟨p, 0, none⟩), und, .int .i64 (0 : Nat), und, und, und, und, und, und, und, und, und, und, und, und, und, und, und, und, und, und, und, und, und, und, und, und, und, und, und, und, und, und, und, und, und, und, und, und, und, und, und, und, und, und, und, und, und, und, und, und, und, und, und, und, und, und, und, und, und, und, und, und, und, und, und, und, und, und, und, und, und, und, und, und, und, und, und, und, und, und, und] X = lp (aCall T0) K_spec_MemOk_0 L_spec_MemOk_0 [und, .pointer (some ⟨p, 0, none⟩), und, .int .i64 m.2.1.length, und, und, und, und, und, und, und, und, und, und, und, und, und, und, und, und, und, und, und, und, und, und, und, und, und, und, und, und, und, und, und, und, und, und, und, und, und, und, und, und, und, und, und, und, und, und, und, und, und, und, und, und, und, und, und, und, und, und, und, und, und, und, und, und, und, und, und, und, und, und, und, und, und, und, und, und, und, und, und] X) ∨
    ((∃ i, i < m.2.1.length ∧ atB (cellB m) m.2.1 i = false) ∧ ∀ k, thenF M [.tmp 2] (thenS (blockR 0 (lp (aCall T0) K_spec_MemOk_0 L_spec_MemOk_0 [und, .pointer (some ⟨p, 0, none⟩), und, .int .i64 (0 : Nat), und, und, und, und, und, und, und, und, und, und, und, und, und, und, und, und, und, und, und, und, und, und, und, und, und, und, und, und, und, und, und, und, und, und, und, und, und, und, und, und, und, und, und, und, und, und, und, und, und, und, und, und, und, und, und, und, und, und, und, und, und, und, und, und, und, und, und, und, und, und, und, und, und, und, und, und, und, und, und] X)) (aCall T0) k) = some (.bool false, M)) := by
  have key := loop_ok (call := aCall T0) (K := K_spec_MemOk_0) (L := L_spec_MemOk_0) (fun _ Y => Y = X) (fun i => [und, .pointer (some ⟨p, 0, none⟩), und, .int .i64 i, und, und, und, und, und, und, und, und, und, und, und, und, und, und, und, und, und, und, und, und, und, und, und, und, und, und, und, und, und, und, und, und, und, und, und, und, und, und, und, und, und, und, und, und, und, und, und, und, und, und, und, und, und, und, und, und, und, und, und, und, und, und, und, und, und, und, und, und, und, und, und, und, und, und, und, und, und, und, und]) (atB (cellB m) m.2.1) (n := m.2.1.length) (M0 := M) (rs := [.tmp 2]) (k0 := 0) (a := .bool false) X rfl ?_ ?_
  · rcases key with ⟨X', rfl, h1, h2⟩ | h
    · exact .inl ⟨h1, h2⟩
    · exact .inr h
  · intro i Y hi hq e
    subst e
    obtain ⟨l, o, u, rfl, q1, _, q3⟩ := at_Cell (h.mono hM) hi
    obtain ⟨_, _, rfl⟩ := q3.slen
    rw [atB_get _ hi] at hq
    have hq := of_decide_eq_true hq
    have e6 : IntKind.i64.wrap ((i : Int) + 1) = i + 1 := wrap_i64 (by omega) (by omega)
    refine ⟨Y, rfl, ?_⟩
    rw [S_spec_MemOk_0]; unfold B_spec_MemOk_0; simp [thenD_pp, sliceCells_sl, sliceCells_z, sliceCells_nil, take_full, appS_sl, appK_ok, appS_none, thenD_ag, agP_nil, agP_cons, hb, hi, q1, hq, e6, rd1_K, rdJ_ok]
  · intro i Y hi hq e k
    subst e
    obtain ⟨l, o, u, rfl, q1, _, q3⟩ := at_Cell (h.mono hM) hi
    obtain ⟨_, _, rfl⟩ := q3.slen
    rw [atB_get _ hi] at hq
    have hq := of_decide_eq_false hq
    have gb := fun b => gc_boolp hM b
    rw [S_spec_MemOk_0]; unfold B_spec_MemOk_0; simp [thenD_pp, sliceCells_sl, sliceCells_z, sliceCells_nil, take_full, appS_sl, appK_ok, appS_none, thenD_ag, agP_nil, agP_cons, hb, hi, q1, hq, gb, rd1_K, rdJ_ok]
set_option maxHeartbeats 4000000 in
theorem l_spec_MemOk_1 (M X : Mem) (m : ty_Mem.D) (a b : Option Addr) (c d p : Nat) (hM : M <+: X) (hb : X[p]? = some ⟨[.int .i64 m.1, .slice a m.2.1.length c, .slice b m.2.2.length d], 1, 2⟩) (h : Rep (.sl ty_Touch) M [.slice b m.2.2.length d] m.2.2) (hn : m.2.2.length ≤ 6000) :
    (∃ X', M <+: X' ∧ (∀ i, i < m.2.2.length → atB (touchB m) m.2.2 i = true) ∧ lp (aCall T0) K_spec_MemOk_1 L_spec_MemOk_1 [und, .pointer (some ⟨p, 0, none⟩), und, und, .int .i64 (0 : Nat), und, und, und, und, und, und, und, und, und, und, und, und, und, und, und, und, und, und, und, und, und, und, und, und, und, und, und, und, und, und, und, und, und, und, und, und, und, und, und, und, und, und, und, und, und, und, und, und, und, und, und, und, und, und, und, und, und, und, und, und, und, und, und, und, und, und, und, und, und, und, und, und, und, und, und, und, und, und] X = lp (aCall T0) K_spec_MemOk_1 L_spec_MemOk_1 [und, .pointer (some ⟨p, 0, none⟩), und, und, .int .i64 m.2.2.length, und, und, und, und, und, und, und, und, und, und, und, und, und, und, und, und, und, und, und, und, und, und, und, und, und, und, und, und, und, und, und, und, und, und, und, und, und, und, und, und, und, und, und, und, und, und, und, und, und, und, und, und, und, und, und, und, und, und, und, und, und, und, und, und, und, und, und, und, und, und, und, und, und, und, und, und, und, und] X' ∧ X'[p]? = some ⟨[.int .i64 m.1, .slice a m.2.1.length c, .slice b m.2.2.length d], 1, 2⟩) ∨
    ((∃ i, i < m.2.2.length ∧ atB (touchB m) m.2.2 i = false) ∧ ∀ k, thenF M [.tmp 2] (thenS (blockR 2 (lp (aCall T0) K_spec_MemOk_1 L_spec_MemOk_1 [und, .pointer (some ⟨p, 0, none⟩), und, und, .int .i64 (0 : Nat), und, und, und, und, und, und, und, und, und, und, und, und, und, und, und, und, und, und, und, und, und, und, und, und, und, und, und, und, und, und, und, und, und, und, und, und, und, und, und, und, und, und, und, und, und, und, und, und, und, und, und, und, und, und, und, und, und, und, und, und, und, und, und, und, und, und, und, und, und, und, und, und, und, und, und, und, und, und] X)) (aCall T0) k) = some (.bool false, M)) := by
  have key := loop_ok (call := aCall T0) (K := K_spec_MemOk_1) (L := L_spec_MemOk_1) (fun _ Y => X <+: Y) (fun i => [und, .pointer (some ⟨p, 0, none⟩), und, und, .int .i64 i, und, und, und, und, und, und, und, und, und, und, und, und, und, und, und, und, und, und, und, und, und, und, und, und, und, und, und, und, und, und, und, und, und, und, und, und, und, und, und, und, und, und, und, und, und, und, und, und, und, und, und, und, und, und, und, und, und, und, und, und, und, und, und, und, und, und, und, und, und, und, und, und, und, und, und, und, und, und]) (atB (touchB m) m.2.2) (n := m.2.2.length) (M0 := M) (rs := [.tmp 2]) (k0 := 2) (a := .bool false) X (List.prefix_refl _) ?_ ?_
  · rcases key with ⟨X', h0, h1, h2⟩ | h
    · exact .inl ⟨X', hM.trans h0, h1, h2, get_pre h0 hb⟩
    · exact .inr h
  · intro i Y hi hq hY
    obtain ⟨l, o, rfl, _, q1, _⟩ := at_Touch (h.mono (hM.trans hY)) hi
    have hbY := get_pre hY hb
    have hbY2 : ∀ N : Mem, (Y ++ N)[p]? = some ⟨[.int .i64 m.1, .slice a m.2.1.length c, .slice (some ⟨l, o, none⟩) m.2.2.length d], 1, 2⟩ := fun N => get_pre' hbY
    rw [atB_get _ hi] at hq
    have hq := touch_ok hq
    generalize m.2.2[i] = t at q1 hq
    obtain ⟨t1, t2, t3⟩ := t
    simp only at hq q1
    obtain ⟨g1, g2, _, g3, _, _, g4⟩ := hq
    have e6 : IntKind.i64.wrap ((i : Int) + 1) = i + 1 := wrap_i64 (by omega) (by omega)
    refine ⟨Y ++ [⟨enc_Touch (t1, t2, t3), 1, 2⟩], hY.trans (List.prefix_append _ _), ?_⟩
    rcases g1 with g1 | g1
    · rw [S_spec_MemOk_1]; unfold B_spec_MemOk_1; simp [thenD_pp, sliceCells_sl, sliceCells_z, sliceCells_nil, take_full, appS_sl, appK_ok, appS_none, thenD_ag, agP_nil, agP_cons, hbY, hbY2, hi, q1, g1, g2, g3, g4, e6, rd1_K, rdJ_ok]
    · rw [S_spec_MemOk_1]; unfold B_spec_MemOk_1; simp [thenD_pp, sliceCells_sl, sliceCells_z, sliceCells_nil, take_full, appS_sl, appK_ok, appS_none, thenD_ag, agP_nil, agP_cons, hbY, hbY2, hi, q1, g1, g2, g3, g4, e6, rd1_K, rdJ_ok]
  · intro i Y hi hq hY k
    obtain ⟨l, o, rfl, _, q1, _⟩ := at_Touch (h.mono (hM.trans hY)) hi
    have hbY := get_pre hY hb
    have hbY2 : ∀ N : Mem, (Y ++ N)[p]? = some ⟨[.int .i64 m.1, .slice a m.2.1.length c, .slice (some ⟨l, o, none⟩) m.2.2.length d], 1, 2⟩ := fun N => get_pre' hbY
    rw [atB_get _ hi] at hq
    have hq := touch_cases hq
    generalize m.2.2[i] = t at q1 hq
    obtain ⟨t1, t2, t3⟩ := t
    simp only at hq q1
    have gb := fun (cs : List V) b => gc_boolp (hM.trans (hY.trans (List.prefix_append Y [⟨cs, 1, 2⟩]))) b
    rcases hq with ⟨g1, g2⟩ | ⟨g1, g2, _⟩ | ⟨g1, ⟨g2, _⟩, g3, _⟩ | ⟨g1, ⟨g2, _⟩, ⟨g3, _⟩, g4⟩
    · rw [S_spec_MemOk_1]; unfold B_spec_MemOk_1; simp [thenD_pp, sliceCells_sl, sliceCells_z, sliceCells_nil, take_full, appS_sl, appK_ok, appS_none, thenD_ag, agP_nil, agP_cons, hbY, hbY2, hi, q1, g1, g2, gb, rd1_K, rdJ_ok]
    · rcases g1 with g1 | g1
      · rw [S_spec_MemOk_1]; unfold B_spec_MemOk_1; simp [thenD_pp, sliceCells_sl, sliceCells_z, sliceCells_nil, take_full, appS_sl, appK_ok, appS_none, thenD_ag, agP_nil, agP_cons, hbY, hbY2, hi, q1, g1, g2, gb, rd1_K, rdJ_ok]
      · rw [S_spec_MemOk_1]; unfold B_spec_MemOk_1; simp [thenD_pp, sliceCells_sl, sliceCells_z, sliceCells_nil, take_full, appS_sl, appK_ok, appS_none, thenD_ag, agP_nil, agP_cons, hbY, hbY2, hi, q1, g1, g2, gb, rd1_K, rdJ_ok]
    · rcases g1 with g1 | g1
      · rw [S_spec_MemOk_1]; unfold B_spec_MemOk_1; simp [thenD_pp, sliceCells_sl, sliceCells_z, sliceCells_nil, take_full, appS_sl, appK_ok, appS_none, thenD_ag, agP_nil, agP_cons, hbY, hbY2, hi, q1, g1, g2, g3, gb, rd1_K, rdJ_ok]
      · rw [S_spec_MemOk_1]; unfold B_spec_MemOk_1; simp [thenD_pp, sliceCells_sl, sliceCells_z, sliceCells_nil, take_full, appS_sl, appK_ok, appS_none, thenD_ag, agP_nil, agP_cons, hbY, hbY2, hi, q1, g1, g2, g3, gb, rd1_K, rdJ_ok]
    · rcases g1 with g1 | g1
      · rw [S_spec_MemOk_1]; unfold B_spec_MemOk_1; simp [thenD_pp, sliceCells_sl, sliceCells_z, sliceCells_nil, take_full, appS_sl, appK_ok, appS_none, thenD_ag, agP_nil, agP_cons, hbY, hbY2, hi, q1, g1, g2, g3, g4, gb, rd1_K, rdJ_ok]
      · rw [S_spec_MemOk_1]; unfold B_spec_MemOk_1; simp [thenD_pp, sliceCells_sl, sliceCells_z, sliceCells_nil, take_full, appS_sl, appK_ok, appS_none, thenD_ag, agP_nil, agP_cons, hbY, hbY2, hi, q1, g1, g2, g3, g4, gb, rd1_K, rdJ_ok]
theorem c_spec_MemOk (M : Mem) (cs : List V) (m : ty_Mem.D) (h : Rep ty_Mem M cs m) : aCall T0 F_spec_MemOk [.agg cs.toArray] M = some (.bool (memB m), M) := by
  obtain ⟨a, b, c, d, rfl, r0, r1⟩ := mem_shape h
  unfold memB
  have hp : M <+: M ++ [⟨[.int .i64 m.1, .slice a m.2.1.length c, .slice b m.2.2.length d], 1, 2⟩] := List.prefix_append _ _
  rcases mem_cases m.1 m.2.1.length m.2.2.length with ⟨h0, hh⟩ | ⟨h0, ⟨_, h1⟩, ⟨h2, _⟩, ⟨h3, h3'⟩, ⟨h4, h4'⟩⟩
  · rw [h0, Bool.false_and]
    clear h0
    rcases hh with ⟨h1, _⟩ | ⟨⟨_, h1⟩, h2, _⟩ | ⟨⟨_, h1⟩, ⟨h2, _⟩, h3, h3'⟩ | ⟨⟨_, h1⟩, ⟨h2, _⟩, ⟨h3, h3'⟩, h4, h4'⟩
    · rw [aCall_eq T_spec_MemOk]; unfold A_spec_MemOk C_spec_MemOk; simp [thenD_pp, sliceCells_sl, sliceCells_z, sliceCells_nil, take_full, appS_sl, appK_ok, appS_none, thenD_ag, agP_nil, agP_cons, h1]
    · rw [aCall_eq T_spec_MemOk]; unfold A_spec_MemOk C_spec_MemOk; simp [thenD_pp, sliceCells_sl, sliceCells_z, sliceCells_nil, take_full, appS_sl, appK_ok, appS_none, thenD_ag, agP_nil, agP_cons, h1, h2]
    · rw [aCall_eq T_spec_MemOk]; unfold A_spec_MemOk C_spec_MemOk; simp [thenD_pp, sliceCells_sl, sliceCells_z, sliceCells_nil, take_full, appS_sl, appK_ok, appS_none, thenD_ag, agP_nil, agP_cons, h1, h2, h3, h3']
    · rw [aCall_eq T_spec_MemOk]; unfold A_spec_MemOk C_spec_MemOk; simp [thenD_pp, sliceCells_sl, sliceCells_z, sliceCells_nil, take_full, appS_sl, appK_ok, appS_none, thenD_ag, agP_nil, agP_cons, h1, h2, h3, h3', h4, h4']
  rw [h0, Bool.true_and]
  rcases l_spec_MemOk_0 M _ m a b c d M.length hp (by simp) r0 (by omega) with ⟨ha, e⟩ | ⟨hn, e⟩
  · simp only [Int.natCast_zero, Int.ofNat_zero] at e
    rw [atB_all ha, Bool.true_and]
    rcases l_spec_MemOk_1 M _ m a b c d M.length hp (by simp) r1 (by omega) with ⟨X', hX, ha2, e2, hb⟩ | ⟨hn2, e2⟩
    · simp only [Int.natCast_zero, Int.ofNat_zero] at e2
      rw [atB_all ha2]
      have gb := fun b => gc_boolp hX b
      rw [aCall_eq T_spec_MemOk]; unfold A_spec_MemOk C_spec_MemOk; simp [thenD_pp, sliceCells_sl, sliceCells_z, sliceCells_nil, take_full, appS_sl, appK_ok, appS_none, thenD_ag, agP_nil, agP_cons, h1, h2, h3, h3', h4, h4', e]
      rw [S_spec_MemOk_0]; unfold B_spec_MemOk_0; simp [thenD_pp, sliceCells_sl, sliceCells_z, sliceCells_nil, take_full, appS_sl, appK_ok, appS_none, thenD_ag, agP_nil, agP_cons, rd1_K, rdJ_ok]
      simp [e2]
      rw [S_spec_MemOk_1]; unfold B_spec_MemOk_1; simp [thenD_pp, sliceCells_sl, sliceCells_z, sliceCells_nil, take_full, appS_sl, appK_ok, appS_none, thenD_ag, agP_nil, agP_cons, rd1_K, rdJ_ok, hb, gb]
    · simp only [Int.natCast_zero, Int.ofNat_zero] at e2
      rw [atB_not hn2]
      rw [aCall_eq T_spec_MemOk]; unfold A_spec_MemOk C_spec_MemOk; simp [thenD_pp, sliceCells_sl, sliceCells_z, sliceCells_nil, take_full, appS_sl, appK_ok, appS_none, thenD_ag, agP_nil, agP_cons, h1, h2, h3, h3', h4, h4', e]
      rw [S_spec_MemOk_0]; unfold B_spec_MemOk_0; simp [thenD_pp, sliceCells_sl, sliceCells_z, sliceCells_nil, take_full, appS_sl, appK_ok, appS_none, thenD_ag, agP_nil, agP_cons, rd1_K, rdJ_ok]
      simp [e2]
  · simp only [Int.natCast_zero, Int.ofNat_zero] at e
    rw [atB_not hn, Bool.false_and]
    rw [aCall_eq T_spec_MemOk]; unfold A_spec_MemOk C_spec_MemOk; simp [thenD_pp, sliceCells_sl, sliceCells_z, sliceCells_nil, take_full, appS_sl, appK_ok, appS_none, thenD_ag, agP_nil, agP_cons, h1, h2, h3, h3', h4, h4', e]
theorem idx_le {α : Type} {p : α → Bool} {xs : List α} {i : Nat} (hi : i < xs.length) (hp : p xs[i] = true) : 0 ≤ idx p xs ∧ idx p xs ≤ i := by
  rcases idx_cases p xs with ⟨ha, h1⟩ | ⟨j, hj, ha, h1, h2⟩
  · rw [h1 i hi] at hp; cases hp
  · by_cases hji : i < j
    · rw [h1 i hi hji] at hp; cases hp
    · omega
theorem live_self {r : ty_Rec.D} (h : r.1 = true) : liveW r.2.2.2 r = true := by unfold liveW; simp [h]
theorem l_spec_ScanOk_0 (M X : Mem) (hM : M <+: X) (v : V) (rs : List ty_Rec.D) (h : Rep (.sl ty_Rec) X [v] rs) (hn : rs.length ≤ 1048576) :
    ((∀ i, i < rs.length → fr1 rs i = true) ∧ lp (aCall T0) K_spec_ScanOk_0 L_spec_ScanOk_0 [und, und, und, v, und, .int .i64 (0 : Nat), und, und, und, und, und, und, und, und, und, und, und, und, und, und, und, und, und, und, und, und, und, und, und, und, und, und, und, und, und, und, und, und, und, und, und, und, und, und, und, und, und, und, und, und, und, und, und, und, und, und, und, und, und] X = lp (aCall T0) K_spec_ScanOk_0 L_spec_ScanOk_0 [und, und, und, v, und, .int .i64 rs.length, und, und, und, und, und, und, und, und, und, und, und, und, und, und, und, und, und, und, und, und, und, und, und, und, und, und, und, und, und, und, und, und, und, und, und, und, und, und, und, und, und, und, und, und, und, und, und, und, und, und, und, und, und] X) ∨
    ((∃ i, i < rs.length ∧ fr1 rs i = false) ∧ ∀ k, thenF M [.tmp 2] (thenS (blockR 0 (lp (aCall T0) K_spec_ScanOk_0 L_spec_ScanOk_0 [und, und, und, v, und, .int .i64 (0 : Nat), und, und, und, und, und, und, und, und, und, und, und, und, und, und, und, und, und, und, und, und, und, und, und, und, und, und, und, und, und, und, und, und, und, und, und, und, und, und, und, und, und, und, und, und, und, und, und, und, und, und, und, und, und] X)) (aCall T0) k) = some (.bool false, M)) := by
  have key := loop_ok (call := aCall T0) (K := K_spec_ScanOk_0) (L := L_spec_ScanOk_0) (fun _ Y => Y = X) (fun i => [und, und, und, v, und, .int .i64 i, und, und, und, und, und, und, und, und, und, und, und, und, und, und, und, und, und, und, und, und, und, und, und, und, und, und, und, und, und, und, und, und, und, und, und, und, und, und, und, und, und, und, und, und, und, und, und, und, und, und, und, und, und]) (fr1 rs) (n := rs.length) (M0 := M) (rs := [.tmp 2]) (k0 := 0) (a := .bool false) X rfl ?_ ?_
  · rcases key with ⟨X', rfl, h1, h2⟩ | h
    · exact .inl ⟨h1, h2⟩
    · exact .inr h
  · intro i Y hi hq e
    subst e
    refine ⟨Y, rfl, ?_⟩
    have s1 := fun w : List UInt8 => c_spec_l21At Y v rs w h hn
    obtain ⟨a, c, rfl⟩ := h.slen
    obtain ⟨l, o, rfl, _, q0, q1, _, _, q2⟩ := at_Rec h hi
    have e6 : IntKind.i64.wrap ((i : Int) + 1) = i + 1 := wrap_i64 (by omega) (by omega)
    rw [fr1_get hi] at hq
    unfold frB at hq
    have hs := fun hl : rs[i].1 = true => idx_le hi (live_self (r := rs[i]) hl)
    generalize rs[i] = r at q1 q2 hq hs
    obtain ⟨r1, r2, r3, r4⟩ := r
    cases r1 with
    | false =>
      rw [S_spec_ScanOk_0]; unfold B_spec_ScanOk_0; simp [thenD_pp, sliceCells_sl, sliceCells_z, sliceCells_nil, take_full, appS_sl, appK_ok, appS_none, thenD_ag, agP_nil, agP_cons, hi, q1, e6]
    | true =>
      have hs := hs rfl
      simp only [Bool.true_and, Bool.not_eq_true', decide_eq_false_iff_not] at hq hs
      have hq2 : idx (liveW r4) rs = i := by omega
      rw [S_spec_ScanOk_0]; unfold B_spec_ScanOk_0; simp [thenD_pp, sliceCells_sl, sliceCells_z, sliceCells_nil, take_full, appS_sl, appK_ok, appS_none, thenD_ag, agP_nil, agP_cons, hi, q1, q2, s1, hq2, e6]
  · intro i Y hi hq e k
    subst e
    have s1 := fun w : List UInt8 => c_spec_l21At Y v rs w h hn
    obtain ⟨a, c, rfl⟩ := h.slen
    obtain ⟨l, o, rfl, _, q0, q1, _, _, q2⟩ := at_Rec h hi
    rw [fr1_get hi] at hq
    unfold frB at hq
    generalize rs[i] = r at q1 q2 hq
    obtain ⟨r1, r2, r3, r4⟩ := r
    simp only [Bool.not_eq_false', Bool.and_eq_true, decide_eq_true_eq] at hq
    obtain ⟨rfl, hq⟩ := hq
    have hq2 : ¬ idx (liveW r4) rs = i := by omega
    have gb := fun b => gc_boolp hM b
    rw [S_spec_ScanOk_0]; unfold B_spec_ScanOk_0; simp [thenD_pp, sliceCells_sl, sliceCells_z, sliceCells_nil, take_full, appS_sl, appK_ok, appS_none, thenD_ag, agP_nil, agP_cons, hi, q1, q2, s1, hq2, gb]
theorem c_spec_ScanOk (M : Mem) (cs : List V) (m : ty_Scan.D) (h : Rep ty_Scan M cs m) : aCall T0 F_spec_ScanOk [.agg cs.toArray] M = some (.bool (scanB m), M) := by
  have s1 := fun N : Mem => c_spec_MemOk (M ++ N) cs m (h.mono (List.prefix_append _ _))
  have s2 := fun N : Mem => c_spec_l21Recs (M ++ N) cs m (h.mono (List.prefix_append _ _))
  obtain ⟨a, b, c, d, rfl, r0, r1⟩ := mem_shape h
  unfold scanB
  by_cases h1 : (m.1 : Int) = 37
  rotate_left
  · rw [decide_eq_false (fun q => h1 q.1), Bool.false_and, Bool.false_and]
    rw [aCall_eq T_spec_ScanOk]; unfold A_spec_ScanOk C_spec_ScanOk; simp [thenD_pp, sliceCells_sl, sliceCells_z, sliceCells_nil, take_full, appS_sl, appK_ok, appS_none, thenD_ag, agP_nil, agP_cons, h1]
  by_cases h2 : m.2.1.length < 1
  · rw [decide_eq_false (fun q => by omega), Bool.false_and, Bool.false_and]
    have h2' : (m.2.1.length : Int) < 1 := by omega
    rw [aCall_eq T_spec_ScanOk]; unfold A_spec_ScanOk C_spec_ScanOk; simp [thenD_pp, sliceCells_sl, sliceCells_z, sliceCells_nil, take_full, appS_sl, appK_ok, appS_none, thenD_ag, agP_nil, agP_cons, h1, h2']
  have h2' : ¬ (m.2.1.length : Int) < 1 := by omega
  by_cases h3 : 64 < m.2.1.length
  · rw [decide_eq_false (fun q => by omega), Bool.false_and, Bool.false_and]
    have h3' : (64 : Int) < m.2.1.length := by omega
    rw [aCall_eq T_spec_ScanOk]; unfold A_spec_ScanOk C_spec_ScanOk; simp [thenD_pp, sliceCells_sl, sliceCells_z, sliceCells_nil, take_full, appS_sl, appK_ok, appS_none, thenD_ag, agP_nil, agP_cons, h1, h2', h3']
  have h3' : ¬ (64 : Int) < m.2.1.length := by omega
  rw [decide_eq_true ⟨h1, by omega, by omega⟩, Bool.true_and]
  cases h4 : memB m with
  | false =>
    rw [h4] at s1
    rw [aCall_eq T_spec_ScanOk]; unfold A_spec_ScanOk C_spec_ScanOk; simp [thenD_pp, sliceCells_sl, sliceCells_z, sliceCells_nil, take_full, appS_sl, appK_ok, appS_none, thenD_ag, agP_nil, agP_cons, eq_true h1, h2', h3', s1]
  | true =>
  rw [h4] at s1
  rw [Bool.true_and]
  rw [aCall_eq T_spec_ScanOk]; unfold A_spec_ScanOk C_spec_ScanOk; simp [thenD_pp, sliceCells_sl, sliceCells_z, sliceCells_nil, take_full, appS_sl, appK_ok, appS_none, thenD_ag, agP_nil, agP_cons, eq_true h1, h2', h3', s1]
  generalize hx : aCall T0 F_spec_l21Recs _ _ = xhx
  obtain ⟨w1, X1, rfl, v, n, e1, p1, hn1, g1⟩ := of_call hx (s2 _ (by omega))
  clear hx
  simp only at e1
  subst e1
  have pM : M <+: X1 := (List.prefix_append _ _).trans p1
  unfold specR at hn1 g1
  cases h5 : m.2.1.all recOk with
  | false =>
    simp [thenD_pp, sliceCells_sl, sliceCells_z, sliceCells_nil, take_full, appS_sl, appK_ok, appS_none, thenD_ag, agP_nil, agP_cons]
    exact gc_boolp pM _
  | true =>
  rw [h5, if_pos rfl] at hn1 g1
  have hr := grow_Rec g1 hn1 recs_bd
  rw [Bool.true_and]
  have hn2 : (m.2.1.map recX).length = m.2.1.length := List.length_map _
  rw [← hn2]
  generalize m.2.1.map recX = rs at hn1 g1 hr hn2 ⊢
  rcases l_spec_ScanOk_0 M X1 pM v rs hr (by omega) with ⟨ha, e⟩ | ⟨hb, e⟩
  · simp only [Int.natCast_zero, Int.ofNat_zero] at e
    rw [range_all ha]
    simp [thenD_pp, sliceCells_sl, sliceCells_z, sliceCells_nil, take_full, appS_sl, appK_ok, appS_none, thenD_ag, agP_nil, agP_cons, e]
    obtain ⟨_, rfl⟩ := g1.shape
    have gb := fun b => gc_boolp pM b
    rw [hn1]
    rw [S_spec_ScanOk_0]; unfold B_spec_ScanOk_0; simp [thenD_pp, sliceCells_sl, sliceCells_z, sliceCells_nil, take_full, appS_sl, appK_ok, appS_none, thenD_ag, agP_nil, agP_cons, gb]
  · simp only [Int.natCast_zero, Int.ofNat_zero] at e
    obtain ⟨i, hi, hq⟩ := hb
    rw [range_not hi hq]
    simp [thenD_pp, sliceCells_sl, sliceCells_z, sliceCells_nil, take_full, appS_sl, appK_ok, appS_none, thenD_ag, agP_nil, agP_cons, e]
def CpS (M : Mem) (m : ty_Mem.D) (a b : Option Addr) (c d p lg : Nat) (X : Mem) (u0 u1 : V) (xs : List ty_Cell.D) : Prop := ∃ L, M <+: X ∧ X[M.length]? = some ⟨[.int .i64 m.1, .slice a m.2.1.length c, .slice b m.2.2.length d], 1, 2⟩ ∧ X[M.length + 1]? = some ⟨[.int .i64 0, .slice none 0 0, .slice none 0 0], 1, 2⟩ ∧ X[p]? = some ⟨[.int .i64 m.1, u0, u1], 1, 2⟩ ∧ Gr (.sl ty_Cell) X [u0] xs L ∧ L.Nodup ∧ (∀ l ∈ L, p < l) ∧ Gr (.sl ty_Touch) X [u1] m.2.2 [lg]
theorem l_spec_l04Copy_0 (M : Mem) (m : ty_Mem.D) (a b : Option Addr) (c d p lg : Nat) (h : Rep (.sl ty_Cell) M [.slice a m.2.1.length c] m.2.1) (hn : m.2.1.length ≤ 128) (hm : ∀ x ∈ m.2.1, x.length ≤ 1048576) (u0 u1 : V) (Z : Mem) (hp : M.length + 2 ≤ p) (hl1 : M.length + 2 ≤ lg) (hl2 : lg < p) (hZ : CpS M m a b c d p lg Z u0 u1 []) :
    ∃ u0' X', CpS M m a b c d p lg X' u0' u1 m.2.1 ∧ lp (aCall T0) K_spec_l04Copy_0 L_spec_l04Copy_0 [und, .pointer (some ⟨M.length, 0, none⟩), .pointer (some ⟨M.length + 1, 0, none⟩), .pointer (some ⟨p, 0, none⟩), .int .i64 (0 : Nat), und, und, und, und, und, und, und, und, und, und, und, und, und, und, und, und, und, und, und, und, und, und, und, und, und, und, und, und, und] Z = lp (aCall T0) K_spec_l04Copy_0 L_spec_l04Copy_0 [und, .pointer (some ⟨M.length, 0, none⟩), .pointer (some ⟨M.length + 1, 0, none⟩), .pointer (some ⟨p, 0, none⟩), .int .i64 m.2.1.length, und, und, und, und, und, und, und, und, und, und, und, und, und, und, und, und, und, und, und, und, und, und, und, und, und, und, und, und, und] X' := by
  have key := loop_to (call := aCall T0) (K := K_spec_l04Copy_0) (L := L_spec_l04Copy_0) (fun i u0 X => CpS M m a b c d p lg X u0 u1 (m.2.1.take i)) (fun i _ => [und, .pointer (some ⟨M.length, 0, none⟩), .pointer (some ⟨M.length + 1, 0, none⟩), .pointer (some ⟨p, 0, none⟩), .int .i64 i, und, und, und, und, und, und, und, und, und, und, und, und, und, und, und, und, und, und, und, und, und, und, und, und, und, und, und, und, und]) (n := m.2.1.length) ?_ 0 u0 Z (by omega) (by simpa using hZ)
  · rw [List.take_length] at key
    exact key
  intro i u X hi hX
  obtain ⟨L, pX, b0, b1, b2, g0, hnd, hge, g1⟩ := hX
  obtain ⟨l, o, w, rfl, q1, _, q3⟩ := at_Cell (h.mono pX) hi
  rw [List.take_succ_eq_append_getElem hi]
  have hlen : (m.2.1.take i).length = i := by rw [List.length_take]; omega
  generalize m.2.1.take i = xs at g0 hlen ⊢
  have hmc := hm _ (List.getElem_mem hi)
  generalize m.2.1[i] = cell at q3 hmc ⊢
  obtain ⟨⟨a2, c2, rfl⟩, hc, _⟩ := rep_cellsF fl_Byte (q3.mono (List.prefix_append X [(⟨[], 1, 2⟩ : Blk)]))
  have hc : sliceCells (X ++ [(⟨[], 1, 2⟩ : Blk)]) 1 (.slice a2 (List.length (α := UInt8) cell) c2) = some (List.length (α := UInt8) cell, (List.map enc_Byte cell).flatten) := hc
  have e6 : IntKind.i64.wrap ((i : Int) + 1) = i + 1 := wrap_i64 (by omega) (by omega)
  have b0' := fun N : Mem => get_pre' (N := N) b0
  have b2' := fun N : Mem => get_pre' (N := N) b2
  have q1' := fun N : Mem => rd1_old (N := N) q1
  simp only [rd1_K] at q1 q1'
  obtain ⟨a3, rfl⟩ := g0.shape
  have hll : l < M.length := by obtain ⟨blk, hbk, _⟩ := rep_blk h; exact get_lt hbk
  have hlX := get_lt b2
  have hh1 : hits [X.length] [l, M.length, p] = false := hits_ge (K := X.length) (by simp) (by simp; omega)
  rw [S_spec_l04Copy_0]; unfold B_spec_l04Copy_0; simp [thenD_pp, sliceCells_sl, sliceCells_z, sliceCells_nil, take_full, appS_sl, appK_ok, appS_none, thenD_ag, agP_nil, agP_cons, b0, b2, b0', b2', hi, q1, q1', hc, zeroCells, rd1_K, rdJ_ok]
  generalize hy : appS _ _ _ _ _ _ = xhy
  obtain ⟨l2, X3, rfl, hl2', gb, ag⟩ := cp_all (t := .u8) (xs := cell) fl_Byte hy (by simp [Ty.w]) (by simp) (by omega) (by omega)
  clear hy
  have p3 : X <+: X3 := ag.pre (List.prefix_append _ _) (by simp)
  have b2'' := fun N : Mem => get_pre' (N := N) (get_pre p3 b2)
  have hwL : ∀ b ∈ wfs (.slice a3 xs.length xs.length), p < b := by
    obtain ⟨_, _, hw⟩ := g0.gr (K := 0) (by simp)
    exact fun b hb => hge b (hw b hb)
  have hh2 : hits (wfs (.slice a3 xs.length xs.length)) [l, M.length, p] = false := hits_ge (K := p + 1) (fun b hb => hwL b hb) (by simp; omega)
  simp [thenD_pp, sliceCells_sl, sliceCells_z, sliceCells_nil, take_full, appS_sl, appK_ok, appS_none, thenD_ag, agP_nil, agP_cons, thenD_agree, ag, hh1, zeroCells]
  generalize hy : appS _ _ _ _ _ _ = xhy
  have hcg : Gr ty_Cell (X3 ++ [(⟨[.slice (some ⟨l2, 0, none⟩) (List.length (α := UInt8) cell) (List.length (α := UInt8) cell)], 1, 2⟩ : Blk)]) [.slice (some ⟨l2, 0, none⟩) (List.length (α := UInt8) cell) (List.length (α := UInt8) cell)] cell [l2] := gb.grow (List.prefix_append _ _)
  obtain ⟨l4, X4, L', rfl, g4, ag2, len2, hw4, nd4, sub4, hl4⟩ := g0.app (t := ty_Cell) hy (p3.trans (List.prefix_append _ _)) hcg (by simpa using hl2') hnd (by simp) (by rw [hlen]; omega) (by rw [hlen]; omega)
  clear hy
  have hnw : ∀ j, j ≤ p → j ∉ wfs (.slice a3 xs.length xs.length) := fun j hj hm => by have := hwL j hm; omega
  have y0 := ag2.get (get_pre' (get_pre p3 b0)) (hnw _ (by omega))
  have y1 := ag2.get (get_pre' (get_pre p3 b1)) (hnw _ (by omega))
  have y2 := ag2.get (get_pre' (get_pre p3 b2)) (hnw _ (Nat.le_refl _))
  have gl := (((g1.grow p3).grow (List.prefix_append X3 [(⟨[.slice (some ⟨l2, 0, none⟩) (List.length (α := UInt8) cell) (List.length (α := UInt8) cell)], 1, 2⟩ : Blk)])).agree ag2 (by
    intro j hj hm
    have := hwL j hm
    simp at hj
    omega))
  have pX4 : M <+: X4 := ag2.pre (pf_app (pX.trans p3)) (fun j hj => by have := hwL j hj; omega)
  have hgt : ∀ j ∈ L', p < j := fun j hj => by
    have hx3 := p3.length_le
    rcases sub4 j hj with h | h | h
    · exact hge j h
    · simp at h; omega
    · simp at hl4; omega
  simp [thenD_pp, sliceCells_sl, sliceCells_z, sliceCells_nil, take_full, appS_sl, appK_ok, appS_none, thenD_ag, agP_nil, agP_cons, y2, e6, thenD_agree, ag2, hh2, rd1_K, rdJ_ok, wrn_K, wrJ_ok]
  refine ⟨_, _, ⟨L', pf_set (by omega) pX4, ?_, ?_, gs_of y2 _, ?_, nd4, hgt, ?_⟩, rfl⟩
  · rw [gt_set (by omega)]; exact y0
  · rw [gt_set (by omega)]; exact y1
  · exact g4.set _ (fun hm => by have := hgt _ hm; omega)
  · exact gl.set _ (by simp; omega)
set_option maxHeartbeats 1000000 in
theorem c_spec_l04Copy (M : Mem) (cs : List V) (m : ty_Mem.D) (h : Rep ty_Mem M cs m) (hz : MemSz m) : Sat (aCall T0 F_spec_l04Copy [.agg cs.toArray] M) (GrD ty_Mem M m) := by
  have hw := mem_wf h
  obtain ⟨a, b, c, d, rfl, r0, r1⟩ := mem_shape h
  obtain ⟨z1, z2, z3⟩ := hz
  have hc : ∀ N : Mem, sliceCells (M ++ N) 3 (.slice b m.2.2.length d) = some (m.2.2.length, (m.2.2.map enc_Touch).flatten) := fun N => (rep_cellsF fl_Touch (r1.mono (List.prefix_append M N))).2.1
  have hP := (rep_cellsF fl_Touch r1).2.2
  have hh2 : hits [M.length + 2] [M.length, M.length] = false := hits_ge (K := M.length + 2) (by simp) (by simp)
  rw [aCall_eq T_spec_l04Copy]; unfold A_spec_l04Copy C_spec_l04Copy; simp [thenD_pp, sliceCells_sl, sliceCells_z, sliceCells_nil, take_full, appS_sl, appK_ok, appS_none, thenD_ag, agP_nil, agP_cons, zeroCells, hc]
  generalize hy : appS _ _ _ _ _ _ = xhy
  obtain ⟨lg, X3, rfl, hlg, g1, ag⟩ := cp_all (t := ty_Touch) (xs := m.2.2) fl_Touch hy (by simp [Ty.w]) hP (by omega) (by omega)
  clear hy
  have b0 : X3[M.length]? = some ⟨[.int .i64 m.1, .slice a m.2.1.length c, .slice b m.2.2.length d], 1, 2⟩ := ag.get (by simp) (by simp)
  have b1 : X3[M.length + 1]? = some ⟨[.int .i64 0, .slice none 0 0, .slice none 0 0], 1, 2⟩ := ag.get (by simp) (by simp)
  have p3 : M <+: X3 := ag.pre (List.prefix_append _ _) (by simp)
  have hl3 : lg < X3.length := g1.lt lg (by simp)
  simp [thenD_pp, sliceCells_sl, sliceCells_z, sliceCells_nil, take_full, appS_sl, appK_ok, appS_none, thenD_ag, agP_nil, agP_cons, thenD_agree, ag, hh2, zeroCells]
  have hZ : CpS M m a b c d X3.length lg (X3 ++ [⟨[.int .i64 m.1, .slice none 0 0, .slice (some ⟨lg, 0, none⟩) m.2.2.length m.2.2.length], 1, 2⟩]) (.slice none 0 0) (.slice (some ⟨lg, 0, none⟩) m.2.2.length m.2.2.length) [] :=
    ⟨[], pf_app p3, get_pre' b0, get_pre' b1, by simp, Gr.nil, by simp, by simp, g1.grow (List.prefix_append _ _)⟩
  obtain ⟨u0', X', ⟨L, q1, q2, q3, q4, q5, q6, q7, q8⟩, e⟩ := l_spec_l04Copy_0 M m a b c d X3.length lg r0 z1 z3 (.slice none 0 0) (.slice (some ⟨lg, 0, none⟩) m.2.2.length m.2.2.length) _ (by have := get_lt b1; omega) (by omega) hl3 hZ
  simp only [Int.natCast_zero, Int.ofNat_zero] at e
  simp only [e]
  obtain ⟨a5, rfl⟩ := q5.shape
  rw [S_spec_l04Copy_0]; unfold B_spec_l04Copy_0; simp [thenD_pp, sliceCells_sl, sliceCells_z, sliceCells_nil, take_full, appS_sl, appK_ok, appS_none, thenD_ag, agP_nil, agP_cons, q2, q4, rd1_K, rdJ_ok]
  simp [thenD_pp, sliceCells_sl, sliceCells_z, sliceCells_nil, take_full, appS_sl, appK_ok, appS_none, thenD_ag, agP_nil, agP_cons, q2, q3, q4, gs_of q3, rd1_K, rdJ_ok, rdn_K, rnJ_ok, wrn_K, wrJ_ok]
  refine sat_some ⟨_, L ++ [lg], rfl, pf_set (by omega) q1, ?_, ?_, ?_⟩
  · refine gr_Mem hw (q5.set _ fun hm => ?_) (q8.set _ (by simp; omega))
    have := q7 _ hm
    have := get_lt b1
    omega
  · refine List.nodup_append.2 ⟨q6, by simp, fun x hx y hy e => ?_⟩
    simp at hy
    have := q7 x hx
    omega
  · intro l hl
    rcases List.mem_append.1 hl with hl | hl
    · have := q7 l hl
      have := get_lt b1
      omega
    · simp at hl
      omega
theorem c_spec_l20Op (M : Mem) (op : Int) : aCall T0 F_spec_l20Op [.int .i64 op] M = some (.bool (decide (op = 3) || (decide (op = 4) || decide (op = 5))), M) := by
  rw [aCall_eq T_spec_l20Op]; unfold A_spec_l20Op C_spec_l20Op; simp
  repeat' ((first | rw [selO_some] | rw [condR_bool] | rw [selD_some]); split <;> rename_i hq <;> (have hq2 := hq) <;> (try simp at hq2) <;> (try simp [*]))
theorem Gr.appF {t : Ty} {enc : t.D → List V} {P : t.D → Prop} (hf : FlatE t enc P) {X X2 : Mem} {v : V} {xs : List t.D} {L : List Nat} (h : Gr (.sl t) X [v] xs L) {bytes m : Nat} {zs : List t.D} {x : Option (V × Mem)} (hx : appS X2 t.w bytes v m (zs.map enc).flatten = x) (hp : X <+: X2)
    (hm : zs.length = m) (h0 : 0 < m) (hP : ∀ z ∈ zs, P z) (hs : (xs.length + m) * bytes ≤ 140737488355328) (hs2 : xs.length + m ≤ 9223372036854775807) :
    ∃ l X3, x = some (.slice (some ⟨l, 0, none⟩) (xs.length + m) (xs.length + m), X3) ∧ Gr (.sl t) X3 [.slice (some ⟨l, 0, none⟩) (xs.length + m) (xs.length + m)] (xs ++ zs) [l] ∧ Agree X2 X3 (wfs v) ∧ X2.length < X3.length ∧ (∀ b ∈ wfs v, b ∈ L) ∧ X2.length ≤ l := by
  obtain ⟨cs, hg, hw⟩ := h.gr (K := 0) (by simp)
  obtain ⟨_, hc, hPx⟩ := rep_cellsF hf h.rep
  have hcs : cs = (xs.map enc).flatten := by
    have := hg.cells
    rw [hc] at this
    simpa using this.symm
  subst hcs
  have g2 := hg.pre hp
  have hlen : (zs.map enc).flatten.length = m * t.w := by
    rw [flat_len (fun ds hd => by
      obtain ⟨z, hz, rfl⟩ := List.mem_map.1 hd
      exact (hf.1 X z (hP z hz)).len), List.length_map, hm]
  have hone : (zs.map enc).flatten.all GoAm.one = true := by
    rw [List.all_eq_true]
    intro y hy
    obtain ⟨ds, hd, hy⟩ := List.mem_flatten.1 hy
    obtain ⟨z, hz, rfl⟩ := List.mem_map.1 hd
    exact List.all_eq_true.1 (hf.1 X z (hP z hz)).one y hy
  have e := g2.app (m := m) (bytes := bytes) (ys := (zs.map enc).flatten) hlen h0 hone hs hs2
  refine ⟨_, _, hx.symm.trans e, ?_, kill_agree _ _ _, by rw [List.length_append, kill_len]; simp, hw, Nat.le_refl _⟩
  have hb : (kill X2 v ++ [(⟨(xs.map enc).flatten ++ (zs.map enc).flatten, t.w, 2⟩ : Blk)])[X2.length]? = some ⟨((xs ++ zs).map enc).flatten, t.w, 2⟩ := by
    rw [List.getElem?_append_right (by rw [kill_len]; exact Nat.le_refl _), kill_len]; simp
  have := gr_flat hf hb (fun z hz => by
    rcases List.mem_append.1 hz with hz | hz
    · exact hPx z hz
    · exact hP z hz)
  rw [List.length_append, hm] at this
  exact this
theorem l_spec_ScanPut_0 (M : Mem) (p : Nat) (u0 v : V) (L : List Nat) (cells : List ty_Cell.D) (log : List ty_Touch.D) (n : Nat) (op pe po : V) (a : Option Addr) (c : Nat) (hv : v = .slice a n c) (hp : p < M.length) (hpL : p ∉ L) (hn2 : n ≤ 64) (hl : log.length ≤ 6000) (Z : Mem) (hZ : PSt M p 37 u0 L cells log Z) :
    ∃ X', PSt M p 37 u0 L cells (logP 37 log n) X' ∧ lp (aCall T0) K_spec_ScanPut_0 L_spec_ScanPut_0 [und, op, und, und, und, pe, po, und, und, v, und, .pointer (some ⟨p, 0, none⟩), .int .i64 (0 : Nat), und, und, und, und, und, und, und, und, und, und, und, und, und, und, und, und, und, und, und, und, und, und, und, und, und, und, und, und, und, und, und, und, und, und, und, und, und, und, und, und, und, und, und, und, und, und, und, und, und, und, und, und, und, und, und, und, und, und, und, und, und, und, und, und, und, und, und, und, und, und, und, und, und, und, und, und, und, und, und, und, und, und, und, und, und, und, und, und, und, und, und, und, und, und, und, und, und, und, und, und, und, und, und, und, und, und, und, und, und, und, und] Z = lp (aCall T0) K_spec_ScanPut_0 L_spec_ScanPut_0 [und, op, und, und, und, pe, po, und, und, v, und, .pointer (some ⟨p, 0, none⟩), .int .i64 n, und, und, und, und, und, und, und, und, und, und, und, und, und, und, und, und, und, und, und, und, und, und, und, und, und, und, und, und, und, und, und, und, und, und, und, und, und, und, und, und, und, und, und, und, und, und, und, und, und, und, und, und, und, und, und, und, und, und, und, und, und, und, und, und, und, und, und, und, und, und, und, und, und, und, und, und, und, und, und, und, und, und, und, und, und, und, und, und, und, und, und, und, und, und, und, und, und, und, und, und, und, und, und, und, und, und, und, und, und, und, und] X' := by
  subst hv
  have key := loop_to (call := aCall T0) (K := K_spec_ScanPut_0) (L := L_spec_ScanPut_0) (fun i (_ : Unit) X => PSt M p 37 u0 L cells (logP 37 log i) X) (fun i _ => [und, op, und, und, und, pe, po, und, und, .slice a n c, und, .pointer (some ⟨p, 0, none⟩), .int .i64 i, und, und, und, und, und, und, und, und, und, und, und, und, und, und, und, und, und, und, und, und, und, und, und, und, und, und, und, und, und, und, und, und, und, und, und, und, und, und, und, und, und, und, und, und, und, und, und, und, und, und, und, und, und, und, und, und, und, und, und, und, und, und, und, und, und, und, und, und, und, und, und, und, und, und, und, und, und, und, und, und, und, und, und, und, und, und, und, und, und, und, und, und, und, und, und, und, und, und, und, und, und, und, und, und, und, und, und, und, und, und, und]) (n := n) ?_ 0 () Z (by omega) (by unfold logP; simpa using hZ)
  · obtain ⟨_, X', h1, h2⟩ := key
    exact ⟨X', h1, h2⟩
  intro i _ X hi hX
  obtain ⟨u1, L0, L1, b2, g0, g1, nd, hsub, hag⟩ := hX
  have hll := logP_len 37 log i
  have e6 : IntKind.i64.wrap ((i : Int) + 1) = i + 1 := wrap_i64 (by omega) (by omega)
  unfold logP
  generalize logP 37 log i = lg at g1 hll ⊢
  have hpn : p ∉ L0 ++ L1 := fun hm => by
    rcases hsub p hm with h | h
    · exact hpL h
    · omega
  have hXM : M.length ≤ X.length := hag.1
  have hwf := gr_wfs g1
  obtain ⟨a1, rfl⟩ := g1.shape
  have hpX := List.prefix_append X [(⟨[.int .i64 1, .int .i64 i, .int .i64 37, .int .i64 2, .int .i64 i, .int .i64 37], 3, 2⟩ : Blk)]
  rw [S_spec_ScanPut_0]; unfold B_spec_ScanPut_0; simp [thenD_pp, sliceCells_sl, sliceCells_z, sliceCells_nil, take_full, appS_sl, appK_ok, appS_none, thenD_ag, agP_nil, agP_cons, hi, b2, zeroCells, rd1_K, rdJ_ok]
  generalize hy : appS _ _ _ _ _ _ = xhy
  obtain ⟨l4, X4, rfl, g4, ag2, len2, hw4, hl4⟩ := Gr.appF (m := 2) (bytes := 24) fl_Touch g1 (zs := [((1 : Int), (i : Int), (37 : Int)), ((2 : Int), (i : Int), (37 : Int))]) hy hpX rfl (by decide) (fun z hz => by
    have w1 : (Lit.int .i64 (i : Int)).wf = true := wf_range (by omega)
    simp only [List.mem_cons, List.not_mem_nil, or_false] at hz
    rcases hz with rfl | rfl
    · exact ⟨show (Lit.int .i64 1).wf = true by decide, w1, show (Lit.int .i64 37).wf = true by decide⟩
    · exact ⟨show (Lit.int .i64 2).wf = true by decide, w1, show (Lit.int .i64 37).wf = true by decide⟩) (by omega) (by omega)
  clear hy
  have hnw : ∀ j, j ∉ L1 → j ∉ wfs (.slice a1 lg.length lg.length) := fun j hj hm => hj (hwf _ hm)
  have hn3 := List.nodup_append.1 nd
  have hpn' := hpn
  simp only [List.mem_append, not_or] at hpn'
  have hpl := get_lt b2
  have y2 := ag2.get (get_pre hpX b2) (hnw _ hpn'.2)
  have hdis : ∀ j ∈ L0, j ∉ L1 := fun j hj hm => hn3.2.2 j hj j hm rfl
  have g0' := ((g0.grow hpX).agree ag2 (fun j hj => hnw _ (hdis j hj)))
  have hl4' : X.length < l4 := by simp at hl4; omega
  simp [thenD_pp, sliceCells_sl, sliceCells_z, sliceCells_nil, take_full, appS_sl, appK_ok, appS_none, thenD_ag, agP_nil, agP_cons, y2, gs_of y2, e6, rd1_K, rdJ_ok, wrn_K, wrJ_ok]
  have o0 := g0.one
  refine ⟨_, ⟨_, L0, [l4], gs_of y2 _, g0'.set _ hpn'.1, g4.set _ (by simp; omega), ?_, fun j hj => ?_, ?_⟩, rfl⟩
  · refine List.nodup_append.2 ⟨hn3.1, by simp, fun x hx y hy e => ?_⟩
    simp at hy
    have := g0.lt x hx
    omega
  · rcases List.mem_append.1 hj with h | h
    · exact hsub j (List.mem_append_left _ h)
    · simp at h
      exact .inr (by omega)
  · refine ⟨by rw [List.length_set]; simp at len2; omega, fun j hj hn => ?_⟩
    simp only [List.mem_cons, not_or] at hn
    rw [gt_set (Ne.symm hn.1), ag2.2 j (by simp; omega) (fun hm => ?_), List.getElem?_append_left (by omega)]
    · exact hag.2 j hj (by simp only [List.mem_cons, not_or]; exact hn)
    · have := hwf _ hm
      rcases hsub j (List.mem_append_right _ this) with h | h
      · exact hn.2 h
      · omega
def notL (r : ty_Rec.D) : Bool := !r.1
theorem l_spec_ScanPut_1 (X : Mem) (v po pm pnow : V) (rs : List ty_Rec.D) (h : Rep (.sl ty_Rec) X [v] rs) (hn : rs.length ≤ 64) :
    (idx notL rs = -1 ∧ lp (aCall T0) K_spec_ScanPut_1 L_spec_ScanPut_1 [und, und, und, und, und, und, po, und, und, v, und, pm, und, .int .i64 (-1), pnow, .int .i64 (0 : Nat), und, und, und, und, und, und, und, und, und, und, und, und, und, und, und, und, und, und, und, und, und, und, und, und, und, und, und, und, und, und, und, und, und, und, und, und, und, und, und, und, und, und, und, und, und, und, und, und, und, und, und, und, und, und, und, und, und, und, und, und, und, und, und, und, und, und, und, und, und, und, und, und, und, und, und, und, und, und, und, und, und, und, und, und, und, und, und, und, und, und, und, und, und, und, und, und, und, und, und, und, und, und, und, und, und, und, und, und] X = lp (aCall T0) K_spec_ScanPut_1 L_spec_ScanPut_1 [und, und, und, und, und, und, po, und, und, v, und, pm, und, .int .i64 (-1), pnow, .int .i64 rs.length, und, und, und, und, und, und, und, und, und, und, und, und, und, und, und, und, und, und, und, und, und, und, und, und, und, und, und, und, und, und, und, und, und, und, und, und, und, und, und, und, und, und, und, und, und, und, und, und, und, und, und, und, und, und, und, und, und, und, und, und, und, und, und, und, und, und, und, und, und, und, und, und, und, und, und, und, und, und, und, und, und, und, und, und, und, und, und, und, und, und, und, und, und, und, und, und, und, und, und, und, und, und, und, und, und, und, und, und] X) ∨
    (∃ j : Nat, j < rs.length ∧ idx notL rs = j ∧ lp (aCall T0) K_spec_ScanPut_1 L_spec_ScanPut_1 [und, und, und, und, und, und, po, und, und, v, und, pm, und, .int .i64 (-1), pnow, .int .i64 (0 : Nat), und, und, und, und, und, und, und, und, und, und, und, und, und, und, und, und, und, und, und, und, und, und, und, und, und, und, und, und, und, und, und, und, und, und, und, und, und, und, und, und, und, und, und, und, und, und, und, und, und, und, und, und, und, und, und, und, und, und, und, und, und, und, und, und, und, und, und, und, und, und, und, und, und, und, und, und, und, und, und, und, und, und, und, und, und, und, und, und, und, und, und, und, und, und, und, und, und, und, und, und, und, und, und, und, und, und, und, und] X = lp (aCall T0) K_spec_ScanPut_1 L_spec_ScanPut_1 [und, und, und, und, und, und, po, und, und, v, und, pm, und, .int .i64 j, pnow, .int .i64 (j + 1 : Nat), und, und, und, und, und, und, und, und, und, und, und, und, und, und, und, und, und, und, und, und, und, und, und, und, und, und, und, und, und, und, und, und, und, und, und, und, und, und, und, und, und, und, und, und, und, und, und, und, und, und, und, und, und, und, und, und, und, und, und, und, und, und, und, und, und, und, und, und, und, und, und, und, und, und, und, und, und, und, und, und, und, und, und, und, und, und, und, und, und, und, und, und, und, und, und, und, und, und, und, und, und, und, und, und, und, und, und, und] X) := by
  obtain ⟨a, c, rfl⟩ := h.slen
  have step : ∀ i (hi : i < rs.length), lp (aCall T0) K_spec_ScanPut_1 L_spec_ScanPut_1 [und, und, und, und, und, und, po, und, und, .slice a rs.length c, und, pm, und, .int .i64 (-1), pnow, .int .i64 i, und, und, und, und, und, und, und, und, und, und, und, und, und, und, und, und, und, und, und, und, und, und, und, und, und, und, und, und, und, und, und, und, und, und, und, und, und, und, und, und, und, und, und, und, und, und, und, und, und, und, und, und, und, und, und, und, und, und, und, und, und, und, und, und, und, und, und, und, und, und, und, und, und, und, und, und, und, und, und, und, und, und, und, und, und, und, und, und, und, und, und, und, und, und, und, und, und, und, und, und, und, und, und, und, und, und, und, und] X = lp (aCall T0) K_spec_ScanPut_1 L_spec_ScanPut_1 [und, und, und, und, und, und, po, und, und, .slice a rs.length c, und, pm, und, .int .i64 (if notL rs[i] = true then (i : Int) else -1), pnow, .int .i64 (i + 1 : Nat), und, und, und, und, und, und, und, und, und, und, und, und, und, und, und, und, und, und, und, und, und, und, und, und, und, und, und, und, und, und, und, und, und, und, und, und, und, und, und, und, und, und, und, und, und, und, und, und, und, und, und, und, und, und, und, und, und, und, und, und, und, und, und, und, und, und, und, und, und, und, und, und, und, und, und, und, und, und, und, und, und, und, und, und, und, und, und, und, und, und, und, und, und, und, und, und, und, und, und, und, und, und, und, und, und, und, und, und] X := by
    intro i hi
    have e6 : IntKind.i64.wrap ((i : Int) + 1) = i + 1 := wrap_i64 (by omega) (by omega)
    obtain ⟨l, o, rfl, _, _, q1, _⟩ := at_Rec h hi
    unfold notL
    cases hr : rs[i].1 with
    | true => rw [S_spec_ScanPut_1]; unfold B_spec_ScanPut_1; simp [thenD_pp, sliceCells_sl, sliceCells_z, sliceCells_nil, take_full, appS_sl, appK_ok, appS_none, thenD_ag, agP_nil, agP_cons, hi, q1, hr, e6]
    | false => rw [S_spec_ScanPut_1]; unfold B_spec_ScanPut_1; simp [thenD_pp, sliceCells_sl, sliceCells_z, sliceCells_nil, take_full, appS_sl, appK_ok, appS_none, thenD_ag, agP_nil, agP_cons, hi, q1, hr, e6]
  rcases idx_cases notL rs with ⟨ha, h1⟩ | ⟨j, hj, ha, h1, h2⟩
  · refine .inl ⟨ha, ?_⟩
    exact chain (g := fun i => lp (aCall T0) K_spec_ScanPut_1 L_spec_ScanPut_1 [und, und, und, und, und, und, po, und, und, .slice a rs.length c, und, pm, und, .int .i64 (-1), pnow, .int .i64 i, und, und, und, und, und, und, und, und, und, und, und, und, und, und, und, und, und, und, und, und, und, und, und, und, und, und, und, und, und, und, und, und, und, und, und, und, und, und, und, und, und, und, und, und, und, und, und, und, und, und, und, und, und, und, und, und, und, und, und, und, und, und, und, und, und, und, und, und, und, und, und, und, und, und, und, und, und, und, und, und, und, und, und, und, und, und, und, und, und, und, und, und, und, und, und, und, und, und, und, und, und, und, und, und, und, und, und, und] X) (fun i hi => (step i hi).trans (by rw [h1 i hi, if_neg (by decide)]))
  · refine .inr ⟨j, hj, ha, ?_⟩
    refine Eq.trans (chain (g := fun i => lp (aCall T0) K_spec_ScanPut_1 L_spec_ScanPut_1 [und, und, und, und, und, und, po, und, und, .slice a rs.length c, und, pm, und, .int .i64 (-1), pnow, .int .i64 i, und, und, und, und, und, und, und, und, und, und, und, und, und, und, und, und, und, und, und, und, und, und, und, und, und, und, und, und, und, und, und, und, und, und, und, und, und, und, und, und, und, und, und, und, und, und, und, und, und, und, und, und, und, und, und, und, und, und, und, und, und, und, und, und, und, und, und, und, und, und, und, und, und, und, und, und, und, und, und, und, und, und, und, und, und, und, und, und, und, und, und, und, und, und, und, und, und, und, und, und, und, und, und, und, und, und, und, und] X) (n := j) (fun i hi => (step i (by omega)).trans (by rw [h1 i (by omega) hi, if_neg (by decide)]))) ?_
    exact (step j hj).trans (by rw [if_pos h2])
theorem recX_recB {c : List UInt8} (h : recR c = true) : recB (recX c) = true := by
  unfold recX
  rw [if_pos h]
  unfold recR at h
  simp only [Bool.and_eq_true] at h
  exact h.2.1
theorem recT_recX {c : List UInt8} (h : recR c = true) : recT (recX c) = c := by
  unfold recX
  rw [if_pos h]
  unfold recR at h
  simp only [Bool.and_eq_true, decide_eq_true_eq] at h
  exact h.2.2
theorem map_recT {cs : List ty_Cell.D} (h : ∀ c ∈ cs, recR c = true) : (cs.map recX).map recT = cs := by
  rw [List.map_map]
  conv => rhs; rw [← List.map_id cs]
  exact List.map_congr_left fun c hc => recT_recX (h c hc)
theorem idx_congr {α : Type} {p q : α → Bool} {xs : List α} (h : ∀ i (hi : i < xs.length), p xs[i] = q xs[i]) : idx p xs = idx q xs := by
  rcases idx_cases p xs with ⟨ha, h1⟩ | ⟨j, hj, ha, h1, h2⟩
  · rw [ha, idx_none (fun i hi => by rw [← h i hi]; exact h1 i hi)]
  · rw [ha, idx_some hj (fun i hi hij => by rw [← h i hi]; exact h1 i hi hij) (by rw [← h j hj]; exact h2)]
theorem idx_notL {rs : List ty_Rec.D} (h : ∀ r ∈ rs, recB r = true) : idx notL rs = idx (isRe zRec) rs := by
  refine idx_congr fun i hi => ?_
  have hb := h _ (List.getElem_mem hi)
  unfold notL isRe
  generalize rs[i] = r at hb ⊢
  unfold recB at hb
  rw [Bool.or_eq_true] at hb
  rcases hb with hb | hb
  · have := of_decide_eq_true hb
    subst this
    simp [zRec]
  · simp only [Bool.and_eq_true] at hb
    have hl := hb.1.1.1
    obtain ⟨r1, r2, r3, r4⟩ := r
    simp at hl
    subst hl
    simp [zRec]
theorem scpd_fin {M X : Mem} {m : ty_Scan.D} {op : Int} {e : ty_Entry.D} {a0 a1 : Option Addr} {K0 K1 : List Nat} {cs' : List ty_Cell.D} {b : Blk} {k : Int} (hp : M <+: X) (hno : ¬ (putBad m op = true ∨ putFull m = true)) (hw : (Lit.int .i64 m.1).wf = true) {n0 n1 : Nat} {lg' : List ty_Touch.D}
    (gc : Gr (.sl ty_Cell) X [.slice a0 n0 n0] cs' K0) (gl : Gr (.sl ty_Touch) X [.slice a1 n1 n1] lg' K1) (nd : (K0 ++ K1).Nodup) (hge : ∀ j ∈ K0 ++ K1, M.length + 3 ≤ j) (hcs : cs' = (putR (m.2.1.map recX) op e).map recT) (hlg : lg' = logP m.1 m.2.2 m.2.1.length) (hk : k = putC (m.2.1.map recX) op e) :
    ScPD M m op e (.tuple #[.agg #[.int .i64 m.1, .slice a0 n0 n0, .slice a1 n1 n1], .int .i64 k, .int .i64 0], X.set (M.length + 2) b) := by
  have hx : ¬ putBad m op = true := fun h => hno (.inl h)
  have hf : ¬ putFull m = true := fun h => hno (.inr h)
  have hs : ∀ l, l ∈ K0 ++ K1 → l ≠ M.length + 2 := fun l hl h => by have := hge l hl; omega
  refine ⟨[.int .i64 m.1, .slice a0 n0 n0, .slice a1 n1 n1], K0 ++ K1, ?_, pf_set (by omega) hp, ?_, nd, fun l hl => by have := hge l hl; omega⟩
  · unfold putA putB
    rw [if_neg hno, if_neg hx, if_neg hf, hk]
  · unfold putX
    rw [if_neg hno]
    subst hcs hlg
    exact gr_Mem (x := (m.1, _, logP m.1 m.2.2 m.2.1.length)) hw (gc.set b (fun h => hs _ (List.mem_append_left _ h) rfl)) (gl.set b (fun h => hs _ (List.mem_append_right _ h) rfl))
theorem put_val {rs : List ty_Rec.D} {op : Int} {e : ty_Entry.D} (h0 : op ≠ 0) {x : Int × Int} (hx : placeX rs op e = x) : putC rs op e = x.2 ∧ putR rs op e = if x.2 = 0 then rs.set x.1.toNat (nowX op e) else rs := by
  subst hx
  unfold putC putR
  rw [if_neg h0]
  refine ⟨rfl, ?_⟩
  by_cases h : (placeX rs op e).2 = 0
  · rw [if_pos ⟨h0, h⟩, if_pos h]
  · rw [if_neg (fun q => h q.2), if_neg h]
set_option maxHeartbeats 1000000 in
theorem c_spec_ScanPut (M : Mem) (cs : List V) (m : ty_Scan.D) (op : Int) (e : ty_Entry.D) (h : Rep ty_Scan M cs m) (he : e.1.length ≤ 9223372036854775807) (hew : (Lit.int .i64 e.2).wf = true) :
    Sat (aCall T0 F_spec_ScanPut [.agg cs.toArray, .int .i64 op, .agg (enc_Entry e).toArray] M) (ScPD M m op e) := by
  have s0 := fun N : Mem => c_spec_ScanOk (M ++ N) cs m (h.mono (List.prefix_append _ _))
  have s1 := fun N : Mem => c_spec_l21Recs (M ++ N) cs m (h.mono (List.prefix_append _ _))
  have hwm := mem_wf h
  obtain ⟨a, b, c, d, rfl, r0, r1⟩ := mem_shape h
  cases hs : scanB m with
  | false =>
    have hbad : putBad m op = true := by unfold putBad; rw [hs]; rfl
    rw [hs] at s0
    rw [aCall_eq T_spec_ScanPut]; unfold A_spec_ScanPut C_spec_ScanPut; simp [thenD_pp, sliceCells_sl, sliceCells_z, sliceCells_nil, take_full, appS_sl, appK_ok, appS_none, thenD_ag, agP_nil, agP_cons, s0]
    exact sat_some (scpd_nil (List.prefix_append _ _) (.inl hbad) (by unfold putB; rw [if_pos hbad]))
  | true =>
  rw [hs] at s0
  by_cases hop : op ≠ 0 ∧ op ≠ 3 ∧ op ≠ 4 ∧ op ≠ 5
  · have hbad : putBad m op = true := by unfold putBad; rw [decide_eq_true hop, Bool.or_true]
    obtain ⟨o1, o2, o3, o4⟩ := hop
    have s2 := fun N : Mem => c_spec_l20Op N op
    rw [decide_eq_false o2, decide_eq_false o3, decide_eq_false o4] at s2
    rw [aCall_eq T_spec_ScanPut]; unfold A_spec_ScanPut C_spec_ScanPut; simp [thenD_pp, sliceCells_sl, sliceCells_z, sliceCells_nil, take_full, appS_sl, appK_ok, appS_none, thenD_ag, agP_nil, agP_cons, s0, s2, o1]
    exact sat_some (scpd_nil (List.prefix_append _ _) (.inl hbad) (by unfold putB; rw [if_pos hbad]))
  have hngood : putBad m op = false := by unfold putBad; rw [hs, decide_eq_false hop]; rfl
  obtain ⟨z1, ⟨z2, z3⟩, z4, z5, z6⟩ := scan_parts hs
  have w1 : IntKind.i64.wrap (2 * (m.2.1.length : Int)) = 2 * m.2.1.length := wrap_i64 (by omega) (by omega)
  have w2 : IntKind.i64.wrap ((m.2.2.length : Int) + 2 * (m.2.1.length : Int)) = m.2.2.length + 2 * m.2.1.length := wrap_i64 (by omega) (by omega)
  have hcond : ∀ N : Mem, (op = 0 ∨ aCall T0 F_spec_l20Op [.int .i64 op] N = some (.bool true, N)) := fun N => by
    by_cases h0 : op = 0
    · exact .inl h0
    · refine .inr ((c_spec_l20Op N op).trans ?_)
      have : op = 3 ∨ op = 4 ∨ op = 5 := by omega
      rcases this with rfl | rfl | rfl <;> rfl
  cases hf : putFull m with
  | true =>
    have w3 : (6000 : Int) < (m.2.2.length : Int) + 2 * (m.2.1.length : Int) := by
      unfold putFull at hf
      have := of_decide_eq_true hf
      omega
    have hres := scpd_nil (M := M) (X := M ++ [⟨[.int .i64 m.1, .slice a m.2.1.length c, .slice b m.2.2.length d], 1, 2⟩, ⟨enc_Entry e, 1, 2⟩, ⟨[.int .i64 0, .slice none 0 0, .slice none 0 0], 1, 2⟩]) (e := e) (List.prefix_append _ _) (.inr hf) (k := 4) (by unfold putB; rw [hngood, if_neg (by decide), if_pos hf])
    by_cases h0 : op = 0
    · subst h0
      rw [aCall_eq T_spec_ScanPut]; unfold A_spec_ScanPut C_spec_ScanPut; simp [thenD_pp, sliceCells_sl, sliceCells_z, sliceCells_nil, take_full, appS_sl, appK_ok, appS_none, thenD_ag, agP_nil, agP_cons, s0, w1, w2, w3]
      exact sat_some hres
    · have s2 := fun N : Mem => (hcond N).resolve_left h0
      rw [aCall_eq T_spec_ScanPut]; unfold A_spec_ScanPut C_spec_ScanPut; simp [thenD_pp, sliceCells_sl, sliceCells_z, sliceCells_nil, take_full, appS_sl, appK_ok, appS_none, thenD_ag, agP_nil, agP_cons, s0, s2, h0, w1, w2, w3]
      exact sat_some hres
  | false =>
  have w3 : ¬ (6000 : Int) < (m.2.2.length : Int) + 2 * (m.2.1.length : Int) := by
    unfold putFull at hf
    have := of_decide_eq_false hf
    omega
  have hno : ¬ (putBad m op = true ∨ putFull m = true) := by rw [hngood, hf]; simp
  have hop2 : op = 0 ∨ op = 3 ∨ op = 4 ∨ op = 5 := by omega
  have hok : m.2.1.all recOk = true := by
    unfold scanB at hs
    simp only [Bool.and_eq_true] at hs
    exact hs.2.1
  rcases hop2 with rfl | rfl | rfl | rfl
  · rw [aCall_eq T_spec_ScanPut]; unfold A_spec_ScanPut C_spec_ScanPut; simp [thenD_pp, sliceCells_sl, sliceCells_z, sliceCells_nil, take_full, appS_sl, appK_ok, appS_none, thenD_ag, agP_nil, agP_cons, s0, w1, w2, w3]
    generalize hx : aCall T0 F_spec_l21Recs _ _ = xhx
    obtain ⟨v1, X1, rfl, v, n, e1, p1, hn1, g1⟩ := of_call hx (s1 _ (by omega))
    clear hx
    simp only at e1
    subst e1
    have pM : M <+: X1 := (List.prefix_append _ _).trans p1
    unfold specR at hn1 g1
    rw [hok, if_pos rfl] at hn1 g1
    rw [hok]
    have y0 : X1[M.length]? = some ⟨[.int .i64 m.1, .slice a m.2.1.length c, .slice b m.2.2.length d], 1, 2⟩ := get_pre p1 (by simp)
    have y1 : X1[M.length + 1]? = some ⟨enc_Entry e, 1, 2⟩ := get_pre p1 (by simp)
    have y2 : X1[M.length + 2]? = some ⟨[.int .i64 0, .slice none 0 0, .slice none 0 0], 1, 2⟩ := get_pre p1 (by simp)
    obtain ⟨Lr, gr, ndr, hlr⟩ := grow_gr fl_Rec g1 hn1 (fun r hr => by
      have := recs_bd r hr
      exact ⟨wf_range this.1.1, wf_range this.1.2⟩)
    obtain ⟨ar, rfl⟩ := gr.shape
    have hlmap : (m.2.1.map recX).length = m.2.1.length := List.length_map _
    rw [hlmap] at gr
    have hX1l : M.length + 3 ≤ X1.length := by have := p1.length_le; simpa using this
    simp [thenD_pp, sliceCells_sl, sliceCells_z, sliceCells_nil, take_full, appS_sl, appK_ok, appS_none, thenD_ag, agP_nil, agP_cons, y0, rdn_K, rnJ_ok]
    generalize hx : aCall T0 F_spec_l04Copy _ _ = xhx
    obtain ⟨v2, X2, rfl, ds, L, rfl, p2, gm, ndm, hlm⟩ := of_call hx (c_spec_l04Copy X1 _ m (h.mono pM) ⟨by omega, z4, fun x hx => by rw [z5 x hx]; omega⟩)
    clear hx
    simp only at p2 gm hlm
    obtain ⟨u0, u1, L0, L1, rfl, hw, gc0, gl0, rfl⟩ := gr_Mem_inv gm
    have i0 := one_head gc0.one
    have i1 := one_head gl0.one
    have q1' := get_pre p2 y1
    have q2' := get_pre p2 y2
    obtain ⟨a0, rfl⟩ := gc0.shape
    obtain ⟨a1, rfl⟩ := gl0.shape
    simp [thenD_pp, sliceCells_sl, sliceCells_z, sliceCells_nil, take_full, appS_sl, appK_ok, appS_none, thenD_ag, agP_nil, agP_cons, zeroCells]
    have hX2l := p2.length_le
    have hz : (.int .i64 m.1 : V) = .int .i64 37 := congrArg (Value.int .i64) z1
    have hpX2 := List.prefix_append X2 [(⟨[.int .i64 m.1, .slice a0 m.2.1.length m.2.1.length, .slice a1 m.2.2.length m.2.2.length], 1, 2⟩ : Blk)]
    have hpn : X2.length ∉ L0 ++ L1 := fun hm => by have := gm.lt _ hm; omega
    have hps : PSt (X2 ++ [(⟨[.int .i64 m.1, .slice a0 m.2.1.length m.2.1.length, .slice a1 m.2.2.length m.2.2.length], 1, 2⟩ : Blk)]) X2.length 37 (.slice a0 m.2.1.length m.2.1.length) (L0 ++ L1) m.2.1 m.2.2 (X2 ++ [(⟨[.int .i64 m.1, .slice a0 m.2.1.length m.2.1.length, .slice a1 m.2.2.length m.2.2.length], 1, 2⟩ : Blk)]) :=
      ⟨_, L0, L1, by rw [← hz]; simp, gc0.grow hpX2, gl0.grow hpX2, ndm, fun j hj => .inl hj, Nat.le_refl _, fun _ _ _ => rfl⟩
    obtain ⟨X3, q, eq⟩ := l_spec_ScanPut_0 _ X2.length (.slice a0 m.2.1.length m.2.1.length) (.slice ar m.2.1.length m.2.1.length) (L0 ++ L1) m.2.1 m.2.2 m.2.1.length (.int .i64 0) (.pointer (some ⟨M.length + 1, 0, none⟩)) (.pointer (some ⟨M.length + 2, 0, none⟩)) ar _ rfl (by simp) hpn (by omega) (by omega) _ hps
    simp only [Int.natCast_zero, Int.ofNat_zero] at eq
    obtain ⟨u1', K0, K1, q1, gc, gl, ndk, subk, ag⟩ := q
    have hX3l : X2.length + 1 ≤ X3.length := by have := ag.1; simpa using this
    have hlm0 : ∀ j ∈ L0 ++ L1, X1.length ≤ j := hlm
    have hge : ∀ j ∈ K0 ++ K1, M.length + 3 ≤ j := fun j hj => by
      rcases subk j hj with h | h
      · have := hlm0 j h; omega
      · simp at h; omega
    have hnag : ∀ j, j < X1.length → j ∉ X2.length :: (L0 ++ L1) := fun j hj hm => by
      rcases List.mem_cons.1 hm with h | h
      · omega
      · have := hlm0 j h; omega
    have t1 : X3[M.length + 1]? = some ⟨enc_Entry e, 1, 2⟩ := ag.get (get_pre' q1') (hnag _ (by omega))
    have t2 : X3[M.length + 2]? = some ⟨[.int .i64 0, .slice none 0 0, .slice none 0 0], 1, 2⟩ := ag.get (get_pre' q2') (hnag _ (by omega))
    have hpX3 : M <+: X3 := ag.pre (pf_app (pM.trans p2)) (fun j hj => by
      rcases List.mem_cons.1 hj with h | h
      · omega
      · have := hlm0 j h; omega)
    have grX3 : Gr (.sl ty_Rec) X3 [.slice ar m.2.1.length m.2.1.length] (m.2.1.map recX) Lr := ((gr.grow p2).grow hpX2).agree ag (fun j hj => hnag j (gr.lt j hj))
    obtain ⟨a2, rfl⟩ := gl.shape
    have hlg : logP 37 m.2.2 m.2.1.length = logP m.1 m.2.2 m.2.1.length :=  congrArg (fun z => logP z m.2.2 m.2.1.length) z1.symm
    have hwz : (Lit.int .i64 (37 : Int)).wf = true := by decide
    simp [thenD_pp, sliceCells_sl, sliceCells_z, sliceCells_nil, take_full, appS_sl, appK_ok, appS_none, thenD_ag, agP_nil, agP_cons, eq]
    rw [S_spec_ScanPut_0]; unfold B_spec_ScanPut_0; simp [thenD_pp, sliceCells_sl, sliceCells_z, sliceCells_nil, take_full, appS_sl, appK_ok, appS_none, thenD_ag, agP_nil, agP_cons]
    have hR : putR (m.2.1.map recX) 0 e = m.2.1.map recX := by unfold putR; rw [if_neg (by simp)]
    simp [thenD_pp, sliceCells_sl, sliceCells_z, sliceCells_nil, take_full, appS_sl, appK_ok, appS_none, thenD_ag, agP_nil, agP_cons, q1, t2, gs_of t2, rdn_K, rnJ_ok, wrn_K, wrJ_ok]
    rw [← hz, gc_not (by rfl)]
    exact sat_some (scpd_fin hpX3 hno hwm gc gl ndk hge (by rw [hR, map_recT z6]) hlg (by unfold putC; rw [if_pos rfl]))
  · have s2 := fun N : Mem => (hcond N).resolve_left (by decide)
    rw [aCall_eq T_spec_ScanPut]; unfold A_spec_ScanPut C_spec_ScanPut; simp [thenD_pp, sliceCells_sl, sliceCells_z, sliceCells_nil, take_full, appS_sl, appK_ok, appS_none, thenD_ag, agP_nil, agP_cons, s0, s2, w1, w2, w3]
    generalize hx : aCall T0 F_spec_l21Recs _ _ = xhx
    obtain ⟨v1, X1, rfl, v, n, e1, p1, hn1, g1⟩ := of_call hx (s1 _ (by omega))
    clear hx
    simp only at e1
    subst e1
    have pM : M <+: X1 := (List.prefix_append _ _).trans p1
    unfold specR at hn1 g1
    rw [hok, if_pos rfl] at hn1 g1
    rw [hok]
    have y0 : X1[M.length]? = some ⟨[.int .i64 m.1, .slice a m.2.1.length c, .slice b m.2.2.length d], 1, 2⟩ := get_pre p1 (by simp)
    have y1 : X1[M.length + 1]? = some ⟨enc_Entry e, 1, 2⟩ := get_pre p1 (by simp)
    have y2 : X1[M.length + 2]? = some ⟨[.int .i64 0, .slice none 0 0, .slice none 0 0], 1, 2⟩ := get_pre p1 (by simp)
    obtain ⟨Lr, gr, ndr, hlr⟩ := grow_gr fl_Rec g1 hn1 (fun r hr => by
      have := recs_bd r hr
      exact ⟨wf_range this.1.1, wf_range this.1.2⟩)
    obtain ⟨ar, rfl⟩ := gr.shape
    have hlmap : (m.2.1.map recX).length = m.2.1.length := List.length_map _
    rw [hlmap] at gr
    have hX1l : M.length + 3 ≤ X1.length := by have := p1.length_le; simpa using this
    simp [thenD_pp, sliceCells_sl, sliceCells_z, sliceCells_nil, take_full, appS_sl, appK_ok, appS_none, thenD_ag, agP_nil, agP_cons, y0, rdn_K, rnJ_ok]
    generalize hx : aCall T0 F_spec_l04Copy _ _ = xhx
    obtain ⟨v2, X2, rfl, ds, L, rfl, p2, gm, ndm, hlm⟩ := of_call hx (c_spec_l04Copy X1 _ m (h.mono pM) ⟨by omega, z4, fun x hx => by rw [z5 x hx]; omega⟩)
    clear hx
    simp only at p2 gm hlm
    obtain ⟨u0, u1, L0, L1, rfl, hw, gc0, gl0, rfl⟩ := gr_Mem_inv gm
    have i0 := one_head gc0.one
    have i1 := one_head gl0.one
    have q1' := get_pre p2 y1
    have q2' := get_pre p2 y2
    obtain ⟨a0, rfl⟩ := gc0.shape
    obtain ⟨a1, rfl⟩ := gl0.shape
    simp [thenD_pp, sliceCells_sl, sliceCells_z, sliceCells_nil, take_full, appS_sl, appK_ok, appS_none, thenD_ag, agP_nil, agP_cons, zeroCells]
    have hX2l := p2.length_le
    have hz : (.int .i64 m.1 : V) = .int .i64 37 := congrArg (Value.int .i64) z1
    have hpX2 := List.prefix_append X2 [(⟨[.int .i64 m.1, .slice a0 m.2.1.length m.2.1.length, .slice a1 m.2.2.length m.2.2.length], 1, 2⟩ : Blk)]
    have hpn : X2.length ∉ L0 ++ L1 := fun hm => by have := gm.lt _ hm; omega
    have hps : PSt (X2 ++ [(⟨[.int .i64 m.1, .slice a0 m.2.1.length m.2.1.length, .slice a1 m.2.2.length m.2.2.length], 1, 2⟩ : Blk)]) X2.length 37 (.slice a0 m.2.1.length m.2.1.length) (L0 ++ L1) m.2.1 m.2.2 (X2 ++ [(⟨[.int .i64 m.1, .slice a0 m.2.1.length m.2.1.length, .slice a1 m.2.2.length m.2.2.length], 1, 2⟩ : Blk)]) :=
      ⟨_, L0, L1, by rw [← hz]; simp, gc0.grow hpX2, gl0.grow hpX2, ndm, fun j hj => .inl hj, Nat.le_refl _, fun _ _ _ => rfl⟩
    obtain ⟨X3, q, eq⟩ := l_spec_ScanPut_0 _ X2.length (.slice a0 m.2.1.length m.2.1.length) (.slice ar m.2.1.length m.2.1.length) (L0 ++ L1) m.2.1 m.2.2 m.2.1.length (.int .i64 3) (.pointer (some ⟨M.length + 1, 0, none⟩)) (.pointer (some ⟨M.length + 2, 0, none⟩)) ar _ rfl (by simp) hpn (by omega) (by omega) _ hps
    simp only [Int.natCast_zero, Int.ofNat_zero] at eq
    obtain ⟨u1', K0, K1, q1, gc, gl, ndk, subk, ag⟩ := q
    have hX3l : X2.length + 1 ≤ X3.length := by have := ag.1; simpa using this
    have hlm0 : ∀ j ∈ L0 ++ L1, X1.length ≤ j := hlm
    have hge : ∀ j ∈ K0 ++ K1, M.length + 3 ≤ j := fun j hj => by
      rcases subk j hj with h | h
      · have := hlm0 j h; omega
      · simp at h; omega
    have hnag : ∀ j, j < X1.length → j ∉ X2.length :: (L0 ++ L1) := fun j hj hm => by
      rcases List.mem_cons.1 hm with h | h
      · omega
      · have := hlm0 j h; omega
    have t1 : X3[M.length + 1]? = some ⟨enc_Entry e, 1, 2⟩ := ag.get (get_pre' q1') (hnag _ (by omega))
    have t2 : X3[M.length + 2]? = some ⟨[.int .i64 0, .slice none 0 0, .slice none 0 0], 1, 2⟩ := ag.get (get_pre' q2') (hnag _ (by omega))
    have hpX3 : M <+: X3 := ag.pre (pf_app (pM.trans p2)) (fun j hj => by
      rcases List.mem_cons.1 hj with h | h
      · omega
      · have := hlm0 j h; omega)
    have grX3 : Gr (.sl ty_Rec) X3 [.slice ar m.2.1.length m.2.1.length] (m.2.1.map recX) Lr := ((gr.grow p2).grow hpX2).agree ag (fun j hj => hnag j (gr.lt j hj))
    obtain ⟨a2, rfl⟩ := gl.shape
    have hlg : logP 37 m.2.2 m.2.1.length = logP m.1 m.2.2 m.2.1.length :=  congrArg (fun z => logP z m.2.2 m.2.1.length) z1.symm
    have hwz : (Lit.int .i64 (37 : Int)).wf = true := by decide
    simp [thenD_pp, sliceCells_sl, sliceCells_z, sliceCells_nil, take_full, appS_sl, appK_ok, appS_none, thenD_ag, agP_nil, agP_cons, eq]
    rw [S_spec_ScanPut_0]; unfold B_spec_ScanPut_0; simp [thenD_pp, sliceCells_sl, sliceCells_z, sliceCells_nil, take_full, appS_sl, appK_ok, appS_none, thenD_ag, agP_nil, agP_cons]
    have s3 := c_spec_l17Full X3 e he
    have s4 := c_spec_l21At X3 _ (m.2.1.map recX) e.1 grX3.rep (by simp; omega)
    have t1r : rd1 X3 (M.length + 1) 0 = some (strV e.1) := by rw [rd1_K, t1, rdJ_ok]; rfl
    have t1s : rd1 X3 (M.length + 1) 1 = some (.int .i64 e.2) := by rw [rd1_K, t1, rdJ_ok]; rfl
    cases hE : entB e with
    | false =>
      have hpl : placeX (m.2.1.map recX) 3 e = (-1, 1) := by unfold placeX; rw [if_pos hE]
      obtain ⟨hC, hR⟩ := put_val (by decide) hpl
      rw [if_neg (by decide)] at hR
      rw [hE] at s3
      simp [thenD_pp, sliceCells_sl, sliceCells_z, sliceCells_nil, take_full, appS_sl, appK_ok, appS_none, thenD_ag, agP_nil, agP_cons, t1, s3, q1, t2, gs_of t2, rdn_K, rnJ_ok, wrn_K, wrJ_ok]
      rw [← hz, gc_not (by rfl)]
      exact sat_some (scpd_fin hpX3 hno hwm gc gl ndk hge (by rw [hR, map_recT z6]) hlg hC.symm)
    | true =>
    rw [hE] at s3
    have q1n := fun N : Mem => get_pre' (N := N) q1
    have t2n := fun N : Mem => get_pre' (N := N) t2
    by_cases hL : 0 ≤ idx (liveW e.1) (m.2.1.map recX)
    · have hpl : placeX (m.2.1.map recX) 3 e = (-1, 5) := by unfold placeX; rw [if_neg (by rw [hE]; decide), if_neg (fun h => h.1 rfl), if_neg (fun h => h rfl), if_pos hL]
      obtain ⟨hC, hR⟩ := put_val (by decide) hpl
      rw [if_neg (by decide)] at hR
      simp [thenD_pp, sliceCells_sl, sliceCells_z, sliceCells_nil, take_full, appS_sl, appK_ok, appS_none, thenD_ag, agP_nil, agP_cons, t1, t1r, t1s, s3, s4, hL, q1, t2, gs_of t2, rdn_K, rnJ_ok, wrn_K, wrJ_ok]
      simp [thenD_pp, sliceCells_sl, sliceCells_z, sliceCells_nil, take_full, appS_sl, appK_ok, appS_none, thenD_ag, agP_nil, agP_cons, q1n, t2n, gs_of (t2n _), rdn_K, rnJ_ok, wrn_K, wrJ_ok]
      rw [← hz, gc_not (by rfl)]
      exact sat_some (scpd_fin (pf_app hpX3) hno hwm (gc.grow (List.prefix_append _ _)) (gl.grow (List.prefix_append _ _)) ndk hge (by rw [hR, map_recT z6]) hlg hC.symm)
    · have hLe : idx (liveW e.1) (m.2.1.map recX) = -1 := by
        rcases idx_range (liveW e.1) (m.2.1.map recX) with h | ⟨j, h, _⟩
        · rcases idx_cases (liveW e.1) (m.2.1.map recX) with ⟨h2, _⟩ | ⟨j, _, h2, _⟩
          · exact h2
          · omega
        · omega
      rw [hLe] at s4
      simp [thenD_pp, sliceCells_sl, sliceCells_z, sliceCells_nil, take_full, appS_sl, appK_ok, appS_none, thenD_ag, agP_nil, agP_cons, t1, t1r, t1s, s3, s4, q1, t2, gs_of t2, rdn_K, rnJ_ok, wrn_K, wrJ_ok]
      rcases l_spec_ScanPut_1 (X3 ++ [(⟨[.bool true, .int .i64 0, .int .i64 e.2, strV e.1], 1, 2⟩ : Blk)]) (.slice ar m.2.1.length m.2.1.length) (.pointer (some ⟨M.length + 2, 0, none⟩)) (.pointer (some ⟨X2.length, 0, none⟩)) (.pointer (some ⟨X3.length, 0, none⟩)) (m.2.1.map recX) (grX3.rep.mono (List.prefix_append _ _)) (by simp; omega) with ⟨hi, eq2⟩ | ⟨j, hjl, hi, eq2⟩
      · have hpl : placeX (m.2.1.map recX) 3 e = (-1, 6) := by unfold placeX; rw [if_neg (by rw [hE]; decide), if_neg (fun h => h.1 rfl), if_neg (fun h => h rfl), if_neg hL, if_pos (by rw [← idx_notL (fun r hr => by obtain ⟨c0, hc0, rfl⟩ := List.mem_map.1 hr; exact recX_recB (z6 c0 hc0)), hi]; decide)]
        obtain ⟨hC, hR⟩ := put_val (by decide) hpl
        rw [if_neg (by decide)] at hR
        simp only [Int.natCast_zero, Int.ofNat_zero, hlmap] at eq2
        simp [thenD_pp, sliceCells_sl, sliceCells_z, sliceCells_nil, take_full, appS_sl, appK_ok, appS_none, thenD_ag, agP_nil, agP_cons, eq2]
        rw [S_spec_ScanPut_1]; unfold B_spec_ScanPut_1; simp [thenD_pp, sliceCells_sl, sliceCells_z, sliceCells_nil, take_full, appS_sl, appK_ok, appS_none, thenD_ag, agP_nil, agP_cons]
        simp [thenD_pp, sliceCells_sl, sliceCells_z, sliceCells_nil, take_full, appS_sl, appK_ok, appS_none, thenD_ag, agP_nil, agP_cons, q1n, t2n, gs_of (t2n _), rdn_K, rnJ_ok, wrn_K, wrJ_ok]
        rw [← hz, gc_not (by rfl)]
        exact sat_some (scpd_fin (pf_app hpX3) hno hwm (gc.grow (List.prefix_append _ _)) (gl.grow (List.prefix_append _ _)) ndk hge (by rw [hR, map_recT z6]) hlg hC.symm)
      · have hpl : placeX (m.2.1.map recX) 3 e = ((j : Int), 0) := by unfold placeX; rw [if_neg (by rw [hE]; decide), if_neg (fun h => h.1 rfl), if_neg (fun h => h rfl), if_neg hL, ← idx_notL (fun r hr => by obtain ⟨c0, hc0, rfl⟩ := List.mem_map.1 hr; exact recX_recB (z6 c0 hc0)), hi, if_neg (by omega)]
        obtain ⟨hC, hR⟩ := put_val (by decide) hpl
        rw [if_pos rfl] at hR
        simp only [Int.natCast_zero, Int.ofNat_zero, hlmap] at eq2
        simp [thenD_pp, sliceCells_sl, sliceCells_z, sliceCells_nil, take_full, appS_sl, appK_ok, appS_none, thenD_ag, agP_nil, agP_cons, eq2]
        have hj0 : ¬ ((j : Int) < 0) := by omega
        have hj1 : ¬ ((j : Int) + 1 < 0) := by omega
        by_cases hjn : (j : Int) + 1 < m.2.1.length
        · rw [S_spec_ScanPut_1]; unfold B_spec_ScanPut_1; simp [thenD_pp, sliceCells_sl, sliceCells_z, sliceCells_nil, take_full, appS_sl, appK_ok, appS_none, thenD_ag, agP_nil, agP_cons, hjn, hj0]
          have hj : j < m.2.1.length := by simpa using hjl
          have hnX : (X3 ++ [(⟨[.bool true, .int .i64 0, .int .i64 e.2, strV e.1], 1, 2⟩ : Blk)])[X3.length]? = some ⟨[.bool true, .int .i64 0, .int .i64 e.2, strV e.1], 1, 2⟩ := by simp
          have hrec := c_spec_RecOf (X3 ++ [(⟨[.bool true, .int .i64 0, .int .i64 e.2, strV e.1], 1, 2⟩ : Blk)]) (nowX 3 e) (now_ok hE)
          simp [thenD_pp, sliceCells_sl, sliceCells_z, sliceCells_nil, take_full, appS_sl, appK_ok, appS_none, thenD_ag, agP_nil, agP_cons, hj0, hnX, q1n, rd1_K, rdJ_ok, rdn_K, rnJ_ok, wrn_K, wrJ_ok]
          generalize hx : aCall T0 F_spec_RecOf _ _ = xhx
          obtain ⟨v5, X5, rfl, n2, hn3, p5, gb⟩ := of_call hx hrec
          clear hx
          obtain ⟨K2, gb2, ndb, hk2⟩ := grow_gr (t := .u8) fl_Byte (xs := recT (nowX 3 e)) (by rw [flat_Byte]; exact gb) hn3 (by simp)
          have o5 := one_head gb2.one
          obtain ⟨a7, rfl⟩ := gb2.shape
          have gc5 := (gc.grow (List.prefix_append X3 [(⟨[.bool true, .int .i64 0, .int .i64 e.2, strV e.1], 1, 2⟩ : Blk)])).grow p5
          have gl5 := (gl.grow (List.prefix_append X3 [(⟨[.bool true, .int .i64 0, .int .i64 e.2, strV e.1], 1, 2⟩ : Blk)])).grow p5
          have hn9 := List.nodup_append.1 ndk
          obtain ⟨l0, cs0, K0', ev, r1', r2', r3', r4', r5', r6'⟩ := gc5.put (t := ty_Cell) hj gb2 (fun x hx hm => by have := hk2 x hx; have := gc.lt x hm; simp at *; omega) hn9.1 ndb
          cases ev
          have hX2K : ∀ x ∈ K0 ++ K1, x ≠ X2.length := fun x hx hh => by
            subst hh
            rcases subk _ hx with h | h
            · exact hpn h
            · simp at h; omega
          have r1' : X5[l0]? = some ⟨cs0, 1, 2⟩ := r1'
          have r2' : j + 1 ≤ cs0.length := by simpa [Ty.w] using r2'
          have hl0 : l0 ≠ X2.length := hX2K _ (List.mem_append_left _ r3')
          have hl0M : l0 ≠ M.length + 2 := fun h => by have := hge _ (List.mem_append_left _ r3'); omega
          have hl0X : l0 < X3.length := gc.lt _ r3'
          have q5 := get_pre p5 (q1n _)
          have t5 := get_pre p5 (t2n _)
          have e9 : ∀ b : Blk, (X5.set l0 b)[X2.length]? = X5[X2.length]? := fun b => gt_set hl0
          have e9' : ∀ b : Blk, (X5.set l0 b)[M.length + 2]? = X5[M.length + 2]? := fun b => gt_set hl0M
          have e8 : ∀ b b' : Blk, ((X5.set l0 b).set (M.length + 2) b')[X2.length]? = X5[X2.length]? := fun b b' => by rw [gt_set (by omega)]; exact e9 b
          have hh9 : hits [l0] [X3.length, X2.length] = false := hits_ne fun x hx y hy e => by
            simp at hx hy
            omega
          have e7 : ∀ b b' : Blk, ((X5.set l0 b).set (M.length + 2) b')[M.length + 2]? = some b' := fun b b' => List.getElem?_set_self (by rw [List.length_set]; exact get_lt t5)
          simp [thenD_pp, sliceCells_sl, sliceCells_z, sliceCells_nil, take_full, appS_sl, appK_ok, appS_none, thenD_ag, agP_nil, agP_cons, thenD_pre, hh9, p5, hj, r1', r2', o5, e9, e9', e7, q5, t5, rd1_K, rdJ_ok, rdn_K, rnJ_ok, wrn_K, wrJ_ok]
          have e10 : splice cs0 (j * ty_Cell.w) [.slice a7 (recT (nowX 3 e)).length (recT (nowX 3 e)).length] = List.take j cs0 ++ Value.slice a7 (recT (nowX 3 e)).length (recT (nowX 3 e)).length :: List.drop (j + 1) cs0 := by simp [splice, Ty.w]
          rw [e10] at r4'
          rw [← hz, gc_not (by rfl)]
          have hX35 : X3.length + 1 ≤ X5.length := by have := p5.length_le; simpa using this
          have hK0' : ∀ x ∈ K0', x ∈ K0 ∨ X3.length < x := fun x hx => by
            rcases r6' x hx with h | h
            · exact .inl h
            · have := hk2 x h
              simp at this
              exact .inr (by omega)
          refine sat_some (scpd_fin (pf_set (by have := hge _ (List.mem_append_left _ r3'); omega) ((pf_app hpX3).trans p5)) hno hwm r4' (gl5.set _ (fun hm => hn9.2.2 l0 r3' l0 hm rfl)) ?_ ?_ ?_ hlg hC.symm)
          · refine List.nodup_append.2 ⟨r5', hn9.2.1, fun x hx y hy e => ?_⟩
            subst e
            rcases hK0' x hx with h | h
            · exact hn9.2.2 x h x hy rfl
            · have := gl.lt x hy; omega
          · intro x hx
            rcases List.mem_append.1 hx with h | h
            · rcases hK0' x h with h | h
              · exact hge x (List.mem_append_left _ h)
              · have := hX3l; omega
            · exact hge x (List.mem_append_right _ h)
          · rw [hR, List.map_set, map_recT z6]
            rfl
        · rw [S_spec_ScanPut_1]; unfold B_spec_ScanPut_1; simp [thenD_pp, sliceCells_sl, sliceCells_z, sliceCells_nil, take_full, appS_sl, appK_ok, appS_none, thenD_ag, agP_nil, agP_cons, hjn, hj0]
          have hj : j < m.2.1.length := by simpa using hjl
          have hnX : (X3 ++ [(⟨[.bool true, .int .i64 0, .int .i64 e.2, strV e.1], 1, 2⟩ : Blk)])[X3.length]? = some ⟨[.bool true, .int .i64 0, .int .i64 e.2, strV e.1], 1, 2⟩ := by simp
          have hrec := c_spec_RecOf (X3 ++ [(⟨[.bool true, .int .i64 0, .int .i64 e.2, strV e.1], 1, 2⟩ : Blk)]) (nowX 3 e) (now_ok hE)
          simp [thenD_pp, sliceCells_sl, sliceCells_z, sliceCells_nil, take_full, appS_sl, appK_ok, appS_none, thenD_ag, agP_nil, agP_cons, hj0, hnX, q1n, rd1_K, rdJ_ok, rdn_K, rnJ_ok, wrn_K, wrJ_ok]
          generalize hx : aCall T0 F_spec_RecOf _ _ = xhx
          obtain ⟨v5, X5, rfl, n2, hn3, p5, gb⟩ := of_call hx hrec
          clear hx
          obtain ⟨K2, gb2, ndb, hk2⟩ := grow_gr (t := .u8) fl_Byte (xs := recT (nowX 3 e)) (by rw [flat_Byte]; exact gb) hn3 (by simp)
          have o5 := one_head gb2.one
          obtain ⟨a7, rfl⟩ := gb2.shape
          have gc5 := (gc.grow (List.prefix_append X3 [(⟨[.bool true, .int .i64 0, .int .i64 e.2, strV e.1], 1, 2⟩ : Blk)])).grow p5
          have gl5 := (gl.grow (List.prefix_append X3 [(⟨[.bool true, .int .i64 0, .int .i64 e.2, strV e.1], 1, 2⟩ : Blk)])).grow p5
          have hn9 := List.nodup_append.1 ndk
          obtain ⟨l0, cs0, K0', ev, r1', r2', r3', r4', r5', r6'⟩ := gc5.put (t := ty_Cell) hj gb2 (fun x hx hm => by have := hk2 x hx; have := gc.lt x hm; simp at *; omega) hn9.1 ndb
          cases ev
          have hX2K : ∀ x ∈ K0 ++ K1, x ≠ X2.length := fun x hx hh => by
            subst hh
            rcases subk _ hx with h | h
            · exact hpn h
            · simp at h; omega
          have r1' : X5[l0]? = some ⟨cs0, 1, 2⟩ := r1'
          have r2' : j + 1 ≤ cs0.length := by simpa [Ty.w] using r2'
          have hl0 : l0 ≠ X2.length := hX2K _ (List.mem_append_left _ r3')
          have hl0M : l0 ≠ M.length + 2 := fun h => by have := hge _ (List.mem_append_left _ r3'); omega
          have hl0X : l0 < X3.length := gc.lt _ r3'
          have q5 := get_pre p5 (q1n _)
          have t5 := get_pre p5 (t2n _)
          have e9 : ∀ b : Blk, (X5.set l0 b)[X2.length]? = X5[X2.length]? := fun b => gt_set hl0
          have e9' : ∀ b : Blk, (X5.set l0 b)[M.length + 2]? = X5[M.length + 2]? := fun b => gt_set hl0M
          have e8 : ∀ b b' : Blk, ((X5.set l0 b).set (M.length + 2) b')[X2.length]? = X5[X2.length]? := fun b b' => by rw [gt_set (by omega)]; exact e9 b
          have hh9 : hits [l0] [X3.length, X2.length] = false := hits_ne fun x hx y hy e => by
            simp at hx hy
            omega
          have e7 : ∀ b b' : Blk, ((X5.set l0 b).set (M.length + 2) b')[M.length + 2]? = some b' := fun b b' => List.getElem?_set_self (by rw [List.length_set]; exact get_lt t5)
          simp [thenD_pp, sliceCells_sl, sliceCells_z, sliceCells_nil, take_full, appS_sl, appK_ok, appS_none, thenD_ag, agP_nil, agP_cons, thenD_pre, hh9, p5, hj, r1', r2', o5, e9, e9', e7, q5, t5, rd1_K, rdJ_ok, rdn_K, rnJ_ok, wrn_K, wrJ_ok]
          have e10 : splice cs0 (j * ty_Cell.w) [.slice a7 (recT (nowX 3 e)).length (recT (nowX 3 e)).length] = List.take j cs0 ++ Value.slice a7 (recT (nowX 3 e)).length (recT (nowX 3 e)).length :: List.drop (j + 1) cs0 := by simp [splice, Ty.w]
          rw [e10] at r4'
          rw [← hz, gc_not (by rfl)]
          have hX35 : X3.length + 1 ≤ X5.length := by have := p5.length_le; simpa using this
          have hK0' : ∀ x ∈ K0', x ∈ K0 ∨ X3.length < x := fun x hx => by
            rcases r6' x hx with h | h
            · exact .inl h
            · have := hk2 x h
              simp at this
              exact .inr (by omega)
          refine sat_some (scpd_fin (pf_set (by have := hge _ (List.mem_append_left _ r3'); omega) ((pf_app hpX3).trans p5)) hno hwm r4' (gl5.set _ (fun hm => hn9.2.2 l0 r3' l0 hm rfl)) ?_ ?_ ?_ hlg hC.symm)
          · refine List.nodup_append.2 ⟨r5', hn9.2.1, fun x hx y hy e => ?_⟩
            subst e
            rcases hK0' x hx with h | h
            · exact hn9.2.2 x h x hy rfl
            · have := gl.lt x hy; omega
          · intro x hx
            rcases List.mem_append.1 hx with h | h
            · rcases hK0' x h with h | h
              · exact hge x (List.mem_append_left _ h)
              · have := hX3l; omega
            · exact hge x (List.mem_append_right _ h)
          · rw [hR, List.map_set, map_recT z6]
            rfl
  · have s2 := fun N : Mem => (hcond N).resolve_left (by decide)
    rw [aCall_eq T_spec_ScanPut]; unfold A_spec_ScanPut C_spec_ScanPut; simp [thenD_pp, sliceCells_sl, sliceCells_z, sliceCells_nil, take_full, appS_sl, appK_ok, appS_none, thenD_ag, agP_nil, agP_cons, s0, s2, w1, w2, w3]
    generalize hx : aCall T0 F_spec_l21Recs _ _ = xhx
    obtain ⟨v1, X1, rfl, v, n, e1, p1, hn1, g1⟩ := of_call hx (s1 _ (by omega))
    clear hx
    simp only at e1
    subst e1
    have pM : M <+: X1 := (List.prefix_append _ _).trans p1
    unfold specR at hn1 g1
    rw [hok, if_pos rfl] at hn1 g1
    rw [hok]
    have y0 : X1[M.length]? = some ⟨[.int .i64 m.1, .slice a m.2.1.length c, .slice b m.2.2.length d], 1, 2⟩ := get_pre p1 (by simp)
    have y1 : X1[M.length + 1]? = some ⟨enc_Entry e, 1, 2⟩ := get_pre p1 (by simp)
    have y2 : X1[M.length + 2]? = some ⟨[.int .i64 0, .slice none 0 0, .slice none 0 0], 1, 2⟩ := get_pre p1 (by simp)
    obtain ⟨Lr, gr, ndr, hlr⟩ := grow_gr fl_Rec g1 hn1 (fun r hr => by
      have := recs_bd r hr
      exact ⟨wf_range this.1.1, wf_range this.1.2⟩)
    obtain ⟨ar, rfl⟩ := gr.shape
    have hlmap : (m.2.1.map recX).length = m.2.1.length := List.length_map _
    rw [hlmap] at gr
    have hX1l : M.length + 3 ≤ X1.length := by have := p1.length_le; simpa using this
    simp [thenD_pp, sliceCells_sl, sliceCells_z, sliceCells_nil, take_full, appS_sl, appK_ok, appS_none, thenD_ag, agP_nil, agP_cons, y0, rdn_K, rnJ_ok]
    generalize hx : aCall T0 F_spec_l04Copy _ _ = xhx
    obtain ⟨v2, X2, rfl, ds, L, rfl, p2, gm, ndm, hlm⟩ := of_call hx (c_spec_l04Copy X1 _ m (h.mono pM) ⟨by omega, z4, fun x hx => by rw [z5 x hx]; omega⟩)
    clear hx
    simp only at p2 gm hlm
    obtain ⟨u0, u1, L0, L1, rfl, hw, gc0, gl0, rfl⟩ := gr_Mem_inv gm
    have i0 := one_head gc0.one
    have i1 := one_head gl0.one
    have q1' := get_pre p2 y1
    have q2' := get_pre p2 y2
    obtain ⟨a0, rfl⟩ := gc0.shape
    obtain ⟨a1, rfl⟩ := gl0.shape
    simp [thenD_pp, sliceCells_sl, sliceCells_z, sliceCells_nil, take_full, appS_sl, appK_ok, appS_none, thenD_ag, agP_nil, agP_cons, zeroCells]
    have hX2l := p2.length_le
    have hz : (.int .i64 m.1 : V) = .int .i64 37 := congrArg (Value.int .i64) z1
    have hpX2 := List.prefix_append X2 [(⟨[.int .i64 m.1, .slice a0 m.2.1.length m.2.1.length, .slice a1 m.2.2.length m.2.2.length], 1, 2⟩ : Blk)]
    have hpn : X2.length ∉ L0 ++ L1 := fun hm => by have := gm.lt _ hm; omega
    have hps : PSt (X2 ++ [(⟨[.int .i64 m.1, .slice a0 m.2.1.length m.2.1.length, .slice a1 m.2.2.length m.2.2.length], 1, 2⟩ : Blk)]) X2.length 37 (.slice a0 m.2.1.length m.2.1.length) (L0 ++ L1) m.2.1 m.2.2 (X2 ++ [(⟨[.int .i64 m.1, .slice a0 m.2.1.length m.2.1.length, .slice a1 m.2.2.length m.2.2.length], 1, 2⟩ : Blk)]) :=
      ⟨_, L0, L1, by rw [← hz]; simp, gc0.grow hpX2, gl0.grow hpX2, ndm, fun j hj => .inl hj, Nat.le_refl _, fun _ _ _ => rfl⟩
    obtain ⟨X3, q, eq⟩ := l_spec_ScanPut_0 _ X2.length (.slice a0 m.2.1.length m.2.1.length) (.slice ar m.2.1.length m.2.1.length) (L0 ++ L1) m.2.1 m.2.2 m.2.1.length (.int .i64 4) (.pointer (some ⟨M.length + 1, 0, none⟩)) (.pointer (some ⟨M.length + 2, 0, none⟩)) ar _ rfl (by simp) hpn (by omega) (by omega) _ hps
    simp only [Int.natCast_zero, Int.ofNat_zero] at eq
    obtain ⟨u1', K0, K1, q1, gc, gl, ndk, subk, ag⟩ := q
    have hX3l : X2.length + 1 ≤ X3.length := by have := ag.1; simpa using this
    have hlm0 : ∀ j ∈ L0 ++ L1, X1.length ≤ j := hlm
    have hge : ∀ j ∈ K0 ++ K1, M.length + 3 ≤ j := fun j hj => by
      rcases subk j hj with h | h
      · have := hlm0 j h; omega
      · simp at h; omega
    have hnag : ∀ j, j < X1.length → j ∉ X2.length :: (L0 ++ L1) := fun j hj hm => by
      rcases List.mem_cons.1 hm with h | h
      · omega
      · have := hlm0 j h; omega
    have t1 : X3[M.length + 1]? = some ⟨enc_Entry e, 1, 2⟩ := ag.get (get_pre' q1') (hnag _ (by omega))
    have t2 : X3[M.length + 2]? = some ⟨[.int .i64 0, .slice none 0 0, .slice none 0 0], 1, 2⟩ := ag.get (get_pre' q2') (hnag _ (by omega))
    have hpX3 : M <+: X3 := ag.pre (pf_app (pM.trans p2)) (fun j hj => by
      rcases List.mem_cons.1 hj with h | h
      · omega
      · have := hlm0 j h; omega)
    have grX3 : Gr (.sl ty_Rec) X3 [.slice ar m.2.1.length m.2.1.length] (m.2.1.map recX) Lr := ((gr.grow p2).grow hpX2).agree ag (fun j hj => hnag j (gr.lt j hj))
    obtain ⟨a2, rfl⟩ := gl.shape
    have hlg : logP 37 m.2.2 m.2.1.length = logP m.1 m.2.2 m.2.1.length :=  congrArg (fun z => logP z m.2.2 m.2.1.length) z1.symm
    have hwz : (Lit.int .i64 (37 : Int)).wf = true := by decide
    simp [thenD_pp, sliceCells_sl, sliceCells_z, sliceCells_nil, take_full, appS_sl, appK_ok, appS_none, thenD_ag, agP_nil, agP_cons, eq]
    rw [S_spec_ScanPut_0]; unfold B_spec_ScanPut_0; simp [thenD_pp, sliceCells_sl, sliceCells_z, sliceCells_nil, take_full, appS_sl, appK_ok, appS_none, thenD_ag, agP_nil, agP_cons]
    have s3 := c_spec_l17Full X3 e he
    have s4 := c_spec_l21At X3 _ (m.2.1.map recX) e.1 grX3.rep (by simp; omega)
    have t1r : rd1 X3 (M.length + 1) 0 = some (strV e.1) := by rw [rd1_K, t1, rdJ_ok]; rfl
    have t1s : rd1 X3 (M.length + 1) 1 = some (.int .i64 e.2) := by rw [rd1_K, t1, rdJ_ok]; rfl
    cases hE : entB e with
    | false =>
      have hpl : placeX (m.2.1.map recX) 4 e = (-1, 1) := by unfold placeX; rw [if_pos hE]
      obtain ⟨hC, hR⟩ := put_val (by decide) hpl
      rw [if_neg (by decide)] at hR
      rw [hE] at s3
      simp [thenD_pp, sliceCells_sl, sliceCells_z, sliceCells_nil, take_full, appS_sl, appK_ok, appS_none, thenD_ag, agP_nil, agP_cons, t1, s3, q1, t2, gs_of t2, rdn_K, rnJ_ok, wrn_K, wrJ_ok]
      rw [← hz, gc_not (by rfl)]
      exact sat_some (scpd_fin hpX3 hno hwm gc gl ndk hge (by rw [hR, map_recT z6]) hlg hC.symm)
    | true =>
    rw [hE] at s3
    have q1n := fun N : Mem => get_pre' (N := N) q1
    have t2n := fun N : Mem => get_pre' (N := N) t2
    by_cases hL : idx (liveW e.1) (m.2.1.map recX) < 0
    · have hpl : placeX (m.2.1.map recX) 4 e = (-1, 8) := by unfold placeX; rw [if_neg (by rw [hE]; decide), if_pos ⟨by decide, hL⟩]
      obtain ⟨hC, hR⟩ := put_val (by decide) hpl
      rw [if_neg (by decide)] at hR
      simp [thenD_pp, sliceCells_sl, sliceCells_z, sliceCells_nil, take_full, appS_sl, appK_ok, appS_none, thenD_ag, agP_nil, agP_cons, t1, t1r, t1s, s3, s4, hL, q1, t2, gs_of t2, rdn_K, rnJ_ok, wrn_K, wrJ_ok]
      simp [thenD_pp, sliceCells_sl, sliceCells_z, sliceCells_nil, take_full, appS_sl, appK_ok, appS_none, thenD_ag, agP_nil, agP_cons, q1n, t2n, gs_of (t2n _), rdn_K, rnJ_ok, wrn_K, wrJ_ok]
      rw [← hz, gc_not (by rfl)]
      exact sat_some (scpd_fin (pf_app hpX3) hno hwm (gc.grow (List.prefix_append _ _)) (gl.grow (List.prefix_append _ _)) ndk hge (by rw [hR, map_recT z6]) hlg hC.symm)
    · obtain ⟨j, hi, hjl⟩ : ∃ j : Nat, idx (liveW e.1) (m.2.1.map recX) = j ∧ j < (m.2.1.map recX).length := by
        rcases idx_range (liveW e.1) (m.2.1.map recX) with h | h
        · omega
        · exact h
      have hpl : placeX (m.2.1.map recX) 4 e = ((j : Int), 0) := by unfold placeX; rw [if_neg (by rw [hE]; decide), if_neg (fun h => hL h.2), if_pos (by decide), hi]
      obtain ⟨hC, hR⟩ := put_val (by decide) hpl
      rw [if_pos rfl] at hR
      have hj0 : ¬ ((j : Int) < 0) := by omega
      rw [hi] at s4
      simp [thenD_pp, sliceCells_sl, sliceCells_z, sliceCells_nil, take_full, appS_sl, appK_ok, appS_none, thenD_ag, agP_nil, agP_cons, t1, t1r, t1s, s3, s4, hj0, q1, t2, gs_of t2, rdn_K, rnJ_ok, wrn_K, wrJ_ok]
      have hj : j < m.2.1.length := by simpa using hjl
      have hnX : (X3 ++ [(⟨[.bool false, .int .i64 0, .int .i64 0, .string ⟨#[]⟩], 1, 2⟩ : Blk)])[X3.length]? = some ⟨[.bool false, .int .i64 0, .int .i64 0, .string ⟨#[]⟩], 1, 2⟩ := by simp
      have hrec := c_spec_RecOf (X3 ++ [(⟨[.bool false, .int .i64 0, .int .i64 0, .string ⟨#[]⟩], 1, 2⟩ : Blk)]) (nowX 4 e) (now_ok hE)
      simp [thenD_pp, sliceCells_sl, sliceCells_z, sliceCells_nil, take_full, appS_sl, appK_ok, appS_none, thenD_ag, agP_nil, agP_cons, hj0, hnX, q1n, rd1_K, rdJ_ok, rdn_K, rnJ_ok, wrn_K, wrJ_ok]
      generalize hx : aCall T0 F_spec_RecOf _ _ = xhx
      obtain ⟨v5, X5, rfl, n2, hn3, p5, gb⟩ := of_call hx hrec
      clear hx
      obtain ⟨K2, gb2, ndb, hk2⟩ := grow_gr (t := .u8) fl_Byte (xs := recT (nowX 4 e)) (by rw [flat_Byte]; exact gb) hn3 (by simp)
      have o5 := one_head gb2.one
      obtain ⟨a7, rfl⟩ := gb2.shape
      have gc5 := (gc.grow (List.prefix_append X3 [(⟨[.bool false, .int .i64 0, .int .i64 0, .string ⟨#[]⟩], 1, 2⟩ : Blk)])).grow p5
      have gl5 := (gl.grow (List.prefix_append X3 [(⟨[.bool false, .int .i64 0, .int .i64 0, .string ⟨#[]⟩], 1, 2⟩ : Blk)])).grow p5
      have hn9 := List.nodup_append.1 ndk
      obtain ⟨l0, cs0, K0', ev, r1', r2', r3', r4', r5', r6'⟩ := gc5.put (t := ty_Cell) hj gb2 (fun x hx hm => by have := hk2 x hx; have := gc.lt x hm; simp at *; omega) hn9.1 ndb
      cases ev
      have hX2K : ∀ x ∈ K0 ++ K1, x ≠ X2.length := fun x hx hh => by
        subst hh
        rcases subk _ hx with h | h
        · exact hpn h
        · simp at h; omega
      have r1' : X5[l0]? = some ⟨cs0, 1, 2⟩ := r1'
      have r2' : j + 1 ≤ cs0.length := by simpa [Ty.w] using r2'
      have hl0 : l0 ≠ X2.length := hX2K _ (List.mem_append_left _ r3')
      have hl0M : l0 ≠ M.length + 2 := fun h => by have := hge _ (List.mem_append_left _ r3'); omega
      have hl0X : l0 < X3.length := gc.lt _ r3'
      have q5 := get_pre p5 (q1n _)
      have t5 := get_pre p5 (t2n _)
      have e9 : ∀ b : Blk, (X5.set l0 b)[X2.length]? = X5[X2.length]? := fun b => gt_set hl0
      have e9' : ∀ b : Blk, (X5.set l0 b)[M.length + 2]? = X5[M.length + 2]? := fun b => gt_set hl0M
      have e8 : ∀ b b' : Blk, ((X5.set l0 b).set (M.length + 2) b')[X2.length]? = X5[X2.length]? := fun b b' => by rw [gt_set (by omega)]; exact e9 b
      have hh9 : hits [l0] [X3.length, X2.length] = false := hits_ne fun x hx y hy e => by
        simp at hx hy
        omega
      have e7 : ∀ b b' : Blk, ((X5.set l0 b).set (M.length + 2) b')[M.length + 2]? = some b' := fun b b' => List.getElem?_set_self (by rw [List.length_set]; exact get_lt t5)
      simp [thenD_pp, sliceCells_sl, sliceCells_z, sliceCells_nil, take_full, appS_sl, appK_ok, appS_none, thenD_ag, agP_nil, agP_cons, thenD_pre, hh9, p5, hj, r1', r2', o5, e9, e9', e7, q5, t5, rd1_K, rdJ_ok, rdn_K, rnJ_ok, wrn_K, wrJ_ok]
      have e10 : splice cs0 (j * ty_Cell.w) [.slice a7 (recT (nowX 4 e)).length (recT (nowX 4 e)).length] = List.take j cs0 ++ Value.slice a7 (recT (nowX 4 e)).length (recT (nowX 4 e)).length :: List.drop (j + 1) cs0 := by simp [splice, Ty.w]
      rw [e10] at r4'
      rw [← hz, gc_not (by rfl)]
      have hX35 : X3.length + 1 ≤ X5.length := by have := p5.length_le; simpa using this
      have hK0' : ∀ x ∈ K0', x ∈ K0 ∨ X3.length < x := fun x hx => by
        rcases r6' x hx with h | h
        · exact .inl h
        · have := hk2 x h
          simp at this
          exact .inr (by omega)
      refine sat_some (scpd_fin (pf_set (by have := hge _ (List.mem_append_left _ r3'); omega) ((pf_app hpX3).trans p5)) hno hwm r4' (gl5.set _ (fun hm => hn9.2.2 l0 r3' l0 hm rfl)) ?_ ?_ ?_ hlg hC.symm)
      · refine List.nodup_append.2 ⟨r5', hn9.2.1, fun x hx y hy e => ?_⟩
        subst e
        rcases hK0' x hx with h | h
        · exact hn9.2.2 x h x hy rfl
        · have := gl.lt x hy; omega
      · intro x hx
        rcases List.mem_append.1 hx with h | h
        · rcases hK0' x h with h | h
          · exact hge x (List.mem_append_left _ h)
          · have := hX3l; omega
        · exact hge x (List.mem_append_right _ h)
      · rw [hR, List.map_set, map_recT z6]
        rfl
  · have s2 := fun N : Mem => (hcond N).resolve_left (by decide)
    rw [aCall_eq T_spec_ScanPut]; unfold A_spec_ScanPut C_spec_ScanPut; simp [thenD_pp, sliceCells_sl, sliceCells_z, sliceCells_nil, take_full, appS_sl, appK_ok, appS_none, thenD_ag, agP_nil, agP_cons, s0, s2, w1, w2, w3]
    generalize hx : aCall T0 F_spec_l21Recs _ _ = xhx
    obtain ⟨v1, X1, rfl, v, n, e1, p1, hn1, g1⟩ := of_call hx (s1 _ (by omega))
    clear hx
    simp only at e1
    subst e1
    have pM : M <+: X1 := (List.prefix_append _ _).trans p1
    unfold specR at hn1 g1
    rw [hok, if_pos rfl] at hn1 g1
    rw [hok]
    have y0 : X1[M.length]? = some ⟨[.int .i64 m.1, .slice a m.2.1.length c, .slice b m.2.2.length d], 1, 2⟩ := get_pre p1 (by simp)
    have y1 : X1[M.length + 1]? = some ⟨enc_Entry e, 1, 2⟩ := get_pre p1 (by simp)
    have y2 : X1[M.length + 2]? = some ⟨[.int .i64 0, .slice none 0 0, .slice none 0 0], 1, 2⟩ := get_pre p1 (by simp)
    obtain ⟨Lr, gr, ndr, hlr⟩ := grow_gr fl_Rec g1 hn1 (fun r hr => by
      have := recs_bd r hr
      exact ⟨wf_range this.1.1, wf_range this.1.2⟩)
    obtain ⟨ar, rfl⟩ := gr.shape
    have hlmap : (m.2.1.map recX).length = m.2.1.length := List.length_map _
    rw [hlmap] at gr
    have hX1l : M.length + 3 ≤ X1.length := by have := p1.length_le; simpa using this
    simp [thenD_pp, sliceCells_sl, sliceCells_z, sliceCells_nil, take_full, appS_sl, appK_ok, appS_none, thenD_ag, agP_nil, agP_cons, y0, rdn_K, rnJ_ok]
    generalize hx : aCall T0 F_spec_l04Copy _ _ = xhx
    obtain ⟨v2, X2, rfl, ds, L, rfl, p2, gm, ndm, hlm⟩ := of_call hx (c_spec_l04Copy X1 _ m (h.mono pM) ⟨by omega, z4, fun x hx => by rw [z5 x hx]; omega⟩)
    clear hx
    simp only at p2 gm hlm
    obtain ⟨u0, u1, L0, L1, rfl, hw, gc0, gl0, rfl⟩ := gr_Mem_inv gm
    have i0 := one_head gc0.one
    have i1 := one_head gl0.one
    have q1' := get_pre p2 y1
    have q2' := get_pre p2 y2
    obtain ⟨a0, rfl⟩ := gc0.shape
    obtain ⟨a1, rfl⟩ := gl0.shape
    simp [thenD_pp, sliceCells_sl, sliceCells_z, sliceCells_nil, take_full, appS_sl, appK_ok, appS_none, thenD_ag, agP_nil, agP_cons, zeroCells]
    have hX2l := p2.length_le
    have hz : (.int .i64 m.1 : V) = .int .i64 37 := congrArg (Value.int .i64) z1
    have hpX2 := List.prefix_append X2 [(⟨[.int .i64 m.1, .slice a0 m.2.1.length m.2.1.length, .slice a1 m.2.2.length m.2.2.length], 1, 2⟩ : Blk)]
    have hpn : X2.length ∉ L0 ++ L1 := fun hm => by have := gm.lt _ hm; omega
    have hps : PSt (X2 ++ [(⟨[.int .i64 m.1, .slice a0 m.2.1.length m.2.1.length, .slice a1 m.2.2.length m.2.2.length], 1, 2⟩ : Blk)]) X2.length 37 (.slice a0 m.2.1.length m.2.1.length) (L0 ++ L1) m.2.1 m.2.2 (X2 ++ [(⟨[.int .i64 m.1, .slice a0 m.2.1.length m.2.1.length, .slice a1 m.2.2.length m.2.2.length], 1, 2⟩ : Blk)]) :=
      ⟨_, L0, L1, by rw [← hz]; simp, gc0.grow hpX2, gl0.grow hpX2, ndm, fun j hj => .inl hj, Nat.le_refl _, fun _ _ _ => rfl⟩
    obtain ⟨X3, q, eq⟩ := l_spec_ScanPut_0 _ X2.length (.slice a0 m.2.1.length m.2.1.length) (.slice ar m.2.1.length m.2.1.length) (L0 ++ L1) m.2.1 m.2.2 m.2.1.length (.int .i64 5) (.pointer (some ⟨M.length + 1, 0, none⟩)) (.pointer (some ⟨M.length + 2, 0, none⟩)) ar _ rfl (by simp) hpn (by omega) (by omega) _ hps
    simp only [Int.natCast_zero, Int.ofNat_zero] at eq
    obtain ⟨u1', K0, K1, q1, gc, gl, ndk, subk, ag⟩ := q
    have hX3l : X2.length + 1 ≤ X3.length := by have := ag.1; simpa using this
    have hlm0 : ∀ j ∈ L0 ++ L1, X1.length ≤ j := hlm
    have hge : ∀ j ∈ K0 ++ K1, M.length + 3 ≤ j := fun j hj => by
      rcases subk j hj with h | h
      · have := hlm0 j h; omega
      · simp at h; omega
    have hnag : ∀ j, j < X1.length → j ∉ X2.length :: (L0 ++ L1) := fun j hj hm => by
      rcases List.mem_cons.1 hm with h | h
      · omega
      · have := hlm0 j h; omega
    have t1 : X3[M.length + 1]? = some ⟨enc_Entry e, 1, 2⟩ := ag.get (get_pre' q1') (hnag _ (by omega))
    have t2 : X3[M.length + 2]? = some ⟨[.int .i64 0, .slice none 0 0, .slice none 0 0], 1, 2⟩ := ag.get (get_pre' q2') (hnag _ (by omega))
    have hpX3 : M <+: X3 := ag.pre (pf_app (pM.trans p2)) (fun j hj => by
      rcases List.mem_cons.1 hj with h | h
      · omega
      · have := hlm0 j h; omega)
    have grX3 : Gr (.sl ty_Rec) X3 [.slice ar m.2.1.length m.2.1.length] (m.2.1.map recX) Lr := ((gr.grow p2).grow hpX2).agree ag (fun j hj => hnag j (gr.lt j hj))
    obtain ⟨a2, rfl⟩ := gl.shape
    have hlg : logP 37 m.2.2 m.2.1.length = logP m.1 m.2.2 m.2.1.length :=  congrArg (fun z => logP z m.2.2 m.2.1.length) z1.symm
    have hwz : (Lit.int .i64 (37 : Int)).wf = true := by decide
    simp [thenD_pp, sliceCells_sl, sliceCells_z, sliceCells_nil, take_full, appS_sl, appK_ok, appS_none, thenD_ag, agP_nil, agP_cons, eq]
    rw [S_spec_ScanPut_0]; unfold B_spec_ScanPut_0; simp [thenD_pp, sliceCells_sl, sliceCells_z, sliceCells_nil, take_full, appS_sl, appK_ok, appS_none, thenD_ag, agP_nil, agP_cons]
    have s3 := c_spec_l17Full X3 e he
    have s4 := c_spec_l21At X3 _ (m.2.1.map recX) e.1 grX3.rep (by simp; omega)
    have t1r : rd1 X3 (M.length + 1) 0 = some (strV e.1) := by rw [rd1_K, t1, rdJ_ok]; rfl
    have t1s : rd1 X3 (M.length + 1) 1 = some (.int .i64 e.2) := by rw [rd1_K, t1, rdJ_ok]; rfl
    cases hE : entB e with
    | false =>
      have hpl : placeX (m.2.1.map recX) 5 e = (-1, 1) := by unfold placeX; rw [if_pos hE]
      obtain ⟨hC, hR⟩ := put_val (by decide) hpl
      rw [if_neg (by decide)] at hR
      rw [hE] at s3
      simp [thenD_pp, sliceCells_sl, sliceCells_z, sliceCells_nil, take_full, appS_sl, appK_ok, appS_none, thenD_ag, agP_nil, agP_cons, t1, s3, q1, t2, gs_of t2, rdn_K, rnJ_ok, wrn_K, wrJ_ok]
      rw [← hz, gc_not (by rfl)]
      exact sat_some (scpd_fin hpX3 hno hwm gc gl ndk hge (by rw [hR, map_recT z6]) hlg hC.symm)
    | true =>
    rw [hE] at s3
    have q1n := fun N : Mem => get_pre' (N := N) q1
    have t2n := fun N : Mem => get_pre' (N := N) t2
    by_cases hL : idx (liveW e.1) (m.2.1.map recX) < 0
    · have hpl : placeX (m.2.1.map recX) 5 e = (-1, 8) := by unfold placeX; rw [if_neg (by rw [hE]; decide), if_pos ⟨by decide, hL⟩]
      obtain ⟨hC, hR⟩ := put_val (by decide) hpl
      rw [if_neg (by decide)] at hR
      simp [thenD_pp, sliceCells_sl, sliceCells_z, sliceCells_nil, take_full, appS_sl, appK_ok, appS_none, thenD_ag, agP_nil, agP_cons, t1, t1r, t1s, s3, s4, hL, q1, t2, gs_of t2, rdn_K, rnJ_ok, wrn_K, wrJ_ok]
      simp [thenD_pp, sliceCells_sl, sliceCells_z, sliceCells_nil, take_full, appS_sl, appK_ok, appS_none, thenD_ag, agP_nil, agP_cons, q1n, t2n, gs_of (t2n _), rdn_K, rnJ_ok, wrn_K, wrJ_ok]
      rw [← hz, gc_not (by rfl)]
      exact sat_some (scpd_fin (pf_app hpX3) hno hwm (gc.grow (List.prefix_append _ _)) (gl.grow (List.prefix_append _ _)) ndk hge (by rw [hR, map_recT z6]) hlg hC.symm)
    · obtain ⟨j, hi, hjl⟩ : ∃ j : Nat, idx (liveW e.1) (m.2.1.map recX) = j ∧ j < (m.2.1.map recX).length := by
        rcases idx_range (liveW e.1) (m.2.1.map recX) with h | h
        · omega
        · exact h
      have hpl : placeX (m.2.1.map recX) 5 e = ((j : Int), 0) := by unfold placeX; rw [if_neg (by rw [hE]; decide), if_neg (fun h => hL h.2), if_pos (by decide), hi]
      obtain ⟨hC, hR⟩ := put_val (by decide) hpl
      rw [if_pos rfl] at hR
      have hj0 : ¬ ((j : Int) < 0) := by omega
      rw [hi] at s4
      simp [thenD_pp, sliceCells_sl, sliceCells_z, sliceCells_nil, take_full, appS_sl, appK_ok, appS_none, thenD_ag, agP_nil, agP_cons, t1, t1r, t1s, s3, s4, hj0, q1, t2, gs_of t2, rdn_K, rnJ_ok, wrn_K, wrJ_ok]
      have hj : j < m.2.1.length := by simpa using hjl
      have hnX : (X3 ++ [(⟨[.bool true, .int .i64 0, .int .i64 e.2, strV e.1], 1, 2⟩ : Blk)])[X3.length]? = some ⟨[.bool true, .int .i64 0, .int .i64 e.2, strV e.1], 1, 2⟩ := by simp
      have hrec := c_spec_RecOf (X3 ++ [(⟨[.bool true, .int .i64 0, .int .i64 e.2, strV e.1], 1, 2⟩ : Blk)]) (nowX 5 e) (now_ok hE)
      simp [thenD_pp, sliceCells_sl, sliceCells_z, sliceCells_nil, take_full, appS_sl, appK_ok, appS_none, thenD_ag, agP_nil, agP_cons, hj0, hnX, q1n, rd1_K, rdJ_ok, rdn_K, rnJ_ok, wrn_K, wrJ_ok]
      generalize hx : aCall T0 F_spec_RecOf _ _ = xhx
      obtain ⟨v5, X5, rfl, n2, hn3, p5, gb⟩ := of_call hx hrec
      clear hx
      obtain ⟨K2, gb2, ndb, hk2⟩ := grow_gr (t := .u8) fl_Byte (xs := recT (nowX 5 e)) (by rw [flat_Byte]; exact gb) hn3 (by simp)
      have o5 := one_head gb2.one
      obtain ⟨a7, rfl⟩ := gb2.shape
      have gc5 := (gc.grow (List.prefix_append X3 [(⟨[.bool true, .int .i64 0, .int .i64 e.2, strV e.1], 1, 2⟩ : Blk)])).grow p5
      have gl5 := (gl.grow (List.prefix_append X3 [(⟨[.bool true, .int .i64 0, .int .i64 e.2, strV e.1], 1, 2⟩ : Blk)])).grow p5
      have hn9 := List.nodup_append.1 ndk
      obtain ⟨l0, cs0, K0', ev, r1', r2', r3', r4', r5', r6'⟩ := gc5.put (t := ty_Cell) hj gb2 (fun x hx hm => by have := hk2 x hx; have := gc.lt x hm; simp at *; omega) hn9.1 ndb
      cases ev
      have hX2K : ∀ x ∈ K0 ++ K1, x ≠ X2.length := fun x hx hh => by
        subst hh
        rcases subk _ hx with h | h
        · exact hpn h
        · simp at h; omega
      have r1' : X5[l0]? = some ⟨cs0, 1, 2⟩ := r1'
      have r2' : j + 1 ≤ cs0.length := by simpa [Ty.w] using r2'
      have hl0 : l0 ≠ X2.length := hX2K _ (List.mem_append_left _ r3')
      have hl0M : l0 ≠ M.length + 2 := fun h => by have := hge _ (List.mem_append_left _ r3'); omega
      have hl0X : l0 < X3.length := gc.lt _ r3'
      have q5 := get_pre p5 (q1n _)
      have t5 := get_pre p5 (t2n _)
      have e9 : ∀ b : Blk, (X5.set l0 b)[X2.length]? = X5[X2.length]? := fun b => gt_set hl0
      have e9' : ∀ b : Blk, (X5.set l0 b)[M.length + 2]? = X5[M.length + 2]? := fun b => gt_set hl0M
      have e8 : ∀ b b' : Blk, ((X5.set l0 b).set (M.length + 2) b')[X2.length]? = X5[X2.length]? := fun b b' => by rw [gt_set (by omega)]; exact e9 b
      have hh9 : hits [l0] [X3.length, X2.length] = false := hits_ne fun x hx y hy e => by
        simp at hx hy
        omega
      have e7 : ∀ b b' : Blk, ((X5.set l0 b).set (M.length + 2) b')[M.length + 2]? = some b' := fun b b' => List.getElem?_set_self (by rw [List.length_set]; exact get_lt t5)
      simp [thenD_pp, sliceCells_sl, sliceCells_z, sliceCells_nil, take_full, appS_sl, appK_ok, appS_none, thenD_ag, agP_nil, agP_cons, thenD_pre, hh9, p5, hj, r1', r2', o5, e9, e9', e7, q5, t5, rd1_K, rdJ_ok, rdn_K, rnJ_ok, wrn_K, wrJ_ok]
      have e10 : splice cs0 (j * ty_Cell.w) [.slice a7 (recT (nowX 5 e)).length (recT (nowX 5 e)).length] = List.take j cs0 ++ Value.slice a7 (recT (nowX 5 e)).length (recT (nowX 5 e)).length :: List.drop (j + 1) cs0 := by simp [splice, Ty.w]
      rw [e10] at r4'
      rw [← hz, gc_not (by rfl)]
      have hX35 : X3.length + 1 ≤ X5.length := by have := p5.length_le; simpa using this
      have hK0' : ∀ x ∈ K0', x ∈ K0 ∨ X3.length < x := fun x hx => by
        rcases r6' x hx with h | h
        · exact .inl h
        · have := hk2 x h
          simp at this
          exact .inr (by omega)
      refine sat_some (scpd_fin (pf_set (by have := hge _ (List.mem_append_left _ r3'); omega) ((pf_app hpX3).trans p5)) hno hwm r4' (gl5.set _ (fun hm => hn9.2.2 l0 r3' l0 hm rfl)) ?_ ?_ ?_ hlg hC.symm)
      · refine List.nodup_append.2 ⟨r5', hn9.2.1, fun x hx y hy e => ?_⟩
        subst e
        rcases hK0' x hx with h | h
        · exact hn9.2.2 x h x hy rfl
        · have := gl.lt x hy; omega
      · intro x hx
        rcases List.mem_append.1 hx with h | h
        · rcases hK0' x h with h | h
          · exact hge x (List.mem_append_left _ h)
          · have := hX3l; omega
        · exact hge x (List.mem_append_right _ h)
      · rw [hR, List.map_set, map_recT z6]
        rfl
theorem d_spec_ScanPut (M : Mem) (cs : List V) (m : ty_Scan.D) (h : Rep ty_Scan M cs m) (hb : Bd 1048576 ty_Scan m) (op : Int) (ce : List V) (e : ty_Entry.D) (he : Rep ty_Entry M ce e) (hbe : Bd 1048576 ty_Entry e) :
    ∃ M' ds, M <+: M' ∧ aCall T0 F_spec_ScanPut [.agg cs.toArray, .int .i64 op, .agg ce.toArray] M = some (.tuple #[.agg (ds : List V).toArray, .int .i64 (putA m op e), .int .i64 (putB m op)], M') ∧ Rep ty_Scan M' ds (putX m op e) := by
  have hwf := entry_wf he
  have := rep_Entry he
  subst this
  obtain ⟨M', ds, L, p, e1, o, _⟩ := scpd_own (c_spec_ScanPut M cs m op e h (by have : List.length (α := UInt8) e.1 ≤ 1048576 := hbe.1; omega) hwf)
  exact ⟨M', ds, p, e1, o.rep⟩
theorem putX_bd (m : ty_Scan.D) (op : Int) (e : ty_Entry.D) (hb : Bd 1048576 ty_Scan m) : Bd 1048576 ty_Scan (putX m op e) := by
  unfold putX
  split
  · exact ⟨trivial, ⟨Nat.zero_le _, fun x hx => by cases hx⟩, ⟨Nat.zero_le _, fun x hx => by cases hx⟩⟩
  · rename_i h
    have hs : scanB m = true := by
      cases hs : scanB m with
      | true => rfl
      | false => exact absurd (.inl (by unfold putBad; rw [hs]; rfl)) h
    have hf : ¬ putFull m = true := fun q => h (.inr q)
    obtain ⟨z1, ⟨z2, z3⟩, z4, z5, z6⟩ := scan_parts hs
    have hle : m.2.2.length + 2 * m.2.1.length ≤ 6000 := by
      have := (eq_false_of_ne_true hf : putFull m = false)
      unfold putFull at this
      have := of_decide_eq_false this
      omega
    refine ⟨trivial, ⟨?_, fun x hx => ?_⟩, ⟨?_, fun x hx => ⟨trivial, trivial, trivial⟩⟩⟩
    · show List.length ((putR (m.2.1.map recX) op e).map recT) ≤ 1048576
      rw [List.length_map, putR_len, List.length_map]
      omega
    · obtain ⟨r, _, rfl⟩ := List.mem_map.1 hx
      refine ⟨?_, fun _ _ => trivial⟩
      rw [recT_len]
      omega
    · show List.length (logP m.1 m.2.2 m.2.1.length) ≤ 1048576
      rw [logP_len]
      omega
set_option maxHeartbeats 8000000 in
set_option maxRecDepth 20000 in
theorem c_laws_FnExactScanPut (M : Mem) (v_s : List V) (s : ty_Scan.D) (h_s : Rep ty_Scan M v_s s) (hb_s : Bd 9223372036854775807 ty_Scan s) (op : Int) (v_e : List V) (e : ty_Entry.D) (h_e : Rep ty_Entry M v_e e) (hb_e : Bd 9223372036854775807 ty_Entry e) : ∃ M', aCall T0 F_laws_FnExactScanPut [.agg v_s.toArray, .int .i64 op, .agg v_e.toArray] M = some (.bool true, M') := by
  have hl_v_s : v_s.length = 3 := (h_s).len
  have ho_v_s := (h_s).one
  have hl_v_e : v_e.length = 2 := (h_e).len
  have ho_v_e := (h_e).one
  obtain ⟨l_s, s1_s, s2_s, s3_s⟩ := k_laws_szScan (M ++ [⟨v_s, 1, 2⟩, ⟨v_e, 1, 2⟩]) v_s s 1048576 (h_s.mono ((List.prefix_refl _).trans (List.prefix_append _ _))) hb_s (by omega) (by omega)
  have r1 : rdn (M ++ [⟨v_s, 1, 2⟩, ⟨v_e, 1, 2⟩]) (M.length) 0 3 = some v_s := rdn_box (by first | simp | rfl) hl_v_s.symm
  by_cases hl_s : l_s < 0
  · refine ⟨M, ?_⟩
    rw [aCall_eq T_laws_FnExactScanPut]; unfold A_laws_FnExactScanPut C_laws_FnExactScanPut; simp [thenD_pp, sliceCells_sl, sliceCells_z, sliceCells_nil, take_full, appS_sl, appK_ok, appS_none, thenD_ag, agP_nil, agP_cons, hl_v_s, ho_v_s, hl_v_e, ho_v_e, r1, s2_s, hl_s]
  have hb1_s := s3_s (by omega)
  obtain ⟨l_e, s1_e, s2_e, s3_e⟩ := k_laws_szEntry (M ++ [⟨v_s, 1, 2⟩, ⟨v_e, 1, 2⟩]) v_e e l_s (h_e.mono ((List.prefix_refl _).trans (List.prefix_append _ _))) hb_e (by omega) (by omega)
  have r2 : rdn (M ++ [⟨v_s, 1, 2⟩, ⟨v_e, 1, 2⟩]) (M.length + 1) 0 2 = some v_e := rdn_box (by first | simp | rfl) hl_v_e.symm
  by_cases hl_e : l_e < 0
  · refine ⟨M, ?_⟩
    rw [aCall_eq T_laws_FnExactScanPut]; unfold A_laws_FnExactScanPut C_laws_FnExactScanPut; simp [thenD_pp, sliceCells_sl, sliceCells_z, sliceCells_nil, take_full, appS_sl, appK_ok, appS_none, thenD_ag, agP_nil, agP_cons, hl_v_s, ho_v_s, hl_v_e, ho_v_e, r1, r2, s2_s, hl_s, s2_e, hl_e]
  have hb1_e := s3_e (by omega)
  have hr_0 : Bd 1048576 ty_Scan (putX s op e) := putX_bd s op e hb1_s
  have ht_0 := tot_Scan _ hr_0
  have ht_s := tot_Scan _ hb1_s
  have r3 : rdn (M ++ [⟨v_s, 1, 2⟩, ⟨v_e, 1, 2⟩]) (M.length) 0 3 = some v_s := rdn_box (by first | simp | rfl) hl_v_s.symm
  obtain ⟨M4, u5, L6, p7, t8, o9, F10⟩ := k_laws_toScan (M ++ [⟨v_s, 1, 2⟩, ⟨v_e, 1, 2⟩]) v_s s (h_s.mono ((List.prefix_refl _).trans (List.prefix_append _ _))) hb1_s
  have f11 : ∀ l ∈ L6, M.length + 2 ≤ l ∧ l < M4.length := by intro l hl; have := F10.2 l hl; (try simp only [List.length_append, List.length_cons, List.length_nil] at this); omega
  have q12 : M <+: M4 := (List.prefix_append _ _).trans p7
  have ln13 : M.length + 2 ≤ M4.length := by have := p7.length_le; (try simp only [List.length_append, List.length_cons, List.length_nil] at this); omega
  have b14 : M4[M.length]? = some ⟨v_s, 1, 2⟩ := get_pre p7 (by simp)
  have b15 : M4[M.length + 1]? = some ⟨v_e, 1, 2⟩ := get_pre p7 (by simp)
  have z16 : M <+: M4 := (List.prefix_refl _).trans q12
  have hl_u5 : u5.length = 3 := (o9.rep).len
  have ho_u5 := (o9.rep).one
  have r18 : rdn M4 (M.length + 1) 0 2 = some v_e := rdn_box b15 hl_v_e.symm
  have e19 := toflat_Entry M4 v_e e h_e
  obtain ⟨M20, g23, p21, s22, o24⟩ := d_spec_ScanPut M4 u5 s ((Own.grow (List.prefix_refl _) o9)).rep hb1_s op v_e e (h_e.mono (z16.trans (List.prefix_refl _))) hb1_e
  have q25 : M4 <+: M20 := (List.prefix_refl _).trans p21
  have ln26 : M4.length ≤ M20.length := by have := p21.length_le; (try simp only [List.length_append, List.length_cons, List.length_nil] at this); omega
  have b27 : M20[M.length]? = some ⟨v_s, 1, 2⟩ := get_pre q25 b14
  have b28 : M20[M.length + 1]? = some ⟨v_e, 1, 2⟩ := get_pre q25 b15
  have o29 := Own.grow q25 o9
  have z30 : M <+: M20 := z16.trans q25
  have hl_g23 : g23.length = 3 := (o24).len
  have ho_g23 := (o24).one
  have r32 : rdn (M20 ++ [⟨g23, 1, 2⟩]) (M.length) 0 3 = some v_s := rdn_old (rdn_box b27 hl_v_s.symm)
  obtain ⟨M33, u34, L35, p36, t37, o38, F39⟩ := k_laws_toScan (M20 ++ [⟨g23, 1, 2⟩]) v_s s (h_s.mono (z30.trans (List.prefix_append _ _))) hb1_s
  have f40 : ∀ l ∈ L35, M20.length + 1 ≤ l ∧ l < M33.length := by intro l hl; have := F39.2 l hl; (try simp only [List.length_append, List.length_cons, List.length_nil] at this); omega
  have q41 : M20 <+: M33 := (List.prefix_append _ _).trans p36
  have ln42 : M20.length + 1 ≤ M33.length := by have := p36.length_le; (try simp only [List.length_append, List.length_cons, List.length_nil] at this); omega
  have b43 : M33[M.length]? = some ⟨v_s, 1, 2⟩ := get_pre q41 b27
  have b44 : M33[M.length + 1]? = some ⟨v_e, 1, 2⟩ := get_pre q41 b28
  have b45 : M33[M20.length]? = some ⟨g23, 1, 2⟩ := get_pre p36 (by simp)
  have z46 : M <+: M33 := z30.trans q41
  have y47 : M20 <+: M33 := (List.prefix_refl _).trans q41
  have hl_u34 : u34.length = 3 := (o38.rep).len
  have ho_u34 := (o38.rep).one
  have r49 : rdn (M33 ++ [⟨u34, 1, 2⟩]) (M33.length) 0 3 = some u34 := rdn_box (by first | simp | rfl) hl_u34.symm
  have r50 : rdn (M33 ++ [⟨u34, 1, 2⟩]) (M.length + 1) 0 2 = some v_e := rdn_old (rdn_box b44 hl_v_e.symm)
  have e51 := toflat_Entry (M33 ++ [⟨u34, 1, 2⟩]) v_e e h_e
  obtain ⟨M52, g55, L56, p53, s54, o57, F58⟩ := d_impl_ScanPut (M33 ++ [⟨u34, 1, 2⟩]) u34 s ((Own.grow (List.prefix_append _ _) o38)).rep hb1_s op v_e e (h_e.mono (z46.trans (List.prefix_append _ _))) hb1_e
  have q59 : M33 <+: M52 := (List.prefix_append _ _).trans p53
  have ln60 : M33.length + 1 ≤ M52.length := by have := p53.length_le; (try simp only [List.length_append, List.length_cons, List.length_nil] at this); omega
  have b61 : M52[M.length]? = some ⟨v_s, 1, 2⟩ := get_pre q59 b43
  have b62 : M52[M.length + 1]? = some ⟨v_e, 1, 2⟩ := get_pre q59 b44
  have b63 : M52[M20.length]? = some ⟨g23, 1, 2⟩ := get_pre q59 b45
  have b64 : M52[M33.length]? = some ⟨u34, 1, 2⟩ := get_pre p53 (by simp)
  have o65 := Own.grow q59 o38
  have z66 : M <+: M52 := z46.trans q59
  have y67 : M20 <+: M52 := y47.trans q59
  have f68 : ∀ l ∈ L56, M33.length + 1 ≤ l ∧ l < M52.length := by intro l hl; have := F58.2 l (by simp [hl]); (try simp only [List.length_append, List.length_cons, List.length_nil] at this); omega
  have nd69 : L56.Nodup := by have := F58.1; first | exact this | (simp only [List.nodup_append] at this; simp [this])
  have hl_g55 : g55.length = 3 := (o57.rep).len
  have ho_g55 := (o57.rep).one
  have r71 : rdn (M52 ++ [⟨g55, 1, 2⟩]) (M52.length) 0 3 = some g55 := rdn_box (by first | simp | rfl) hl_g55.symm
  have r72 : rdn (M52 ++ [⟨g55, 1, 2⟩]) (M20.length) 0 3 = some g23 := rdn_old (rdn_box b63 hl_g23.symm)
  have e73 := (ans_of (k_laws_eqScan (M52 ++ [⟨g55, 1, 2⟩]) _ _ _ _ ((Own.grow (List.prefix_append _ _) o57)).rep (o24.mono (y67.trans (List.prefix_append _ _))) (hr_0.mono (by decide)))).1 rfl
  have r74 : rdn (M52 ++ [⟨g55, 1, 2⟩]) (M33.length) 0 3 = some u34 := rdn_old (rdn_box b64 hl_u34.symm)
  have r75 : rdn (M52 ++ [⟨g55, 1, 2⟩]) (M.length) 0 3 = some v_s := rdn_old (rdn_box b61 hl_v_s.symm)
  obtain ⟨M76, u77, L78, p79, t80, o81, F82⟩ := k_laws_toScan (M52 ++ [⟨g55, 1, 2⟩]) v_s s (h_s.mono (z66.trans (List.prefix_append _ _))) hb1_s
  have f83 : ∀ l ∈ L78, M52.length + 1 ≤ l ∧ l < M76.length := by intro l hl; have := F82.2 l hl; (try simp only [List.length_append, List.length_cons, List.length_nil] at this); omega
  have q84 : M52 <+: M76 := (List.prefix_append _ _).trans p79
  have ln85 : M52.length + 1 ≤ M76.length := by have := p79.length_le; (try simp only [List.length_append, List.length_cons, List.length_nil] at this); omega
  have b86 : M76[M.length]? = some ⟨v_s, 1, 2⟩ := get_pre q84 b61
  have b87 : M76[M.length + 1]? = some ⟨v_e, 1, 2⟩ := get_pre q84 b62
  have b88 : M76[M20.length]? = some ⟨g23, 1, 2⟩ := get_pre q84 b63
  have b89 : M76[M33.length]? = some ⟨u34, 1, 2⟩ := get_pre q84 b64
  have b90 : M76[M52.length]? = some ⟨g55, 1, 2⟩ := get_pre p79 (by simp)
  have o91 := Own.grow q84 o65
  have o92 := Own.grow q84 o57
  have z93 : M <+: M76 := z66.trans q84
  have y94 : M20 <+: M76 := y67.trans q84
  have hl_u77 : u77.length = 3 := (o81.rep).len
  have ho_u77 := (o81.rep).one
  have e96 := (ans_of (k_laws_eqScan M76 _ _ _ _ ((Own.grow (List.prefix_refl _) o91)).rep ((Own.grow (List.prefix_refl _) o81)).rep (hb1_s.mono (by decide)))).1 rfl
  have r97 : rdn M76 (M33.length) 0 3 = some u34 := rdn_box b89 hl_u34.symm
  obtain ⟨M98, m99, up100, o101⟩ := k_laws_markScan M76 _ _ _ (1) (Own.grow (List.prefix_refl _) o91) F39.1 hb1_s (by omega) (by omega)
  have ln102 : M76.length ≤ M98.length := by have := up100.1; (try simp only [List.length_append, List.length_cons, List.length_nil] at this); omega
  have hh104 : M76[M.length]? = some ⟨v_s, 1, 2⟩ := get_pre (List.prefix_refl _) b86
  have b103 : M98[M.length]? = some ⟨v_s, 1, 2⟩ := UpdG.get up100 hh104 (fun hl => by have := f40 _ hl; omega)
  have hh106 : M76[M.length + 1]? = some ⟨v_e, 1, 2⟩ := get_pre (List.prefix_refl _) b87
  have b105 : M98[M.length + 1]? = some ⟨v_e, 1, 2⟩ := UpdG.get up100 hh106 (fun hl => by have := f40 _ hl; omega)
  have hh108 : M76[M20.length]? = some ⟨g23, 1, 2⟩ := get_pre (List.prefix_refl _) b88
  have b107 : M98[M20.length]? = some ⟨g23, 1, 2⟩ := UpdG.get up100 hh108 (fun hl => by have := f40 _ hl; omega)
  have hh110 : M76[M33.length]? = some ⟨u34, 1, 2⟩ := get_pre (List.prefix_refl _) b89
  have b109 : M98[M33.length]? = some ⟨u34, 1, 2⟩ := UpdG.get up100 hh110 (fun hl => by have := f40 _ hl; omega)
  have hh112 : M76[M52.length]? = some ⟨g55, 1, 2⟩ := get_pre (List.prefix_refl _) b90
  have b111 : M98[M52.length]? = some ⟨g55, 1, 2⟩ := UpdG.get up100 hh112 (fun hl => by have := f40 _ hl; omega)
  have o113 := Own.updg up100 (Own.grow (List.prefix_refl _) o92) (fun l hl hk => (by have := f68 l hl; have := f40 l hk; omega))
  have z114 : M <+: M98 := UpdG.pre up100 (z93.trans (List.prefix_refl _)) (fun l hl => by have := f40 l hl; omega)
  have y115 : M20 <+: M98 := UpdG.pre up100 (y94.trans (List.prefix_refl _)) (fun l hl => by have := f40 l hl; omega)
  have c116 : ¬ (1 + gt_Scan s < 0) := by omega
  have r117 : rdn M98 (M52.length) 0 3 = some g55 := rdn_box b111 hl_g55.symm
  have r118 : rdn M98 (M20.length) 0 3 = some g23 := rdn_box b107 hl_g23.symm
  have e119 := (ans_of (k_laws_eqScan M98 _ _ _ _ ((Own.grow (List.prefix_refl _) o113)).rep (o24.mono (y115.trans (List.prefix_refl _))) (hr_0.mono (by decide)))).1 rfl
  have r120 : rdn M98 (M52.length) 0 3 = some g55 := rdn_box b111 hl_g55.symm
  obtain ⟨M121, m122, up123, o124⟩ := k_laws_markScan M98 _ _ _ (1) (Own.grow (List.prefix_refl _) o113) nd69 hr_0 (by omega) (by omega)
  have ln125 : M98.length ≤ M121.length := by have := up123.1; (try simp only [List.length_append, List.length_cons, List.length_nil] at this); omega
  have hh127 : M98[M.length]? = some ⟨v_s, 1, 2⟩ := get_pre (List.prefix_refl _) b103
  have b126 : M121[M.length]? = some ⟨v_s, 1, 2⟩ := UpdG.get up123 hh127 (fun hl => by have := f68 _ hl; omega)
  have hh129 : M98[M.length + 1]? = some ⟨v_e, 1, 2⟩ := get_pre (List.prefix_refl _) b105
  have b128 : M121[M.length + 1]? = some ⟨v_e, 1, 2⟩ := UpdG.get up123 hh129 (fun hl => by have := f68 _ hl; omega)
  have hh131 : M98[M20.length]? = some ⟨g23, 1, 2⟩ := get_pre (List.prefix_refl _) b107
  have b130 : M121[M20.length]? = some ⟨g23, 1, 2⟩ := UpdG.get up123 hh131 (fun hl => by have := f68 _ hl; omega)
  have hh133 : M98[M33.length]? = some ⟨u34, 1, 2⟩ := get_pre (List.prefix_refl _) b109
  have b132 : M121[M33.length]? = some ⟨u34, 1, 2⟩ := UpdG.get up123 hh133 (fun hl => by have := f68 _ hl; omega)
  have hh135 : M98[M52.length]? = some ⟨g55, 1, 2⟩ := get_pre (List.prefix_refl _) b111
  have b134 : M121[M52.length]? = some ⟨g55, 1, 2⟩ := UpdG.get up123 hh135 (fun hl => by have := f68 _ hl; omega)
  have o136 := Own.updg up123 (Own.grow (List.prefix_refl _) o101) (fun l hl hk => (by have := f40 l hl; have := f68 l hk; omega))
  have z137 : M <+: M121 := UpdG.pre up123 (z114.trans (List.prefix_refl _)) (fun l hl => by have := f68 l hl; omega)
  have y138 : M20 <+: M121 := UpdG.pre up123 (y115.trans (List.prefix_refl _)) (fun l hl => by have := f68 l hl; omega)
  have c139 : ¬ (1 + gt_Scan (putX s op e) < 0) := by omega
  have r140 : rdn M121 (M52.length) 0 3 = some g55 := rdn_box b134 hl_g55.symm
  have d141 := k_laws_heldScan M121 _ _ (1) ((Own.grow (List.prefix_refl _) o124)).rep hr_0 (by omega) (by omega)
  have c142 : ¬ (1 + gt_Scan (putX s op e) < 0) := by omega
  have r143 : rdn M121 (M.length) 0 3 = some v_s := rdn_box b126 hl_v_s.symm
  obtain ⟨M144, u145, L146, p147, t148, o149, F150⟩ := k_laws_toScan M121 v_s s (h_s.mono (z137.trans (List.prefix_refl _))) hb1_s
  have f151 : ∀ l ∈ L146, M121.length ≤ l ∧ l < M144.length := by intro l hl; have := F150.2 l hl; (try simp only [List.length_append, List.length_cons, List.length_nil] at this); omega
  have q152 : M121 <+: M144 := (List.prefix_refl _).trans p147
  have ln153 : M121.length ≤ M144.length := by have := p147.length_le; (try simp only [List.length_append, List.length_cons, List.length_nil] at this); omega
  have b154 : M144[M.length]? = some ⟨v_s, 1, 2⟩ := get_pre q152 b126
  have b155 : M144[M.length + 1]? = some ⟨v_e, 1, 2⟩ := get_pre q152 b128
  have b156 : M144[M20.length]? = some ⟨g23, 1, 2⟩ := get_pre q152 b130
  have b157 : M144[M33.length]? = some ⟨u34, 1, 2⟩ := get_pre q152 b132
  have b158 : M144[M52.length]? = some ⟨g55, 1, 2⟩ := get_pre q152 b134
  have o159 := Own.grow q152 o136
  have o160 := Own.grow q152 o124
  have z161 : M <+: M144 := z137.trans q152
  have y162 : M20 <+: M144 := y138.trans q152
  have hl_u145 : u145.length = 3 := (o149.rep).len
  have ho_u145 := (o149.rep).one
  have r164 : rdn M144 (M.length + 1) 0 2 = some v_e := rdn_box b155 hl_v_e.symm
  have e165 := toflat_Entry M144 v_e e h_e
  obtain ⟨M166, g169, L170, p167, s168, o171, F172⟩ := d_impl_ScanPut M144 u145 s ((Own.grow (List.prefix_refl _) o149)).rep hb1_s op v_e e (h_e.mono (z161.trans (List.prefix_refl _))) hb1_e
  have q173 : M144 <+: M166 := (List.prefix_refl _).trans p167
  have ln174 : M144.length ≤ M166.length := by have := p167.length_le; (try simp only [List.length_append, List.length_cons, List.length_nil] at this); omega
  have b175 : M166[M.length]? = some ⟨v_s, 1, 2⟩ := get_pre q173 b154
  have b176 : M166[M.length + 1]? = some ⟨v_e, 1, 2⟩ := get_pre q173 b155
  have b177 : M166[M20.length]? = some ⟨g23, 1, 2⟩ := get_pre q173 b156
  have b178 : M166[M33.length]? = some ⟨u34, 1, 2⟩ := get_pre q173 b157
  have b179 : M166[M52.length]? = some ⟨g55, 1, 2⟩ := get_pre q173 b158
  have o180 := Own.grow q173 o159
  have o181 := Own.grow q173 o160
  have o182 := Own.grow q173 o149
  have z183 : M <+: M166 := z161.trans q173
  have y184 : M20 <+: M166 := y162.trans q173
  have f185 : ∀ l ∈ L170, M144.length ≤ l ∧ l < M166.length := by intro l hl; have := F172.2 l (by simp [hl]); (try simp only [List.length_append, List.length_cons, List.length_nil] at this); omega
  have nd186 : L170.Nodup := by have := F172.1; first | exact this | (simp only [List.nodup_append] at this; simp [this])
  have hl_g169 : g169.length = 3 := (o171.rep).len
  have ho_g169 := (o171.rep).one
  have r188 : rdn (M166 ++ [⟨g169, 1, 2⟩]) (M166.length) 0 3 = some g169 := rdn_box (by first | simp | rfl) hl_g169.symm
  have r189 : rdn (M166 ++ [⟨g169, 1, 2⟩]) (M20.length) 0 3 = some g23 := rdn_old (rdn_box b177 hl_g23.symm)
  have e190 := (ans_of (k_laws_eqScan (M166 ++ [⟨g169, 1, 2⟩]) _ _ _ _ ((Own.grow (List.prefix_append _ _) o171)).rep (o24.mono (y184.trans (List.prefix_append _ _))) (hr_0.mono (by decide)))).1 rfl
  have r191 : rdn (M166 ++ [⟨g169, 1, 2⟩]) (M52.length) 0 3 = some g55 := rdn_old (rdn_box b179 hl_g55.symm)
  have d192 := k_laws_heldScan (M166 ++ [⟨g169, 1, 2⟩]) _ _ (1) ((Own.grow (List.prefix_append _ _) o181)).rep hr_0 (by omega) (by omega)
  have c193 : ¬ (1 + gt_Scan (putX s op e) < 0) := by omega
  rw [aCall_eq T_laws_FnExactScanPut]; unfold A_laws_FnExactScanPut C_laws_FnExactScanPut; simp (maxSteps := 4000000) [thenD_pp, sliceCells_sl, sliceCells_z, sliceCells_nil, take_full, appS_sl, appK_ok, appS_none, thenD_ag, agP_nil, agP_cons, hl_v_s, ho_v_s, hl_v_e, ho_v_e, r1, r2, s2_s, hl_s, s2_e, hl_e, r3, t8, p7, hl_u5, ho_u5, r18, e19, s22, p21, hl_g23, ho_g23, r32, t37, p36, hl_u34, ho_u34, r49, r50, e51, s54, p53, hl_g55, ho_g55, r71, r72, e73, r74, r75, t80, p79, hl_u77, ho_u77, e96, r97, m99, c116, r117, r118, e119, r120, m122, c139, r140, d141, c142, r143, t148, p147, hl_u145, ho_u145, r164, e165, s168, p167, hl_g169, ho_g169, r188, r189, e190, r191, d192, c193, thenD_pre]
  all_goals exact gc_ex _ _ _
theorem law_laws_FnExactScanPut (M : Mem) (avs : List V) (_ : ∀ b ∈ M, b.st ≠ 2) (h : Ins [(true, (.pr (.int .i64) (.pr (.sl (.sl .u8)) (.sl (.pr (.int .i64) (.pr (.int .i64) (.int .i64))))))), (false, (.int .i64)), (true, (.pr .str (.int .i64)))] M avs) : ∃ M', aCall T0 F_laws_FnExactScanPut avs M = some (.bool true, M') := by
  obtain ⟨v_s, _, s, rfl, h_s, f_s, h⟩ := ins_cons h
  obtain ⟨v_op, _, op, rfl, h_op, f_op, h⟩ := ins_cons h
  obtain ⟨v_e, _, e, rfl, h_e, f_e, h⟩ := ins_cons h
  obtain rfl := ins_nil h
  obtain ⟨c_s, rfl, h2_s⟩ := repv_agg h_s
  obtain ⟨h_op, _⟩ := repv_one h_op
  cases h_op
  obtain ⟨c_e, rfl, h2_e⟩ := repv_agg h_e
  exact c_laws_FnExactScanPut M c_s s h2_s (fit_bd f_s) op c_e e h2_e (fit_bd f_e)
end GoAm
