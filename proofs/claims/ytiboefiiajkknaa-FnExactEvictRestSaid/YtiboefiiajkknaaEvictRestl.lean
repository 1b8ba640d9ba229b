/- What the functions do that the law reaches; and the law. -/
import Derived.Test.YtiboefiiajkknaaEvictRestl0
set_option autoImplicit false
set_option linter.unusedVariables false
set_option linter.unusedSimpArgs false
namespace GoAm
open Go
theorem sub_own {α β : Type} {P : α → List β → Prop} : ∀ {ys zs : List α} {Ls : List (List β)}, List.Sublist ys zs → Ls.length = zs.length → (∀ (i : Nat) (z : α) (K : List β), zs[i]? = some z → Ls[i]? = some K → P z K) →
    ∃ Ks : List (List β), Ks.length = ys.length ∧ List.Sublist Ks.flatten Ls.flatten ∧ ∀ (i : Nat) (z : α) (K : List β), ys[i]? = some z → Ks[i]? = some K → P z K := by
  intro ys zs Ls hs
  induction hs generalizing Ls with
  | slnil => intro _ _; exact ⟨[], rfl, by simp, by simp⟩
  | @cons ys zs z hs ih =>
    intro hl hp
    cases Ls with
    | nil => simp at hl
    | cons K Ls =>
      obtain ⟨Ks, h1, h2, h3⟩ := ih (Ls := Ls) (by simpa using hl) (fun i z K hz hK => hp (i + 1) z K (by simpa using hz) (by simpa using hK))
      refine ⟨Ks, h1, ?_, h3⟩
      rw [List.flatten_cons]
      exact h2.trans (List.sublist_append_right _ _)
  | @cons_cons ys zs z hs ih =>
    intro hl hp
    cases Ls with
    | nil => simp at hl
    | cons K Ls =>
      obtain ⟨Ks, h1, h2, h3⟩ := ih (Ls := Ls) (by simpa using hl) (fun i z K hz hK => hp (i + 1) z K (by simpa using hz) (by simpa using hK))
      refine ⟨K :: Ks, by simp [h1], ?_, ?_⟩
      · rw [List.flatten_cons, List.flatten_cons]
        exact (List.Sublist.refl K).append h2
      · intro i a b ha hb
        cases i with
        | zero =>
          simp at ha hb
          subst ha; subst hb
          exact hp 0 z K (by simp) (by simp)
        | succ i => exact h3 i a b (by simpa using ha) (by simpa using hb)
theorem heads_flat : ∀ (css : List (List V)) (cells : List V) (off : Nat), (∀ ds ∈ css, ds.length = 3) → (∀ (q : Nat) (ds : List V), css[q]? = some ds → (cells.drop (off + q * 3)).take 3 = ds) → css.flatten <+: cells.drop off
  | [], cells, off, _, _ => by simp
  | ds :: css, cells, off, hl, h => by
    have h0 := h 0 ds (by simp)
    have ih := heads_flat css cells (off + 3) (fun d hd => hl d (List.mem_cons_of_mem _ hd)) (fun q d hd => by
      have := h (q + 1) d (by simpa using hd)
      have e : off + (q + 1) * 3 = off + 3 + q * 3 := by omega
      rw [e] at this
      exact this)
    have e : cells.drop off = ds ++ cells.drop (off + 3) := by
      rw [← List.take_append_drop 3 (cells.drop off), List.drop_drop]
      congr 1
    rw [List.flatten_cons, e]
    exact (List.prefix_append_right_inj ds).2 ih
/-- What evict leaves. -/
def EvRs (M : Mem) (rest : List ty_Block.D) (L : List Nat) (p : V × Mem) : Prop := ∃ vp vr a k c K, p.1 = .tuple #[vp, vr] ∧ (∃ b, vp = .slice b 0 0 ∨ ∃ n, vp = .slice b n n) ∧ vr = .slice a k c ∧ M <+: p.2 ∧ Own (.sl ty_Block) p.2 [vr] rest K ∧ K.Nodup ∧ ∀ j ∈ K, (j ∈ L ∨ M.length ≤ j) ∧ j < p.2.length
/-- A list of blocks with blocks of its own. -/
theorem c_evict_rest (M : Mem) (v : V) (xs : List ty_Block.D) (L : List Nat) (m leaf : Nat) (hg : Gr (.sl ty_Block) M [v] xs L) (hnd : L.Nodup) (hm : m ≤ 6) (hlf : leaf < 2 ^ m) (hL : LfOk m xs) (hn : xs.length ≤ 128) (hd : IdNd xs) :
    Sat (aCall T0 F_impl_evict [v, .int .i64 m, .int .i64 leaf] M) (EvRs M (levelsE m leaf xs (m + 1)).2 L) := by
  obtain ⟨a0, hsh⟩ := hg.shape
  by_cases h0 : xs = []
  · subst h0
    have h3 : sliceCells M 3 v = some (0, []) := by
      rcases hg with ⟨e, _, _⟩ | ⟨l, css, Ls, e, _⟩
      · cases e; rfl
      · cases e; simp [sliceCells]
    obtain ⟨p, e, vr, La, q1, q2, q3, q4, q5⟩ := c_evict_none M v m leaf ⟨_, _, hsh⟩ h3 hm
    obtain ⟨a, rfl⟩ := q3.shape
    obtain ⟨K, o, hs⟩ := q3.own
    refine ⟨p, e, _, _, a, _, _, K, q1, ⟨none, .inl rfl⟩, rfl, q2, ?_, hs.nodup q4, fun j hj => ⟨.inr (q5 j (hs.subset hj)), q3.lt j (hs.subset hj)⟩⟩
    rw [levelsE_nil]
    exact o
  · rcases hg with ⟨_, e, _⟩ | ⟨l, css, Ls, e, hb, h1, h2, h3, rfl⟩
    · exact absurd e h0
    cases e
    have hfst : (css.zip xs).map (·.1) = css := List.map_fst_zip (by omega)
    have hsnd : (css.zip xs).map (·.2) = xs := List.map_snd_zip (by omega)
    have hlen : (css.zip xs).length = xs.length := by rw [List.length_zip]; omega
    have hP : ∀ (i : Nat) (z : List V × ty_Block.D) (K : List Nat), (css.zip xs)[i]? = some z → Ls[i]? = some K → Gr ty_Block M z.1 z.2 K := by
      intro i z K hz hK
      obtain ⟨hi, rfl⟩ := List.getElem?_eq_some_iff.1 hz
      rw [List.getElem_zip]
      rw [List.length_zip] at hi
      exact h3 i _ _ K (List.getElem?_eq_getElem (by omega)) (List.getElem?_eq_getElem (by omega)) hK
    have hz2 : ∀ z ∈ css.zip xs, Rep ty_Block M z.1 z.2 := by
      intro z hz
      obtain ⟨i, hi, rfl⟩ := List.getElem_of_mem hz
      exact (hP i _ (Ls[i]'(by omega)) (List.getElem?_eq_getElem hi) (List.getElem?_eq_getElem _)).rep
    have hfl : css.flatten.length = xs.length * 3 := by
      rw [flat_len (w := 3), h1]
      exact Gr.els h1 h2 h3
    have hsc : sliceCells M 3 (.slice (some ⟨l, 0, none⟩) xs.length xs.length) = some ((css.zip xs).length, Zl (css.zip xs)) := by
      have hw : ty_Block.w = 3 := rfl
      rw [hw] at hb
      have hpos := List.length_pos_iff.2 h0
      unfold Zl
      rw [hfst, hlen]
      have hne : ¬ xs.length * 3 = 0 := by omega
      simp only [sliceCells, hne, if_false, rdn, hb]
      rw [if_pos (by first | exact ⟨.inr rfl, by omega⟩ | exact ⟨.inr trivial, by omega⟩), List.drop_zero, ← hfl, List.take_length]
      rfl
    have hne : css.zip xs ≠ [] := fun h => by rw [h] at hlen; exact h0 (List.length_eq_zero_iff.1 hlen.symm)
    obtain ⟨p, e, vp, l2, Lp, cells, q1, q2, q3, q4, q5, q6, q7, q8, q9⟩ := c_impl_evict M _ (css.zip xs) m leaf ⟨_, _, by rw [hlen]⟩ hz2 hsc hm hlf (by rw [hsnd]; exact hL) (by omega) hne
    rw [levels_eq m leaf xs (css.zip xs) hsnd hd]
    obtain ⟨ap, rfl⟩ := q3.shape
    have hsub := (levsI_sub m leaf (css.zip xs) (m + 1)).1
    generalize (levsI m leaf (css.zip xs) (m + 1)).2 = ys at *
    obtain ⟨Ks, k1, k2, k3⟩ := sub_own (P := fun (z : List V × ty_Block.D) K => Gr ty_Block M z.1 z.2 K) hsub (by omega) hP
    obtain ⟨Os, o1, o2⟩ := choose_list (P := fun i K (K' : List Nat) => List.Sublist K' K ∧ ∀ z, ys[i]? = some z → Own ty_Block M z.1 z.2 K') Ks (fun i K hK => by
      have hi : i < ys.length := by rw [← k1]; exact (List.getElem?_eq_some_iff.1 hK).1
      obtain ⟨K', o, hs⟩ := (k3 i _ K (List.getElem?_eq_getElem hi) hK).own
      refine ⟨K', hs, fun z hz => ?_⟩
      rw [List.getElem?_eq_getElem hi] at hz
      cases hz
      exact o)
    have hOs : List.Sublist Os.flatten Ks.flatten := sub_flat o1 fun i a b ha hb => (o2 i b a hb ha).1
    have hll := List.nodup_cons.1 hnd
    have hlt := get_lt q7
    have hpl := q2.length_le
    by_cases hy : ys = []
    · subst hy
      refine ⟨p, e, _, _, _, _, _, [], q1, ⟨ap, .inr ⟨_, rfl⟩⟩, rfl, q2, .inl ⟨rfl, rfl, .inr ⟨l2, 0, _, _, [], rfl, q7, .inr (.inl rfl), rfl, rfl, ?_, ?_⟩⟩, by simp, by simp⟩
      · simp
      · simp
    · refine ⟨p, e, _, _, _, _, _, l2 :: Os.flatten, q1, ⟨ap, .inr ⟨_, rfl⟩⟩, rfl, q2, .inr ⟨l2, 0, (css.zip xs).length, ⟨cells, 3, 2⟩, ys.map (·.1), Os, by simpa using hy, by rw [List.length_map], q7, rfl, rfl, by simp, by rw [List.length_map]; omega, ?_, ?_, rfl⟩, ?_, ?_⟩
      · intro i ds x K hds hx hK
        rw [List.getElem?_map] at hds hx
        obtain ⟨z, hz, rfl⟩ := Option.map_eq_some_iff.1 hds
        rw [hz] at hx
        cases hx
        obtain ⟨hi, _⟩ := List.getElem?_eq_some_iff.1 hK
        exact ((o2 i (Ks[i]'(by omega)) K (List.getElem?_eq_getElem _) hK).2 z hz).grow q2
      · refine heads_flat _ cells 0 ?_ ?_
        · intro ds hds
          obtain ⟨z, hz, rfl⟩ := List.mem_map.1 hds
          exact (hz2 z (hsub.subset hz)).len
        · intro q ds hq
          rw [Nat.zero_add]
          refine q9 q ds ?_
          unfold hdf
          rw [List.getElem?_map] at hq
          exact hq
      · refine List.nodup_cons.2 ⟨fun hm2 => ?_, (hOs.trans k2).nodup hll.2⟩
        have h5 : l2 ∈ l :: Ls.flatten := List.mem_cons_of_mem _ ((hOs.trans k2).subset hm2)
        have hgr : Gr (.sl ty_Block) M [.slice (some ⟨l, 0, none⟩) xs.length xs.length] xs (l :: Ls.flatten) := .inr ⟨l, css, Ls, rfl, hb, h1, h2, h3, rfl⟩
        have := hgr.lt l2 h5
        omega
      · intro j hj
        rcases List.mem_cons.1 hj with rfl | hj
        · exact ⟨.inr q6, hlt⟩
        · have h5 : j ∈ l :: Ls.flatten := List.mem_cons_of_mem _ ((hOs.trans k2).subset hj)
          have hgr : Gr (.sl ty_Block) M [.slice (some ⟨l, 0, none⟩) xs.length xs.length] xs (l :: Ls.flatten) := .inr ⟨l, css, Ls, rfl, hb, h1, h2, h3, rfl⟩
          have := hgr.lt j h5
          exact ⟨.inl h5, by omega⟩
theorem rep_hdz {t : Ty} {M : Mem} {v : V} {xs : List t.D} (h : Rep (.sl t) M [v] xs) : ∃ zs : List (List V × t.D), zs.map (·.2) = xs ∧ (∀ z ∈ zs, Rep t M z.1 z.2) ∧ sliceCells M t.w v = some (xs.length, (zs.map (·.1)).flatten) := by
  rcases h with ⟨e, rfl⟩ | ⟨l, o, c, blk, css, e, h2, h3, h4, h5, h6, h7⟩
  · cases e
    exact ⟨[], rfl, by simp, rfl⟩
  · cases e
    refine ⟨css.zip xs, List.map_snd_zip (by omega), ?_, ?_⟩
    · intro z hz
      obtain ⟨i, hi, rfl⟩ := List.getElem_of_mem hz
      rw [List.length_zip] at hi
      rw [List.getElem_zip]
      exact h6 i _ _ (List.getElem?_eq_getElem (by omega)) (List.getElem?_eq_getElem (by omega))
    · have hm : ((css.zip xs).map (·.1)) = css := List.map_fst_zip (by omega)
      rw [hm]
      have hl : css.flatten.length = xs.length * t.w := by
        rw [flat_len (w := t.w), h5]
        intro ds hd
        obtain ⟨i, hi, rfl⟩ := List.getElem_of_mem hd
        exact (h6 i css[i] (xs[i]'(by omega)) (by simp) (by simp)).len
      by_cases h0 : xs.length * t.w = 0
      · have : css.flatten = [] := List.length_eq_zero_iff.1 (by omega)
        simp [sliceCells, h0, this]
      · obtain ⟨r, hr⟩ := h7
        have hne : xs ≠ [] := by rintro rfl; simp at h0
        have hle : o + xs.length * t.w ≤ blk.cells.length := by
          have := congrArg List.length hr
          rw [List.length_append, List.length_drop, hl] at this
          omega
        have hst : blk.st = 1 ∨ blk.st = 2 := by
          rcases h3 with h | h | h
          · exact .inl h
          · exact .inr h
          · exact absurd h hne
        simp only [sliceCells, h0, if_false, rdn, h2]
        rw [if_pos ⟨hst, hle⟩, ← hr, ← hl, List.take_left]
        rfl
theorem zl_of {M : Mem} {v : V} {xs : List ty_Block.D} (h : Rep (.sl ty_Block) M [v] xs) : ∃ zs : List (List V × ty_Block.D), zs.map (·.2) = xs ∧ (∃ a c, v = .slice a zs.length c) ∧ (∀ z ∈ zs, Rep ty_Block M z.1 z.2) ∧ sliceCells M 3 v = some (zs.length, Zl zs) := by
  obtain ⟨zs, h1, h2, h3⟩ := rep_hdz h
  have hl : xs.length = zs.length := by rw [← h1]; simp
  rw [hl] at h3
  obtain ⟨a, c, rfl⟩ := h.slen
  exact ⟨zs, h1, ⟨a, c, by rw [hl]⟩, h2, h3⟩
def CkI (M : Mem) (l : Nat) (zs : List (List V × ty_Block.D)) (i : Nat) (X : Mem) : Prop :=
  ∃ (ds : List (List V)) (Ls : List (List Nat)), M <+: X ∧ X[l]? = some ⟨ds.flatten ++ Zl (zs.drop i), 3, 2⟩ ∧ ds.length = i ∧ Ls.length = i ∧ (∀ (k : Nat) (d : List V) (z : List V × ty_Block.D) (K : List Nat), ds[k]? = some d → zs[k]? = some z → Ls[k]? = some K → Gr ty_Block X d z.2 K) ∧ (l :: Ls.flatten).Nodup ∧ ∀ j ∈ Ls.flatten, M.length ≤ j
theorem Zl_cons (z : List V × ty_Block.D) (zs : List (List V × ty_Block.D)) : Zl (z :: zs) = z.1 ++ Zl zs := by simp [Zl]
theorem splice1 {cs : List V} {o : Nat} {v : V} (h : o < cs.length) : splice cs o [v] = cs.set o v := by
  unfold splice
  rw [List.set_eq_take_append_cons_drop, if_pos h]
  simp
theorem splice_mid (A : List V) (x y u w : V) (B : List V) : splice (A ++ ([x, y, u] ++ B)) (A.length + 2) [w] = A ++ ([x, y, w] ++ B) := by
  rw [splice1 (by simp), List.set_append_right _ _ (by omega)]
  have : A.length + 2 - A.length = 2 := by omega
  rw [this]
  rfl
theorem l_impl_cloneBlocks_0 (M : Mem) (l : Nat) (zs : List (List V × ty_Block.D)) (hl : M.length ≤ l) (hz : ∀ z ∈ zs, Rep ty_Block M z.1 z.2) (hn : zs.length ≤ 1048576) (hs : ∀ z ∈ zs, List.length (α := UInt8) z.2.2.2 ≤ 1048576) (Z : Mem) (hZ : CkI M l zs 0 Z) :
    ∃ (u : Unit) (X' : Mem), CkI M l zs zs.length X' ∧ lp (aCall T0) K_impl_cloneBlocks_0 L_impl_cloneBlocks_0 [und, und, und, .slice (some ⟨l, 0, none⟩) zs.length zs.length, und, und, und, und, .slice (some ⟨l, 0, none⟩) zs.length zs.length, .int .i64 zs.length, .int .i64 (0 : Nat), und, und, und, und, und, und, und, und, und, und, und, und, und] Z = lp (aCall T0) K_impl_cloneBlocks_0 L_impl_cloneBlocks_0 [und, und, und, .slice (some ⟨l, 0, none⟩) zs.length zs.length, und, und, und, und, .slice (some ⟨l, 0, none⟩) zs.length zs.length, .int .i64 zs.length, .int .i64 zs.length, und, und, und, und, und, und, und, und, und, und, und, und, und] X' := by
  refine loop_to (call := aCall T0) (K := K_impl_cloneBlocks_0) (L := L_impl_cloneBlocks_0) (fun i (_ : Unit) X => CkI M l zs i X) (fun i (_ : Unit) => [und, und, und, .slice (some ⟨l, 0, none⟩) zs.length zs.length, und, und, und, und, .slice (some ⟨l, 0, none⟩) zs.length zs.length, .int .i64 zs.length, .int .i64 i, und, und, und, und, und, und, und, und, und, und, und, und, und]) (n := zs.length) ?_ 0 () Z (by omega) hZ
  intro i _ X hi ⟨ds, Ls, pX, hb, hd, hL, hg, nd, hge⟩
  have e6 : IntKind.i64.wrap ((i : Int) + 1) = i + 1 := wrap_i64 (by omega) (by omega)
  have hzm := List.getElem_mem hi
  have hR := hz _ hzm
  have hsz := hs _ hzm
  obtain ⟨u, hu, w0, w1, qu⟩ := rep_g_Block hR
  have hdr : zs.drop i = zs[i] :: zs.drop (i + 1) := List.drop_eq_getElem_cons hi
  rw [hdr, Zl_cons, hu] at hb
  have hdl : ds.flatten.length = i * 3 := by
    rw [flat_len (w := 3), hd]
    intro c hc
    obtain ⟨k, hk, rfl⟩ := List.getElem_of_mem hc
    exact (hg k _ (zs[k]'(by omega)) (Ls[k]'(by omega)) (by simp) (by simp) (by simp)).len
  generalize hzi : zs[i] = z at *
  obtain ⟨z1, b1, b2, b3⟩ := z
  simp only at hu w0 w1 qu hsz hb hR
  subst hu
  have hl3 : ∀ u : V, (ds.flatten ++ ([(.int .i64 b1 : V), .int .i64 b2, u] ++ Zl (zs.drop (i + 1)))).length = i * 3 + 3 + (Zl (zs.drop (i + 1))).length := fun u => by
    rw [List.length_append, hdl, List.length_append]
    simp only [List.length_cons, List.length_nil]
    omega
  have hrd : rdn X l (i * 3) 3 = some [.int .i64 b1, .int .i64 b2, u] := by
    simp only [rdn, hb]
    rw [if_pos (by rw [hl3]; refine ⟨by simp, by omega⟩), List.drop_left' hdl]
    rfl
  have hrd' := fun N : Mem => rn_pre (List.prefix_append X N) hrd
  have s1 := clone_sl (M := X ++ [(⟨[.int .i64 b1, .int .i64 b2, u], 1, 2⟩ : Blk)]) T_bytes_Clone (t := .u8) fl_Byte rfl (qu.mono (pX.trans (List.prefix_append _ _))) (by omega) (by omega)
  obtain ⟨ua, uc, rfl⟩ := qu.slen
  have hlX := get_lt hb
  rw [S_impl_cloneBlocks_0]; unfold B_impl_cloneBlocks_0; simp [thenD_pp, sliceCells_sl, sliceCells_z, sliceCells_nil, take_full, appS_sl, appK_ok, appS_none, thenD_ag, agP_nil, agP_cons, hi, hrd, hrd', zeroCells, rdJ_ok, rd1_K]
  generalize hx : aCall T0 F_bytes_Clone _ _ = xhx
  obtain ⟨w1', X3, rfl, K2, p3', gb, ndb, geb⟩ := of_call hx s1
  clear hx
  simp only at p3' gb geb
  have p3 : X <+: X3 := (List.prefix_append _ _).trans p3'
  obtain ⟨a7, rfl⟩ := gb.shape
  have hb3 := get_pre p3 hb
  have hwr : wrn X3 l (i * 3 + 2) [.slice a7 (List.length (α := UInt8) b3) (List.length (α := UInt8) b3)] = some (X3.set l ⟨ds.flatten ++ ([.int .i64 b1, .int .i64 b2, .slice a7 (List.length (α := UInt8) b3) (List.length (α := UInt8) b3)] ++ Zl (zs.drop (i + 1))), 3, 2⟩) := by
    simp only [wrn, hb3]
    rw [if_pos (by rw [hl3]; refine ⟨by simp, by simp only [List.length_cons, List.length_nil]; omega, rfl⟩), ← hdl, splice_mid]
  simp [thenD_pp, sliceCells_sl, sliceCells_z, sliceCells_nil, take_full, appS_sl, appK_ok, appS_none, thenD_ag, agP_nil, agP_cons, hi, hwr, e6]
  have hlK : l ∉ K2 := fun hm => by have := geb l hm; simp at this; omega
  have hlt : ∀ K ∈ Ls, ∀ j ∈ K, j < X.length := by
    intro K hK j hj
    obtain ⟨k, hk, rfl⟩ := List.getElem_of_mem hK
    exact (hg k (ds[k]'(by omega)) (zs[k]'(by omega)) _ (by simp) (by simp) (by simp)).lt j hj
  have hnd := List.nodup_cons.1 nd
  refine ⟨_, ⟨ds ++ [[.int .i64 b1, .int .i64 b2, .slice a7 (List.length (α := UInt8) b3) (List.length (α := UInt8) b3)]], Ls ++ [K2], pf_set hl (pX.trans p3), ?_, by simp [hd], by simp [hL], ?_, ?_, ?_⟩, rfl⟩
  · rw [gs_of hb3]; simp
  · intro k d z K hdk hzk hKk
    by_cases hk : k < i
    · rw [List.getElem?_append_left (by omega)] at hdk hKk
      have g := hg k d z K hdk hzk hKk
      refine (g.grow p3).set _ (fun hm => hnd.1 (List.mem_flatten.2 ⟨K, List.mem_of_getElem? hKk, hm⟩))
    · have hki : k = i := by
        have := (List.getElem?_eq_some_iff.1 hdk).1
        simp at this
        omega
      subst hki
      rw [List.getElem?_append_right (by omega)] at hdk hKk
      simp [hd] at hdk
      simp [hL] at hKk
      rw [List.getElem?_eq_getElem hi, hzi] at hzk
      cases hzk
      subst hdk
      subst hKk
      exact gr_Block (x := (b1, b2, b3)) w0 w1 (gb.set _ hlK)
  · rw [List.flatten_append, List.flatten_cons, List.flatten_nil, List.append_nil]
    refine List.nodup_cons.2 ⟨fun hm => ?_, List.nodup_append.2 ⟨hnd.2, ndb, fun a ha b hb2 e => ?_⟩⟩
    · rcases List.mem_append.1 hm with h | h
      · exact hnd.1 h
      · exact hlK h
    · subst e
      obtain ⟨K, hK, ha⟩ := List.mem_flatten.1 ha
      have h1 := hlt K hK a ha
      have h2 := geb a hb2
      simp at h2
      omega
  · intro j hj
    rw [List.flatten_append, List.flatten_cons, List.flatten_nil, List.append_nil] at hj
    rcases List.mem_append.1 hj with h | h
    · exact hge j h
    · have := geb j h
      have := pX.length_le
      simp at *
      omega
theorem c_impl_cloneBlocks (M : Mem) (v : V) (xs : List ty_Block.D) (h : Rep (.sl ty_Block) M [v] xs) (hz : BlkSz xs) : Sat (aCall T0 F_impl_cloneBlocks [v] M) (GrV ty_Block M xs) := by
  obtain ⟨zs, rfl, hv, hz2, h3⟩ := zl_of h
  have hn : zs.length ≤ 1048576 := by have := hz.1; simpa using this
  have hs : ∀ z ∈ zs, List.length (α := UInt8) z.2.2.2 ≤ 1048576 := fun z hm => hz.2 z.2 (List.mem_map_of_mem hm)
  have hC := c_clone_Block M M (List.prefix_refl _) v zs hv hz2 h3 hn
  obtain ⟨av, cv, rfl⟩ := hv
  rw [aCall_eq T_impl_cloneBlocks]; unfold A_impl_cloneBlocks C_impl_cloneBlocks; simp [thenD_pp, sliceCells_sl, sliceCells_z, sliceCells_nil, take_full, appS_sl, appK_ok, appS_none, thenD_ag, agP_nil, agP_cons]
  generalize hx : aCall T0 F_slices_Clone_impl_Block_impl_Block _ _ = xhx
  obtain ⟨v1, X1, rfl, p1, ⟨h0, La, g1, g2, g3⟩ | ⟨h0, l, rfl, hl, hb⟩⟩ := of_call hx hC
  · clear hx
    subst h0
    simp only at p1 g1
    obtain ⟨a, rfl⟩ := g1.shape
    simp only [List.length_nil]
    simp [thenD_pp, sliceCells_sl, sliceCells_z, sliceCells_nil, take_full, appS_sl, appK_ok, appS_none, thenD_ag, agP_nil, agP_cons]
    rw [S_impl_cloneBlocks_0]; unfold B_impl_cloneBlocks_0; simp [thenD_pp, sliceCells_sl, sliceCells_z, sliceCells_nil, take_full, appS_sl, appK_ok, appS_none, thenD_ag, agP_nil, agP_cons]
    exact ⟨(_, X1), rfl, La, p1, g1, g2, g3⟩
  · clear hx
    simp only at p1 hb
    have hlt := get_lt hb
    obtain ⟨_, X', ⟨ds, Ls, pX, hb', hd, hL, hg, nd, hge⟩, e⟩ := l_impl_cloneBlocks_0 M l zs hl hz2 hn hs X1 ⟨[], [], p1, by simpa using hb, rfl, rfl, by simp, by simp, by simp⟩
    simp only [Int.natCast_zero, Int.ofNat_zero] at e
    simp [thenD_pp, sliceCells_sl, sliceCells_z, sliceCells_nil, take_full, appS_sl, appK_ok, appS_none, thenD_ag, agP_nil, agP_cons, e]
    rw [S_impl_cloneBlocks_0]; unfold B_impl_cloneBlocks_0; simp [thenD_pp, sliceCells_sl, sliceCells_z, sliceCells_nil, take_full, appS_sl, appK_ok, appS_none, thenD_ag, agP_nil, agP_cons]
    refine ⟨(_, X'), rfl, l :: Ls.flatten, pX, .inr ⟨l, ds, Ls, by simp, ?_, by simp [hd], by simp [hL], ?_, rfl⟩, nd, ?_⟩
    · show X'[l]? = _
      rw [hb']
      simp [Zl, Ty.w]
    · intro k d x K hdk hxk hKk
      rw [List.getElem?_map] at hxk
      obtain ⟨z, hz, rfl⟩ := Option.map_eq_some_iff.1 hxk
      exact hg k d z K hdk hz hKk
    · intro j hj
      rcases List.mem_cons.1 hj with rfl | hj
      · exact hl
      · exact hge j hj
/-- A list of its own. -/
def OwV (t : Ty) (M : Mem) (xs : List t.D) (p : V × Mem) : Prop := ∃ L, M <+: p.2 ∧ Own (.sl t) p.2 [p.1] xs L ∧ L.Nodup ∧ ∀ l ∈ L, M.length ≤ l ∧ l < p.2.length
theorem d_impl_EvictRest (M : Mem) (v : V) (xs : List ty_Block.D) (h : Rep (.sl ty_Block) M [v] xs) (hb : Bd 1048576 (.sl ty_Block) xs) (l w lf : Int) :
    ∃ M' r L, M <+: M' ∧ aCall T0 F_impl_EvictRest [v, .int .i64 l, .int .i64 w, .int .i64 lf] M = some (r, M') ∧ Own (.sl ty_Block) M' [r] (restX xs l w lf) L ∧ Fresh M M' L := by
  have hz := blkSz_of hb
  have e1 := c_impl_isStash M v xs l w h hz.1
  have e2 := fun M => c_impl_isLeaf M l lf
  have hC := c_impl_cloneBlocks M v xs h hz
  obtain ⟨a, c, rfl⟩ := h.slen
  cases hev : evB l w lf xs with
  | false =>
    rw [restX_f hev]
    unfold evB at hev
    have key : aCall T0 F_impl_EvictRest [.slice a xs.length c, .int .i64 l, .int .i64 w, .int .i64 lf] M = some (.slice none 0 0, M) := by
      cases h1 : stashB l w xs with
      | false =>
        rw [h1] at e1
        rw [aCall_eq T_impl_EvictRest]; unfold A_impl_EvictRest C_impl_EvictRest; simp [thenD_pp, sliceCells_sl, sliceCells_z, sliceCells_nil, take_full, appS_sl, appK_ok, appS_none, thenD_ag, agP_nil, agP_cons, e1]
      | true =>
        rw [h1] at e1 hev
        rw [Bool.true_and] at hev
        rw [hev] at e2
        rw [aCall_eq T_impl_EvictRest]; unfold A_impl_EvictRest C_impl_EvictRest; simp [thenD_pp, sliceCells_sl, sliceCells_z, sliceCells_nil, take_full, appS_sl, appK_ok, appS_none, thenD_ag, agP_nil, agP_cons, e1, e2]
    exact ⟨M, _, [], List.prefix_refl _, key, .inl ⟨rfl, rfl, .inl ⟨rfl, rfl⟩⟩, by simp, by simp⟩
  | true =>
    rw [restX_t hev]
    obtain ⟨m, n, rfl, rfl, hm, hn, hL, hle, hbl⟩ := ev_of hev
    have t1 : ((m : Int).toNat) = m := by omega
    have t2 : ((n : Int).toNat) = n := by omega
    rw [t1, t2]
    unfold evB at hev
    rw [Bool.and_eq_true] at hev
    rw [hev.1] at e1
    rw [hev.2] at e2
    have key : Sat (aCall T0 F_impl_EvictRest [.slice a xs.length c, .int .i64 m, .int .i64 w, .int .i64 n] M) (OwV ty_Block M (levelsE m n xs (m + 1)).2) := by
      rw [aCall_eq T_impl_EvictRest]; unfold A_impl_EvictRest C_impl_EvictRest; simp [thenD_pp, sliceCells_sl, sliceCells_z, sliceCells_nil, take_full, appS_sl, appK_ok, appS_none, thenD_ag, agP_nil, agP_cons, e1, e2]
      generalize hx : aCall T0 F_impl_cloneBlocks _ _ = xhx
      obtain ⟨v1, X1, rfl, L1, p1, g1, n1, k1⟩ := of_call hx hC
      clear hx
      simp only at p1 g1
      have hE := c_evict_rest X1 v1 xs L1 m n g1 n1 hm hn hL hle (blocks_nd hbl)
      obtain ⟨a1, rfl⟩ := g1.shape
      simp [thenD_pp, sliceCells_sl, sliceCells_z, sliceCells_nil, take_full, appS_sl, appK_ok, appS_none, thenD_ag, agP_nil, agP_cons]
      generalize hx : aCall T0 F_impl_evict _ _ = xhx
      obtain ⟨v2, X2, rfl, vp, vr, a2, k2, c2, K, rfl, hvp, rfl, p2, o2, nd2, hK⟩ := of_call hx hE
      clear hx
      simp only at p2 o2
      have hpl := p1.length_le
      obtain ⟨b, rfl | ⟨q, rfl⟩⟩ := hvp
      · simp [thenD_pp, sliceCells_sl, sliceCells_z, sliceCells_nil, take_full, appS_sl, appK_ok, appS_none, thenD_ag, agP_nil, agP_cons]
        exact ⟨_, rfl, K, p1.trans p2, o2, nd2, fun j hj => ⟨by rcases (hK j hj).1 with h | h; exact k1 j h; omega, (hK j hj).2⟩⟩
      · simp [thenD_pp, sliceCells_sl, sliceCells_z, sliceCells_nil, take_full, appS_sl, appK_ok, appS_none, thenD_ag, agP_nil, agP_cons]
        exact ⟨_, rfl, K, p1.trans p2, o2, nd2, fun j hj => ⟨by rcases (hK j hj).1 with h | h; exact k1 j h; omega, (hK j hj).2⟩⟩
    obtain ⟨⟨r, M'⟩, e, L, q1, q2, q3, q4⟩ := key
    exact ⟨M', r, L, q1, e, q2, q3, q4⟩
theorem gc_ex (M M' : Mem) (v : V) : ∃ X, gc M (some (v, M')) = some (v, X) := by
  simp only [gc]
  split
  · exact ⟨_, rfl⟩
  · exact ⟨_, rfl⟩
set_option maxHeartbeats 8000000 in
set_option maxRecDepth 20000 in
theorem c_laws_FnExactEvictRest (M : Mem) (v_list : V) (list : List ty_Block.D) (h_list : Rep (.sl ty_Block) M [v_list] list) (hb_list : Bd 9223372036854775807 (.sl ty_Block) list) (l : Int) (w : Int) (lf : Int) : ∃ M', aCall T0 F_laws_FnExactEvictRest [v_list, .int .i64 l, .int .i64 w, .int .i64 lf] M = some (.bool true, M') := by
  obtain ⟨l_list, s1_list, s2_list, s3_list⟩ := k_laws_szBlockS M v_list list 1048576 (h_list.mono ((List.prefix_refl _).trans (List.prefix_refl _))) hb_list (by omega) (by omega)
  by_cases hl_list : l_list < 0
  · refine ⟨M, ?_⟩
    obtain ⟨_, _, rfl⟩ := h_list.slen
    rw [aCall_eq T_laws_FnExactEvictRest]; unfold A_laws_FnExactEvictRest C_laws_FnExactEvictRest; simp [thenD_pp, sliceCells_sl, sliceCells_z, sliceCells_nil, take_full, appS_sl, appK_ok, appS_none, thenD_ag, agP_nil, agP_cons, s2_list, hl_list]
  have hb1_list := s3_list (by omega)
  have hr_0 : Bd 1048576 (.sl ty_Block) (restX list l w lf) := restX_bd list l w lf hb1_list
  have ht_0 := tot_BlockS _ hr_0
  have ht_list := tot_BlockS _ hb1_list
  obtain ⟨M1, u2, L3, p4, t5, o6, F7⟩ := k_laws_toBlockS M v_list list (h_list.mono ((List.prefix_refl _).trans (List.prefix_refl _))) hb1_list
  have f8 : ∀ l ∈ L3, M.length ≤ l ∧ l < M1.length := by intro l hl; have := F7.2 l hl; (try simp only [List.length_append, List.length_cons, List.length_nil] at this); omega
  have q9 : M <+: M1 := (List.prefix_refl _).trans p4
  have ln10 : M.length ≤ M1.length := by have := p4.length_le; (try simp only [List.length_append, List.length_cons, List.length_nil] at this); omega
  have z11 : M <+: M1 := (List.prefix_refl _).trans q9
  obtain ⟨M13, g16, p14, s15, o17⟩ := d_spec_EvictRest M1 u2 list ((Own.grow (List.prefix_refl _) o6)).rep hb1_list l w lf
  have q18 : M1 <+: M13 := (List.prefix_refl _).trans p14
  have ln19 : M1.length ≤ M13.length := by have := p14.length_le; (try simp only [List.length_append, List.length_cons, List.length_nil] at this); omega
  have o20 := Own.grow q18 o6
  have z21 : M <+: M13 := z11.trans q18
  obtain ⟨M23, u24, L25, p26, t27, o28, F29⟩ := k_laws_toBlockS M13 v_list list (h_list.mono (z21.trans (List.prefix_refl _))) hb1_list
  have f30 : ∀ l ∈ L25, M13.length ≤ l ∧ l < M23.length := by intro l hl; have := F29.2 l hl; (try simp only [List.length_append, List.length_cons, List.length_nil] at this); omega
  have q31 : M13 <+: M23 := (List.prefix_refl _).trans p26
  have ln32 : M13.length ≤ M23.length := by have := p26.length_le; (try simp only [List.length_append, List.length_cons, List.length_nil] at this); omega
  have z33 : M <+: M23 := z21.trans q31
  have y34 : M13 <+: M23 := (List.prefix_refl _).trans q31
  obtain ⟨M36, g39, L40, p37, s38, o41, F42⟩ := d_impl_EvictRest M23 u24 list ((Own.grow (List.prefix_refl _) o28)).rep hb1_list l w lf
  have q43 : M23 <+: M36 := (List.prefix_refl _).trans p37
  have ln44 : M23.length ≤ M36.length := by have := p37.length_le; (try simp only [List.length_append, List.length_cons, List.length_nil] at this); omega
  have o45 := Own.grow q43 o28
  have z46 : M <+: M36 := z33.trans q43
  have y47 : M13 <+: M36 := y34.trans q43
  have f48 : ∀ l ∈ L40, M23.length ≤ l ∧ l < M36.length := by intro l hl; have := F42.2 l (by simp [hl]); (try simp only [List.length_append, List.length_cons, List.length_nil] at this); omega
  have nd49 : L40.Nodup := by have := F42.1; first | exact this | (simp only [List.nodup_append] at this; simp [this])
  have e51 := (ans_of (k_laws_eqBlockS M36 _ _ _ _ ((Own.grow (List.prefix_refl _) o41)).rep (o17.mono (y47.trans (List.prefix_refl _))) (hr_0.mono (by decide)))).1 rfl
  obtain ⟨M52, u53, L54, p55, t56, o57, F58⟩ := k_laws_toBlockS M36 v_list list (h_list.mono (z46.trans (List.prefix_refl _))) hb1_list
  have f59 : ∀ l ∈ L54, M36.length ≤ l ∧ l < M52.length := by intro l hl; have := F58.2 l hl; (try simp only [List.length_append, List.length_cons, List.length_nil] at this); omega
  have q60 : M36 <+: M52 := (List.prefix_refl _).trans p55
  have ln61 : M36.length ≤ M52.length := by have := p55.length_le; (try simp only [List.length_append, List.length_cons, List.length_nil] at this); omega
  have o62 := Own.grow q60 o45
  have o63 := Own.grow q60 o41
  have z64 : M <+: M52 := z46.trans q60
  have y65 : M13 <+: M52 := y47.trans q60
  have e67 := (ans_of (k_laws_eqBlockS M52 _ _ _ _ ((Own.grow (List.prefix_refl _) o62)).rep ((Own.grow (List.prefix_refl _) o57)).rep (hb1_list.mono (by decide)))).1 rfl
  obtain ⟨M68, m69, up70, o71⟩ := k_laws_markBlockS M52 _ _ _ (1) (Own.grow (List.prefix_refl _) o62) F29.1 hb1_list (by omega) (by omega)
  have ln72 : M52.length ≤ M68.length := by have := up70.1; (try simp only [List.length_append, List.length_cons, List.length_nil] at this); omega
  have o73 := Own.updg up70 (Own.grow (List.prefix_refl _) o63) (fun l hl hk => (by have := f48 l hl; have := f30 l hk; omega))
  have z74 : M <+: M68 := UpdG.pre up70 (z64.trans (List.prefix_refl _)) (fun l hl => by have := f30 l hl; omega)
  have y75 : M13 <+: M68 := UpdG.pre up70 (y65.trans (List.prefix_refl _)) (fun l hl => by have := f30 l hl; omega)
  have c76 : ¬ (1 + gt_BlockS list < 0) := by omega
  have e77 := (ans_of (k_laws_eqBlockS M68 _ _ _ _ ((Own.grow (List.prefix_refl _) o73)).rep (o17.mono (y75.trans (List.prefix_refl _))) (hr_0.mono (by decide)))).1 rfl
  obtain ⟨M78, m79, up80, o81⟩ := k_laws_markBlockS M68 _ _ _ (1) (Own.grow (List.prefix_refl _) o73) nd49 hr_0 (by omega) (by omega)
  have ln82 : M68.length ≤ M78.length := by have := up80.1; (try simp only [List.length_append, List.length_cons, List.length_nil] at this); omega
  have o83 := Own.updg up80 (Own.grow (List.prefix_refl _) o71) (fun l hl hk => (by have := f30 l hl; have := f48 l hk; omega))
  have z84 : M <+: M78 := UpdG.pre up80 (z74.trans (List.prefix_refl _)) (fun l hl => by have := f48 l hl; omega)
  have y85 : M13 <+: M78 := UpdG.pre up80 (y75.trans (List.prefix_refl _)) (fun l hl => by have := f48 l hl; omega)
  have c86 : ¬ (1 + gt_BlockS (restX list l w lf) < 0) := by omega
  have d87 := k_laws_heldBlockS M78 _ _ (1) ((Own.grow (List.prefix_refl _) o81)).rep hr_0 (by omega) (by omega)
  have c88 : ¬ (1 + gt_BlockS (restX list l w lf) < 0) := by omega
  obtain ⟨M89, u90, L91, p92, t93, o94, F95⟩ := k_laws_toBlockS M78 v_list list (h_list.mono (z84.trans (List.prefix_refl _))) hb1_list
  have f96 : ∀ l ∈ L91, M78.length ≤ l ∧ l < M89.length := by intro l hl; have := F95.2 l hl; (try simp only [List.length_append, List.length_cons, List.length_nil] at this); omega
  have q97 : M78 <+: M89 := (List.prefix_refl _).trans p92
  have ln98 : M78.length ≤ M89.length := by have := p92.length_le; (try simp only [List.length_append, List.length_cons, List.length_nil] at this); omega
  have o99 := Own.grow q97 o83
  have o100 := Own.grow q97 o81
  have z101 : M <+: M89 := z84.trans q97
  have y102 : M13 <+: M89 := y85.trans q97
  obtain ⟨M104, g107, L108, p105, s106, o109, F110⟩ := d_impl_EvictRest M89 u90 list ((Own.grow (List.prefix_refl _) o94)).rep hb1_list l w lf
  have q111 : M89 <+: M104 := (List.prefix_refl _).trans p105
  have ln112 : M89.length ≤ M104.length := by have := p105.length_le; (try simp only [List.length_append, List.length_cons, List.length_nil] at this); omega
  have o113 := Own.grow q111 o99
  have o114 := Own.grow q111 o100
  have o115 := Own.grow q111 o94
  have z116 : M <+: M104 := z101.trans q111
  have y117 : M13 <+: M104 := y102.trans q111
  have f118 : ∀ l ∈ L108, M89.length ≤ l ∧ l < M104.length := by intro l hl; have := F110.2 l (by simp [hl]); (try simp only [List.length_append, List.length_cons, List.length_nil] at this); omega
  have nd119 : L108.Nodup := by have := F110.1; first | exact this | (simp only [List.nodup_append] at this; simp [this])
  have e121 := (ans_of (k_laws_eqBlockS M104 _ _ _ _ ((Own.grow (List.prefix_refl _) o109)).rep (o17.mono (y117.trans (List.prefix_refl _))) (hr_0.mono (by decide)))).1 rfl
  have d122 := k_laws_heldBlockS M104 _ _ (1) ((Own.grow (List.prefix_refl _) o114)).rep hr_0 (by omega) (by omega)
  have c123 : ¬ (1 + gt_BlockS (restX list l w lf) < 0) := by omega
  obtain ⟨_, _, rfl⟩ := h_list.slen
  rw [aCall_eq T_laws_FnExactEvictRest]; unfold A_laws_FnExactEvictRest C_laws_FnExactEvictRest; simp (maxSteps := 4000000) [thenD_pp, sliceCells_sl, sliceCells_z, sliceCells_nil, take_full, appS_sl, appK_ok, appS_none, thenD_ag, agP_nil, agP_cons, s2_list, hl_list, t5, p4, s15, p14, t27, p26, s38, p37, e51, t56, p55, e67, m69, c76, e77, m79, c86, d87, c88, t93, p92, s106, p105, e121, d122, c123, thenD_pre]
  all_goals exact gc_ex _ _ _
theorem law_laws_FnExactEvictRest (M : Mem) (avs : List V) (_ : ∀ b ∈ M, b.st ≠ 2) (h : Ins [(false, (.sl (.pr (.int .i64) (.pr (.int .i64) (.sl .u8))))), (false, (.int .i64)), (false, (.int .i64)), (false, (.int .i64))] M avs) : ∃ M', aCall T0 F_laws_FnExactEvictRest avs M = some (.bool true, M') := by
  obtain ⟨v_list, _, list, rfl, h_list, f_list, h⟩ := ins_cons h
  obtain ⟨v_l, _, l, rfl, h_l, f_l, h⟩ := ins_cons h
  obtain ⟨v_w, _, w, rfl, h_w, f_w, h⟩ := ins_cons h
  obtain ⟨v_lf, _, lf, rfl, h_lf, f_lf, h⟩ := ins_cons h
  obtain rfl := ins_nil h
  obtain ⟨h_l, _⟩ := repv_one h_l
  cases h_l
  obtain ⟨h_w, _⟩ := repv_one h_w
  cases h_w
  obtain ⟨h_lf, _⟩ := repv_one h_lf
  cases h_lf
  exact c_laws_FnExactEvictRest M v_list list (repv_one h_list) (fit_bd f_list) l w lf
end GoAm
