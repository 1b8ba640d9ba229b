/- What the functions do that the law reaches. -/
import Derived.Test.YtlniheedmeaeeaaDeepOkl0
set_option autoImplicit false
set_option linter.unusedVariables false
set_option linter.unusedSimpArgs false
namespace GoAm
open Go
theorem gr_Block_nd {M : Mem} {ds : List V} {x : ty_Block.D} {K : List Nat} (h : Gr ty_Block M ds x K) : K.Nodup := by
  obtain ⟨c1, c2, L1, L2, _, ⟨_, rfl⟩, ⟨c3, c4, L3, L4, _, ⟨_, rfl⟩, h, rfl⟩, rfl⟩ := h
  rcases h with ⟨_, _, rfl⟩ | ⟨l, css, Ls, _, _, h1, h2, h3, rfl⟩
  · simp
  · have : Ls.flatten = [] := by
      rw [List.flatten_eq_nil_iff]
      intro K hK
      obtain ⟨i, hi, rfl⟩ := List.getElem_of_mem hK
      exact (h3 i (css[i]'(by omega)) (x.2.2[i]'(by omega)) Ls[i] (by simp) (by simp) (by simp)).2
    simp [this]
abbrev tgB (t1 t2 : Int) (ta : Option Addr) (tn tc : Nat) : List V := [.int .i64 t1, .int .i64 t2, .slice ta tn tc]
theorem c_impl_blockPut_1 (M : Mem) (a a2 b b2 : Int) (ua ub : Option Addr) (na ca nb cb : Nat) (ha : 0 ≤ a ∧ a ≤ 255) (hb : 0 ≤ b ∧ b ≤ 255) : aCall T0 F_impl_blockPut_1 [.agg (tgB a a2 ua na ca).toArray, .agg (tgB b b2 ub nb cb).toArray] M = some (.int .i64 (a - b), M) := by
  have e : IntKind.i64.wrap (a - b) = a - b := wrap_i64 (by omega) (by omega)
  rw [aCall_eq T_impl_blockPut_1]; unfold A_impl_blockPut_1 C_impl_blockPut_1; simp [e]
theorem r_bsB (M : Mem) (a : Option Addr) (c : Nat) (xs : List ty_Block.D) (h : Rep (.sl ty_Block) M [.slice a xs.length c] xs) (hn : xs.length ≤ 1048576) (hr : IdsR xs) (pt : Nat) (t1 t2 : Int) (ta : Option Addr) (tn tc : Nat) (hpt : M[pt]? = some ⟨tgB t1 t2 ta tn tc, 1, 2⟩) (ht : 0 ≤ t1 ∧ t1 ≤ 255) (i j : Nat) (hij : i < j) (hj : j ≤ xs.length) (hi : (i + j) / 2 < xs.length) :
    lp (aCall T0) K_slices_BinarySearchFunc_impl_Block_impl_Block_impl_Block_0 L_slices_BinarySearchFunc_impl_Block_impl_Block_impl_Block_0 [.slice a xs.length c, und, .func (.func F_impl_blockPut_1) #[] #[], und, .pointer (some ⟨pt, 0, none⟩), und, und, und, .int .i64 xs.length, .int .i64 i, .int .i64 j, und, und, und, und, und, und, und, und, und, und, und, und, und, und, und, und, und, und, und, und, und, und, und, und, und, und, und, und, und, und, und, und, und, und, und, und, und, und] M =
    lp (aCall T0) K_slices_BinarySearchFunc_impl_Block_impl_Block_impl_Block_0 L_slices_BinarySearchFunc_impl_Block_impl_Block_impl_Block_0 [.slice a xs.length c, und, .func (.func F_impl_blockPut_1) #[] #[], und, .pointer (some ⟨pt, 0, none⟩), und, und, und, .int .i64 xs.length, .int .i64 (if (xs[(i + j) / 2]).1 < t1 then (((i + j) / 2 + 1 : Nat) : Int) else (i : Int)), .int .i64 (if (xs[(i + j) / 2]).1 < t1 then (j : Int) else (((i + j) / 2 : Nat) : Int)), und, und, und, und, und, und, und, und, und, und, und, und, und, und, und, und, und, und, und, und, und, und, und, und, und, und, und, und, und, und, und, und, und, und, und, und, und, und] M := by
  obtain ⟨m, hm⟩ : ∃ m, m = (i + j) / 2 := ⟨_, rfl⟩
  simp only [← hm] at hi ⊢
  obtain ⟨l, o, u, rfl, _, _, _, hrd, _, _, qu, _⟩ := at_Block h hi
  have hx := hr _ (List.getElem_mem hi)
  generalize xs[m] = b at *
  obtain ⟨b1, b2, b3⟩ := b
  simp only at *
  obtain ⟨ua, uc, rfl⟩ := qu.slen
  have s1 := c_impl_blockPut_1 M b1 b2 t1 t2 ua ta (List.length (α := UInt8) b3) uc tn tc hx ht
  simp only [tgB] at s1 hpt
  have g0 : (i : Int) < j := by omega
  have e1 : IntKind.i64.wrap ((i : Int) + j) = (i : Int) + j := wrap_i64 (by omega) (by omega)
  have e2 : IntKind.u64.wrap ((i : Int) + j) = (i : Int) + j := wrap_u64 (by omega) (by omega)
  have e4 : bshr .u64 ((i : Int) + j) 1 = (m : Int) := by
    unfold bshr
    have hm2 : min (1 : Int).toNat IntKind.u64.bits = 1 := rfl
    rw [hm2, hm]
    show ((i : Int) + j).fdiv (2 ^ 1) = _
    rw [Int.fdiv_eq_ediv_of_nonneg _ (by omega)]
    omega
  have e3 : IntKind.i64.wrap ((m : Nat) : Int) = m := wrap_i64 (by omega) (by omega)
  have e6 : IntKind.i64.wrap ((m : Int) + 1) = m + 1 := wrap_i64 (by omega) (by omega)
  have hpr : rdn M pt 0 3 = some [.int .i64 t1, .int .i64 t2, .slice ta tn tc] := rdn_box hpt rfl
  by_cases hq : b1 < t1
  · have hq2 : b1 - t1 < 0 := Int.sub_neg_of_lt hq
    rw [S_slices_BinarySearchFunc_impl_Block_impl_Block_impl_Block_0]; unfold B_slices_BinarySearchFunc_impl_Block_impl_Block_impl_Block_0; simp [g0, hij, e1, e2, e4, e3, hi, hrd, hpr, s1, hq, hq2, e6]
  · have hq2 : ¬ b1 - t1 < 0 := fun hh => hq (Int.lt_of_sub_neg hh)
    rw [S_slices_BinarySearchFunc_impl_Block_impl_Block_impl_Block_0]; unfold B_slices_BinarySearchFunc_impl_Block_impl_Block_impl_Block_0; simp [g0, hij, e1, e2, e4, e3, hi, hrd, hpr, s1, hq, hq2, e6]
theorem l_bsB (M : Mem) (a : Option Addr) (c : Nat) (xs : List ty_Block.D) (h : Rep (.sl ty_Block) M [.slice a xs.length c] xs) (hn : xs.length ≤ 1048576) (hr : IdsR xs) (pt : Nat) (t1 t2 : Int) (ta : Option Addr) (tn tc : Nat) (hpt : M[pt]? = some ⟨tgB t1 t2 ta tn tc, 1, 2⟩) (ht : 0 ≤ t1 ∧ t1 ≤ 255) : ∀ (d i j : Nat), j - i ≤ d → i ≤ j → j ≤ xs.length →
    (∀ (q : 0 < i) (hq : i - 1 < xs.length), (xs[i - 1]).1 < t1) → (∀ (hq : j < xs.length), ¬ (xs[j]).1 < t1) →
    ∃ r : Nat, r ≤ xs.length ∧ (∀ (q : 0 < r) (hq : r - 1 < xs.length), (xs[r - 1]).1 < t1) ∧ (∀ (hq : r < xs.length), ¬ (xs[r]).1 < t1) ∧
    lp (aCall T0) K_slices_BinarySearchFunc_impl_Block_impl_Block_impl_Block_0 L_slices_BinarySearchFunc_impl_Block_impl_Block_impl_Block_0 [.slice a xs.length c, und, .func (.func F_impl_blockPut_1) #[] #[], und, .pointer (some ⟨pt, 0, none⟩), und, und, und, .int .i64 xs.length, .int .i64 i, .int .i64 j, und, und, und, und, und, und, und, und, und, und, und, und, und, und, und, und, und, und, und, und, und, und, und, und, und, und, und, und, und, und, und, und, und, und, und, und, und, und] M =
    lp (aCall T0) K_slices_BinarySearchFunc_impl_Block_impl_Block_impl_Block_0 L_slices_BinarySearchFunc_impl_Block_impl_Block_impl_Block_0 [.slice a xs.length c, und, .func (.func F_impl_blockPut_1) #[] #[], und, .pointer (some ⟨pt, 0, none⟩), und, und, und, .int .i64 xs.length, .int .i64 r, .int .i64 r, und, und, und, und, und, und, und, und, und, und, und, und, und, und, und, und, und, und, und, und, und, und, und, und, und, und, und, und, und, und, und, und, und, und, und, und, und, und] M
  | 0, i, j, hd, hij, hj, h1, h2 => by
    have e : i = j := by omega
    subst e
    exact ⟨i, hj, h1, h2, rfl⟩
  | d + 1, i, j, hd, hij, hj, h1, h2 => by
    by_cases e : i = j
    · subst e
      exact ⟨i, hj, h1, h2, rfl⟩
    have hm : (i + j) / 2 < xs.length := by omega
    have hrr := r_bsB M a c xs h hn hr pt t1 t2 ta tn tc hpt ht i j (by omega) hj hm
    by_cases hq : (xs[(i + j) / 2]).1 < t1
    · rw [if_pos hq, if_pos hq] at hrr
      rw [hrr]
      exact l_bsB M a c xs h hn hr pt t1 t2 ta tn tc hpt ht d ((i + j) / 2 + 1) j (by omega) (by omega) hj (fun _ _ => hq) h2
    · rw [if_neg hq, if_neg hq] at hrr
      rw [hrr]
      exact l_bsB M a c xs h hn hr pt t1 t2 ta tn tc hpt ht d i ((i + j) / 2) (by omega) (by omega) (by omega) h1 (fun _ => hq)
/-- slices.BinarySearchFunc: the place, and is it there. -/
theorem c_bsB (M : Mem) (v : V) (xs : List ty_Block.D) (h : Rep (.sl ty_Block) M [v] xs) (hn : xs.length ≤ 1048576) (hr : IdsR xs) (t1 t2 : Int) (ta : Option Addr) (tn tc : Nat) (ht : 0 ≤ t1 ∧ t1 ≤ 255) :
    ∃ r : Nat, r ≤ xs.length ∧ (∀ (q : 0 < r) (hq : r - 1 < xs.length), (xs[r - 1]).1 < t1) ∧ (∀ (hq : r < xs.length), ¬ (xs[r]).1 < t1) ∧
    aCall T0 F_slices_BinarySearchFunc_impl_Block_impl_Block_impl_Block [v, .agg (tgB t1 t2 ta tn tc).toArray, .func (.func F_impl_blockPut_1) #[] #[]] M = some (.tuple #[.int .i64 r, .bool (decide (∃ hq : r < xs.length, (xs[r]).1 = t1))], M) := by
  obtain ⟨a, c, rfl⟩ := h.slen
  obtain ⟨r, h1, h2, h3, h4⟩ := l_bsB (M ++ [⟨tgB t1 t2 ta tn tc, 1, 2⟩]) a c xs (h.mono (List.prefix_append _ _)) hn hr M.length t1 t2 ta tn tc (by simp) ht xs.length 0 xs.length (by omega) (by omega) (Nat.le_refl _) (fun q => by omega) (fun q => by omega)
  refine ⟨r, h1, h2, h3, ?_⟩
  simp only [Int.natCast_zero, Int.ofNat_zero] at h4
  have hpr : rdn (M ++ [⟨tgB t1 t2 ta tn tc, 1, 2⟩]) M.length 0 3 = some [.int .i64 t1, .int .i64 t2, .slice ta tn tc] := rdn_box (by simp) rfl
  simp only [tgB] at h4 hpr ⊢
  by_cases hr2 : r < xs.length
  · obtain ⟨l, o, u, rfl, _, _, _, hrd, _, _, qu, _⟩ := at_Block (h.mono (List.prefix_append M [⟨[.int .i64 t1, .int .i64 t2, .slice ta tn tc], 1, 2⟩])) hr2
    have hx := hr _ (List.getElem_mem hr2)
    have hd : decide (∃ hq : r < xs.length, (xs[r]).1 = t1) = decide (xs[r].1 - t1 = 0) := by
      rw [decide_eq_decide]
      exact ⟨fun ⟨_, q⟩ => Int.sub_eq_zero.2 q, fun q => ⟨hr2, Int.sub_eq_zero.1 q⟩⟩
    have g : ¬ r < r := by omega
    rw [hd]
    generalize xs[r] = b at *
    obtain ⟨b1, b2, b3⟩ := b
    simp only at *
    obtain ⟨ua, uc, rfl⟩ := qu.slen
    have s1 := c_impl_blockPut_1 (M ++ [⟨[.int .i64 t1, .int .i64 t2, .slice ta tn tc], 1, 2⟩]) b1 b2 t1 t2 ua ta (List.length (α := UInt8) b3) uc tn tc hx ht
    simp only [tgB] at s1
    rw [aCall_eq T_slices_BinarySearchFunc_impl_Block_impl_Block_impl_Block]; unfold A_slices_BinarySearchFunc_impl_Block_impl_Block_impl_Block C_slices_BinarySearchFunc_impl_Block_impl_Block_impl_Block; simp [h4]
    rw [S_slices_BinarySearchFunc_impl_Block_impl_Block_impl_Block_0]; unfold B_slices_BinarySearchFunc_impl_Block_impl_Block_impl_Block_0; simp [hr2, hrd, hpr, s1]
  · have hd : decide (∃ hq : r < xs.length, (xs[r]).1 = t1) = false := by
      rw [decide_eq_false_iff_not]
      exact fun ⟨q, _⟩ => hr2 q
    rw [hd]
    rw [aCall_eq T_slices_BinarySearchFunc_impl_Block_impl_Block_impl_Block]; unfold A_slices_BinarySearchFunc_impl_Block_impl_Block_impl_Block C_slices_BinarySearchFunc_impl_Block_impl_Block_impl_Block; simp [h4]
    rw [S_slices_BinarySearchFunc_impl_Block_impl_Block_impl_Block_0]; unfold B_slices_BinarySearchFunc_impl_Block_impl_Block_impl_Block_0; simp [hr2]
def InsD (M : Mem) (L J : List Nat) (zs : List ty_Block.D) (p : V × Mem) : Prop := ∃ L', Gr (.sl ty_Block) p.2 [p.1] zs L' ∧ L'.Nodup ∧ (∀ j ∈ L', j ∈ L ∨ j ∈ J ∨ M.length ≤ j) ∧ Agree M p.2 L ∧ M.length < p.2.length
theorem agree_sub {M M' : Mem} {w w' : List Nat} (h : Agree M M' w) (hs : ∀ b ∈ w, b ∈ w') : Agree M M' w' := ⟨h.1, fun b hb hn => h.2 b hb (fun hm => hn (hs b hm))⟩
theorem c_insB (M : Mem) (v : V) (xs : List ty_Block.D) (L : List Nat) (i : Nat) (ds : List V) (y : ty_Block.D) (J : List Nat) (l2 : Nat) (h : Gr (.sl ty_Block) M [v] xs L) (hi : i ≤ xs.length) (hy : Gr ty_Block M ds y J) (hb2 : M[l2]? = some ⟨ds, 3, 2⟩) (hl2 : l2 ∉ L) (hj : ∀ j ∈ J, j ∉ L) (hn : L.Nodup) (hnj : J.Nodup) (hs : xs.length ≤ 10000) :
    Sat (aCall T0 F_slices_Insert_impl_Block_impl_Block [v, .int .i64 (i : Int), .slice (some ⟨l2, 0, none⟩) 1 1] M) (InsD M L J (xs.take i ++ y :: xs.drop i)) := by
  have hlen := hy.len
  have hw : ty_Block.w = 3 := rfl
  rw [hw] at hlen
  obtain ⟨a, rfl⟩ := h.shape
  by_cases he : i = xs.length
  · subst he
    have hr2 : sliceCells M 3 (.slice (some ⟨l2, 0, none⟩) 1 1) = some (1, ds) := by
      simp only [sliceCells, rdn, hb2]
      rw [if_neg (by omega), if_pos (by refine ⟨by simp, by omega⟩), List.drop_zero, List.take_of_length_le (by omega)]
      rfl
    have hfin : xs.take xs.length ++ y :: xs.drop xs.length = xs ++ [y] := by simp
    rw [hfin]
    have key : ∀ x, appS M 3 40 (.slice a xs.length xs.length) 1 ds = x → Sat x (InsD M L J (xs ++ [y])) := by
      intro x hx
      obtain ⟨l, X3, L', rfl, g, ag, hl, hw2, nd, hL, _⟩ := h.app2 (t := ty_Block) (bytes := 40) hx (List.prefix_refl _) hy hj hn hnj (by omega) (by omega)
      exact ⟨_, rfl, L', g, nd, fun j hm => (hL j hm).elim .inl (fun h => h.elim (fun h => .inr (.inl h)) (fun h => .inr (.inr (by omega)))), agree_sub ag hw2, hl⟩
    have hle : (xs.length : Int) ≤ (xs.length : Int) := Int.le_refl _
    have hk : (a = none ∧ xs.length = 0) ∨ ∃ l k, a = some ⟨l, 0, none⟩ ∧ M[l]? = some k ∧ k.w = 3 := by
      rcases h with ⟨e, rfl, _⟩ | ⟨l, css, Ls, e, hb, _⟩
      · cases e; exact .inl ⟨rfl, rfl⟩
      · cases e; exact .inr ⟨l, _, rfl, hb, rfl⟩
    rcases hk with ⟨rfl, h0⟩ | ⟨l, k, rfl, hk, hkw⟩
    · rw [aCall_eq T_slices_Insert_impl_Block_impl_Block]; unfold A_slices_Insert_impl_Block_impl_Block C_slices_Insert_impl_Block_impl_Block; simp [thenD_pp, sliceCells_sl, sliceCells_z, sliceCells_nil, take_full, appS_sl, appK_ok, appS_none, thenD_ag, agP_nil, agP_cons, hr2]
      generalize hy2 : appS _ _ _ _ _ _ = xhy2
      obtain ⟨⟨v3, X3⟩, rfl, L', g, nd, hL, ag, hlen3⟩ := key _ hy2
      clear hy2
      try simp only at g ag hlen3
      obtain ⟨a3, rfl⟩ := g.shape
      have hq : (xs ++ [y]).length = xs.length + 1 := by simp
      rw [hq] at g ⊢
      simp [thenD_pp, sliceCells_sl, sliceCells_z, sliceCells_nil, take_full, appS_sl, appK_ok, appS_none, thenD_ag, agP_nil, agP_cons]
      exact ⟨_, rfl, L', g, nd, hL, ag, hlen3⟩
    · obtain ⟨⟨v3, X3⟩, hap, L', g, nd, hL, ag, hlen3⟩ := key _ rfl
      simp only at g ag hlen3
      rw [appS_sl _ _ _ _ _ _ _ _ _ (by omega), hk] at hap
      obtain ⟨a3, rfl⟩ := g.shape
      have hq : (xs ++ [y]).length = xs.length + 1 := by simp
      rw [hq] at g hap
      rw [aCall_eq T_slices_Insert_impl_Block_impl_Block]; unfold A_slices_Insert_impl_Block_impl_Block C_slices_Insert_impl_Block_impl_Block; simp [thenD_pp, sliceCells_sl, sliceCells_z, sliceCells_nil, take_full, appS_sl, appK_ok, appS_none, thenD_ag, agP_nil, agP_cons, hk, hkw, hr2, hap]
      exact ⟨_, rfl, L', g, nd, hL, ag, hlen3⟩
  · have hlt : i < xs.length := by omega
    obtain ⟨X', L', e, g, ag, hxl, hwl, nd, hL⟩ := h.ins (bytes := 40) hlt hy hb2 hl2 (by show 1 < 3; omega) hj hn hnj (by omega) (by omega)
    have hne : ¬ (i : Int) = (xs.length : Int) := by omega
    have hle : (i : Int) ≤ (xs.length : Int) := by omega
    have hkb : ∃ l k, a = some ⟨l, 0, none⟩ ∧ M[l]? = some k ∧ k.w = 3 := by
      rcases h with ⟨_, rfl, _⟩ | ⟨l, css, Ls, e, hb, _⟩
      · simp at hlt
      · cases e
        exact ⟨l, _, rfl, hb, rfl⟩
    obtain ⟨l, k, rfl, hk, hkw⟩ := hkb
    rw [hw] at e
    rw [aCall_eq T_slices_Insert_impl_Block_impl_Block]; unfold A_slices_Insert_impl_Block_impl_Block C_slices_Insert_impl_Block_impl_Block; simp [thenD_pp, sliceCells_sl, sliceCells_z, sliceCells_nil, take_full, appS_sl, appK_ok, appS_none, thenD_ag, agP_nil, agP_cons, hk, hkw, hne, hle, hlt, he, e]
    exact ⟨(_, X'), rfl, L', g, nd, fun j hm => (hL j hm).elim .inl (fun h => h.elim (fun h => .inr (.inl h)) (fun h => .inr (.inr (by omega)))), agree_sub ag hwl, by show M.length < X'.length; omega⟩
theorem sorted_below {xs : List ty_Block.D} {id : Int} {r : Nat} (hs : IdLt xs) (hr : r ≤ xs.length) (h1 : ∀ (q : 0 < r) (hq : r - 1 < xs.length), (xs[r - 1]).1 < id) : ∀ k (hk : k < xs.length), k < r → xs[k].1 < id := by
  intro k hk hkr
  have h := h1 (by omega) (by omega)
  by_cases e : k = r - 1
  · subst e; exact h
  · exact Int.lt_trans (List.pairwise_iff_getElem.1 hs k (r - 1) hk (by omega) (by omega)) h
theorem withoutL_app (id : Int) (xs ys : List ty_Block.D) : withoutL id (xs ++ ys) = withoutL id xs ++ withoutL id ys := List.filter_append ..
theorem lbB_eq {id : Int} : ∀ {xs : List ty_Block.D} {r : Nat}, r ≤ xs.length → (∀ k (hk : k < xs.length), k < r → xs[k].1 < id) → (∀ hr : r < xs.length, ¬ xs[r].1 < id) → lbB id xs = r
  | [], r, h, _, _ => by simp at h; simp [lbB, h]
  | b :: xs, 0, _, _, h2 => by
    have h := h2 (by simp)
    simp only [List.getElem_cons_zero] at h
    simp [lbB, List.takeWhile_cons, decide_eq_false h]
  | b :: xs, r + 1, hl, h1, h2 => by
    have h := h1 0 (by simp) (by omega)
    simp only [List.getElem_cons_zero] at h
    have ih := lbB_eq (id := id) (xs := xs) (r := r) (by simpa using hl) (fun k hk hkr => h1 (k + 1) (by simpa using hk) (by omega)) (fun hr => h2 (by simpa using hr))
    unfold lbB at ih ⊢
    simp only [List.takeWhile_cons, decide_eq_true h, if_true, List.length_cons, ih]
theorem put_found {b : ty_Block.D} {xs : List ty_Block.D} {r : Nat} (hs : IdLt xs) (hr : r < xs.length) (he : xs[r].1 = b.1) : putL b xs = xs.set r b ∧ (withoutL b.1 xs).length + 1 = xs.length := by
  have e : xs = xs.take r ++ xs[r] :: xs.drop (r + 1) := by rw [← List.drop_eq_getElem_cons hr, List.take_append_drop]
  have hlo : ∀ c ∈ xs.take r, c.1 < b.1 := by
    intro c hc
    obtain ⟨k, hk, rfl⟩ := List.getElem_of_mem hc
    rw [List.length_take] at hk
    rw [List.getElem_take, ← he]
    exact sorted_above hs (r := k) (by omega) r hr (by omega)
  have hhi : ∀ c ∈ xs.drop (r + 1), b.1 < c.1 := by
    intro c hc
    obtain ⟨k, hk, rfl⟩ := List.getElem_of_mem hc
    rw [List.length_drop] at hk
    rw [List.getElem_drop, ← he]
    exact sorted_above hs hr _ (by omega) (by omega)
  have hw : withoutL b.1 xs = xs.take r ++ xs.drop (r + 1) := by
    have h1 : withoutL b.1 [xs[r]] = [] := by simp [withoutL, he]
    have h2 : xs.take r ++ xs[r] :: xs.drop (r + 1) = xs.take r ++ ([xs[r]] ++ xs.drop (r + 1)) := by simp
    conv => lhs; rw [e, h2]
    rw [withoutL_app, withoutL_app, h1, List.nil_append, without_same (fun c hc => Int.ne_of_lt (hlo c hc)), without_same (fun c hc => (Int.ne_of_lt (hhi c hc)).symm)]
  have hlt : (xs.take r).length = r := by rw [List.length_take]; omega
  have hlb : lbB b.1 (xs.take r ++ xs.drop (r + 1)) = r := by
    refine lbB_eq (by rw [List.length_append]; omega) (fun k hk hkr => ?_) (fun hrr => ?_)
    · rw [List.getElem_append_left (by omega)]
      exact hlo _ (List.getElem_mem _)
    · rw [List.getElem_append_right (by omega)]
      exact fun h => Int.lt_irrefl _ (Int.lt_trans h (hhi _ (List.getElem_mem _)))
  unfold putL insL
  rw [hw, hlb]
  refine ⟨?_, ?_⟩
  · rw [List.take_left' hlt, List.drop_left' hlt, List.set_eq_take_append_cons_drop, if_pos hr]
  · rw [List.length_append, List.length_take, List.length_drop]
    omega
theorem put_new {b : ty_Block.D} {xs : List ty_Block.D} {r : Nat} (hs : IdLt xs) (hr : r ≤ xs.length) (h1 : ∀ k (hk : k < xs.length), k < r → xs[k].1 < b.1) (h2 : ∀ hq : r < xs.length, ¬ xs[r].1 < b.1) (hn : ¬ ∃ hq : r < xs.length, xs[r].1 = b.1) : putL b xs = xs.take r ++ b :: xs.drop r ∧ withoutL b.1 xs = xs := by
  have hw : withoutL b.1 xs = xs := by
    refine without_same fun c hc => ?_
    obtain ⟨k, hk, rfl⟩ := List.getElem_of_mem hc
    by_cases hkr : k < r
    · exact Int.ne_of_lt (h1 k hk hkr)
    · by_cases e : k = r
      · subst e
        exact fun e => hn ⟨hk, e⟩
      · have h3 := sorted_above hs (r := r) (by omega) k hk (by omega)
        have h4 := h2 (by omega)
        exact fun e => h4 (by rw [← e]; exact h3)
  unfold putL insL
  rw [hw, lbB_eq hr h1 h2]
  exact ⟨rfl, rfl⟩
def BpD (M : Mem) (L J : List Nat) (zs : List ty_Block.D) (p : V × Mem) : Prop := ∃ L', Gr (.sl ty_Block) p.2 [p.1] zs L' ∧ L'.Nodup ∧ (∀ j ∈ L', j ∈ L ∨ j ∈ J ∨ M.length ≤ j) ∧ Agree M p.2 L ∧ M.length ≤ p.2.length
theorem c_impl_blockPut (M : Mem) (v : V) (xs : List ty_Block.D) (L : List Nat) (ds : List V) (y : ty_Block.D) (J : List Nat) (h : Gr (.sl ty_Block) M [v] xs L) (hy : Gr ty_Block M ds y J) (hj : ∀ j ∈ J, j ∉ L) (hn : L.Nodup) (hnj : J.Nodup) (hs : xs.length ≤ 10000) (hlt : IdLt xs) (hr : IdsR xs) (hyr : 0 ≤ y.1 ∧ y.1 ≤ 255) :
    Sat (aCall T0 F_impl_blockPut [v, .agg ds.toArray] M) (BpD M L J (putL y xs)) := by
  obtain ⟨u, rfl, w0, w1, qu⟩ := rep_g_Block hy.rep
  obtain ⟨ua, uc, rfl⟩ := qu.slen
  obtain ⟨r, r1, r2, r3, r4⟩ := c_bsB (M ++ [⟨[.int .i64 y.1, .int .i64 y.2.1, .slice ua (List.length (α := UInt8) y.2.2) uc], 1, 2⟩]) v xs (h.rep.mono (List.prefix_append _ _)) (by omega) hr y.1 y.2.1 ua (List.length (α := UInt8) y.2.2) uc hyr
  have hb := sorted_below hlt r1 r2
  have hpr : rdn (M ++ [⟨[.int .i64 y.1, .int .i64 y.2.1, .slice ua (List.length (α := UInt8) y.2.2) uc], 1, 2⟩]) M.length 0 3 = some [.int .i64 y.1, .int .i64 y.2.1, .slice ua (List.length (α := UInt8) y.2.2) uc] := rdn_box (by simp) rfl
  obtain ⟨a, rfl⟩ := h.shape
  simp only [tgB] at r4
  by_cases hf : ∃ hq : r < xs.length, (xs[r]).1 = y.1
  · rw [decide_eq_true hf] at r4
    obtain ⟨hq, he⟩ := hf
    rw [(put_found hlt hq he).1]
    obtain ⟨l, cs, L', e, hbl, hle, hlL, g, nd, hL⟩ := (h.grow (List.prefix_append M [(⟨[.int .i64 y.1, .int .i64 y.2.1, .slice ua (List.length (α := UInt8) y.2.2) uc], 1, 2⟩ : Blk)])).put hq (hy.grow (List.prefix_append _ _)) hj hn hnj
    cases e
    have hw : ty_Block.w = 3 := rfl
    rw [hw] at hbl hle g
    have hwr := wrn_eq (o := r * 3) hbl rfl hle hy.one
    have hlX := h.lt l hlL
    generalize splice cs (r * 3) [.int .i64 y.1, .int .i64 y.2.1, .slice ua (List.length (α := UInt8) y.2.2) uc] = cs2 at g hwr
    rw [aCall_eq T_impl_blockPut]; unfold A_impl_blockPut C_impl_blockPut; simp [thenD_pp, sliceCells_sl, sliceCells_z, sliceCells_nil, take_full, appS_sl, appK_ok, appS_none, thenD_ag, agP_nil, agP_cons, r4, hpr, hq, hwr]
    refine ⟨(_, _), rfl, L', g, nd, fun j hm => (hL j hm).elim .inl (fun h => .inr (.inl h)), ⟨by simp, fun b hb1 hb2 => ?_⟩, by simp⟩
    show (List.set _ l _)[b]? = _
    rw [List.getElem?_set_ne (fun e => hb2 (by rw [← e]; exact hlL)), List.getElem?_append_left hb1]
  · rw [decide_eq_false hf] at r4
    rw [(put_new hlt r1 hb r3 hf).1]
    have hI := c_insB (M ++ [⟨[.int .i64 y.1, .int .i64 y.2.1, .slice ua (List.length (α := UInt8) y.2.2) uc], 1, 2⟩, ⟨[.int .i64 y.1, .int .i64 y.2.1, .slice ua (List.length (α := UInt8) y.2.2) uc], 3, 2⟩]) (.slice a xs.length xs.length) xs L r [.int .i64 y.1, .int .i64 y.2.1, .slice ua (List.length (α := UInt8) y.2.2) uc] y J (M.length + 1)
      (h.grow (List.prefix_append _ _)) r1 (hy.grow (List.prefix_append _ _)) (by simp) (fun hm => by have := h.lt _ hm; omega) hj hn hnj hs
    rw [aCall_eq T_impl_blockPut]; unfold A_impl_blockPut C_impl_blockPut; simp [thenD_pp, sliceCells_sl, sliceCells_z, sliceCells_nil, take_full, appS_sl, appK_ok, appS_none, thenD_ag, agP_nil, agP_cons, r4, hpr, zeroCells]
    generalize hx : aCall T0 F_slices_Insert_impl_Block_impl_Block _ _ = xhx
    obtain ⟨v5, X5, rfl, L', g, nd, hL, ag, hl5⟩ := of_call hx hI
    clear hx
    try simp only at g ag hl5
    generalize xs.take r ++ y :: xs.drop r = zz at g ⊢
    obtain ⟨a5, rfl⟩ := g.shape
    simp [thenD_pp, sliceCells_sl, sliceCells_z, sliceCells_nil, take_full, appS_sl, appK_ok, appS_none, thenD_ag, agP_nil, agP_cons]
    try simp at hl5
    refine ⟨(_, X5), rfl, L', g, nd, fun j hm => (hL j hm).elim .inl (fun h => h.elim (fun h => .inr (.inl h)) (fun h => .inr (.inr (by simp at h; omega)))), ⟨by show M.length ≤ X5.length; omega, fun b hb1 hb2 => ?_⟩, by show M.length ≤ X5.length; omega⟩
    have := ag.2 b (by simp; omega) hb2
    rw [this, List.getElem?_append_left hb1]
theorem blen_le {x k : Nat} : blen x ≤ k ↔ x < 2 ^ k := by
  unfold blen
  by_cases h : x = 0
  · subst h
    simp [Nat.two_pow_pos]
  · rw [if_neg h, ← Nat.log2_lt h]
    omega
theorem blen7 {x : Nat} (h : x < 128) : blen x ≤ 7 := blen_le.2 (by simpa using h)
def len8 : List UInt8 := [0, 1, 2, 2, 3, 3, 3, 3, 4, 4, 4, 4, 4, 4, 4, 4, 5, 5, 5, 5, 5, 5, 5, 5, 5, 5, 5, 5, 5, 5, 5, 5, 6, 6, 6, 6, 6, 6, 6, 6, 6, 6, 6, 6, 6, 6, 6, 6, 6, 6, 6, 6, 6, 6, 6, 6, 6, 6, 6, 6, 6, 6, 6, 6, 7, 7, 7, 7, 7, 7, 7, 7, 7, 7, 7, 7, 7, 7, 7, 7, 7, 7, 7, 7, 7, 7, 7, 7, 7, 7, 7, 7, 7, 7, 7, 7, 7, 7, 7, 7, 7, 7, 7, 7, 7, 7, 7, 7, 7, 7, 7, 7, 7, 7, 7, 7, 7, 7, 7, 7, 7, 7, 7, 7, 7, 7, 7, 7, 8, 8, 8, 8, 8, 8, 8, 8, 8, 8, 8, 8, 8, 8, 8, 8, 8, 8, 8, 8, 8, 8, 8, 8, 8, 8, 8, 8, 8, 8, 8, 8, 8, 8, 8, 8, 8, 8, 8, 8, 8, 8, 8, 8, 8, 8, 8, 8, 8, 8, 8, 8, 8, 8, 8, 8, 8, 8, 8, 8, 8, 8, 8, 8, 8, 8, 8, 8, 8, 8, 8, 8, 8, 8, 8, 8, 8, 8, 8, 8, 8, 8, 8, 8, 8, 8, 8, 8, 8, 8, 8, 8, 8, 8, 8, 8, 8, 8, 8, 8, 8, 8, 8, 8, 8, 8, 8, 8, 8, 8, 8, 8, 8, 8, 8, 8, 8, 8, 8, 8, 8, 8, 8, 8, 8, 8, 8, 8]
set_option maxRecDepth 100000 in
theorem len8_all : ∀ x : Fin 128, len8[x.1]? = some (UInt8.ofNat (blen x.1)) := by decide +kernel
theorem len8_at {x : Nat} (hx : x < 128) : len8[x]? = some (UInt8.ofNat (blen x)) := len8_all ⟨x, hx⟩
set_option maxRecDepth 100000 in
set_option maxHeartbeats 4000000 in
theorem c_math_bits_Len64 (M : Mem) (x : Nat) (hx : x < 128) : aCall T0 F_math_bits_Len64 [.int .u64 x] M = some (.int .i64 (blen x), M) := by
  have h1 : ¬ (4294967296 : Int) ≤ x := by omega
  have h2 : ¬ (65536 : Int) ≤ x := by omega
  have h3 : ¬ (256 : Int) ≤ x := by omega
  have hb := blen7 hx
  have w1 : IntKind.u8.wrap (x : Int) = x := wrap_u8 (by omega) (by omega)
  have w2 : IntKind.i64.wrap ((blen x : Nat) : Int) = blen x := wrap_i64 (by omega) (by omega)
  have h0 : (0 : Int) ≤ x := by omega
  have w3 : (UInt8.ofNat (blen x)).toNat = blen x := by simp; omega
  have ht := len8_at hx
  unfold len8 at ht
  rw [aCall_eq T_math_bits_Len64]; unfold A_math_bits_Len64 C_math_bits_Len64; simp [thenD_pp, sliceCells_sl, sliceCells_z, sliceCells_nil, take_full, appS_sl, appK_ok, appS_none, thenD_ag, agP_nil, agP_cons, h1, h2, h3, w1, h0]
  simp only [ht]
  simp [thenD_pp, sliceCells_sl, sliceCells_z, sliceCells_nil, take_full, appS_sl, appK_ok, appS_none, thenD_ag, agP_nil, agP_cons, w2, w3, byteV]
theorem c_math_bits_Len (M : Mem) (x : Nat) (hx : x < 128) : aCall T0 F_math_bits_Len [.int .u64 x] M = some (.int .i64 (blen x), M) := by
  have e := fun M => c_math_bits_Len64 M x hx
  rw [aCall_eq T_math_bits_Len]; unfold A_math_bits_Len C_math_bits_Len; simp [thenD_pp, sliceCells_sl, sliceCells_z, sliceCells_nil, take_full, appS_sl, appK_ok, appS_none, thenD_ag, agP_nil, agP_cons, e]
theorem blen_pos {x : Nat} (h : 0 < x) : 1 ≤ blen x := by
  unfold blen
  rw [if_neg (by omega)]
  omega
theorem shr_i64 {x k : Nat} (hx : x < 9223372036854775807) (hk : k ≤ 63) : bshr .i64 (x : Int) (k : Int) = ((x / 2 ^ k : Nat) : Int) := by
  unfold bshr
  have h1 : min ((k : Int).toNat) IntKind.i64.bits = k := by
    have : ((k : Int).toNat) = k := by omega
    rw [this]
    show min k 64 = k
    omega
  rw [h1, Int.fdiv_eq_ediv_of_nonneg _ (by exact_mod_cast Nat.zero_le _)]
  have e : ((2 : Int) ^ k) = ((2 ^ k : Nat) : Int) := by simp
  rw [e]
  rfl
theorem c_impl_nodeAt (M : Mem) (m leaf lv : Nat) (hm : m ≤ 6) (hl : leaf < 2 ^ m) (hv : lv ≤ m) : aCall T0 F_impl_nodeAt [.int .i64 m, .int .i64 leaf, .int .i64 lv] M = some (.int .i64 (((2 ^ m + leaf) / 2 ^ (m - lv) : Nat) : Int), M) := by
  have hp : 2 ^ m ≤ 2 ^ 6 := Nat.pow_le_pow_right (by omega) hm
  have e1 : bshl .i64 1 m = ((2 ^ m : Nat) : Int) := by
    unfold bshl
    have h1 : min ((m : Int).toNat) IntKind.i64.bits = m := by
      have : ((m : Int).toNat) = m := by omega
      rw [this]
      show min m 64 = m
      omega
    rw [h1]
    have e : (1 : Int) * 2 ^ m = ((2 ^ m : Nat) : Int) := by simp
    rw [e]
    exact wrap_i64 (by omega) (by omega)
  have e2 : IntKind.i64.wrap (((2 ^ m : Nat) : Int) + (leaf : Int)) = ((2 ^ m + leaf : Nat) : Int) := by rw [wrap_i64 (by omega) (by omega)]; omega
  have e3 : IntKind.i64.wrap ((m : Int) - (lv : Int)) = ((m - lv : Nat) : Int) := by rw [wrap_i64 (by omega) (by omega)]; omega
  have e4 := shr_i64 (x := 2 ^ m + leaf) (k := m - lv) (by omega) (by omega)
  have h0 : ¬ ((m - lv : Nat) : Int) < 0 := by omega
  have h00 : ¬ (m : Int) < 0 := by omega
  generalize 2 ^ m + leaf = N at *
  generalize (2 : Nat) ^ m = q at *
  generalize m - lv = k at *
  generalize N / 2 ^ k = r at *
  rw [aCall_eq T_impl_nodeAt]; unfold A_impl_nodeAt C_impl_nodeAt; simp [thenD_pp, sliceCells_sl, sliceCells_z, sliceCells_nil, take_full, appS_sl, appK_ok, appS_none, thenD_ag, agP_nil, agP_cons, e1, e2, e3, e4, h0, h00]
theorem c_impl_onPath (M : Mem) (m node leaf : Nat) (hm : m ≤ 6) (hl : leaf < 2 ^ m) (h1 : 1 ≤ node) (h2 : node < 2 * 2 ^ m) : aCall T0 F_impl_onPath [.int .i64 m, .int .i64 node, .int .i64 leaf] M = some (.bool (onP m node leaf), M) := by
  have hp : 2 ^ m ≤ 2 ^ 6 := Nat.pow_le_pow_right (by omega) hm
  have hb : blen node ≤ m + 1 := blen_le.2 (by rw [Nat.pow_succ]; omega)
  have hb1 := blen_pos (x := node) (by omega)
  have e1 : IntKind.u64.wrap (node : Int) = node := wrap_u64 (by omega) (by omega)
  have e2 := fun M => c_math_bits_Len M node (by omega)
  have e3 : IntKind.i64.wrap (((blen node : Nat) : Int) - 1) = ((blen node - 1 : Nat) : Int) := by rw [wrap_i64 (by omega) (by omega)]; omega
  have e4 := fun M => c_impl_nodeAt M m leaf (blen node - 1) hm hl (by omega)
  unfold onP
  generalize (2 ^ m + leaf) / 2 ^ (m - (blen node - 1)) = q at *
  by_cases hq : q = node
  · have hq' : (q : Int) = (node : Int) := by omega
    rw [decide_eq_true hq]
    rw [aCall_eq T_impl_onPath]; unfold A_impl_onPath C_impl_onPath; simp [thenD_pp, sliceCells_sl, sliceCells_z, sliceCells_nil, take_full, appS_sl, appK_ok, appS_none, thenD_ag, agP_nil, agP_cons, e1, e2, e3, e4, hq, hq']
  · have hq' : ¬ (q : Int) = (node : Int) := by omega
    rw [decide_eq_false hq]
    rw [aCall_eq T_impl_onPath]; unfold A_impl_onPath C_impl_onPath; simp [thenD_pp, sliceCells_sl, sliceCells_z, sliceCells_nil, take_full, appS_sl, appK_ok, appS_none, thenD_ag, agP_nil, agP_cons, e1, e2, e3, e4, hq, hq']
theorem first_of {p : Nat → Bool} : ∀ {n : Nat}, (∃ i, i < n ∧ p i = true) → ∃ i, i < n ∧ p i = true ∧ ∀ j, j < i → p j = false
  | 0, ⟨i, hi, _⟩ => by omega
  | n + 1, ⟨i, hi, hp⟩ => by
    by_cases h : ∃ j, j < n ∧ p j = true
    · obtain ⟨j, h1, h2, h3⟩ := first_of h
      exact ⟨j, by omega, h2, h3⟩
    · have e : i = n := by
        apply Classical.byContradiction
        intro hne
        exact h ⟨i, by omega, hp⟩
      subst e
      refine ⟨i, by omega, hp, fun j hj => ?_⟩
      cases hh : p j with
      | false => rfl
      | true => exact absurd ⟨j, hj, hh⟩ h
theorem c_impl_blockIndex_1 (M : Mem) (p : Nat) (id b1 b2 : Int) (ua : Option Addr) (n c : Nat) (hp : rd1 M p 0 = some (.int .i64 id)) : aCall T0 F_impl_blockIndex_1 [.agg (tgB b1 b2 ua n c).toArray, .pointer (some ⟨p, 0, none⟩)] M = some (.bool (decide (b1 = id)), M) := by
  have hp' := fun N : Mem => r1_pre (List.prefix_append M N) hp
  by_cases h : b1 = id
  · rw [decide_eq_true h]
    rw [aCall_eq T_impl_blockIndex_1]; unfold A_impl_blockIndex_1 C_impl_blockIndex_1; simp [hp', h]
  · rw [decide_eq_false h]
    rw [aCall_eq T_impl_blockIndex_1]; unfold A_impl_blockIndex_1 C_impl_blockIndex_1; simp [hp', h]
theorem l_idxB (M : Mem) (p : Nat) (id : Int) (a : Option Addr) (c : Nat) (xs : List ty_Block.D) (h : Rep (.sl ty_Block) M [.slice a xs.length c] xs) (hp : rd1 M p 0 = some (.int .i64 id)) (hn : xs.length ≤ 1048576) (r : Nat) (hr : r ≤ xs.length) (hlt : ∀ k (hk : k < xs.length), k < r → xs[k].1 ≠ id) :
    lp (aCall T0) K_slices_IndexFunc_impl_Block_impl_Block_0 L_slices_IndexFunc_impl_Block_impl_Block_0 [.slice a xs.length c, .func (.func F_impl_blockIndex_1) #[] #[.pointer (some ⟨p, 0, none⟩)], und, und, und, und, und, .int .i64 xs.length, .int .i64 (0 : Nat), und, und, und, und, und, und, und, und, und, und] M = lp (aCall T0) K_slices_IndexFunc_impl_Block_impl_Block_0 L_slices_IndexFunc_impl_Block_impl_Block_0 [.slice a xs.length c, .func (.func F_impl_blockIndex_1) #[] #[.pointer (some ⟨p, 0, none⟩)], und, und, und, und, und, .int .i64 xs.length, .int .i64 r, und, und, und, und, und, und, und, und, und, und] M := by
  have key := loop_to (call := aCall T0) (K := K_slices_IndexFunc_impl_Block_impl_Block_0) (L := L_slices_IndexFunc_impl_Block_impl_Block_0) (fun i (_ : Nat) Y => Y = M) (fun i (_ : Nat) => [.slice a xs.length c, .func (.func F_impl_blockIndex_1) #[] #[.pointer (some ⟨p, 0, none⟩)], und, und, und, und, und, .int .i64 xs.length, .int .i64 i, und, und, und, und, und, und, und, und, und, und]) (n := r) ?_ 0 0 M (by omega) rfl
  · obtain ⟨_, X', rfl, e⟩ := key
    exact e
  intro i _ Y hi hY
  subst hY
  have hix : i < xs.length := by omega
  obtain ⟨l, o, u, rfl, _, _, _, hrd, _, _, qu, _⟩ := at_Block h hix
  have hb := hlt i hix hi
  generalize xs[i] = b at *
  obtain ⟨b1, b2, b3⟩ := b
  simp only at *
  obtain ⟨ua, uc, rfl⟩ := qu.slen
  have s1 := c_impl_blockIndex_1 Y p id b1 b2 ua (List.length (α := UInt8) b3) uc hp
  simp only [tgB] at s1
  rw [decide_eq_false hb] at s1
  have e6 : IntKind.i64.wrap ((i : Int) + 1) = i + 1 := wrap_i64 (by omega) (by omega)
  refine ⟨0, Y, rfl, ?_⟩
  rw [S_slices_IndexFunc_impl_Block_impl_Block_0]; unfold B_slices_IndexFunc_impl_Block_impl_Block_0; simp [thenD_pp, sliceCells_sl, sliceCells_z, sliceCells_nil, take_full, appS_sl, appK_ok, appS_none, thenD_ag, agP_nil, agP_cons, hix, hrd, s1, e6]
theorem c_impl_blockIndex (M : Mem) (v : V) (xs : List ty_Block.D) (id : Int) (h : Rep (.sl ty_Block) M [v] xs) (hn : xs.length ≤ 1048576) : ∃ r : Int, aCall T0 F_impl_blockIndex [v, .int .i64 id] M = some (.int .i64 r, M) ∧ decide (0 ≤ r) = hasId id xs ∧ (0 ≤ r ∨ r = -1) := by
  obtain ⟨a, c, rfl⟩ := h.slen
  have hm := h.mono (List.prefix_append M [(⟨[.int .i64 id], 1, 2⟩ : Blk)])
  have hp : rd1 (M ++ [(⟨[.int .i64 id], 1, 2⟩ : Blk)]) M.length 0 = some (.int .i64 id) := by simp [rd1]
  cases hh : hasId id xs with
  | false =>
    have hlt : ∀ k (hk : k < xs.length), k < xs.length → xs[k].1 ≠ id := fun k hk _ e => by
      have : hasId id xs = true := List.any_eq_true.2 ⟨xs[k], List.getElem_mem hk, decide_eq_true e⟩
      rw [hh] at this
      cases this
    have e := l_idxB _ M.length id a c xs hm hp hn xs.length (Nat.le_refl _) hlt
    simp only [Int.natCast_zero, Int.ofNat_zero] at e
    have e2 : aCall T0 F_slices_IndexFunc_impl_Block_impl_Block [.slice a xs.length c, .func (.func F_impl_blockIndex_1) #[] #[.pointer (some ⟨M.length, 0, none⟩)]] (M ++ [(⟨[.int .i64 id], 1, 2⟩ : Blk)]) = some (.int .i64 (-1), M ++ [(⟨[.int .i64 id], 1, 2⟩ : Blk)]) := by
      rw [aCall_eq T_slices_IndexFunc_impl_Block_impl_Block]; unfold A_slices_IndexFunc_impl_Block_impl_Block C_slices_IndexFunc_impl_Block_impl_Block; simp [thenD_pp, sliceCells_sl, sliceCells_z, sliceCells_nil, take_full, appS_sl, appK_ok, appS_none, thenD_ag, agP_nil, agP_cons, e]
      rw [S_slices_IndexFunc_impl_Block_impl_Block_0]; unfold B_slices_IndexFunc_impl_Block_impl_Block_0; simp [thenD_pp, sliceCells_sl, sliceCells_z, sliceCells_nil, take_full, appS_sl, appK_ok, appS_none, thenD_ag, agP_nil, agP_cons]
    refine ⟨-1, ?_, by simp, .inr rfl⟩
    rw [aCall_eq T_impl_blockIndex]; unfold A_impl_blockIndex C_impl_blockIndex; simp [thenD_pp, sliceCells_sl, sliceCells_z, sliceCells_nil, take_full, appS_sl, appK_ok, appS_none, thenD_ag, agP_nil, agP_cons, e2]
  | true =>
    obtain ⟨b, hb1, hb2⟩ := List.any_eq_true.1 hh
    obtain ⟨i0, hi0, rfl⟩ := List.getElem_of_mem hb1
    obtain ⟨i, hi, hq, hlt⟩ := first_of (p := fun k => match xs[k]? with | some b => decide (b.1 = id) | none => false) (n := xs.length) ⟨i0, hi0, by rw [List.getElem?_eq_getElem hi0]; exact hb2⟩
    rw [List.getElem?_eq_getElem hi] at hq
    have hq : xs[i].1 = id := of_decide_eq_true hq
    have hlt2 : ∀ k (hk : k < xs.length), k < i → xs[k].1 ≠ id := fun k hk hki e => by
      have := hlt k hki
      rw [List.getElem?_eq_getElem hk] at this
      exact absurd e (of_decide_eq_false this)
    have e := l_idxB _ M.length id a c xs hm hp hn i (by omega) hlt2
    simp only [Int.natCast_zero, Int.ofNat_zero] at e
    obtain ⟨l, o, u, rfl, _, _, _, hrd, _, _, qu, _⟩ := at_Block hm hi
    generalize xs[i] = b at *
    obtain ⟨b1, b2, b3⟩ := b
    simp only at *
    obtain ⟨ua, uc, rfl⟩ := qu.slen
    have s1 := c_impl_blockIndex_1 _ M.length id b1 b2 ua (List.length (α := UInt8) b3) uc hp
    simp only [tgB] at s1
    rw [decide_eq_true hq] at s1
    have e2 : aCall T0 F_slices_IndexFunc_impl_Block_impl_Block [.slice (some ⟨l, o, none⟩) xs.length c, .func (.func F_impl_blockIndex_1) #[] #[.pointer (some ⟨M.length, 0, none⟩)]] (M ++ [(⟨[.int .i64 id], 1, 2⟩ : Blk)]) = some (.int .i64 (i : Int), M ++ [(⟨[.int .i64 id], 1, 2⟩ : Blk)]) := by
      rw [aCall_eq T_slices_IndexFunc_impl_Block_impl_Block]; unfold A_slices_IndexFunc_impl_Block_impl_Block C_slices_IndexFunc_impl_Block_impl_Block; simp [thenD_pp, sliceCells_sl, sliceCells_z, sliceCells_nil, take_full, appS_sl, appK_ok, appS_none, thenD_ag, agP_nil, agP_cons, e]
      rw [S_slices_IndexFunc_impl_Block_impl_Block_0]; unfold B_slices_IndexFunc_impl_Block_impl_Block_0; simp [thenD_pp, sliceCells_sl, sliceCells_z, sliceCells_nil, take_full, appS_sl, appK_ok, appS_none, thenD_ag, agP_nil, agP_cons, hi, hrd, s1]
    refine ⟨i, ?_, by simp, .inl (by omega)⟩
    rw [aCall_eq T_impl_blockIndex]; unfold A_impl_blockIndex C_impl_blockIndex; simp [thenD_pp, sliceCells_sl, sliceCells_z, sliceCells_nil, take_full, appS_sl, appK_ok, appS_none, thenD_ag, agP_nil, agP_cons, e2]
theorem flat_atr {w : Nat} : ∀ (css : List (List V)) (i : Nat) (hi : i < css.length) (r : List V), (∀ c ∈ css, c.length = w) → ((css.flatten ++ r).drop (i * w)).take w = css[i] := by
  intro css
  induction css with
  | nil => intro i hi; simp at hi
  | cons c cs ih =>
    intro i hi r hc
    cases i with
    | zero =>
      rw [Nat.zero_mul, List.drop_zero, List.flatten_cons, List.append_assoc, List.take_left' (hc c (by simp))]
      rfl
    | succ i =>
      rw [List.flatten_cons, Nat.add_mul, Nat.one_mul, Nat.add_comm, ← List.drop_drop, List.append_assoc, List.drop_left' (hc c (by simp))]
      exact ih i (by simpa using hi) r (fun d hd => hc d (by simp [hd]))
set_option maxHeartbeats 2000000 in
theorem s_oramBlocks_1 (M : Mem) (p m nd0 : Nat) (a76 n77 i78 : V) (bs : List ty_Block.D) (l2 : Nat) (css : List (List V)) (Ls : List (List Nat)) (i : Nat) (hi : i < bs.length) (hp : rd1 M p 0 = some (.int .i64 (m : Int))) (hm : m ≤ 6) (hnd : nd0 + 1 < 2 * 2 ^ m) (h1 : css.length = bs.length) (h2 : Ls.length = bs.length) (hw : ∀ c ∈ css, c.length = 3)
    (hbs : ∀ b ∈ bs, (0 ≤ b.1 ∧ b.1 ≤ 255) ∧ b.2.1 = ((Int.toNat b.2.1 : Nat) : Int) ∧ Int.toNat b.2.1 < 2 ^ m) (hnl : bs.length ≤ 4) (hnd2 : Ls.flatten.Nodup) (hj : ∀ (a b : Nat) (A B : List Nat), a ≠ b → Ls[a]? = some A → Ls[b]? = some B → ∀ j ∈ A, j ∉ B)
    (all : List ty_Block.D) (hal : all.length ≤ 5000) (v : V) (X : Mem) (h : InI M bs l2 css Ls i all v X) :
    ((onP m (nd0 + 1) (Int.toNat bs[i].2.1) && !(hasId bs[i].1 all)) = true ∧ ∃ v' X', InI M bs l2 css Ls (i + 1) (putL bs[i] all) v' X' ∧ lp (aCall T0) K_impl_oramBlocks_1 L_impl_oramBlocks_1 (FoB p v nd0 a76 n77 i78 l2 bs.length i) X = lp (aCall T0) K_impl_oramBlocks_1 L_impl_oramBlocks_1 (FoB p v' nd0 a76 n77 i78 l2 bs.length (i + 1)) X') ∨
    ((onP m (nd0 + 1) (Int.toNat bs[i].2.1) && !(hasId bs[i].1 all)) = false ∧ RtF M (lp (aCall T0) K_impl_oramBlocks_1 L_impl_oramBlocks_1 (FoB p v nd0 a76 n77 i78 l2 bs.length i) X)) := by
  obtain ⟨L, g, nd, hge, hdis⟩ := h.gr
  have hp6 : 2 ^ m ≤ 2 ^ 6 := Nat.pow_le_pow_right (by omega) hm
  have hki := hbs _ (List.getElem_mem hi)
  have hds := h.el i (css[i]'(by omega)) bs[i] (Ls[i]'(by omega)) (Nat.le_refl _) (by simp) (by simp) (by simp)
  have hfl : css.flatten.length = bs.length * 3 := by rw [flat_len hw, h1]
  have hrd : rdn X l2 (i * 3) 3 = some (css[i]'(by omega)) := by
    have := flat_atr (w := 3) css i (by omega) [] hw
    simp only [rdn, h.hb]
    rw [List.append_nil] at this
    rw [if_pos (by refine ⟨by simp, by omega⟩), this]
  obtain ⟨gb, gk⟩ := hds
  obtain ⟨u, hu, w0, w1, qu⟩ := rep_g_Block gb.rep
  obtain ⟨ua, uc, rfl⟩ := qu.slen
  have hon : ∀ Y, aCall T0 F_impl_onPath [.int .i64 m, .int .i64 ((nd0 : Int) + 1), .int .i64 (Int.toNat bs[i].2.1 : Int)] Y = some (.bool (onP m (nd0 + 1) (Int.toNat bs[i].2.1)), Y) := fun Y => c_impl_onPath Y m (nd0 + 1) (Int.toNat bs[i].2.1) hm (by exact hki.2.2) (by omega) hnd
  obtain ⟨a, rfl⟩ := g.shape
  have e6 : IntKind.i64.wrap ((i : Int) + 1) = i + 1 := wrap_i64 (by omega) (by omega)
  have e7 : IntKind.i64.wrap ((nd0 : Int) + 1) = nd0 + 1 := wrap_i64 (by omega) (by omega)
  have hp' := fun N : Mem => r1_pre (h.pre.trans (List.prefix_append X N)) hp
  rw [hu] at hrd gb
  have hlf := hki.2.1
  have hidR := hki.1
  have hnbi := hdis
  generalize hbi : bs[i] = b at *
  obtain ⟨b1, b2, b3⟩ := b
  simp only at hlf hidR hon hrd gb w0 w1 qu ⊢
  generalize Int.toNat b2 = lf at *
  subst hlf
  have hxp : X <+: X ++ [(⟨[.int .i64 b1, .int .i64 (lf : Int), .slice ua (List.length (α := UInt8) b3) uc], 1, 2⟩ : Blk)] := List.prefix_append _ _
  obtain ⟨r, hr1, hr2, hr3⟩ := c_impl_blockIndex _ _ all b1 (g.grow hxp).rep (by omega)
  have hpr : rdn (X ++ [(⟨[.int .i64 b1, .int .i64 (lf : Int), .slice ua (List.length (α := UInt8) b3) uc], 1, 2⟩ : Blk)]) X.length 0 3 = some [.int .i64 b1, .int .i64 (lf : Int), .slice ua (List.length (α := UInt8) b3) uc] := rdn_box (by simp) rfl
  cases h3 : onP m (nd0 + 1) lf with
  | false =>
    rw [h3] at hon
    right
    refine ⟨rfl, ?_⟩
    rw [S_impl_oramBlocks_1]; unfold B_impl_oramBlocks_1; simp [thenD_pp, sliceCells_sl, sliceCells_z, sliceCells_nil, take_full, appS_sl, appK_ok, appS_none, thenD_ag, agP_nil, agP_cons, hi, hrd, hp', e7, hon, zeroCells]
    refine ⟨_, _, rfl, ?_, h.pre.trans hxp⟩
    rfl
  | true =>
    rw [h3] at hon
    cases h4 : hasId b1 all with
    | true =>
      rw [h4] at hr2
      have hr2 := of_decide_eq_true hr2
      right
      refine ⟨rfl, ?_⟩
      rw [S_impl_oramBlocks_1]; unfold B_impl_oramBlocks_1; simp [thenD_pp, sliceCells_sl, sliceCells_z, sliceCells_nil, take_full, appS_sl, appK_ok, appS_none, thenD_ag, agP_nil, agP_cons, hi, hrd, hp', e7, hon, hr1, hr2, zeroCells]
      refine ⟨_, _, rfl, ?_, h.pre.trans hxp⟩
      rfl
    | false =>
      rw [h4] at hr2
      have hr2 : ¬ 0 ≤ r := of_decide_eq_false hr2
      have hB := c_impl_blockPut _ (.slice a all.length all.length) all L [.int .i64 b1, .int .i64 (lf : Int), .slice ua (List.length (α := UInt8) b3) uc] (b1, (lf : Int), b3) _ (g.grow hxp) (gb.grow hxp) (fun j hj hm => by
        have q1 := (hdis j hm).2 i _ (Nat.le_refl _) (List.getElem?_eq_getElem (by omega))
        exact q1 hj) nd (gr_Block_nd gb) (by omega) h.lt h.rg hidR
      left
      refine ⟨rfl, ?_⟩
      rw [S_impl_oramBlocks_1]; unfold B_impl_oramBlocks_1; simp [thenD_pp, sliceCells_sl, sliceCells_z, sliceCells_nil, take_full, appS_sl, appK_ok, appS_none, thenD_ag, agP_nil, agP_cons, hi, hrd, hp', e7, hon, hr1, hr2, hpr, zeroCells]
      generalize hx : aCall T0 F_impl_blockPut _ _ = xhx
      obtain ⟨v3, X3, rfl, L3, g3, n3, hL3, ag, hl3⟩ := of_call hx hB
      clear hx
      simp only at g3 ag hl3
      simp [thenD_pp, sliceCells_sl, sliceCells_z, sliceCells_nil, take_full, appS_sl, appK_ok, appS_none, thenD_ag, agP_nil, agP_cons, e6]
      have hlX := get_lt h.hb
      have hlen : (X ++ [(⟨[.int .i64 b1, .int .i64 (lf : Int), .slice ua (List.length (α := UInt8) b3) uc], 1, 2⟩ : Blk)]).length = X.length + 1 := by simp
      have hL2 : l2 ∉ L := fun hm => (hdis l2 hm).1 rfl
      have hpM := (h.pre.trans hxp).length_le
      have hgetL : Ls[i]? = some (Ls[i]'(by omega)) := List.getElem?_eq_getElem (by omega)
      refine ⟨v3, X3, ⟨ag.pre (h.pre.trans hxp) hge, ⟨L3, g3, n3, fun j hm => ?_, fun j hm => ?_⟩, ?_, ?_, putL_lt h.lt h4, putL_ids h.rg hidR⟩, rfl⟩
      · rcases hL3 j hm with q | q | q
        · exact hge j q
        · exact (gk j q).1
        · have := h.pre.length_le; omega
      · rcases hL3 j hm with q | q | q
        · exact ⟨(hdis j q).1, fun k K hk hK => (hdis j q).2 k K (by omega) hK⟩
        · exact ⟨(gk j q).2, fun k K hk hK => hj i k _ K (by omega) hgetL hK j q⟩
        · refine ⟨by omega, fun k K hk hK hjK => ?_⟩
          have hk2 : k < Ls.length := (List.getElem?_eq_some_iff.1 hK).1
          have := (h.el k (css[k]'(by omega)) (bs[k]'(by omega)) K (by omega) (List.getElem?_eq_getElem (by omega)) (List.getElem?_eq_getElem (by omega)) hK).1.lt j hjK
          omega
      · rw [ag.2 l2 (by omega) hL2]
        exact get_pre hxp h.hb
      · intro k ds x K hk hd hx hK
        obtain ⟨q1, q2⟩ := h.el k ds x K (by omega) hd hx hK
        exact ⟨(q1.grow hxp).agree ag (fun j hm hmL => (hdis j hmL).2 k K (by omega) hK hm), q2⟩
theorem l_oramBlocks_1 (M : Mem) (p m nd0 : Nat) (a76 n77 i78 : V) (bs : List ty_Block.D) (l2 : Nat) (css : List (List V)) (Ls : List (List Nat)) (hp : rd1 M p 0 = some (.int .i64 (m : Int))) (hm : m ≤ 6) (hnd : nd0 + 1 < 2 * 2 ^ m) (h1 : css.length = bs.length) (h2 : Ls.length = bs.length) (hw : ∀ c ∈ css, c.length = 3)
    (hbs : ∀ b ∈ bs, (0 ≤ b.1 ∧ b.1 ≤ 255) ∧ b.2.1 = ((Int.toNat b.2.1 : Nat) : Int) ∧ Int.toNat b.2.1 < 2 ^ m) (hnl : bs.length ≤ 4) (hnd2 : Ls.flatten.Nodup) (hj : ∀ (a b : Nat) (A B : List Nat), a ≠ b → Ls[a]? = some A → Ls[b]? = some B → ∀ j ∈ A, j ∉ B) :
    ∀ (d i : Nat), i + d = bs.length → ∀ (all : List ty_Block.D) (v : V) (X : Mem), InI M bs l2 css Ls i all v X →
    (∃ all' v' X', inO m (nd0 + 1) all (bs.drop i) = some all' ∧ InI M bs l2 css Ls bs.length all' v' X' ∧ lp (aCall T0) K_impl_oramBlocks_1 L_impl_oramBlocks_1 (FoB p v nd0 a76 n77 i78 l2 bs.length i) X = lp (aCall T0) K_impl_oramBlocks_1 L_impl_oramBlocks_1 (FoB p v' nd0 a76 n77 i78 l2 bs.length bs.length) X') ∨
    (inO m (nd0 + 1) all (bs.drop i) = none ∧ RtF M (lp (aCall T0) K_impl_oramBlocks_1 L_impl_oramBlocks_1 (FoB p v nd0 a76 n77 i78 l2 bs.length i) X))
  | 0, i, hd, all, v, X, h => by
    have e : i = bs.length := by omega
    subst e
    exact .inl ⟨all, v, X, by simp [inO], h, rfl⟩
  | d + 1, i, hd, all, v, X, h => by
    have hi : i < bs.length := by omega
    have hlen := lt_len h.lt h.rg
    have hdr : bs.drop i = bs[i] :: bs.drop (i + 1) := List.drop_eq_getElem_cons hi
    rw [hdr]
    unfold inO
    rcases s_oramBlocks_1 M p m nd0 a76 n77 i78 bs l2 css Ls i hi hp hm hnd h1 h2 hw hbs hnl hnd2 hj all (by omega) v X h with ⟨q, v', X', h', e⟩ | ⟨q, r⟩
    · rw [if_pos q, e]
      exact l_oramBlocks_1 M p m nd0 a76 n77 i78 bs l2 css Ls hp hm hnd h1 h2 hw hbs hnl hnd2 hj d (i + 1) (by omega) _ v' X' h'
    · rw [if_neg (by rw [q]; simp)]
      exact .inr ⟨rfl, r⟩
theorem leafs_of {m : Nat} {w : Int} {bs : List ty_Block.D} (h : blocksB m w bs = true) : ∀ b ∈ bs, (0 ≤ b.1 ∧ b.1 ≤ 255) ∧ b.2.1 = ((Int.toNat b.2.1 : Nat) : Int) ∧ Int.toNat b.2.1 < 2 ^ m := by
  intro b hb
  refine ⟨ids_of h b hb, ?_⟩
  have h1 := blocks_of h b hb
  unfold blockB at h1
  simp only [Bool.and_eq_true] at h1
  exact leaf_nat h1.2.2.1
theorem in_bs {M X : Mem} {w : V} {bs : List ty_Block.D} {K : List Nat} (hp : M <+: X) (h : Gr (.sl ty_Block) X [w] bs K) (nd : K.Nodup) (hK : ∀ j ∈ K, M.length ≤ j) (hne : bs ≠ []) : ∃ l2 css Ls, w = .slice (some ⟨l2, 0, none⟩) bs.length bs.length ∧ css.length = bs.length ∧ Ls.length = bs.length ∧ (∀ c ∈ css, c.length = 3) ∧ (∀ (a b : Nat) (A B : List Nat), a ≠ b → Ls[a]? = some A → Ls[b]? = some B → ∀ j ∈ A, j ∉ B) ∧ Ls.flatten.Nodup ∧ K = l2 :: Ls.flatten ∧
    ∀ (all : List ty_Block.D) (v : V) (L : List Nat), Gr (.sl ty_Block) X [v] all L → L.Nodup → (∀ j ∈ L, M.length ≤ j) → (∀ j ∈ L, j ∉ K) → IdLt all → IdsR all → InI M bs l2 css Ls 0 all v X := by
  rcases h with ⟨_, rfl, _⟩ | ⟨l2, css, Ls, e, hb, h1, h2, h3, rfl⟩
  · exact absurd rfl hne
  cases e
  have hnd := List.nodup_cons.1 nd
  have hfl := hnd.2
  have hw : ∀ c ∈ css, c.length = 3 := fun c hc => by
    obtain ⟨k, hk, rfl⟩ := List.getElem_of_mem hc
    exact (h3 k _ (bs[k]'(by omega)) (Ls[k]'(by omega)) (by simp) (by simp) (by simp)).len
  refine ⟨l2, css, Ls, rfl, h1, h2, hw, ?_, hfl, rfl, fun all v L g1 g2 g3 g4 g5 g6 => ⟨hp, ⟨L, g1, g2, g3, fun j hj => ⟨fun e => g4 j hj (by rw [e]; exact List.mem_cons_self ..), fun k K _ hK hm => g4 j hj (List.mem_cons_of_mem _ (List.mem_flatten.2 ⟨K, List.mem_of_getElem? hK, hm⟩))⟩⟩, hb, fun k ds x K _ q1 q2 q3 => ⟨h3 k ds x K q1 q2 q3, fun j hj => ⟨hK j (List.mem_cons_of_mem _ (List.mem_flatten.2 ⟨K, List.mem_of_getElem? q3, hj⟩)), fun e => hnd.1 (by rw [← e]; exact List.mem_flatten.2 ⟨K, List.mem_of_getElem? q3, hj⟩)⟩⟩, g5, g6⟩⟩
  intro a b A B hab hA hB j hjA hjB
  have hfl := List.pairwise_flatten.1 hfl
  obtain ⟨ha, rfl⟩ := List.getElem?_eq_some_iff.1 hA
  obtain ⟨hb2, rfl⟩ := List.getElem?_eq_some_iff.1 hB
  have hpw := List.pairwise_iff_getElem.1 hfl.2
  rcases Nat.lt_or_ge a b with h | h
  · exact hpw a b ha hb2 h j hjA j hjB rfl
  · exact hpw b a hb2 ha (by omega) j hjB j hjA rfl
theorem sto_some {M : Mem} {Lp : List V → Mem → R} {F : V → List V} {o : Option (List ty_Block.D)} {a : List ty_Block.D} {r : R} (ho : o = some a) (h : ∃ v' X', OuI M a v' X' ∧ r = Lp (F v') X') : StO M Lp F o r := by subst ho; exact h
theorem sto_none {M : Mem} {Lp : List V → Mem → R} {F : V → List V} {o : Option (List ty_Block.D)} {r : R} (ho : o = none) (h : RtF M r) : StO M Lp F o r := by subst ho; exact h
set_option maxHeartbeats 2000000 in
theorem s_oramBlocks_0 (M : Mem) (p m : Nat) (w : Int) (aC : Option Addr) (cC : Nat) (cells : List ty_Cell.D) (hC : Rep (.sl ty_Cell) M [.slice aC cells.length cC] cells) (i : Nat) (hi : i < cells.length) (hp : rd1 M p 0 = some (.int .i64 (m : Int))) (hpw : rd1 M p 1 = some (.int .i64 w)) (hm : m ≤ 6) (hlen : cells.length + 1 = 2 * 2 ^ m) (hsz : ∀ c ∈ cells, List.length (α := UInt8) c ≤ 1048576)
    (all : List ty_Block.D) (v : V) (X : Mem) (h : OuI M all v X) :
    StO M (lp (aCall T0) K_impl_oramBlocks_0 L_impl_oramBlocks_0) (FoOn p aC cells.length cC (i + 1)) (nxO m w (i + 1) cells[i] all) (lp (aCall T0) K_impl_oramBlocks_0 L_impl_oramBlocks_0 (FoO p v aC cells.length cC i) X) := by
  obtain ⟨L, g, nd, hge⟩ := h.gr
  obtain ⟨l, o, u, rfl, hrd, hrn, hu⟩ := at_Cell (hC.mono h.pre) hi
  have hszi := hsz _ (List.getElem_mem hi)
  have hp6 : 2 ^ m ≤ 2 ^ 6 := Nat.pow_le_pow_right (by omega) hm
  obtain ⟨ua, uc, rfl⟩ := hu.slen
  generalize hcl : cells[i] = c at *
  have e6 : IntKind.i64.wrap ((i : Int) + 1) = i + 1 := wrap_i64 (by omega) (by omega)
  have hp' := fun N : Mem => r1_pre (h.pre.trans (List.prefix_append X N)) hp
  have hpw' := fun N : Mem => r1_pre (h.pre.trans (List.prefix_append X N)) hpw
  have hNR := c_impl_nodeRead (X ++ [(⟨[.slice ua (List.length (α := UInt8) c) uc], 1, 2⟩ : Blk)]) (.slice ua (List.length (α := UInt8) c) uc) c m w (hu.mono (List.prefix_append _ _)) hszi
  rw [S_impl_oramBlocks_0]; unfold B_impl_oramBlocks_0; simp [thenD_pp, sliceCells_sl, sliceCells_z, sliceCells_nil, take_full, appS_sl, appK_ok, appS_none, thenD_ag, agP_nil, agP_cons, hi, hrd, hrn, hp', hpw', zeroCells]
  generalize hx : aCall T0 F_impl_nodeRead _ _ = xhx
  obtain ⟨_, X1, rfl, r, L1, rfl, p1, g1, n1, k1⟩ := of_call hx hNR
  clear hx
  simp only at p1 g1
  have pX : X <+: X1 := (List.prefix_append _ _).trans p1
  have pM := h.pre.trans pX
  have hk1 : ∀ j ∈ L1, X.length ≤ j := fun j hj => by have := k1 j hj; simp at this; omega
  unfold nxO
  cases hok : ndOk m w c with
  | false =>
    refine sto_none (by simp) ?_
    simp [thenD_pp, sliceCells_sl, sliceCells_z, sliceCells_nil, take_full, appS_sl, appK_ok, appS_none, thenD_ag, agP_nil, agP_cons]
    refine ⟨_, _, rfl, ?_, pM⟩
    rfl
  | true =>
    have hx : ndX m w c = ndB (Int.toNat w) c := by unfold ndX; rw [if_pos hok]
    have hbl : blocksB m w (ndB (Int.toNat w) c) = true := by
      unfold ndOk at hok
      simp only [Bool.and_eq_true] at hok
      exact hok.2.2.1
    have hbs := leafs_of hbl
    have hnl := ndB_len (Int.toNat w) c
    rw [hx] at g1
    rw [if_pos rfl]
    generalize ndB (Int.toNat w) c = bs at *
    obtain ⟨a1, rfl⟩ := g1.shape
    have g' := g.grow pX
    by_cases hne : bs = []
    · subst hne
      refine sto_some (a := all) rfl ?_
      simp only [List.length_nil]
      simp [thenD_pp, sliceCells_sl, sliceCells_z, sliceCells_nil, take_full, appS_sl, appK_ok, appS_none, thenD_ag, agP_nil, agP_cons]
      rw [S_impl_oramBlocks_1]; unfold B_impl_oramBlocks_1; simp [thenD_pp, sliceCells_sl, sliceCells_z, sliceCells_nil, take_full, appS_sl, appK_ok, appS_none, thenD_ag, agP_nil, agP_cons, e6]
      exact ⟨_, X1, ⟨pM, ⟨L, g', nd, hge⟩, h.lt, h.rg⟩, rfl⟩
    · obtain ⟨l2, css, Ls, e, h1, h2, hw, hj, hfl, rfl, hI⟩ := in_bs pM g1 n1 (fun j hj => by have := hk1 j hj; have := h.pre.length_le; omega) hne
      cases e
      have hI0 := hI all v L g' nd hge (fun j hj hm => by have := hk1 j hm; have := g.lt j hj; omega) h.lt h.rg
      have key := l_oramBlocks_1 M p m i (.slice (some ⟨l, o, none⟩) cells.length cC) (.int .i64 cells.length) (.int .i64 i) bs l2 css Ls hp hm (by omega) h1 h2 hw hbs hnl hfl hj bs.length 0 (by omega) all v X1 hI0
      rw [List.drop_zero] at key
      simp only [FoB, Int.natCast_zero, Int.ofNat_zero] at key
      rcases key with ⟨all', v', X', q1, q2, e⟩ | ⟨q1, fr, X', e, q2, q3⟩
      · refine sto_some q1 ?_
        simp [thenD_pp, sliceCells_sl, sliceCells_z, sliceCells_nil, take_full, appS_sl, appK_ok, appS_none, thenD_ag, agP_nil, agP_cons, e]
        rw [S_impl_oramBlocks_1]; unfold B_impl_oramBlocks_1; simp [thenD_pp, sliceCells_sl, sliceCells_z, sliceCells_nil, take_full, appS_sl, appK_ok, appS_none, thenD_ag, agP_nil, agP_cons, e6]
        obtain ⟨L', g2, n2, k2, _⟩ := q2.gr
        exact ⟨_, X', ⟨q2.pre, ⟨L', g2, n2, k2⟩, q2.lt, q2.rg⟩, rfl⟩
      · refine sto_none q1 ?_
        simp [thenD_pp, sliceCells_sl, sliceCells_z, sliceCells_nil, take_full, appS_sl, appK_ok, appS_none, thenD_ag, agP_nil, agP_cons, e]
        exact ⟨fr, X', rfl, q2, q3⟩
theorem l_oramBlocks_0 (M : Mem) (p m : Nat) (w : Int) (aC : Option Addr) (cC : Nat) (cells : List ty_Cell.D) (hC : Rep (.sl ty_Cell) M [.slice aC cells.length cC] cells) (hp : rd1 M p 0 = some (.int .i64 (m : Int))) (hpw : rd1 M p 1 = some (.int .i64 w)) (hm : m ≤ 6) (hlen : cells.length + 1 = 2 * 2 ^ m) (hsz : ∀ c ∈ cells, List.length (α := UInt8) c ≤ 1048576) :
    ∀ (d i : Nat), i + d = cells.length → ∀ (all : List ty_Block.D) (v : V) (X : Mem), OuI M all v X →
    StO M (lp (aCall T0) K_impl_oramBlocks_0 L_impl_oramBlocks_0) (FoOn p aC cells.length cC cells.length) (outO m w (i + 1) (cells.drop i) all) (lp (aCall T0) K_impl_oramBlocks_0 L_impl_oramBlocks_0 (FoO p v aC cells.length cC i) X)
  | 0, i, hd, all, v, X, h => by
    have e : i = cells.length := by omega
    subst e
    rw [List.drop_length]
    exact ⟨v, X, h, rfl⟩
  | d + 1, i, hd, all, v, X, h => by
    have hi : i < cells.length := by omega
    have hdr : cells.drop i = cells[i] :: cells.drop (i + 1) := List.drop_eq_getElem_cons hi
    rw [hdr]
    have key := s_oramBlocks_0 M p m w aC cC cells hC i hi hp hpw hm hlen hsz all v X h
    unfold outO
    unfold nxO at key
    by_cases hok : ndOk m w cells[i] = true
    · rw [if_pos hok] at key ⊢
      cases hq : inO m (i + 1) all (ndB (Int.toNat w) cells[i]) with
      | none =>
        rw [hq] at key
        exact key
      | some a =>
        rw [hq] at key
        obtain ⟨v', X', h', e⟩ := key
        rw [e]
        exact l_oramBlocks_0 M p m w aC cC cells hC hp hpw hm hlen hsz d (i + 1) (by omega) a v' X' h'
    · rw [if_neg hok] at key ⊢
      exact key
theorem mem_bnd {m : ty_Mem.D} (h : memB m = true) : m.2.1.length ≤ 128 ∧ m.2.2.length ≤ 6000 ∧ ∀ c ∈ m.2.1, List.length (α := UInt8) c ≤ 1000 := by
  unfold memB mem0 at h
  simp only [Bool.and_eq_true, decide_eq_true_eq] at h
  obtain ⟨⟨⟨h1, h2⟩, h3, h4⟩, h5, h6⟩ := h
  refine ⟨h3, h4, fun c hc => ?_⟩
  have := List.all_eq_true.1 h5 c hc
  unfold cellB at this
  have := of_decide_eq_true this
  generalize m.1 = sz at *
  omega
abbrev aO (l w b : Int) (sz : Int) (aC : Option Addr) (nC cC : Nat) (aT : Option Addr) (nT cT : Nat) (aS : Option Addr) (nS cS : Nat) : List V := [.int .i64 l, .int .i64 w, .int .i64 b, .int .i64 sz, .slice aC nC cC, .slice aT nT cT, .slice aS nS cS]
theorem c_impl_treeNodes (M : Mem) (m n : Nat) (h : m ≤ 6) (hn : n = 2 * 2 ^ m - 1) : aCall T0 F_impl_treeNodes [.int .i64 m] M = some (.int .i64 n, M) := by
  subst hn
  match m, h with
  | 0, _ => rw [aCall_eq T_impl_treeNodes]; unfold A_impl_treeNodes C_impl_treeNodes; simp; decide
  | 1, _ => rw [aCall_eq T_impl_treeNodes]; unfold A_impl_treeNodes C_impl_treeNodes; simp; decide
  | 2, _ => rw [aCall_eq T_impl_treeNodes]; unfold A_impl_treeNodes C_impl_treeNodes; simp; decide
  | 3, _ => rw [aCall_eq T_impl_treeNodes]; unfold A_impl_treeNodes C_impl_treeNodes; simp; decide
  | 4, _ => rw [aCall_eq T_impl_treeNodes]; unfold A_impl_treeNodes C_impl_treeNodes; simp; decide
  | 5, _ => rw [aCall_eq T_impl_treeNodes]; unfold A_impl_treeNodes C_impl_treeNodes; simp; decide
  | 6, _ => rw [aCall_eq T_impl_treeNodes]; unfold A_impl_treeNodes C_impl_treeNodes; simp; decide
def atB {α : Type} (p : α → Bool) (xs : List α) (i : Nat) : Bool := match xs[i]? with
  | some x => p x
  | none => true
theorem atB_get {α : Type} (p : α → Bool) {xs : List α} {i : Nat} (hi : i < xs.length) : atB p xs i = p xs[i] := by unfold atB; rw [List.getElem?_eq_getElem hi]
theorem atB_all {α : Type} {p : α → Bool} {xs : List α} (h : ∀ i, i < xs.length → atB p xs i = true) : xs.all p = true := by
  rw [List.all_eq_true]
  intro x hx
  obtain ⟨i, hi, rfl⟩ := List.getElem_of_mem hx
  rw [← atB_get p hi]
  exact h i hi
theorem atB_not {α : Type} {p : α → Bool} {xs : List α} (h : ∃ i, i < xs.length ∧ atB p xs i = false) : xs.all p = false := by
  obtain ⟨i, hi, hq⟩ := h
  rw [atB_get p hi] at hq
  rw [List.all_eq_false]
  exact ⟨xs[i], List.getElem_mem hi, by rw [hq]; decide⟩
theorem mem_shape {M : Mem} {cs : List V} {m : ty_Mem.D} (h : Rep ty_Mem M cs m) : ∃ (a b : Option Addr) (c d : Nat), cs = [.int .i64 m.1, .slice a m.2.1.length c, .slice b m.2.2.length d] ∧ Rep (.sl ty_Cell) M [.slice a m.2.1.length c] m.2.1 ∧ Rep (.sl ty_Touch) M [.slice b m.2.2.length d] m.2.2 := by
  obtain ⟨u0, u1, rfl, _, r0, r1⟩ := rep_g_Mem h
  obtain ⟨a, c, rfl⟩ := r0.slen
  obtain ⟨b, d, rfl⟩ := r1.slen
  exact ⟨a, b, c, d, rfl, r0, r1⟩
theorem mem_cases (sz : Int) (n k : Nat) : (mem0 sz n k = false ∧ ((sz < 1 ∧ ¬ 1 ≤ sz) ∨ ((1 ≤ sz ∧ ¬ sz < 1) ∧ 1000 < sz ∧ ¬ sz ≤ 1000) ∨ ((1 ≤ sz ∧ ¬ sz < 1) ∧ (¬ 1000 < sz ∧ sz ≤ 1000) ∧ 128 < n ∧ (128 : Int) < n) ∨ ((1 ≤ sz ∧ ¬ sz < 1) ∧ (¬ 1000 < sz ∧ sz ≤ 1000) ∧ (¬ 128 < n ∧ ¬ (128 : Int) < n) ∧ 6000 < k ∧ (6000 : Int) < k))) ∨
    (mem0 sz n k = true ∧ (1 ≤ sz ∧ ¬ sz < 1) ∧ (¬ 1000 < sz ∧ sz ≤ 1000) ∧ (¬ 128 < n ∧ ¬ (128 : Int) < n) ∧ (¬ 6000 < k ∧ ¬ (6000 : Int) < k)) := by
  unfold mem0
  by_cases h : (1 ≤ sz ∧ sz ≤ 1000) ∧ n ≤ 128 ∧ k ≤ 6000
  · rw [decide_eq_true h]
    right
    exact ⟨rfl, by omega, by omega, by omega, by omega⟩
  · rw [decide_eq_false h]
    left
    refine ⟨rfl, ?_⟩
    omega
theorem win_ok (M : Mem) (x a b : Int) : aCall T0 F_impl_within [.int .i64 x, .int .i64 a, .int .i64 b] M = some (.bool (decide (a ≤ x ∧ x ≤ b)), M) := by
  rw [c_impl_within, Bool.decide_and]
theorem within_ok {a lo hi : Int} (h1 : lo ≤ a) (h2 : a ≤ hi) : decide (lo ≤ a ∧ a ≤ hi) = true := decide_eq_true ⟨h1, h2⟩
theorem at_Touch {M : Mem} {a : Option Addr} {n c : Nat} {xs : List ty_Touch.D} (h : Rep (.sl ty_Touch) M [.slice a n c] xs) {i : Nat} (hi : i < xs.length) : ∃ l o, a = some ⟨l, o, none⟩ ∧ Rep ty_Touch M (enc_Touch xs[i]) xs[i] ∧ rdn M l (o + i * 3) 3 = some (enc_Touch xs[i]) ∧ rd1 M l (o + i * 3) = some (.int .i64 xs[i].1) ∧ rd1 M l (o + i * 3 + 1) = some (.int .i64 xs[i].2.1) ∧ rd1 M l (o + i * 3 + 2) = some (.int .i64 xs[i].2.2) := by
  obtain ⟨_, l, o, rfl, cs, hrd, hrep⟩ := rep_at h hi
  have hcs := rep_Touch hrep
  subst hcs
  have hw : ty_Touch.w = 3 := rfl
  rw [hw] at hrd
  exact ⟨l, o, rfl, hrep, hrd, rd1_of_rdn hrd (k := 0) rfl, rd1_of_rdn hrd (k := 1) rfl, rd1_of_rdn hrd (k := 2) rfl⟩
theorem touch_ok {sz n a b c : Int} (h : touch0 sz n a b c = true) : (a = 1 ∨ a = 2) ∧ ¬ b < 0 ∧ 0 ≤ b ∧ ¬ n ≤ b ∧ b < n ∧ b ≤ n - 1 ∧ c = sz := by
  have h := of_decide_eq_true h
  omega
theorem touch_cases {sz n a b c : Int} (h : touch0 sz n a b c = false) : (¬ a = 1 ∧ ¬ a = 2) ∨ ((a = 1 ∨ a = 2) ∧ b < 0 ∧ ¬ 0 ≤ b) ∨ ((a = 1 ∨ a = 2) ∧ (¬ b < 0 ∧ 0 ≤ b) ∧ n ≤ b ∧ ¬ b < n ∧ ¬ b ≤ n - 1) ∨ ((a = 1 ∨ a = 2) ∧ (¬ b < 0 ∧ 0 ≤ b) ∧ (¬ n ≤ b ∧ b < n ∧ b ≤ n - 1) ∧ ¬ c = sz) := by
  have h := of_decide_eq_false h
  omega
theorem l_impl_isMem_0 (M X : Mem) (m : ty_Mem.D) (a b : Option Addr) (c d p : Nat) (hM : M <+: X) (hb : X[p]? = some ⟨[.int .i64 m.1, .slice a m.2.1.length c, .slice b m.2.2.length d], 1, 2⟩) (h : Rep (.sl ty_Touch) M [.slice b m.2.2.length d] m.2.2) (hn : m.2.2.length ≤ 6000) (hn2 : m.2.1.length ≤ 128) :
    (∃ X', M <+: X' ∧ X <+: X' ∧ (∀ i, i < m.2.2.length → atB (touchB m) m.2.2 i = true) ∧ lp (aCall T0) K_impl_isMem_0 L_impl_isMem_0 [und, .pointer (some ⟨p, 0, none⟩), und, und, und, und, und, und, und, und, und, und, und, und, und, und, und, und, und, und, und, und, .slice b m.2.2.length d, .int .i64 m.2.2.length, .int .i64 (0 : Nat), und, und, und, und, und, und, und, und, und, und, und, und, und, und, und, und, und, und, und, und, und, und, und, und, und, und, und, und, und, und] X = lp (aCall T0) K_impl_isMem_0 L_impl_isMem_0 [und, .pointer (some ⟨p, 0, none⟩), und, und, und, und, und, und, und, und, und, und, und, und, und, und, und, und, und, und, und, und, .slice b m.2.2.length d, .int .i64 m.2.2.length, .int .i64 m.2.2.length, und, und, und, und, und, und, und, und, und, und, und, und, und, und, und, und, und, und, und, und, und, und, und, und, und, und, und, und, und, und] X' ∧ X'[p]? = some ⟨[.int .i64 m.1, .slice a m.2.1.length c, .slice b m.2.2.length d], 1, 2⟩) ∨
    ((∃ i, i < m.2.2.length ∧ atB (touchB m) m.2.2 i = false) ∧ ∀ k, thenF M [.tmp 2] (thenS (blockR 0 (lp (aCall T0) K_impl_isMem_0 L_impl_isMem_0 [und, .pointer (some ⟨p, 0, none⟩), und, und, und, und, und, und, und, und, und, und, und, und, und, und, und, und, und, und, und, und, .slice b m.2.2.length d, .int .i64 m.2.2.length, .int .i64 (0 : Nat), und, und, und, und, und, und, und, und, und, und, und, und, und, und, und, und, und, und, und, und, und, und, und, und, und, und, und, und, und, und] X)) (aCall T0) k) = some (.bool false, M)) := by
  have key := loop_ok (call := aCall T0) (K := K_impl_isMem_0) (L := L_impl_isMem_0) (fun _ Y => X <+: Y) (fun i => [und, .pointer (some ⟨p, 0, none⟩), und, und, und, und, und, und, und, und, und, und, und, und, und, und, und, und, und, und, und, und, .slice b m.2.2.length d, .int .i64 m.2.2.length, .int .i64 i, und, und, und, und, und, und, und, und, und, und, und, und, und, und, und, und, und, und, und, und, und, und, und, und, und, und, und, und, und, und]) (atB (touchB m) m.2.2) (n := m.2.2.length) (M0 := M) (rs := [.tmp 2]) (k0 := 0) (a := .bool false) X (List.prefix_refl _) ?_ ?_
  · rcases key with ⟨X', h0, h1, h2⟩ | h
    · exact .inl ⟨X', hM.trans h0, h0, h1, h2, get_pre h0 hb⟩
    · exact .inr h
  · intro i Y hi hq hY
    obtain ⟨l, o, rfl, _, q1, _⟩ := at_Touch (h.mono (hM.trans hY)) hi
    have hbY := get_pre hY hb
    have hbY2 : ∀ N : Mem, (Y ++ N)[p]? = some ⟨[.int .i64 m.1, .slice a m.2.1.length c, .slice (some ⟨l, o, none⟩) m.2.2.length d], 1, 2⟩ := fun N => get_pre' hbY
    rw [atB_get _ hi] at hq
    have hq := touch_ok hq
    generalize m.2.2[i] = t at q1 hq
    obtain ⟨t1, t2, t3⟩ := t
    simp only at hq q1
    obtain ⟨g1, g2, g2', g3, g3', g3'', g4⟩ := hq
    have e5 : IntKind.i64.wrap ((m.2.1.length : Int) - 1) = m.2.1.length - 1 := wrap_i64 (by omega) (by omega)
    have e6 : IntKind.i64.wrap ((i : Int) + 1) = i + 1 := wrap_i64 (by omega) (by omega)
    have w1 := fun N : Mem => win_ok (Y ++ N) t1 1 2
    rw [within_ok (by omega) (by omega)] at w1
    have w2 := fun N : Mem => win_ok (Y ++ N) t2 0 (m.2.1.length - 1)
    rw [within_ok g2' g3''] at w2
    refine ⟨Y ++ [⟨enc_Touch (t1, t2, t3), 1, 2⟩], hY.trans (List.prefix_append _ _), ?_⟩
    clear g1
    rw [S_impl_isMem_0]; unfold B_impl_isMem_0; simp [thenD_pp, sliceCells_sl, sliceCells_z, sliceCells_nil, take_full, appS_sl, appK_ok, appS_none, thenD_ag, agP_nil, agP_cons, hbY, hbY2, hi, q1, w1, w2, e5, g4, e6, rd1_K, rdJ_ok]
  · intro i Y hi hq hY k
    obtain ⟨l, o, rfl, _, q1, _⟩ := at_Touch (h.mono (hM.trans hY)) hi
    have hbY := get_pre hY hb
    have hbY2 : ∀ N : Mem, (Y ++ N)[p]? = some ⟨[.int .i64 m.1, .slice a m.2.1.length c, .slice (some ⟨l, o, none⟩) m.2.2.length d], 1, 2⟩ := fun N => get_pre' hbY
    rw [atB_get _ hi] at hq
    have hq := touch_cases hq
    generalize m.2.2[i] = t at q1 hq
    obtain ⟨t1, t2, t3⟩ := t
    simp only at hq q1
    have gb := fun (cs : List V) b => gc_boolp (hM.trans (hY.trans (List.prefix_append Y [⟨cs, 1, 2⟩]))) b
    have e5 : IntKind.i64.wrap ((m.2.1.length : Int) - 1) = m.2.1.length - 1 := wrap_i64 (by omega) (by omega)
    have w1 := fun N : Mem => win_ok (Y ++ N) t1 1 2
    have w2 := fun N : Mem => win_ok (Y ++ N) t2 0 (m.2.1.length - 1)
    rcases hq with ⟨g1, g2⟩ | ⟨g1, _, g2⟩ | ⟨g1, ⟨_, g2⟩, _, _, g3⟩ | ⟨g1, ⟨_, g2⟩, ⟨_, _, g3⟩, g4⟩
    · rw [decide_eq_false (by omega)] at w1
      rw [S_impl_isMem_0]; unfold B_impl_isMem_0; simp [thenD_pp, sliceCells_sl, sliceCells_z, sliceCells_nil, take_full, appS_sl, appK_ok, appS_none, thenD_ag, agP_nil, agP_cons, hbY, hbY2, hi, q1, w1, gb, rd1_K, rdJ_ok]
    · rw [within_ok (by omega) (by omega)] at w1
      rw [decide_eq_false (by omega)] at w2
      clear g1
      rw [S_impl_isMem_0]; unfold B_impl_isMem_0; simp [thenD_pp, sliceCells_sl, sliceCells_z, sliceCells_nil, take_full, appS_sl, appK_ok, appS_none, thenD_ag, agP_nil, agP_cons, hbY, hbY2, hi, q1, w1, w2, e5, gb, rd1_K, rdJ_ok]
    · rw [within_ok (by omega) (by omega)] at w1
      rw [decide_eq_false (by omega)] at w2
      clear g1
      rw [S_impl_isMem_0]; unfold B_impl_isMem_0; simp [thenD_pp, sliceCells_sl, sliceCells_z, sliceCells_nil, take_full, appS_sl, appK_ok, appS_none, thenD_ag, agP_nil, agP_cons, hbY, hbY2, hi, q1, w1, w2, e5, gb, rd1_K, rdJ_ok]
    · rw [within_ok (by omega) (by omega)] at w1
      rw [within_ok g2 g3] at w2
      clear g1
      rw [S_impl_isMem_0]; unfold B_impl_isMem_0; simp [thenD_pp, sliceCells_sl, sliceCells_z, sliceCells_nil, take_full, appS_sl, appK_ok, appS_none, thenD_ag, agP_nil, agP_cons, hbY, hbY2, hi, q1, w1, w2, e5, g4, gb, rd1_K, rdJ_ok]
theorem c_impl_isMem_1 (M : Mem) (u : V) (x : ty_Cell.D) (h : Rep (.sl ty_Byte) M [u] x) (p : Nat) (sz : Int) (hp : rd1 M p 0 = some (.int .i64 sz)) : aCall T0 F_impl_isMem_1 [.agg #[u], .pointer (some ⟨p, 0, none⟩)] M = some (.bool (decide (¬ ((List.length (α := UInt8) x : Nat) : Int) = sz)), M) := by
  have h2 : ∀ N, rd1 (M ++ N) p 0 = some (.int .i64 sz) := fun N => rd1_old hp
  obtain ⟨_, _, rfl⟩ := h.slen
  rw [aCall_eq T_impl_isMem_1]; unfold A_impl_isMem_1 C_impl_isMem_1; simp [thenD_pp, sliceCells_sl, sliceCells_z, sliceCells_nil, take_full, appS_sl, appK_ok, appS_none, thenD_ag, agP_nil, agP_cons, h2]
theorem rep_cell1 {M : Mem} {cs : List V} {x : ty_Cell.D} (h : Rep ty_Cell M cs x) : ∃ u, cs = [u] := by
  rcases h with ⟨rfl, _⟩ | ⟨_, _, _, _, _, rfl, _⟩
  · exact ⟨_, rfl⟩
  · exact ⟨_, rfl⟩
theorem c_impl_isMem (M : Mem) (cs : List V) (m : ty_Mem.D) (h : Rep ty_Mem M cs m) : aCall T0 F_impl_isMem [.agg cs.toArray] M = some (.bool (memB m), M) := by
  obtain ⟨a, b, c, d, rfl, r0, r1⟩ := mem_shape h
  unfold memB
  have hp : M <+: M ++ [⟨[.int .i64 m.1, .slice a m.2.1.length c, .slice b m.2.2.length d], 1, 2⟩] := List.prefix_append _ _
  have w1 := fun N : Mem => win_ok (M ++ N) m.1 1 1000
  rcases mem_cases m.1 m.2.1.length m.2.2.length with ⟨h0, hh⟩ | ⟨h0, ⟨h1, _⟩, ⟨_, h2⟩, ⟨h3, h3'⟩, ⟨h4, h4'⟩⟩
  · rw [h0, Bool.false_and]
    clear h0
    rcases hh with ⟨_, h1⟩ | ⟨⟨h1, _⟩, _, h2⟩ | ⟨⟨h1, _⟩, ⟨_, h2⟩, h3, h3'⟩ | ⟨⟨h1, _⟩, ⟨_, h2⟩, ⟨h3, h3'⟩, h4, h4'⟩
    · rw [decide_eq_false (fun q => h1 q.1)] at w1
      rw [aCall_eq T_impl_isMem]; unfold A_impl_isMem C_impl_isMem; simp [thenD_pp, sliceCells_sl, sliceCells_z, sliceCells_nil, take_full, appS_sl, appK_ok, appS_none, thenD_ag, agP_nil, agP_cons, w1]
    · rw [decide_eq_false (fun q => h2 q.2)] at w1
      rw [aCall_eq T_impl_isMem]; unfold A_impl_isMem C_impl_isMem; simp [thenD_pp, sliceCells_sl, sliceCells_z, sliceCells_nil, take_full, appS_sl, appK_ok, appS_none, thenD_ag, agP_nil, agP_cons, w1]
    · rw [within_ok h1 h2] at w1
      rw [aCall_eq T_impl_isMem]; unfold A_impl_isMem C_impl_isMem; simp [thenD_pp, sliceCells_sl, sliceCells_z, sliceCells_nil, take_full, appS_sl, appK_ok, appS_none, thenD_ag, agP_nil, agP_cons, w1, h3, h3']
    · rw [within_ok h1 h2] at w1
      rw [aCall_eq T_impl_isMem]; unfold A_impl_isMem C_impl_isMem; simp [thenD_pp, sliceCells_sl, sliceCells_z, sliceCells_nil, take_full, appS_sl, appK_ok, appS_none, thenD_ag, agP_nil, agP_cons, w1, h3, h3', h4, h4']
  rw [h0, Bool.true_and]
  rw [within_ok h1 h2] at w1
  rcases l_impl_isMem_0 M _ m a b c d M.length hp (by simp) r1 (by omega) (by omega) with ⟨X', hX, hX2, ha2, e2, hb⟩ | ⟨hn2, e2⟩
  · simp only [Int.natCast_zero, Int.ofNat_zero] at e2
    rw [atB_all ha2, Bool.and_true]
    have gb := fun b => gc_boolp hX b
    have ha := any_sl T_slices_ContainsFunc_impl_Cell_impl_Cell T_slices_IndexFunc_impl_Cell_impl_Cell rfl (r0.mono hX) (by omega) F_impl_isMem_1 [.pointer (some ⟨M.length, 0, none⟩)] (fun x => decide (¬ ((List.length (α := UInt8) x : Nat) : Int) = m.1)) (fun i hi cs hr => by
      obtain ⟨u, rfl⟩ := rep_cell1 hr
      exact c_impl_isMem_1 X' u _ hr M.length m.1 (by rw [rd1_K, hb]; rfl))
    have hall : (m.2.1.any (fun x => decide (¬ ((List.length (α := UInt8) x : Nat) : Int) = m.1))) = !(m.2.1.all (cellB m)) := by
      rw [List.any_eq_not_all_not]
      congr 2
      funext x
      unfold cellB
      simp
    rw [hall] at ha
    cases hq : m.2.1.all (cellB m) with
    | true =>
      rw [hq] at ha
      rw [aCall_eq T_impl_isMem]; unfold A_impl_isMem C_impl_isMem; simp [thenD_pp, sliceCells_sl, sliceCells_z, sliceCells_nil, take_full, appS_sl, appK_ok, appS_none, thenD_ag, agP_nil, agP_cons, w1, h3, h3', h4, h4', e2]
      rw [S_impl_isMem_0]; unfold B_impl_isMem_0; simp [thenD_pp, sliceCells_sl, sliceCells_z, sliceCells_nil, take_full, appS_sl, appK_ok, appS_none, thenD_ag, agP_nil, agP_cons, rd1_K, rdJ_ok, hb, gb, ha]
    | false =>
      rw [hq] at ha
      rw [aCall_eq T_impl_isMem]; unfold A_impl_isMem C_impl_isMem; simp [thenD_pp, sliceCells_sl, sliceCells_z, sliceCells_nil, take_full, appS_sl, appK_ok, appS_none, thenD_ag, agP_nil, agP_cons, w1, h3, h3', h4, h4', e2]
      rw [S_impl_isMem_0]; unfold B_impl_isMem_0; simp [thenD_pp, sliceCells_sl, sliceCells_z, sliceCells_nil, take_full, appS_sl, appK_ok, appS_none, thenD_ag, agP_nil, agP_cons, rd1_K, rdJ_ok, hb, gb, ha]
  · simp only [Int.natCast_zero, Int.ofNat_zero] at e2
    rw [atB_not hn2, Bool.and_false]
    rw [aCall_eq T_impl_isMem]; unfold A_impl_isMem C_impl_isMem; simp [thenD_pp, sliceCells_sl, sliceCells_z, sliceCells_nil, take_full, appS_sl, appK_ok, appS_none, thenD_ag, agP_nil, agP_cons, w1, h3, h3', h4, h4', e2]
set_option maxRecDepth 20000 in
set_option maxHeartbeats 2000000 in
theorem c_impl_oramBlocks (M : Mem) (l w b : Int) (m : ty_Mem.D) (st : List ty_Block.D) (aC : Option Addr) (cC : Nat) (aT : Option Addr) (cT : Nat) (aS : Option Addr) (cS : Nat)
    (hM : Rep ty_Mem M [.int .i64 m.1, .slice aC m.2.1.length cC, .slice aT m.2.2.length cT] m) (hS : Rep (.sl ty_Block) M [.slice aS st.length cS] st) (hz : BlkSz st) (hcz : m.2.1.length ≤ 1048576) :
    Sat (aCall T0 F_impl_oramBlocks [.agg (aO l w b m.1 aC m.2.1.length cC aT m.2.2.length cT aS st.length cS).toArray] M) (OrV M (orX l w b m st)) := by
  have e1 := fun M => c_impl_isLog M l
  have e2 := fun M => c_impl_within M w 1 200
  have e3 := fun M => c_impl_within M b 0 64
  have hlg : (decide (0 ≤ l) && decide (l ≤ 6)) = lgB l := rfl
  have hwd : (decide (1 ≤ w) && decide (w ≤ 200)) = wdB w := rfl
  have hbd : (decide (0 ≤ b) && decide (b ≤ 64)) = bdB b := rfl
  rw [hlg] at e1
  rw [hwd] at e2
  rw [hbd] at e3
  have e4 := fun N : Mem => c_impl_isMem (M ++ N) _ m (hM.mono (List.prefix_append _ _))
  have e5 := fun N : Mem => c_impl_isStash (M ++ N) _ st l w (hS.mono (List.prefix_append _ _)) hz.1
  have hnil : ∀ {X : Mem}, Gr (.sl ty_Block) X [.slice none 0 0] [] [] := Gr.nil
  have hpre : M <+: M ++ [(⟨aO l w b m.1 aC m.2.1.length cC aT m.2.2.length cT aS st.length cS, 1, 2⟩ : Blk)] := List.prefix_append _ _
  have fin : ∀ {o : Option (List ty_Block.D)} {r}, o = none → r = some (.tuple #[.slice none 0 0, .bool false], M ++ [(⟨aO l w b m.1 aC m.2.1.length cC aT m.2.2.length cT aS st.length cS, 1, 2⟩ : Blk)]) → Sat r (OrV M o) := fun ho hr => by
    subst ho
    subst hr
    exact ⟨(_, _), rfl, _, [], rfl, hpre, hnil, by simp, by simp⟩
  have hf : frO l w b m st = false → orX l w b m st = none := fun h => by unfold orX; rw [h]; rfl
  cases h1 : lgB l with
  | false =>
    rw [h1] at e1
    refine fin (hf (by unfold frO; simp [h1])) ?_
    rw [aCall_eq T_impl_oramBlocks]; unfold A_impl_oramBlocks C_impl_oramBlocks; simp [thenD_pp, sliceCells_sl, sliceCells_z, sliceCells_nil, take_full, appS_sl, appK_ok, appS_none, thenD_ag, agP_nil, agP_cons, e1]
  | true =>
  rw [h1] at e1
  cases h2 : wdB w with
  | false =>
    rw [h2] at e2
    refine fin (hf (by unfold frO; simp [h2])) ?_
    rw [aCall_eq T_impl_oramBlocks]; unfold A_impl_oramBlocks C_impl_oramBlocks; simp [thenD_pp, sliceCells_sl, sliceCells_z, sliceCells_nil, take_full, appS_sl, appK_ok, appS_none, thenD_ag, agP_nil, agP_cons, e1, e2]
  | true =>
  rw [h2] at e2
  cases h3 : bdB b with
  | false =>
    rw [h3] at e3
    refine fin (hf (by unfold frO; simp [h3])) ?_
    rw [aCall_eq T_impl_oramBlocks]; unfold A_impl_oramBlocks C_impl_oramBlocks; simp [thenD_pp, sliceCells_sl, sliceCells_z, sliceCells_nil, take_full, appS_sl, appK_ok, appS_none, thenD_ag, agP_nil, agP_cons, e1, e2, e3]
  | true =>
  rw [h3] at e3
  have hw : 1 ≤ w ∧ w ≤ 200 := by unfold wdB at h2; simpa using h2
  have hb : 0 ≤ b ∧ b ≤ 64 := by unfold bdB at h3; simpa using h3
  obtain ⟨k, rfl, hk⟩ := log_nat h1
  have hk0 : Int.toNat (k : Int) = k := by omega
  have e6 := fun M => c_impl_treeNodes M k _ hk rfl
  have w1 : IntKind.i64.wrap (w + 3) = w + 3 := wrap_i64 (by omega) (by omega)
  have w2 : IntKind.i64.wrap (4 * (w + 3)) = 4 * (w + 3) := wrap_i64 (by omega) (by omega)
  have hp6 : 2 ^ k ≤ 2 ^ 6 := Nat.pow_le_pow_right (by omega) hk
  have hp0 : 0 < 2 ^ k := Nat.two_pow_pos k
  have hN : ∃ N, N = 2 * 2 ^ k - 1 := ⟨_, rfl⟩
  obtain ⟨N, hN⟩ := hN
  cases h4 : memB m with
  | false =>
    rw [h4] at e4
    refine fin (hf (by unfold frO; simp [h4])) ?_
    rw [aCall_eq T_impl_oramBlocks]; unfold A_impl_oramBlocks C_impl_oramBlocks; simp [thenD_pp, sliceCells_sl, sliceCells_z, sliceCells_nil, take_full, appS_sl, appK_ok, appS_none, thenD_ag, agP_nil, agP_cons, e1, e2, e3, e4]
  | true =>
  rw [h4] at e4
  by_cases h5 : m.2.1.length = N
  · have hmb := mem_bnd h4
    rw [← hN, ← h5] at e6
    by_cases h6 : (m.1 : Int) = 4 * (w + 3)
    · have w2 : IntKind.i64.wrap (4 * (w + 3)) = m.1 := w2.trans h6.symm
      by_cases h7 : (st.length : Int) ≤ b
      · have h7' : ¬ b < (st.length : Int) := by omega
        cases h8 : stashB k w st with
        | false =>
          rw [h8] at e5
          refine fin (hf (by unfold frO; simp [h8])) ?_
          rw [aCall_eq T_impl_oramBlocks]; unfold A_impl_oramBlocks C_impl_oramBlocks; simp [thenD_pp, sliceCells_sl, sliceCells_z, sliceCells_nil, take_full, appS_sl, appK_ok, appS_none, thenD_ag, agP_nil, agP_cons, e1, e2, e3, e4, e5, e6, w1, w2, h7']
        | true =>
          rw [h8] at e5
          have hX : orX k w b m st = outO k w 1 m.2.1 st := by
            unfold orX
            rw [hk0, if_pos]
            unfold frO
            rw [h1, h2, h3, h4, hk0, ← hN, decide_eq_true h5, decide_eq_true h6, decide_eq_true h7, h8]
            rfl
          rw [hX]
          have hCB := fun N : Mem => c_impl_cloneBlocks (M ++ N) _ st (hS.mono (List.prefix_append _ _)) hz
          rw [aCall_eq T_impl_oramBlocks]; unfold A_impl_oramBlocks C_impl_oramBlocks; simp [thenD_pp, sliceCells_sl, sliceCells_z, sliceCells_nil, take_full, appS_sl, appK_ok, appS_none, thenD_ag, agP_nil, agP_cons, e1, e2, e3, e4, e5, e6, w1, w2, h7']
          generalize hx : aCall T0 F_impl_cloneBlocks _ _ = xhx
          obtain ⟨v1, X1, rfl, L1, p1, g1, n1, k1⟩ := of_call hx (hCB _)
          clear hx
          simp only at p1 g1
          have hbx := get_pre p1 (show (M ++ [(⟨aO k w b m.1 aC m.2.1.length cC aT m.2.2.length cT aS st.length cS, 1, 2⟩ : Blk)])[M.length]? = some _ from List.getElem?_concat_length)
          have hb4 : rd1 X1 M.length 4 = some (.slice aC m.2.1.length cC) := by simp [rd1, hbx]
          have st8 : st.length ≤ 128 ∧ blocksB k w st = true := by unfold stashB at h8; simpa using h8
          have key := l_oramBlocks_0 (M ++ [(⟨aO k w b m.1 aC m.2.1.length cC aT m.2.2.length cT aS st.length cS, 1, 2⟩ : Blk)]) M.length k w aC cC m.2.1 ((rep_g_Mem hM).elim fun u0 h => by
            obtain ⟨u1, e, _, r0, _⟩ := h
            cases e
            exact r0.mono hpre) (by simp [rd1]) (by simp [rd1]) hk (by omega) (fun c hc => by have := hmb.2.2 c hc; omega) m.2.1.length 0 (by omega) st v1 X1 ⟨p1, ⟨L1, g1, n1, k1⟩, blocks_lt st8.2, ids_of st8.2⟩
          rw [List.drop_zero] at key
          simp only [FoO, Int.natCast_zero, Int.ofNat_zero] at key
          cases ho : outO k w (0 + 1) m.2.1 st with
          | none =>
            rw [ho] at key
            obtain ⟨fr, X', e, q2, q3⟩ := key
            have pX := hpre.trans q3
            simp [thenD_pp, sliceCells_sl, sliceCells_z, sliceCells_nil, take_full, appS_sl, appK_ok, appS_none, thenD_ag, agP_nil, agP_cons, hb4, e]
            have q2 : (fr[2]?.getD und) = .slice none 0 0 ∧ (fr[3]?.getD und) = .bool false := by simpa [resOf] using q2
            rw [q2.1, q2.2, gc_not rfl]
            exact ⟨(_, X'), rfl, _, [], rfl, pX, hnil, by simp, by simp⟩
          | some a =>
            rw [ho] at key
            obtain ⟨v', X', ⟨q1, ⟨L', g2, n2, k2⟩, _, _⟩, e⟩ := key
            simp only [FoOn, FoO] at e
            have pX := hpre.trans q1
            simp [thenD_pp, sliceCells_sl, sliceCells_z, sliceCells_nil, take_full, appS_sl, appK_ok, appS_none, thenD_ag, agP_nil, agP_cons, hb4, e]
            obtain ⟨a5, rfl⟩ := g2.shape
            rw [S_impl_oramBlocks_0]; unfold B_impl_oramBlocks_0; simp [thenD_pp, sliceCells_sl, sliceCells_z, sliceCells_nil, take_full, appS_sl, appK_ok, appS_none, thenD_ag, agP_nil, agP_cons, pX]
            exact ⟨(_, X'), rfl, _, L', rfl, pX, g2, n2, fun j hj => by have := k2 j hj; simp at this; omega⟩
      · have h7' : b < (st.length : Int) := by omega
        refine fin (hf (by unfold frO; rw [decide_eq_false h7]; simp)) ?_
        rw [aCall_eq T_impl_oramBlocks]; unfold A_impl_oramBlocks C_impl_oramBlocks; simp [thenD_pp, sliceCells_sl, sliceCells_z, sliceCells_nil, take_full, appS_sl, appK_ok, appS_none, thenD_ag, agP_nil, agP_cons, e1, e2, e3, e4, e6, w1, w2, h7']
    · refine fin (hf (by unfold frO; rw [decide_eq_false h6]; simp)) ?_
      rw [aCall_eq T_impl_oramBlocks]; unfold A_impl_oramBlocks C_impl_oramBlocks; simp [thenD_pp, sliceCells_sl, sliceCells_z, sliceCells_nil, take_full, appS_sl, appK_ok, appS_none, thenD_ag, agP_nil, agP_cons, e1, e2, e3, e4, e6, w1, w2, h6]
  · have h5' : ¬ (m.2.1.length : Int) = (N : Int) := by omega
    refine fin (hf (by unfold frO; rw [hk0, ← hN, decide_eq_false h5]; simp)) ?_
    rw [← hN] at e6
    generalize m.2.1.length = nC at *
    rw [aCall_eq T_impl_oramBlocks]; unfold A_impl_oramBlocks C_impl_oramBlocks; simp [thenD_pp, sliceCells_sl, sliceCells_z, sliceCells_nil, take_full, appS_sl, appK_ok, appS_none, thenD_ag, agP_nil, agP_cons, e1, e2, e3, e4, e6, h5', h5]
theorem oram_shape {M : Mem} {cs : List V} {x : ty_Oram.D} (h : Rep ty_Oram M cs x) : ∃ (aC : Option Addr) (cC : Nat) (aT : Option Addr) (cT : Nat) (aS : Option Addr) (cS : Nat), cs = aO x.1 x.2.1 x.2.2.1 x.2.2.2.1.1 aC x.2.2.2.1.2.1.length cC aT x.2.2.2.1.2.2.length cT aS x.2.2.2.2.length cS ∧
    Rep ty_Mem M [.int .i64 x.2.2.2.1.1, .slice aC x.2.2.2.1.2.1.length cC, .slice aT x.2.2.2.1.2.2.length cT] x.2.2.2.1 ∧ Rep (.sl ty_Block) M [.slice aS x.2.2.2.2.length cS] x.2.2.2.2 := by
  obtain ⟨u0, u1, u2, rfl, w0, w1, w2, w3, r0, r1, r2⟩ := rep_g_Oram h
  obtain ⟨a, c, rfl⟩ := r0.slen
  obtain ⟨b, d, rfl⟩ := r1.slen
  obtain ⟨e, f, rfl⟩ := r2.slen
  exact ⟨a, c, b, d, e, f, rfl, mkrep_g_Mem w3 r0 r1, r2⟩
theorem c_impl_oramBlocksO (M : Mem) (cs : List V) (x : ty_Oram.D) (h : Rep ty_Oram M cs x) (hz : BlkSz x.2.2.2.2) (hc : x.2.2.2.1.2.1.length ≤ 1048576) : Sat (aCall T0 F_impl_oramBlocks [.agg cs.toArray] M) (OrV M (orO x)) := by
  obtain ⟨aC, cC, aT, cT, aS, cS, rfl, hM, hS⟩ := oram_shape h
  exact c_impl_oramBlocks M x.1 x.2.1 x.2.2.1 x.2.2.2.1 x.2.2.2.2 aC cC aT cT aS cS hM hS hz hc
theorem rd1_bx {X : Mem} {p : Nat} {cs : List V} {u : V} {k : Nat} (hb : X[p]? = some ⟨cs, 1, 2⟩) (h : cs[k]? = some u) : rd1 X p k = some u := by
  unfold rd1
  rw [hb]
  exact h
theorem rdn_bx {X : Mem} {p : Nat} {cs us : List V} {k n : Nat} (hb : X[p]? = some ⟨cs, 1, 2⟩) (hl : k + n ≤ cs.length) (h : (cs.drop k).take n = us) : rdn X p k n = some us := by
  unfold rdn
  rw [hb]
  simp only
  rw [if_pos ⟨.inr trivial, hl⟩, h]
theorem bshl_pow {k : Nat} (hk : k ≤ 6) : bshl .i64 1 (k : Int) = ((2 ^ k : Nat) : Int) := by
  unfold bshl
  have hp : 2 ^ k ≤ 2 ^ 6 := Nat.pow_le_pow_right (by omega) hk
  have h1 : min ((k : Int).toNat) IntKind.i64.bits = k := by
    have : ((k : Int).toNat) = k := by omega
    rw [this]
    show min k 64 = k
    omega
  rw [h1]
  have e : (1 : Int) * 2 ^ k = ((2 ^ k : Nat) : Int) := by simp
  rw [e]
  generalize (2 : Nat) ^ k = q at *
  exact wrap_i64 (by omega) (by omega)
theorem dfB_f {d : ty_Deep.D} (h : dfB d = false) : deepB d = false := by unfold deepB; rw [h]; rfl
theorem dfB_t {d : ty_Deep.D} (h : dfB d = true) : deepB d = (match orO d.2.2.1, orO d.2.2.2 with
  | some one, some two => dtB d one two
  | _, _ => false) := by
  unfold deepB
  cases orO d.2.2.1 <;> cases orO d.2.2.2 <;> simp [h]
set_option maxRecDepth 20000 in
set_option maxHeartbeats 4000000 in
theorem c_impl_isDeep0 (M : Mem) (cs : List V) (l : Int) (tb : List Int) (x1 x2 : ty_Oram.D) (l1 w1 l2 : Int) (hl1 : x1.1 = l1) (hw1 : x1.2.1 = w1) (hl2 : x2.1 = l2) (aT : Option Addr) (cT : Nat) (o1 o2 : List V) (F : DpF M cs (l, tb, x1, x2) aT cT o1 o2) (ho : cs.all one = true) (hz1 : BlkSz x1.2.2.2.2) (hc1 : x1.2.2.2.1.2.1.length ≤ 1048576) (hz2 : BlkSz x2.2.2.2.2) (hc2 : x2.2.2.2.1.2.1.length ≤ 1048576) (ht : tb.length ≤ 1048576) :
    aCall T0 F_impl_isDeep [.agg cs.toArray] M = some (.bool (deepB (l, tb, x1, x2)), M) := by
  have hl := F.hl
  have hpre : M <+: M ++ [(⟨cs, 1, 2⟩ : Blk)] := List.prefix_append _ _
  have hbx : (M ++ [(⟨cs, 1, 2⟩ : Blk)])[M.length]? = some ⟨cs, 1, 2⟩ := List.getElem?_concat_length
  have f0 := rd1_bx hbx F.c0
  have f1 := rd1_bx hbx F.c1
  have f2 := rd1_bx hbx F.c2
  have f3 := rd1_bx hbx F.c3
  have f9 := rd1_bx hbx F.c9
  have g1 := rdn_bx hbx (by omega) F.n1
  simp only [hl1, hw1, hl2] at f0 f1 f2 f3 f9
  have e1 := fun M => c_impl_isDeepLog M l
  have hdl : (decide (2 ≤ l) && decide (l ≤ 6)) = dlB l := rfl
  rw [hdl] at e1
  have gb := fun b => gc_boolp hpre b
  have hK1 := c_impl_oramBlocksO (M ++ [(⟨cs, 1, 2⟩ : Blk)]) o1 x1 (F.r1.mono hpre) hz1 hc1
  have hff : dfB (l, tb, x1, x2) = (dlB l && (decide (tb.length = 2 ^ Int.toNat (l - 2)) && (decide (l1 = l - 2) && (decide (w1 = 4) && decide (l2 = l))))) := by rw [← hl1, ← hw1, ← hl2]; rfl
  cases h1 : dlB l with
  | false =>
    rw [h1] at e1
    rw [dfB_f (by rw [hff, h1]; rfl)]
    rw [aCall_eq T_impl_isDeep]; unfold A_impl_isDeep C_impl_isDeep; simp [thenD_pp, sliceCells_sl, sliceCells_z, sliceCells_nil, take_full, appS_sl, appK_ok, appS_none, thenD_ag, agP_nil, agP_cons, ho, hl, f0, e1, gb]
  | true =>
  rw [h1] at e1
  have hlr : 2 ≤ l ∧ l ≤ 6 := by unfold dlB at h1; simpa using h1
  obtain ⟨k, hk⟩ : ∃ k : Nat, l - 2 = (k : Int) := ⟨Int.toNat (l - 2), by omega⟩
  have hk4 : k ≤ 4 := by omega
  have hk0 : Int.toNat (l - 2) = k := by omega
  have e2 : IntKind.i64.wrap (l - 2) = (k : Int) := by rw [hk]; exact wrap_i64 (by omega) (by omega)
  have e3 := bshl_pow (k := k) (by omega)
  have hp6 : 2 ^ k ≤ 2 ^ 4 := Nat.pow_le_pow_right (by omega) hk4
  have hkn : ¬ (k : Int) < 0 := by omega
  rw [h1, hk0, hk] at hff
  generalize hq : (2 : Nat) ^ k = q at *
  by_cases h2 : tb.length = q
  · have h2' : (tb.length : Int) = (q : Int) := by omega
    by_cases h3 : l1 = (k : Int)
    · subst h3
      by_cases h4 : w1 = 4
      · subst h4
        by_cases h5 : l2 = l
        · subst h5
          rw [show deepB (l2, tb, x1, x2) = (match orO x1, orO x2 with
            | some one, some two => dtB (l2, tb, x1, x2) one two
            | _, _ => false) from dfB_t (by rw [hff, decide_eq_true h2]; simp)]
          rw [aCall_eq T_impl_isDeep]; unfold A_impl_isDeep C_impl_isDeep; simp [thenD_pp, sliceCells_sl, sliceCells_z, sliceCells_nil, take_full, appS_sl, appK_ok, appS_none, thenD_ag, agP_nil, agP_cons, ho, hl, f0, f1, f2, f3, f9, g1, e1, e2, e3, hkn, h2']
          generalize hx : aCall T0 F_impl_oramBlocks _ _ = xhx
          obtain ⟨_, X1, rfl, r1, L1, rfl, p1, gr1, n1, k1⟩ := of_call hx hK1
          clear hx
          simp only at p1 gr1
          have pM1 := hpre.trans p1
          have hb1 := get_pre p1 hbx
          have g2 := rdn_bx hb1 (by omega) F.n2
          have hK2 := c_impl_oramBlocksO X1 o2 x2 (F.r2.mono pM1) hz2 hc2
          simp [thenD_pp, sliceCells_sl, sliceCells_z, sliceCells_nil, take_full, appS_sl, appK_ok, appS_none, thenD_ag, agP_nil, agP_cons, g2]
          generalize hx : aCall T0 F_impl_oramBlocks _ _ = xhx
          obtain ⟨_, X2, rfl, r2, L2, rfl, p2, gr2, n2, k2⟩ := of_call hx hK2
          clear hx
          simp only at p2 gr2
          have pM2 := pM1.trans p2
          have hb2 := get_pre p2 hb1
          have gb2 := fun b => gc_boolp pM2 b
          obtain ⟨a1, rfl⟩ := gr1.shape
          obtain ⟨a2, rfl⟩ := gr2.shape
          have t1 := rd1_bx hb2 F.c1
          simp only at t1
          cases q1 : orO x1 with
          | none =>
            simp only [Option.isSome_none]
            simp [thenD_pp, sliceCells_sl, sliceCells_z, sliceCells_nil, take_full, appS_sl, appK_ok, appS_none, thenD_ag, agP_nil, agP_cons, gb2]
          | some one =>
            cases q2 : orO x2 with
            | none =>
              simp only [Option.isSome_none, Option.isSome_some]
              simp [thenD_pp, sliceCells_sl, sliceCells_z, sliceCells_nil, take_full, appS_sl, appK_ok, appS_none, thenD_ag, agP_nil, agP_cons, gb2]
            | some two =>
              rw [q1] at gr1
              rw [q2] at gr2
              simp only [Option.isSome_some, Option.getD_some] at gr1 gr2 ⊢
              by_cases h6 : one.length = tb.length
              · have h6' : (one.length : Int) = (tb.length : Int) := by omega
                have t0 := rd1_bx hb2 F.c0
                simp only at t0
                have t1' : rd1 X2 M.length 1 = some (.slice aT one.length cT) := by rw [h6]; exact t1
                have on1 := oram_len q1
                have on2 := oram_len q2
                have key := l_impl_isDeep_0 X2 M.length X2.length l2 (.slice a2 two.length two.length) a1 one.length one (gr1.rep.mono p2) tb aT cT (F.rT.mono pM2) h6 t0 t1 (Nat.le_refl _) on1.1 (fun b hb => by
                  have := oram_dat q1 b hb
                  omega) (X2 ++ [⟨[.slice none 0 0], 1, 2⟩]) ⟨List.prefix_append _ _, _, List.getElem?_concat_length, ⟨rfl, .inl ⟨rfl, rfl⟩⟩, by simp [wfs]⟩
                simp only [FdI, Int.natCast_zero, Int.ofNat_zero] at key
                have hdt : dtB (l2, tb, x1, x2) one two = ((List.range one.length).all (dkB l2 tb one) && two.all (kpB (posD one))) := by unfold dtB; rw [decide_eq_true h6]; rfl
                rw [hdt]
                rcases key with ⟨_, X', hX', hall, e⟩ | ⟨⟨i, hi, hf⟩, fr, X', e, w2, w3⟩
                · have hA : (List.range one.length).all (dkB l2 tb one) = true := List.all_eq_true.2 fun i hi => hall i (List.mem_range.1 hi)
                  rw [hA, Bool.true_and]
                  obtain ⟨pX, v, hb, hg, hqv⟩ := hX'
                  have hpl := posD_len (one := one) (N := 200) (fun b hb => by
                    have := oram_dat q1 b hb
                    omega)
                  have ha := any_sl T_slices_ContainsFunc_impl_Block_impl_Block T_slices_IndexFunc_impl_Block_impl_Block rfl (gr2.rep.mono pX) (by omega) F_impl_isDeep_1 [.pointer (some ⟨X2.length, 0, none⟩)] (fun b => !kpB (posD one) b) (fun i hi cs' hr => c_impl_isDeep_1 X' X2.length v (posD one) _ hb hg (by omega) cs' _ hr (on2.2 _ (List.getElem_mem hi)).1)
                  have hall2 : (two.any fun b => !kpB (posD one) b) = !(two.all (kpB (posD one))) := by rw [List.not_all_eq_any_not]
                  rw [hall2] at ha
                  have gb3 := fun b => gc_boolp (pM2.trans pX) b
                  simp [thenD_pp, sliceCells_sl, sliceCells_z, sliceCells_nil, take_full, appS_sl, appK_ok, appS_none, thenD_ag, agP_nil, agP_cons, t1', e]
                  rw [S_impl_isDeep_0]; unfold B_impl_isDeep_0; simp [thenD_pp, sliceCells_sl, sliceCells_z, sliceCells_nil, take_full, appS_sl, appK_ok, appS_none, thenD_ag, agP_nil, agP_cons, ha, gb3]
                · have hA : (List.range one.length).all (dkB l2 tb one) = false := by
                    rw [List.all_eq_false]
                    exact ⟨i, List.mem_range.2 hi, by rw [hf]; simp⟩
                  rw [hA, Bool.false_and]
                  have gb3 := fun b => gc_boolp (pM2.trans w3) b
                  simp [thenD_pp, sliceCells_sl, sliceCells_z, sliceCells_nil, take_full, appS_sl, appK_ok, appS_none, thenD_ag, agP_nil, agP_cons, t1', e, w2, gb3]
              · have h6' : ¬ (one.length : Int) = (tb.length : Int) := by omega
                rw [show dtB (l2, tb, x1, x2) one two = false by unfold dtB; rw [decide_eq_false h6]; rfl]
                simp [thenD_pp, sliceCells_sl, sliceCells_z, sliceCells_nil, take_full, appS_sl, appK_ok, appS_none, thenD_ag, agP_nil, agP_cons, t1, h6', gb2]
        · rw [dfB_f (by rw [hff, decide_eq_false h5]; simp)]
          rw [aCall_eq T_impl_isDeep]; unfold A_impl_isDeep C_impl_isDeep; simp [thenD_pp, sliceCells_sl, sliceCells_z, sliceCells_nil, take_full, appS_sl, appK_ok, appS_none, thenD_ag, agP_nil, agP_cons, ho, hl, f0, f1, f2, f3, f9, e1, e2, e3, hkn, h2', h5, gb]
      · rw [dfB_f (by rw [hff, decide_eq_false h4]; simp)]
        rw [aCall_eq T_impl_isDeep]; unfold A_impl_isDeep C_impl_isDeep; simp [thenD_pp, sliceCells_sl, sliceCells_z, sliceCells_nil, take_full, appS_sl, appK_ok, appS_none, thenD_ag, agP_nil, agP_cons, ho, hl, f0, f1, f2, f3, e1, e2, e3, hkn, h2', h4, gb]
    · rw [dfB_f (by rw [hff, decide_eq_false h3]; simp)]
      rw [aCall_eq T_impl_isDeep]; unfold A_impl_isDeep C_impl_isDeep; simp [thenD_pp, sliceCells_sl, sliceCells_z, sliceCells_nil, take_full, appS_sl, appK_ok, appS_none, thenD_ag, agP_nil, agP_cons, ho, hl, f0, f1, f2, e1, e2, e3, hkn, h2', h3, gb]
  · have h2' : ¬ (tb.length : Int) = (q : Int) := by omega
    rw [dfB_f (by rw [hff, decide_eq_false h2]; simp)]
    rw [aCall_eq T_impl_isDeep]; unfold A_impl_isDeep C_impl_isDeep; simp [thenD_pp, sliceCells_sl, sliceCells_z, sliceCells_nil, take_full, appS_sl, appK_ok, appS_none, thenD_ag, agP_nil, agP_cons, ho, hl, f0, f1, e1, e2, e3, hkn, h2', gb]
theorem blkSz_of {xs : List ty_Block.D} (h : Bd 1048576 (.sl ty_Block) xs) : BlkSz xs := ⟨h.1, fun x hx => (h.2 x hx).2.2.1⟩
theorem oram_bd {x : ty_Oram.D} (h : Bd 1048576 ty_Oram x) : BlkSz x.2.2.2.2 ∧ x.2.2.2.1.2.1.length ≤ 1048576 ∧ ∀ c ∈ x.2.2.2.1.2.1, List.length (α := UInt8) c ≤ 1048576 := ⟨blkSz_of h.2.2.2.2, h.2.2.2.1.2.1.1, fun c hc => (h.2.2.2.1.2.1.2 c hc).1⟩
theorem deep_bd {d : ty_Deep.D} (h : Bd 1048576 ty_Deep d) : (BlkSz d.2.2.1.2.2.2.2 ∧ d.2.2.1.2.2.2.1.2.1.length ≤ 1048576 ∧ ∀ c ∈ d.2.2.1.2.2.2.1.2.1, List.length (α := UInt8) c ≤ 1048576) ∧ (BlkSz d.2.2.2.2.2.2.2 ∧ d.2.2.2.2.2.2.1.2.1.length ≤ 1048576 ∧ ∀ c ∈ d.2.2.2.2.2.2.1.2.1, List.length (α := UInt8) c ≤ 1048576) ∧ d.2.1.length ≤ 1048576 := ⟨oram_bd h.2.2.1, oram_bd h.2.2.2, h.2.1.1⟩
theorem c_impl_isDeep (M : Mem) (cs : List V) (d : ty_Deep.D) (h : Rep ty_Deep M cs d) (hb : Bd 1048576 ty_Deep d) : aCall T0 F_impl_isDeep [.agg cs.toArray] M = some (.bool (deepB d), M) := by
  have ho := h.one
  obtain ⟨⟨a1, a2, _⟩, ⟨b1, b2, _⟩, c⟩ := deep_bd hb
  obtain ⟨aT, cT, o1, o2, F⟩ := deep_shape h
  obtain ⟨l, tb, x1, x2⟩ := d
  exact c_impl_isDeep0 M cs l tb x1 x2 _ _ _ rfl rfl rfl aT cT o1 o2 F ho a1 a2 b1 b2 c
theorem d_impl_DeepOk (M : Mem) (cs : List V) (d : ty_Deep.D) (h : Rep ty_Deep M cs d) (hb : Bd 1048576 ty_Deep d) : aCall T0 F_impl_DeepOk [.agg cs.toArray] M = some (.bool (deepB d), M) := by
  have ho := h.one
  have hl : cs.length = 16 := h.len
  have key := c_impl_isDeep (M ++ [(⟨cs, 1, 2⟩ : Blk)]) cs d (h.mono (List.prefix_append _ _)) hb
  have gb := fun b => gc_boolp (List.prefix_append M [(⟨cs, 1, 2⟩ : Blk)]) b
  rw [aCall_eq T_impl_DeepOk]; unfold A_impl_DeepOk C_impl_DeepOk; simp [thenD_pp, sliceCells_sl, sliceCells_z, sliceCells_nil, take_full, appS_sl, appK_ok, appS_none, thenD_ag, agP_nil, agP_cons, ho, hl, key, gb]
theorem c_spec_l16Log (M : Mem) (x : Int) : aCall T0 F_spec_l16Log [.int .i64 x] M = some (.bool (decide (2 ≤ x) && decide (x ≤ 6)), M) := by
  rw [aCall_eq T_spec_l16Log]; unfold A_spec_l16Log C_spec_l16Log; simp
  repeat' ((first | rw [selO_some] | rw [condR_bool] | rw [selD_some]); split <;> rename_i hq <;> (have hq2 := hq) <;> (try simp at hq2) <;> (try simp [*]))
theorem l_spec_l02Pow (M : Mem) : ∀ (n : Nat) (x : Int), 0 ≤ x → x * 2 ^ n ≤ 4611686018427387904 → n ≤ 1000 →
    ∃ e0 e1 e2 e4 e5 e6 e7 e8 e9 e10, lp (aCall T0) K_spec_l02Pow_0 L_spec_l02Pow_0 [.int .i64 n, und, und, .int .i64 x, und, und, und, und, und, und, und] M = some (.exit 0, [e0, e1, e2, .int .i64 (x * 2 ^ n), e4, e5, e6, e7, e8, e9, e10], M)
  | 0, x, _, _, _ => by
    rw [S_spec_l02Pow_0]; unfold B_spec_l02Pow_0; simp
  | n + 1, x, h0, h1, h2 => by
    have hp : (1 : Int) ≤ 2 ^ n := by
      have : (0 : Int) < 2 ^ n := Int.pow_pos (by omega)
      omega
    have e : x * 2 ^ (n + 1) = 2 * x * 2 ^ n := by rw [Int.pow_succ, ← Int.mul_assoc, Int.mul_right_comm, Int.mul_comm x 2]
    rw [e] at h1
    have hx : 2 * x ≤ 2 * x * 2 ^ n := by
      have := Int.mul_le_mul_of_nonneg_left hp (show (0 : Int) ≤ 2 * x by omega)
      simpa using this
    have ih := l_spec_l02Pow M n (2 * x) (by omega) h1 (by omega)
    rw [e]
    rw [S_spec_l02Pow_0]; unfold B_spec_l02Pow_0; simp
    rw [wrap_i64 (z := 2 * x) (by omega) (by omega), wrap_i64 (z := n) (by omega) (by omega)]
    exact ih
theorem c_spec_l02Pow (M : Mem) (n : Nat) (h : n ≤ 60) : aCall T0 F_spec_l02Pow [.int .i64 n] M = some (.int .i64 (2 ^ n), M) := by
  obtain ⟨e0, e1, e2, e4, e5, e6, e7, e8, e9, e10, ih⟩ := l_spec_l02Pow M n 1 (by omega) (by
    have : (2 : Int) ^ n ≤ 2 ^ 60 := pow2_le h
    omega) (by omega)
  rw [aCall_eq T_spec_l02Pow]; unfold A_spec_l02Pow C_spec_l02Pow; simp [ih]
theorem c_spec_l11Log (M : Mem) (x : Int) : aCall T0 F_spec_l11Log [.int .i64 x] M = some (.bool (decide (0 ≤ x) && decide (x ≤ 6)), M) := by
  rw [aCall_eq T_spec_l11Log]; unfold A_spec_l11Log C_spec_l11Log; simp
  repeat' ((first | rw [selO_some] | rw [condR_bool] | rw [selD_some]); split <;> rename_i hq <;> (have hq2 := hq) <;> (try simp at hq2) <;> (try simp [*]))
theorem c_spec_l11Leaf (M : Mem) (l x : Int) : aCall T0 F_spec_l11Leaf [.int .i64 l, .int .i64 x] M = some (.bool (leafB l x), M) := by
  unfold leafB
  cases h : lgB l with
  | false =>
    have e : (decide (0 ≤ l) && decide (l ≤ 6)) = false := h
    rw [aCall_eq T_spec_l11Leaf]; unfold A_spec_l11Leaf C_spec_l11Leaf; simp [c_spec_l11Log, e]
  | true =>
    have e : (decide (0 ≤ l) && decide (l ≤ 6)) = true := h
    obtain ⟨m, rfl, hm⟩ := log_nat h
    have e2 := fun M => (c_spec_l11Log M m).trans (by rw [e])
    have e3 := fun M => c_spec_l02Pow M m (by omega)
    by_cases h1 : 0 ≤ x
    · rw [aCall_eq T_spec_l11Leaf]; unfold A_spec_l11Leaf C_spec_l11Leaf; simp [e2, e3, h1]
    · rw [aCall_eq T_spec_l11Leaf]; unfold A_spec_l11Leaf C_spec_l11Leaf; simp [e2, e3, h1]
theorem c_spec_l12Frame (M : Mem) (l w : Int) : aCall T0 F_spec_l12Frame [.int .i64 l, .int .i64 w] M = some (.bool (decide (0 ≤ l) && decide (l ≤ 6) && (decide (1 ≤ w) && decide (w ≤ 200))), M) := by
  rw [aCall_eq T_spec_l12Frame]; unfold A_spec_l12Frame C_spec_l12Frame; simp [c_spec_l11Log]
  rcases hp : (decide (0 ≤ l) && decide (l ≤ 6)) with _ | _
  · simp [hp]
  · simp [hp]
    by_cases h1 : 1 ≤ w <;> simp [h1]
theorem c_spec_BlockOk (M : Mem) (cs : List V) (b : ty_Block.D) (h : Rep ty_Block M cs b) (l w : Int) : aCall T0 F_spec_BlockOk [.agg cs.toArray, .int .i64 l, .int .i64 w] M = some (.bool (blockB l w b), M) := by
  obtain ⟨u, rfl, w0, w1, hr⟩ := rep_g_Block h
  obtain ⟨a, c, rfl⟩ := hr.slen
  unfold blockB
  have e1 := fun M => c_spec_l12Frame M l w
  have e2 := fun M => c_spec_l11Leaf M l b.2.1
  cases h1 : lgB l && wdB w with
  | false =>
    have h1 : (decide (0 ≤ l) && decide (l ≤ 6) && (decide (1 ≤ w) && decide (w ≤ 200))) = false := h1
    rw [aCall_eq T_spec_BlockOk]; unfold A_spec_BlockOk C_spec_BlockOk; simp [e1, h1]
  | true =>
    have h1 : (decide (0 ≤ l) && decide (l ≤ 6) && (decide (1 ≤ w) && decide (w ≤ 200))) = true := h1
    unfold bidB
    by_cases h2 : 0 ≤ b.1
    · by_cases h3 : b.1 ≤ 255
      · cases h4 : leafB l b.2.1
        · rw [aCall_eq T_spec_BlockOk]; unfold A_spec_BlockOk C_spec_BlockOk; simp [e1, h1, h2, h3, e2, h4]
        · rw [aCall_eq T_spec_BlockOk]; unfold A_spec_BlockOk C_spec_BlockOk; simp [e1, h1, h2, h3, e2, h4]
      · rw [aCall_eq T_spec_BlockOk]; unfold A_spec_BlockOk C_spec_BlockOk; simp [e1, h1, h2, h3, e2]
    · rw [aCall_eq T_spec_BlockOk]; unfold A_spec_BlockOk C_spec_BlockOk; simp [e1, h1, h2, e2]
theorem l_spec_BlocksOk_0 (M : Mem) (a : Option Addr) (c : Nat) (xs : List ty_Block.D) (l w : Int) (h : Rep (.sl ty_Block) M [.slice a xs.length c] xs) (hn : xs.length ≤ 1048576) :
    ((∀ i, i < xs.length → stepB l w xs i = true) ∧ lp (aCall T0) K_spec_BlocksOk_0 L_spec_BlocksOk_0 [.slice a xs.length c, .int .i64 l, .int .i64 w, und, und, und, und, .int .i64 (0 : Nat), und, und, und, und, und, und, und, und, und, und, und, und, und, und, und, und, und, und, und, und, und, und, und, und, und, und, und, und, und, und, und, und, und, und, und, und] M = lp (aCall T0) K_spec_BlocksOk_0 L_spec_BlocksOk_0 [.slice a xs.length c, .int .i64 l, .int .i64 w, und, und, und, und, .int .i64 xs.length, und, und, und, und, und, und, und, und, und, und, und, und, und, und, und, und, und, und, und, und, und, und, und, und, und, und, und, und, und, und, und, und, und, und, und, und] M) ∨
    ((∃ i, i < xs.length ∧ stepB l w xs i = false) ∧ ∀ k, thenF M [.tmp 6] (thenS (blockR 0 (lp (aCall T0) K_spec_BlocksOk_0 L_spec_BlocksOk_0 [.slice a xs.length c, .int .i64 l, .int .i64 w, und, und, und, und, .int .i64 (0 : Nat), und, und, und, und, und, und, und, und, und, und, und, und, und, und, und, und, und, und, und, und, und, und, und, und, und, und, und, und, und, und, und, und, und, und, und, und] M)) (aCall T0) k) = some (.bool false, M)) := by
  have key := loop_ok (call := aCall T0) (K := K_spec_BlocksOk_0) (L := L_spec_BlocksOk_0) (fun _ Y => Y = M) (fun i => [.slice a xs.length c, .int .i64 l, .int .i64 w, und, und, und, und, .int .i64 i, und, und, und, und, und, und, und, und, und, und, und, und, und, und, und, und, und, und, und, und, und, und, und, und, und, und, und, und, und, und, und, und, und, und, und, und]) (stepB l w xs) (n := xs.length) (M0 := M) (rs := [.tmp 6]) (k0 := 0) (a := .bool false) M rfl ?_ ?_
  · rcases key with ⟨X', rfl, h1, h2⟩ | h
    · exact .inl ⟨h1, h2⟩
    · exact .inr h
  · intro i Y hi hq e
    subst e
    have e6 : IntKind.i64.wrap ((i : Int) + 1) = i + 1 := wrap_i64 (by omega) (by omega)
    have e8 : IntKind.i64.wrap 1 = 1 := wrap_i64 (by omega) (by omega)
    obtain ⟨b, o, u, rfl, q1, q2, q3, q4, _, _, qu, qr⟩ := at_Block h hi
    have hc := c_spec_BlockOk Y _ _ qr l w
    rcases Nat.eq_zero_or_pos i with h0 | h0
    · subst h0
      rw [stepB_zero hi] at hq
      refine ⟨Y, rfl, ?_⟩
      simp only [Int.natCast_zero, Int.ofNat_zero, Nat.zero_mul, Nat.add_zero] at *
      rw [S_spec_BlocksOk_0]; unfold B_spec_BlocksOk_0; simp [thenD_pp, sliceCells_sl, sliceCells_z, sliceCells_nil, take_full, appS_sl, appK_ok, appS_none, thenD_ag, agP_nil, agP_cons, hi, q4, hc, hq, e6, e8]
    · rw [stepB_pos hi h0, Bool.and_eq_true] at hq
      have hi' : (0 : Int) < (i : Int) := by omega
      have e7 : IntKind.i64.wrap ((i : Int) - 1) = ((i - 1 : Nat) : Int) := by rw [wrap_i64 (by omega) (by omega)]; omega
      obtain ⟨b', o', u', e, q1', _⟩ := at_Block h (i := i - 1) (by omega)
      cases e
      have hlt := of_decide_eq_true hq.2
      have hge : ¬ (xs[i].1 ≤ (xs[i - 1]'(by omega)).1) := Int.not_le.2 hlt
      have hi1 : i - 1 < xs.length := by omega
      refine ⟨Y, rfl, ?_⟩
      rw [S_spec_BlocksOk_0]; unfold B_spec_BlocksOk_0; simp [thenD_pp, sliceCells_sl, sliceCells_z, sliceCells_nil, take_full, appS_sl, appK_ok, appS_none, thenD_ag, agP_nil, agP_cons, hi, q4, hc, hq.1, e6, hi', h0, e7, q1', q1, hge, hi1]
  · intro i Y hi hq e k
    subst e
    have e6 : IntKind.i64.wrap ((i : Int) + 1) = i + 1 := wrap_i64 (by omega) (by omega)
    have e8 : IntKind.i64.wrap 1 = 1 := wrap_i64 (by omega) (by omega)
    obtain ⟨b, o, u, rfl, q1, q2, q3, q4, _, _, qu, qr⟩ := at_Block h hi
    have hc := c_spec_BlockOk Y _ _ qr l w
    rcases Nat.eq_zero_or_pos i with h0 | h0
    · subst h0
      rw [stepB_zero hi] at hq
      simp only [Int.natCast_zero, Int.ofNat_zero, Nat.zero_mul, Nat.add_zero] at *
      rw [S_spec_BlocksOk_0]; unfold B_spec_BlocksOk_0; simp [thenD_pp, sliceCells_sl, sliceCells_z, sliceCells_nil, take_full, appS_sl, appK_ok, appS_none, thenD_ag, agP_nil, agP_cons, hi, q4, hc, hq, e6, e8]
    · rw [stepB_pos hi h0] at hq
      have hi' : (0 : Int) < (i : Int) := by omega
      have e7 : IntKind.i64.wrap ((i : Int) - 1) = ((i - 1 : Nat) : Int) := by rw [wrap_i64 (by omega) (by omega)]; omega
      obtain ⟨b', o', u', e, q1', _⟩ := at_Block h (i := i - 1) (by omega)
      cases e
      have hi1 : i - 1 < xs.length := by omega
      cases hb : blockB l w xs[i] with
      | false =>
        rw [hb] at hc
        rw [S_spec_BlocksOk_0]; unfold B_spec_BlocksOk_0; simp [thenD_pp, sliceCells_sl, sliceCells_z, sliceCells_nil, take_full, appS_sl, appK_ok, appS_none, thenD_ag, agP_nil, agP_cons, hi, q4, hc, e6]
      | true =>
        rw [hb] at hc
        rw [hb, Bool.true_and] at hq
        have hlt := of_decide_eq_false hq
        have hge : xs[i].1 ≤ (xs[i - 1]'(by omega)).1 := Int.not_lt.1 hlt
        rw [S_spec_BlocksOk_0]; unfold B_spec_BlocksOk_0; simp [thenD_pp, sliceCells_sl, sliceCells_z, sliceCells_nil, take_full, appS_sl, appK_ok, appS_none, thenD_ag, agP_nil, agP_cons, hi, q4, hc, e6, hi', h0, e7, q1', q1, hge, hi1]
theorem c_spec_BlocksOk (M : Mem) (v : V) (xs : List ty_Block.D) (l w : Int) (h : Rep (.sl ty_Block) M [v] xs) (hn : xs.length ≤ 1048576) : aCall T0 F_spec_BlocksOk [v, .int .i64 l, .int .i64 w] M = some (.bool (blocksB l w xs), M) := by
  obtain ⟨a, c, rfl⟩ := h.slen
  have e1 := c_spec_l12Frame M l w
  unfold blocksB
  cases h1 : lgB l && wdB w with
  | false =>
    have h1 : (decide (0 ≤ l) && decide (l ≤ 6) && (decide (1 ≤ w) && decide (w ≤ 200))) = false := h1
    rw [aCall_eq T_spec_BlocksOk]; unfold A_spec_BlocksOk C_spec_BlocksOk; simp [thenD_pp, sliceCells_sl, sliceCells_z, sliceCells_nil, take_full, appS_sl, appK_ok, appS_none, thenD_ag, agP_nil, agP_cons, e1, h1]
  | true =>
    have h1 : (decide (0 ≤ l) && decide (l ≤ 6) && (decide (1 ≤ w) && decide (w ≤ 200))) = true := h1
    rcases l_spec_BlocksOk_0 M a c xs l w h hn with ⟨ha, e⟩ | ⟨hx, e⟩
    · simp only [Int.natCast_zero, Int.ofNat_zero] at e
      rw [rall_all ha]
      rw [aCall_eq T_spec_BlocksOk]; unfold A_spec_BlocksOk C_spec_BlocksOk; simp [thenD_pp, sliceCells_sl, sliceCells_z, sliceCells_nil, take_full, appS_sl, appK_ok, appS_none, thenD_ag, agP_nil, agP_cons, e1, h1, e]
      rw [S_spec_BlocksOk_0]; unfold B_spec_BlocksOk_0; simp [thenD_pp, sliceCells_sl, sliceCells_z, sliceCells_nil, take_full, appS_sl, appK_ok, appS_none, thenD_ag, agP_nil, agP_cons]
    · simp only [Int.natCast_zero, Int.ofNat_zero] at e
      rw [rall_not hx]
      rw [aCall_eq T_spec_BlocksOk]; unfold A_spec_BlocksOk C_spec_BlocksOk; simp [thenD_pp, sliceCells_sl, sliceCells_z, sliceCells_nil, take_full, appS_sl, appK_ok, appS_none, thenD_ag, agP_nil, agP_cons, e1, h1, e]
theorem c_spec_StashOk (M : Mem) (v : V) (xs : List ty_Block.D) (l w : Int) (h : Rep (.sl ty_Block) M [v] xs) (hn : xs.length ≤ 1048576) : aCall T0 F_spec_StashOk [v, .int .i64 l, .int .i64 w] M = some (.bool (stashB l w xs), M) := by
  have e1 := c_spec_BlocksOk M v xs l w h hn
  obtain ⟨a, c, rfl⟩ := h.slen
  unfold stashB
  by_cases hs : xs.length ≤ 128
  · have hs' : (xs.length : Int) ≤ 128 := by omega
    rw [aCall_eq T_spec_StashOk]; unfold A_spec_StashOk C_spec_StashOk; simp [thenD_pp, sliceCells_sl, sliceCells_z, sliceCells_nil, take_full, appS_sl, appK_ok, appS_none, thenD_ag, agP_nil, agP_cons, e1, hs, hs']
  · have hs' : ¬ (xs.length : Int) ≤ 128 := by omega
    rw [aCall_eq T_spec_StashOk]; unfold A_spec_StashOk C_spec_StashOk; simp [thenD_pp, sliceCells_sl, sliceCells_z, sliceCells_nil, take_full, appS_sl, appK_ok, appS_none, thenD_ag, agP_nil, agP_cons, e1, hs, hs']
def NsV (M : Mem) (ok : Bool) (xs : List ty_Node.D) (p : V × Mem) : Prop := ∃ r L, p.1 = .tuple #[r, .bool ok] ∧ M <+: p.2 ∧ Gr (.sl ty_Node) p.2 [r] xs L ∧ L.Nodup ∧ ∀ j ∈ L, M.length ≤ j
def ndAt (l w : Int) (cells : List ty_Cell.D) (i : Nat) : Bool := match cells[i]? with
  | some c => ndOk l w c
  | none => true
theorem ndAt_get {l w : Int} {cells : List ty_Cell.D} {i : Nat} (hi : i < cells.length) : ndAt l w cells i = ndOk l w cells[i] := by unfold ndAt; rw [List.getElem?_eq_getElem hi]
theorem c_spec_NodeOk (M : Mem) (u : V) (bs : List ty_Block.D) (l w : Int) (h : Rep (.sl ty_Block) M [u] bs) (hn : bs.length ≤ 1048576) : aCall T0 F_spec_NodeOk [.agg #[u], .int .i64 l, .int .i64 w] M = some (.bool (decide (bs.length ≤ 4) && blocksB l w bs), M) := by
  have hp : M <+: M ++ [(⟨[u], 1, 2⟩ : Blk)] := List.prefix_append _ _
  have e1 := c_spec_BlocksOk _ u bs l w (h.mono hp) hn
  obtain ⟨a, c, rfl⟩ := h.slen
  by_cases h4 : bs.length ≤ 4
  · have h4' : (bs.length : Int) ≤ 4 := by omega
    rw [decide_eq_true h4, Bool.true_and]
    rw [aCall_eq T_spec_NodeOk]; unfold A_spec_NodeOk C_spec_NodeOk; simp [thenD_pp, sliceCells_sl, sliceCells_z, sliceCells_nil, take_full, appS_sl, appK_ok, appS_none, thenD_ag, agP_nil, agP_cons, h4, h4', e1]
  · have h4' : ¬ (bs.length : Int) ≤ 4 := by omega
    rw [decide_eq_false h4, Bool.false_and]
    rw [aCall_eq T_spec_NodeOk]; unfold A_spec_NodeOk C_spec_NodeOk; simp [thenD_pp, sliceCells_sl, sliceCells_z, sliceCells_nil, take_full, appS_sl, appK_ok, appS_none, thenD_ag, agP_nil, agP_cons, h4, h4', e1]
set_option maxHeartbeats 1000000 in
theorem l_spec_NodeOf_0 (M0 : Mem) (w p : Nat) (a : Option Addr) (c : Nat) (bs : List ty_Block.D) (hp : M0[p]? = some ⟨[.slice a bs.length c], 1, 2⟩) (h : Rep (.sl ty_Block) M0 [.slice a bs.length c] bs) (hn : bs.length ≤ 1000) (hw : w ≤ 200) (hk : BkOk w bs) (v : V) (Z : Mem) (hZ : NoI M0 [] v Z) :
    ∃ v' X', NoI M0 bs v' X' ∧ lp (aCall T0) K_spec_NodeOf_0 L_spec_NodeOf_0 [und, und, .int .i64 (w : Int), .pointer (some ⟨p, 0, none⟩), und, und, und, v, .int .i64 (0 : Nat), und, und, und, und, und, und, und, und, und, und, und, und, und, und, und, und, und, und, und, und, und, und, und, und, und, und, und, und, und, und, und, und, und, und, und, und, und, und, und, und, und, und, und, und, und] Z = lp (aCall T0) K_spec_NodeOf_0 L_spec_NodeOf_0 [und, und, .int .i64 (w : Int), .pointer (some ⟨p, 0, none⟩), und, und, und, v', .int .i64 bs.length, und, und, und, und, und, und, und, und, und, und, und, und, und, und, und, und, und, und, und, und, und, und, und, und, und, und, und, und, und, und, und, und, und, und, und, und, und, und, und, und, und, und, und, und, und] X' := by
  have key := loop_to (call := aCall T0) (K := K_spec_NodeOf_0) (L := L_spec_NodeOf_0) (fun i v X => NoI M0 (bs.take i) v X) (fun i v => [und, und, .int .i64 (w : Int), .pointer (some ⟨p, 0, none⟩), und, und, und, v, .int .i64 i, und, und, und, und, und, und, und, und, und, und, und, und, und, und, und, und, und, und, und, und, und, und, und, und, und, und, und, und, und, und, und, und, und, und, und, und, und, und, und, und, und, und, und, und, und]) (n := bs.length) ?_ 0 v Z (by omega) (by simpa using hZ)
  · rw [List.take_length] at key
    exact key
  intro i v X hi ⟨pX, hg⟩
  have e6 : IntKind.i64.wrap ((i : Int) + 1) = i + 1 := wrap_i64 (by omega) (by omega)
  have hkt : BkOk w (bs.take i) := fun b hb => hk b (List.mem_of_mem_take hb)
  have hlen := blksY_len hkt
  have hle : (bs.take i).length * (w + 3) ≤ 1000 * 203 := Nat.mul_le_mul (by rw [List.length_take]; omega) (by omega)
  obtain ⟨l, o, u, rfl, q1, q2, q3, _, _, _, hq0, _⟩ := at_Block h hi
  have hki := hk _ (List.getElem_mem hi)
  unfold NoI
  rw [blksY_succ hi]
  have hp0 : rd1 M0 p 0 = some (.slice (some ⟨l, o, none⟩) bs.length c) := rd1_of_rdn (rdn_box hp rfl) (k := 0) rfl
  generalize bs[i] = b at *
  generalize blksY (bs.take i) = ys at *
  obtain ⟨b1, b2, b3⟩ := b
  simp only at q1 q2 q3 hki hq0
  obtain ⟨h1, h2, h3⟩ := hki
  obtain ⟨y1, z1⟩ := byte_int h1
  obtain ⟨y2, z2⟩ := byte_int h2
  obtain ⟨ua, uc, hu, hsc⟩ := cells_Byte hq0
  cases hu
  have hll : ∀ x ∈ wfs v, M0.length ≤ x := hg.ge
  have hlp := get_lt hp
  have hlM : l < M0.length := rd1_lt q1
  obtain ⟨av, rfl⟩ := hg.shape
  have r0 := r1_pre pX hp0
  have r1 := r1_pre pX q1
  have r2 := r1_pre pX q2
  have hA : ∀ zs : List Nat, (∀ y ∈ zs, y = l ∨ y = p) → hits (wfs (.slice av ys.length ys.length)) zs = false := fun zs hz => hits_ge (K := M0.length) hll (fun y hy => by rcases hz y hy with h | h <;> omega)
  have hA2 := hA [l, p, l, p] (by simp)
  rw [S_spec_NodeOf_0]; unfold B_spec_NodeOf_0; simp [thenD_pp, sliceCells_sl, sliceCells_z, sliceCells_nil, take_full, appS_sl, appK_ok, appS_none, thenD_ag, agP_nil, agP_cons, hi, r0, r1, r2, zeroCells, z1, z2]
  generalize hy : appS _ _ _ _ _ _ = xhy
  obtain ⟨a2, X2, rfl, hg2, ag2, hl2, hw2⟩ := grow_app hg hy (List.prefix_append _ _) (by have := pX.length_le; omega) (by rfl) (by rfl) (by omega) (by omega)
  clear hy
  have hpX : M0 <+: X2 := ag2.pre (pf_app pX) hg.ge
  have r02 := r1_pre hpX hp0
  have r32 := r1_pre hpX q3
  obtain ⟨_, _, hu2, hsc2⟩ := cells_Byte (hq0.mono hpX)
  cases hu2
  simp [thenD_pp, sliceCells_sl, sliceCells_z, sliceCells_nil, take_full, appS_sl, appK_ok, appS_none, thenD_ag, agP_nil, agP_cons, thenD_agree, ag2, hA2, hi, r02, r32, hsc2]
  generalize hy : appS _ _ _ _ _ _ = xhy
  obtain ⟨a3, X3, rfl, hg3, ag3, hl3, hw3⟩ := grow_app hg2 hy (List.prefix_refl _) (by have := hpX.length_le; omega) (by simp) (map_byte_all _) (by omega) (by omega)
  clear hy
  have hpX3 : M0 <+: X3 := ag3.pre hpX hg2.ge
  simp [thenD_pp, sliceCells_sl, sliceCells_z, sliceCells_nil, take_full, appS_sl, appK_ok, appS_none, thenD_ag, agP_nil, agP_cons, e6]
  refine ⟨_, X3, ⟨hpX3, ?_⟩, rfl⟩
  have hl4 : (blkY (b1, b2, b3)).length = 3 + List.length (α := UInt8) b3 := blkY_len _
  have hc4 : (blkY (b1, b2, b3)).map byteV = [.int .u8 1, .int .u8 b1, .int .u8 b2] ++ List.map byteV b3 := by
    unfold blkY
    simp only [List.map_cons, byteV_one, y1, y2]
    rfl
  rw [hl4, hc4]
  simpa [Nat.add_assoc] using hg3
theorem c_spec_NodeSize (M : Mem) (w sz : Nat) (h1 : 1 ≤ w) (h2 : w ≤ 200) (hs : (sz : Int) = 4 * ((w : Int) + 3)) : aCall T0 F_spec_NodeSize [.int .i64 w] M = some (.int .i64 sz, M) := by
  have e1 : IntKind.i64.wrap ((w : Int) + 3) = w + 3 := wrap_i64 (by omega) (by omega)
  have e2 : IntKind.i64.wrap (4 * ((w : Int) + 3)) = sz := by rw [hs]; exact wrap_i64 (by omega) (by omega)
  have g1 : ¬ (w : Int) < 1 := by omega
  have g2 : ¬ 200 < (w : Int) := by omega
  rw [aCall_eq T_spec_NodeSize]; unfold A_spec_NodeSize C_spec_NodeSize; simp [g1, g2, e1, e2]
theorem c_spec_NodeOf (M : Mem) (u : V) (bs : List ty_Block.D) (l : Int) (w : Nat) (h : Rep (.sl ty_Block) M [u] bs) (hn : bs.length ≤ 1048576) (hw : w ≤ 200) (hw1 : 1 ≤ w) : Sat (aCall T0 F_spec_NodeOf [.agg #[u], .int .i64 l, .int .i64 (w : Int)] M) (Bytes M (if (decide (bs.length ≤ 4) && blocksB l w bs) = true then ndY w bs else [])) := by
  have hpre : M <+: M ++ [(⟨[u], 1, 2⟩ : Blk)] := List.prefix_append _ _
  have e0 := c_spec_NodeOk _ u bs l w (h.mono hpre) hn
  obtain ⟨a, c, rfl⟩ := h.slen
  have hpr : rdn (M ++ [(⟨[.slice a bs.length c], 1, 2⟩ : Blk)]) M.length 0 1 = some [.slice a bs.length c] := rdn_box (by simp) rfl
  cases hb : decide (bs.length ≤ 4) && blocksB l w bs with
  | false =>
    rw [hb] at e0
    rw [aCall_eq T_spec_NodeOf]; unfold A_spec_NodeOf C_spec_NodeOf; simp [thenD_pp, sliceCells_sl, sliceCells_z, sliceCells_nil, take_full, appS_sl, appK_ok, appS_none, thenD_ag, agP_nil, agP_cons, e0, hpr]
    exact ⟨(_, _), rfl, 0, rfl, hpre, Grow.nil⟩
  | true =>
    rw [hb] at e0
    rw [if_pos rfl]
    rw [Bool.and_eq_true] at hb
    have h4 := of_decide_eq_true hb.1
    have hlg : lgB l = true := by
      have := hb.2
      unfold blocksB at this
      simp only [Bool.and_eq_true] at this
      exact this.1.1
    obtain ⟨m, rfl, hm⟩ := log_nat hlg
    have hk := bk_of hm hb.2
    obtain ⟨v', X', ⟨pX, hg⟩, e⟩ := l_spec_NodeOf_0 (M ++ [⟨[.slice a bs.length c], 1, 2⟩]) w M.length a c bs (by simp) (h.mono hpre) (by omega) hw hk (.slice (some ⟨M.length + 1, 0, none⟩) 0 0) (M ++ [⟨[.slice a bs.length c], 1, 2⟩, ⟨[], 1, 2⟩]) ⟨by simp, by simp, .inr ⟨M.length + 1, by simp, rfl, by simp [blksY]⟩⟩
    simp only [Int.natCast_zero, Int.ofNat_zero] at e
    have hlen := blksY_len hk
    have hle : bs.length * (w + 3) ≤ 4 * (w + 3) := Nat.mul_le_mul_right _ h4
    have e1 := fun X => c_spec_NodeSize X w (4 * (w + 3)) hw1 hw (by omega)
    have e3 : IntKind.i64.wrap (((4 * (w + 3) : Nat) : Int) - ((blksY bs).length : Int)) = ((4 * (w + 3) - (blksY bs).length : Nat) : Int) := by rw [wrap_i64 (by omega) (by omega)]; omega
    have hbd1 : (((4 * (w + 3) - (blksY bs).length : Nat) : Int)) ≤ 9223372036854775807 := by omega
    have hbd2 : (((4 * (w + 3) - (blksY bs).length : Nat) : Int)) ≤ 281474976710656 := by omega
    obtain ⟨v2, X2, q, g2⟩ := bg_padz (⟨_, rfl, pX, hg⟩ : BG (M ++ [⟨[.slice a bs.length c], 1, 2⟩]) X' v' (blksY bs)) rfl (4 * (w + 3) - (blksY bs).length) (by omega)
    obtain ⟨av, rfl⟩ := hg.shape
    obtain ⟨n2, hn2, hp2, hg2⟩ := id g2
    obtain ⟨a2, rfl⟩ := hg2.shape
    generalize hm : 4 * (w + 3) - (blksY bs).length = mm at *
    generalize hsz : 4 * (w + 3) = sz at *
    have hp1 := r1_pre pX (rd1_of_rdn hpr (k := 0) rfl)
    rw [aCall_eq T_spec_NodeOf]; unfold A_spec_NodeOf C_spec_NodeOf; simp [thenD_pp, sliceCells_sl, sliceCells_z, sliceCells_nil, take_full, appS_sl, appK_ok, appS_none, thenD_ag, agP_nil, agP_cons, e0, hpr, e, zeroCells]
    rw [S_spec_NodeOf_0]; unfold B_spec_NodeOf_0; simp [thenD_pp, sliceCells_sl, sliceCells_z, sliceCells_nil, take_full, appS_sl, appK_ok, appS_none, thenD_ag, agP_nil, agP_cons, hp1, e1, e3, q, hbd1, hbd2]
    refine ⟨(_, X2), rfl, n2, ?_, hpre.trans hp2, ?_⟩
    · unfold ndY; rw [hsz, hm]; exact hn2
    · unfold ndY; rw [hsz, hm]; exact hg2.le (by simp)
def SnI (M : Mem) (xs : List ty_Block.D) (X : Mem) : Prop := ∃ v L, M <+: X ∧ X[M.length]? = some ⟨[.slice none 0 0], 1, 2⟩ ∧ X[M.length + 1]? = some ⟨[v], 1, 2⟩ ∧ Gr (.sl ty_Block) X [v] xs L ∧ L.Nodup ∧ ∀ j ∈ L, M.length + 2 ≤ j
set_option maxHeartbeats 2000000 in
theorem l_spec_NodeRead_0 (M : Mem) (a : Option Addr) (c : Nat) (ys : List UInt8) (w : Nat) (lg : V) (h : Rep (.sl ty_Byte) M [.slice a ys.length c] ys) (hw : w ≤ 200) (hw1 : 1 ≤ w) (hl : ys.length = 4 * (w + 3)) (Z : Mem) (hZ : SnI M [] Z) :
    ∃ (v' : Nat) (X' : Mem), SnI M (ndB w ys) X' ∧ lp (aCall T0) K_spec_NodeRead_0 L_spec_NodeRead_0 [.slice a ys.length c, lg, .int .i64 (w : Int), und, und, und, .pointer (some ⟨M.length, 0, none⟩), und, .pointer (some ⟨M.length + 1, 0, none⟩), .int .i64 ((0 * (w + 3) : Nat) : Int), und, und, und, und, und, und, und, und, und, und, und, und, und, und, und, und, und, und, und, und, und, und, und, und, und, und, und, und, und, und, und, und, und, und, und, und, und, und, und, und, und, und, und, und, und, und, und, und, und, und, und, und, und, und, und, und, und, und, und, und, und, und, und, und, und, und] Z = lp (aCall T0) K_spec_NodeRead_0 L_spec_NodeRead_0 [.slice a ys.length c, lg, .int .i64 (w : Int), und, und, und, .pointer (some ⟨M.length, 0, none⟩), und, .pointer (some ⟨M.length + 1, 0, none⟩), .int .i64 ((nbC w ys * (w + 3) : Nat) : Int), und, und, und, und, und, und, und, und, und, und, und, und, und, und, und, und, und, und, und, und, und, und, und, und, und, und, und, und, und, und, und, und, und, und, und, und, und, und, und, und, und, und, und, und, und, und, und, und, und, und, und, und, und, und, und, und, und, und, und, und, und, und, und, und, und, und] X' := by
  refine loop_to (call := aCall T0) (K := K_spec_NodeRead_0) (L := L_spec_NodeRead_0) (fun i (_ : Nat) X => SnI M (ndP w ys i) X) (fun i (_ : Nat) => [.slice a ys.length c, lg, .int .i64 (w : Int), und, und, und, .pointer (some ⟨M.length, 0, none⟩), und, .pointer (some ⟨M.length + 1, 0, none⟩), .int .i64 ((i * (w + 3) : Nat) : Int), und, und, und, und, und, und, und, und, und, und, und, und, und, und, und, und, und, und, und, und, und, und, und, und, und, und, und, und, und, und, und, und, und, und, und, und, und, und, und, und, und, und, und, und, und, und, und, und, und, und, und, und, und, und, und, und, und, und, und, und, und, und, und, und, und, und]) (n := nbC w ys) ?_ 0 0 Z (by omega) (by simpa [ndP] using hZ)
  intro i _ X hi ⟨v, L, pX, br, bp, g0, nd, ge0⟩
  have hi4 := nbC_le w ys
  have hone := nbF_one w ys 4 0 i (by omega) hi
  have hbnd : i * (w + 3) + (w + 3) ≤ 4 * (w + 3) := by rw [← Nat.succ_mul]; exact Nat.mul_le_mul_right _ (by omega)
  rw [ndP_succ]
  have hlen := ndP_len w ys i
  generalize ndP w ys i = xs at g0 hlen ⊢
  obtain ⟨l, o, rfl, _, _⟩ := at_Byte h (i := 0) (by omega)
  have hlM : l < M.length := by obtain ⟨blk, hbk, _⟩ := rep_blk h; exact get_lt hbk
  have b0 := r1_pre pX (byte_at h (i := i * (w + 3)) (by omega))
  have b1 := r1_pre pX (byte_at h (i := i * (w + 3) + 1) (by omega))
  have b2 := r1_pre pX (byte_at h (i := i * (w + 3) + 2) (by omega))
  rw [hone] at b0
  have hnxt : (i + 1) * (w + 3) = i * (w + 3) + (w + 3) := Nat.succ_mul _ _
  have hsub := rep_sub (h.mono pX) (i * (w + 3) + 3) w (by omega)
  have hbd : blkAt w ys i = (((ys.getD (i * (w + 3) + 1) 0).toNat : Int), ((ys.getD (i * (w + 3) + 2) 0).toNat : Int), (ys.drop (i * (w + 3) + 3)).take w) := rfl
  have hdl : List.length (α := UInt8) ((ys.drop (i * (w + 3) + 3)).take w) = w := by rw [List.length_take, List.length_drop]; omega
  have n1 : (ys.getD (i * (w + 3) + 1) 0).toNat < 256 := UInt8.toNat_lt _
  have n2 : (ys.getD (i * (w + 3) + 2) 0).toNat < 256 := UInt8.toNat_lt _
  rw [hbd]
  generalize (ys.drop (i * (w + 3) + 3)).take w = dat at *
  generalize (ys.getD (i * (w + 3) + 1) 0).toNat = q1 at *
  generalize (ys.getD (i * (w + 3) + 2) 0).toNat = q2 at *
  generalize hat : i * (w + 3) = at0 at *
  have e1 : IntKind.i64.wrap ((at0 : Int) + 1) = (at0 : Int) + 1 := wrap_i64 (by omega) (by omega)
  have e2 : IntKind.i64.wrap ((at0 : Int) + 2) = (at0 : Int) + 2 := wrap_i64 (by omega) (by omega)
  have e3 : IntKind.i64.wrap ((at0 : Int) + 3) = (at0 : Int) + 3 := wrap_i64 (by omega) (by omega)
  have e4 : IntKind.i64.wrap ((at0 : Int) + 3 + (w : Int)) = (at0 : Int) + 3 + (w : Int) := wrap_i64 (by omega) (by omega)
  have e5 : IntKind.i64.wrap ((at0 : Int) + (w : Int)) = (at0 : Int) + (w : Int) := wrap_i64 (by omega) (by omega)
  have e6 : IntKind.i64.wrap ((at0 : Int) + (w : Int) + 3) = (at0 : Int) + (w : Int) + 3 := wrap_i64 (by omega) (by omega)
  have d1 : (0 : Int) ≤ (at0 : Int) + 1 ∧ (at0 : Int) + 1 < (ys.length : Int) := by omega
  have d2 : (0 : Int) ≤ (at0 : Int) + 2 ∧ (at0 : Int) + 2 < (ys.length : Int) := by omega
  have d3 : (0 : Int) ≤ (at0 : Int) + 3 ∧ (at0 : Int) + 3 ≤ (at0 : Int) + 3 + (w : Int) ∧ ((at0 : Int) + 3 + (w : Int) ≤ (ys.length : Int) ∨ (at0 : Int) + 3 + (w : Int) ≤ (c : Int)) := by omega
  have d5 : ((at0 : Int) + 2).toNat = at0 + 2 := by omega
  have d6 : ((at0 : Int) + 3).toNat = at0 + 3 := by omega
  have d7 : ((at0 : Int) + 1).toNat = at0 + 1 := by omega
  have d4 : ((at0 : Int) + 3 + (w : Int) - ((at0 : Int) + 3)).toNat = w := by omega
  have c1 : IntKind.i64.wrap (q1 : Int) = q1 := wrap_i64 (by omega) (by omega)
  have c2 : IntKind.i64.wrap (q2 : Int) = q2 := wrap_i64 (by omega) (by omega)
  have g1 : at0 < ys.length := by omega
  obtain ⟨blk, hbk, hbw⟩ := rep_blk h
  have hbw1 : blk.w = 1 := hbw.1
  have hbX := fun N : Mem => get_pre' (N := N) (get_pre pX hbk)
  have hbX0 := get_pre pX hbk
  obtain ⟨av, rfl⟩ := g0.shape
  have hpl := pX.length_le
  have hbpl := get_lt bp
  have hwL : ∀ b ∈ wfs (.slice av xs.length xs.length), M.length + 2 ≤ b := by
    obtain ⟨_, _, hw⟩ := g0.gr (K := 0) (by simp)
    exact fun b hb => ge0 b (hw b hb)
  have rp : rd1 X (M.length + 1) 0 = some (.slice av xs.length xs.length) := rd1_of_rdn (rdn_box bp rfl) (k := 0) rfl
  have hdl2 : List.length (α := UInt8) dat = w := hdl
  obtain ⟨_, hc0, _⟩ := rep_cellsF fl_Byte ((hsub (max ys.length c - (at0 + 3))).mono (List.prefix_append X [(⟨[], 1, 2⟩ : Blk)]))
  have hc0 : sliceCells (X ++ [(⟨[], 1, 2⟩ : Blk)]) 1 (.slice (some ⟨l, o + (at0 + 3), none⟩) w (max ys.length c - (at0 + 3))) = some (w, (List.map enc_Byte dat).flatten) := by rw [← hdl2] at hc0 ⊢; exact hc0
  have hX1 : hits [X.length] [l, l, l, M.length + 1] = false := hits_ne fun x hx y hy e => by simp at hx hy; omega
  have hX2 : hits (wfs (.slice av xs.length xs.length)) [l, l, l, M.length + 1] = false := hits_ge (K := M.length + 2) hwL (by simp; omega)
  rw [S_spec_NodeRead_0]; unfold B_spec_NodeRead_0; simp [thenD_pp, sliceCells_sl, sliceCells_z, sliceCells_nil, take_full, appS_sl, appK_ok, appS_none, thenD_ag, agP_nil, agP_cons, b0, b1, b2, g1, rp, d1, d2, d3, d4, d5, d6, d7, e1, e2, e3, e4, c1, c2, hbX, hbX0, hbw1, rfp_slc2, rfS_some, hc0, zeroCells]
  generalize hy : appS _ _ _ _ _ _ = xhy
  rw [← hdl2] at hy
  obtain ⟨l2, X3, rfl, hl2, gb, ag⟩ := cp_all (t := .u8) (xs := dat) fl_Byte hy (by simp [Ty.w]) (by simp) (by omega) (by omega)
  clear hy
  rw [hdl2] at gb ⊢
  have p3 : X <+: X3 := ag.pre (List.prefix_append _ _) (by simp)
  simp [thenD_pp, sliceCells_sl, sliceCells_z, sliceCells_nil, take_full, appS_sl, appK_ok, appS_none, thenD_ag, agP_nil, agP_cons, thenD_agree, ag, hX1, zeroCells, rfp_slc2, rfS_some]
  generalize hy : appS _ _ _ _ _ _ = xhy
  have w0 : (Lit.int .i64 (q1 : Int)).wf = true := wf_mk (by omega) (by omega)
  have w1 : (Lit.int .i64 (q2 : Int)).wf = true := wf_mk (by omega) (by omega)
  obtain ⟨l4, X4, L', rfl, g4, ag2, len2, hw4, nd4, sub4, hl4⟩ := g0.app (t := ty_Block) hy (p3.trans (List.prefix_append _ _)) (gr_Block (x := ((q1 : Int), (q2 : Int), dat)) w0 w1 (gb.grow (List.prefix_append _ _))) (by simpa using hl2) nd (by simp) (by rw [hlen]; omega) (by rw [hlen]; omega)
  clear hy
  have hx3 := p3.length_le
  have pX4 : M <+: X4 := ag2.pre (pf_app (pX.trans p3)) (fun b hb => by have := hwL b hb; omega)
  have br4 : X4[M.length]? = some ⟨[.slice none 0 0], 1, 2⟩ := ag2.get (get_pre' (get_pre p3 br)) (fun hm => by have := hwL _ hm; omega)
  have bp4 : X4[M.length + 1]? = some ⟨[.slice av xs.length xs.length], 1, 2⟩ := ag2.get (get_pre' (get_pre p3 bp)) (fun hm => by have := hwL _ hm; omega)
  have hwr : ∀ u : V, one u = true → wrn X4 (M.length + 1) 0 [u] = some (X4.set (M.length + 1) ⟨[u], 1, 2⟩) := fun u hu => by
    rw [wrn_eq bp4 rfl (by simp) (by simp [hu])]
    rfl
  have hwr4 := hwr (.slice (some ⟨l4, 0, none⟩) (xs.length + 1) (xs.length + 1)) rfl
  simp [thenD_pp, sliceCells_sl, sliceCells_z, sliceCells_nil, take_full, appS_sl, appK_ok, appS_none, thenD_ag, agP_nil, agP_cons, thenD_agree, ag2, hX2, hwr4, e5, e6]
  have hge4 : ∀ j ∈ L', M.length + 2 ≤ j := fun j hj => by
    rcases sub4 j hj with h | h | h
    · exact ge0 j h
    · simp at h; omega
    · simp at hl4; omega
  have hfin : ((i : Int) + 1) * ((w : Int) + 3) = (at0 : Int) + (w : Int) + 3 := by
    have e9 : ((i * (w + 3) : Nat) : Int) = (i : Int) * ((w : Int) + 3) := by rw [Int.natCast_mul]; rfl
    rw [Int.add_mul, Int.one_mul, ← e9, hat]
    omega
  refine ⟨X4.set (M.length + 1) ⟨[.slice (some ⟨l4, 0, none⟩) (xs.length + 1) (xs.length + 1)], 1, 2⟩, ⟨_, L', pf_set (by omega) pX4, by rw [gt_set (by omega)]; exact br4, gs_of bp4 _, g4.set _ (fun hm => by have := hge4 _ hm; omega), nd4, hge4⟩, ?_⟩
  rw [hfin]
def SrV (M : Mem) (ok : Bool) (bs : List ty_Block.D) (p : V × Mem) : Prop := ∃ r L, p.1 = .tuple #[.agg #[r], .bool ok] ∧ M <+: p.2 ∧ Gr (.sl ty_Block) p.2 [r] bs L ∧ L.Nodup ∧ ∀ j ∈ L, M.length ≤ j
set_option maxHeartbeats 2000000 in
theorem c_spec_NodeRead (M : Mem) (v : V) (ys : List UInt8) (l w : Int) (h : Rep (.sl ty_Byte) M [v] ys) (hn : ys.length ≤ 1048576) : Sat (aCall T0 F_spec_NodeRead [v, .int .i64 l, .int .i64 w] M) (SrV M (ndOk l w ys) (ndX l w ys)) := by
  have e1 : ∀ M, aCall T0 F_spec_l12Frame [.int .i64 l, .int .i64 w] M = some (.bool (lgB l && wdB w), M) := fun M => c_spec_l12Frame M l w
  obtain ⟨a, c, rfl⟩ := h.slen
  have hnil : ∀ {X : Mem}, Gr (.sl ty_Block) X [.slice none 0 0] [] [] := Gr.nil
  have hpre : M <+: M ++ [(⟨[.slice none 0 0], 1, 2⟩ : Blk)] := List.prefix_append _ _
  cases h1 : lgB l && wdB w with
  | false =>
    have hs : ndOk l w ys = false := by unfold ndOk; rw [h1]; rfl
    have hx : ndX l w ys = [] := by simp [ndX, hs]
    rw [hs, hx]
    rw [h1] at e1
    rw [aCall_eq T_spec_NodeRead]; unfold A_spec_NodeRead C_spec_NodeRead; simp [thenD_pp, sliceCells_sl, sliceCells_z, sliceCells_nil, take_full, appS_sl, appK_ok, appS_none, thenD_ag, agP_nil, agP_cons, e1]
    exact ⟨(_, _), rfl, _, [], rfl, hpre, hnil, by simp, by simp⟩
  | true =>
    rw [h1] at e1
    rw [Bool.and_eq_true] at h1
    have hw : 1 ≤ w ∧ w ≤ 200 := by have := h1.2; unfold wdB at this; simpa using this
    obtain ⟨W, rfl⟩ : ∃ W : Nat, w = (W : Int) := ⟨Int.toNat w, by omega⟩
    have hW : Int.toNat (W : Int) = W := by omega
    have e2 := fun M => c_spec_NodeSize M W (4 * (W + 3)) (by omega) (by omega) (by omega)
    by_cases h3 : (ys.length : Int) = 4 * ((W : Int) + 3)
    · have h3n : ys.length = 4 * (W + 3) := by omega
      have e2 := fun M => c_spec_NodeSize M W ys.length (by omega) (by omega) (by omega)
      have hO : ndOk l W ys = (blocksB l W (ndB W ys) && decide (ndY W (ndB W ys) = ys)) := by
        unfold ndOk
        rw [h1.1, h1.2, hW]
        simp [h3]
      have hX : ndX l W ys = if ndOk l W ys = true then ndB W ys else [] := by unfold ndX; rw [hW]
      obtain ⟨_, X1, ⟨v1, L1, p1, br, bp, g1, n1, k1⟩, e⟩ := l_spec_NodeRead_0 M a c ys W (.int .i64 l) h (by omega) (by omega) h3n (M ++ [⟨[.slice none 0 0], 1, 2⟩, ⟨[.slice none 0 0], 1, 2⟩]) ⟨.slice none 0 0, [], List.prefix_append _ _, by simp, by simp, Gr.nil, by simp, by simp⟩
      simp only [Nat.zero_mul, Int.natCast_zero, Int.ofNat_zero] at e
      have hblen := ndB_len W ys
      obtain ⟨l0, o0, rfl, _, _⟩ := at_Byte h (i := 0) (by omega)
      have hex := exit_byte h h3n
      rw [hX, hO]
      have hNO := c_spec_NodeOf X1 v1 (ndB W ys) l W g1.rep (by omega) (by omega) (by omega)
      rw [decide_eq_true hblen, Bool.true_and] at hNO
      generalize ndB W ys = bs at *
      generalize hat : nbC W ys * (W + 3) = at0 at *
      obtain ⟨a1, rfl⟩ := g1.shape
      have hv1 : rdn X1 (M.length + 1) 0 1 = some [.slice a1 bs.length bs.length] := rdn_box bp rfl
      have hr1 : rdn X1 M.length 0 1 = some [.slice none 0 0] := rdn_box br rfl
      have hcase : (((¬ (at0 : Int) < (ys.length : Int)) ∧ (¬ at0 < ys.length)) ∧ (¬ at0 < ys.length)) ∨ (at0 < ys.length ∧ ∃ b : Nat, rd1 X1 l0 (o0 + at0) = some (.int .u8 (b : Int)) ∧ ¬ (b : Int) = 1) := by
        rcases hex with hh | ⟨hh, b, q1, q2⟩
        · exact .inl ⟨⟨by omega, by omega⟩, by omega⟩
        · exact .inr ⟨hh, b, r1_pre p1 q1, q2⟩
      rcases hcase with ⟨⟨F1, F2⟩, F3⟩ | ⟨F1, b, F2, F3⟩
      all_goals
        rw [aCall_eq T_spec_NodeRead]; unfold A_spec_NodeRead C_spec_NodeRead; simp [thenD_pp, sliceCells_sl, sliceCells_z, sliceCells_nil, take_full, appS_sl, appK_ok, appS_none, thenD_ag, agP_nil, agP_cons, e1, e2, e, zeroCells]
        rw [S_spec_NodeRead_0]; unfold B_spec_NodeRead_0; simp [thenD_pp, sliceCells_sl, sliceCells_z, sliceCells_nil, take_full, appS_sl, appK_ok, appS_none, thenD_ag, agP_nil, agP_cons, F1, F2, F3, hv1]
        generalize hx : aCall T0 F_spec_NodeOf _ _ = xhx
        obtain ⟨v2, X2, rfl, g2⟩ := of_call hx hNO
        clear hx
        obtain ⟨L2, p2, o2, _⟩ := bg_rep g2
        obtain ⟨a2, c2, hv2, hs2⟩ := cells_Byte o2.rep
        cases hv2
        obtain ⟨a3, c3, hv3, hs3⟩ := cells_Byte (h.mono (p1.trans p2))
        cases hv3
        have hv2 := rn_pre p2 hv1
        have hr2 := rn_pre p2 hr1
        have hpM := p1.trans p2
        have br2 := get_pre p2 br
        have hwn : ∀ u : V, one u = true → wrn X2 M.length 0 [u] = some (X2.set M.length ⟨[u], 1, 2⟩) := fun u hu => by
          rw [wrn_eq br2 rfl (by simp) (by simp [hu])]
          rfl
        have hwn0 := hwn (.slice none 0 0) rfl
        have hwn1 := hwn (.slice a1 bs.length bs.length) rfl
        have hrs : ∀ u : V, rdn (X2.set M.length ⟨[u], 1, 2⟩) M.length 0 1 = some [u] := fun u => rdn_box (gs_of br2 _) rfl
        have hpS : ∀ k : Blk, M <+: X2.set M.length k := fun k => pf_set (Nat.le_refl _) hpM
        have hgS : ∀ k : Blk, Gr (.sl ty_Block) (X2.set M.length k) [.slice a1 bs.length bs.length] bs L1 := fun k => (g1.grow p2).set _ (fun hm => by have := k1 _ hm; omega)
        have hk1 : ∀ j ∈ L1, M.length ≤ j := fun j hj => by have := k1 j hj; omega
        cases hb : blocksB l W bs with
        | false =>
          rw [hb] at hs2
          have hne : ¬ ([] : List UInt8) = ys := fun e => by rw [← e] at h3n; simp at h3n
          have hie : ys.isEmpty = false := by cases ys with
            | nil => exact absurd rfl hne
            | cons _ _ => rfl
          rw [Bool.false_and, if_neg (by simp)]
          simp only [Bool.false_eq_true, if_false, List.length_nil, List.map_nil] at hs2
          have ht0 : toBytes [] = some [] := rfl
          simp [thenD_pp, sliceCells_sl, sliceCells_z, sliceCells_nil, take_full, appS_sl, appK_ok, appS_none, thenD_ag, agP_nil, agP_cons, thenD_pre, p2, hb, hs2, hs3, toBytes_map, ht0, hne, hie, hwn0, hrs, zeroCells]
          exact ⟨(_, _), rfl, _, [], rfl, hpS _, hnil, by simp, by simp⟩
        | true =>
          rw [hb] at hs2
          rw [Bool.true_and]
          simp only [if_true] at hs2
          simp only [if_true, true_and]
          by_cases hq : ndY W bs = ys
          · rw [decide_eq_true hq, if_pos hq]
            rw [hq] at hs2
            simp [thenD_pp, sliceCells_sl, sliceCells_z, sliceCells_nil, take_full, appS_sl, appK_ok, appS_none, thenD_ag, agP_nil, agP_cons, thenD_pre, p2, hb, hs2, hs3, toBytes_map, hq, hv2, hwn1, hrs, zeroCells]
            exact ⟨(_, _), rfl, _, L1, rfl, hpS _, hgS _, n1, hk1⟩
          · rw [decide_eq_false hq, if_neg hq]
            simp [thenD_pp, sliceCells_sl, sliceCells_z, sliceCells_nil, take_full, appS_sl, appK_ok, appS_none, thenD_ag, agP_nil, agP_cons, thenD_pre, p2, hb, hs2, hs3, toBytes_map, hq, hwn0, hrs, zeroCells]
            exact ⟨(_, _), rfl, _, [], rfl, hpS _, hnil, by simp, by simp⟩
    · have hs : ndOk l W ys = false := by unfold ndOk; rw [decide_eq_false h3]; simp
      have hx : ndX l W ys = [] := by simp [ndX, hs]
      rw [hs, hx]
      have h3' : ¬ (ys.length : Int) = ((4 * (W + 3) : Nat) : Int) := by omega
      generalize hsz : 4 * (W + 3) = sz at *
      rw [aCall_eq T_spec_NodeRead]; unfold A_spec_NodeRead C_spec_NodeRead; simp [thenD_pp, sliceCells_sl, sliceCells_z, sliceCells_nil, take_full, appS_sl, appK_ok, appS_none, thenD_ag, agP_nil, agP_cons, e1, e2, h3', zeroCells]
      exact ⟨(_, _), rfl, _, [], rfl, hpre, hnil, by simp, by simp⟩
def NsI (M : Mem) (xs : List ty_Node.D) (v : V) (X : Mem) : Prop := ∃ L, M <+: X ∧ Gr (.sl ty_Node) X [v] xs L ∧ L.Nodup ∧ ∀ j ∈ L, M.length ≤ j
set_option maxHeartbeats 2000000 in
theorem l_spec_l14Nodes_0 (M : Mem) (l w b : Int) (sz : Int) (aC : Option Addr) (cC : Nat) (aT : Option Addr) (nT cT : Nat) (aS : Option Addr) (nS cS : Nat) (cells : List ty_Cell.D) (hC : Rep (.sl ty_Cell) M [.slice aC cells.length cC] cells) (hn : cells.length ≤ 1048576) (hsz : ∀ c ∈ cells, List.length (α := UInt8) c ≤ 1048576) (p : Nat)
    (Z : Mem) (hZ : M <+: Z) (hp : Z[p]? = some ⟨aO l w b sz aC cells.length cC aT nT cT aS nS cS, 1, 2⟩) (v : V) (X : Mem) (h : NsI Z [] v X) :
    (∃ v' X', NsI Z (ndsF w cells) v' X' ∧ (∀ i, i < cells.length → ndAt l w cells i = true) ∧ lp (aCall T0) K_spec_l14Nodes_0 L_spec_l14Nodes_0 [und, .pointer (some ⟨p, 0, none⟩), und, und, v, .int .i64 (0 : Nat), und, und, und, und, und, und, und, und, und, und, und, und, und, und, und, und, und, und, und, und, und, und, und, und, und, und, und, und, und, und, und, und, und] X = lp (aCall T0) K_spec_l14Nodes_0 L_spec_l14Nodes_0 [und, .pointer (some ⟨p, 0, none⟩), und, und, v', .int .i64 cells.length, und, und, und, und, und, und, und, und, und, und, und, und, und, und, und, und, und, und, und, und, und, und, und, und, und, und, und, und, und, und, und, und, und] X') ∨
    ((∃ i, i < cells.length ∧ ndAt l w cells i = false) ∧ ∀ k, Sat (thenF M [.tmp 2, .tmp 3] (thenS (blockR 0 (lp (aCall T0) K_spec_l14Nodes_0 L_spec_l14Nodes_0 [und, .pointer (some ⟨p, 0, none⟩), und, und, v, .int .i64 (0 : Nat), und, und, und, und, und, und, und, und, und, und, und, und, und, und, und, und, und, und, und, und, und, und, und, und, und, und, und, und, und, und, und, und, und] X)) (aCall T0) k)) (NsV M false [])) := by
  have key := loop_st (call := aCall T0) (K := K_spec_l14Nodes_0) (L := L_spec_l14Nodes_0) (fun i v X => NsI Z (ndsF w (cells.take i)) v X) (fun i v => [und, .pointer (some ⟨p, 0, none⟩), und, und, v, .int .i64 i, und, und, und, und, und, und, und, und, und, und, und, und, und, und, und, und, und, und, und, und, und, und, und, und, und, und, und, und, und, und, und, und, und]) (ndAt l w cells) (NsV M false []) (n := cells.length) (M0 := M) (rs := [.tmp 2, .tmp 3]) (k0 := 0) v X (by simpa [ndsF] using h) ?_ ?_
  · rw [List.take_length] at key
    exact key
  · intro i v X hi hq ⟨L, pX, g0, nd, ge⟩
    rw [ndAt_get hi] at hq
    have hbX := get_pre pX hp
    obtain ⟨lc, oc, u, rfl, hrd, hrn, hu⟩ := at_Cell (hC.mono (hZ.trans pX)) hi
    have hszi := hsz _ (List.getElem_mem hi)
    obtain ⟨ua, uc, rfl⟩ := hu.slen
    have hNR := c_spec_NodeRead X (.slice ua (List.length (α := UInt8) cells[i]) uc) cells[i] l w hu hszi
    have hx : ndX l w cells[i] = ndB (Int.toNat w) cells[i] := by unfold ndX; rw [if_pos hq]
    rw [hq, hx] at hNR
    have hts : ndsF w (cells.take (i + 1)) = ndsF w (cells.take i) ++ [ndB (Int.toNat w) cells[i]] := by
      unfold ndsF
      rw [List.take_succ_eq_append_getElem hi, List.map_append]
      rfl
    rw [hts]
    have hlen : (ndsF w (cells.take i)).length = i := by unfold ndsF; rw [List.length_map, List.length_take]; omega
    generalize ndsF w (cells.take i) = xs at *
    generalize ndB (Int.toNat w) cells[i] = bs at *
    generalize cells[i] = c at *
    have e6 : IntKind.i64.wrap ((i : Int) + 1) = i + 1 := wrap_i64 (by omega) (by omega)
    have r0 : rd1 X p 0 = some (.int .i64 l) := by simp [rd1, hbX]
    have r1 : rd1 X p 1 = some (.int .i64 w) := by simp [rd1, hbX]
    have r4 : rd1 X p 4 = some (.slice (some ⟨lc, oc, none⟩) cells.length cC) := by simp [rd1, hbX]
    rw [S_spec_l14Nodes_0]; unfold B_spec_l14Nodes_0; simp [thenD_pp, sliceCells_sl, sliceCells_z, sliceCells_nil, take_full, appS_sl, appK_ok, appS_none, thenD_ag, agP_nil, agP_cons, hi, r0, r1, r4, hrd, zeroCells]
    generalize hx : aCall T0 F_spec_NodeRead _ _ = xhx
    obtain ⟨_, X1, rfl, r, L1, rfl, p1, g1, n1, k1⟩ := of_call hx hNR
    clear hx
    simp only at p1 g1
    obtain ⟨a1, rfl⟩ := g1.shape
    simp [thenD_pp, sliceCells_sl, sliceCells_z, sliceCells_nil, take_full, appS_sl, appK_ok, appS_none, thenD_ag, agP_nil, agP_cons, thenD_pre, p1, zeroCells]
    generalize hy : appS _ _ _ _ _ _ = xhy
    have hdis : ∀ j ∈ L1, j ∉ L := fun j hj hm => by have := k1 j hj; have := g0.lt j hm; omega
    obtain ⟨l4, X4, L', rfl, g4, ag2, len2, hw4, nd4, sub4, hl4⟩ := g0.app (t := ty_Node) hy (p1.trans (List.prefix_append _ _)) (show Gr ty_Node _ _ bs L1 from g1.grow (List.prefix_append _ _)) (fun j hj => k1 j hj) nd n1 (by rw [hlen]; omega) (by rw [hlen]; omega)
    clear hy
    have hwL : ∀ b ∈ wfs v, Z.length ≤ b := by
      obtain ⟨_, _, hw⟩ := g0.gr (K := 0) (by simp)
      exact fun b hb => ge b (hw b hb)
    have pX4 : Z <+: X4 := ag2.pre (pf_app (pX.trans p1)) hwL
    simp [thenD_pp, sliceCells_sl, sliceCells_z, sliceCells_nil, take_full, appS_sl, appK_ok, appS_none, thenD_ag, agP_nil, agP_cons, e6]
    refine ⟨_, _, ⟨L', pX4, g4, nd4, fun j hj => ?_⟩, rfl⟩
    have hx3 := p1.length_le
    have hpl := pX.length_le
    rcases sub4 j hj with h | h | h
    · exact ge j h
    · have := k1 j h; omega
    · simp at hl4; omega
  · intro i v X hi hq ⟨L, pX, g0, nd, ge⟩ k
    rw [ndAt_get hi] at hq
    have hbX := get_pre pX hp
    obtain ⟨lc, oc, u, rfl, hrd, hrn, hu⟩ := at_Cell (hC.mono (hZ.trans pX)) hi
    have hszi := hsz _ (List.getElem_mem hi)
    obtain ⟨ua, uc, rfl⟩ := hu.slen
    have hNR := c_spec_NodeRead X (.slice ua (List.length (α := UInt8) cells[i]) uc) cells[i] l w hu hszi
    rw [hq] at hNR
    generalize ndX l w cells[i] = bs at *
    generalize cells[i] = c at *
    have r0 : rd1 X p 0 = some (.int .i64 l) := by simp [rd1, hbX]
    have r1 : rd1 X p 1 = some (.int .i64 w) := by simp [rd1, hbX]
    have r4 : rd1 X p 4 = some (.slice (some ⟨lc, oc, none⟩) cells.length cC) := by simp [rd1, hbX]
    rw [S_spec_l14Nodes_0]; unfold B_spec_l14Nodes_0; simp [thenD_pp, sliceCells_sl, sliceCells_z, sliceCells_nil, take_full, appS_sl, appK_ok, appS_none, thenD_ag, agP_nil, agP_cons, hi, r0, r1, r4, hrd, zeroCells]
    generalize hx : aCall T0 F_spec_NodeRead _ _ = xhx
    obtain ⟨_, X1, rfl, r, L1, rfl, p1, g1, n1, k1⟩ := of_call hx hNR
    clear hx
    simp only at p1 g1
    obtain ⟨a1, rfl⟩ := g1.shape
    simp [thenD_pp, sliceCells_sl, sliceCells_z, sliceCells_nil, take_full, appS_sl, appK_ok, appS_none, thenD_ag, agP_nil, agP_cons, thenD_pre, p1, zeroCells]
    exact ⟨(_, _), rfl, _, [], rfl, (hZ.trans pX).trans (p1.trans (List.prefix_append _ _)), Gr.nil, by simp, by simp⟩
theorem c_spec_l14Nodes (M : Mem) (l w b : Int) (m : ty_Mem.D) (st : List ty_Block.D) (aC : Option Addr) (cC : Nat) (aT : Option Addr) (cT : Nat) (aS : Option Addr) (cS : Nat)
    (hC : Rep (.sl ty_Cell) M [.slice aC m.2.1.length cC] m.2.1) (hn : m.2.1.length ≤ 1048576) (hsz : ∀ c ∈ m.2.1, List.length (α := UInt8) c ≤ 1048576) :
    Sat (aCall T0 F_spec_l14Nodes [.agg (aO l w b m.1 aC m.2.1.length cC aT m.2.2.length cT aS st.length cS).toArray] M) (NsV M (m.2.1.all (ndOk l w)) (if m.2.1.all (ndOk l w) = true then ndsF w m.2.1 else [])) := by
  rcases l_spec_l14Nodes_0 M l w b m.1 aC cC aT m.2.2.length cT aS st.length cS m.2.1 hC hn hsz M.length (M ++ [(⟨aO l w b m.1 aC m.2.1.length cC aT m.2.2.length cT aS st.length cS, 1, 2⟩ : Blk)]) (List.prefix_append _ _) (by simp) (.slice (some ⟨M.length + 1, 0, none⟩) 0 0) (M ++ [(⟨aO l w b m.1 aC m.2.1.length cC aT m.2.2.length cT aS st.length cS, 1, 2⟩ : Blk)] ++ [⟨[], 1, 2⟩]) ⟨[M.length + 1], List.prefix_append _ _, gr0 (t := ty_Node) (by simp [Ty.w]), by simp, by simp⟩ with ⟨v', X', ⟨L, pX, g, nd, ge⟩, hall, e⟩ | ⟨⟨i, hi, hq⟩, e⟩
  · have ha : m.2.1.all (ndOk l w) = true := List.all_eq_true.2 fun c hc => by
      obtain ⟨k, hk, rfl⟩ := List.getElem_of_mem hc
      rw [← ndAt_get hk]
      exact hall k hk
    rw [ha, if_pos rfl]
    simp only [Int.natCast_zero, Int.ofNat_zero, List.append_assoc, List.singleton_append, List.cons_append, List.nil_append] at e
    obtain ⟨a, rfl⟩ := g.shape
    have pM : M <+: X' := (List.prefix_append _ _).trans pX
    have hbX := get_pre pX (show (M ++ [(⟨aO l w b m.1 aC m.2.1.length cC aT m.2.2.length cT aS st.length cS, 1, 2⟩ : Blk)])[M.length]? = some _ from List.getElem?_concat_length)
    have r4 : rd1 X' M.length 4 = some (.slice aC m.2.1.length cC) := by simp [rd1, hbX]
    rw [aCall_eq T_spec_l14Nodes]; unfold A_spec_l14Nodes C_spec_l14Nodes; simp [thenD_pp, sliceCells_sl, sliceCells_z, sliceCells_nil, take_full, appS_sl, appK_ok, appS_none, thenD_ag, agP_nil, agP_cons, zeroCells, e]
    rw [S_spec_l14Nodes_0]; unfold B_spec_l14Nodes_0; simp [thenD_pp, sliceCells_sl, sliceCells_z, sliceCells_nil, take_full, appS_sl, appK_ok, appS_none, thenD_ag, agP_nil, agP_cons, r4]
    exact ⟨(_, X'), rfl, _, L, rfl, pM, g, nd, fun j hj => by have := ge j hj; simp at this; omega⟩
  · have ha : m.2.1.all (ndOk l w) = false := by
      rw [List.all_eq_false]
      exact ⟨m.2.1[i], List.getElem_mem hi, by rw [← ndAt_get hi, hq]; simp⟩
    rw [ha, if_neg (by simp)]
    simp only [Int.natCast_zero, Int.ofNat_zero, List.append_assoc, List.singleton_append, List.cons_append, List.nil_append] at e
    rw [aCall_eq T_spec_l14Nodes]; unfold A_spec_l14Nodes C_spec_l14Nodes; simp [thenD_pp, sliceCells_sl, sliceCells_z, sliceCells_nil, take_full, appS_sl, appK_ok, appS_none, thenD_ag, agP_nil, agP_cons, zeroCells]
    exact e _
def cntI (k : Nat) (xs : List ty_Block.D) : Nat := (xs.filter fun b => decide (Int.toNat b.1 = k)).length
def cntV (xs : List ty_Block.D) : List V := (List.range 256).map fun k => .int .i64 ((cntI k xs : Nat) : Int)
theorem cntV_len (xs : List ty_Block.D) : (cntV xs).length = 256 := by simp [cntV]
theorem cntV_get (xs : List ty_Block.D) {k : Nat} (h : k < 256) : (cntV xs)[k]? = some (.int .i64 ((cntI k xs : Nat) : Int)) := by simp [cntV, h]
theorem cntI_le (k : Nat) (xs : List ty_Block.D) : cntI k xs ≤ xs.length := List.length_filter_le _ _
theorem cntI_app (k : Nat) (xs : List ty_Block.D) (b : ty_Block.D) : cntI k (xs ++ [b]) = if Int.toNat b.1 = k then cntI k xs + 1 else cntI k xs := by
  unfold cntI
  rw [List.filter_append, List.length_append]
  by_cases h : Int.toNat b.1 = k
  · rw [if_pos h, List.filter_cons, if_pos (decide_eq_true h)]; rfl
  · rw [if_neg h, List.filter_cons, if_neg (by rw [decide_eq_false h]; simp)]; rfl
theorem cntV_set (xs : List ty_Block.D) (b : ty_Block.D) (h : Int.toNat b.1 < 256) : splice (cntV xs) (Int.toNat b.1) [.int .i64 ((cntI (Int.toNat b.1) xs + 1 : Nat) : Int)] = cntV (xs ++ [b]) := by
  apply List.ext_getElem?
  intro j
  rw [splice1 (by rw [cntV_len]; exact h), List.getElem?_set]
  by_cases hj : Int.toNat b.1 = j
  · subst hj
    rw [if_pos rfl, if_pos (by rw [cntV_len]; exact h), cntV_get _ h, cntI_app, if_pos rfl]
  · rw [if_neg hj]
    by_cases hC : j < 256
    · rw [cntV_get _ hC, cntV_get _ hC, cntI_app, if_neg hj]
    · rw [List.getElem?_eq_none (by rw [cntV_len]; omega), List.getElem?_eq_none (by rw [cntV_len]; omega)]
/-- The place of the counts, behind what was there. -/
def SeI (M : Mem) (q : Nat) (xs : List ty_Block.D) (X : Mem) : Prop := M <+: X ∧ X[q]? = some ⟨cntV xs, 1, 2⟩
theorem nat_255 {z : Int} (h : 0 ≤ z ∧ z ≤ 255) : z = ((Int.toNat z : Nat) : Int) ∧ Int.toNat z < 256 := by omega
theorem ids_nat {xs : List ty_Block.D} (h : IdsR xs) : ∀ b ∈ xs, b.1 = ((Int.toNat b.1 : Nat) : Int) ∧ Int.toNat b.1 < 256 := fun b hb => nat_255 (h b hb)
set_option maxRecDepth 20000 in
set_option maxHeartbeats 1000000 in
theorem l_spec_OramOk_0 (M : Mem) (p q : Nat) (v3 : V) (st : List ty_Block.D) (aS : Option Addr) (cS : Nat) (hS : Rep (.sl ty_Block) M [.slice aS st.length cS] st) (hp : rd1 M p 6 = some (.slice aS st.length cS)) (hq : M.length ≤ q) (hr : IdsR st) (hn : st.length ≤ 1048576) (X : Mem) (h : SeI M q [] X) :
    ∃ (u : Unit) (X' : Mem), SeI M q st X' ∧ lp (aCall T0) K_spec_OramOk_0 L_spec_OramOk_0 [und, .pointer (some ⟨p, 0, none⟩), und, v3, und, .slice (some ⟨q, 0, none⟩) 256 256, .int .i64 (0 : Nat), und, und, und, und, und, und, und, und, und, und, und, und, und, und, und, und, und, und, und, und, und, und, und, und, und, und, und, und, und, und, und, und, und, und, und, und, und, und, und, und, und, und, und, und, und, und, und, und, und, und, und, und, und, und, und, und, und, und, und, und, und, und, und, und, und, und, und, und, und, und, und, und, und, und, und, und, und, und, und, und, und, und, und, und, und, und, und, und, und, und, und, und, und, und, und, und, und, und, und, und, und, und, und, und, und, und, und, und, und, und, und, und, und, und, und, und, und, und, und, und, und, und, und, und, und, und, und, und, und, und, und, und, und, und, und, und, und] X = lp (aCall T0) K_spec_OramOk_0 L_spec_OramOk_0 [und, .pointer (some ⟨p, 0, none⟩), und, v3, und, .slice (some ⟨q, 0, none⟩) 256 256, .int .i64 st.length, und, und, und, und, und, und, und, und, und, und, und, und, und, und, und, und, und, und, und, und, und, und, und, und, und, und, und, und, und, und, und, und, und, und, und, und, und, und, und, und, und, und, und, und, und, und, und, und, und, und, und, und, und, und, und, und, und, und, und, und, und, und, und, und, und, und, und, und, und, und, und, und, und, und, und, und, und, und, und, und, und, und, und, und, und, und, und, und, und, und, und, und, und, und, und, und, und, und, und, und, und, und, und, und, und, und, und, und, und, und, und, und, und, und, und, und, und, und, und, und, und, und, und, und, und, und, und, und, und, und, und, und, und, und, und, und, und] X' := by
  have key := loop_to (call := aCall T0) (K := K_spec_OramOk_0) (L := L_spec_OramOk_0) (fun i (_ : Unit) X => SeI M q (st.take i) X) (fun i (_ : Unit) => [und, .pointer (some ⟨p, 0, none⟩), und, v3, und, .slice (some ⟨q, 0, none⟩) 256 256, .int .i64 i, und, und, und, und, und, und, und, und, und, und, und, und, und, und, und, und, und, und, und, und, und, und, und, und, und, und, und, und, und, und, und, und, und, und, und, und, und, und, und, und, und, und, und, und, und, und, und, und, und, und, und, und, und, und, und, und, und, und, und, und, und, und, und, und, und, und, und, und, und, und, und, und, und, und, und, und, und, und, und, und, und, und, und, und, und, und, und, und, und, und, und, und, und, und, und, und, und, und, und, und, und, und, und, und, und, und, und, und, und, und, und, und, und, und, und, und, und, und, und, und, und, und, und, und, und, und, und, und, und, und, und, und, und, und, und, und, und]) (n := st.length) ?_ 0 () X (by omega) (by simpa using h)
  · rw [List.take_length] at key
    exact key
  intro i _ X hi ⟨pX, hb⟩
  obtain ⟨l, o, u, rfl, hr0, _⟩ := at_Block (hS.mono pX) hi
  have hid := ids_nat hr _ (List.getElem_mem hi)
  have hts : st.take (i + 1) = st.take i ++ [st[i]] := List.take_succ_eq_append_getElem hi
  rw [hts]
  have hset := cntV_set (st.take i) st[i] hid.2
  have hget := cntV_get (st.take i) hid.2
  have hle := cntI_le (Int.toNat st[i].1) (st.take i)
  have hlen := cntV_len (st.take i)
  have htl : (st.take i).length = i := by rw [List.length_take]; omega
  rw [hid.1] at hr0
  have hlt := hid.2
  generalize hcs2 : cntV (st.take i ++ [st[i]]) = cs2 at *
  generalize cntI (Int.toNat st[i].1) (st.take i) = z at *
  generalize Int.toNat st[i].1 = t at *
  generalize cntV (st.take i) = cs at *
  have e6 : IntKind.i64.wrap ((i : Int) + 1) = i + 1 := wrap_i64 (by omega) (by omega)
  have ez : IntKind.i64.wrap ((z : Int) + 1) = (z : Int) + 1 := wrap_i64 (by omega) (by omega)
  have hp' := r1_pre pX hp
  have hrq : rd1 X q t = some (.int .i64 (z : Int)) := by simp [rd1, hb, hget]
  have hwr : wrn X q t [.int .i64 ((z : Int) + 1)] = some (X.set q ⟨cs2, 1, 2⟩) := by
    rw [show ((z : Int) + 1) = ((z + 1 : Nat) : Int) by omega, wrn_eq hb rfl (by show t + 1 ≤ cs.length; omega) rfl, ← hset]
  refine ⟨(), X.set q ⟨cs2, 1, 2⟩, ⟨pf_set hq pX, by rw [hcs2]; exact gs_of hb _⟩, ?_⟩
  have hlt2 : (t : Int) < 256 := by omega
  rw [S_spec_OramOk_0]; unfold B_spec_OramOk_0; simp [thenD_pp, sliceCells_sl, sliceCells_z, sliceCells_nil, take_full, appS_sl, appK_ok, appS_none, thenD_ag, agP_nil, agP_cons, hi, hp', hr0, hrq, hwr, hlt, hlt2, e6, ez]
def onAll (m : Nat) (ns : List ty_Node.D) (i : Nat) : Bool := match ns[i]? with
  | some bs => bs.all fun b => onP m (i + 1) (Int.toNat b.2.1)
  | none => true
theorem onAll_get {m : Nat} {ns : List ty_Node.D} {i : Nat} (h : i < ns.length) : onAll m ns i = List.all (α := ty_Block.D) ns[i] fun b => onP m (i + 1) (Int.toNat b.2.1) := by unfold onAll; rw [List.getElem?_eq_getElem h]
abbrev FtI (p q : Nat) (aN : Option Addr) (nN cN : Nat) (i : Nat) : List V := [und, .pointer (some ⟨p, 0, none⟩), und, .slice aN nN cN, und, .slice (some ⟨q, 0, none⟩) 256 256, und, .int .i64 i, und, und, und, und, und, und, und, und, und, und, und, und, und, und, und, und, und, und, und, und, und, und, und, und, und, und, und, und, und, und, und, und, und, und, und, und, und, und, und, und, und, und, und, und, und, und, und, und, und, und, und, und, und, und, und, und, und, und, und, und, und, und, und, und, und, und, und, und, und, und, und, und, und, und, und, und, und, und, und, und, und, und, und, und, und, und, und, und, und, und, und, und, und, und, und, und, und, und, und, und, und, und, und, und, und, und, und, und, und, und, und, und, und, und, und, und, und, und, und, und, und, und, und, und, und, und, und, und, und, und, und, und, und, und, und, und]
theorem at_Node {M : Mem} {a : Option Addr} {n c : Nat} {xs : List ty_Node.D} (h : Rep (.sl ty_Node) M [.slice a n c] xs) {i : Nat} (hi : i < xs.length) : ∃ l o u, a = some ⟨l, o, none⟩ ∧ rd1 M l (o + i) = some u ∧ rdn M l (o + i) 1 = some [u] ∧ Rep (.sl ty_Block) M [u] xs[i] := by
  obtain ⟨_, l, o, rfl, cs, hrd, hrep⟩ := rep_at h hi
  have hl := hrep.len
  have hw1 : ty_Node.w = 1 := rfl
  rw [hw1, Nat.mul_one] at hrd
  match cs, hl, hrd, hrep with
  | [u], _, hrd, hrep => exact ⟨l, o, u, rfl, rd1_of_one hrd, hrd, hrep⟩
abbrev FsI (p q : Nat) (aN : Option Addr) (nN cN : Nat) (i : Nat) (j : Nat) : List V := [und, .pointer (some ⟨p, 0, none⟩), und, .slice aN nN cN, und, .slice (some ⟨q, 0, none⟩) 256 256, und, .int .i64 i, .int .i64 j, und, und, und, und, und, und, und, und, und, und, und, und, und, und, und, und, und, und, und, und, und, und, und, und, und, und, und, und, und, und, und, und, und, und, und, und, und, und, und, und, und, und, und, und, und, und, und, und, und, und, und, und, und, und, und, und, und, und, und, und, und, und, und, und, und, und, und, und, und, und, und, und, und, und, und, und, und, und, und, und, und, und, und, und, und, und, und, und, und, und, und, und, und, und, und, und, und, und, und, und, und, und, und, und, und, und, und, und, und, und, und, und, und, und, und, und, und, und, und, und, und, und, und, und, und, und, und, und, und, und, und, und, und, und, und]
def onAt (m nd : Nat) (bs : List ty_Block.D) (j : Nat) : Bool := match bs[j]? with
  | some b => onP m nd (Int.toNat b.2.1)
  | none => true
theorem onAt_get {m nd : Nat} {bs : List ty_Block.D} {j : Nat} (h : j < bs.length) : onAt m nd bs j = onP m nd (Int.toNat bs[j].2.1) := by unfold onAt; rw [List.getElem?_eq_getElem h]
def outL (N j : Nat) : List Int := (List.range j).map fun i => ((N / 2 ^ (j - 1 - i) : Nat) : Int)
theorem outL_len (N j : Nat) : (outL N j).length = j := by simp [outL]
theorem outL_get {N j i : Nat} (hi : i < (outL N j).length) : (outL N j)[i] = ((N / 2 ^ (j - 1 - i) : Nat) : Int) := by simp [outL]
theorem outL_succ (N j : Nat) : outL N (j + 1) = ((N / 2 ^ j : Nat) : Int) :: outL N j := by
  unfold outL
  rw [List.range_succ_eq_map, List.map_cons, List.map_map]
  congr 1
  refine List.map_congr_left fun i _ => ?_
  simp only [Function.comp]
  congr 3
  omega
def Ic (xs : List Int) : List V := xs.map fun n => (.int .i64 n : V)
theorem Ic_len (xs : List Int) : (Ic xs).length = xs.length := by simp [Ic]
theorem Ic_one (xs : List Int) : (Ic xs).all one = true := by
  rw [List.all_eq_true]
  intro v hv
  obtain ⟨n, _, rfl⟩ := List.mem_map.1 hv
  rfl
def PnI (M : Mem) (N j : Nat) (v : V) (X : Mem) : Prop := M <+: X ∧ Grow M.length 1 X v j (Ic (outL N j))
theorem l_spec_PathNodes_0 (M : Mem) (N n : Nat) (hN : N < 128) (hn : n ≤ 7) (hge : ∀ j, j < n → 1 ≤ N / 2 ^ j) (v : V) (Z : Mem) (hZ : PnI M N 0 v Z) :
    ∃ v' X', PnI M N n v' X' ∧ lp (aCall T0) K_spec_PathNodes_0 L_spec_PathNodes_0 [und, und, und, und, und, v, .int .i64 ((N / 2 ^ 0 : Nat) : Int), und, und, und, und, und, und, und, und, und, und, und, und, und, und, und, und, und, und] Z = lp (aCall T0) K_spec_PathNodes_0 L_spec_PathNodes_0 [und, und, und, und, und, v', .int .i64 ((N / 2 ^ n : Nat) : Int), und, und, und, und, und, und, und, und, und, und, und, und, und, und, und, und, und, und] X' := by
  refine loop_to (call := aCall T0) (K := K_spec_PathNodes_0) (L := L_spec_PathNodes_0) (fun j v X => PnI M N j v X) (fun j v => [und, und, und, und, und, v, .int .i64 ((N / 2 ^ j : Nat) : Int), und, und, und, und, und, und, und, und, und, und, und, und, und, und, und, und, und, und]) (n := n) ?_ 0 v Z (by omega) hZ
  intro j v X hj ⟨pX, gX⟩
  have hq : (N / 2 ^ j) / 2 = N / 2 ^ (j + 1) := by rw [Nat.div_div_eq_div_mul, Nat.pow_succ]
  have hle := Nat.div_le_self N (2 ^ j)
  have h1 : (1 : Int) ≤ ((N / 2 ^ j : Nat) : Int) := by have := hge j hj; omega
  have hd : IntKind.i64.wrap (((N / 2 ^ j : Nat) : Int) / 2) = ((N / 2 ^ (j + 1) : Nat) : Int) := by rw [← hq, wrap_i64 (by omega) (by omega)]; rfl
  have hc := fun Y : Mem => (gX.pre (List.prefix_append X Y)).cells
  have hgl := gX.ge
  have hpl := pX.length_le
  unfold PnI
  rw [outL_succ]
  generalize N / 2 ^ (j + 1) = q2 at hd ⊢
  generalize N / 2 ^ j = q at hd h1 ⊢
  have hg1 : Grow M.length 1 (X ++ [(⟨[.int .i64 q], 1, 2⟩ : Blk)]) (.slice (some ⟨X.length, 0, none⟩) 1 1) 1 [.int .i64 q] := Grow.new hpl rfl
  obtain ⟨av, rfl⟩ := gX.shape
  by_cases h0 : j = 0
  · subst h0
    have e0 : outL N 0 = [] := rfl
    rw [e0] at hc ⊢
    rw [S_spec_PathNodes_0]; unfold B_spec_PathNodes_0; simp [thenD_pp, sliceCells_sl, sliceCells_z, sliceCells_nil, take_full, appS_sl, appK_ok, appS_none, thenD_ag, agP_nil, agP_cons, h1, hc, appS, hd, Ic]
    exact ⟨_, _, ⟨pf_app pX, hg1⟩, rfl⟩
  · rw [S_spec_PathNodes_0]; unfold B_spec_PathNodes_0; simp [thenD_pp, sliceCells_sl, sliceCells_z, sliceCells_nil, take_full, appS_sl, appK_ok, appS_none, thenD_ag, agP_nil, agP_cons, h1, hc]
    generalize hy : appS _ _ _ _ _ _ = xhy
    obtain ⟨a3, X3, rfl, g3, ag, l3⟩ := hg1.at hy (List.prefix_refl _) (by simp; omega) (by rw [Ic_len, outL_len]; omega) (by omega) (Ic_one _) (by omega) (by omega)
    clear hy
    have ec : 1 + j = j + 1 := by omega
    simp only [ec] at g3
    simp [thenD_pp, sliceCells_sl, sliceCells_z, sliceCells_nil, take_full, appS_sl, appK_ok, appS_none, thenD_ag, agP_nil, agP_cons, hd, ec]
    exact ⟨_, _, ⟨ag.pre (pf_app pX) fun b hb => hg1.ge b hb, g3⟩, rfl⟩
/-- The path of a leaf. -/
def PnD (M : Mem) (m a : Nat) (p : V × Mem) : Prop := ∃ av : Option Addr, p.1 = .slice av (m + 1) (m + 1) ∧ M <+: p.2 ∧ Grow M.length 1 p.2 (.slice av (m + 1) (m + 1)) (m + 1) (Ic (outL (2 ^ m + a) (m + 1)))
theorem c_spec_PathNodes (M : Mem) (m a : Nat) (hm : m ≤ 6) (ha : a < 2 ^ m) : Sat (aCall T0 F_spec_PathNodes [.int .i64 m, .int .i64 a] M) (PnD M m a) := by
  have hp : 2 ^ m ≤ 2 ^ 6 := Nat.pow_le_pow_right (by omega) hm
  have hL : leafB m a = true := by
    unfold leafB lgB
    have : (a : Int) < 2 ^ m := by rw [pow2_cast]; omega
    simp [this]; omega
  have e1 := fun M => c_spec_l11Leaf M m a
  rw [hL] at e1
  have e2 := fun M => c_spec_l02Pow M m (by omega)
  have e3 : IntKind.i64.wrap ((2 : Int) ^ m + a) = ((2 ^ m + a : Nat) : Int) := by rw [pow2_cast, wrap_i64 (by omega) (by omega)]; omega
  have hge : ∀ j, j < m + 1 → 1 ≤ (2 ^ m + a) / 2 ^ j := fun j hj => by
    have h1 : 2 ^ j ≤ 2 ^ m := Nat.pow_le_pow_right (by omega) (by omega)
    exact (Nat.le_div_iff_mul_le (Nat.two_pow_pos j)).2 (by omega)
  have hz : (2 ^ m + a) / 2 ^ (m + 1) = 0 := Nat.div_eq_of_lt (by rw [Nat.pow_succ]; omega)
  obtain ⟨v', X', ⟨pX, gX⟩, e⟩ := l_spec_PathNodes_0 M (2 ^ m + a) (m + 1) (by omega) (by omega) hge (.slice (some ⟨M.length, 0, none⟩) 0 0) (M ++ [⟨[], 1, 2⟩]) ⟨List.prefix_append _ _, Grow.new (Nat.le_refl _) rfl⟩
  simp only [Nat.pow_zero, Nat.div_one, hz] at e
  obtain ⟨av, rfl⟩ := gX.shape
  unfold PnD
  generalize 2 ^ m + a = N at e e3 gX
  rw [aCall_eq T_spec_PathNodes]; unfold A_spec_PathNodes C_spec_PathNodes; simp [thenD_pp, sliceCells_sl, sliceCells_z, sliceCells_nil, take_full, appS_sl, appK_ok, appS_none, thenD_ag, agP_nil, agP_cons, e1, e2, e3, zeroCells, e]
  rw [S_spec_PathNodes_0]; unfold B_spec_PathNodes_0; simp [thenD_pp, sliceCells_sl, sliceCells_z, sliceCells_nil, take_full, appS_sl, appK_ok, appS_none, thenD_ag, agP_nil, agP_cons]
  exact ⟨(_, X'), rfl, av, rfl, pX, gX⟩
theorem Ic_at {K : Nat} {M : Mem} {a : Option Addr} {n : Nat} {xs : List Int} (h : Grow K 1 M (.slice a n n) n (Ic xs)) {i : Nat} (hi : i < xs.length) : ∃ l o, a = some ⟨l, o, none⟩ ∧ rd1 M l (o + i) = some (.int .i64 xs[i]) := by
  obtain ⟨h1, ⟨h2, rfl⟩ | ⟨l, _, hv, hb⟩⟩ := h
  · rw [Ic_len] at h1; omega
  · cases hv
    exact ⟨l, 0, rfl, by simp [rd1, hb, Ic, hi]⟩
theorem path_len {m leaf i : Nat} (hl : leaf < 2 ^ m) (hi : i ≤ m) : blen ((2 ^ m + leaf) / 2 ^ (m - i)) = i + 1 := by
  have e : 2 ^ m = 2 ^ i * 2 ^ (m - i) := by rw [← Nat.pow_add]; congr 1; omega
  have hd : (2 ^ m + leaf) / 2 ^ (m - i) = 2 ^ i + leaf / 2 ^ (m - i) := by
    rw [e, Nat.add_comm, Nat.add_mul_div_right _ _ (Nat.two_pow_pos _), Nat.add_comm]
  have hlt : leaf / 2 ^ (m - i) < 2 ^ i := by
    rw [Nat.div_lt_iff_lt_mul (Nat.two_pow_pos _), ← e]
    exact hl
  have key : ∀ q, q < 2 ^ i → blen (2 ^ i + q) = i + 1 := by
    intro q hq
    have hpos := Nat.two_pow_pos i
    have h1 : blen (2 ^ i + q) ≤ i + 1 := blen_le.2 (by rw [Nat.pow_succ]; omega)
    have h2 : ¬ blen (2 ^ i + q) ≤ i := fun h => by
      have := blen_le.1 h
      omega
    omega
  rw [hd]
  exact key _ hlt
theorem onP_iff {m node leaf : Nat} (hl : leaf < 2 ^ m) (h2 : node < 2 * 2 ^ m) (h1 : 1 ≤ node) : onP m node leaf = true ↔ ∃ i, i < m + 1 ∧ (2 ^ m + leaf) / 2 ^ (m - i) = node := by
  unfold onP
  rw [decide_eq_true_eq]
  have hb : blen node ≤ m + 1 := blen_le.2 (by rw [Nat.pow_succ]; omega)
  have hb1 := blen_pos (x := node) (by omega)
  constructor
  · intro h
    exact ⟨blen node - 1, by omega, h⟩
  · rintro ⟨i, hi, rfl⟩
    rw [path_len hl (by omega)]
    simp
theorem c_spec_OnPath (M : Mem) (m node leaf : Nat) (hm : m ≤ 6) (hl : leaf < 2 ^ m) (h1 : 1 ≤ node) (h2 : node < 2 * 2 ^ m) : aCall T0 F_spec_OnPath [.int .i64 m, .int .i64 node, .int .i64 leaf] M = some (.bool (onP m node leaf), M) := by
  obtain ⟨⟨v1, X1⟩, ep, av, hv1, p1, hg⟩ := c_spec_PathNodes M m leaf hm hl
  simp only at hv1 p1 hg
  subst hv1
  have hlen := outL_len (2 ^ m + leaf) (m + 1)
  have hget : ∀ i, i < m + 1 → (outL (2 ^ m + leaf) (m + 1))[i]? = some (((2 ^ m + leaf) / 2 ^ (m - i) : Nat) : Int) := fun i hi => by
    rw [List.getElem?_eq_getElem (by omega), outL_get]
    congr 4
  have hat : ∀ i, i < m + 1 → ∃ l o, av = some ⟨l, o, none⟩ ∧ rd1 X1 l (o + i) = some (.int .i64 (((2 ^ m + leaf) / 2 ^ (m - i) : Nat) : Int)) := fun i hi => by
    obtain ⟨l, o, e, hr⟩ := Ic_at hg (i := i) (by omega)
    refine ⟨l, o, e, ?_⟩
    have := hget i hi
    rw [List.getElem?_eq_getElem (by omega)] at this
    rw [hr, Option.some.inj this]
  have hp : 2 ^ m ≤ 2 ^ 6 := Nat.pow_le_pow_right (by omega) hm
  have gb := fun b => gc_boolp p1 b
  have key := loop_ok (call := aCall T0) (K := K_spec_OnPath_0) (L := L_spec_OnPath_0) (fun _ Y => Y = X1) (fun i => [und, .int .i64 node, und, und, und, und, und, .slice av (m + 1) (m + 1), .int .i64 i, und, und, und, und, und, und, und, und, und, und, und, und, und, und, und]) (fun i => decide (¬ (2 ^ m + leaf) / 2 ^ (m - i) = node)) (n := m + 1) (M0 := M) (rs := [.tmp 6]) (k0 := 0) (a := .bool true) X1 rfl ?_ ?_
  · rcases key with ⟨X', rfl, ha, e⟩ | ⟨⟨i, hi, hx⟩, e⟩
    · simp only [Int.natCast_zero, Int.ofNat_zero] at e
      have hf : onP m node leaf = false := by
        cases ho : onP m node leaf with
        | false => rfl
        | true =>
          obtain ⟨i, hi, h⟩ := (onP_iff hl h2 h1).1 ho
          have := of_decide_eq_true (ha i hi)
          exact absurd h this
      rw [hf]
      rw [aCall_eq T_spec_OnPath]; unfold A_spec_OnPath C_spec_OnPath; simp [thenD_pp, sliceCells_sl, sliceCells_z, sliceCells_nil, take_full, appS_sl, appK_ok, appS_none, thenD_ag, agP_nil, agP_cons, ep, e]
      rw [S_spec_OnPath_0]; unfold B_spec_OnPath_0; simp [thenD_pp, sliceCells_sl, sliceCells_z, sliceCells_nil, take_full, appS_sl, appK_ok, appS_none, thenD_ag, agP_nil, agP_cons, gb]
    · simp only [Int.natCast_zero, Int.ofNat_zero] at e
      have ht : onP m node leaf = true := (onP_iff hl h2 h1).2 ⟨i, hi, by simpa using hx⟩
      rw [ht]
      rw [aCall_eq T_spec_OnPath]; unfold A_spec_OnPath C_spec_OnPath; simp [thenD_pp, sliceCells_sl, sliceCells_z, sliceCells_nil, take_full, appS_sl, appK_ok, appS_none, thenD_ag, agP_nil, agP_cons, ep, e]
  · intro i Y hi hq hY
    subst hY
    have e6 : IntKind.i64.wrap ((i : Int) + 1) = i + 1 := wrap_i64 (by omega) (by omega)
    obtain ⟨l, o, rfl, hr⟩ := hat i hi
    have hq := of_decide_eq_true hq
    have hmi : (i : Int) < (m : Int) + 1 := by omega
    generalize (2 ^ m + leaf) / 2 ^ (m - i) = q at *
    have hq' : ¬ (q : Int) = (node : Int) := by omega
    refine ⟨Y, rfl, ?_⟩
    rw [S_spec_OnPath_0]; unfold B_spec_OnPath_0; simp [thenD_pp, sliceCells_sl, sliceCells_z, sliceCells_nil, take_full, appS_sl, appK_ok, appS_none, thenD_ag, agP_nil, agP_cons, hi, hmi, hr, hq', hq, e6]
  · intro i Y hi hq hY k
    subst hY
    obtain ⟨l, o, rfl, hr⟩ := hat i hi
    have hq : (2 ^ m + leaf) / 2 ^ (m - i) = node := by simpa using hq
    rw [hq] at hr
    have hmi : (i : Int) < (m : Int) + 1 := by omega
    rw [S_spec_OnPath_0]; unfold B_spec_OnPath_0; simp [thenD_pp, sliceCells_sl, sliceCells_z, sliceCells_nil, take_full, appS_sl, appK_ok, appS_none, thenD_ag, agP_nil, agP_cons, hi, hmi, hr, gb]
set_option maxRecDepth 20000 in
set_option maxHeartbeats 2000000 in
theorem l_spec_OramOk_2 (M : Mem) (p q m : Nat) (aN : Option Addr) (cN : Nat) (ns : List ty_Node.D) (hN : Rep (.sl ty_Node) M [.slice aN ns.length cN] ns) (hp : rd1 M p 0 = some (.int .i64 (m : Int))) (hq : M.length ≤ q) (hm : m ≤ 6) (hlen : ns.length + 1 = 2 * 2 ^ m) (i : Nat) (hi : i < ns.length) (hbs : ∀ b ∈ ns[i], (0 ≤ b.1 ∧ b.1 ≤ 255) ∧ b.2.1 = ((Int.toNat b.2.1 : Nat) : Int) ∧ Int.toNat b.2.1 < 2 ^ m) (hnl : ns[i].length ≤ 4)
    (xs : List ty_Block.D) (hxs : xs.length ≤ 100000) (X : Mem) (h : SeI M q xs X) :
    (∃ (u : Unit) (X' : Mem), SeI M q (xs ++ ns[i]) X' ∧ (∀ j, j < ns[i].length → onAt m (i + 1) ns[i] j = true) ∧ lp (aCall T0) K_spec_OramOk_2 L_spec_OramOk_2 (FsI p q aN ns.length cN i 0) X = lp (aCall T0) K_spec_OramOk_2 L_spec_OramOk_2 (FsI p q aN ns.length cN i ns[i].length) X') ∨
    ((∃ j, j < ns[i].length ∧ onAt m (i + 1) ns[i] j = false) ∧ RtB M (lp (aCall T0) K_spec_OramOk_2 L_spec_OramOk_2 (FsI p q aN ns.length cN i 0) X)) := by
  have hp6 : 2 ^ m ≤ 2 ^ 6 := Nat.pow_le_pow_right (by omega) hm
  have key := loop_rt (call := aCall T0) (K := K_spec_OramOk_2) (L := L_spec_OramOk_2) (fun j (_ : Unit) X => SeI M q (xs ++ ns[i].take j) X) (fun j (_ : Unit) => FsI p q aN ns.length cN i j) (onAt m (i + 1) ns[i]) (RtB M) (n := ns[i].length) () X (by simpa using h) ?_ ?_
  · rw [List.take_length] at key
    exact key
  all_goals
    intro j _ X hj ho ⟨pX, hb⟩
    rw [onAt_get hj] at ho
    obtain ⟨l, o, u, rfl, hru, _, hrep⟩ := at_Node (hN.mono pX) hi
    obtain ⟨a1, c1, rfl⟩ := hrep.slen
    obtain ⟨l1, o1, u1, rfl, _, _, _, hrb, _, _, hub, _⟩ := at_Block hrep hj
    obtain ⟨ub, uc, rfl⟩ := hub.slen
    have hk := hbs _ (List.getElem_mem hj)
    have hid := nat_255 hk.1
    have hts : xs ++ ns[i].take (j + 1) = (xs ++ ns[i].take j) ++ [ns[i][j]] := by rw [List.take_succ_eq_append_getElem hj, List.append_assoc]
    have hset := cntV_set (xs ++ ns[i].take j) ns[i][j] hid.2
    have hget := cntV_get (xs ++ ns[i].take j) hid.2
    have hle := cntI_le (Int.toNat ns[i][j].1) (xs ++ ns[i].take j)
    have hln := cntV_len (xs ++ ns[i].take j)
    have htl : (xs ++ ns[i].take j).length ≤ 200000 := by rw [List.length_append, List.length_take]; omega
    have hon : ∀ Y, aCall T0 F_spec_OnPath [.int .i64 m, .int .i64 ((i : Int) + 1), .int .i64 (Int.toNat ns[i][j].2.1 : Int)] Y = some (.bool (onP m (i + 1) (Int.toNat ns[i][j].2.1)), Y) := fun Y => c_spec_OnPath Y m (i + 1) (Int.toNat ns[i][j].2.1) hm (by exact hk.2.2) (by omega) (by omega)
    rw [hid.1, hk.2.1] at hrb
    rw [ho] at hon
    have hlt := hid.2
    generalize hcs2 : cntV ((xs ++ ns[i].take j) ++ [ns[i][j]]) = cs2 at *
    generalize cntI (Int.toNat ns[i][j].1) (xs ++ ns[i].take j) = z at *
    generalize Int.toNat ns[i][j].1 = t at *
    generalize Int.toNat ns[i][j].2.1 = lf at *
    generalize hdl : List.length (α := UInt8) ns[i][j].2.2 = dl at *
    generalize cntV (xs ++ ns[i].take j) = cs at *
    have e6 : IntKind.i64.wrap ((j : Int) + 1) = j + 1 := wrap_i64 (by omega) (by omega)
    have e7 : IntKind.i64.wrap ((i : Int) + 1) = i + 1 := wrap_i64 (by omega) (by omega)
    have ez : IntKind.i64.wrap ((z : Int) + 1) = (z : Int) + 1 := wrap_i64 (by omega) (by omega)
    have pB : M <+: X ++ [(⟨[.int .i64 (t : Int), .int .i64 (lf : Int), .slice ub dl uc], 1, 2⟩ : Blk)] := pX.trans (List.prefix_append _ _)
    have hp' := fun N : Mem => r1_pre (pX.trans (List.prefix_append X N)) hp
    have hlt2 : (t : Int) < 256 := by omega
    have hqX := get_lt hb
    have hbB := get_pre (List.prefix_append X [(⟨[.int .i64 (t : Int), .int .i64 (lf : Int), .slice ub dl uc], 1, 2⟩ : Blk)]) hb
    have hwr : wrn (X ++ [(⟨[.int .i64 (t : Int), .int .i64 (lf : Int), .slice ub dl uc], 1, 2⟩ : Blk)]) q t [.int .i64 ((z : Int) + 1)] = some ((X ++ [(⟨[.int .i64 (t : Int), .int .i64 (lf : Int), .slice ub dl uc], 1, 2⟩ : Blk)]).set q ⟨cs2, 1, 2⟩) := by
      rw [show ((z : Int) + 1) = ((z + 1 : Nat) : Int) by omega, wrn_eq hbB rfl (by show t + 1 ≤ cs.length; omega) rfl, ← hset]
    have hrq : rd1 (X ++ [(⟨[.int .i64 (t : Int), .int .i64 (lf : Int), .slice ub dl uc], 1, 2⟩ : Blk)]) q t = some (.int .i64 (z : Int)) := by simp [rd1, hbB, hget]
    have pS := pf_set (b := ⟨cs2, 1, 2⟩) hq pB
    have hpS := r1_pre pS hp
    have hbx : ((X ++ [(⟨[.int .i64 (t : Int), .int .i64 (lf : Int), .slice ub dl uc], 1, 2⟩ : Blk)]).set q ⟨cs2, 1, 2⟩)[X.length]? = some ⟨[.int .i64 (t : Int), .int .i64 (lf : Int), .slice ub dl uc], 1, 2⟩ := by
      rw [List.getElem?_set_ne (by omega)]
      simp
    have hbr : rd1 ((X ++ [(⟨[.int .i64 (t : Int), .int .i64 (lf : Int), .slice ub dl uc], 1, 2⟩ : Blk)]).set q ⟨cs2, 1, 2⟩) X.length 1 = some (.int .i64 (lf : Int)) := by simp only [rd1, hbx]; rfl
  · refine ⟨(), _, ⟨pS, by rw [hts, hcs2]; exact gs_of hbB _⟩, ?_⟩
    rw [S_spec_OramOk_2]; unfold B_spec_OramOk_2; simp [thenD_pp, sliceCells_sl, sliceCells_z, sliceCells_nil, take_full, appS_sl, appK_ok, appS_none, thenD_ag, agP_nil, agP_cons, hi, hj, hru, hrb, hp', hrq, hwr, hlt, hlt2, hpS, hbr, hon, e6, e7, ez]
    rfl
  · rw [S_spec_OramOk_2]; unfold B_spec_OramOk_2; simp [thenD_pp, sliceCells_sl, sliceCells_z, sliceCells_nil, take_full, appS_sl, appK_ok, appS_none, thenD_ag, agP_nil, agP_cons, hi, hj, hru, hrb, hp', hrq, hwr, hlt, hlt2, hpS, hbr, hon, e6, e7, ez]
    refine ⟨_, _, rfl, ?_, pS⟩
    rfl
theorem flatten_take {α : Type} (ns : List (List α)) {i : Nat} (hi : i < ns.length) : (ns.take (i + 1)).flatten = (ns.take i).flatten ++ ns[i] := by
  rw [List.take_succ_eq_append_getElem hi, List.flatten_append, List.flatten_cons, List.flatten_nil, List.append_nil]
set_option maxRecDepth 20000 in
set_option maxHeartbeats 2000000 in
theorem l_spec_OramOk_1 (M : Mem) (p q m : Nat) (aN : Option Addr) (cN : Nat) (ns : List ty_Node.D) (hN : Rep (.sl ty_Node) M [.slice aN ns.length cN] ns) (hp : rd1 M p 0 = some (.int .i64 (m : Int))) (hq : M.length ≤ q) (hm : m ≤ 6) (hlen : ns.length + 1 = 2 * 2 ^ m) (hbs : ∀ bs ∈ ns, ∀ b ∈ bs, (0 ≤ b.1 ∧ b.1 ≤ 255) ∧ b.2.1 = ((Int.toNat b.2.1 : Nat) : Int) ∧ Int.toNat b.2.1 < 2 ^ m) (hnl : ∀ bs ∈ ns, List.length (α := ty_Block.D) bs ≤ 4)
    (st : List ty_Block.D) (hst : st.length ≤ 1000) (X : Mem) (h : SeI M q st X) :
    (∃ (u : Unit) (X' : Mem), SeI M q (st ++ ns.flatten) X' ∧ (∀ i, i < ns.length → onAll m ns i = true) ∧ lp (aCall T0) K_spec_OramOk_1 L_spec_OramOk_1 (FtI p q aN ns.length cN 0) X = lp (aCall T0) K_spec_OramOk_1 L_spec_OramOk_1 (FtI p q aN ns.length cN ns.length) X') ∨
    ((∃ i, i < ns.length ∧ onAll m ns i = false) ∧ RtB M (lp (aCall T0) K_spec_OramOk_1 L_spec_OramOk_1 (FtI p q aN ns.length cN 0) X)) := by
  have hp6 : 2 ^ m ≤ 2 ^ 6 := Nat.pow_le_pow_right (by omega) hm
  have key := loop_rt (call := aCall T0) (K := K_spec_OramOk_1) (L := L_spec_OramOk_1) (fun i (_ : Unit) X => SeI M q (st ++ (ns.take i).flatten) X) (fun i (_ : Unit) => FtI p q aN ns.length cN i) (onAll m ns) (RtB M) (n := ns.length) () X (by simpa using h) ?_ ?_
  · rw [List.take_length] at key
    exact key
  all_goals
    intro i _ X hi ho hX
    rw [onAll_get hi] at ho
    have hfl := flatten_len (ns := ns.take i) (k := 4) (fun x hx => hnl x (List.mem_of_mem_take hx))
    rw [List.length_take] at hfl
    have key := l_spec_OramOk_2 M p q m aN cN ns hN hp hq hm hlen i hi (hbs _ (List.getElem_mem hi)) (hnl _ (List.getElem_mem hi)) (st ++ (ns.take i).flatten) (by rw [List.length_append]; omega) X hX
    have e6 : IntKind.i64.wrap ((i : Int) + 1) = i + 1 := wrap_i64 (by omega) (by omega)
    obtain ⟨l, o, u, rfl, hru, _, hrep⟩ := at_Node (hN.mono hX.1) hi
    obtain ⟨a1, c1, rfl⟩ := hrep.slen
    simp only [FsI, Int.natCast_zero, Int.ofNat_zero] at key
    rcases key with ⟨_, X', hX', hall, e⟩ | ⟨⟨j, hj, hon⟩, fr, X', e, q2, q3⟩
  · refine ⟨(), X', by rw [flatten_take ns hi, ← List.append_assoc]; exact hX', ?_⟩
    obtain ⟨l', o', u', e', hru', _, hrep'⟩ := at_Node (hN.mono hX'.1) hi
    cases e'
    obtain ⟨a1', c1', rfl⟩ := hrep'.slen
    rw [S_spec_OramOk_1]; unfold B_spec_OramOk_1; simp [thenD_pp, sliceCells_sl, sliceCells_z, sliceCells_nil, take_full, appS_sl, appK_ok, appS_none, thenD_ag, agP_nil, agP_cons, hi, e]
    rw [S_spec_OramOk_2]; unfold B_spec_OramOk_2; simp [thenD_pp, sliceCells_sl, sliceCells_z, sliceCells_nil, take_full, appS_sl, appK_ok, appS_none, thenD_ag, agP_nil, agP_cons, hi, hru', e6]
    try rfl
  · exfalso
    rw [onAt_get hj] at hon
    have := List.all_eq_true.1 ho _ (List.getElem_mem hj)
    rw [hon] at this
    cases this
  · exfalso
    have : (List.all (α := ty_Block.D) ns[i] fun b => onP m (i + 1) (Int.toNat b.2.1)) = true := List.all_eq_true.2 fun b hb => by
      obtain ⟨k, hk, rfl⟩ := List.getElem_of_mem hb
      rw [← onAt_get hk]
      exact hall k hk
    rw [this] at ho
    cases ho
  · rw [S_spec_OramOk_1]; unfold B_spec_OramOk_1; simp [thenD_pp, sliceCells_sl, sliceCells_z, sliceCells_nil, take_full, appS_sl, appK_ok, appS_none, thenD_ag, agP_nil, agP_cons, hi, e]
    exact ⟨fr, X', rfl, q2, q3⟩
set_option maxRecDepth 20000 in
set_option maxHeartbeats 2000000 in
theorem l_spec_OramOk_3 (M : Mem) (q : Nat) (xs : List ty_Block.D) (X : Mem) (h : SeI M q xs X) :
    (∃ X', X' = X ∧ (∀ i, i < 256 → decide (cntI i xs ≤ 1) = true) ∧ lp (aCall T0) K_spec_OramOk_3 L_spec_OramOk_3 [und, und, und, und, und, .slice (some ⟨q, 0, none⟩) 256 256, und, und, und, und, .int .i64 (0 : Nat), und, und, und, und, und, und, und, und, und, und, und, und, und, und, und, und, und, und, und, und, und, und, und, und, und, und, und, und, und, und, und, und, und, und, und, und, und, und, und, und, und, und, und, und, und, und, und, und, und, und, und, und, und, und, und, und, und, und, und, und, und, und, und, und, und, und, und, und, und, und, und, und, und, und, und, und, und, und, und, und, und, und, und, und, und, und, und, und, und, und, und, und, und, und, und, und, und, und, und, und, und, und, und, und, und, und, und, und, und, und, und, und, und, und, und, und, und, und, und, und, und, und, und, und, und, und, und, und, und, und, und, und, und] X = lp (aCall T0) K_spec_OramOk_3 L_spec_OramOk_3 [und, und, und, und, und, .slice (some ⟨q, 0, none⟩) 256 256, und, und, und, und, .int .i64 (256 : Nat), und, und, und, und, und, und, und, und, und, und, und, und, und, und, und, und, und, und, und, und, und, und, und, und, und, und, und, und, und, und, und, und, und, und, und, und, und, und, und, und, und, und, und, und, und, und, und, und, und, und, und, und, und, und, und, und, und, und, und, und, und, und, und, und, und, und, und, und, und, und, und, und, und, und, und, und, und, und, und, und, und, und, und, und, und, und, und, und, und, und, und, und, und, und, und, und, und, und, und, und, und, und, und, und, und, und, und, und, und, und, und, und, und, und, und, und, und, und, und, und, und, und, und, und, und, und, und, und, und, und, und, und, und] X') ∨
    ((∃ i, i < 256 ∧ decide (cntI i xs ≤ 1) = false) ∧ RtB M (lp (aCall T0) K_spec_OramOk_3 L_spec_OramOk_3 [und, und, und, und, und, .slice (some ⟨q, 0, none⟩) 256 256, und, und, und, und, .int .i64 (0 : Nat), und, und, und, und, und, und, und, und, und, und, und, und, und, und, und, und, und, und, und, und, und, und, und, und, und, und, und, und, und, und, und, und, und, und, und, und, und, und, und, und, und, und, und, und, und, und, und, und, und, und, und, und, und, und, und, und, und, und, und, und, und, und, und, und, und, und, und, und, und, und, und, und, und, und, und, und, und, und, und, und, und, und, und, und, und, und, und, und, und, und, und, und, und, und, und, und, und, und, und, und, und, und, und, und, und, und, und, und, und, und, und, und, und, und, und, und, und, und, und, und, und, und, und, und, und, und, und, und, und, und, und, und, und] X)) := by
  have key := loop_rt (call := aCall T0) (K := K_spec_OramOk_3) (L := L_spec_OramOk_3) (fun _ (_ : Unit) Y => Y = X) (fun i (_ : Unit) => [und, und, und, und, und, .slice (some ⟨q, 0, none⟩) 256 256, und, und, und, und, .int .i64 i, und, und, und, und, und, und, und, und, und, und, und, und, und, und, und, und, und, und, und, und, und, und, und, und, und, und, und, und, und, und, und, und, und, und, und, und, und, und, und, und, und, und, und, und, und, und, und, und, und, und, und, und, und, und, und, und, und, und, und, und, und, und, und, und, und, und, und, und, und, und, und, und, und, und, und, und, und, und, und, und, und, und, und, und, und, und, und, und, und, und, und, und, und, und, und, und, und, und, und, und, und, und, und, und, und, und, und, und, und, und, und, und, und, und, und, und, und, und, und, und, und, und, und, und, und, und, und, und, und, und, und, und, und]) (fun i => decide (cntI i xs ≤ 1)) (RtB M) (n := 256) () X rfl ?_ ?_
  · rcases key with ⟨_, X', h1, h2, h3⟩ | h
    · exact .inl ⟨X', h1, h2, h3⟩
    · exact .inr h
  all_goals
    intro i _ Y hi ho hY
    subst hY
    have hget := cntV_get xs hi
    have hr : rd1 Y q i = some (.int .i64 (cntI i xs : Int)) := by simp [rd1, h.2, hget]
    have e6 : IntKind.i64.wrap ((i : Int) + 1) = i + 1 := wrap_i64 (by omega) (by omega)
    have hi2 : (i : Int) < 256 := by omega
  · have ho := of_decide_eq_true ho
    generalize cntI i xs = z at *
    have ho2 : ¬ (1 : Int) < (z : Int) := by omega
    refine ⟨(), Y, rfl, ?_⟩
    rw [S_spec_OramOk_3]; unfold B_spec_OramOk_3; simp [thenD_pp, sliceCells_sl, sliceCells_z, sliceCells_nil, take_full, appS_sl, appK_ok, appS_none, thenD_ag, agP_nil, agP_cons, hi, hi2, hr, ho2, e6]
    try rfl
  · have ho := of_decide_eq_false ho
    generalize cntI i xs = z at *
    have ho2 : (1 : Int) < (z : Int) := by omega
    rw [S_spec_OramOk_3]; unfold B_spec_OramOk_3; simp [thenD_pp, sliceCells_sl, sliceCells_z, sliceCells_nil, take_full, appS_sl, appK_ok, appS_none, thenD_ag, agP_nil, agP_cons, hi, hi2, hr, ho2, e6]
    refine ⟨_, _, rfl, ?_, h.1⟩
    rfl
theorem cntI_fl (k : Nat) (xs : List ty_Block.D) : cntI k xs = (flI k xs).length := rfl
theorem cnt_lt {xs : List ty_Block.D} (h : IdLt xs) (hr : IdsR xs) (k : Nat) : cntI k xs ≤ 1 := by
  rw [cntI_fl]
  by_cases h2 : (flI k xs).length ≤ 1
  · exact h2
  · exfalso
    have hs : (flI k xs).Pairwise fun a b => a.1 < b.1 := h.sublist List.filter_sublist
    have h3 := List.pairwise_iff_getElem.1 hs 0 1 (by omega) (by omega) (by omega)
    have m0 := List.mem_filter.1 (List.getElem_mem (show 0 < (flI k xs).length by omega))
    have m1 := List.mem_filter.1 (List.getElem_mem (show 1 < (flI k xs).length by omega))
    have e := toNat_inj (hr _ m0.1).1 (hr _ m1.1).1 ((of_decide_eq_true m0.2).trans (of_decide_eq_true m1.2).symm)
    rw [e] at h3
    exact Int.lt_irrefl _ h3
theorem in_bad {m nd : Nat} : ∀ (bs all : List ty_Block.D), IdLt all → IdsR all → IdsR bs → (∀ b ∈ bs, onP m nd (Int.toNat b.2.1) = true) → (∀ k, k < 256 → cntI k (all ++ bs) ≤ 1) → ∃ a, inO m nd all bs = some a
  | [], all, _, _, _, _, _ => ⟨all, rfl⟩
  | b :: bs, all, h1, h2, h3, h4, h5 => by
    have hb := h3 b (by simp)
    have hbn := nat_255 hb
    have hn : hasId b.1 all = false := by
      cases hh : hasId b.1 all with
      | false => rfl
      | true =>
        obtain ⟨c, hc, hd⟩ := List.any_eq_true.1 hh
        have he : c.1 = b.1 := of_decide_eq_true hd
        have := h5 (Int.toNat b.1) hbn.2
        rw [cntI_fl, flI_app, List.length_append] at this
        have e2 : flI (Int.toNat b.1) (b :: bs) = [b] ++ flI (Int.toNat b.1) bs := by
          rw [show b :: bs = [b] ++ bs from rfl, flI_app, flI_one, if_pos rfl]
        rw [e2, List.length_append, List.length_singleton] at this
        have hcm : c ∈ flI (Int.toNat b.1) all := List.mem_filter.2 ⟨hc, decide_eq_true (by rw [he])⟩
        have := List.length_pos_of_mem hcm
        omega
    unfold inO
    rw [if_pos (by rw [h4 b (by simp), hn]; rfl)]
    refine in_bad bs (putL b all) (putL_lt h1 hn) (putL_ids h2 hb) (fun x hx => h3 x (by simp [hx])) (fun x hx => h4 x (by simp [hx])) fun k hk => ?_
    rw [cntI_fl, flI_app, flI_put hb h2 hn, ← flI_app, List.append_assoc]
    exact h5 k hk
theorem out_bad {m : Nat} {w : Int} : ∀ (cells : List ty_Cell.D) (nd : Nat) (all : List ty_Block.D), IdLt all → IdsR all → cells.all (ndOk m w) = true → (∀ i (hi : i < cells.length), ∀ b ∈ ndB (Int.toNat w) cells[i], onP m (nd + i) (Int.toNat b.2.1) = true) → (∀ k, k < 256 → cntI k (all ++ (ndsF w cells).flatten) ≤ 1) → ∃ a, outO m w nd cells all = some a
  | [], nd, all, _, _, _, _, _ => ⟨all, rfl⟩
  | c :: cs, nd, all, h1, h2, h3, h4, h5 => by
    rw [List.all_cons, Bool.and_eq_true] at h3
    have hid := ndOk_ids h3.1
    have hfl : (ndsF w (c :: cs)).flatten = ndB (Int.toNat w) c ++ (ndsF w cs).flatten := rfl
    obtain ⟨a1, hi⟩ := in_bad (m := m) (nd := nd) (ndB (Int.toNat w) c) all h1 h2 hid (fun b hb => h4 0 (by simp) b hb) (fun k hk => by
      have := h5 k hk
      rw [hfl, ← List.append_assoc, cntI_fl, flI_app, List.length_append] at this
      rw [cntI_fl]
      omega)
    obtain ⟨q1, q2, q3, q4⟩ := in_good _ all a1 hi h1 h2 hid
    unfold outO
    rw [if_pos h3.1, hi]
    refine out_bad cs (nd + 1) a1 q2 q3 h3.2 (fun i hi b hb => ?_) fun k hk => ?_
    · have := h4 (i + 1) (by simpa using hi) b (by simpa using hb)
      rw [show nd + 1 + i = nd + (i + 1) by omega]
      exact this
    · rw [cntI_fl, flI_app, q4 k, ← flI_app, List.append_assoc, ← hfl]
      exact h5 k hk
theorem frO_f {l w b : Int} {m : ty_Mem.D} {st : List ty_Block.D} (h : frO l w b m st = false) : (orX l w b m st).isSome = false := by unfold orX; rw [h]; rfl
theorem ndsF_get (w : Int) (cells : List ty_Cell.D) {i : Nat} (hi : i < cells.length) : (ndsF w cells)[i]'(by unfold ndsF; rw [List.length_map]; exact hi) = ndB (Int.toNat w) cells[i] := by simp [ndsF]
theorem ndsF_len (w : Int) (cells : List ty_Cell.D) : (ndsF w cells).length = cells.length := by simp [ndsF]
theorem c_spec_TreeNodes (M : Mem) (m n : Nat) (h : m ≤ 6) (hn : n = 2 * 2 ^ m - 1) : aCall T0 F_spec_TreeNodes [.int .i64 m] M = some (.int .i64 n, M) := by
  have hp : (2 : Int) ^ m ≤ 2 ^ 6 := pow2_le h
  have hq : (0 : Int) < 2 ^ m := pow2_pos m
  have hn2 : (n : Int) = 2 * 2 ^ m - 1 := by
    have : 0 < 2 ^ m := Nat.pow_pos (by omega)
    subst hn
    rw [Int.natCast_sub (by omega)]
    simp
  have e1 : IntKind.i64.wrap (2 * 2 ^ m) = 2 * 2 ^ m := wrap_i64 (by omega) (by omega)
  have e2 : IntKind.i64.wrap (2 * 2 ^ m - 1) = n := by rw [hn2]; exact wrap_i64 (by omega) (by omega)
  have hb : (decide ((0 : Int) ≤ m) && decide ((m : Int) ≤ 6)) = true := by simp; omega
  have e3 := c_spec_l11Log M m
  rw [hb] at e3
  rw [aCall_eq T_spec_TreeNodes]; unfold A_spec_TreeNodes C_spec_TreeNodes; simp [e3, c_spec_l02Pow _ m (by omega), e1, e2]
theorem l_spec_MemOk_0 (M X : Mem) (m : ty_Mem.D) (a b : Option Addr) (c d p : Nat) (hM : M <+: X) (hb : X[p]? = some ⟨[.int .i64 m.1, .slice a m.2.1.length c, .slice b m.2.2.length d], 1, 2⟩) (h : Rep (.sl ty_Cell) M [.slice a m.2.1.length c] m.2.1) (hn : m.2.1.length ≤ 128) :
    ((∀ i, i < m.2.1.length → atB (cellB m) m.2.1 i = true) ∧ lp (aCall T0) K_spec_MemOk_0 L_spec_MemOk_0 [und, .pointer (some ⟨p, 0, none⟩), und, .int .i64 (0 : Nat), und, und, und, und, und, und, und, und, und, und, und, und, und, und, und, und, und, und, und, und, und, und, und, und, und, und, und, und, und, und, und, und, und, und, und, und, und, und, und, und, und, und, und, und, und, und, und, und, und, und, und, und, und, und, und, und, und, und, und, und, und, und, und, und, und, und, und, und, und, und, und, und, und, und, und, und, und, und, und] X = lp (aCall T0) K_spec_MemOk_0 L_spec_MemOk_0 [und, .pointer (some ⟨p, 0, none⟩), und, .int .i64 m.2.1.length, und, und, und, und, und, und, und, und, und, und, und, und, und, und, und, und, und, und, und, und, und, und, und, und, und, und, und, und, und, und, und, und, und, und, und, und, und, und, und, und, und, und, und, und, und, und, und, und, und, und, und, und, und, und, und, und, und, und, und, und, und, und, und, und, und, und, und, und, und, und, und, und, und, und, und, und, und, und, und] X) ∨
    ((∃ i, i < m.2.1.length ∧ atB (cellB m) m.2.1 i = false) ∧ ∀ k, thenF M [.tmp 2] (thenS (blockR 0 (lp (aCall T0) K_spec_MemOk_0 L_spec_MemOk_0 [und, .pointer (some ⟨p, 0, none⟩), und, .int .i64 (0 : Nat), und, und, und, und, und, und, und, und, und, und, und, und, und, und, und, und, und, und, und, und, und, und, und, und, und, und, und, und, und, und, und, und, und, und, und, und, und, und, und, und, und, und, und, und, und, und, und, und, und, und, und, und, und, und, und, und, und, und, und, und, und, und, und, und, und, und, und, und, und, und, und, und, und, und, und, und, und, und, und] X)) (aCall T0) k) = some (.bool false, M)) := by
  have key := loop_ok (call := aCall T0) (K := K_spec_MemOk_0) (L := L_spec_MemOk_0) (fun _ Y => Y = X) (fun i => [und, .pointer (some ⟨p, 0, none⟩), und, .int .i64 i, und, und, und, und, und, und, und, und, und, und, und, und, und, und, und, und, und, und, und, und, und, und, und, und, und, und, und, und, und, und, und, und, und, und, und, und, und, und, und, und, und, und, und, und, und, und, und, und, und, und, und, und, und, und, und, und, und, und, und, und, und, und, und, und, und, und, und, und, und, und, und, und, und, und, und, und, und, und, und]) (atB (cellB m) m.2.1) (n := m.2.1.length) (M0 := M) (rs := [.tmp 2]) (k0 := 0) (a := .bool false) X rfl ?_ ?_
  · rcases key with ⟨X', rfl, h1, h2⟩ | h
    · exact .inl ⟨h1, h2⟩
    · exact .inr h
  · intro i Y hi hq e
    subst e
    obtain ⟨l, o, u, rfl, q1, _, q3⟩ := at_Cell (h.mono hM) hi
    obtain ⟨_, _, rfl⟩ := q3.slen
    rw [atB_get _ hi] at hq
    have hq := of_decide_eq_true hq
    have e6 : IntKind.i64.wrap ((i : Int) + 1) = i + 1 := wrap_i64 (by omega) (by omega)
    refine ⟨Y, rfl, ?_⟩
    rw [S_spec_MemOk_0]; unfold B_spec_MemOk_0; simp [thenD_pp, sliceCells_sl, sliceCells_z, sliceCells_nil, take_full, appS_sl, appK_ok, appS_none, thenD_ag, agP_nil, agP_cons, hb, hi, q1, hq, e6, rd1_K, rdJ_ok]
  · intro i Y hi hq e k
    subst e
    obtain ⟨l, o, u, rfl, q1, _, q3⟩ := at_Cell (h.mono hM) hi
    obtain ⟨_, _, rfl⟩ := q3.slen
    rw [atB_get _ hi] at hq
    have hq := of_decide_eq_false hq
    have gb := fun b => gc_boolp hM b
    rw [S_spec_MemOk_0]; unfold B_spec_MemOk_0; simp [thenD_pp, sliceCells_sl, sliceCells_z, sliceCells_nil, take_full, appS_sl, appK_ok, appS_none, thenD_ag, agP_nil, agP_cons, hb, hi, q1, hq, gb, rd1_K, rdJ_ok]
set_option maxHeartbeats 4000000 in
theorem l_spec_MemOk_1 (M X : Mem) (m : ty_Mem.D) (a b : Option Addr) (c d p : Nat) (hM : M <+: X) (hb : X[p]? = some ⟨[.int .i64 m.1, .slice a m.2.1.length c, .slice b m.2.2.length d], 1, 2⟩) (h : Rep (.sl ty_Touch) M [.slice b m.2.2.length d] m.2.2) (hn : m.2.2.length ≤ 6000) :
    (∃ X', M <+: X' ∧ (∀ i, i < m.2.2.length → atB (touchB m) m.2.2 i = true) ∧ lp (aCall T0) K_spec_MemOk_1 L_spec_MemOk_1 [und, .pointer (some ⟨p, 0, none⟩), und, und, .int .i64 (0 : Nat), und, und, und, und, und, und, und, und, und, und, und, und, und, und, und, und, und, und, und, und, und, und, und, und, und, und, und, und, und, und, und, und, und, und, und, und, und, und, und, und, und, und, und, und, und, und, und, und, und, und, und, und, und, und, und, und, und, und, und, und, und, und, und, und, und, und, und, und, und, und, und, und, und, und, und, und, und, und] X = lp (aCall T0) K_spec_MemOk_1 L_spec_MemOk_1 [und, .pointer (some ⟨p, 0, none⟩), und, und, .int .i64 m.2.2.length, und, und, und, und, und, und, und, und, und, und, und, und, und, und, und, und, und, und, und, und, und, und, und, und, und, und, und, und, und, und, und, und, und, und, und, und, und, und, und, und, und, und, und, und, und, und, und, und, und, und, und, und, und, und, und, und, und, und, und, und, und, und, und, und, und, und, und, und, und, und, und, und, und, und, und, und, und, und] X' ∧ X'[p]? = some ⟨[.int .i64 m.1, .slice a m.2.1.length c, .slice b m.2.2.length d], 1, 2⟩) ∨
    ((∃ i, i < m.2.2.length ∧ atB (touchB m) m.2.2 i = false) ∧ ∀ k, thenF M [.tmp 2] (thenS (blockR 2 (lp (aCall T0) K_spec_MemOk_1 L_spec_MemOk_1 [und, .pointer (some ⟨p, 0, none⟩), und, und, .int .i64 (0 : Nat), und, und, und, und, und, und, und, und, und, und, und, und, und, und, und, und, und, und, und, und, und, und, und, und, und, und, und, und, und, und, und, und, und, und, und, und, und, und, und, und, und, und, und, und, und, und, und, und, und, und, und, und, und, und, und, und, und, und, und, und, und, und, und, und, und, und, und, und, und, und, und, und, und, und, und, und, und, und] X)) (aCall T0) k) = some (.bool false, M)) := by
  have key := loop_ok (call := aCall T0) (K := K_spec_MemOk_1) (L := L_spec_MemOk_1) (fun _ Y => X <+: Y) (fun i => [und, .pointer (some ⟨p, 0, none⟩), und, und, .int .i64 i, und, und, und, und, und, und, und, und, und, und, und, und, und, und, und, und, und, und, und, und, und, und, und, und, und, und, und, und, und, und, und, und, und, und, und, und, und, und, und, und, und, und, und, und, und, und, und, und, und, und, und, und, und, und, und, und, und, und, und, und, und, und, und, und, und, und, und, und, und, und, und, und, und, und, und, und, und, und]) (atB (touchB m) m.2.2) (n := m.2.2.length) (M0 := M) (rs := [.tmp 2]) (k0 := 2) (a := .bool false) X (List.prefix_refl _) ?_ ?_
  · rcases key with ⟨X', h0, h1, h2⟩ | h
    · exact .inl ⟨X', hM.trans h0, h1, h2, get_pre h0 hb⟩
    · exact .inr h
  · intro i Y hi hq hY
    obtain ⟨l, o, rfl, _, q1, _⟩ := at_Touch (h.mono (hM.trans hY)) hi
    have hbY := get_pre hY hb
    have hbY2 : ∀ N : Mem, (Y ++ N)[p]? = some ⟨[.int .i64 m.1, .slice a m.2.1.length c, .slice (some ⟨l, o, none⟩) m.2.2.length d], 1, 2⟩ := fun N => get_pre' hbY
    rw [atB_get _ hi] at hq
    have hq := touch_ok hq
    generalize m.2.2[i] = t at q1 hq
    obtain ⟨t1, t2, t3⟩ := t
    simp only at hq q1
    obtain ⟨g1, g2, _, g3, _, _, g4⟩ := hq
    have e6 : IntKind.i64.wrap ((i : Int) + 1) = i + 1 := wrap_i64 (by omega) (by omega)
    refine ⟨Y ++ [⟨enc_Touch (t1, t2, t3), 1, 2⟩], hY.trans (List.prefix_append _ _), ?_⟩
    rcases g1 with g1 | g1
    · rw [S_spec_MemOk_1]; unfold B_spec_MemOk_1; simp [thenD_pp, sliceCells_sl, sliceCells_z, sliceCells_nil, take_full, appS_sl, appK_ok, appS_none, thenD_ag, agP_nil, agP_cons, hbY, hbY2, hi, q1, g1, g2, g3, g4, e6, rd1_K, rdJ_ok]
    · rw [S_spec_MemOk_1]; unfold B_spec_MemOk_1; simp [thenD_pp, sliceCells_sl, sliceCells_z, sliceCells_nil, take_full, appS_sl, appK_ok, appS_none, thenD_ag, agP_nil, agP_cons, hbY, hbY2, hi, q1, g1, g2, g3, g4, e6, rd1_K, rdJ_ok]
  · intro i Y hi hq hY k
    obtain ⟨l, o, rfl, _, q1, _⟩ := at_Touch (h.mono (hM.trans hY)) hi
    have hbY := get_pre hY hb
    have hbY2 : ∀ N : Mem, (Y ++ N)[p]? = some ⟨[.int .i64 m.1, .slice a m.2.1.length c, .slice (some ⟨l, o, none⟩) m.2.2.length d], 1, 2⟩ := fun N => get_pre' hbY
    rw [atB_get _ hi] at hq
    have hq := touch_cases hq
    generalize m.2.2[i] = t at q1 hq
    obtain ⟨t1, t2, t3⟩ := t
    simp only at hq q1
    have gb := fun (cs : List V) b => gc_boolp (hM.trans (hY.trans (List.prefix_append Y [⟨cs, 1, 2⟩]))) b
    rcases hq with ⟨g1, g2⟩ | ⟨g1, g2, _⟩ | ⟨g1, ⟨g2, _⟩, g3, _⟩ | ⟨g1, ⟨g2, _⟩, ⟨g3, _⟩, g4⟩
    · rw [S_spec_MemOk_1]; unfold B_spec_MemOk_1; simp [thenD_pp, sliceCells_sl, sliceCells_z, sliceCells_nil, take_full, appS_sl, appK_ok, appS_none, thenD_ag, agP_nil, agP_cons, hbY, hbY2, hi, q1, g1, g2, gb, rd1_K, rdJ_ok]
    · rcases g1 with g1 | g1
      · rw [S_spec_MemOk_1]; unfold B_spec_MemOk_1; simp [thenD_pp, sliceCells_sl, sliceCells_z, sliceCells_nil, take_full, appS_sl, appK_ok, appS_none, thenD_ag, agP_nil, agP_cons, hbY, hbY2, hi, q1, g1, g2, gb, rd1_K, rdJ_ok]
      · rw [S_spec_MemOk_1]; unfold B_spec_MemOk_1; simp [thenD_pp, sliceCells_sl, sliceCells_z, sliceCells_nil, take_full, appS_sl, appK_ok, appS_none, thenD_ag, agP_nil, agP_cons, hbY, hbY2, hi, q1, g1, g2, gb, rd1_K, rdJ_ok]
    · rcases g1 with g1 | g1
      · rw [S_spec_MemOk_1]; unfold B_spec_MemOk_1; simp [thenD_pp, sliceCells_sl, sliceCells_z, sliceCells_nil, take_full, appS_sl, appK_ok, appS_none, thenD_ag, agP_nil, agP_cons, hbY, hbY2, hi, q1, g1, g2, g3, gb, rd1_K, rdJ_ok]
      · rw [S_spec_MemOk_1]; unfold B_spec_MemOk_1; simp [thenD_pp, sliceCells_sl, sliceCells_z, sliceCells_nil, take_full, appS_sl, appK_ok, appS_none, thenD_ag, agP_nil, agP_cons, hbY, hbY2, hi, q1, g1, g2, g3, gb, rd1_K, rdJ_ok]
    · rcases g1 with g1 | g1
      · rw [S_spec_MemOk_1]; unfold B_spec_MemOk_1; simp [thenD_pp, sliceCells_sl, sliceCells_z, sliceCells_nil, take_full, appS_sl, appK_ok, appS_none, thenD_ag, agP_nil, agP_cons, hbY, hbY2, hi, q1, g1, g2, g3, g4, gb, rd1_K, rdJ_ok]
      · rw [S_spec_MemOk_1]; unfold B_spec_MemOk_1; simp [thenD_pp, sliceCells_sl, sliceCells_z, sliceCells_nil, take_full, appS_sl, appK_ok, appS_none, thenD_ag, agP_nil, agP_cons, hbY, hbY2, hi, q1, g1, g2, g3, g4, gb, rd1_K, rdJ_ok]
theorem c_spec_MemOk (M : Mem) (cs : List V) (m : ty_Mem.D) (h : Rep ty_Mem M cs m) : aCall T0 F_spec_MemOk [.agg cs.toArray] M = some (.bool (memB m), M) := by
  obtain ⟨a, b, c, d, rfl, r0, r1⟩ := mem_shape h
  unfold memB
  have hp : M <+: M ++ [⟨[.int .i64 m.1, .slice a m.2.1.length c, .slice b m.2.2.length d], 1, 2⟩] := List.prefix_append _ _
  rcases mem_cases m.1 m.2.1.length m.2.2.length with ⟨h0, hh⟩ | ⟨h0, ⟨_, h1⟩, ⟨h2, _⟩, ⟨h3, h3'⟩, ⟨h4, h4'⟩⟩
  · rw [h0, Bool.false_and]
    clear h0
    rcases hh with ⟨h1, _⟩ | ⟨⟨_, h1⟩, h2, _⟩ | ⟨⟨_, h1⟩, ⟨h2, _⟩, h3, h3'⟩ | ⟨⟨_, h1⟩, ⟨h2, _⟩, ⟨h3, h3'⟩, h4, h4'⟩
    · rw [aCall_eq T_spec_MemOk]; unfold A_spec_MemOk C_spec_MemOk; simp [thenD_pp, sliceCells_sl, sliceCells_z, sliceCells_nil, take_full, appS_sl, appK_ok, appS_none, thenD_ag, agP_nil, agP_cons, h1]
    · rw [aCall_eq T_spec_MemOk]; unfold A_spec_MemOk C_spec_MemOk; simp [thenD_pp, sliceCells_sl, sliceCells_z, sliceCells_nil, take_full, appS_sl, appK_ok, appS_none, thenD_ag, agP_nil, agP_cons, h1, h2]
    · rw [aCall_eq T_spec_MemOk]; unfold A_spec_MemOk C_spec_MemOk; simp [thenD_pp, sliceCells_sl, sliceCells_z, sliceCells_nil, take_full, appS_sl, appK_ok, appS_none, thenD_ag, agP_nil, agP_cons, h1, h2, h3, h3']
    · rw [aCall_eq T_spec_MemOk]; unfold A_spec_MemOk C_spec_MemOk; simp [thenD_pp, sliceCells_sl, sliceCells_z, sliceCells_nil, take_full, appS_sl, appK_ok, appS_none, thenD_ag, agP_nil, agP_cons, h1, h2, h3, h3', h4, h4']
  rw [h0, Bool.true_and]
  rcases l_spec_MemOk_0 M _ m a b c d M.length hp (by simp) r0 (by omega) with ⟨ha, e⟩ | ⟨hn, e⟩
  · simp only [Int.natCast_zero, Int.ofNat_zero] at e
    rw [atB_all ha, Bool.true_and]
    rcases l_spec_MemOk_1 M _ m a b c d M.length hp (by simp) r1 (by omega) with ⟨X', hX, ha2, e2, hb⟩ | ⟨hn2, e2⟩
    · simp only [Int.natCast_zero, Int.ofNat_zero] at e2
      rw [atB_all ha2]
      have gb := fun b => gc_boolp hX b
      rw [aCall_eq T_spec_MemOk]; unfold A_spec_MemOk C_spec_MemOk; simp [thenD_pp, sliceCells_sl, sliceCells_z, sliceCells_nil, take_full, appS_sl, appK_ok, appS_none, thenD_ag, agP_nil, agP_cons, h1, h2, h3, h3', h4, h4', e]
      rw [S_spec_MemOk_0]; unfold B_spec_MemOk_0; simp [thenD_pp, sliceCells_sl, sliceCells_z, sliceCells_nil, take_full, appS_sl, appK_ok, appS_none, thenD_ag, agP_nil, agP_cons, rd1_K, rdJ_ok]
      simp [e2]
      rw [S_spec_MemOk_1]; unfold B_spec_MemOk_1; simp [thenD_pp, sliceCells_sl, sliceCells_z, sliceCells_nil, take_full, appS_sl, appK_ok, appS_none, thenD_ag, agP_nil, agP_cons, rd1_K, rdJ_ok, hb, gb]
    · simp only [Int.natCast_zero, Int.ofNat_zero] at e2
      rw [atB_not hn2]
      rw [aCall_eq T_spec_MemOk]; unfold A_spec_MemOk C_spec_MemOk; simp [thenD_pp, sliceCells_sl, sliceCells_z, sliceCells_nil, take_full, appS_sl, appK_ok, appS_none, thenD_ag, agP_nil, agP_cons, h1, h2, h3, h3', h4, h4', e]
      rw [S_spec_MemOk_0]; unfold B_spec_MemOk_0; simp [thenD_pp, sliceCells_sl, sliceCells_z, sliceCells_nil, take_full, appS_sl, appK_ok, appS_none, thenD_ag, agP_nil, agP_cons, rd1_K, rdJ_ok]
      simp [e2]
  · simp only [Int.natCast_zero, Int.ofNat_zero] at e
    rw [atB_not hn, Bool.false_and]
    rw [aCall_eq T_spec_MemOk]; unfold A_spec_MemOk C_spec_MemOk; simp [thenD_pp, sliceCells_sl, sliceCells_z, sliceCells_nil, take_full, appS_sl, appK_ok, appS_none, thenD_ag, agP_nil, agP_cons, h1, h2, h3, h3', h4, h4', e]
end GoAm
