/- What the functions do that the law reaches; and the law. -/
import Derived.Test.YtambjdldjgehkaaPathSeqt
import Derived.Test.YtambjdldjgehkaaAmOwn
set_option autoImplicit false
set_option linter.unusedVariables false
set_option linter.unusedSimpArgs false
namespace GoAm
open Go
abbrev ty_Int : Ty := .int .i64
abbrev enc_Int (x : ty_Int.D) : List V := [.int .i64 x]
theorem at_Int {M : Mem} {a : Option Addr} {n c : Nat} {xs : List ty_Int.D} (h : Rep (.sl ty_Int) M [.slice a n c] xs) {i : Nat} (hi : i < xs.length) : ∃ l o, a = some ⟨l, o, none⟩ ∧ Rep ty_Int M (enc_Int xs[i]) xs[i] ∧ rd1 M l (o + i) = some (.int .i64 xs[i]) := by
  obtain ⟨_, l, o, rfl, cs, hrd, hrep⟩ := rep_at h hi
  have hcs : cs = enc_Int xs[i] := hrep.1
  subst hcs
  have hw1 : ty_Int.w = 1 := rfl
  rw [hw1, Nat.mul_one] at hrd
  exact ⟨l, o, rfl, hrep, rd1_of_one hrd⟩
theorem r_laws_eqIntS (M : Mem) (a b : Option Addr) (c d : Nat) (xs ys : List ty_Int.D) (h : Rep (.sl ty_Int) M [.slice a xs.length c] xs) (h2 : Rep (.sl ty_Int) M [.slice b ys.length d] ys) (hn : xs.length ≤ 9223372036854775807) (i : Nat) (hi : i < xs.length) (hj : i < ys.length) (he : xs[i] = ys[i]) :
    lp (aCall T0) K_laws_eqIntS_0 L_laws_eqIntS_0 [.slice a xs.length c, .slice b ys.length d, und, und, und, .int .i64 i, und, und, und, und, und, und, und, und, und, und, und, und, und, und, und, und, und, und, und, und] M = lp (aCall T0) K_laws_eqIntS_0 L_laws_eqIntS_0 [.slice a xs.length c, .slice b ys.length d, und, und, und, .int .i64 (i + 1 : Nat), und, und, und, und, und, und, und, und, und, und, und, und, und, und, und, und, und, und, und, und] M := by
  obtain ⟨l, o, rfl, _, hrd⟩ := at_Int h hi
  obtain ⟨l2, o2, rfl, _, hrd2⟩ := at_Int h2 hj
  have e6 : IntKind.i64.wrap ((i : Int) + 1) = i + 1 := wrap_i64 (by omega) (by omega)
  rw [S_laws_eqIntS_0]; unfold B_laws_eqIntS_0; simp [hrd, hrd2, e6, hi, hj, he]
theorem x_laws_eqIntS (M : Mem) (a b : Option Addr) (c d : Nat) (xs ys : List ty_Int.D) (h : Rep (.sl ty_Int) M [.slice a xs.length c] xs) (h2 : Rep (.sl ty_Int) M [.slice b ys.length d] ys) (hn : xs.length ≤ 9223372036854775807) (i : Nat) (hi : i < xs.length) (hj : i < ys.length) (he : xs[i] ≠ ys[i]) (k : ACode) :
    thenF M [.tmp 4] (thenS (blockR 0 (lp (aCall T0) K_laws_eqIntS_0 L_laws_eqIntS_0 [.slice a xs.length c, .slice b ys.length d, und, und, und, .int .i64 i, und, und, und, und, und, und, und, und, und, und, und, und, und, und, und, und, und, und, und, und] M)) (aCall T0) k) = some (.bool false, M) := by
  obtain ⟨l, o, rfl, _, hrd⟩ := at_Int h hi
  obtain ⟨l2, o2, rfl, _, hrd2⟩ := at_Int h2 hj
  rw [S_laws_eqIntS_0]; unfold B_laws_eqIntS_0; simp [hrd, hrd2, hi, hj, he]
theorem c_laws_eqIntS (M : Mem) (v u : V) (xs ys : List Int) (h : Rep (.sl ty_Int) M [v] xs) (h2 : Rep (.sl ty_Int) M [u] ys) (hn : xs.length ≤ 9223372036854775807) : aCall T0 F_laws_eqIntS [v, u] M = some (.bool (decide (xs = ys)), M) := by
  obtain ⟨a, c, rfl⟩ := h.slen
  obtain ⟨b, d, rfl⟩ := h2.slen
  by_cases hl : xs.length = ys.length
  · rcases list_eq_iff hl with he | ⟨j, hj, h3, h4⟩
    · subst he
      have hc := chain (g := fun i : Nat => lp (aCall T0) K_laws_eqIntS_0 L_laws_eqIntS_0 [.slice a xs.length c, .slice b xs.length d, und, und, und, .int .i64 i, und, und, und, und, und, und, und, und, und, und, und, und, und, und, und, und, und, und, und, und] M) (n := xs.length) fun i hi => r_laws_eqIntS M a b c d xs xs h h2 hn i hi hi rfl
      simp only [Int.natCast_zero, Int.ofNat_zero] at hc
      rw [aCall_eq T_laws_eqIntS]; unfold A_laws_eqIntS C_laws_eqIntS; simp [hc]
      rw [S_laws_eqIntS_0]; unfold B_laws_eqIntS_0; simp
    · have hc := chain (g := fun i : Nat => lp (aCall T0) K_laws_eqIntS_0 L_laws_eqIntS_0 [.slice a xs.length c, .slice b ys.length d, und, und, und, .int .i64 i, und, und, und, und, und, und, und, und, und, und, und, und, und, und, und, und, und, und, und, und] M) (n := j) fun i hi => r_laws_eqIntS M a b c d xs ys h h2 hn i (by omega) (by omega) (h3 i (by omega) hi)
      simp only [Int.natCast_zero, Int.ofNat_zero] at hc
      have hx := x_laws_eqIntS M a b c d xs ys h h2 hn j hj (by omega) h4
      have hne : xs ≠ ys := fun e => h4 (by simp [e])
      simp only [← hl] at hc hx
      simp only [← hl]
      rw [aCall_eq T_laws_eqIntS]; unfold A_laws_eqIntS C_laws_eqIntS; simp [hc, hx, hne]
  · have hne : xs ≠ ys := fun e => hl (by rw [e])
    have hl2 : ¬ ((xs.length : Int) = ys.length) := by omega
    rw [aCall_eq T_laws_eqIntS]; unfold A_laws_eqIntS C_laws_eqIntS; simp [hl2, hl, hne]
def z_Int : List V := [.int .i64 0]
theorem r_laws_toIntS (M : Mem) (a : Option Addr) (c : Nat) (xs : List ty_Int.D) (h : Rep (.sl ty_Int) M [.slice a xs.length c] xs) (hn : xs.length ≤ 1048576) (i : Nat) (hi : i < xs.length) :
    lp (aCall T0) K_laws_toIntS_0 L_laws_toIntS_0 [.slice a xs.length c, und, und, .slice (some ⟨M.length, 0, none⟩) xs.length xs.length, .int .i64 i, und, und, und, und, und, und, und, und, und, und, und, und, und, und, und, und, und] (M ++ [⟨tcells enc_Int z_Int xs i, 1, 2⟩]) =
    lp (aCall T0) K_laws_toIntS_0 L_laws_toIntS_0 [.slice a xs.length c, und, und, .slice (some ⟨M.length, 0, none⟩) xs.length xs.length, .int .i64 (i + 1 : Nat), und, und, und, und, und, und, und, und, und, und, und, und, und, und, und, und, und] (M ++ [⟨tcells enc_Int z_Int xs (i + 1), 1, 2⟩]) := by
  obtain ⟨l, o, rfl, hrep, hrd⟩ := at_Int h hi
  have hrd2 : rd1 (M ++ [⟨tcells enc_Int z_Int xs i, 1, 2⟩]) l (o + i) = some (.int .i64 xs[i]) := rd1_old hrd
  have e2 := tcells_len (enc := enc_Int) (z := z_Int) (xs := xs) (fun x _ => rfl) (i := i) (by omega)
  have e3 := tcells_step (enc := enc_Int) (z := z_Int) (xs := xs) (fun x _ => rfl) hi
  have e4 : z_Int.length = 1 := rfl
  rw [e4, Nat.mul_one] at e2 e3
  have e5 : i + 1 ≤ xs.length := by omega
  have e6 : IntKind.i64.wrap ((i : Int) + 1) = i + 1 := wrap_i64 (by omega) (by omega)
  unfold splice at e3
  simp at e3
  rw [S_laws_toIntS_0]; unfold B_laws_toIntS_0; simp [hrd2, e2, e3, e5, e6, hi]
theorem c_laws_toIntS (M : Mem) (v : V) (xs : List ty_Int.D) (h : Rep (.sl ty_Int) M [v] xs) (hn : xs.length ≤ 1048576) :
    aCall T0 F_laws_toIntS [v] M = some (.slice (some ⟨M.length, 0, none⟩) xs.length xs.length, M ++ [⟨(xs.map enc_Int).flatten, 1, 2⟩]) := by
  obtain ⟨a, c, rfl⟩ := h.slen
  have hl := chain (g := fun i : Nat => lp (aCall T0) K_laws_toIntS_0 L_laws_toIntS_0 [.slice a xs.length c, und, und, .slice (some ⟨M.length, 0, none⟩) xs.length xs.length, .int .i64 i, und, und, und, und, und, und, und, und, und, und, und, und, und, und, und, und, und] (M ++ [⟨tcells enc_Int z_Int xs i, 1, 2⟩])) (n := xs.length) fun i hi => r_laws_toIntS M a c xs h hn i hi
  simp only [Int.natCast_zero, Int.ofNat_zero, tcells_zero, tcells_full] at hl
  unfold z_Int at hl
  simp only [zeroCells_zc] at hl
  have e1 : (xs.length : Int) * 8 ≤ 281474976710656 := by omega
  have e2 : (xs.length : Int) ≤ 9223372036854775807 := by omega
  rw [aCall_eq T_laws_toIntS]; unfold A_laws_toIntS C_laws_toIntS; simp [e1, e2]
  rw [hl]
  rw [S_laws_toIntS_0]; unfold B_laws_toIntS_0; simp
theorem flat_Int (xs : List Int) : (xs.map enc_Int).flatten = xs.map fun n => Value.int .i64 n := by
  induction xs with
  | nil => rfl
  | cons x xs ih => simp [enc_Int, ih]
theorem own_block {M : Mem} {l c : Nat} {ys : List Int} (hb : M[l]? = some ⟨ys.map fun n => .int .i64 n, 1, 2⟩) (hw : ∀ y ∈ ys, (Lit.int .i64 y).wf = true) : ∃ L, Own (.sl ty_Int) M [.slice (some ⟨l, 0, none⟩) ys.length c] ys L ∧ ∀ j ∈ L, j = l := by
  by_cases hy : ys = []
  · subst hy
    exact ⟨[], .inl ⟨rfl, rfl, .inr ⟨l, 0, c, _, [], rfl, hb, .inr (.inr rfl), rfl, rfl, fun i ds x hd => by simp at hd, by simp⟩⟩, by simp⟩
  · refine ⟨[l], .inr ⟨l, 0, c, _, ys.map enc_Int, ys.map (fun _ => []), hy, rfl, hb, rfl, rfl, by simp, by simp, ?_, ?_, ?_⟩, by simp⟩
    · intro i ds x K h1 h2 h3
      rw [List.getElem?_map, h2] at h1
      rw [List.getElem?_map, h2] at h3
      simp only [Option.map_some, Option.some.injEq] at h1 h3
      subst h1; subst h3
      exact ⟨⟨rfl, hw x (List.mem_of_getElem? h2)⟩, rfl⟩
    · rw [flat_Int]; simp
    · have : (ys.map (fun _ => ([] : List Nat))).flatten = [] := by
        rw [List.flatten_eq_nil_iff]
        intro K hK
        obtain ⟨_, _, rfl⟩ := List.mem_map.1 hK
        rfl
      rw [this]
theorem d_toInt (M : Mem) (v : V) (xs : List Int) (h : Rep (.sl ty_Int) M [v] xs) (hn : xs.length ≤ 1048576) : ∃ M' u L, M <+: M' ∧ aCall T0 F_laws_toIntS [v] M = some (u, M') ∧ Own (.sl ty_Int) M' [u] xs L ∧ ∀ l ∈ L, M.length ≤ l ∧ l < M'.length := by
  have e := c_laws_toIntS M v xs h hn
  have hw : ∀ y ∈ xs, (Lit.int .i64 y).wf = true := by
    intro y hy
    obtain ⟨i, hi, rfl⟩ := List.getElem_of_mem hy
    obtain ⟨a, c, rfl⟩ := h.slen
    obtain ⟨l, o, rfl, hr, _⟩ := at_Int h hi
    exact hr.2
  obtain ⟨L, o1, o2⟩ := own_block (M := M ++ [⟨(xs.map enc_Int).flatten, 1, 2⟩]) (l := M.length) (c := xs.length) (ys := xs) (by rw [flat_Int]; simp) hw
  exact ⟨_, _, L, List.prefix_append _ _, e, o1, fun l hl => by rw [o2 l hl]; simp⟩
theorem d_laws_toIntS (M : Mem) (v : V) (xs : List Int) (h : Rep (.sl ty_Int) M [v] xs) (hn : xs.length ≤ 1048576) : ∃ M' u L, M <+: M' ∧ aCall T0 F_laws_toIntS [v] M = some (u, M') ∧ Own (.sl ty_Int) M' [u] xs L ∧ ∀ l ∈ L, M.length ≤ l ∧ l < M'.length := d_toInt M v xs h hn
def marksI (k : Int) (n : Nat) : List Int := (List.range n).map fun (j : Nat) => k + (j : Int)
theorem marksI_len (k : Int) (n : Nat) : (marksI k n).length = n := by simp [marksI]
theorem marksI_get (k : Int) (n i : Nat) (hi : i < (marksI k n).length) : (marksI k n)[i] = k + i := by simp [marksI]
def markB (blk : Blk) (o : Nat) (k : Int) (i : Nat) : Blk := { blk with cells := splice blk.cells o ((marksI k i).map fun n => .int .i64 n) }
theorem marksI_succ (k : Int) (n : Nat) : marksI k (n + 1) = marksI k n ++ [k + n] := by simp [marksI, List.range_succ]
theorem splice_snoc (cs ys : List V) (o : Nat) (y : V) (h : o + ys.length + 1 ≤ cs.length) : splice (splice cs o ys) (o + ys.length) [y] = splice cs o (ys ++ [y]) := by
  have e1 : (cs.take o ++ ys).length = o + ys.length := by simp; omega
  unfold splice
  rw [← e1, List.take_left', List.append_assoc (cs.take o) ys]
  · simp only [List.length_append, List.length_cons, List.length_nil, List.append_assoc]
    congr 2
    rw [← List.append_assoc, List.drop_append, List.drop_eq_nil_of_le (by simp)]
    simp
    congr 1
    omega
  · rfl
theorem splice_len (cs ys : List V) (o : Nat) (h : o + ys.length ≤ cs.length) : (splice cs o ys).length = cs.length := by
  unfold splice; simp; omega
theorem wrn_mark (M : Mem) (l o : Nat) (blk : Blk) (hb : M[l]? = some blk) (h2 : blk.st = 2) (k : Int) (n i : Nat) (ho : o + n ≤ blk.cells.length) (hi : i < n) : wrn (M.set l (markB blk o k i)) l (o + i) [.int .i64 (k + i)] = some (M.set l (markB blk o k (i + 1))) := by
  have hl := (List.getElem?_eq_some_iff.1 hb).1
  have e0 : (M.set l (markB blk o k i))[l]? = some (markB blk o k i) := by simp [hl]
  have e1 : ((marksI k i).map fun n => Value.int .i64 n).length = i := by simp [marksI_len]
  unfold wrn
  rw [e0]
  simp only
  have e2 : (markB blk o k i).cells.length = blk.cells.length := splice_len _ _ _ (by rw [e1]; omega)
  rw [if_pos ⟨h2, by rw [e2]; simp; omega, rfl⟩, List.set_set]
  congr 2
  unfold markB
  simp only
  congr 1
  have := splice_snoc blk.cells ((marksI k i).map fun n => Value.int .i64 n) o (.int .i64 (k + i)) (by rw [e1]; omega)
  rw [e1] at this
  rw [this, marksI_succ]
  simp
theorem r_laws_markIntS (M : Mem) (l o n c : Nat) (blk : Blk) (hb : M[l]? = some blk) (h2 : blk.st = 2) (k : Int) (hk : 0 ≤ k) (hk2 : k + n ≤ 4611686018427387904) (ho : o + n ≤ blk.cells.length) (i : Nat) (hi : i < n) :
    lp (aCall T0) K_laws_markIntS_0 L_laws_markIntS_0 [.slice (some ⟨l, o, none⟩) n c, .int .i64 (k + i), und, und, und, .int .i64 i, und, und, und, und, und, und, und, und, und, und, und, und, und] (M.set l (markB blk o k i)) =
    lp (aCall T0) K_laws_markIntS_0 L_laws_markIntS_0 [.slice (some ⟨l, o, none⟩) n c, .int .i64 (k + (i + 1 : Nat)), und, und, und, .int .i64 (i + 1 : Nat), und, und, und, und, und, und, und, und, und, und, und, und, und] (M.set l (markB blk o k (i + 1))) := by
  have e1 := wrn_mark M l o blk hb h2 k n i ho hi
  have e6 : IntKind.i64.wrap ((i : Int) + 1) = i + 1 := wrap_i64 (by omega) (by omega)
  have e7 : IntKind.i64.wrap (k + (i : Int) + 1) = k + (i + 1) := by rw [wrap_i64 (by omega) (by omega)]; omega
  rw [S_laws_markIntS_0]; unfold B_laws_markIntS_0; simp [e1, e6, e7, hi]
theorem own_mark {M : Mem} {v : V} {xs : List ty_Int.D} {L : List Nat} (h : Own (.sl ty_Int) M [v] xs L) : (xs = [] ∧ L = [] ∧ Rep (.sl ty_Int) M [v] []) ∨ ∃ l o c blk, xs ≠ [] ∧ v = .slice (some ⟨l, o, none⟩) xs.length c ∧ M[l]? = some blk ∧ blk.st = 2 ∧ blk.w = 1 ∧ o + xs.length ≤ blk.cells.length ∧ L = [l] := by
  rcases h with ⟨rfl, hL, hr⟩ | ⟨l, o, c, blk, css, Ls, hne, e, hb, h2, hw, hc, hLs, hel, hp, rfl⟩
  · exact .inl ⟨rfl, hL, hr⟩
  · right
    simp only [List.cons.injEq, and_true] at e
    refine ⟨l, o, c, blk, hne, e, hb, h2, hw, ?_, ?_⟩
    · have hone : ∀ cs ∈ css, cs.length = 1 := by
        intro cs hcs
        obtain ⟨i, hi, rfl⟩ := List.getElem_of_mem hcs
        have := (hel i css[i] (xs[i]'(by omega)) (Ls[i]'(by omega)) (by simp) (by simp) (by simp)).1.1
        rw [this]; rfl
      have := flat_len hone
      have hl := hp.length_le
      rw [this, List.length_drop] at hl
      have h0 := List.length_pos_iff.2 hne
      omega
    · have : Ls.flatten = [] := by
        rw [List.flatten_eq_nil_iff]
        intro K hK
        obtain ⟨i, hi, rfl⟩ := List.getElem_of_mem hK
        exact (hel i (css[i]'(by omega)) (xs[i]'(by omega)) Ls[i] (by simp) (by simp) (by simp)).2
      rw [this]
theorem c_laws_markIntS (M : Mem) (v : V) (xs : List ty_Int.D) (L : List Nat) (h : Own (.sl ty_Int) M [v] xs L) (k : Int) (hk : 0 ≤ k) (hk2 : k + xs.length ≤ 4611686018427387904) :
    ∃ M', aCall T0 F_laws_markIntS [v, .int .i64 k] M = some (.int .i64 (k + xs.length), M') ∧ Upd M M' (· ∈ L) ∧ Own (.sl ty_Int) M' [v] (marksI k xs.length) L := by
  rcases own_mark h with ⟨rfl, rfl, hr⟩ | ⟨l, o, c, blk, hx, rfl, hb, h2, hw, ho, rfl⟩
  · refine ⟨M, ?_, ⟨rfl, fun _ _ => rfl, fun l b hb => ⟨b, hb, rfl⟩⟩, .inl ⟨rfl, rfl, hr⟩⟩
    obtain ⟨a, c, rfl⟩ := hr.slen
    rw [aCall_eq T_laws_markIntS]; unfold A_laws_markIntS C_laws_markIntS; simp
    rw [S_laws_markIntS_0]; unfold B_laws_markIntS_0; simp
  · have hl := chain (g := fun i : Nat => lp (aCall T0) K_laws_markIntS_0 L_laws_markIntS_0 [.slice (some ⟨l, o, none⟩) xs.length c, .int .i64 (k + i), und, und, und, .int .i64 i, und, und, und, und, und, und, und, und, und, und, und, und, und] (M.set l (markB blk o k i))) (n := xs.length) fun i hi => r_laws_markIntS M l o xs.length c blk hb h2 k hk hk2 ho i hi
    have e0 : M.set l (markB blk o k 0) = M := by
      have : markB blk o k 0 = blk := by simp [markB, marksI, splice]
      rw [this]
      exact List.ext_getElem? fun j => by
        rw [List.getElem?_set]
        split
        · rename_i e; subst e; split
          · exact hb.symm
          · rename_i hlt; rw [List.getElem?_eq_none (by omega)]
        · rfl
    simp only [Int.natCast_zero, Int.ofNat_zero, e0, Int.add_zero] at hl
    have hlt := (List.getElem?_eq_some_iff.1 hb).1
    refine ⟨M.set l (markB blk o k xs.length), ?_, ⟨by simp, fun j hj => ?_, fun j b' hj => ?_⟩, ?_⟩
    · rw [aCall_eq T_laws_markIntS]; unfold A_laws_markIntS C_laws_markIntS; simp [hl]
      rw [S_laws_markIntS_0]; unfold B_laws_markIntS_0; simp
      exact gc_len (by simp)
    · rw [List.getElem?_set_ne (fun e => hj (by simp [e]))]
    · by_cases e : l = j
      · subst e
        rw [hb] at hj
        cases hj
        exact ⟨markB blk o k xs.length, by simp [hlt], rfl⟩
      · exact ⟨b', by rw [List.getElem?_set_ne e, hj], rfl⟩
    · refine .inr ⟨l, o, c, markB blk o k xs.length, (marksI k xs.length).map enc_Int, (marksI k xs.length).map (fun _ => []), ?_, ?_, ?_, h2, hw, ?_, ?_, ?_, ?_, ?_⟩
      · intro e; have := congrArg List.length e; rw [marksI_len] at this; exact hx (List.length_eq_zero_iff.1 this)
      · rw [marksI_len]
      · simp [hlt]
      · simp
      · simp
      · intro i ds x K h1 h2 h3
        rw [List.getElem?_map, h2] at h1
        rw [List.getElem?_map, h2] at h3
        simp only [Option.map_some, Option.some.injEq] at h1 h3
        subst h1; subst h3
        obtain ⟨hi, rfl⟩ := List.getElem?_eq_some_iff.1 h2
        rw [marksI_get]
        have hi2 : i < xs.length := by rw [marksI_len] at hi; exact hi
        exact ⟨⟨rfl, by simp [Lit.wf, IntKind.min, IntKind.max, IntKind.signed, IntKind.bits]; omega⟩, rfl⟩
      · rw [flat_Int]
        unfold markB splice
        simp only
        rw [List.append_assoc, List.drop_append, List.drop_eq_nil_of_le (by simp; omega)]
        have : o - (List.take o blk.cells).length = 0 := by simp; omega
        rw [this]
        exact List.prefix_append _ _
      · have : ((marksI k xs.length).map (fun _ => ([] : List Nat))).flatten = [] := by
          rw [List.flatten_eq_nil_iff]
          intro K hK
          obtain ⟨_, _, rfl⟩ := List.mem_map.1 hK
          rfl
        rw [this]
/-- Memory that has grown, and changed in the blocks of L alone. -/
def UpdG (M M' : Mem) (L : Nat → Prop) : Prop := M.length ≤ M'.length ∧ (∀ l, ¬ L l → l < M.length → M'[l]? = M[l]?) ∧ ∀ (l : Nat) (b : Blk), M[l]? = some b → ∃ b' : Blk, M'[l]? = some b' ∧ b'.w = b.w
theorem Upd.g {M M' : Mem} {L : Nat → Prop} (h : Upd M M' L) : UpdG M M' L := ⟨Nat.le_of_eq h.1.symm, fun l hl _ => h.2.1 l hl, h.2.2⟩
theorem d_laws_markIntS (M : Mem) (v : V) (xs : List Int) (L : List Nat) (h : Own (.sl ty_Int) M [v] xs L) (k : Int) (hk : 0 < k) (hk2 : k + xs.length ≤ 4611686018427387904) :
    ∃ M', aCall T0 F_laws_markIntS [v, .int .i64 k] M = some (.int .i64 (k + xs.length), M') ∧ UpdG M M' (· ∈ L) ∧ Own (.sl ty_Int) M' [v] (marksI k xs.length) L := by
  obtain ⟨M', e, u, o⟩ := c_laws_markIntS M v xs L h k (by omega) hk2
  exact ⟨M', e, Upd.g u, o⟩
theorem heldB (M : Mem) (v : V) (k : Int) (n : Nat) (h : Rep (.sl ty_Int) M [v] (marksI k n)) (hk : 0 ≤ k) (hk2 : k + n ≤ 4611686018427387904) : aCall T0 F_laws_heldIntS [v, .int .i64 k] M = some (.int .i64 (k + n), M) := by
  obtain ⟨a, c, rfl⟩ := h.slen
  have hlen := marksI_len k n
  have hc := chain (g := fun i : Nat => lp (aCall T0) K_laws_heldIntS_0 L_laws_heldIntS_0 [.slice a (marksI k n).length c, .int .i64 (k + i), und, und, und, .int .i64 i, und, und, und, und, und, und, und, und, und, und, und, und, und, und, und] M) (n := n) fun i hi => by
    obtain ⟨l, o, rfl, _, hrd⟩ := at_Int h (i := i) (by omega)
    rw [marksI_get] at hrd
    have hi2 : (i : Int) < (marksI k n).length := by omega
    have e6 : IntKind.i64.wrap ((i : Int) + 1) = i + 1 := wrap_i64 (by omega) (by omega)
    have e7 : IntKind.i64.wrap (k + (i : Int) + 1) = k + (i + 1) := by rw [wrap_i64 (by omega) (by omega)]; omega
    rw [hlen] at hi2 ⊢
    rw [S_laws_heldIntS_0]; unfold B_laws_heldIntS_0; simp [hrd, hi2, hi, e6, e7]
  simp only [Int.natCast_zero, Int.ofNat_zero, Int.add_zero] at hc
  rw [hlen] at hc ⊢
  rw [aCall_eq T_laws_heldIntS]; unfold A_laws_heldIntS C_laws_heldIntS; simp [hc]
  rw [S_laws_heldIntS_0]; unfold B_laws_heldIntS_0; simp
theorem d_laws_heldIntS (M : Mem) (v : V) (k : Int) (n : Nat) (h : Rep (.sl ty_Int) M [v] (marksI k n)) (hk : 0 < k) (hk2 : k + n ≤ 4611686018427387904) : aCall T0 F_laws_heldIntS [v, .int .i64 k] M = some (.int .i64 (k + n), M) := heldB M v k n h (by omega) hk2
theorem rep_emptyg {t : Ty} {M M' : Mem} {L : Nat → Prop} (hu : UpdG M M' L) {cs : List V} (h : Rep (.sl t) M cs []) : Rep (.sl t) M' cs [] := by
  rcases h with h | ⟨l, o, c, blk, css, h1, h2, h3, h4, h5, h6, h7⟩
  · exact .inl h
  · obtain ⟨b', hb, hw⟩ := hu.2.2 l blk h2
    have hc : css = [] := List.length_eq_zero_iff.1 h5
    subst hc
    exact .inr ⟨l, o, c, b', [], h1, hb, .inr (.inr rfl), by rw [hw, h4], rfl, fun i ds x hd => by simp at hd, by simp⟩
theorem Own.updg {M M' : Mem} {K : Nat → Prop} (hu : UpdG M M' K) : ∀ {t : Ty} {cs : List V} {x : t.D} {L : List Nat}, Own t M cs x L → (∀ l ∈ L, ¬ K l) → Own t M' cs x L
  | .int _, _, _, _, h, _ => h
  | .u8, _, _, _, h, _ => h
  | .bool, _, _, _, h, _ => h
  | .str, _, _, _, h, _ => h
  | .sl t, _, _, _, h, hk => by
    rcases h with ⟨rfl, hL, h⟩ | ⟨l, o, c, blk, css, Ls, hne, h1, h2, h3, h4, h5, hL, h6, h7, rfl⟩
    · exact .inl ⟨rfl, hL, rep_emptyg hu h⟩
    · refine .inr ⟨l, o, c, blk, css, Ls, hne, h1, by rw [hu.2.1 l (hk l (by simp)) (List.getElem?_eq_some_iff.1 h2).1, h2], h3, h4, h5, hL, fun i ds x J hd hx hJ => ?_, h7, rfl⟩
      exact (h6 i ds x J hd hx hJ).updg hu (fun j hj => hk j (List.mem_cons_of_mem _ (List.mem_flatten.2 ⟨J, List.mem_of_getElem? hJ, hj⟩)))
  | .pr a b, _, x, _, h, hk => by
    obtain ⟨c1, c2, L1, L2, e, h1, h2, rfl⟩ := h
    exact ⟨c1, c2, L1, L2, e, h1.updg hu (fun l hl => hk l (List.mem_append_left _ hl)), h2.updg hu (fun l hl => hk l (List.mem_append_right _ hl)), rfl⟩
theorem UpdG.pre {M0 M M' : Mem} {K : Nat → Prop} (hu : UpdG M M' K) (hp : M0 <+: M) (hk : ∀ l, K l → M0.length ≤ l) : M0 <+: M' := by
  have hl : M0.length ≤ M'.length := Nat.le_trans hp.length_le hu.1
  rw [List.prefix_iff_eq_take]
  apply List.ext_getElem?
  intro i
  rw [List.getElem?_take]
  split
  · rename_i hi
    rw [hu.2.1 i (fun h => by have := hk i h; omega) (Nat.lt_of_lt_of_le hi hp.length_le)]
    obtain ⟨r, rfl⟩ := hp
    rw [List.getElem?_append_left hi]
  · rename_i hi
    rw [List.getElem?_eq_none (by omega)]
theorem gc_ex (M M' : Mem) (v : V) : ∃ X, gc M (some (v, M')) = some (v, X) := by
  simp only [gc]
  split
  · exact ⟨_, rfl⟩
  · exact ⟨_, rfl⟩
def idB (n : Int) (x : Int) : Bool := decide (-1 ≤ x) && decide (x ≤ n - 1)
def seqB (n : Int) (xs : List Int) : Bool := (decide (0 ≤ n) && decide (n ≤ 256)) && (decide ((xs.length : Int) ≤ 700) && xs.all (idB n))
def drB (x : Int) : Bool := decide (0 ≤ x) && decide (x ≤ 65535)
def drsB (k : Int) (ds : List Int) : Bool := decide ((ds.length : Int) = k) && ds.all drB
def logB (l : Int) : Bool := decide (0 ≤ l) && decide (l ≤ 6)
def pathOk (n l : Int) (ids ds : List Int) : Bool := seqB n ids && (logB l && drsB (n + ids.length) ds)
def lastAt (n : Int) (xs : List Int) (x : Int) : Nat → Int
  | 0 => x
  | j + 1 => if xs[j]? = some x then n + j else lastAt n xs x j
def coordI (n : Int) (xs : List Int) (i : Nat) : Int := match xs[i]? with
  | some x => if x < 0 then n + i else lastAt n xs x i
  | none => 0
def leafI (d l : Int) : Int := if drB d = true ∧ (0 ≤ l ∧ l ≤ 6) then ((d.toNat % 2 ^ l.toNat : Nat) : Int) else -1
def drawAt (ds : List Int) (z : Int) : Int := (ds[z.toNat]?).getD 0
def pathI (n : Int) (l : Int) (ids ds : List Int) (i : Nat) : Int := leafI (drawAt ds (coordI n ids i)) l
def pathsI (n l : Int) (ids ds : List Int) : List Int := (List.range ids.length).map (pathI n l ids ds)
def pathR (n l : Int) (ids ds : List Int) : List Int := if pathOk n l ids ds = true then pathsI n l ids ds else []
theorem pathR_len (n l : Int) (ids ds : List Int) : (pathR n l ids ds).length ≤ ids.length := by
  unfold pathR
  split
  · simp [pathsI]
  · simp
theorem c_impl_within (M : Mem) (x a b : Int) : aCall T0 F_impl_within [.int .i64 x, .int .i64 a, .int .i64 b] M = some (.bool (decide (a ≤ x) && decide (x ≤ b)), M) := by
  rw [aCall_eq T_impl_within]; unfold A_impl_within C_impl_within; simp
  repeat' ((first | rw [selO_some] | rw [condR_bool] | rw [selD_some]); split <;> rename_i hq <;> (have hq2 := hq) <;> (try simp at hq2) <;> (try simp [*]))
theorem c_impl_isLog (M : Mem) (x : Int) : aCall T0 F_impl_isLog [.int .i64 x] M = some (.bool (decide (0 ≤ x) && decide (x ≤ 6)), M) := by
  rw [aCall_eq T_impl_isLog]; unfold A_impl_isLog C_impl_isLog; simp [c_impl_within]
def mixC (f g : Nat → Int) (n i : Nat) : List V := (List.range n).map fun j => .int .i64 (if j < i then f j else g j)
theorem mixC_zero (f g : Nat → Int) (n : Nat) : mixC f g n 0 = (List.range n).map fun j => .int .i64 (g j) := by simp [mixC]
theorem mixC_full (f g : Nat → Int) (n : Nat) : mixC f g n n = (List.range n).map fun j => .int .i64 (f j) := by
  unfold mixC
  apply List.map_congr_left
  intro j hj
  rw [if_pos (by simpa using hj)]
theorem r_idx_Int (M : Mem) (a : Option Addr) (c : Nat) (xs : List ty_Int.D) (h : Rep (.sl ty_Int) M [.slice a xs.length c] xs) (hn : xs.length ≤ 9223372036854775807) (f : FuncId) (cap : List V) (p : Int → Bool)
    (hp : ∀ i (hi : i < xs.length), aCall T0 f (.int .i64 xs[i] :: cap) M = some (.bool (p xs[i]), M)) (i : Nat) (hi : i < xs.length) (hq : p xs[i] = false) :
    lp (aCall T0) K_slices_IndexFunc_int_int_0 L_slices_IndexFunc_int_int_0 [.slice a xs.length c, .func (.func f) #[] cap.toArray, und, und, und, und, und, .int .i64 xs.length, .int .i64 i, und, und, und, und, und, und, und, und, und, und] M =
    lp (aCall T0) K_slices_IndexFunc_int_int_0 L_slices_IndexFunc_int_int_0 [.slice a xs.length c, .func (.func f) #[] cap.toArray, und, und, und, und, und, .int .i64 xs.length, .int .i64 (i + 1 : Nat), und, und, und, und, und, und, und, und, und, und] M := by
  obtain ⟨l, o, rfl, hrep, hrd⟩ := at_Int h hi
  have ec := hp i hi
  have e6 : IntKind.i64.wrap ((i : Int) + 1) = i + 1 := wrap_i64 (by omega) (by omega)
  rw [S_slices_IndexFunc_int_int_0]; unfold B_slices_IndexFunc_int_int_0; simp [hrd, ec, e6, hi, hq]
theorem x_idx_Int (M : Mem) (a : Option Addr) (c : Nat) (xs : List ty_Int.D) (h : Rep (.sl ty_Int) M [.slice a xs.length c] xs) (f : FuncId) (cap : List V) (p : Int → Bool)
    (hp : ∀ i (hi : i < xs.length), aCall T0 f (.int .i64 xs[i] :: cap) M = some (.bool (p xs[i]), M)) (i : Nat) (hi : i < xs.length) (hq : p xs[i] = true) (k : ACode) :
    thenF M [.tmp 4] (thenS (blockR 0 (lp (aCall T0) K_slices_IndexFunc_int_int_0 L_slices_IndexFunc_int_int_0 [.slice a xs.length c, .func (.func f) #[] cap.toArray, und, und, und, und, und, .int .i64 xs.length, .int .i64 i, und, und, und, und, und, und, und, und, und, und] M)) (aCall T0) k) = some (.int .i64 i, M) := by
  obtain ⟨l, o, rfl, hrep, hrd⟩ := at_Int h hi
  have ec := hp i hi
  rw [S_slices_IndexFunc_int_int_0]; unfold B_slices_IndexFunc_int_int_0; simp [hrd, ec, hi, hq]
theorem c_idx_Int (M : Mem) (v : V) (xs : List ty_Int.D) (h : Rep (.sl ty_Int) M [v] xs) (hn : xs.length ≤ 9223372036854775807) (f : FuncId) (cap : List V) (p : Int → Bool)
    (hp : ∀ i (hi : i < xs.length), aCall T0 f (.int .i64 xs[i] :: cap) M = some (.bool (p xs[i]), M)) :
    aCall T0 F_slices_IndexFunc_int_int [v, .func (.func f) #[] cap.toArray] M = some (.int .i64 (idx p xs), M) := by
  obtain ⟨a, c, rfl⟩ := h.slen
  rcases idx_cases p xs with ⟨ha, h1⟩ | ⟨j, hj, ha, h1, h2⟩
  · have hc := chain (g := fun i : Nat => lp (aCall T0) K_slices_IndexFunc_int_int_0 L_slices_IndexFunc_int_int_0 [.slice a xs.length c, .func (.func f) #[] cap.toArray, und, und, und, und, und, .int .i64 xs.length, .int .i64 i, und, und, und, und, und, und, und, und, und, und] M) (n := xs.length) fun i hi => r_idx_Int M a c xs h hn f cap p hp i hi (h1 i hi)
    simp only [Int.natCast_zero, Int.ofNat_zero] at hc
    rw [ha]
    rw [aCall_eq T_slices_IndexFunc_int_int]; unfold A_slices_IndexFunc_int_int C_slices_IndexFunc_int_int; simp [hc]
    rw [S_slices_IndexFunc_int_int_0]; unfold B_slices_IndexFunc_int_int_0; simp
  · have hc := chain (g := fun i : Nat => lp (aCall T0) K_slices_IndexFunc_int_int_0 L_slices_IndexFunc_int_int_0 [.slice a xs.length c, .func (.func f) #[] cap.toArray, und, und, und, und, und, .int .i64 xs.length, .int .i64 i, und, und, und, und, und, und, und, und, und, und] M) (n := j) fun i hi => r_idx_Int M a c xs h hn f cap p hp i (by omega) (h1 i (by omega) hi)
    simp only [Int.natCast_zero, Int.ofNat_zero] at hc
    rw [ha]
    rw [aCall_eq T_slices_IndexFunc_int_int]; unfold A_slices_IndexFunc_int_int C_slices_IndexFunc_int_int; simp [hc, x_idx_Int M a c xs h f cap p hp j hj h2]
theorem c_any_Int (M : Mem) (v : V) (xs : List ty_Int.D) (h : Rep (.sl ty_Int) M [v] xs) (hn : xs.length ≤ 9223372036854775807) (f : FuncId) (cap : List V) (p : Int → Bool)
    (hp : ∀ i (hi : i < xs.length), aCall T0 f (.int .i64 xs[i] :: cap) M = some (.bool (p xs[i]), M)) :
    aCall T0 F_slices_ContainsFunc_int_int [v, .func (.func f) #[] cap.toArray] M = some (.bool (xs.any p), M) := by
  have h1 := c_idx_Int M v xs h hn f cap p hp
  have h2 := idx_any p xs
  rw [← h2]
  rw [aCall_eq T_slices_ContainsFunc_int_int]; unfold A_slices_ContainsFunc_int_int C_slices_ContainsFunc_int_int; simp [h1]
theorem c_impl_isSeq_1 (M : Mem) (x : Int) (p : Nat) (n : Int) (hn : 0 ≤ n ∧ n ≤ 256) (hp : rd1 M p 0 = some (.int .i64 n)) : aCall T0 F_impl_isSeq_1 [.int .i64 x, .pointer (some ⟨p, 0, none⟩)] M = some (.bool (!idB n x), M) := by
  have e : IntKind.i64.wrap (n - 1) = n - 1 := wrap_i64 (by omega) (by omega)
  unfold idB
  rw [aCall_eq T_impl_isSeq_1]; unfold A_impl_isSeq_1 C_impl_isSeq_1; simp [hp, c_impl_within, e]
theorem c_impl_isSeq (M : Mem) (n : Int) (v : V) (xs : List ty_Int.D) (h : Rep (.sl ty_Int) M [v] xs) (hl : xs.length ≤ 9223372036854775807) : aCall T0 F_impl_isSeq [.int .i64 n, v] M = some (.bool (seqB n xs), M) := by
  unfold seqB
  cases hb : (decide (0 ≤ n) && decide (n ≤ 256)) with
  | false => rw [aCall_eq T_impl_isSeq]; unfold A_impl_isSeq C_impl_isSeq; simp [c_impl_within, hb]
  | true =>
    have hn : 0 ≤ n ∧ n ≤ 256 := by simpa using hb
    have e : aCall T0 F_slices_ContainsFunc_int_int [v, .func (.func F_impl_isSeq_1) #[] #[.pointer (some ⟨M.length, 0, none⟩)]] (M ++ [⟨[.int .i64 n], 1, 2⟩]) = _ :=
      c_any_Int _ v xs (h.mono (List.prefix_append _ _)) hl F_impl_isSeq_1 [.pointer (some ⟨M.length, 0, none⟩)] (fun x => !idB n x) (fun i hi => c_impl_isSeq_1 _ xs[i] M.length n hn (by simp))
    obtain ⟨a, c, rfl⟩ := h.slen
    have e2 : xs.all (idB n) = !xs.any (fun x => !idB n x) := by simp [List.any_eq_not_all_not]
    rw [e2]
    by_cases h7 : (xs.length : Int) ≤ 700
    · rw [aCall_eq T_impl_isSeq]; unfold A_impl_isSeq C_impl_isSeq; simp [c_impl_within, hb, h7, e]
    · rw [aCall_eq T_impl_isSeq]; unfold A_impl_isSeq C_impl_isSeq; simp [c_impl_within, hb, h7]
def ownC (n : Nat) (xs : List Int) (i : Nat) : List V := (List.range n).map fun (d : Nat) => .int .i64 (lastAt n xs d i)
def hs (h : Nat) (b : UInt8) : Nat := ((h ^^^ b.toNat) * 16777619) % 4294967296
/-- A slice of cells that is filled from the left. -/
def fillC (f : Nat → Int) (n i : Nat) : List V := ((List.range i).map fun j => .int .i64 (f j)) ++ zc (.int .i64 0) (n - i)
theorem fillC_zero (f : Nat → Int) (n : Nat) : fillC f n 0 = zc (.int .i64 0) n := by simp [fillC]
theorem fillC_full (f : Nat → Int) (n : Nat) : fillC f n n = (List.range n).map fun j => .int .i64 (f j) := by simp [fillC]
theorem fillC_len (f : Nat → Int) (n i : Nat) (h : i ≤ n) : (fillC f n i).length = n := by simp [fillC]; omega
theorem fillC_set (f : Nat → Int) (n i : Nat) (h : i < n) : splice (fillC f n i) i [.int .i64 (f i)] = fillC f n (i + 1) := by
  rw [splice_one (by rw [fillC_len f n i (by omega)]; exact h)]
  unfold fillC
  have e : n - i = (n - (i + 1)) + 1 := by omega
  rw [List.set_append_right _ _ (by simp), e]
  have e1 : i - ((List.range i).map fun j => Value.int .i64 (f j)).length = 0 := by simp
  rw [e1, zc_set, List.range_succ]
  simp
theorem r_impl_coords_0 (M : Mem) (n : Nat) (v : V) (hn : n ≤ 256) (i : Nat) (hi : i < n) :
    lp (aCall T0) K_impl_coords_0 L_impl_coords_0 [.int .i64 n, v, und, und, und, .slice (some ⟨M.length, 0, none⟩) n n, und, und, und, und, und, und, und, .int .i64 n, .int .i64 i, und, und, und, und, und, und, und, und, und, und, und, und, und, und, und, und, und, und, und, und, und, und, und, und, und, und, und, und, und, und, und, und, und, und, und, und, und, und, und, und] (M ++ [⟨fillC (fun d => d) n i, 1, 2⟩]) =
    lp (aCall T0) K_impl_coords_0 L_impl_coords_0 [.int .i64 n, v, und, und, und, .slice (some ⟨M.length, 0, none⟩) n n, und, und, und, und, und, und, und, .int .i64 n, .int .i64 (i + 1 : Nat), und, und, und, und, und, und, und, und, und, und, und, und, und, und, und, und, und, und, und, und, und, und, und, und, und, und, und, und, und, und, und, und, und, und, und, und, und, und, und, und] (M ++ [⟨fillC (fun d => d) n (i + 1), 1, 2⟩]) := by
  have e2 := fillC_len (fun d => d) n i (by omega)
  have e3 := fillC_set (fun d => d) n i hi
  have e5 : i + 1 ≤ n := by omega
  have e6 : IntKind.i64.wrap ((i : Int) + 1) = i + 1 := wrap_i64 (by omega) (by omega)
  unfold splice at e3
  simp at e3
  rw [S_impl_coords_0]; unfold B_impl_coords_0; simp [e2, e3, e5, e6, hi]
theorem ownC_len (n : Nat) (xs : List Int) (i : Nat) : (ownC n xs i).length = n := by simp [ownC]
theorem ownC_get (n : Nat) (xs : List Int) (i d : Nat) (h : d < n) : (ownC n xs i)[d]? = some (.int .i64 (lastAt n xs d i)) := by simp [ownC, h]
theorem lastAt_next (n : Int) (xs : List Int) (i : Nat) (x d : Int) (hx : xs[i]? = some x) : lastAt n xs d (i + 1) = if d = x then n + i else lastAt n xs d i := by
  rw [lastAt, hx]
  by_cases h : d = x
  · subst h; simp
  · rw [if_neg h, if_neg (fun e => h (by simpa using e.symm))]
theorem ownC_set (n : Nat) (xs : List Int) (i d : Nat) (h : d < n) (hx : xs[i]? = some (d : Int)) : splice (ownC n xs i) d [.int .i64 (n + i)] = ownC n xs (i + 1) := by
  rw [splice_one (by rw [ownC_len]; exact h)]
  apply List.ext_getElem?
  intro j
  rw [List.getElem?_set]
  by_cases hj : j < n
  · rw [ownC_get n xs (i + 1) j hj, lastAt_next n xs i d j hx]
    by_cases e : d = j
    · subst e; simp [ownC_len, h]
    · rw [if_neg e, ownC_get n xs i j hj, if_neg (by omega)]
  · rw [if_neg (by omega), List.getElem?_eq_none (by rw [ownC_len]; omega), List.getElem?_eq_none (by rw [ownC_len]; omega)]
theorem ownC_same (n : Nat) (xs : List Int) (i : Nat) (x : Int) (hx : xs[i]? = some x) (h : x < 0) : ownC n xs (i + 1) = ownC n xs i := by
  unfold ownC
  apply List.map_congr_left
  intro d _
  rw [lastAt_next n xs i x d hx, if_neg (by omega)]
theorem r_impl_coords_1 (M : Mem) (n : Nat) (a : Option Addr) (c : Nat) (xs : List ty_Int.D) (h : Rep (.sl ty_Int) M [.slice a xs.length c] xs) (hn : n ≤ 256) (hl : xs.length ≤ 700) (hs : ∀ i (hi : i < xs.length), (xs[i] : Int) < n) (i : Nat) (hi : i < xs.length) :
    lp (aCall T0) K_impl_coords_1 L_impl_coords_1 [.int .i64 n, und, und, und, und, .slice (some ⟨M.length, 0, none⟩) n n, und, .slice (some ⟨M.length + 1, 0, none⟩) xs.length xs.length, und, und, und, und, und, und, und, und, und, und, und, und, und, und, und, und, und, .slice a xs.length c, .int .i64 xs.length, .int .i64 i, und, und, und, und, und, und, und, und, und, und, und, und, und, und, und, und, und, und, und, und, und, und, und, und, und, und, und] (M ++ [⟨ownC n xs i, 1, 2⟩, ⟨fillC (coordI n xs) xs.length i, 1, 2⟩]) =
    lp (aCall T0) K_impl_coords_1 L_impl_coords_1 [.int .i64 n, und, und, und, und, .slice (some ⟨M.length, 0, none⟩) n n, und, .slice (some ⟨M.length + 1, 0, none⟩) xs.length xs.length, und, und, und, und, und, und, und, und, und, und, und, und, und, und, und, und, und, .slice a xs.length c, .int .i64 xs.length, .int .i64 (i + 1 : Nat), und, und, und, und, und, und, und, und, und, und, und, und, und, und, und, und, und, und, und, und, und, und, und, und, und, und, und] (M ++ [⟨ownC n xs (i + 1), 1, 2⟩, ⟨fillC (coordI n xs) xs.length (i + 1), 1, 2⟩]) := by
  obtain ⟨l, o, rfl, hrep, hrd⟩ := at_Int h hi
  have hrd' : ∀ N, rd1 (M ++ N) l (o + i) = some (.int .i64 xs[i]) := fun N => rd1_old hrd
  have hlt := hs i hi
  obtain ⟨x, hx⟩ : ∃ x : Int, x = xs[i] := ⟨_, rfl⟩
  rw [← hx] at hrd' hlt
  have hxi : (xs : List Int)[i]? = some x := by rw [hx]; simp [hi]
  have e6 : IntKind.i64.wrap ((i : Int) + 1) = i + 1 := wrap_i64 (by omega) (by omega)
  have e7 : IntKind.i64.wrap ((n : Int) + i) = n + i := wrap_i64 (by omega) (by omega)
  have l1 := fillC_len (coordI n xs) xs.length i (by omega)
  have l2 := ownC_len n xs i
  have e5 : i + 1 ≤ xs.length := by omega
  have e3 := fillC_set (coordI n xs) xs.length i hi
  by_cases hx0 : x < 0
  · have ec : coordI n xs i = n + i := by unfold coordI; rw [hxi]; exact if_pos hx0
    rw [ec] at e3
    unfold splice at e3
    simp at e3
    have hx0' : ¬ (0 ≤ x) := Int.not_le.2 hx0
    rw [ownC_same n xs i x hxi hx0]
    rw [S_impl_coords_1]; unfold B_impl_coords_1; simp [hrd', e6, e7, hi, l1, l2, e5, e3, hx0']
  · obtain ⟨d, rfl⟩ : ∃ d : Nat, x = d := ⟨x.toNat, by omega⟩
    have hlt2 : (d : Int) < (n : Int) := hlt
    have hd : d < n := by omega
    have ec : coordI n xs i = lastAt n xs d i := by unfold coordI; rw [hxi]; exact if_neg hx0
    have g1 := ownC_get n xs i d hd
    have g1b : ∀ hh : d < (ownC n xs i).length, (ownC n xs i)[d] = .int .i64 (lastAt n xs d i) := fun hh => by rw [List.getElem?_eq_getElem hh] at g1; exact Option.some.inj g1
    have g2 := ownC_set n xs i d hd hxi
    obtain ⟨Z, hZ⟩ : ∃ Z, Z = splice (fillC (coordI n xs) xs.length i) i [.int .i64 (n + i)] := ⟨_, rfl⟩
    have l3 : Z.length = xs.length := by rw [hZ, splice_len _ _ _ (by rw [l1]; simp; omega), l1]
    have e4 : splice Z i [.int .i64 (lastAt n xs d i)] = fillC (coordI n xs) xs.length (i + 1) := by
      have q1 := splice_one (cs := fillC (coordI n xs) xs.length i) (o := i) (v := .int .i64 (n + i)) (by rw [l1]; exact hi)
      have q2 := splice_one (cs := fillC (coordI n xs) xs.length i) (o := i) (v := .int .i64 (lastAt n xs d i)) (by rw [l1]; exact hi)
      rw [← e3, ec, q2, hZ, q1, splice_one (by rw [List.length_set, l1]; exact hi), List.set_set]
    have e4' := hZ.symm
    unfold splice at e4 e4' g2
    simp at e4 e4' g2
    have e8 : d + 1 ≤ n := by omega
    rw [S_impl_coords_1]; unfold B_impl_coords_1; simp [hrd', e6, e7, hi, l1, l2, l3, e5, e4, e4', g1b, g2, hd, e8]
theorem fillC_own (n : Nat) (xs : List Int) : fillC (fun d => d) n n = ownC n xs 0 := by
  rw [fillC_full]
  rfl
theorem c_impl_coords (M : Mem) (n : Nat) (v : V) (xs : List ty_Int.D) (h : Rep (.sl ty_Int) M [v] xs) (hn : n ≤ 256) (hl : xs.length ≤ 700) (hs : ∀ i (hi : i < xs.length), (xs[i] : Int) < n) :
    aCall T0 F_impl_coords [.int .i64 n, v] M = some (.slice (some ⟨M.length + 1, 0, none⟩) xs.length xs.length, M ++ [⟨ownC n xs xs.length, 1, 2⟩, ⟨(List.range xs.length).map fun j => .int .i64 (coordI n xs j), 1, 2⟩]) := by
  obtain ⟨a, c, rfl⟩ := h.slen
  have h0 := chain (g := fun i : Nat => lp (aCall T0) K_impl_coords_0 L_impl_coords_0 [.int .i64 n, .slice a xs.length c, und, und, und, .slice (some ⟨M.length, 0, none⟩) n n, und, und, und, und, und, und, und, .int .i64 n, .int .i64 i, und, und, und, und, und, und, und, und, und, und, und, und, und, und, und, und, und, und, und, und, und, und, und, und, und, und, und, und, und, und, und, und, und, und, und, und, und, und, und, und] (M ++ [⟨fillC (fun d => d) n i, 1, 2⟩])) (n := n) fun i hi => r_impl_coords_0 M n _ hn i hi
  have h1 := chain (g := fun i : Nat => lp (aCall T0) K_impl_coords_1 L_impl_coords_1 [.int .i64 n, und, und, und, und, .slice (some ⟨M.length, 0, none⟩) n n, und, .slice (some ⟨M.length + 1, 0, none⟩) xs.length xs.length, und, und, und, und, und, und, und, und, und, und, und, und, und, und, und, und, und, .slice a xs.length c, .int .i64 xs.length, .int .i64 i, und, und, und, und, und, und, und, und, und, und, und, und, und, und, und, und, und, und, und, und, und, und, und, und, und, und, und] (M ++ [⟨ownC n xs i, 1, 2⟩, ⟨fillC (coordI n xs) xs.length i, 1, 2⟩])) (n := xs.length) fun i hi => r_impl_coords_1 M n a c xs h hn hl hs i hi
  simp only [Int.natCast_zero, Int.ofNat_zero, fillC_zero, fillC_own n xs, fillC_full] at h0 h1
  have e1 : (n : Int) * 8 ≤ 281474976710656 := by omega
  have e2 : (n : Int) ≤ 9223372036854775807 := by omega
  have e3 : (xs.length : Int) * 8 ≤ 281474976710656 := by omega
  have e4 : (xs.length : Int) ≤ 9223372036854775807 := by omega
  rw [aCall_eq T_impl_coords]; unfold A_impl_coords C_impl_coords; simp [e1, e2, e3, e4, h0]
  rw [S_impl_coords_0]; unfold B_impl_coords_0; simp [e1, e2, e3, e4, h1]
  rw [S_impl_coords_1]; unfold B_impl_coords_1; simp
theorem seqB_parts {n : Int} {xs : List Int} (h : seqB n xs = true) : (0 ≤ n ∧ n ≤ 256) ∧ xs.length ≤ 700 ∧ ∀ i (hi : i < xs.length), -1 ≤ xs[i] ∧ xs[i] < n := by
  simp only [seqB, Bool.and_eq_true, decide_eq_true_eq] at h
  obtain ⟨h1, h2, h3⟩ := h
  refine ⟨h1, by omega, fun i hi => ?_⟩
  have := all_at h3 hi
  simp only [idB, Bool.and_eq_true, decide_eq_true_eq] at this
  omega
theorem c_impl_areDraws_1 (M : Mem) (x : Int) : aCall T0 F_impl_areDraws_1 [.int .i64 x] M = some (.bool (!drB x), M) := by
  unfold drB
  rw [aCall_eq T_impl_areDraws_1]; unfold A_impl_areDraws_1 C_impl_areDraws_1; simp [c_impl_within]
theorem c_impl_areDraws (M : Mem) (v : V) (ds : List Int) (h : Rep (.sl ty_Int) M [v] ds) (hl : ds.length ≤ 9223372036854775807) (k : Int) : aCall T0 F_impl_areDraws [v, .int .i64 k] M = some (.bool (drsB k ds), M) := by
  have e : aCall T0 F_slices_ContainsFunc_int_int [v, .func (.func F_impl_areDraws_1) #[] #[]] M = _ := c_any_Int M v ds h hl F_impl_areDraws_1 [] (fun x => !drB x) (fun i hi => c_impl_areDraws_1 M ds[i])
  obtain ⟨a, c, rfl⟩ := h.slen
  have e2 : ds.all drB = !ds.any (fun x => !drB x) := by simp [List.any_eq_not_all_not]
  unfold drsB
  rw [e2]
  by_cases hk : (ds.length : Int) = k
  · subst hk
    rw [aCall_eq T_impl_areDraws]; unfold A_impl_areDraws C_impl_areDraws; simp [e]
  · rw [aCall_eq T_impl_areDraws]; unfold A_impl_areDraws C_impl_areDraws; simp [hk]
theorem wf_range {z : Int} (h : -9223372036854775808 ≤ z ∧ z ≤ 9223372036854775807) : (Lit.int .i64 z).wf = true := by
  simp [Lit.wf, IntKind.min, IntKind.max, IntKind.signed, IntKind.bits]; omega
theorem leafI_range (d l : Int) : -1 ≤ leafI d l ∧ leafI d l ≤ 65535 := by
  unfold leafI
  split
  · rename_i h
    have h1 : 0 ≤ d ∧ d ≤ 65535 := by simpa [drB] using h.1
    have := Nat.mod_le d.toNat (2 ^ l.toNat)
    omega
  · omega
theorem pathsI_wf (n l : Int) (ids ds : List Int) : ∀ y ∈ pathsI n l ids ds, (Lit.int .i64 y).wf = true := by
  intro y hy
  obtain ⟨i, _, rfl⟩ := List.mem_map.1 hy
  have := leafI_range (drawAt ds (coordI n ids i)) l
  exact wf_range (by unfold pathI; omega)
theorem mixC_len (f g : Nat → Int) (n i : Nat) : (mixC f g n i).length = n := by simp [mixC]
theorem mixC_get (f g : Nat → Int) (n i : Nat) (h : i < n) : (mixC f g n i)[i]? = some (.int .i64 (g i)) := by simp [mixC, h]
theorem mixC_set (f g : Nat → Int) (n i : Nat) (h : i < n) : splice (mixC f g n i) i [.int .i64 (f i)] = mixC f g n (i + 1) := by
  rw [splice_one (by rw [mixC_len]; exact h)]
  apply List.ext_getElem?
  intro j
  rw [List.getElem?_set]
  by_cases hj : i = j
  · subst hj
    simp [mixC_len, h]
    simp [mixC, h]
  · rw [if_neg hj]
    simp only [mixC, List.getElem?_map]
    by_cases hjn : j < n
    · simp only [List.getElem?_range hjn, Option.map_some]
      by_cases h1 : j < i
      · rw [if_pos h1, if_pos (by omega)]
      · rw [if_neg h1, if_neg (by omega)]
    · rw [List.getElem?_eq_none (by simp; omega)]
      simp
theorem pow2_pos (n : Nat) : (0 : Int) < 2 ^ n := Int.pow_pos (by omega)
theorem pow2_le {n m : Nat} (h : n ≤ m) : (2 : Int) ^ n ≤ 2 ^ m := by
  have := Nat.pow_le_pow_right (show 0 < 2 by omega) h
  exact_mod_cast this
theorem c_impl_LeafOf (M : Mem) (d l : Int) : aCall T0 F_impl_LeafOf [.int .i64 d, .int .i64 l] M = some (.int .i64 (leafI d l), M) := by
  unfold leafI
  cases hd : drB d with
  | false =>
    have e : (decide (0 ≤ d) && decide (d ≤ 65535)) = false := hd
    rw [aCall_eq T_impl_LeafOf]; unfold A_impl_LeafOf C_impl_LeafOf; simp [c_impl_within, e]
  | true =>
    have e : (decide (0 ≤ d) && decide (d ≤ 65535)) = true := hd
    have hd2 : 0 ≤ d ∧ d ≤ 65535 := by simpa using e
    by_cases hl : 0 ≤ l ∧ l ≤ 6
    · obtain ⟨m, rfl⟩ : ∃ m : Nat, l = m := ⟨l.toNat, by omega⟩
      obtain ⟨k, rfl⟩ : ∃ k : Nat, d = k := ⟨d.toNat, by omega⟩
      have e2 : (decide (0 ≤ (m : Int)) && decide ((m : Int) ≤ 6)) = true := by simp; omega
      have hp : 2 ^ m ≤ 2 ^ 6 := Nat.pow_le_pow_right (by omega) (by omega)
      have hq : 0 < 2 ^ m := Nat.two_pow_pos m
      have e1 : bshl .i64 1 m = ((2 ^ m : Nat) : Int) := by
        unfold bshl
        have hm : min (m : Int).toNat IntKind.i64.bits = m := by show min _ 64 = m; omega
        rw [hm, wrap_i64 (by have := pow2_pos m; omega) (by have := pow2_le (show m ≤ 6 by omega); omega)]
        simp
      have e3 : IntKind.i64.wrap (((2 ^ m : Nat) : Int) - 1) = ((2 ^ m - 1 : Nat) : Int) := by
        rw [wrap_i64 (by omega) (by omega)]; omega
      have e4 := and_i64 (a := k) (b := 2 ^ m - 1) (by omega) (by omega)
      rw [Nat.and_two_pow_sub_one_eq_mod] at e4
      rw [if_pos ⟨rfl, hl⟩]
      simp only [Int.natCast_pow] at e1 e3 e4
      have e5 : (decide ((k : Int) ≤ 65535)) = true := by simp; omega
      have e6 : (decide ((m : Int) ≤ 6)) = true := by simp; omega
      have e7 : (k : Int) ≤ 65535 := by omega
      have e8 : (m : Int) ≤ 6 := by omega
      rw [aCall_eq T_impl_LeafOf]; unfold A_impl_LeafOf C_impl_LeafOf; simp [c_impl_within, e7, e8, e1]
      simp at e3 e4
      rw [e3, e4]
    · have e2 : (decide (0 ≤ l) && decide (l ≤ 6)) = false := by simpa using hl
      rw [if_neg (fun h => hl h.2)]
      rw [aCall_eq T_impl_LeafOf]; unfold A_impl_LeafOf C_impl_LeafOf; simp [c_impl_within, e, e2]
theorem lastAt_lt {n : Int} {xs : List Int} {x : Int} (hx : 0 ≤ x ∧ x < n) : ∀ j, 0 ≤ lastAt n xs x j ∧ lastAt n xs x j < n + j
  | 0 => by unfold lastAt; omega
  | j + 1 => by
    have := lastAt_lt (xs := xs) hx j
    unfold lastAt
    split <;> omega
theorem coordI_lt {n : Int} {xs : List Int} (hn : 0 ≤ n) (hs : ∀ i (hi : i < xs.length), xs[i] < n) {i : Nat} (hi : i < xs.length) : 0 ≤ coordI n xs i ∧ coordI n xs i ≤ n + i := by
  unfold coordI
  rw [List.getElem?_eq_getElem hi]
  simp only
  have h1 := hs i hi
  split
  · omega
  · have := lastAt_lt (n := n) (xs := xs) (x := xs[i]) (by omega) i
    omega
theorem drawAt_get {ds : List Int} {z : Int} (h0 : 0 ≤ z) (h : z < ds.length) : drawAt ds z = ds[z.toNat]'(by omega) := by
  unfold drawAt
  rw [List.getElem?_eq_getElem (by omega)]
  rfl
theorem rd_draw {M : Mem} {a : Option Addr} {c : Nat} {ds : List Int} (h : Rep (.sl ty_Int) M [.slice a ds.length c] ds) {z : Int} (h0 : 0 ≤ z) (h1 : z < ds.length) : ∃ l o, a = some ⟨l, o, none⟩ ∧ rd1 M l (o + z.toNat) = some (.int .i64 (drawAt ds z)) := by
  obtain ⟨l, o, rfl, _, hrd⟩ := at_Int h (i := z.toNat) (by omega)
  exact ⟨l, o, rfl, by rw [drawAt_get h0 h1]; exact hrd⟩
theorem r_impl_PathSeq (M : Mem) (O : Blk) (n : Nat) (l : Int) (a : Option Addr) (c : Nat) (ids ds : List Int) (hd : Rep (.sl ty_Int) M [.slice a ds.length c] ds) (hl : ids.length ≤ 700) (hs : ∀ i (hi : i < ids.length), ids[i] < (n : Int)) (hdl : (ds.length : Int) = n + ids.length) (i : Nat) (hi : i < ids.length) :
    lp (aCall T0) K_impl_PathSeq_0 L_impl_PathSeq_0 [und, .int .i64 l, und, .slice a ds.length c, und, und, und, und, und, und, .slice (some ⟨M.length + 1, 0, none⟩) ids.length ids.length, und, und, und, und, und, und, und, und, und, und, und, und, und, und, und, und, und, und, und, und, und, und, und, .slice (some ⟨M.length + 1, 0, none⟩) ids.length ids.length, .int .i64 ids.length, .int .i64 i, und, und, und, und, und, und, und, und, und, und, und, und, und, und, und] (M ++ [O, ⟨mixC (pathI n l ids ds) (coordI n ids) ids.length i, 1, 2⟩]) =
    lp (aCall T0) K_impl_PathSeq_0 L_impl_PathSeq_0 [und, .int .i64 l, und, .slice a ds.length c, und, und, und, und, und, und, .slice (some ⟨M.length + 1, 0, none⟩) ids.length ids.length, und, und, und, und, und, und, und, und, und, und, und, und, und, und, und, und, und, und, und, und, und, und, und, .slice (some ⟨M.length + 1, 0, none⟩) ids.length ids.length, .int .i64 ids.length, .int .i64 (i + 1 : Nat), und, und, und, und, und, und, und, und, und, und, und, und, und, und, und] (M ++ [O, ⟨mixC (pathI n l ids ds) (coordI n ids) ids.length (i + 1), 1, 2⟩]) := by
  have hz := coordI_lt (n := n) (xs := ids) (by omega) hs hi
  have e1 := mixC_get (pathI n l ids ds) (coordI n ids) ids.length i hi
  have e2 := mixC_len (pathI n l ids ds) (coordI n ids) ids.length i
  have e3 := mixC_set (pathI n l ids ds) (coordI n ids) ids.length i hi
  have e4 : pathI n l ids ds i = leafI (drawAt ds (coordI n ids i)) l := rfl
  obtain ⟨z, hz2⟩ : ∃ z, z = coordI n ids i := ⟨_, rfl⟩
  rw [← hz2] at hz e1 e4
  have h0 : 0 ≤ z := hz.1
  have h1 : z < ds.length := by omega
  obtain ⟨p, o, rfl, hrd⟩ := rd_draw hd h0 h1
  have hrd' : ∀ N, rd1 (M ++ N) p (o + z.toNat) = some (.int .i64 (drawAt ds z)) := fun N => rd1_old hrd
  have e5 : i + 1 ≤ ids.length := by omega
  have e6 : IntKind.i64.wrap ((i : Int) + 1) = i + 1 := wrap_i64 (by omega) (by omega)
  have e7 : ∀ hh : i < (mixC (pathI n l ids ds) (coordI n ids) ids.length i).length, (mixC (pathI n l ids ds) (coordI n ids) ids.length i)[i] = .int .i64 z := fun hh => by rw [List.getElem?_eq_getElem hh] at e1; exact Option.some.inj e1
  have e8 := fun M => c_impl_LeafOf M (drawAt ds z) l
  rw [← e4] at e8
  unfold splice at e3
  simp at e3
  rw [S_impl_PathSeq_0]; unfold B_impl_PathSeq_0; simp [e1, e2, e3, e5, e6, e7, e8, hi, h0, h1, hrd']
theorem d_impl_PathSeq (M : Mem) (n l : Int) (v_ids : V) (ids : List Int) (h_ids : Rep (.sl ty_Int) M [v_ids] ids) (hn_ids : ids.length ≤ 1048576) (v_ds : V) (ds : List Int) (h_ds : Rep (.sl ty_Int) M [v_ds] ds) (hn_ds : ds.length ≤ 1048576) :
    ∃ M' u L, M <+: M' ∧ aCall T0 F_impl_PathSeq [.int .i64 n, .int .i64 l, v_ids, v_ds] M = some (.tuple #[u, .bool (pathOk n l ids ds)], M') ∧ Own (.sl ty_Int) M' [u] (pathR n l ids ds) L ∧ ∀ l ∈ L, M.length ≤ l ∧ l < M'.length := by
  have g1 := c_impl_isSeq M n v_ids ids h_ids (by omega)
  have g2 := fun M => c_impl_isLog M l
  have g3 := c_impl_areDraws M v_ds ds h_ds (by omega) (n + ids.length)
  unfold pathR
  cases hb : pathOk n l ids ds with
  | false =>
    refine ⟨M, .slice none 0 0, [], List.prefix_refl _, ?_, .inl ⟨rfl, rfl, .inl ⟨rfl, rfl⟩⟩, by simp⟩
    simp only [pathOk] at hb
    cases q1 : seqB n ids with
    | false =>
      obtain ⟨a, c, rfl⟩ := h_ids.slen
      rw [aCall_eq T_impl_PathSeq]; unfold A_impl_PathSeq C_impl_PathSeq; simp [g1, q1]
    | true =>
      have hsq := seqB_parts q1
      have w1 : IntKind.i64.wrap (n + (ids.length : Int)) = n + ids.length := wrap_i64 (by omega) (by omega)
      rw [q1, Bool.true_and] at hb
      obtain ⟨a, c, rfl⟩ := h_ids.slen
      cases q2 : logB l with
      | false =>
        have q2' : (decide (0 ≤ l) && decide (l ≤ 6)) = false := q2
        rw [aCall_eq T_impl_PathSeq]; unfold A_impl_PathSeq C_impl_PathSeq; simp [g1, g2, q1, q2']
      | true =>
        have q2' : (decide (0 ≤ l) && decide (l ≤ 6)) = true := q2
        rw [q2, Bool.true_and] at hb
        rw [aCall_eq T_impl_PathSeq]; unfold A_impl_PathSeq C_impl_PathSeq; simp [g1, g2, g3, q1, q2', hb, w1]
  | true =>
    simp only [pathOk, Bool.and_eq_true] at hb
    obtain ⟨q1, q2, q3⟩ := hb
    obtain ⟨h1, h2, h3⟩ := seqB_parts q1
    have q2' : (decide (0 ≤ l) && decide (l ≤ 6)) = true := q2
    have hdl : (ds.length : Int) = n + ids.length := by
      simp only [drsB, Bool.and_eq_true, decide_eq_true_eq] at q3
      exact q3.1
    have w1 : IntKind.i64.wrap (n + (ids.length : Int)) = n + ids.length := wrap_i64 (by omega) (by omega)
    obtain ⟨m, rfl⟩ : ∃ m : Nat, n = m := ⟨n.toNat, by omega⟩
    have e2 := c_impl_coords M m v_ids ids h_ids (by omega) h2 (fun i hi => (h3 i hi).2)
    obtain ⟨ai, ci, rfl⟩ := h_ids.slen
    obtain ⟨ad, cd, rfl⟩ := h_ds.slen
    have hc := chain (g := fun i : Nat => lp (aCall T0) K_impl_PathSeq_0 L_impl_PathSeq_0 [und, .int .i64 l, und, .slice ad ds.length cd, und, und, und, und, und, und, .slice (some ⟨M.length + 1, 0, none⟩) ids.length ids.length, und, und, und, und, und, und, und, und, und, und, und, und, und, und, und, und, und, und, und, und, und, und, und, .slice (some ⟨M.length + 1, 0, none⟩) ids.length ids.length, .int .i64 ids.length, .int .i64 i, und, und, und, und, und, und, und, und, und, und, und, und, und, und, und] (M ++ [⟨ownC m ids ids.length, 1, 2⟩, ⟨mixC (pathI m l ids ds) (coordI m ids) ids.length i, 1, 2⟩])) (n := ids.length) fun i hi => r_impl_PathSeq M _ m l ad cd ids ds h_ds h2 (fun i hi => (h3 i hi).2) hdl i hi
    have hm : mixC (pathI m l ids ds) (coordI m ids) ids.length ids.length = (pathsI m l ids ds).map fun n => .int .i64 n := by simp [mixC_full, pathsI]
    simp only [Int.natCast_zero, Int.ofNat_zero, mixC_zero, hm] at hc
    obtain ⟨L, o1, o2⟩ := own_block (M := M ++ [⟨ownC m ids ids.length, 1, 2⟩, ⟨(pathsI m l ids ds).map fun n => .int .i64 n, 1, 2⟩]) (l := M.length + 1) (c := ids.length) (ys := pathsI m l ids ds) (by simp) (pathsI_wf m l ids ds)
    have hlen : (pathsI m l ids ds).length = ids.length := by simp [pathsI]
    rw [hlen] at o1
    rw [if_pos rfl]
    refine ⟨_, _, L, List.prefix_append _ _, ?_, o1, fun l hl => by rw [o2 l hl]; simp⟩
    rw [aCall_eq T_impl_PathSeq]; unfold A_impl_PathSeq C_impl_PathSeq; simp [g1, g2, g3, q1, q2', q3, w1, e2, hc]
    rw [S_impl_PathSeq_0]; unfold B_impl_PathSeq_0; simp
theorem c_spec_l11Log (M : Mem) (x : Int) : aCall T0 F_spec_l11Log [.int .i64 x] M = some (.bool (decide (0 ≤ x) && decide (x ≤ 6)), M) := by
  rw [aCall_eq T_spec_l11Log]; unfold A_spec_l11Log C_spec_l11Log; simp
  repeat' ((first | rw [selO_some] | rw [condR_bool] | rw [selD_some]); split <;> rename_i hq <;> (have hq2 := hq) <;> (try simp at hq2) <;> (try simp [*]))
theorem rep_blk {t : Ty} {M : Mem} {l o n c : Nat} {xs : List t.D} (h : Rep (.sl t) M [.slice (some ⟨l, o, none⟩) n c] xs) : ∃ blk, M[l]? = some blk ∧ blk.w = t.w ∧ n = xs.length := by
  rcases h with ⟨h, _⟩ | ⟨l', o', c', blk, css, e, h2, h3, h4, h5, h6, h7⟩
  · simp at h
  · simp only [List.cons.injEq, Value.slice.injEq, Option.some.injEq, Addr.mk.injEq, and_true, true_and] at e
    obtain ⟨⟨rfl, rfl⟩, rfl, rfl⟩ := e
    exact ⟨blk, h2, h4, rfl⟩
theorem rep_cells {t : Ty} {M : Mem} {enc : t.D → List V} (henc : ∀ (cs : List V) (x : t.D), Rep t M cs x → cs = enc x) {a : Option Addr} {n c : Nat} {xs : List t.D} (h : Rep (.sl t) M [.slice a n c] xs) {k c2 : Nat} (hk : k ≤ xs.length) :
    sliceCells M t.w (.slice a k c2) = some (k, ((xs.take k).map enc).flatten) := by
  rcases h with ⟨h, rfl⟩ | ⟨l', o', c', blk, css, e, h2, h3, h4, h5, h6, h7⟩
  · simp at h hk
    obtain ⟨rfl, rfl, rfl⟩ := h
    subst hk
    simp [sliceCells]
  · simp only [List.cons.injEq, Value.slice.injEq, and_true] at e
    obtain ⟨rfl, rfl, rfl⟩ := e
    by_cases hk0 : k = 0
    · subst hk0
      simp [sliceCells]
    have hw := Rep.css_w h5 h6
    have hcs : css = xs.map enc := by
      apply List.ext_getElem (by simp [h5])
      intro i h1 h2
      rw [List.getElem_map]
      exact henc _ _ (h6 i _ _ (by simp [h1]) (by simp))
    have hlen := flat_len hw
    have hpos := t.w_pos
    have h3' : blk.st = 1 ∨ blk.st = 2 := by
      rcases h3 with h3 | h3 | h3
      · exact .inl h3
      · exact .inr h3
      · subst h3; simp at hk; omega
    obtain ⟨r, hr⟩ := h7
    have hdl : css.flatten.length + r.length = blk.cells.length - o' := by rw [← List.length_drop, ← hr, List.length_append]
    have hle : k * t.w ≤ css.length * t.w := Nat.mul_le_mul_right _ (by omega)
    have hpos2 : 0 < k * t.w := Nat.mul_pos (by omega) hpos
    unfold sliceCells
    simp only
    rw [if_neg (by omega)]
    unfold rdn
    rw [h2]
    simp only
    rw [if_pos ⟨h3', by omega⟩]
    simp only [Option.map_some]
    congr 2
    rw [← hr, List.take_append_of_le_length (by omega)]
    have e2 : css = (xs.take k).map enc ++ (xs.drop k).map enc := by rw [hcs, ← List.map_append, List.take_append_drop]
    have e3 : (((xs.take k).map enc).flatten).length = k * t.w := by
      rw [flat_len (w := t.w) (fun cs hc => hw cs (by rw [e2]; exact List.mem_append_left _ hc))]
      simp [Nat.min_eq_left hk]
    rw [e2, List.flatten_append, ← e3, List.take_left']
    rfl
theorem idB_t {n x : Int} (h : idB n x = true) : ¬ x < -1 ∧ ¬ n ≤ x := by
  simp only [idB, Bool.and_eq_true, decide_eq_true_eq] at h; omega
theorem r_spec_l15Right (M : Mem) (n : Int) (a : Option Addr) (c : Nat) (xs : List ty_Int.D) (h : Rep (.sl ty_Int) M [.slice a xs.length c] xs) (hl : xs.length ≤ 700) (i : Nat) (hi : i < xs.length) (hq : idB n xs[i] = true) :
    lp (aCall T0) K_spec_l15Right_0 L_spec_l15Right_0 [.int .i64 n, .slice a xs.length c, und, und, und, .int .i64 i, und, und, und, und, und, und, und, und, und, und, und, und, und, und, und, und, und, und, und, und, und, und, und, und, und, und, und, und, und, und] M = lp (aCall T0) K_spec_l15Right_0 L_spec_l15Right_0 [.int .i64 n, .slice a xs.length c, und, und, und, .int .i64 (i + 1 : Nat), und, und, und, und, und, und, und, und, und, und, und, und, und, und, und, und, und, und, und, und, und, und, und, und, und, und, und, und, und, und] M := by
  obtain ⟨l, o, rfl, hrep, hrd⟩ := at_Int h hi
  have e6 : IntKind.i64.wrap ((i : Int) + 1) = i + 1 := wrap_i64 (by omega) (by omega)
  obtain ⟨q1, q2⟩ := idB_t hq
  rw [S_spec_l15Right_0]; unfold B_spec_l15Right_0; simp [hrd, e6, hi, q1, q2]
theorem idB_f {n x : Int} (h : idB n x = false) : x < -1 ∨ (¬ x < -1 ∧ n ≤ x) := by
  simp only [idB, Bool.and_eq_false_iff, decide_eq_false_iff_not] at h; omega
theorem x_spec_l15Right (M : Mem) (n : Int) (a : Option Addr) (c : Nat) (xs : List ty_Int.D) (h : Rep (.sl ty_Int) M [.slice a xs.length c] xs) (i : Nat) (hi : i < xs.length) (hq : idB n xs[i] = false) (k : ACode) :
    thenF M [.tmp 4] (thenS (blockR 0 (lp (aCall T0) K_spec_l15Right_0 L_spec_l15Right_0 [.int .i64 n, .slice a xs.length c, und, und, und, .int .i64 i, und, und, und, und, und, und, und, und, und, und, und, und, und, und, und, und, und, und, und, und, und, und, und, und, und, und, und, und, und, und] M)) (aCall T0) k) = some (.bool false, M) := by
  obtain ⟨l, o, rfl, hrep, hrd⟩ := at_Int h hi
  rcases idB_f hq with q1 | ⟨q1, q2⟩
  · rw [S_spec_l15Right_0]; unfold B_spec_l15Right_0; simp [hrd, hi, q1]
  · rw [S_spec_l15Right_0]; unfold B_spec_l15Right_0; simp [hrd, hi, q1, q2]
theorem c_spec_l15Right (M : Mem) (n : Int) (v : V) (xs : List ty_Int.D) (h : Rep (.sl ty_Int) M [v] xs) : aCall T0 F_spec_l15Right [.int .i64 n, v] M = some (.bool (seqB n xs), M) := by
  obtain ⟨a, c, rfl⟩ := h.slen
  unfold seqB
  by_cases h1 : n < 0
  · have : ¬ 0 ≤ n := by omega
    rw [aCall_eq T_spec_l15Right]; unfold A_spec_l15Right C_spec_l15Right; simp [h1, this]
  by_cases h2 : 256 < n
  · have : ¬ n ≤ 256 := by omega
    rw [aCall_eq T_spec_l15Right]; unfold A_spec_l15Right C_spec_l15Right; simp [h1, h2, this]
  by_cases h3 : 700 < (xs.length : Int)
  · have : ¬ (xs.length : Int) ≤ 700 := by omega
    rw [aCall_eq T_spec_l15Right]; unfold A_spec_l15Right C_spec_l15Right; simp [h1, h2, h3, this]
  have hb : (decide (0 ≤ n) && decide (n ≤ 256)) = true := by simp; omega
  have hb2 : decide ((xs.length : Int) ≤ 700) = true := by simp; omega
  rw [hb, hb2, Bool.true_and, Bool.true_and]
  rcases first_all (idB n) xs with ha | ⟨ha, j, hj, q1, q2⟩
  · have hc := chain (g := fun i : Nat => lp (aCall T0) K_spec_l15Right_0 L_spec_l15Right_0 [.int .i64 n, .slice a xs.length c, und, und, und, .int .i64 i, und, und, und, und, und, und, und, und, und, und, und, und, und, und, und, und, und, und, und, und, und, und, und, und, und, und, und, und, und, und] M) (n := xs.length) fun i hi => r_spec_l15Right M n a c xs h (by omega) i hi (all_at ha hi)
    simp only [Int.natCast_zero, Int.ofNat_zero] at hc
    rw [ha]
    rw [aCall_eq T_spec_l15Right]; unfold A_spec_l15Right C_spec_l15Right; simp [h1, h2, h3, hc]
    rw [S_spec_l15Right_0]; unfold B_spec_l15Right_0; simp
  · have hc := chain (g := fun i : Nat => lp (aCall T0) K_spec_l15Right_0 L_spec_l15Right_0 [.int .i64 n, .slice a xs.length c, und, und, und, .int .i64 i, und, und, und, und, und, und, und, und, und, und, und, und, und, und, und, und, und, und, und, und, und, und, und, und, und, und, und, und, und, und] M) (n := j) fun i hi => r_spec_l15Right M n a c xs h (by omega) i (by omega) (q1 i (by omega) hi)
    simp only [Int.natCast_zero, Int.ofNat_zero] at hc
    rw [ha]
    rw [aCall_eq T_spec_l15Right]; unfold A_spec_l15Right C_spec_l15Right; simp [h1, h2, h3, hc, x_spec_l15Right M n a c xs h j hj q2]
theorem drB_t {x : Int} (h : drB x = true) : ¬ x < 0 ∧ ¬ 65535 < x := by
  simp only [drB, Bool.and_eq_true, decide_eq_true_eq] at h; omega
theorem r_spec_l15Draws (M : Mem) (a : Option Addr) (c : Nat) (xs : List ty_Int.D) (h : Rep (.sl ty_Int) M [.slice a xs.length c] xs) (hl : xs.length ≤ 1048576) (i : Nat) (hi : i < xs.length) (hq : drB xs[i] = true) :
    lp (aCall T0) K_spec_l15Draws_0 L_spec_l15Draws_0 [und, und, .slice a xs.length c, und, und, und, und, .int .i64 i, und, und, und, und, und, und, und, und, und, und, und, und, und, und, und, und, und, und, und, und, und, und, und, und, und] M = lp (aCall T0) K_spec_l15Draws_0 L_spec_l15Draws_0 [und, und, .slice a xs.length c, und, und, und, und, .int .i64 (i + 1 : Nat), und, und, und, und, und, und, und, und, und, und, und, und, und, und, und, und, und, und, und, und, und, und, und, und, und] M := by
  obtain ⟨l, o, rfl, hrep, hrd⟩ := at_Int h hi
  have e6 : IntKind.i64.wrap ((i : Int) + 1) = i + 1 := wrap_i64 (by omega) (by omega)
  obtain ⟨q1, q2⟩ := drB_t hq
  rw [S_spec_l15Draws_0]; unfold B_spec_l15Draws_0; simp [hrd, e6, hi, q1, q2]
theorem drB_f {x : Int} (h : drB x = false) : x < 0 ∨ (¬ x < 0 ∧ 65535 < x) := by
  simp only [drB, Bool.and_eq_false_iff, decide_eq_false_iff_not] at h; omega
theorem x_spec_l15Draws (M : Mem) (a : Option Addr) (c : Nat) (xs : List ty_Int.D) (h : Rep (.sl ty_Int) M [.slice a xs.length c] xs) (i : Nat) (hi : i < xs.length) (hq : drB xs[i] = false) (k : ACode) :
    thenF M [.tmp 6] (thenS (blockR 0 (lp (aCall T0) K_spec_l15Draws_0 L_spec_l15Draws_0 [und, und, .slice a xs.length c, und, und, und, und, .int .i64 i, und, und, und, und, und, und, und, und, und, und, und, und, und, und, und, und, und, und, und, und, und, und, und, und, und] M)) (aCall T0) k) = some (.bool false, M) := by
  obtain ⟨l, o, rfl, hrep, hrd⟩ := at_Int h hi
  rcases drB_f hq with q1 | ⟨q1, q2⟩
  · rw [S_spec_l15Draws_0]; unfold B_spec_l15Draws_0; simp [hrd, hi, q1]
  · rw [S_spec_l15Draws_0]; unfold B_spec_l15Draws_0; simp [hrd, hi, q1, q2]
theorem c_spec_l15Draws (M : Mem) (n : Int) (hn : 0 ≤ n ∧ n ≤ 256) (vi v : V) (ids ds : List Int) (hi : Rep (.sl ty_Int) M [vi] ids) (h : Rep (.sl ty_Int) M [v] ds) (hl : ds.length ≤ 1048576) (hil : ids.length ≤ 700) : aCall T0 F_spec_l15Draws [.int .i64 n, vi, v] M = some (.bool (drsB (n + ids.length) ds), M) := by
  obtain ⟨a, c, rfl⟩ := h.slen
  obtain ⟨b, d, rfl⟩ := hi.slen
  have e1 : IntKind.i64.wrap (n + (ids.length : Int)) = n + ids.length := wrap_i64 (by omega) (by omega)
  unfold drsB
  by_cases hk : (ds.length : Int) = n + ids.length
  · have hk' : ((ds.length : Int) = n + ids.length) = True := eq_true hk
    rcases first_all drB ds with ha | ⟨ha, j, hj, q1, q2⟩
    · have hc := chain (g := fun i : Nat => lp (aCall T0) K_spec_l15Draws_0 L_spec_l15Draws_0 [und, und, .slice a ds.length c, und, und, und, und, .int .i64 i, und, und, und, und, und, und, und, und, und, und, und, und, und, und, und, und, und, und, und, und, und, und, und, und, und] M) (n := ds.length) fun i hi => r_spec_l15Draws M a c ds h hl i hi (all_at ha hi)
      simp only [Int.natCast_zero, Int.ofNat_zero] at hc
      rw [ha]
      rw [aCall_eq T_spec_l15Draws]; unfold A_spec_l15Draws C_spec_l15Draws; simp [e1, hk', hc]
      rw [S_spec_l15Draws_0]; unfold B_spec_l15Draws_0; simp
    · have hc := chain (g := fun i : Nat => lp (aCall T0) K_spec_l15Draws_0 L_spec_l15Draws_0 [und, und, .slice a ds.length c, und, und, und, und, .int .i64 i, und, und, und, und, und, und, und, und, und, und, und, und, und, und, und, und, und, und, und, und, und, und, und, und, und] M) (n := j) fun i hi => r_spec_l15Draws M a c ds h hl i (by omega) (q1 i (by omega) hi)
      simp only [Int.natCast_zero, Int.ofNat_zero] at hc
      rw [ha]
      rw [aCall_eq T_spec_l15Draws]; unfold A_spec_l15Draws C_spec_l15Draws; simp [e1, hk', hc, x_spec_l15Draws M a c ds h j hj q2]
  · rw [aCall_eq T_spec_l15Draws]; unfold A_spec_l15Draws C_spec_l15Draws; simp [e1, hk]
def posC (n : Nat) (ids ds : List Int) (i : Nat) : List V := (List.range n).map fun (d : Nat) => .int .i64 (drawAt ds (lastAt n ids d i))
theorem posC_len (n : Nat) (ids ds : List Int) (i : Nat) : (posC n ids ds i).length = n := by simp [posC]
theorem app_new {M : Mem} {w bytes m : Nat} {ys : List V} (hm : 0 < m) (h1 : ys.all one = true) (hs : m * bytes ≤ 140737488355328) (hs2 : m ≤ 9223372036854775807) :
    appS (M ++ [⟨[], w, 2⟩]) w bytes (.slice (some ⟨M.length, 0, none⟩) 0 0) m ys = some (.slice (some ⟨M.length + 1, 0, none⟩) m m, M ++ [⟨[], w, 0⟩, ⟨ys, w, 2⟩]) := by
  have h := app_full (M := M ++ [⟨[], w, 2⟩]) (w := w) (bytes := bytes) (l := M.length) (n := 0) (cs := []) (ys := ys) (m := m) (by simp) (by simp) hm h1 (by simpa using hs) (by simpa using hs2)
  simpa using h
def pathC (n l : Int) (ids ds : List Int) (i : Nat) : List V := (List.range i).map fun j => .int .i64 (pathI n l ids ds j)
theorem pre_set {M0 M : Mem} {l : Nat} {b : Blk} (h : M0 <+: M) (hl : M0.length ≤ l) : M0 <+: M.set l b := by
  obtain ⟨r, rfl⟩ := h
  rw [set_app hl]
  exact List.prefix_append _ _
theorem pre_app {M0 M N : Mem} (h : M0 <+: M) : M0 <+: M ++ N := h.trans (List.prefix_append _ _)
theorem l_spec_l02Pow (M : Mem) : ∀ (n : Nat) (x : Int), 0 ≤ x → x * 2 ^ n ≤ 4611686018427387904 → n ≤ 1000 →
    ∃ e0 e1 e2 e4 e5 e6 e7 e8 e9 e10, lp (aCall T0) K_spec_l02Pow_0 L_spec_l02Pow_0 [.int .i64 n, und, und, .int .i64 x, und, und, und, und, und, und, und] M = some (.exit 0, [e0, e1, e2, .int .i64 (x * 2 ^ n), e4, e5, e6, e7, e8, e9, e10], M)
  | 0, x, _, _, _ => by
    rw [S_spec_l02Pow_0]; unfold B_spec_l02Pow_0; simp
  | n + 1, x, h0, h1, h2 => by
    have hp : (1 : Int) ≤ 2 ^ n := by
      have : (0 : Int) < 2 ^ n := Int.pow_pos (by omega)
      omega
    have e : x * 2 ^ (n + 1) = 2 * x * 2 ^ n := by rw [Int.pow_succ, ← Int.mul_assoc, Int.mul_right_comm, Int.mul_comm x 2]
    rw [e] at h1
    have hx : 2 * x ≤ 2 * x * 2 ^ n := by
      have := Int.mul_le_mul_of_nonneg_left hp (show (0 : Int) ≤ 2 * x by omega)
      simpa using this
    have ih := l_spec_l02Pow M n (2 * x) (by omega) h1 (by omega)
    rw [e]
    rw [S_spec_l02Pow_0]; unfold B_spec_l02Pow_0; simp
    rw [wrap_i64 (z := 2 * x) (by omega) (by omega), wrap_i64 (z := n) (by omega) (by omega)]
    exact ih
theorem c_spec_l02Pow (M : Mem) (n : Nat) (h : n ≤ 60) : aCall T0 F_spec_l02Pow [.int .i64 n] M = some (.int .i64 (2 ^ n), M) := by
  obtain ⟨e0, e1, e2, e4, e5, e6, e7, e8, e9, e10, ih⟩ := l_spec_l02Pow M n 1 (by omega) (by
    have : (2 : Int) ^ n ≤ 2 ^ 60 := pow2_le h
    omega) (by omega)
  rw [aCall_eq T_spec_l02Pow]; unfold A_spec_l02Pow C_spec_l02Pow; simp [ih]
theorem c_spec_LeafOf (M : Mem) (d l : Int) : aCall T0 F_spec_LeafOf [.int .i64 d, .int .i64 l] M = some (.int .i64 (leafI d l), M) := by
  unfold leafI drB
  by_cases h1 : d < 0
  · have : ¬ 0 ≤ d := by omega
    rw [aCall_eq T_spec_LeafOf]; unfold A_spec_LeafOf C_spec_LeafOf; simp [h1, this]
  by_cases h2 : 65535 < d
  · have : ¬ d ≤ 65535 := by omega
    rw [aCall_eq T_spec_LeafOf]; unfold A_spec_LeafOf C_spec_LeafOf; simp [h1, h2, this]
  by_cases h3 : l < 0
  · have : ¬ 0 ≤ l := by omega
    rw [aCall_eq T_spec_LeafOf]; unfold A_spec_LeafOf C_spec_LeafOf; simp [h1, h2, h3, this]
  by_cases h4 : 6 < l
  · have : ¬ l ≤ 6 := by omega
    rw [aCall_eq T_spec_LeafOf]; unfold A_spec_LeafOf C_spec_LeafOf; simp [h1, h2, h3, h4, this]
  obtain ⟨m, rfl⟩ : ∃ m : Nat, l = m := ⟨l.toNat, by omega⟩
  obtain ⟨k, rfl⟩ : ∃ k : Nat, d = k := ⟨d.toNat, by omega⟩
  have hq : (2 : Int) ^ m ≠ 0 := by have := pow2_pos m; omega
  have e2 : Int.tmod (k : Int) (2 ^ m) = (k % 2 ^ m : Nat) := by
    rw [Int.tmod_eq_emod_of_nonneg (by omega)]; simp
  have e7 : (k : Int) ≤ 65535 := by omega
  have e8 : (m : Int) ≤ 6 := by omega
  rw [aCall_eq T_spec_LeafOf]; unfold A_spec_LeafOf C_spec_LeafOf; simp [h1, h2, h3, h4, e7, e8, c_spec_l02Pow _ m (by omega), hq]
  rw [e2]
  simp
theorem posC_get (n : Nat) (ids ds : List Int) (i d : Nat) (h : d < n) : (posC n ids ds i)[d]? = some (.int .i64 (drawAt ds (lastAt n ids d i))) := by simp [posC, h]
theorem posC_set (n : Nat) (ids ds : List Int) (i d : Nat) (h : d < n) (hx : ids[i]? = some (d : Int)) : splice (posC n ids ds i) d [.int .i64 (drawAt ds (n + i))] = posC n ids ds (i + 1) := by
  rw [splice_one (by rw [posC_len]; exact h)]
  apply List.ext_getElem?
  intro j
  rw [List.getElem?_set]
  by_cases hj : j < n
  · rw [posC_get n ids ds (i + 1) j hj, lastAt_next n ids i d j hx]
    by_cases e : d = j
    · subst e; simp [posC_len, h]
    · rw [if_neg e, posC_get n ids ds i j hj, if_neg (by omega)]
  · rw [if_neg (by omega), List.getElem?_eq_none (by rw [posC_len]; omega), List.getElem?_eq_none (by rw [posC_len]; omega)]
theorem posC_same (n : Nat) (ids ds : List Int) (i : Nat) (x : Int) (hx : ids[i]? = some x) (h : x < 0) : posC n ids ds (i + 1) = posC n ids ds i := by
  unfold posC
  apply List.map_congr_left
  intro d _
  rw [lastAt_next n ids i x d hx, if_neg (by omega)]
theorem pathC_succ (n l : Int) (ids ds : List Int) (i : Nat) : pathC n l ids ds (i + 1) = pathC n l ids ds i ++ [.int .i64 (pathI n l ids ds i)] := by simp [pathC, List.range_succ]
theorem pathC_len (n l : Int) (ids ds : List Int) (i : Nat) : (pathC n l ids ds i).length = i := by simp [pathC]
theorem r_spec_PathSeq (M0 M : Mem) (hM : M0 <+: M) (n : Nat) (hn : n ≤ 256) (l : Int) (vi vd : V) (ids ds : List Int) (hids : Rep (.sl ty_Int) M0 [vi] ids) (hds : Rep (.sl ty_Int) M0 [vd] ds) (hl : ids.length ≤ 700) (hs : ∀ i (hi : i < ids.length), ids[i] < (n : Int)) (hdl : (ds.length : Int) = n + ids.length)
    (pb lo cp : Nat) (hlp : M0.length ≤ pb) (hlo : M0.length ≤ lo) (hne : pb ≠ lo) (i : Nat) (hi : i < ids.length) (hbp : M[pb]? = some ⟨posC n ids ds i, 1, 2⟩) (hbo : M[lo]? = some ⟨pathC n l ids ds i, 1, 2⟩) :
    ∃ lo' M', M0 <+: M' ∧ M0.length ≤ lo' ∧ pb ≠ lo' ∧ M'[pb]? = some ⟨posC n ids ds (i + 1), 1, 2⟩ ∧ M'[lo']? = some ⟨pathC n l ids ds (i + 1), 1, 2⟩ ∧
      lp (aCall T0) K_spec_PathSeq_0 L_spec_PathSeq_0 [.int .i64 n, .int .i64 l, vi, vd, und, und, und, und, und, und, .slice (some ⟨pb, 0, none⟩) n cp, .slice (some ⟨lo, 0, none⟩) i i, .int .i64 i, und, und, und, und, und, und, und, und, und, und, und, und, und, und, und, und, und, und, und, und, und, und, und, und, und, und, und, und, und, und, und, und, und, und, und, und, und, und, und, und, und, und, und, und, und, und, und, und, und, und, und, und, und, und, und, und, und, und, und, und, und, und, und, und, und, und] M =
      lp (aCall T0) K_spec_PathSeq_0 L_spec_PathSeq_0 [.int .i64 n, .int .i64 l, vi, vd, und, und, und, und, und, und, .slice (some ⟨pb, 0, none⟩) n cp, .slice (some ⟨lo', 0, none⟩) (i + 1) (i + 1), .int .i64 (i + 1 : Nat), und, und, und, und, und, und, und, und, und, und, und, und, und, und, und, und, und, und, und, und, und, und, und, und, und, und, und, und, und, und, und, und, und, und, und, und, und, und, und, und, und, und, und, und, und, und, und, und, und, und, und, und, und, und, und, und, und, und, und, und, und, und, und, und, und, und] M' := by
  obtain ⟨x, hx⟩ : ∃ x : Int, x = ids[i] := ⟨_, rfl⟩
  have hxi : (ids : List Int)[i]? = some x := by rw [hx]; simp [hi]
  have hlt : x < n := by rw [hx]; exact hs i hi
  obtain ⟨A, hA⟩ : ∃ A, A = M ++ [(⟨[.int .i64 (pathI n l ids ds i)], 1, 2⟩ : Blk)] := ⟨_, rfl⟩
  have eap := app_full (M := A) (w := 1) (bytes := 8) (l := lo) (n := i) (cs := pathC n l ids ds i) (ys := [.int .i64 (pathI n l ids ds i)]) (m := 1) (by rw [hA]; exact get_pre (List.prefix_append _ _) hbo) (by rw [pathC_len]; omega) (by omega) rfl (by omega) (by omega)
  rw [← pathC_succ] at eap
  have hAl : A.length = M.length + 1 := by rw [hA]; simp
  rw [hAl] at eap
  have esl := sliceCells_one (M := M) (v := .int .i64 (pathI n l ids ds i)) (w := 1)
  rw [← hA] at esl
  have hlpl := (List.getElem?_eq_some_iff.1 hbp).1
  obtain ⟨B, hB⟩ : ∃ B, B = A.set lo ⟨pathC n l ids ds i, 1, 0⟩ ++ [(⟨pathC n l ids ds (i + 1), 1, 2⟩ : Blk)] := ⟨_, rfl⟩
  have bp : B[pb]? = some ⟨posC n ids ds i, 1, 2⟩ := by
    rw [hB, List.getElem?_append_left (by simp [hAl]; omega), List.getElem?_set_ne (fun e => hne e.symm), hA, List.getElem?_append_left hlpl, hbp]
  have bo : B[M.length + 1]? = some ⟨pathC n l ids ds (i + 1), 1, 2⟩ := by
    rw [hB, List.getElem?_append_right (by simp [hAl])]
    simp [hAl]
  have pB : M0 <+: B := by
    rw [hB, hA]
    exact pre_app (pre_set (pre_app hM) hlo)
  rw [← hB] at eap
  have hMl := hM.length_le
  have hA1 : M ++ [(⟨[.int .i64 (pathI n l ids ds i)], 1, 2⟩ : Blk)] = A := hA.symm
  have e6 : IntKind.i64.wrap ((i : Int) + 1) = i + 1 := wrap_i64 (by omega) (by omega)
  have e7 : IntKind.i64.wrap ((n : Int) + i) = n + i := wrap_i64 (by omega) (by omega)
  have e8 : ((n : Int) + i).toNat = n + i := by omega
  have e9 : (0 : Int) ≤ (n : Int) + i := by omega
  have e10 : (n : Int) + i < ds.length := by omega
  obtain ⟨ai, ci, rfl⟩ := hids.slen
  obtain ⟨ad, cd, rfl⟩ := hds.slen
  obtain ⟨pd, od, rfl, hrd0⟩ := rd_draw (hds.mono hM) e9 e10
  obtain ⟨pi, oi, rfl, _, hri0⟩ := at_Int (hids.mono hM) hi
  obtain ⟨_, _, q, _, hriB⟩ := at_Int (hids.mono pB) hi
  cases q
  rw [← hx] at hri0 hriB
  rw [e8] at hrd0
  by_cases hx0 : x < 0
  · have ec : coordI n ids i = n + i := by unfold coordI; rw [hxi]; exact if_pos hx0
    have e4 : pathI n l ids ds i = leafI (drawAt ds (n + i)) l := by unfold pathI; rw [ec]
    have e11 := fun M => c_spec_LeafOf M (drawAt ds (n + i)) l
    rw [← e4] at e11
    refine ⟨M.length + 1, B, pB, by omega, by omega, ?_, bo, ?_⟩
    · rw [bp, posC_same n ids ds i x hxi hx0]
    · rw [S_spec_PathSeq_0]; unfold B_spec_PathSeq_0; simp [hi, e6, e7, e8, e9, e10, hrd0, hri0, hx0, e11, hA1, esl, eap]
  · obtain ⟨d, rfl⟩ : ∃ d : Nat, x = d := ⟨x.toNat, by omega⟩
    have hd : d < n := by omega
    have ec : coordI n ids i = lastAt n ids d i := by unfold coordI; rw [hxi]; exact if_neg hx0
    have e4 : pathI n l ids ds i = leafI (drawAt ds (lastAt n ids d i)) l := by unfold pathI; rw [ec]
    have e11 := fun M => c_spec_LeafOf M (drawAt ds (lastAt n ids d i)) l
    rw [← e4] at e11
    have r1 : rd1 M pb d = some (.int .i64 (drawAt ds (lastAt n ids d i))) := by
      unfold rd1
      rw [hbp]
      simp only [or_true, if_true]
      exact posC_get n ids ds i d hd
    have w1 : wrn B pb d [.int .i64 (drawAt ds (n + i))] = some (B.set pb ⟨posC n ids ds (i + 1), 1, 2⟩) := by
      unfold wrn
      rw [bp]
      simp only
      rw [if_pos ⟨trivial, by rw [posC_len]; simp; omega, rfl⟩, posC_set n ids ds i d hd hxi]
    have hlpB := (List.getElem?_eq_some_iff.1 bp).1
    refine ⟨M.length + 1, B.set pb ⟨posC n ids ds (i + 1), 1, 2⟩, pre_set pB hlp, by omega, by omega, by simp [hlpB], ?_, ?_⟩
    · rw [List.getElem?_set_ne (by omega), bo]
    · have hx1 : decide ((d : Int) < 0) = false := decide_eq_false hx0
      rw [S_spec_PathSeq_0]; unfold B_spec_PathSeq_0; simp [hi, e6, e7, e8, e9, e10, hrd0, hri0, hriB, hd, hx1, r1, w1, e11, hA1, esl, eap]
theorem l_spec_PathSeq (M0 : Mem) (n : Nat) (hn : n ≤ 256) (l : Int) (vi vd : V) (ids ds : List Int) (hids : Rep (.sl ty_Int) M0 [vi] ids) (hds : Rep (.sl ty_Int) M0 [vd] ds) (hl : ids.length ≤ 700) (hs : ∀ i (hi : i < ids.length), ids[i] < (n : Int)) (hdl : (ds.length : Int) = n + ids.length)
    (pb cp : Nat) (hlp : M0.length ≤ pb) : ∀ (k i lo : Nat) (M : Mem), M0 <+: M → M0.length ≤ lo → pb ≠ lo → i + k = ids.length → M[pb]? = some ⟨posC n ids ds i, 1, 2⟩ → M[lo]? = some ⟨pathC n l ids ds i, 1, 2⟩ →
    ∃ lo' M', M0 <+: M' ∧ M0.length ≤ lo' ∧ M'[lo']? = some ⟨pathC n l ids ds ids.length, 1, 2⟩ ∧
      lp (aCall T0) K_spec_PathSeq_0 L_spec_PathSeq_0 [.int .i64 n, .int .i64 l, vi, vd, und, und, und, und, und, und, .slice (some ⟨pb, 0, none⟩) n cp, .slice (some ⟨lo, 0, none⟩) i i, .int .i64 i, und, und, und, und, und, und, und, und, und, und, und, und, und, und, und, und, und, und, und, und, und, und, und, und, und, und, und, und, und, und, und, und, und, und, und, und, und, und, und, und, und, und, und, und, und, und, und, und, und, und, und, und, und, und, und, und, und, und, und, und, und, und, und, und, und, und] M =
      lp (aCall T0) K_spec_PathSeq_0 L_spec_PathSeq_0 [.int .i64 n, .int .i64 l, vi, vd, und, und, und, und, und, und, .slice (some ⟨pb, 0, none⟩) n cp, .slice (some ⟨lo', 0, none⟩) ids.length ids.length, .int .i64 ids.length, und, und, und, und, und, und, und, und, und, und, und, und, und, und, und, und, und, und, und, und, und, und, und, und, und, und, und, und, und, und, und, und, und, und, und, und, und, und, und, und, und, und, und, und, und, und, und, und, und, und, und, und, und, und, und, und, und, und, und, und, und, und, und, und, und, und] M'
  | 0, i, lo, M, hM, h1, h2, hi, hbp, hbo => by
    have e : i = ids.length := by omega
    subst e
    exact ⟨lo, M, hM, h1, hbo, rfl⟩
  | k + 1, i, lo, M, hM, h1, h2, hi, hbp, hbo => by
    obtain ⟨lo', M', q1, q2, q3, q4, q5, q6⟩ := r_spec_PathSeq M0 M hM n hn l vi vd ids ds hids hds hl hs hdl pb lo cp hlp h1 h2 i (by omega) hbp hbo
    rw [q6]
    exact l_spec_PathSeq M0 n hn l vi vd ids ds hids hds hl hs hdl pb cp hlp k (i + 1) lo' M' q1 q2 q3 (by omega) q4 q5
theorem posC_zero (n : Nat) (ids ds : List Int) (hn : n ≤ ds.length) : ((ds.take n).map enc_Int).flatten = posC n ids ds 0 := by
  rw [flat_Int]
  unfold posC
  apply List.ext_getElem (by simp; omega)
  intro i h1 h2
  simp at h1 h2
  simp [lastAt]
  rw [drawAt_get (by omega) (by omega)]
  rfl
theorem d_spec_PathSeq (M : Mem) (n l : Int) (v_ids : V) (ids : List Int) (h_ids : Rep (.sl ty_Int) M [v_ids] ids) (hn_ids : ids.length ≤ 1048576) (v_ds : V) (ds : List Int) (h_ds : Rep (.sl ty_Int) M [v_ds] ds) (hn_ds : ds.length ≤ 1048576) :
    ∃ M' u, M <+: M' ∧ aCall T0 F_spec_PathSeq [.int .i64 n, .int .i64 l, v_ids, v_ds] M = some (.tuple #[u, .bool (pathOk n l ids ds)], M') ∧ Rep (.sl ty_Int) M' [u] (pathR n l ids ds) := by
  have g1 := c_spec_l15Right M n v_ids ids h_ids
  have g2 := fun M => c_spec_l11Log M l
  unfold pathR
  cases hb : pathOk n l ids ds with
  | false =>
    refine ⟨M, .slice none 0 0, List.prefix_refl _, ?_, .inl ⟨rfl, rfl⟩⟩
    simp only [pathOk] at hb
    cases q1 : seqB n ids with
    | false =>
      obtain ⟨a, c, rfl⟩ := h_ids.slen
      rw [aCall_eq T_spec_PathSeq]; unfold A_spec_PathSeq C_spec_PathSeq; simp [g1, q1]
    | true =>
      have hsq := seqB_parts q1
      have g3 := c_spec_l15Draws M n hsq.1 v_ids v_ds ids ds h_ids h_ds hn_ds hsq.2.1
      rw [q1, Bool.true_and] at hb
      obtain ⟨a, c, rfl⟩ := h_ids.slen
      cases q2 : logB l with
      | false =>
        have q2' : (decide (0 ≤ l) && decide (l ≤ 6)) = false := q2
        rw [aCall_eq T_spec_PathSeq]; unfold A_spec_PathSeq C_spec_PathSeq; simp [g1, g2, q1, q2']
      | true =>
        have q2' : (decide (0 ≤ l) && decide (l ≤ 6)) = true := q2
        rw [q2, Bool.true_and] at hb
        rw [aCall_eq T_spec_PathSeq]; unfold A_spec_PathSeq C_spec_PathSeq; simp [g1, g2, g3, q1, q2', hb]
  | true =>
    simp only [pathOk, Bool.and_eq_true] at hb
    obtain ⟨q1, q2, q3⟩ := hb
    obtain ⟨h1, h2, h3⟩ := seqB_parts q1
    have q2' : (decide (0 ≤ l) && decide (l ≤ 6)) = true := q2
    have hdl : (ds.length : Int) = n + ids.length := by
      simp only [drsB, Bool.and_eq_true, decide_eq_true_eq] at q3
      exact q3.1
    have g3 := c_spec_l15Draws M n h1 v_ids v_ds ids ds h_ids h_ds hn_ds h2
    obtain ⟨m, rfl⟩ : ∃ m : Nat, n = m := ⟨n.toNat, by omega⟩
    have hs : ∀ i (hi : i < ids.length), ids[i] < (m : Int) := fun i hi => (h3 i hi).2
    have hm : pathC m l ids ds ids.length = (pathsI m l ids ds).map fun n => .int .i64 n := by simp [pathC, pathsI]
    have hlen : (pathsI m l ids ds).length = ids.length := by simp [pathsI]
    have hmd : m ≤ ds.length := by omega
    by_cases hm0 : m = 0
    · subst hm0
      obtain ⟨lo', M', p1, p2, p3, p4⟩ := l_spec_PathSeq M 0 (by omega) l v_ids v_ds ids ds h_ids h_ds h2 hs hdl M.length 0 (Nat.le_refl _) ids.length 0 (M.length + 1) (M ++ [⟨[], 1, 2⟩, ⟨[], 1, 2⟩]) (List.prefix_append _ _) (by omega) (by omega) (by omega) (by simp [posC]) (by simp [pathC])
      rw [hm] at p3
      obtain ⟨L, o1, o2⟩ := own_block (c := ids.length) p3 (pathsI_wf _ l ids ds)
      rw [hlen] at o1
      rw [if_pos rfl]
      refine ⟨M', _, p1, ?_, o1.rep⟩
      obtain ⟨ai, ci, rfl⟩ := h_ids.slen
      obtain ⟨ad, cd, rfl⟩ := h_ds.slen
      simp only [Int.natCast_zero, Int.ofNat_zero] at p4 q1 q3 g1 g3 ⊢
      rw [q1] at g1
      rw [q3] at g3
      have g1' := g1
      have e2 : sliceCells (M ++ [⟨[], 1, 2⟩]) 1 (.slice none 0 0) = some (0, []) := rfl
      rcases h_ds.slice with ⟨e, hds⟩ | ⟨b, o, c2, e⟩
      · simp at e
        obtain ⟨rfl, e, rfl⟩ := e
        rw [aCall_eq T_spec_PathSeq]; unfold A_spec_PathSeq C_spec_PathSeq; simp [g1, g2, g3, q1, q2', zeroCells, sliceCells, appS, p4]
        rw [S_spec_PathSeq_0]; unfold B_spec_PathSeq_0; simp
      · simp at e
        obtain ⟨rfl, rfl⟩ := e
        obtain ⟨k, k1, k2, _⟩ := rep_blk (h_ds.mono (List.prefix_append M [⟨[], 1, 2⟩]))
        have k3 : k.w = 1 := k2
        rw [aCall_eq T_spec_PathSeq]; unfold A_spec_PathSeq C_spec_PathSeq; simp [g1, g2, g3, q1, q2', zeroCells, sliceCells, appS, k1, k3, p4]
        rw [S_spec_PathSeq_0]; unfold B_spec_PathSeq_0; simp
    · have hm1 : 0 < m := by omega
      have hz := posC_zero m ids ds hmd
      obtain ⟨lo', M', p1, p2, p3, p4⟩ := l_spec_PathSeq M m (by omega) l v_ids v_ds ids ds h_ids h_ds h2 hs hdl (M.length + 1) m (by omega) ids.length 0 (M.length + 2) (M ++ [⟨[], 1, 0⟩, ⟨posC m ids ds 0, 1, 2⟩, ⟨[], 1, 2⟩]) (List.prefix_append _ _) (by omega) (by omega) (by omega) (by simp) (by simp [pathC])
      rw [hm] at p3
      obtain ⟨L, o1, o2⟩ := own_block (c := ids.length) p3 (pathsI_wf _ l ids ds)
      rw [hlen] at o1
      rw [if_pos rfl]
      refine ⟨M', _, p1, ?_, o1.rep⟩
      obtain ⟨ai, ci, rfl⟩ := h_ids.slen
      rcases h_ds.slice with ⟨e, hds⟩ | ⟨b, o, c2, e⟩
      · rw [hds] at hmd; simp at hmd; omega
      · simp at e
        subst e
        obtain ⟨k, k1, k2, _⟩ := rep_blk (h_ds.mono (List.prefix_append M [⟨[], 1, 2⟩]))
        have k3 : k.w = 1 := k2
        have hsl := fun c => rep_cells (enc := enc_Int) (fun cs x hx => hx.1) (h_ds.mono (List.prefix_append M [⟨[], 1, 2⟩])) (k := m) (c2 := c) hmd
        have hw : ty_Int.w = 1 := rfl
        rw [hw, hz] at hsl
        have hpl := posC_len m ids ds 0
        have hall : (posC m ids ds 0).all one = true := by simp [posC]
        have hap := app_new (M := M) (w := 1) (bytes := 8) (m := m) (ys := posC m ids ds 0) hm1 hall (by omega) (by omega)
        have e1 : (m : Int) ≤ ds.length := by omega
        simp only [Int.natCast_zero, Int.ofNat_zero] at p4
        generalize posC m ids ds 0 = P at hsl hap p4
        rw [aCall_eq T_spec_PathSeq]; unfold A_spec_PathSeq C_spec_PathSeq; simp [g1, g2, g3, q1, q2', q3, zeroCells, k1, k3, hsl, hap, e1, hmd, p4]
        rw [S_spec_PathSeq_0]; unfold B_spec_PathSeq_0; simp
theorem c_laws_FnExactPathSeq (M : Mem) (n : Int) (l : Int) (v_ids : V) (ids : List Int) (h_ids : Rep (.sl ty_Int) M [v_ids] ids) (hn_ids : ids.length ≤ 9223372036854775807) (v_ds : V) (ds : List Int) (h_ds : Rep (.sl ty_Int) M [v_ds] ds) (hn_ds : ds.length ≤ 9223372036854775807) : ∃ M', aCall T0 F_laws_FnExactPathSeq [.int .i64 n, .int .i64 l, v_ids, v_ds] M = some (.bool true, M') := by
  by_cases hg_ids : 1048576 < (ids.length : Int)
  · refine ⟨M, ?_⟩
    obtain ⟨_, _, rfl⟩ := h_ids.slen
    obtain ⟨_, _, rfl⟩ := h_ds.slen
    rw [aCall_eq T_laws_FnExactPathSeq]; unfold A_laws_FnExactPathSeq C_laws_FnExactPathSeq; simp [hg_ids]
  have h1_ids : ids.length ≤ 1048576 := by omega
  by_cases hg_ds : 1048576 < (ds.length : Int)
  · refine ⟨M, ?_⟩
    obtain ⟨_, _, rfl⟩ := h_ids.slen
    obtain ⟨_, _, rfl⟩ := h_ds.slen
    rw [aCall_eq T_laws_FnExactPathSeq]; unfold A_laws_FnExactPathSeq C_laws_FnExactPathSeq; simp [hg_ids, hg_ds]
  have h1_ds : ds.length ≤ 1048576 := by omega
  have hb_pathR : (pathR n l ids ds).length ≤ 1000000000 := (by have := pathR_len n l ids ds; omega)
  obtain ⟨M1, u2, L3, p4, t5, o6, f7⟩ := d_laws_toIntS M v_ids ids (h_ids.mono ((List.prefix_refl _))) h1_ids
  have g8 : ∀ l ∈ L3, M.length ≤ l ∧ l < M1.length := by intro l hl; have := f7 l hl; (try simp only [List.length_append, List.length_cons, List.length_nil] at this); omega
  have ln9 : M.length ≤ M1.length := by have := p4.length_le; (try simp only [List.length_append, List.length_cons, List.length_nil] at this); omega
  have z10 : M <+: M1 := (List.prefix_refl _).trans p4
  obtain ⟨M12, u13, L14, p15, t16, o17, f18⟩ := d_laws_toIntS M1 v_ds ds (h_ds.mono (z10)) h1_ds
  have g19 : ∀ l ∈ L14, M1.length ≤ l ∧ l < M12.length := by intro l hl; have := f18 l hl; (try simp only [List.length_append, List.length_cons, List.length_nil] at this); omega
  have ln20 : M1.length ≤ M12.length := by have := p15.length_le; (try simp only [List.length_append, List.length_cons, List.length_nil] at this); omega
  have o21 := Own.grow p15 o6
  have z22 : M <+: M12 := z10.trans p15
  obtain ⟨M24, u27, p25, s26, o28⟩ := d_spec_PathSeq M12 n l u2 ids (o21).rep h1_ids u13 ds (o17).rep h1_ds
  have ln29 : M12.length ≤ M24.length := by have := p25.length_le; (try simp only [List.length_append, List.length_cons, List.length_nil] at this); omega
  have o30 := Own.grow p25 o21
  have o31 := Own.grow p25 o17
  have z32 : M <+: M24 := z22.trans p25
  obtain ⟨M33, u34, L35, p36, t37, o38, f39⟩ := d_laws_toIntS M24 v_ids ids (h_ids.mono (z32)) h1_ids
  have g40 : ∀ l ∈ L35, M24.length ≤ l ∧ l < M33.length := by intro l hl; have := f39 l hl; (try simp only [List.length_append, List.length_cons, List.length_nil] at this); omega
  have ln41 : M24.length ≤ M33.length := by have := p36.length_le; (try simp only [List.length_append, List.length_cons, List.length_nil] at this); omega
  have o42 := Own.grow p36 o30
  have o43 := Own.grow p36 o31
  have z44 : M <+: M33 := z32.trans p36
  have y45 : M24 <+: M33 := (List.prefix_refl _).trans p36
  obtain ⟨M47, u48, L49, p50, t51, o52, f53⟩ := d_laws_toIntS M33 v_ds ds (h_ds.mono (z44)) h1_ds
  have g54 : ∀ l ∈ L49, M33.length ≤ l ∧ l < M47.length := by intro l hl; have := f53 l hl; (try simp only [List.length_append, List.length_cons, List.length_nil] at this); omega
  have ln55 : M33.length ≤ M47.length := by have := p50.length_le; (try simp only [List.length_append, List.length_cons, List.length_nil] at this); omega
  have o56 := Own.grow p50 o42
  have o57 := Own.grow p50 o43
  have o58 := Own.grow p50 o38
  have z59 : M <+: M47 := z44.trans p50
  have y60 : M24 <+: M47 := y45.trans p50
  obtain ⟨M62, u65, L66, p63, s64, o67, f68⟩ := d_impl_PathSeq M47 n l u34 ids (o58).rep h1_ids u48 ds (o52).rep h1_ds
  have ln69 : M47.length ≤ M62.length := by have := p63.length_le; (try simp only [List.length_append, List.length_cons, List.length_nil] at this); omega
  have o70 := Own.grow p63 o56
  have o71 := Own.grow p63 o57
  have o72 := Own.grow p63 o58
  have o73 := Own.grow p63 o52
  have z74 : M <+: M62 := z59.trans p63
  have y75 : M24 <+: M62 := y60.trans p63
  have g76 : ∀ l ∈ L66, M47.length ≤ l ∧ l < M62.length := by intro l hl; have := f68 l hl; (try simp only [List.length_append, List.length_cons, List.length_nil] at this); omega
  have e78 := (c_laws_eqIntS M62 u65 u27 _ _ (o67).rep (o28.mono (y75)) (by have := hb_pathR; omega)).trans (show _ = some (Go.Value.bool true, M62) by simp)
  obtain ⟨M79, u80, L81, p82, t83, o84, f85⟩ := d_laws_toIntS M62 v_ids ids (h_ids.mono (z74)) h1_ids
  have g86 : ∀ l ∈ L81, M62.length ≤ l ∧ l < M79.length := by intro l hl; have := f85 l hl; (try simp only [List.length_append, List.length_cons, List.length_nil] at this); omega
  have ln87 : M62.length ≤ M79.length := by have := p82.length_le; (try simp only [List.length_append, List.length_cons, List.length_nil] at this); omega
  have o88 := Own.grow p82 o70
  have o89 := Own.grow p82 o71
  have o90 := Own.grow p82 o72
  have o91 := Own.grow p82 o73
  have o92 := Own.grow p82 o67
  have z93 : M <+: M79 := z74.trans p82
  have y94 : M24 <+: M79 := y75.trans p82
  have e96 := (c_laws_eqIntS M79 u34 u80 _ _ (o90).rep (o84).rep (by omega)).trans (show _ = some (Go.Value.bool true, M79) by simp)
  obtain ⟨M97, u98, L99, p100, t101, o102, f103⟩ := d_laws_toIntS M79 v_ds ds (h_ds.mono (z93)) h1_ds
  have g104 : ∀ l ∈ L99, M79.length ≤ l ∧ l < M97.length := by intro l hl; have := f103 l hl; (try simp only [List.length_append, List.length_cons, List.length_nil] at this); omega
  have ln105 : M79.length ≤ M97.length := by have := p100.length_le; (try simp only [List.length_append, List.length_cons, List.length_nil] at this); omega
  have o106 := Own.grow p100 o88
  have o107 := Own.grow p100 o89
  have o108 := Own.grow p100 o90
  have o109 := Own.grow p100 o91
  have o110 := Own.grow p100 o92
  have o111 := Own.grow p100 o84
  have z112 : M <+: M97 := z93.trans p100
  have y113 : M24 <+: M97 := y94.trans p100
  have e115 := (c_laws_eqIntS M97 u48 u98 _ _ (o109).rep (o102).rep (by omega)).trans (show _ = some (Go.Value.bool true, M97) by simp)
  obtain ⟨M116, m117, up118, o119⟩ := d_laws_markIntS M97 u34 _ L35 o108 (1) (by omega) (by omega)
  have ln120 : M97.length ≤ M116.length := by have := up118.1; (try simp only [List.length_append, List.length_cons, List.length_nil] at this); omega
  have o121 := Own.updg up118 (o106) (fun l hl hk => by have := g8 l hl; have := g40 l hk; omega)
  have o122 := Own.updg up118 (o107) (fun l hl hk => by have := g19 l hl; have := g40 l hk; omega)
  have o124 := Own.updg up118 (o109) (fun l hl hk => by have := g54 l hl; have := g40 l hk; omega)
  have o125 := Own.updg up118 (o110) (fun l hl hk => by have := g76 l hl; have := g40 l hk; omega)
  have o126 := Own.updg up118 (o111) (fun l hl hk => by have := g86 l hl; have := g40 l hk; omega)
  have o127 := Own.updg up118 (o102) (fun l hl hk => by have := g104 l hl; have := g40 l hk; omega)
  have z128 : M <+: M116 := UpdG.pre up118 (z112) (fun l hl => by have := g40 l hl; omega)
  have y129 : M24 <+: M116 := UpdG.pre up118 (y113) (fun l hl => by have := g40 l hl; omega)
  obtain ⟨M130, m131, up132, o133⟩ := d_laws_markIntS M116 u48 _ L49 o124 (1 + (ids.length : Int)) (by omega) (by omega)
  have ln134 : M116.length ≤ M130.length := by have := up132.1; (try simp only [List.length_append, List.length_cons, List.length_nil] at this); omega
  have o135 := Own.updg up132 (o121) (fun l hl hk => by have := g8 l hl; have := g54 l hk; omega)
  have o136 := Own.updg up132 (o122) (fun l hl hk => by have := g19 l hl; have := g54 l hk; omega)
  have o137 := Own.updg up132 (o119) (fun l hl hk => by have := g40 l hl; have := g54 l hk; omega)
  have o139 := Own.updg up132 (o125) (fun l hl hk => by have := g76 l hl; have := g54 l hk; omega)
  have o140 := Own.updg up132 (o126) (fun l hl hk => by have := g86 l hl; have := g54 l hk; omega)
  have o141 := Own.updg up132 (o127) (fun l hl hk => by have := g104 l hl; have := g54 l hk; omega)
  have z142 : M <+: M130 := UpdG.pre up132 (z128) (fun l hl => by have := g54 l hl; omega)
  have y143 : M24 <+: M130 := UpdG.pre up132 (y129) (fun l hl => by have := g54 l hl; omega)
  have c144 : ¬ (1 + (ids.length : Int) + (ds.length : Int) < 0) := by omega
  have e145 := (c_laws_eqIntS M130 u65 u27 _ _ (o139).rep (o28.mono (y143)) (by have := hb_pathR; omega)).trans (show _ = some (Go.Value.bool true, M130) by simp)
  obtain ⟨M146, m147, up148, o149⟩ := d_laws_markIntS M130 u65 _ L66 o139 (1) (by omega) (by omega)
  have ln150 : M130.length ≤ M146.length := by have := up148.1; (try simp only [List.length_append, List.length_cons, List.length_nil] at this); omega
  have o151 := Own.updg up148 (o135) (fun l hl hk => by have := g8 l hl; have := g76 l hk; omega)
  have o152 := Own.updg up148 (o136) (fun l hl hk => by have := g19 l hl; have := g76 l hk; omega)
  have o153 := Own.updg up148 (o137) (fun l hl hk => by have := g40 l hl; have := g76 l hk; omega)
  have o154 := Own.updg up148 (o133) (fun l hl hk => by have := g54 l hl; have := g76 l hk; omega)
  have o156 := Own.updg up148 (o140) (fun l hl hk => by have := g86 l hl; have := g76 l hk; omega)
  have o157 := Own.updg up148 (o141) (fun l hl hk => by have := g104 l hl; have := g76 l hk; omega)
  have z158 : M <+: M146 := UpdG.pre up148 (z142) (fun l hl => by have := g76 l hl; omega)
  have y159 : M24 <+: M146 := UpdG.pre up148 (y143) (fun l hl => by have := g76 l hl; omega)
  have c160 : ¬ (1 + ((pathR n l ids ds).length : Int) < 0) := by omega
  have d161 := d_laws_heldIntS M146 u65 (1) _ (o149).rep (by omega) (by omega)
  have c162 : ¬ (1 + ((pathR n l ids ds).length : Int) < 0) := by omega
  obtain ⟨M163, u164, L165, p166, t167, o168, f169⟩ := d_laws_toIntS M146 v_ids ids (h_ids.mono (z158)) h1_ids
  have g170 : ∀ l ∈ L165, M146.length ≤ l ∧ l < M163.length := by intro l hl; have := f169 l hl; (try simp only [List.length_append, List.length_cons, List.length_nil] at this); omega
  have ln171 : M146.length ≤ M163.length := by have := p166.length_le; (try simp only [List.length_append, List.length_cons, List.length_nil] at this); omega
  have o172 := Own.grow p166 o151
  have o173 := Own.grow p166 o152
  have o174 := Own.grow p166 o153
  have o175 := Own.grow p166 o154
  have o176 := Own.grow p166 o149
  have o177 := Own.grow p166 o156
  have o178 := Own.grow p166 o157
  have z179 : M <+: M163 := z158.trans p166
  have y180 : M24 <+: M163 := y159.trans p166
  obtain ⟨M182, u183, L184, p185, t186, o187, f188⟩ := d_laws_toIntS M163 v_ds ds (h_ds.mono (z179)) h1_ds
  have g189 : ∀ l ∈ L184, M163.length ≤ l ∧ l < M182.length := by intro l hl; have := f188 l hl; (try simp only [List.length_append, List.length_cons, List.length_nil] at this); omega
  have ln190 : M163.length ≤ M182.length := by have := p185.length_le; (try simp only [List.length_append, List.length_cons, List.length_nil] at this); omega
  have o191 := Own.grow p185 o172
  have o192 := Own.grow p185 o173
  have o193 := Own.grow p185 o174
  have o194 := Own.grow p185 o175
  have o195 := Own.grow p185 o176
  have o196 := Own.grow p185 o177
  have o197 := Own.grow p185 o178
  have o198 := Own.grow p185 o168
  have z199 : M <+: M182 := z179.trans p185
  have y200 : M24 <+: M182 := y180.trans p185
  obtain ⟨M202, u205, L206, p203, s204, o207, f208⟩ := d_impl_PathSeq M182 n l u164 ids (o198).rep h1_ids u183 ds (o187).rep h1_ds
  have ln209 : M182.length ≤ M202.length := by have := p203.length_le; (try simp only [List.length_append, List.length_cons, List.length_nil] at this); omega
  have o210 := Own.grow p203 o191
  have o211 := Own.grow p203 o192
  have o212 := Own.grow p203 o193
  have o213 := Own.grow p203 o194
  have o214 := Own.grow p203 o195
  have o215 := Own.grow p203 o196
  have o216 := Own.grow p203 o197
  have o217 := Own.grow p203 o198
  have o218 := Own.grow p203 o187
  have z219 : M <+: M202 := z199.trans p203
  have y220 : M24 <+: M202 := y200.trans p203
  have g221 : ∀ l ∈ L206, M182.length ≤ l ∧ l < M202.length := by intro l hl; have := f208 l hl; (try simp only [List.length_append, List.length_cons, List.length_nil] at this); omega
  have e223 := (c_laws_eqIntS M202 u205 u27 _ _ (o207).rep (o28.mono (y220)) (by have := hb_pathR; omega)).trans (show _ = some (Go.Value.bool true, M202) by simp)
  have d224 := d_laws_heldIntS M202 u65 (1) _ (o214).rep (by omega) (by omega)
  have c225 : ¬ (1 + ((pathR n l ids ds).length : Int) < 0) := by omega
  obtain ⟨_, _, rfl⟩ := h_ids.slen
  obtain ⟨_, _, rfl⟩ := h_ds.slen
  obtain ⟨_, _, rfl⟩ := ((o210).rep).slen
  obtain ⟨_, _, rfl⟩ := ((o211).rep).slen
  obtain ⟨_, _, rfl⟩ := (o28).slen
  obtain ⟨_, _, rfl⟩ := ((o212).rep).slen
  obtain ⟨_, _, rfl⟩ := ((o213).rep).slen
  obtain ⟨_, _, rfl⟩ := ((o214).rep).slen
  obtain ⟨_, _, rfl⟩ := ((o215).rep).slen
  obtain ⟨_, _, rfl⟩ := ((o216).rep).slen
  obtain ⟨_, _, rfl⟩ := ((o217).rep).slen
  obtain ⟨_, _, rfl⟩ := ((o218).rep).slen
  obtain ⟨_, _, rfl⟩ := ((o207).rep).slen
  rw [aCall_eq T_laws_FnExactPathSeq]; unfold A_laws_FnExactPathSeq C_laws_FnExactPathSeq; simp [hg_ids, hg_ds, t5, p4, t16, p15, s26, p25, t37, p36, t51, p50, s64, p63, e78, t83, p82, e96, t101, p100, e115, m117, m131, c144, e145, m147, c160, d161, c162, t167, p166, t186, p185, s204, p203, e223, d224, c225, thenD_pre]
  all_goals exact gc_ex _ _ _
theorem law_laws_FnExactPathSeq (M : Mem) (avs : List V) (_ : ∀ b ∈ M, b.st ≠ 2) (h : Ins [(false, (.int .i64)), (false, (.int .i64)), (false, (.sl (.int .i64))), (false, (.sl (.int .i64)))] M avs) : ∃ M', aCall T0 F_laws_FnExactPathSeq avs M = some (.bool true, M') := by
  obtain ⟨v_n, _, n, rfl, h_n, f_n, h⟩ := ins_cons h
  obtain ⟨v_l, _, l, rfl, h_l, f_l, h⟩ := ins_cons h
  obtain ⟨v_ids, _, ids, rfl, h_ids, f_ids, h⟩ := ins_cons h
  obtain ⟨v_ds, _, ds, rfl, h_ds, f_ds, h⟩ := ins_cons h
  obtain rfl := ins_nil h
  obtain ⟨h_n, _⟩ := repv_one h_n
  cases h_n
  obtain ⟨h_l, _⟩ := repv_one h_l
  cases h_l
  exact c_laws_FnExactPathSeq M n l v_ids ids (repv_one h_ids) f_ids.1 v_ds ds (repv_one h_ds) f_ds.1
end GoAm
