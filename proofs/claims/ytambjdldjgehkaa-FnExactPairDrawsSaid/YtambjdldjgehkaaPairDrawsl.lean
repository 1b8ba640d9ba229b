/- What the functions do that the law reaches; and the law. -/
import Derived.Test.YtambjdldjgehkaaPairDrawst
import Derived.Test.YtambjdldjgehkaaAmOwn
set_option autoImplicit false
set_option linter.unusedVariables false
set_option linter.unusedSimpArgs false
namespace GoAm
open Go
abbrev ty_Int : Ty := .int .i64
abbrev enc_Int (x : ty_Int.D) : List V := [.int .i64 x]
theorem at_Int {M : Mem} {a : Option Addr} {n c : Nat} {xs : List ty_Int.D} (h : Rep (.sl ty_Int) M [.slice a n c] xs) {i : Nat} (hi : i < xs.length) : ∃ l o, a = some ⟨l, o, none⟩ ∧ Rep ty_Int M (enc_Int xs[i]) xs[i] ∧ rd1 M l (o + i) = some (.int .i64 xs[i]) := by
  obtain ⟨_, l, o, rfl, cs, hrd, hrep⟩ := rep_at h hi
  have hcs : cs = enc_Int xs[i] := hrep.1
  subst hcs
  have hw1 : ty_Int.w = 1 := rfl
  rw [hw1, Nat.mul_one] at hrd
  exact ⟨l, o, rfl, hrep, rd1_of_one hrd⟩
theorem r_laws_eqIntS (M : Mem) (a b : Option Addr) (c d : Nat) (xs ys : List ty_Int.D) (h : Rep (.sl ty_Int) M [.slice a xs.length c] xs) (h2 : Rep (.sl ty_Int) M [.slice b ys.length d] ys) (hn : xs.length ≤ 9223372036854775807) (i : Nat) (hi : i < xs.length) (hj : i < ys.length) (he : xs[i] = ys[i]) :
    lp (aCall T0) K_laws_eqIntS_0 L_laws_eqIntS_0 [.slice a xs.length c, .slice b ys.length d, und, und, und, .int .i64 i, und, und, und, und, und, und, und, und, und, und, und, und, und, und, und, und, und, und, und, und] M = lp (aCall T0) K_laws_eqIntS_0 L_laws_eqIntS_0 [.slice a xs.length c, .slice b ys.length d, und, und, und, .int .i64 (i + 1 : Nat), und, und, und, und, und, und, und, und, und, und, und, und, und, und, und, und, und, und, und, und] M := by
  obtain ⟨l, o, rfl, _, hrd⟩ := at_Int h hi
  obtain ⟨l2, o2, rfl, _, hrd2⟩ := at_Int h2 hj
  have e6 : IntKind.i64.wrap ((i : Int) + 1) = i + 1 := wrap_i64 (by omega) (by omega)
  rw [S_laws_eqIntS_0]; unfold B_laws_eqIntS_0; simp [hrd, hrd2, e6, hi, hj, he]
theorem x_laws_eqIntS (M : Mem) (a b : Option Addr) (c d : Nat) (xs ys : List ty_Int.D) (h : Rep (.sl ty_Int) M [.slice a xs.length c] xs) (h2 : Rep (.sl ty_Int) M [.slice b ys.length d] ys) (hn : xs.length ≤ 9223372036854775807) (i : Nat) (hi : i < xs.length) (hj : i < ys.length) (he : xs[i] ≠ ys[i]) (k : ACode) :
    thenF M [.tmp 4] (thenS (blockR 0 (lp (aCall T0) K_laws_eqIntS_0 L_laws_eqIntS_0 [.slice a xs.length c, .slice b ys.length d, und, und, und, .int .i64 i, und, und, und, und, und, und, und, und, und, und, und, und, und, und, und, und, und, und, und, und] M)) (aCall T0) k) = some (.bool false, M) := by
  obtain ⟨l, o, rfl, _, hrd⟩ := at_Int h hi
  obtain ⟨l2, o2, rfl, _, hrd2⟩ := at_Int h2 hj
  rw [S_laws_eqIntS_0]; unfold B_laws_eqIntS_0; simp [hrd, hrd2, hi, hj, he]
theorem c_laws_eqIntS (M : Mem) (v u : V) (xs ys : List Int) (h : Rep (.sl ty_Int) M [v] xs) (h2 : Rep (.sl ty_Int) M [u] ys) (hn : xs.length ≤ 9223372036854775807) : aCall T0 F_laws_eqIntS [v, u] M = some (.bool (decide (xs = ys)), M) := by
  obtain ⟨a, c, rfl⟩ := h.slen
  obtain ⟨b, d, rfl⟩ := h2.slen
  by_cases hl : xs.length = ys.length
  · rcases list_eq_iff hl with he | ⟨j, hj, h3, h4⟩
    · subst he
      have hc := chain (g := fun i : Nat => lp (aCall T0) K_laws_eqIntS_0 L_laws_eqIntS_0 [.slice a xs.length c, .slice b xs.length d, und, und, und, .int .i64 i, und, und, und, und, und, und, und, und, und, und, und, und, und, und, und, und, und, und, und, und] M) (n := xs.length) fun i hi => r_laws_eqIntS M a b c d xs xs h h2 hn i hi hi rfl
      simp only [Int.natCast_zero, Int.ofNat_zero] at hc
      rw [aCall_eq T_laws_eqIntS]; unfold A_laws_eqIntS C_laws_eqIntS; simp [hc]
      rw [S_laws_eqIntS_0]; unfold B_laws_eqIntS_0; simp
    · have hc := chain (g := fun i : Nat => lp (aCall T0) K_laws_eqIntS_0 L_laws_eqIntS_0 [.slice a xs.length c, .slice b ys.length d, und, und, und, .int .i64 i, und, und, und, und, und, und, und, und, und, und, und, und, und, und, und, und, und, und, und, und] M) (n := j) fun i hi => r_laws_eqIntS M a b c d xs ys h h2 hn i (by omega) (by omega) (h3 i (by omega) hi)
      simp only [Int.natCast_zero, Int.ofNat_zero] at hc
      have hx := x_laws_eqIntS M a b c d xs ys h h2 hn j hj (by omega) h4
      have hne : xs ≠ ys := fun e => h4 (by simp [e])
      simp only [← hl] at hc hx
      simp only [← hl]
      rw [aCall_eq T_laws_eqIntS]; unfold A_laws_eqIntS C_laws_eqIntS; simp [hc, hx, hne]
  · have hne : xs ≠ ys := fun e => hl (by rw [e])
    have hl2 : ¬ ((xs.length : Int) = ys.length) := by omega
    rw [aCall_eq T_laws_eqIntS]; unfold A_laws_eqIntS C_laws_eqIntS; simp [hl2, hl, hne]
def z_Int : List V := [.int .i64 0]
theorem r_laws_toIntS (M : Mem) (a : Option Addr) (c : Nat) (xs : List ty_Int.D) (h : Rep (.sl ty_Int) M [.slice a xs.length c] xs) (hn : xs.length ≤ 1048576) (i : Nat) (hi : i < xs.length) :
    lp (aCall T0) K_laws_toIntS_0 L_laws_toIntS_0 [.slice a xs.length c, und, und, .slice (some ⟨M.length, 0, none⟩) xs.length xs.length, .int .i64 i, und, und, und, und, und, und, und, und, und, und, und, und, und, und, und, und, und] (M ++ [⟨tcells enc_Int z_Int xs i, 1, 2⟩]) =
    lp (aCall T0) K_laws_toIntS_0 L_laws_toIntS_0 [.slice a xs.length c, und, und, .slice (some ⟨M.length, 0, none⟩) xs.length xs.length, .int .i64 (i + 1 : Nat), und, und, und, und, und, und, und, und, und, und, und, und, und, und, und, und, und] (M ++ [⟨tcells enc_Int z_Int xs (i + 1), 1, 2⟩]) := by
  obtain ⟨l, o, rfl, hrep, hrd⟩ := at_Int h hi
  have hrd2 : rd1 (M ++ [⟨tcells enc_Int z_Int xs i, 1, 2⟩]) l (o + i) = some (.int .i64 xs[i]) := rd1_old hrd
  have e2 := tcells_len (enc := enc_Int) (z := z_Int) (xs := xs) (fun x _ => rfl) (i := i) (by omega)
  have e3 := tcells_step (enc := enc_Int) (z := z_Int) (xs := xs) (fun x _ => rfl) hi
  have e4 : z_Int.length = 1 := rfl
  rw [e4, Nat.mul_one] at e2 e3
  have e5 : i + 1 ≤ xs.length := by omega
  have e6 : IntKind.i64.wrap ((i : Int) + 1) = i + 1 := wrap_i64 (by omega) (by omega)
  unfold splice at e3
  simp at e3
  rw [S_laws_toIntS_0]; unfold B_laws_toIntS_0; simp [hrd2, e2, e3, e5, e6, hi]
theorem c_laws_toIntS (M : Mem) (v : V) (xs : List ty_Int.D) (h : Rep (.sl ty_Int) M [v] xs) (hn : xs.length ≤ 1048576) :
    aCall T0 F_laws_toIntS [v] M = some (.slice (some ⟨M.length, 0, none⟩) xs.length xs.length, M ++ [⟨(xs.map enc_Int).flatten, 1, 2⟩]) := by
  obtain ⟨a, c, rfl⟩ := h.slen
  have hl := chain (g := fun i : Nat => lp (aCall T0) K_laws_toIntS_0 L_laws_toIntS_0 [.slice a xs.length c, und, und, .slice (some ⟨M.length, 0, none⟩) xs.length xs.length, .int .i64 i, und, und, und, und, und, und, und, und, und, und, und, und, und, und, und, und, und] (M ++ [⟨tcells enc_Int z_Int xs i, 1, 2⟩])) (n := xs.length) fun i hi => r_laws_toIntS M a c xs h hn i hi
  simp only [Int.natCast_zero, Int.ofNat_zero, tcells_zero, tcells_full] at hl
  unfold z_Int at hl
  simp only [zeroCells_zc] at hl
  have e1 : (xs.length : Int) * 8 ≤ 281474976710656 := by omega
  have e2 : (xs.length : Int) ≤ 9223372036854775807 := by omega
  rw [aCall_eq T_laws_toIntS]; unfold A_laws_toIntS C_laws_toIntS; simp [e1, e2]
  rw [hl]
  rw [S_laws_toIntS_0]; unfold B_laws_toIntS_0; simp
theorem flat_Int (xs : List Int) : (xs.map enc_Int).flatten = xs.map fun n => Value.int .i64 n := by
  induction xs with
  | nil => rfl
  | cons x xs ih => simp [enc_Int, ih]
theorem own_block {M : Mem} {l c : Nat} {ys : List Int} (hb : M[l]? = some ⟨ys.map fun n => .int .i64 n, 1, 2⟩) (hw : ∀ y ∈ ys, (Lit.int .i64 y).wf = true) : ∃ L, Own (.sl ty_Int) M [.slice (some ⟨l, 0, none⟩) ys.length c] ys L ∧ ∀ j ∈ L, j = l := by
  by_cases hy : ys = []
  · subst hy
    exact ⟨[], .inl ⟨rfl, rfl, .inr ⟨l, 0, c, _, [], rfl, hb, .inr (.inr rfl), rfl, rfl, fun i ds x hd => by simp at hd, by simp⟩⟩, by simp⟩
  · refine ⟨[l], .inr ⟨l, 0, c, _, ys.map enc_Int, ys.map (fun _ => []), hy, rfl, hb, rfl, rfl, by simp, by simp, ?_, ?_, ?_⟩, by simp⟩
    · intro i ds x K h1 h2 h3
      rw [List.getElem?_map, h2] at h1
      rw [List.getElem?_map, h2] at h3
      simp only [Option.map_some, Option.some.injEq] at h1 h3
      subst h1; subst h3
      exact ⟨⟨rfl, hw x (List.mem_of_getElem? h2)⟩, rfl⟩
    · rw [flat_Int]; simp
    · have : (ys.map (fun _ => ([] : List Nat))).flatten = [] := by
        rw [List.flatten_eq_nil_iff]
        intro K hK
        obtain ⟨_, _, rfl⟩ := List.mem_map.1 hK
        rfl
      rw [this]
theorem d_toInt (M : Mem) (v : V) (xs : List Int) (h : Rep (.sl ty_Int) M [v] xs) (hn : xs.length ≤ 1048576) : ∃ M' u L, M <+: M' ∧ aCall T0 F_laws_toIntS [v] M = some (u, M') ∧ Own (.sl ty_Int) M' [u] xs L ∧ ∀ l ∈ L, M.length ≤ l ∧ l < M'.length := by
  have e := c_laws_toIntS M v xs h hn
  have hw : ∀ y ∈ xs, (Lit.int .i64 y).wf = true := by
    intro y hy
    obtain ⟨i, hi, rfl⟩ := List.getElem_of_mem hy
    obtain ⟨a, c, rfl⟩ := h.slen
    obtain ⟨l, o, rfl, hr, _⟩ := at_Int h hi
    exact hr.2
  obtain ⟨L, o1, o2⟩ := own_block (M := M ++ [⟨(xs.map enc_Int).flatten, 1, 2⟩]) (l := M.length) (c := xs.length) (ys := xs) (by rw [flat_Int]; simp) hw
  exact ⟨_, _, L, List.prefix_append _ _, e, o1, fun l hl => by rw [o2 l hl]; simp⟩
theorem d_laws_toIntS (M : Mem) (v : V) (xs : List Int) (h : Rep (.sl ty_Int) M [v] xs) (hn : xs.length ≤ 1048576) : ∃ M' u L, M <+: M' ∧ aCall T0 F_laws_toIntS [v] M = some (u, M') ∧ Own (.sl ty_Int) M' [u] xs L ∧ ∀ l ∈ L, M.length ≤ l ∧ l < M'.length := d_toInt M v xs h hn
def marksI (k : Int) (n : Nat) : List Int := (List.range n).map fun (j : Nat) => k + (j : Int)
theorem marksI_len (k : Int) (n : Nat) : (marksI k n).length = n := by simp [marksI]
theorem marksI_get (k : Int) (n i : Nat) (hi : i < (marksI k n).length) : (marksI k n)[i] = k + i := by simp [marksI]
def markB (blk : Blk) (o : Nat) (k : Int) (i : Nat) : Blk := { blk with cells := splice blk.cells o ((marksI k i).map fun n => .int .i64 n) }
theorem marksI_succ (k : Int) (n : Nat) : marksI k (n + 1) = marksI k n ++ [k + n] := by simp [marksI, List.range_succ]
theorem splice_snoc (cs ys : List V) (o : Nat) (y : V) (h : o + ys.length + 1 ≤ cs.length) : splice (splice cs o ys) (o + ys.length) [y] = splice cs o (ys ++ [y]) := by
  have e1 : (cs.take o ++ ys).length = o + ys.length := by simp; omega
  unfold splice
  rw [← e1, List.take_left', List.append_assoc (cs.take o) ys]
  · simp only [List.length_append, List.length_cons, List.length_nil, List.append_assoc]
    congr 2
    rw [← List.append_assoc, List.drop_append, List.drop_eq_nil_of_le (by simp)]
    simp
    congr 1
    omega
  · rfl
theorem splice_len (cs ys : List V) (o : Nat) (h : o + ys.length ≤ cs.length) : (splice cs o ys).length = cs.length := by
  unfold splice; simp; omega
theorem wrn_mark (M : Mem) (l o : Nat) (blk : Blk) (hb : M[l]? = some blk) (h2 : blk.st = 2) (k : Int) (n i : Nat) (ho : o + n ≤ blk.cells.length) (hi : i < n) : wrn (M.set l (markB blk o k i)) l (o + i) [.int .i64 (k + i)] = some (M.set l (markB blk o k (i + 1))) := by
  have hl := (List.getElem?_eq_some_iff.1 hb).1
  have e0 : (M.set l (markB blk o k i))[l]? = some (markB blk o k i) := by simp [hl]
  have e1 : ((marksI k i).map fun n => Value.int .i64 n).length = i := by simp [marksI_len]
  unfold wrn
  rw [e0]
  simp only
  have e2 : (markB blk o k i).cells.length = blk.cells.length := splice_len _ _ _ (by rw [e1]; omega)
  rw [if_pos ⟨h2, by rw [e2]; simp; omega, rfl⟩, List.set_set]
  congr 2
  unfold markB
  simp only
  congr 1
  have := splice_snoc blk.cells ((marksI k i).map fun n => Value.int .i64 n) o (.int .i64 (k + i)) (by rw [e1]; omega)
  rw [e1] at this
  rw [this, marksI_succ]
  simp
theorem r_laws_markIntS (M : Mem) (l o n c : Nat) (blk : Blk) (hb : M[l]? = some blk) (h2 : blk.st = 2) (k : Int) (hk : 0 ≤ k) (hk2 : k + n ≤ 4611686018427387904) (ho : o + n ≤ blk.cells.length) (i : Nat) (hi : i < n) :
    lp (aCall T0) K_laws_markIntS_0 L_laws_markIntS_0 [.slice (some ⟨l, o, none⟩) n c, .int .i64 (k + i), und, und, und, .int .i64 i, und, und, und, und, und, und, und, und, und, und, und, und, und] (M.set l (markB blk o k i)) =
    lp (aCall T0) K_laws_markIntS_0 L_laws_markIntS_0 [.slice (some ⟨l, o, none⟩) n c, .int .i64 (k + (i + 1 : Nat)), und, und, und, .int .i64 (i + 1 : Nat), und, und, und, und, und, und, und, und, und, und, und, und, und] (M.set l (markB blk o k (i + 1))) := by
  have e1 := wrn_mark M l o blk hb h2 k n i ho hi
  have e6 : IntKind.i64.wrap ((i : Int) + 1) = i + 1 := wrap_i64 (by omega) (by omega)
  have e7 : IntKind.i64.wrap (k + (i : Int) + 1) = k + (i + 1) := by rw [wrap_i64 (by omega) (by omega)]; omega
  rw [S_laws_markIntS_0]; unfold B_laws_markIntS_0; simp [e1, e6, e7, hi]
theorem own_mark {M : Mem} {v : V} {xs : List ty_Int.D} {L : List Nat} (h : Own (.sl ty_Int) M [v] xs L) : (xs = [] ∧ L = [] ∧ Rep (.sl ty_Int) M [v] []) ∨ ∃ l o c blk, xs ≠ [] ∧ v = .slice (some ⟨l, o, none⟩) xs.length c ∧ M[l]? = some blk ∧ blk.st = 2 ∧ blk.w = 1 ∧ o + xs.length ≤ blk.cells.length ∧ L = [l] := by
  rcases h with ⟨rfl, hL, hr⟩ | ⟨l, o, c, blk, css, Ls, hne, e, hb, h2, hw, hc, hLs, hel, hp, rfl⟩
  · exact .inl ⟨rfl, hL, hr⟩
  · right
    simp only [List.cons.injEq, and_true] at e
    refine ⟨l, o, c, blk, hne, e, hb, h2, hw, ?_, ?_⟩
    · have hone : ∀ cs ∈ css, cs.length = 1 := by
        intro cs hcs
        obtain ⟨i, hi, rfl⟩ := List.getElem_of_mem hcs
        have := (hel i css[i] (xs[i]'(by omega)) (Ls[i]'(by omega)) (by simp) (by simp) (by simp)).1.1
        rw [this]; rfl
      have := flat_len hone
      have hl := hp.length_le
      rw [this, List.length_drop] at hl
      have h0 := List.length_pos_iff.2 hne
      omega
    · have : Ls.flatten = [] := by
        rw [List.flatten_eq_nil_iff]
        intro K hK
        obtain ⟨i, hi, rfl⟩ := List.getElem_of_mem hK
        exact (hel i (css[i]'(by omega)) (xs[i]'(by omega)) Ls[i] (by simp) (by simp) (by simp)).2
      rw [this]
theorem c_laws_markIntS (M : Mem) (v : V) (xs : List ty_Int.D) (L : List Nat) (h : Own (.sl ty_Int) M [v] xs L) (k : Int) (hk : 0 ≤ k) (hk2 : k + xs.length ≤ 4611686018427387904) :
    ∃ M', aCall T0 F_laws_markIntS [v, .int .i64 k] M = some (.int .i64 (k + xs.length), M') ∧ Upd M M' (· ∈ L) ∧ Own (.sl ty_Int) M' [v] (marksI k xs.length) L := by
  rcases own_mark h with ⟨rfl, rfl, hr⟩ | ⟨l, o, c, blk, hx, rfl, hb, h2, hw, ho, rfl⟩
  · refine ⟨M, ?_, ⟨rfl, fun _ _ => rfl, fun l b hb => ⟨b, hb, rfl⟩⟩, .inl ⟨rfl, rfl, hr⟩⟩
    obtain ⟨a, c, rfl⟩ := hr.slen
    rw [aCall_eq T_laws_markIntS]; unfold A_laws_markIntS C_laws_markIntS; simp
    rw [S_laws_markIntS_0]; unfold B_laws_markIntS_0; simp
  · have hl := chain (g := fun i : Nat => lp (aCall T0) K_laws_markIntS_0 L_laws_markIntS_0 [.slice (some ⟨l, o, none⟩) xs.length c, .int .i64 (k + i), und, und, und, .int .i64 i, und, und, und, und, und, und, und, und, und, und, und, und, und] (M.set l (markB blk o k i))) (n := xs.length) fun i hi => r_laws_markIntS M l o xs.length c blk hb h2 k hk hk2 ho i hi
    have e0 : M.set l (markB blk o k 0) = M := by
      have : markB blk o k 0 = blk := by simp [markB, marksI, splice]
      rw [this]
      exact List.ext_getElem? fun j => by
        rw [List.getElem?_set]
        split
        · rename_i e; subst e; split
          · exact hb.symm
          · rename_i hlt; rw [List.getElem?_eq_none (by omega)]
        · rfl
    simp only [Int.natCast_zero, Int.ofNat_zero, e0, Int.add_zero] at hl
    have hlt := (List.getElem?_eq_some_iff.1 hb).1
    refine ⟨M.set l (markB blk o k xs.length), ?_, ⟨by simp, fun j hj => ?_, fun j b' hj => ?_⟩, ?_⟩
    · rw [aCall_eq T_laws_markIntS]; unfold A_laws_markIntS C_laws_markIntS; simp [hl]
      rw [S_laws_markIntS_0]; unfold B_laws_markIntS_0; simp
      exact gc_len (by simp)
    · rw [List.getElem?_set_ne (fun e => hj (by simp [e]))]
    · by_cases e : l = j
      · subst e
        rw [hb] at hj
        cases hj
        exact ⟨markB blk o k xs.length, by simp [hlt], rfl⟩
      · exact ⟨b', by rw [List.getElem?_set_ne e, hj], rfl⟩
    · refine .inr ⟨l, o, c, markB blk o k xs.length, (marksI k xs.length).map enc_Int, (marksI k xs.length).map (fun _ => []), ?_, ?_, ?_, h2, hw, ?_, ?_, ?_, ?_, ?_⟩
      · intro e; have := congrArg List.length e; rw [marksI_len] at this; exact hx (List.length_eq_zero_iff.1 this)
      · rw [marksI_len]
      · simp [hlt]
      · simp
      · simp
      · intro i ds x K h1 h2 h3
        rw [List.getElem?_map, h2] at h1
        rw [List.getElem?_map, h2] at h3
        simp only [Option.map_some, Option.some.injEq] at h1 h3
        subst h1; subst h3
        obtain ⟨hi, rfl⟩ := List.getElem?_eq_some_iff.1 h2
        rw [marksI_get]
        have hi2 : i < xs.length := by rw [marksI_len] at hi; exact hi
        exact ⟨⟨rfl, by simp [Lit.wf, IntKind.min, IntKind.max, IntKind.signed, IntKind.bits]; omega⟩, rfl⟩
      · rw [flat_Int]
        unfold markB splice
        simp only
        rw [List.append_assoc, List.drop_append, List.drop_eq_nil_of_le (by simp; omega)]
        have : o - (List.take o blk.cells).length = 0 := by simp; omega
        rw [this]
        exact List.prefix_append _ _
      · have : ((marksI k xs.length).map (fun _ => ([] : List Nat))).flatten = [] := by
          rw [List.flatten_eq_nil_iff]
          intro K hK
          obtain ⟨_, _, rfl⟩ := List.mem_map.1 hK
          rfl
        rw [this]
/-- Memory that has grown, and changed in the blocks of L alone. -/
def UpdG (M M' : Mem) (L : Nat → Prop) : Prop := M.length ≤ M'.length ∧ (∀ l, ¬ L l → l < M.length → M'[l]? = M[l]?) ∧ ∀ (l : Nat) (b : Blk), M[l]? = some b → ∃ b' : Blk, M'[l]? = some b' ∧ b'.w = b.w
theorem Upd.g {M M' : Mem} {L : Nat → Prop} (h : Upd M M' L) : UpdG M M' L := ⟨Nat.le_of_eq h.1.symm, fun l hl _ => h.2.1 l hl, h.2.2⟩
theorem d_laws_markIntS (M : Mem) (v : V) (xs : List Int) (L : List Nat) (h : Own (.sl ty_Int) M [v] xs L) (k : Int) (hk : 0 < k) (hk2 : k + xs.length ≤ 4611686018427387904) :
    ∃ M', aCall T0 F_laws_markIntS [v, .int .i64 k] M = some (.int .i64 (k + xs.length), M') ∧ UpdG M M' (· ∈ L) ∧ Own (.sl ty_Int) M' [v] (marksI k xs.length) L := by
  obtain ⟨M', e, u, o⟩ := c_laws_markIntS M v xs L h k (by omega) hk2
  exact ⟨M', e, Upd.g u, o⟩
theorem heldB (M : Mem) (v : V) (k : Int) (n : Nat) (h : Rep (.sl ty_Int) M [v] (marksI k n)) (hk : 0 ≤ k) (hk2 : k + n ≤ 4611686018427387904) : aCall T0 F_laws_heldIntS [v, .int .i64 k] M = some (.int .i64 (k + n), M) := by
  obtain ⟨a, c, rfl⟩ := h.slen
  have hlen := marksI_len k n
  have hc := chain (g := fun i : Nat => lp (aCall T0) K_laws_heldIntS_0 L_laws_heldIntS_0 [.slice a (marksI k n).length c, .int .i64 (k + i), und, und, und, .int .i64 i, und, und, und, und, und, und, und, und, und, und, und, und, und, und, und] M) (n := n) fun i hi => by
    obtain ⟨l, o, rfl, _, hrd⟩ := at_Int h (i := i) (by omega)
    rw [marksI_get] at hrd
    have hi2 : (i : Int) < (marksI k n).length := by omega
    have e6 : IntKind.i64.wrap ((i : Int) + 1) = i + 1 := wrap_i64 (by omega) (by omega)
    have e7 : IntKind.i64.wrap (k + (i : Int) + 1) = k + (i + 1) := by rw [wrap_i64 (by omega) (by omega)]; omega
    rw [hlen] at hi2 ⊢
    rw [S_laws_heldIntS_0]; unfold B_laws_heldIntS_0; simp [hrd, hi2, hi, e6, e7]
  simp only [Int.natCast_zero, Int.ofNat_zero, Int.add_zero] at hc
  rw [hlen] at hc ⊢
  rw [aCall_eq T_laws_heldIntS]; unfold A_laws_heldIntS C_laws_heldIntS; simp [hc]
  rw [S_laws_heldIntS_0]; unfold B_laws_heldIntS_0; simp
theorem d_laws_heldIntS (M : Mem) (v : V) (k : Int) (n : Nat) (h : Rep (.sl ty_Int) M [v] (marksI k n)) (hk : 0 < k) (hk2 : k + n ≤ 4611686018427387904) : aCall T0 F_laws_heldIntS [v, .int .i64 k] M = some (.int .i64 (k + n), M) := heldB M v k n h (by omega) hk2
theorem rep_emptyg {t : Ty} {M M' : Mem} {L : Nat → Prop} (hu : UpdG M M' L) {cs : List V} (h : Rep (.sl t) M cs []) : Rep (.sl t) M' cs [] := by
  rcases h with h | ⟨l, o, c, blk, css, h1, h2, h3, h4, h5, h6, h7⟩
  · exact .inl h
  · obtain ⟨b', hb, hw⟩ := hu.2.2 l blk h2
    have hc : css = [] := List.length_eq_zero_iff.1 h5
    subst hc
    exact .inr ⟨l, o, c, b', [], h1, hb, .inr (.inr rfl), by rw [hw, h4], rfl, fun i ds x hd => by simp at hd, by simp⟩
theorem Own.updg {M M' : Mem} {K : Nat → Prop} (hu : UpdG M M' K) : ∀ {t : Ty} {cs : List V} {x : t.D} {L : List Nat}, Own t M cs x L → (∀ l ∈ L, ¬ K l) → Own t M' cs x L
  | .int _, _, _, _, h, _ => h
  | .u8, _, _, _, h, _ => h
  | .bool, _, _, _, h, _ => h
  | .str, _, _, _, h, _ => h
  | .sl t, _, _, _, h, hk => by
    rcases h with ⟨rfl, hL, h⟩ | ⟨l, o, c, blk, css, Ls, hne, h1, h2, h3, h4, h5, hL, h6, h7, rfl⟩
    · exact .inl ⟨rfl, hL, rep_emptyg hu h⟩
    · refine .inr ⟨l, o, c, blk, css, Ls, hne, h1, by rw [hu.2.1 l (hk l (by simp)) (List.getElem?_eq_some_iff.1 h2).1, h2], h3, h4, h5, hL, fun i ds x J hd hx hJ => ?_, h7, rfl⟩
      exact (h6 i ds x J hd hx hJ).updg hu (fun j hj => hk j (List.mem_cons_of_mem _ (List.mem_flatten.2 ⟨J, List.mem_of_getElem? hJ, hj⟩)))
  | .pr a b, _, x, _, h, hk => by
    obtain ⟨c1, c2, L1, L2, e, h1, h2, rfl⟩ := h
    exact ⟨c1, c2, L1, L2, e, h1.updg hu (fun l hl => hk l (List.mem_append_left _ hl)), h2.updg hu (fun l hl => hk l (List.mem_append_right _ hl)), rfl⟩
theorem UpdG.pre {M0 M M' : Mem} {K : Nat → Prop} (hu : UpdG M M' K) (hp : M0 <+: M) (hk : ∀ l, K l → M0.length ≤ l) : M0 <+: M' := by
  have hl : M0.length ≤ M'.length := Nat.le_trans hp.length_le hu.1
  rw [List.prefix_iff_eq_take]
  apply List.ext_getElem?
  intro i
  rw [List.getElem?_take]
  split
  · rename_i hi
    rw [hu.2.1 i (fun h => by have := hk i h; omega) (Nat.lt_of_lt_of_le hi hp.length_le)]
    obtain ⟨r, rfl⟩ := hp
    rw [List.getElem?_append_left hi]
  · rename_i hi
    rw [List.getElem?_eq_none (by omega)]
theorem gc_ex (M M' : Mem) (v : V) : ∃ X, gc M (some (v, M')) = some (v, X) := by
  simp only [gc]
  split
  · exact ⟨_, rfl⟩
  · exact ⟨_, rfl⟩
def idB (n : Int) (x : Int) : Bool := decide (-1 ≤ x) && decide (x ≤ n - 1)
def seqB (n : Int) (xs : List Int) : Bool := (decide (0 ≤ n) && decide (n ≤ 256)) && (decide ((xs.length : Int) ≤ 700) && xs.all (idB n))
def drB (x : Int) : Bool := decide (0 ≤ x) && decide (x ≤ 65535)
def drsB (k : Int) (ds : List Int) : Bool := decide ((ds.length : Int) = k) && ds.all drB
def pairOk (n : Int) (a b ds : List Int) : Bool := (seqB n a && seqB n b) && (decide ((a.length : Int) = b.length) && drsB (n + a.length) ds)
def lastAt (n : Int) (xs : List Int) (x : Int) : Nat → Int
  | 0 => x
  | j + 1 => if xs[j]? = some x then n + j else lastAt n xs x j
def coordI (n : Int) (xs : List Int) (i : Nat) : Int := match xs[i]? with
  | some x => if x < 0 then n + i else lastAt n xs x i
  | none => 0
def co (n : Nat) (xs : List Int) (i : Nat) : Nat := (coordI n xs i).toNat
def upF {α : Type} (f : Nat → α) (d : Nat) (x : α) : Nat → α := fun t => if t = d then x else f t
def usB (us : Nat → Nat) : Nat → Nat → Bool
  | 0 => fun _ => false
  | i + 1 => upF (usB us i) (us i) true
def freeL (us : Nat → Nat) (k N : Nat) : List Nat := (List.range N).filter fun t => !usB us k t
def drawAt (ds : List Int) (z : Int) : Int := (ds[z.toNat]?).getD 0
/-- What lies at the coordinates of b: the draws at those of a. -/
def wrA (us vs : Nat → Nat) (ds : List Int) : Nat → Nat → Int
  | 0 => fun _ => 0
  | i + 1 => upF (wrA us vs ds i) (vs i) (drawAt ds (us i))
/-- What the second loop writes: the free draws, in order, at the free places. -/
def wrB (us vs : Nat → Nat) (ds : List Int) (k N : Nat) : Nat → Nat → Int
  | 0 => wrA us vs ds k
  | j + 1 => upF (wrB us vs ds k N j) ((freeL vs k N).getD j 0) (drawAt ds ((freeL us k N).getD j 0 : Nat))
def pairF (n : Nat) (a b ds : List Int) : Nat → Int := wrB (co n a) (co n b) ds a.length ds.length (freeL (co n a) a.length ds.length).length
def pairL (n : Nat) (a b ds : List Int) : List Int := (List.range ds.length).map (pairF n a b ds)
def pairR (n : Int) (a b ds : List Int) : List Int := if pairOk n a b ds = true then pairL n.toNat a b ds else []
theorem pairR_len (n : Int) (a b ds : List Int) : (pairR n a b ds).length ≤ ds.length := by
  unfold pairR
  split
  · simp [pairL]
  · simp
theorem c_impl_within (M : Mem) (x a b : Int) : aCall T0 F_impl_within [.int .i64 x, .int .i64 a, .int .i64 b] M = some (.bool (decide (a ≤ x) && decide (x ≤ b)), M) := by
  rw [aCall_eq T_impl_within]; unfold A_impl_within C_impl_within; simp
  repeat' ((first | rw [selO_some] | rw [condR_bool] | rw [selD_some]); split <;> rename_i hq <;> (have hq2 := hq) <;> (try simp at hq2) <;> (try simp [*]))
theorem r_idx_Int (M : Mem) (a : Option Addr) (c : Nat) (xs : List ty_Int.D) (h : Rep (.sl ty_Int) M [.slice a xs.length c] xs) (hn : xs.length ≤ 9223372036854775807) (f : FuncId) (cap : List V) (p : Int → Bool)
    (hp : ∀ i (hi : i < xs.length), aCall T0 f (.int .i64 xs[i] :: cap) M = some (.bool (p xs[i]), M)) (i : Nat) (hi : i < xs.length) (hq : p xs[i] = false) :
    lp (aCall T0) K_slices_IndexFunc_int_int_0 L_slices_IndexFunc_int_int_0 [.slice a xs.length c, .func (.func f) #[] cap.toArray, und, und, und, und, und, .int .i64 xs.length, .int .i64 i, und, und, und, und, und, und, und, und, und, und] M =
    lp (aCall T0) K_slices_IndexFunc_int_int_0 L_slices_IndexFunc_int_int_0 [.slice a xs.length c, .func (.func f) #[] cap.toArray, und, und, und, und, und, .int .i64 xs.length, .int .i64 (i + 1 : Nat), und, und, und, und, und, und, und, und, und, und] M := by
  obtain ⟨l, o, rfl, hrep, hrd⟩ := at_Int h hi
  have ec := hp i hi
  have e6 : IntKind.i64.wrap ((i : Int) + 1) = i + 1 := wrap_i64 (by omega) (by omega)
  rw [S_slices_IndexFunc_int_int_0]; unfold B_slices_IndexFunc_int_int_0; simp [hrd, ec, e6, hi, hq]
theorem x_idx_Int (M : Mem) (a : Option Addr) (c : Nat) (xs : List ty_Int.D) (h : Rep (.sl ty_Int) M [.slice a xs.length c] xs) (f : FuncId) (cap : List V) (p : Int → Bool)
    (hp : ∀ i (hi : i < xs.length), aCall T0 f (.int .i64 xs[i] :: cap) M = some (.bool (p xs[i]), M)) (i : Nat) (hi : i < xs.length) (hq : p xs[i] = true) (k : ACode) :
    thenF M [.tmp 4] (thenS (blockR 0 (lp (aCall T0) K_slices_IndexFunc_int_int_0 L_slices_IndexFunc_int_int_0 [.slice a xs.length c, .func (.func f) #[] cap.toArray, und, und, und, und, und, .int .i64 xs.length, .int .i64 i, und, und, und, und, und, und, und, und, und, und] M)) (aCall T0) k) = some (.int .i64 i, M) := by
  obtain ⟨l, o, rfl, hrep, hrd⟩ := at_Int h hi
  have ec := hp i hi
  rw [S_slices_IndexFunc_int_int_0]; unfold B_slices_IndexFunc_int_int_0; simp [hrd, ec, hi, hq]
theorem c_idx_Int (M : Mem) (v : V) (xs : List ty_Int.D) (h : Rep (.sl ty_Int) M [v] xs) (hn : xs.length ≤ 9223372036854775807) (f : FuncId) (cap : List V) (p : Int → Bool)
    (hp : ∀ i (hi : i < xs.length), aCall T0 f (.int .i64 xs[i] :: cap) M = some (.bool (p xs[i]), M)) :
    aCall T0 F_slices_IndexFunc_int_int [v, .func (.func f) #[] cap.toArray] M = some (.int .i64 (idx p xs), M) := by
  obtain ⟨a, c, rfl⟩ := h.slen
  rcases idx_cases p xs with ⟨ha, h1⟩ | ⟨j, hj, ha, h1, h2⟩
  · have hc := chain (g := fun i : Nat => lp (aCall T0) K_slices_IndexFunc_int_int_0 L_slices_IndexFunc_int_int_0 [.slice a xs.length c, .func (.func f) #[] cap.toArray, und, und, und, und, und, .int .i64 xs.length, .int .i64 i, und, und, und, und, und, und, und, und, und, und] M) (n := xs.length) fun i hi => r_idx_Int M a c xs h hn f cap p hp i hi (h1 i hi)
    simp only [Int.natCast_zero, Int.ofNat_zero] at hc
    rw [ha]
    rw [aCall_eq T_slices_IndexFunc_int_int]; unfold A_slices_IndexFunc_int_int C_slices_IndexFunc_int_int; simp [hc]
    rw [S_slices_IndexFunc_int_int_0]; unfold B_slices_IndexFunc_int_int_0; simp
  · have hc := chain (g := fun i : Nat => lp (aCall T0) K_slices_IndexFunc_int_int_0 L_slices_IndexFunc_int_int_0 [.slice a xs.length c, .func (.func f) #[] cap.toArray, und, und, und, und, und, .int .i64 xs.length, .int .i64 i, und, und, und, und, und, und, und, und, und, und] M) (n := j) fun i hi => r_idx_Int M a c xs h hn f cap p hp i (by omega) (h1 i (by omega) hi)
    simp only [Int.natCast_zero, Int.ofNat_zero] at hc
    rw [ha]
    rw [aCall_eq T_slices_IndexFunc_int_int]; unfold A_slices_IndexFunc_int_int C_slices_IndexFunc_int_int; simp [hc, x_idx_Int M a c xs h f cap p hp j hj h2]
theorem c_any_Int (M : Mem) (v : V) (xs : List ty_Int.D) (h : Rep (.sl ty_Int) M [v] xs) (hn : xs.length ≤ 9223372036854775807) (f : FuncId) (cap : List V) (p : Int → Bool)
    (hp : ∀ i (hi : i < xs.length), aCall T0 f (.int .i64 xs[i] :: cap) M = some (.bool (p xs[i]), M)) :
    aCall T0 F_slices_ContainsFunc_int_int [v, .func (.func f) #[] cap.toArray] M = some (.bool (xs.any p), M) := by
  have h1 := c_idx_Int M v xs h hn f cap p hp
  have h2 := idx_any p xs
  rw [← h2]
  rw [aCall_eq T_slices_ContainsFunc_int_int]; unfold A_slices_ContainsFunc_int_int C_slices_ContainsFunc_int_int; simp [h1]
theorem c_impl_isSeq_1 (M : Mem) (x : Int) (p : Nat) (n : Int) (hn : 0 ≤ n ∧ n ≤ 256) (hp : rd1 M p 0 = some (.int .i64 n)) : aCall T0 F_impl_isSeq_1 [.int .i64 x, .pointer (some ⟨p, 0, none⟩)] M = some (.bool (!idB n x), M) := by
  have e : IntKind.i64.wrap (n - 1) = n - 1 := wrap_i64 (by omega) (by omega)
  unfold idB
  rw [aCall_eq T_impl_isSeq_1]; unfold A_impl_isSeq_1 C_impl_isSeq_1; simp [hp, c_impl_within, e]
theorem c_impl_isSeq (M : Mem) (n : Int) (v : V) (xs : List ty_Int.D) (h : Rep (.sl ty_Int) M [v] xs) (hl : xs.length ≤ 9223372036854775807) : aCall T0 F_impl_isSeq [.int .i64 n, v] M = some (.bool (seqB n xs), M) := by
  unfold seqB
  cases hb : (decide (0 ≤ n) && decide (n ≤ 256)) with
  | false => rw [aCall_eq T_impl_isSeq]; unfold A_impl_isSeq C_impl_isSeq; simp [c_impl_within, hb]
  | true =>
    have hn : 0 ≤ n ∧ n ≤ 256 := by simpa using hb
    have e : aCall T0 F_slices_ContainsFunc_int_int [v, .func (.func F_impl_isSeq_1) #[] #[.pointer (some ⟨M.length, 0, none⟩)]] (M ++ [⟨[.int .i64 n], 1, 2⟩]) = _ :=
      c_any_Int _ v xs (h.mono (List.prefix_append _ _)) hl F_impl_isSeq_1 [.pointer (some ⟨M.length, 0, none⟩)] (fun x => !idB n x) (fun i hi => c_impl_isSeq_1 _ xs[i] M.length n hn (by simp))
    obtain ⟨a, c, rfl⟩ := h.slen
    have e2 : xs.all (idB n) = !xs.any (fun x => !idB n x) := by simp [List.any_eq_not_all_not]
    rw [e2]
    by_cases h7 : (xs.length : Int) ≤ 700
    · rw [aCall_eq T_impl_isSeq]; unfold A_impl_isSeq C_impl_isSeq; simp [c_impl_within, hb, h7, e]
    · rw [aCall_eq T_impl_isSeq]; unfold A_impl_isSeq C_impl_isSeq; simp [c_impl_within, hb, h7]
def ownC (n : Nat) (xs : List Int) (i : Nat) : List V := (List.range n).map fun (d : Nat) => .int .i64 (lastAt n xs d i)
def hs (h : Nat) (b : UInt8) : Nat := ((h ^^^ b.toNat) * 16777619) % 4294967296
/-- A slice of cells that is filled from the left. -/
def fillC (f : Nat → Int) (n i : Nat) : List V := ((List.range i).map fun j => .int .i64 (f j)) ++ zc (.int .i64 0) (n - i)
theorem fillC_zero (f : Nat → Int) (n : Nat) : fillC f n 0 = zc (.int .i64 0) n := by simp [fillC]
theorem fillC_full (f : Nat → Int) (n : Nat) : fillC f n n = (List.range n).map fun j => .int .i64 (f j) := by simp [fillC]
theorem fillC_len (f : Nat → Int) (n i : Nat) (h : i ≤ n) : (fillC f n i).length = n := by simp [fillC]; omega
theorem fillC_set (f : Nat → Int) (n i : Nat) (h : i < n) : splice (fillC f n i) i [.int .i64 (f i)] = fillC f n (i + 1) := by
  rw [splice_one (by rw [fillC_len f n i (by omega)]; exact h)]
  unfold fillC
  have e : n - i = (n - (i + 1)) + 1 := by omega
  rw [List.set_append_right _ _ (by simp), e]
  have e1 : i - ((List.range i).map fun j => Value.int .i64 (f j)).length = 0 := by simp
  rw [e1, zc_set, List.range_succ]
  simp
theorem r_impl_coords_0 (M : Mem) (n : Nat) (v : V) (hn : n ≤ 256) (i : Nat) (hi : i < n) :
    lp (aCall T0) K_impl_coords_0 L_impl_coords_0 [.int .i64 n, v, und, und, und, .slice (some ⟨M.length, 0, none⟩) n n, und, und, und, und, und, und, und, .int .i64 n, .int .i64 i, und, und, und, und, und, und, und, und, und, und, und, und, und, und, und, und, und, und, und, und, und, und, und, und, und, und, und, und, und, und, und, und, und, und, und, und, und, und, und, und] (M ++ [⟨fillC (fun d => d) n i, 1, 2⟩]) =
    lp (aCall T0) K_impl_coords_0 L_impl_coords_0 [.int .i64 n, v, und, und, und, .slice (some ⟨M.length, 0, none⟩) n n, und, und, und, und, und, und, und, .int .i64 n, .int .i64 (i + 1 : Nat), und, und, und, und, und, und, und, und, und, und, und, und, und, und, und, und, und, und, und, und, und, und, und, und, und, und, und, und, und, und, und, und, und, und, und, und, und, und, und, und] (M ++ [⟨fillC (fun d => d) n (i + 1), 1, 2⟩]) := by
  have e2 := fillC_len (fun d => d) n i (by omega)
  have e3 := fillC_set (fun d => d) n i hi
  have e5 : i + 1 ≤ n := by omega
  have e6 : IntKind.i64.wrap ((i : Int) + 1) = i + 1 := wrap_i64 (by omega) (by omega)
  unfold splice at e3
  simp at e3
  rw [S_impl_coords_0]; unfold B_impl_coords_0; simp [e2, e3, e5, e6, hi]
theorem ownC_len (n : Nat) (xs : List Int) (i : Nat) : (ownC n xs i).length = n := by simp [ownC]
theorem ownC_get (n : Nat) (xs : List Int) (i d : Nat) (h : d < n) : (ownC n xs i)[d]? = some (.int .i64 (lastAt n xs d i)) := by simp [ownC, h]
theorem lastAt_next (n : Int) (xs : List Int) (i : Nat) (x d : Int) (hx : xs[i]? = some x) : lastAt n xs d (i + 1) = if d = x then n + i else lastAt n xs d i := by
  rw [lastAt, hx]
  by_cases h : d = x
  · subst h; simp
  · rw [if_neg h, if_neg (fun e => h (by simpa using e.symm))]
theorem ownC_set (n : Nat) (xs : List Int) (i d : Nat) (h : d < n) (hx : xs[i]? = some (d : Int)) : splice (ownC n xs i) d [.int .i64 (n + i)] = ownC n xs (i + 1) := by
  rw [splice_one (by rw [ownC_len]; exact h)]
  apply List.ext_getElem?
  intro j
  rw [List.getElem?_set]
  by_cases hj : j < n
  · rw [ownC_get n xs (i + 1) j hj, lastAt_next n xs i d j hx]
    by_cases e : d = j
    · subst e; simp [ownC_len, h]
    · rw [if_neg e, ownC_get n xs i j hj, if_neg (by omega)]
  · rw [if_neg (by omega), List.getElem?_eq_none (by rw [ownC_len]; omega), List.getElem?_eq_none (by rw [ownC_len]; omega)]
theorem ownC_same (n : Nat) (xs : List Int) (i : Nat) (x : Int) (hx : xs[i]? = some x) (h : x < 0) : ownC n xs (i + 1) = ownC n xs i := by
  unfold ownC
  apply List.map_congr_left
  intro d _
  rw [lastAt_next n xs i x d hx, if_neg (by omega)]
theorem r_impl_coords_1 (M : Mem) (n : Nat) (a : Option Addr) (c : Nat) (xs : List ty_Int.D) (h : Rep (.sl ty_Int) M [.slice a xs.length c] xs) (hn : n ≤ 256) (hl : xs.length ≤ 700) (hs : ∀ i (hi : i < xs.length), (xs[i] : Int) < n) (i : Nat) (hi : i < xs.length) :
    lp (aCall T0) K_impl_coords_1 L_impl_coords_1 [.int .i64 n, und, und, und, und, .slice (some ⟨M.length, 0, none⟩) n n, und, .slice (some ⟨M.length + 1, 0, none⟩) xs.length xs.length, und, und, und, und, und, und, und, und, und, und, und, und, und, und, und, und, und, .slice a xs.length c, .int .i64 xs.length, .int .i64 i, und, und, und, und, und, und, und, und, und, und, und, und, und, und, und, und, und, und, und, und, und, und, und, und, und, und, und] (M ++ [⟨ownC n xs i, 1, 2⟩, ⟨fillC (coordI n xs) xs.length i, 1, 2⟩]) =
    lp (aCall T0) K_impl_coords_1 L_impl_coords_1 [.int .i64 n, und, und, und, und, .slice (some ⟨M.length, 0, none⟩) n n, und, .slice (some ⟨M.length + 1, 0, none⟩) xs.length xs.length, und, und, und, und, und, und, und, und, und, und, und, und, und, und, und, und, und, .slice a xs.length c, .int .i64 xs.length, .int .i64 (i + 1 : Nat), und, und, und, und, und, und, und, und, und, und, und, und, und, und, und, und, und, und, und, und, und, und, und, und, und, und, und] (M ++ [⟨ownC n xs (i + 1), 1, 2⟩, ⟨fillC (coordI n xs) xs.length (i + 1), 1, 2⟩]) := by
  obtain ⟨l, o, rfl, hrep, hrd⟩ := at_Int h hi
  have hrd' : ∀ N, rd1 (M ++ N) l (o + i) = some (.int .i64 xs[i]) := fun N => rd1_old hrd
  have hlt := hs i hi
  obtain ⟨x, hx⟩ : ∃ x : Int, x = xs[i] := ⟨_, rfl⟩
  rw [← hx] at hrd' hlt
  have hxi : (xs : List Int)[i]? = some x := by rw [hx]; simp [hi]
  have e6 : IntKind.i64.wrap ((i : Int) + 1) = i + 1 := wrap_i64 (by omega) (by omega)
  have e7 : IntKind.i64.wrap ((n : Int) + i) = n + i := wrap_i64 (by omega) (by omega)
  have l1 := fillC_len (coordI n xs) xs.length i (by omega)
  have l2 := ownC_len n xs i
  have e5 : i + 1 ≤ xs.length := by omega
  have e3 := fillC_set (coordI n xs) xs.length i hi
  by_cases hx0 : x < 0
  · have ec : coordI n xs i = n + i := by unfold coordI; rw [hxi]; exact if_pos hx0
    rw [ec] at e3
    unfold splice at e3
    simp at e3
    have hx0' : ¬ (0 ≤ x) := Int.not_le.2 hx0
    rw [ownC_same n xs i x hxi hx0]
    rw [S_impl_coords_1]; unfold B_impl_coords_1; simp [hrd', e6, e7, hi, l1, l2, e5, e3, hx0']
  · obtain ⟨d, rfl⟩ : ∃ d : Nat, x = d := ⟨x.toNat, by omega⟩
    have hlt2 : (d : Int) < (n : Int) := hlt
    have hd : d < n := by omega
    have ec : coordI n xs i = lastAt n xs d i := by unfold coordI; rw [hxi]; exact if_neg hx0
    have g1 := ownC_get n xs i d hd
    have g1b : ∀ hh : d < (ownC n xs i).length, (ownC n xs i)[d] = .int .i64 (lastAt n xs d i) := fun hh => by rw [List.getElem?_eq_getElem hh] at g1; exact Option.some.inj g1
    have g2 := ownC_set n xs i d hd hxi
    obtain ⟨Z, hZ⟩ : ∃ Z, Z = splice (fillC (coordI n xs) xs.length i) i [.int .i64 (n + i)] := ⟨_, rfl⟩
    have l3 : Z.length = xs.length := by rw [hZ, splice_len _ _ _ (by rw [l1]; simp; omega), l1]
    have e4 : splice Z i [.int .i64 (lastAt n xs d i)] = fillC (coordI n xs) xs.length (i + 1) := by
      have q1 := splice_one (cs := fillC (coordI n xs) xs.length i) (o := i) (v := .int .i64 (n + i)) (by rw [l1]; exact hi)
      have q2 := splice_one (cs := fillC (coordI n xs) xs.length i) (o := i) (v := .int .i64 (lastAt n xs d i)) (by rw [l1]; exact hi)
      rw [← e3, ec, q2, hZ, q1, splice_one (by rw [List.length_set, l1]; exact hi), List.set_set]
    have e4' := hZ.symm
    unfold splice at e4 e4' g2
    simp at e4 e4' g2
    have e8 : d + 1 ≤ n := by omega
    rw [S_impl_coords_1]; unfold B_impl_coords_1; simp [hrd', e6, e7, hi, l1, l2, l3, e5, e4, e4', g1b, g2, hd, e8]
theorem fillC_own (n : Nat) (xs : List Int) : fillC (fun d => d) n n = ownC n xs 0 := by
  rw [fillC_full]
  rfl
theorem c_impl_coords (M : Mem) (n : Nat) (v : V) (xs : List ty_Int.D) (h : Rep (.sl ty_Int) M [v] xs) (hn : n ≤ 256) (hl : xs.length ≤ 700) (hs : ∀ i (hi : i < xs.length), (xs[i] : Int) < n) :
    aCall T0 F_impl_coords [.int .i64 n, v] M = some (.slice (some ⟨M.length + 1, 0, none⟩) xs.length xs.length, M ++ [⟨ownC n xs xs.length, 1, 2⟩, ⟨(List.range xs.length).map fun j => .int .i64 (coordI n xs j), 1, 2⟩]) := by
  obtain ⟨a, c, rfl⟩ := h.slen
  have h0 := chain (g := fun i : Nat => lp (aCall T0) K_impl_coords_0 L_impl_coords_0 [.int .i64 n, .slice a xs.length c, und, und, und, .slice (some ⟨M.length, 0, none⟩) n n, und, und, und, und, und, und, und, .int .i64 n, .int .i64 i, und, und, und, und, und, und, und, und, und, und, und, und, und, und, und, und, und, und, und, und, und, und, und, und, und, und, und, und, und, und, und, und, und, und, und, und, und, und, und, und] (M ++ [⟨fillC (fun d => d) n i, 1, 2⟩])) (n := n) fun i hi => r_impl_coords_0 M n _ hn i hi
  have h1 := chain (g := fun i : Nat => lp (aCall T0) K_impl_coords_1 L_impl_coords_1 [.int .i64 n, und, und, und, und, .slice (some ⟨M.length, 0, none⟩) n n, und, .slice (some ⟨M.length + 1, 0, none⟩) xs.length xs.length, und, und, und, und, und, und, und, und, und, und, und, und, und, und, und, und, und, .slice a xs.length c, .int .i64 xs.length, .int .i64 i, und, und, und, und, und, und, und, und, und, und, und, und, und, und, und, und, und, und, und, und, und, und, und, und, und, und, und] (M ++ [⟨ownC n xs i, 1, 2⟩, ⟨fillC (coordI n xs) xs.length i, 1, 2⟩])) (n := xs.length) fun i hi => r_impl_coords_1 M n a c xs h hn hl hs i hi
  simp only [Int.natCast_zero, Int.ofNat_zero, fillC_zero, fillC_own n xs, fillC_full] at h0 h1
  have e1 : (n : Int) * 8 ≤ 281474976710656 := by omega
  have e2 : (n : Int) ≤ 9223372036854775807 := by omega
  have e3 : (xs.length : Int) * 8 ≤ 281474976710656 := by omega
  have e4 : (xs.length : Int) ≤ 9223372036854775807 := by omega
  rw [aCall_eq T_impl_coords]; unfold A_impl_coords C_impl_coords; simp [e1, e2, e3, e4, h0]
  rw [S_impl_coords_0]; unfold B_impl_coords_0; simp [e1, e2, e3, e4, h1]
  rw [S_impl_coords_1]; unfold B_impl_coords_1; simp
theorem seqB_parts {n : Int} {xs : List Int} (h : seqB n xs = true) : (0 ≤ n ∧ n ≤ 256) ∧ xs.length ≤ 700 ∧ ∀ i (hi : i < xs.length), -1 ≤ xs[i] ∧ xs[i] < n := by
  simp only [seqB, Bool.and_eq_true, decide_eq_true_eq] at h
  obtain ⟨h1, h2, h3⟩ := h
  refine ⟨h1, by omega, fun i hi => ?_⟩
  have := all_at h3 hi
  simp only [idB, Bool.and_eq_true, decide_eq_true_eq] at this
  omega
theorem c_impl_areDraws_1 (M : Mem) (x : Int) : aCall T0 F_impl_areDraws_1 [.int .i64 x] M = some (.bool (!drB x), M) := by
  unfold drB
  rw [aCall_eq T_impl_areDraws_1]; unfold A_impl_areDraws_1 C_impl_areDraws_1; simp [c_impl_within]
theorem c_impl_areDraws (M : Mem) (v : V) (ds : List Int) (h : Rep (.sl ty_Int) M [v] ds) (hl : ds.length ≤ 9223372036854775807) (k : Int) : aCall T0 F_impl_areDraws [v, .int .i64 k] M = some (.bool (drsB k ds), M) := by
  have e : aCall T0 F_slices_ContainsFunc_int_int [v, .func (.func F_impl_areDraws_1) #[] #[]] M = _ := c_any_Int M v ds h hl F_impl_areDraws_1 [] (fun x => !drB x) (fun i hi => c_impl_areDraws_1 M ds[i])
  obtain ⟨a, c, rfl⟩ := h.slen
  have e2 : ds.all drB = !ds.any (fun x => !drB x) := by simp [List.any_eq_not_all_not]
  unfold drsB
  rw [e2]
  by_cases hk : (ds.length : Int) = k
  · subst hk
    rw [aCall_eq T_impl_areDraws]; unfold A_impl_areDraws C_impl_areDraws; simp [e]
  · rw [aCall_eq T_impl_areDraws]; unfold A_impl_areDraws C_impl_areDraws; simp [hk]
def arrC (N : Nat) (f : Nat → Int) : List V := (List.range N).map fun t => .int .i64 (f t)
def bolC (N : Nat) (f : Nat → Bool) : List V := (List.range N).map fun t => .bool (f t)
theorem usB_iff (us : Nat → Nat) (k t : Nat) : usB us k t = true ↔ ∃ i, i < k ∧ us i = t := by
  induction k with
  | zero => simp [usB]
  | succ k ih =>
    simp only [usB, upF]
    by_cases e : t = us k
    · rw [if_pos e]
      exact ⟨fun _ => ⟨k, by omega, e.symm⟩, fun _ => rfl⟩
    · rw [if_neg e, ih]
      constructor
      · rintro ⟨i, h1, h2⟩; exact ⟨i, by omega, h2⟩
      · rintro ⟨i, h1, h2⟩
        refine ⟨i, ?_, h2⟩
        rcases Nat.lt_or_ge i k with h | h
        · exact h
        · exact absurd (by rw [← h2, show i = k by omega]) e
theorem free_count (us : Nat → Nat) (N : Nat) : ∀ k, (∀ i, i < k → us i < N) → (∀ i j, i < j → j < k → us i ≠ us j) → (freeL us k N).length + k = N := by
  intro k
  induction k with
  | zero =>
    intro _ _
    unfold freeL usB
    rw [List.filter_eq_self.2 (by simp)]
    simp
  | succ k ih =>
    intro h1 h2
    have ih := ih (fun i hi => h1 i (by omega)) (fun i j hij hj => h2 i j hij (by omega))
    have hf : usB us k (us k) = false := by
      cases h : usB us k (us k) with
      | false => rfl
      | true =>
        obtain ⟨i, q1, q2⟩ := (usB_iff us k (us k)).1 h
        exact absurd q2 (h2 i k q1 (by omega))
    have hmem : us k ∈ freeL us k N := by
      unfold freeL
      rw [List.mem_filter]
      exact ⟨List.mem_range.2 (h1 k (by omega)), by simp [hf]⟩
    have hnd : (freeL us k N).Nodup := List.Pairwise.filter _ List.nodup_range
    have e : freeL us (k + 1) N = (freeL us k N).erase (us k) := by
      rw [List.Nodup.erase_eq_filter hnd]
      unfold freeL
      rw [List.filter_filter]
      apply List.filter_congr
      intro t _
      simp only [usB, upF]
      by_cases q : t = us k
      · simp [q]
      · simp [q]
    rw [e, List.length_erase_of_mem hmem]
    have := List.length_pos_of_mem hmem
    omega
theorem lastAt_lt {n : Int} {xs : List Int} {x : Int} (hx : 0 ≤ x ∧ x < n) : ∀ j, 0 ≤ lastAt n xs x j ∧ lastAt n xs x j < n + j
  | 0 => by unfold lastAt; omega
  | j + 1 => by
    have := lastAt_lt (xs := xs) hx j
    unfold lastAt
    split <;> omega
theorem lastAt_spec (n : Int) (xs : List Int) (x : Int) : ∀ j, (∃ i, i < j ∧ xs[i]? = some x ∧ (∀ t, i < t → t < j → xs[t]? ≠ some x) ∧ lastAt n xs x j = n + i) ∨ ((∀ t, t < j → xs[t]? ≠ some x) ∧ lastAt n xs x j = x)
  | 0 => .inr ⟨fun t ht => by omega, rfl⟩
  | j + 1 => by
    by_cases h : xs[j]? = some x
    · left
      refine ⟨j, by omega, h, fun t h1 h2 => by omega, ?_⟩
      unfold lastAt
      rw [if_pos h]
    · have e : lastAt n xs x (j + 1) = lastAt n xs x j := by
        rw [lastAt, if_neg h]
      rw [e]
      rcases lastAt_spec n xs x j with ⟨i, h1, h2, h3, h4⟩ | ⟨h1, h2⟩
      · left
        refine ⟨i, by omega, h2, fun t q1 q2 => ?_, h4⟩
        by_cases q : t = j
        · subst q; exact h
        · exact h3 t q1 (by omega)
      · right
        refine ⟨fun t q => ?_, h2⟩
        by_cases q2 : t = j
        · subst q2; exact h
        · exact h1 t (by omega)
theorem coord_inj {n : Nat} {xs : List Int} (hs : ∀ i (hi : i < xs.length), xs[i] < (n : Int)) {i j : Nat} (hij : i < j) (hj : j < xs.length) : coordI n xs i ≠ coordI n xs j := by
  have hi : i < xs.length := by omega
  have h1 := hs i hi
  have h2 := hs j hj
  have ei : coordI n xs i = if xs[i] < 0 then (n : Int) + i else lastAt n xs xs[i] i := by unfold coordI; rw [List.getElem?_eq_getElem hi]
  have ej : coordI n xs j = if xs[j] < 0 then (n : Int) + j else lastAt n xs xs[j] j := by unfold coordI; rw [List.getElem?_eq_getElem hj]
  have gi : xs[i]? = some xs[i] := List.getElem?_eq_getElem hi
  rw [ei, ej]
  by_cases hj0 : xs[j] < 0
  · rw [if_pos hj0]
    split
    · omega
    · have := lastAt_lt (n := (n : Int)) (xs := xs) (x := xs[i]) (by omega) i
      omega
  · rw [if_neg hj0]
    rcases lastAt_spec n xs xs[j] j with ⟨j', q1, q2, q3, q4⟩ | ⟨q1, q2⟩
    · rw [q4]
      split
      · rename_i hi0
        intro e
        have : i = j' := by omega
        subst this
        rw [gi] at q2
        have := Option.some.inj q2
        omega
      · rename_i hi0
        rcases lastAt_spec n xs xs[i] i with ⟨i', p1, p2, p3, p4⟩ | ⟨p1, p2⟩
        · rw [p4]
          intro e
          have : i' = j' := by omega
          subst this
          rw [p2] at q2
          have e2 : xs[i] = xs[j] := Option.some.inj q2
          exact q3 i (by omega) hij (by rw [gi, e2])
        · rw [p2]; omega
    · rw [q2]
      split
      · omega
      · rename_i hi0
        rcases lastAt_spec n xs xs[i] i with ⟨i', p1, p2, p3, p4⟩ | ⟨p1, p2⟩
        · rw [p4]; omega
        · rw [p2]
          intro e
          exact q1 i hij (by rw [gi, e])
theorem coordI_lt {n : Int} {xs : List Int} (hn : 0 ≤ n) (hs : ∀ i (hi : i < xs.length), xs[i] < n) {i : Nat} (hi : i < xs.length) : 0 ≤ coordI n xs i ∧ coordI n xs i ≤ n + i := by
  unfold coordI
  rw [List.getElem?_eq_getElem hi]
  simp only
  have h1 := hs i hi
  split
  · omega
  · have := lastAt_lt (n := n) (xs := xs) (x := xs[i]) (by omega) i
    omega
theorem co_val {n : Nat} {xs : List Int} (hs : ∀ i (hi : i < xs.length), xs[i] < (n : Int)) {i : Nat} (hi : i < xs.length) : coordI n xs i = (co n xs i : Nat) ∧ co n xs i < n + xs.length := by
  have := coordI_lt (n := (n : Int)) (by omega) hs hi
  unfold co
  omega
theorem arr_pair (n : Nat) (a b ds : List Int) : arrC ds.length (pairF n a b ds) = (pairL n a b ds).map fun x => .int .i64 x := by simp [arrC, pairL]
theorem wf_range {z : Int} (h : -9223372036854775808 ≤ z ∧ z ≤ 9223372036854775807) : (Lit.int .i64 z).wf = true := by
  simp [Lit.wf, IntKind.min, IntKind.max, IntKind.signed, IntKind.bits]; omega
theorem upF_range {f : Nat → Int} {d : Nat} {x lo hi : Int} (h : ∀ t, lo ≤ f t ∧ f t ≤ hi) (hx : lo ≤ x ∧ x ≤ hi) : ∀ t, lo ≤ upF f d x t ∧ upF f d x t ≤ hi := by
  intro t
  unfold upF
  split
  · exact hx
  · exact h t
theorem draw_range {ds : List Int} (h : ∀ x ∈ ds, 0 ≤ x ∧ x ≤ 65535) (z : Int) : 0 ≤ drawAt ds z ∧ drawAt ds z ≤ 65535 := by
  unfold drawAt
  cases e : ds[z.toNat]? with
  | none => simp
  | some y => exact h y (List.mem_of_getElem? e)
theorem pairL_wf {n : Nat} {a b ds : List Int} (h : ∀ x ∈ ds, 0 ≤ x ∧ x ≤ 65535) : ∀ y ∈ pairL n a b ds, (Lit.int .i64 y).wf = true := by
  intro y hy
  obtain ⟨t, _, rfl⟩ := List.mem_map.1 hy
  have hA : ∀ i t, 0 ≤ wrA (co n a) (co n b) ds i t ∧ wrA (co n a) (co n b) ds i t ≤ 65535 := by
    intro i
    induction i with
    | zero => intro t; simp [wrA]
    | succ i ih => exact upF_range ih (draw_range h _)
  have hB : ∀ j t, 0 ≤ wrB (co n a) (co n b) ds a.length ds.length j t ∧ wrB (co n a) (co n b) ds a.length ds.length j t ≤ 65535 := by
    intro j
    induction j with
    | zero => exact hA _
    | succ j ih => exact upF_range ih (draw_range h _)
  have := hB (freeL (co n a) a.length ds.length).length t
  exact wf_range (by unfold pairF; omega)
def intC (f : Nat → Nat) (k : Nat) : List V := (List.range k).map fun t => .int .i64 (f t)
theorem drawAt_get {ds : List Int} {z : Int} (h0 : 0 ≤ z) (h : z < ds.length) : drawAt ds z = ds[z.toNat]'(by omega) := by
  unfold drawAt
  rw [List.getElem?_eq_getElem (by omega)]
  rfl
theorem rd_draw {M : Mem} {a : Option Addr} {c : Nat} {ds : List Int} (h : Rep (.sl ty_Int) M [.slice a ds.length c] ds) {z : Int} (h0 : 0 ≤ z) (h1 : z < ds.length) : ∃ l o, a = some ⟨l, o, none⟩ ∧ rd1 M l (o + z.toNat) = some (.int .i64 (drawAt ds z)) := by
  obtain ⟨l, o, rfl, _, hrd⟩ := at_Int h (i := z.toNat) (by omega)
  exact ⟨l, o, rfl, by rw [drawAt_get h0 h1]; exact hrd⟩
theorem arrC_len (N : Nat) (f : Nat → Int) : (arrC N f).length = N := by simp [arrC]
theorem arrC_set (N : Nat) (f : Nat → Int) (d : Nat) (x : Int) (h : d < N) : (arrC N f).set d (.int .i64 x) = arrC N (upF f d x) := by
  apply List.ext_getElem?
  intro j
  rw [List.getElem?_set]
  by_cases e : d = j
  · subst e; simp [arrC, h, upF]
  · rw [if_neg e]
    simp only [arrC, List.getElem?_map]
    by_cases hj : j < N
    · simp only [List.getElem?_range hj, Option.map_some, upF]
      rw [if_neg (fun q => e q.symm)]
    · rw [List.getElem?_eq_none (by simp; omega)]
      simp
theorem bolC_len (N : Nat) (f : Nat → Bool) : (bolC N f).length = N := by simp [bolC]
theorem bolC_set (N : Nat) (f : Nat → Bool) (d : Nat) (x : Bool) (h : d < N) : (bolC N f).set d (.bool x) = bolC N (upF f d x) := by
  apply List.ext_getElem?
  intro j
  rw [List.getElem?_set]
  by_cases e : d = j
  · subst e; simp [bolC, h, upF]
  · rw [if_neg e]
    simp only [bolC, List.getElem?_map]
    by_cases hj : j < N
    · simp only [List.getElem?_range hj, Option.map_some, upF]
      rw [if_neg (fun q => e q.symm)]
    · rw [List.getElem?_eq_none (by simp; omega)]
      simp
theorem intC_get (f : Nat → Nat) (k i : Nat) (h : i < k) : (intC f k)[i]? = some (.int .i64 (f i)) := by simp [intC, h]
theorem intC_len (f : Nat → Nat) (k : Nat) : (intC f k).length = k := by simp [intC]
theorem some_getElem {α : Type} {l : List α} {i : Nat} {x : α} (h : l[i]? = some x) : ∀ hh : i < l.length, l[i] = x := fun hh => by rw [List.getElem?_eq_getElem hh] at h; exact Option.some.inj h
theorem r_impl_PairDraws_0 (M : Mem) (O1 O2 : Blk) (N k : Nat) (a : Option Addr) (c : Nat) (ds : List Int) (hd : Rep (.sl ty_Int) M [.slice a ds.length c] ds) (hN : ds.length = N) (hk : k ≤ 700) (us vs : Nat → Nat) (hu : ∀ i, i < k → us i < N) (hv : ∀ i, i < k → vs i < N) (hNs : N ≤ 1048576) (i : Nat) (hi : i < k) :
    lp (aCall T0) K_impl_PairDraws_0 L_impl_PairDraws_0 [und, und, und, .slice a ds.length c, und, und, und, und, und, und, .slice (some ⟨M.length, 0, none⟩) N N, .slice (some ⟨M.length + 1, 0, none⟩) N N, .slice (some ⟨M.length + 2, 0, none⟩) N N, .slice (some ⟨M.length + 4, 0, none⟩) k k, .slice (some ⟨M.length + 6, 0, none⟩) k k, und, und, und, und, und, und, und, und, und, und, und, und, und, und, und, und, und, und, und, und, und, und, und, und, und, und, und, und, und, und, und, und, und, und, und, und, und, und, und, und, und, und, und, und, und, .int .i64 k, .int .i64 i, und, und, und, und, und, und, und, und, und, und, und, und, und, und, und, und, und, und, und, und, und, und, und, und, und, und, und, und, und, und, und, und, und, und, und, und, und, und, und, und, und, und, und, und, und, und, und, und, und, und, und, und, und, und] (M ++ [⟨arrC N (wrA us vs ds i), 1, 2⟩, ⟨bolC N (usB us i), 1, 2⟩, ⟨bolC N (usB vs i), 1, 2⟩, O1, ⟨intC us k, 1, 2⟩, O2, ⟨intC vs k, 1, 2⟩]) =
    lp (aCall T0) K_impl_PairDraws_0 L_impl_PairDraws_0 [und, und, und, .slice a ds.length c, und, und, und, und, und, und, .slice (some ⟨M.length, 0, none⟩) N N, .slice (some ⟨M.length + 1, 0, none⟩) N N, .slice (some ⟨M.length + 2, 0, none⟩) N N, .slice (some ⟨M.length + 4, 0, none⟩) k k, .slice (some ⟨M.length + 6, 0, none⟩) k k, und, und, und, und, und, und, und, und, und, und, und, und, und, und, und, und, und, und, und, und, und, und, und, und, und, und, und, und, und, und, und, und, und, und, und, und, und, und, und, und, und, und, und, und, und, .int .i64 k, .int .i64 (i + 1 : Nat), und, und, und, und, und, und, und, und, und, und, und, und, und, und, und, und, und, und, und, und, und, und, und, und, und, und, und, und, und, und, und, und, und, und, und, und, und, und, und, und, und, und, und, und, und, und, und, und, und, und, und, und, und, und] (M ++ [⟨arrC N (wrA us vs ds (i + 1)), 1, 2⟩, ⟨bolC N (usB us (i + 1)), 1, 2⟩, ⟨bolC N (usB vs (i + 1)), 1, 2⟩, O1, ⟨intC us k, 1, 2⟩, O2, ⟨intC vs k, 1, 2⟩]) := by
  have h1 := hu i hi
  have h2 := hv i hi
  have e6 : IntKind.i64.wrap ((i : Int) + 1) = i + 1 := wrap_i64 (by omega) (by omega)
  have g1 := some_getElem (intC_get us k i hi)
  have g2 := some_getElem (intC_get vs k i hi)
  have gl1 := intC_len us k
  have gl2 := intC_len vs k
  obtain ⟨l, o, rfl, hrd⟩ := rd_draw hd (z := (us i : Int)) (by omega) (by omega)
  have hrd' : ∀ X, rd1 (M ++ X) l (o + us i) = some (.int .i64 (drawAt ds (us i))) := fun X => rd1_old hrd
  have s1 : splice (arrC N (wrA us vs ds i)) (vs i) [.int .i64 (drawAt ds (us i))] = arrC N (wrA us vs ds (i + 1)) := by
    rw [splice_one (by rw [arrC_len]; exact h2), arrC_set _ _ _ _ h2]; rfl
  have s2 : splice (bolC N (usB us i)) (us i) [.bool true] = bolC N (usB us (i + 1)) := by
    rw [splice_one (by rw [bolC_len]; exact h1), bolC_set _ _ _ _ h1]; rfl
  have s3 : splice (bolC N (usB vs i)) (vs i) [.bool true] = bolC N (usB vs (i + 1)) := by
    rw [splice_one (by rw [bolC_len]; exact h2), bolC_set _ _ _ _ h2]; rfl
  have w1 := arrC_len N (wrA us vs ds i)
  have w2 := bolC_len N (usB us i)
  have w3 := bolC_len N (usB vs i)
  have v1 : us i + 1 ≤ N := h1
  have v2 : vs i + 1 ≤ N := h2
  have q1 : us i < ds.length := by omega
  unfold splice at s1 s2 s3
  simp at s1 s2 s3
  rw [S_impl_PairDraws_0]; unfold B_impl_PairDraws_0; simp [hi, e6, g1, g2, gl1, gl2, h1, h2, hrd', s1, s2, s3, w1, w2, w3, v1, v2, q1]
theorem freeL_at (us : Nat → Nat) (k N i : Nat) (hi : i < N) (hf : usB us k i = false) : (freeL us k N)[(freeL us k i).length]? = some i := by
  unfold freeL
  have e : List.range N = List.range i ++ i :: (List.range (N - i - 1)).map (fun t => i + 1 + t) := by
    apply List.ext_getElem (by simp; omega)
    intro j h1 h2
    simp only [List.getElem_range]
    by_cases hj : j < i
    · rw [List.getElem_append_left (by simpa using hj)]; simp
    · rw [List.getElem_append_right (by simp; omega)]
      simp only [List.length_range]
      by_cases hj2 : j = i
      · subst hj2; simp
      · obtain ⟨d, rfl⟩ : ∃ d, j = i + 1 + d := ⟨j - i - 1, by omega⟩
        simp only [show i + 1 + d - i = d + 1 by omega, List.getElem_cons_succ, List.getElem_map, List.getElem_range]
  rw [e, List.filter_append, List.filter_cons, if_pos (by simp [hf]), List.getElem?_append_right (Nat.le_refl _)]
  simp
theorem freeL_succ (us : Nat → Nat) (k i : Nat) : (freeL us k (i + 1)).length = (freeL us k i).length + (if usB us k i then 0 else 1) := by
  unfold freeL
  rw [List.range_succ, List.filter_append, List.length_append]
  cases h : usB us k i <;> simp [h]
theorem freeL_mono (us : Nat → Nat) (k i : Nat) : ∀ j, i ≤ j → (freeL us k i).length ≤ (freeL us k j).length := by
  intro j hij
  induction hij with
  | refl => exact Nat.le_refl _
  | step _ ih => rw [freeL_succ]; omega
theorem bolC_get (N : Nat) (f : Nat → Bool) (d : Nat) (h : d < N) : (bolC N f)[d]? = some (.bool (f d)) := by simp [bolC, h]
theorem r_impl_PairDraws_1s (M R : Mem) (a : Option Addr) (c : Nat) (ds : List Int) (N : Nat) (g : Nat → Int) (F T : Nat → Bool) (hNs : N ≤ 1048576) (at0 i : Nat) (hi : i < N) (hT : T i = true) :
    lp (aCall T0) K_impl_PairDraws_1 L_impl_PairDraws_1 [und, und, und, .slice a ds.length c, und, und, und, und, und, und, .slice (some ⟨M.length, 0, none⟩) N N, .slice (some ⟨M.length + 1, 0, none⟩) N N, .slice (some ⟨M.length + 2, 0, none⟩) N N, und, und, und, .int .i64 at0, und, und, und, und, und, und, und, und, und, und, und, und, und, und, und, und, und, und, und, und, und, und, und, und, und, und, und, und, und, und, und, und, und, und, und, und, und, und, und, und, und, und, und, und, und, und, und, und, und, und, und, und, und, und, und, und, und, und, und, und, und, und, und, und, und, und, und, und, und, und, und, und, und, und, .int .i64 N, .int .i64 i, und, und, und, und, und, und, und, und, und, und, und, und, und, und, und, und, und, und, und, und, und, und, und] (M ++ ⟨arrC N g, 1, 2⟩ :: ⟨bolC N F, 1, 2⟩ :: ⟨bolC N T, 1, 2⟩ :: R) =
    lp (aCall T0) K_impl_PairDraws_1 L_impl_PairDraws_1 [und, und, und, .slice a ds.length c, und, und, und, und, und, und, .slice (some ⟨M.length, 0, none⟩) N N, .slice (some ⟨M.length + 1, 0, none⟩) N N, .slice (some ⟨M.length + 2, 0, none⟩) N N, und, und, und, .int .i64 at0, und, und, und, und, und, und, und, und, und, und, und, und, und, und, und, und, und, und, und, und, und, und, und, und, und, und, und, und, und, und, und, und, und, und, und, und, und, und, und, und, und, und, und, und, und, und, und, und, und, und, und, und, und, und, und, und, und, und, und, und, und, und, und, und, und, und, und, und, und, und, und, und, und, und, .int .i64 N, .int .i64 (i + 1 : Nat), und, und, und, und, und, und, und, und, und, und, und, und, und, und, und, und, und, und, und, und, und, und, und] (M ++ ⟨arrC N g, 1, 2⟩ :: ⟨bolC N F, 1, 2⟩ :: ⟨bolC N T, 1, 2⟩ :: R) := by
  have e6 : IntKind.i64.wrap ((i : Int) + 1) = i + 1 := wrap_i64 (by omega) (by omega)
  have g1 := some_getElem (bolC_get N T i hi)
  rw [hT] at g1
  have gl := bolC_len N T
  rw [S_impl_PairDraws_1]; unfold B_impl_PairDraws_1; simp [hi, e6, g1, gl]
theorem r_impl_PairDraws_2 (M : Mem) (l3 : V) (N : Nat) (lo lt : Nat) (lf i tn : Nat) (f : Nat → Bool) (hb : M[lf]? = some ⟨bolC N f, 1, 2⟩) (hN : N ≤ 1048576) (p : Nat) (hp : p < N) (hf : f p = true) :
    lp (aCall T0) K_impl_PairDraws_2 L_impl_PairDraws_2 [und, und, und, l3, und, und, und, und, und, und, .slice (some ⟨lo, 0, none⟩) N N, .slice (some ⟨lf, 0, none⟩) N N, .slice (some ⟨lt, 0, none⟩) N N, und, und, und, .int .i64 p, .int .i64 i, und, und, und, und, und, und, und, und, und, und, und, und, und, und, und, und, und, und, und, und, und, und, und, und, und, und, und, und, und, und, und, und, und, und, und, und, und, und, und, und, und, und, und, und, und, und, und, und, und, und, und, und, und, und, und, und, und, und, und, und, und, und, und, und, und, und, und, und, und, und, und, und, und, .int .i64 tn, .int .i64 i, und, und, und, und, und, und, und, und, und, und, und, und, und, und, und, und, und, und, und, und, und, und, und] M =
    lp (aCall T0) K_impl_PairDraws_2 L_impl_PairDraws_2 [und, und, und, l3, und, und, und, und, und, und, .slice (some ⟨lo, 0, none⟩) N N, .slice (some ⟨lf, 0, none⟩) N N, .slice (some ⟨lt, 0, none⟩) N N, und, und, und, .int .i64 (p + 1 : Nat), .int .i64 i, und, und, und, und, und, und, und, und, und, und, und, und, und, und, und, und, und, und, und, und, und, und, und, und, und, und, und, und, und, und, und, und, und, und, und, und, und, und, und, und, und, und, und, und, und, und, und, und, und, und, und, und, und, und, und, und, und, und, und, und, und, und, und, und, und, und, und, und, und, und, und, und, und, .int .i64 tn, .int .i64 i, und, und, und, und, und, und, und, und, und, und, und, und, und, und, und, und, und, und, und, und, und, und, und] M := by
  have e6 : IntKind.i64.wrap ((p : Int) + 1) = p + 1 := wrap_i64 (by omega) (by omega)
  have r1 : rd1 M lf p = some (.bool (f p)) := by
    unfold rd1
    rw [hb]
    simp only [or_true, if_true]
    exact bolC_get N f p hp
  rw [hf] at r1
  rw [S_impl_PairDraws_2]; unfold B_impl_PairDraws_2; simp [r1, e6, hp]
theorem r_impl_PairDraws_1w (M R : Mem) (a : Option Addr) (c : Nat) (ds : List Int) (hd : Rep (.sl ty_Int) M [.slice a ds.length c] ds) (N : Nat) (hN : ds.length = N) (g : Nat → Int) (F T : Nat → Bool) (hNs : N ≤ 1048576) (at0 p i : Nat) (hi : i < N) (hT : T i = false) (h1 : at0 ≤ p) (hp : p < N) (h2 : ∀ t, at0 ≤ t → t < p → F t = true) (h3 : F p = false) :
    lp (aCall T0) K_impl_PairDraws_1 L_impl_PairDraws_1 [und, und, und, .slice a ds.length c, und, und, und, und, und, und, .slice (some ⟨M.length, 0, none⟩) N N, .slice (some ⟨M.length + 1, 0, none⟩) N N, .slice (some ⟨M.length + 2, 0, none⟩) N N, und, und, und, .int .i64 at0, und, und, und, und, und, und, und, und, und, und, und, und, und, und, und, und, und, und, und, und, und, und, und, und, und, und, und, und, und, und, und, und, und, und, und, und, und, und, und, und, und, und, und, und, und, und, und, und, und, und, und, und, und, und, und, und, und, und, und, und, und, und, und, und, und, und, und, und, und, und, und, und, und, und, .int .i64 N, .int .i64 i, und, und, und, und, und, und, und, und, und, und, und, und, und, und, und, und, und, und, und, und, und, und, und] (M ++ ⟨arrC N g, 1, 2⟩ :: ⟨bolC N F, 1, 2⟩ :: ⟨bolC N T, 1, 2⟩ :: R) =
    lp (aCall T0) K_impl_PairDraws_1 L_impl_PairDraws_1 [und, und, und, .slice a ds.length c, und, und, und, und, und, und, .slice (some ⟨M.length, 0, none⟩) N N, .slice (some ⟨M.length + 1, 0, none⟩) N N, .slice (some ⟨M.length + 2, 0, none⟩) N N, und, und, und, .int .i64 (p + 1 : Nat), und, und, und, und, und, und, und, und, und, und, und, und, und, und, und, und, und, und, und, und, und, und, und, und, und, und, und, und, und, und, und, und, und, und, und, und, und, und, und, und, und, und, und, und, und, und, und, und, und, und, und, und, und, und, und, und, und, und, und, und, und, und, und, und, und, und, und, und, und, und, und, und, und, und, .int .i64 N, .int .i64 (i + 1 : Nat), und, und, und, und, und, und, und, und, und, und, und, und, und, und, und, und, und, und, und, und, und, und, und] (M ++ ⟨arrC N (upF g i (drawAt ds p)), 1, 2⟩ :: ⟨bolC N F, 1, 2⟩ :: ⟨bolC N T, 1, 2⟩ :: R) := by
  have e6 : IntKind.i64.wrap ((i : Int) + 1) = i + 1 := wrap_i64 (by omega) (by omega)
  have e7 : IntKind.i64.wrap ((p : Int) + 1) = p + 1 := wrap_i64 (by omega) (by omega)
  have g1 := some_getElem (bolC_get N T i hi)
  rw [hT] at g1
  have gl := bolC_len N T
  have g2 := some_getElem (bolC_get N F p hp)
  rw [h3] at g2
  have gl2 := bolC_len N F
  have hin := chain (g := fun j : Nat => lp (aCall T0) K_impl_PairDraws_2 L_impl_PairDraws_2 [und, und, und, .slice a ds.length c, und, und, und, und, und, und, .slice (some ⟨M.length, 0, none⟩) N N, .slice (some ⟨M.length + 1, 0, none⟩) N N, .slice (some ⟨M.length + 2, 0, none⟩) N N, und, und, und, .int .i64 (at0 + j : Nat), .int .i64 i, und, und, und, und, und, und, und, und, und, und, und, und, und, und, und, und, und, und, und, und, und, und, und, und, und, und, und, und, und, und, und, und, und, und, und, und, und, und, und, und, und, und, und, und, und, und, und, und, und, und, und, und, und, und, und, und, und, und, und, und, und, und, und, und, und, und, und, und, und, und, und, und, und, .int .i64 N, .int .i64 i, und, und, und, und, und, und, und, und, und, und, und, und, und, und, und, und, und, und, und, und, und, und, und] (M ++ ⟨arrC N g, 1, 2⟩ :: ⟨bolC N F, 1, 2⟩ :: ⟨bolC N T, 1, 2⟩ :: R)) (n := p - at0) fun j hj =>
    r_impl_PairDraws_2 _ _ N M.length (M.length + 2) (M.length + 1) i N F (by simp) hNs (at0 + j) (by omega) (h2 _ (by omega) (by omega))
  simp only [Nat.add_zero, show at0 + (p - at0) = p by omega] at hin
  obtain ⟨l, o, rfl, hrd⟩ := rd_draw hd (z := (p : Int)) (by omega) (by omega)
  have hrd' : ∀ X, rd1 (M ++ X) l (o + p) = some (.int .i64 (drawAt ds p)) := fun X => rd1_old hrd
  have s1 : splice (arrC N g) i [.int .i64 (drawAt ds p)] = arrC N (upF g i (drawAt ds p)) := by
    rw [splice_one (by rw [arrC_len]; exact hi), arrC_set _ _ _ _ hi]
  have w1 := arrC_len N g
  have v1 : i + 1 ≤ N := hi
  have q1 : p < ds.length := by omega
  unfold splice at s1
  simp at s1
  rw [S_impl_PairDraws_1]; unfold B_impl_PairDraws_1; simp [hi, e6, g1, gl, hin]
  rw [S_impl_PairDraws_2]; unfold B_impl_PairDraws_2; simp [hp, g2, gl2, hrd', q1, hi, s1, w1, v1, e6, e7]
theorem freeL_const (us : Nat → Nat) (k a : Nat) : ∀ b, a ≤ b → (∀ t, a ≤ t → t < b → usB us k t = true) → (freeL us k b).length = (freeL us k a).length := by
  intro b hab
  induction hab with
  | refl => intro _; rfl
  | @step b hab ih =>
    intro h
    rw [freeL_succ, h b hab (by omega), ih (fun t h1 h2 => h t h1 (by omega))]
    simp
theorem l_impl_PairDraws_1 (M R : Mem) (a : Option Addr) (c : Nat) (ds : List Int) (hd : Rep (.sl ty_Int) M [.slice a ds.length c] ds) (N k : Nat) (hN : ds.length = N) (us vs : Nat → Nat) (hNs : N ≤ 1048576) (hc : (freeL us k N).length = (freeL vs k N).length) :
    ∀ (d i at0 : Nat), i + d = N → (freeL us k at0).length = (freeL vs k i).length → at0 ≤ N → ∃ at1 : Nat,
    lp (aCall T0) K_impl_PairDraws_1 L_impl_PairDraws_1 [und, und, und, .slice a ds.length c, und, und, und, und, und, und, .slice (some ⟨M.length, 0, none⟩) N N, .slice (some ⟨M.length + 1, 0, none⟩) N N, .slice (some ⟨M.length + 2, 0, none⟩) N N, und, und, und, .int .i64 at0, und, und, und, und, und, und, und, und, und, und, und, und, und, und, und, und, und, und, und, und, und, und, und, und, und, und, und, und, und, und, und, und, und, und, und, und, und, und, und, und, und, und, und, und, und, und, und, und, und, und, und, und, und, und, und, und, und, und, und, und, und, und, und, und, und, und, und, und, und, und, und, und, und, und, .int .i64 N, .int .i64 i, und, und, und, und, und, und, und, und, und, und, und, und, und, und, und, und, und, und, und, und, und, und, und] (M ++ ⟨arrC N (wrB us vs ds k N (freeL vs k i).length), 1, 2⟩ :: ⟨bolC N (usB us k), 1, 2⟩ :: ⟨bolC N (usB vs k), 1, 2⟩ :: R) =
    lp (aCall T0) K_impl_PairDraws_1 L_impl_PairDraws_1 [und, und, und, .slice a ds.length c, und, und, und, und, und, und, .slice (some ⟨M.length, 0, none⟩) N N, .slice (some ⟨M.length + 1, 0, none⟩) N N, .slice (some ⟨M.length + 2, 0, none⟩) N N, und, und, und, .int .i64 at1, und, und, und, und, und, und, und, und, und, und, und, und, und, und, und, und, und, und, und, und, und, und, und, und, und, und, und, und, und, und, und, und, und, und, und, und, und, und, und, und, und, und, und, und, und, und, und, und, und, und, und, und, und, und, und, und, und, und, und, und, und, und, und, und, und, und, und, und, und, und, und, und, und, und, .int .i64 N, .int .i64 N, und, und, und, und, und, und, und, und, und, und, und, und, und, und, und, und, und, und, und, und, und, und, und] (M ++ ⟨arrC N (wrB us vs ds k N (freeL vs k N).length), 1, 2⟩ :: ⟨bolC N (usB us k), 1, 2⟩ :: ⟨bolC N (usB vs k), 1, 2⟩ :: R)
  | 0, i, at0, hi, hr, hat => by
    have e : i = N := by omega
    subst e
    exact ⟨at0, rfl⟩
  | d + 1, i, at0, hi, hr, hat => by
    have hiN : i < N := by omega
    have hsucc := freeL_succ vs k i
    cases hT : usB vs k i with
    | true =>
      rw [hT] at hsucc
      simp only [if_true, Nat.add_zero] at hsucc
      obtain ⟨at1, h1⟩ := l_impl_PairDraws_1 M R a c ds hd N k hN us vs hNs hc d (i + 1) at0 (by omega) (by rw [hsucc]; exact hr) hat
      rw [hsucc] at h1
      exact ⟨at1, by rw [r_impl_PairDraws_1s M R a c ds N _ _ _ hNs at0 i hiN hT, h1]⟩
    | false =>
      rw [hT] at hsucc
      simp only [Bool.false_eq_true, if_false] at hsucc
      have hm := freeL_mono vs k (i + 1) N (by omega)
      rcases first_bad (fun j => usB us k (at0 + j)) (N - at0) with hall | ⟨j, hj, hall, hbad⟩
      · exfalso
        have := freeL_const us k at0 N hat (fun t h1 h2 => by have := hall (t - at0) (by omega); rwa [show at0 + (t - at0) = t by omega] at this)
        omega
      · have hused : ∀ t, at0 ≤ t → t < at0 + j → usB us k t = true := fun t h1 h2 => by have := hall (t - at0) (by omega); rwa [show at0 + (t - at0) = t by omega] at this
        have hcp := freeL_const us k at0 (at0 + j) (by omega) hused
        have hp1 := freeL_at us k N (at0 + j) (by omega) hbad
        have hi1 := freeL_at vs k N i hiN hT
        rw [hcp, hr] at hp1
        have hs2 := freeL_succ us k (at0 + j)
        rw [hbad] at hs2
        simp only [Bool.false_eq_true, if_false] at hs2
        obtain ⟨at1, h1⟩ := l_impl_PairDraws_1 M R a c ds hd N k hN us vs hNs hc d (i + 1) (at0 + j + 1) (by omega) (by omega) (by omega)
        refine ⟨at1, ?_⟩
        rw [r_impl_PairDraws_1w M R a c ds hd N hN _ _ _ hNs at0 (at0 + j) i hiN hT (by omega) (by omega) hused hbad]
        have hw : wrB us vs ds k N (freeL vs k (i + 1)).length = upF (wrB us vs ds k N (freeL vs k i).length) i (drawAt ds ((at0 + j : Nat) : Int)) := by
          rw [hsucc, wrB]
          rw [List.getD_eq_getElem?_getD, List.getD_eq_getElem?_getD, hi1, hp1]
          rfl
        rw [hw] at h1
        exact h1
theorem intC_co {n : Nat} {xs : List Int} (hs : ∀ i (hi : i < xs.length), xs[i] < (n : Int)) : ((List.range xs.length).map fun j => Value.int .i64 (coordI n xs j)) = intC (co n xs) xs.length := by
  unfold intC
  apply List.map_congr_left
  intro j hj
  rw [(co_val hs (by simpa using hj)).1]
theorem arrC_zero (N : Nat) : arrC N (fun _ => 0) = zc (.int .i64 0) N := by
  unfold arrC zc
  rw [List.map_const', List.length_range]
theorem bolC_zero (N : Nat) : bolC N (fun _ => false) = zc (.bool false) N := by
  unfold bolC zc
  rw [List.map_const', List.length_range]
theorem pair_parts {n : Int} {a b ds : List Int} (h : pairOk n a b ds = true) : seqB n a = true ∧ seqB n b = true ∧ a.length = b.length ∧ drsB (n + a.length) ds = true ∧ (ds.length : Int) = n + a.length ∧ ∀ x ∈ ds, 0 ≤ x ∧ x ≤ 65535 := by
  simp only [pairOk, Bool.and_eq_true, decide_eq_true_eq] at h
  obtain ⟨⟨h1, h2⟩, h3, h4⟩ := h
  have h5 := h4
  simp only [drsB, Bool.and_eq_true, decide_eq_true_eq, List.all_eq_true] at h5
  refine ⟨h1, h2, by omega, h4, h5.1, fun x hx => ?_⟩
  have := h5.2 x hx
  simpa [drB] using this
theorem d_impl_PairDraws (M : Mem) (n : Int) (v_a : V) (a : List Int) (h_a : Rep (.sl ty_Int) M [v_a] a) (hn_a : a.length ≤ 1048576) (v_b : V) (b : List Int) (h_b : Rep (.sl ty_Int) M [v_b] b) (hn_b : b.length ≤ 1048576) (v_ds : V) (ds : List Int) (h_ds : Rep (.sl ty_Int) M [v_ds] ds) (hn_ds : ds.length ≤ 1048576) :
    ∃ M' u L, M <+: M' ∧ aCall T0 F_impl_PairDraws [.int .i64 n, v_a, v_b, v_ds] M = some (.tuple #[u, .bool (pairOk n a b ds)], M') ∧ Own (.sl ty_Int) M' [u] (pairR n a b ds) L ∧ ∀ l ∈ L, M.length ≤ l ∧ l < M'.length := by
  have g1 := c_impl_isSeq M n v_a a h_a (by omega)
  have g2 := c_impl_isSeq M n v_b b h_b (by omega)
  have g3 := c_impl_areDraws M v_ds ds h_ds (by omega) (n + a.length)
  unfold pairR
  cases hb : pairOk n a b ds with
  | false =>
    refine ⟨M, .slice none 0 0, [], List.prefix_refl _, ?_, .inl ⟨rfl, rfl, .inl ⟨rfl, rfl⟩⟩, by simp⟩
    simp only [pairOk] at hb
    cases q1 : seqB n a with
    | false =>
      obtain ⟨_, _, rfl⟩ := h_a.slen
      obtain ⟨_, _, rfl⟩ := h_b.slen
      rw [aCall_eq T_impl_PairDraws]; unfold A_impl_PairDraws C_impl_PairDraws; simp [g1, q1]
    | true =>
      have hsq := seqB_parts q1
      have w1 : IntKind.i64.wrap (n + (a.length : Int)) = n + a.length := wrap_i64 (by omega) (by omega)
      obtain ⟨_, _, rfl⟩ := h_a.slen
      obtain ⟨_, _, rfl⟩ := h_b.slen
      cases q2 : seqB n b with
      | false => rw [aCall_eq T_impl_PairDraws]; unfold A_impl_PairDraws C_impl_PairDraws; simp [g1, g2, q1, q2]
      | true =>
        rw [q1, q2, Bool.true_and, Bool.true_and] at hb
        by_cases q3 : (a.length : Int) = b.length
        · rw [decide_eq_true q3, Bool.true_and] at hb
          have q3' : ((a.length : Int) = b.length) = True := eq_true q3
          have q4' : (a.length = b.length) = True := eq_true (by omega)
          rw [aCall_eq T_impl_PairDraws]; unfold A_impl_PairDraws C_impl_PairDraws; simp [g1, g2, g3, q1, q2, q3', q4', w1, hb]
        · have q4 : ¬ a.length = b.length := by omega
          rw [aCall_eq T_impl_PairDraws]; unfold A_impl_PairDraws C_impl_PairDraws; simp [g1, g2, q1, q2, q3, q4]
  | true =>
    obtain ⟨q1, q2, q3, q4, hdl, hdr⟩ := pair_parts hb
    obtain ⟨h1, h2, h3⟩ := seqB_parts q1
    obtain ⟨_, k2, k3⟩ := seqB_parts q2
    have w1 : IntKind.i64.wrap (n + (a.length : Int)) = n + a.length := wrap_i64 (by omega) (by omega)
    obtain ⟨m, rfl⟩ : ∃ m : Nat, n = m := ⟨n.toNat, by omega⟩
    have hsa : ∀ i (hi : i < a.length), a[i] < (m : Int) := fun i hi => (h3 i hi).2
    have hsb : ∀ i (hi : i < b.length), b[i] < (m : Int) := fun i hi => (k3 i hi).2
    have hN : ds.length = m + a.length := by omega
    obtain ⟨N, hNd⟩ : ∃ N, ds.length = N := ⟨_, rfl⟩
    have ca := c_impl_coords (M ++ [⟨zc (.int .i64 0) N, 1, 2⟩, ⟨zc (.bool false) N, 1, 2⟩, ⟨zc (.bool false) N, 1, 2⟩]) m v_a a (h_a.mono (List.prefix_append _ _)) (by omega) h2 hsa
    rw [intC_co hsa] at ca
    have cb := c_impl_coords (M ++ [⟨zc (.int .i64 0) N, 1, 2⟩, ⟨zc (.bool false) N, 1, 2⟩, ⟨zc (.bool false) N, 1, 2⟩, ⟨ownC m a a.length, 1, 2⟩, ⟨intC (co m a) a.length, 1, 2⟩]) m v_b b (h_b.mono (List.prefix_append _ _)) (by omega) k2 hsb
    rw [intC_co hsb] at cb
    simp [Nat.add_assoc] at ca cb
    rw [← q3] at cb
    have hua : ∀ i, i < a.length → co m a i < N := fun i hi => by have := (co_val hsa hi).2; omega
    have hvb : ∀ i, i < a.length → co m b i < N := fun i hi => by have := (co_val hsb (i := i) (by omega)).2; omega
    have ia : ∀ i j, i < j → j < a.length → co m a i ≠ co m a j := fun i j hij hj e => coord_inj hsa hij hj (by rw [(co_val hsa (i := i) (by omega)).1, (co_val hsa hj).1, e])
    have ib : ∀ i j, i < j → j < a.length → co m b i ≠ co m b j := fun i j hij hj e => coord_inj hsb hij (by omega) (by rw [(co_val hsb (i := i) (by omega)).1, (co_val hsb (i := j) (by omega)).1, e])
    have fa := free_count (co m a) N a.length hua ia
    have fb := free_count (co m b) N a.length hvb ib
    obtain ⟨ai, ci, rfl⟩ := h_a.slen
    obtain ⟨bi, di, rfl⟩ := h_b.slen
    obtain ⟨ad, cd, rfl⟩ := h_ds.slen
    have l0 := chain (n := a.length) fun i hi => r_impl_PairDraws_0 M ⟨ownC m a a.length, 1, 2⟩ ⟨ownC m b a.length, 1, 2⟩ N a.length ad cd ds h_ds hNd h2 (co m a) (co m b) hua hvb (by omega) i hi
    obtain ⟨at1, l1⟩ := l_impl_PairDraws_1 M [⟨ownC m a a.length, 1, 2⟩, ⟨intC (co m a) a.length, 1, 2⟩, ⟨ownC m b a.length, 1, 2⟩, ⟨intC (co m b) a.length, 1, 2⟩] ad cd ds h_ds N a.length hNd (co m a) (co m b) (by omega) (by omega) N 0 0 (by omega) rfl (by omega)
    have z0 : (freeL (co m b) a.length 0).length = 0 := rfl
    simp only [Int.natCast_zero, Int.ofNat_zero, wrA, usB, arrC_zero, bolC_zero, z0, wrB] at l0 l1
    have hfin : arrC N (wrB (co m a) (co m b) ds a.length N (freeL (co m b) a.length N).length) = (pairL m a b ds).map fun x => .int .i64 x := by
      rw [← arr_pair, hNd]
      unfold pairF
      rw [hNd, show (freeL (co m b) a.length N).length = (freeL (co m a) a.length N).length by omega]
    rw [hfin] at l1
    obtain ⟨L, o1, o2⟩ := own_block (M := M ++ ⟨(pairL m a b ds).map fun x => .int .i64 x, 1, 2⟩ :: ⟨bolC N (usB (co m a) a.length), 1, 2⟩ :: ⟨bolC N (usB (co m b) a.length), 1, 2⟩ :: [⟨ownC m a a.length, 1, 2⟩, ⟨intC (co m a) a.length, 1, 2⟩, ⟨ownC m b a.length, 1, 2⟩, ⟨intC (co m b) a.length, 1, 2⟩]) (l := M.length) (c := N) (ys := pairL m a b ds) (by simp) (pairL_wf hdr)
    have hlen : (pairL m a b ds).length = N := by simp [pairL, hNd]
    rw [hlen] at o1
    have htn : (m : Int).toNat = m := by omega
    rw [if_pos rfl, htn]
    refine ⟨_, _, L, List.prefix_append _ _, ?_, o1, fun l hl => by rw [o2 l hl]; simp⟩
    have p1 : M ++ [(⟨zc (.int .i64 0) N, 1, 2⟩ : Blk)] <+: M ++ [⟨zc (.int .i64 0) N, 1, 2⟩, ⟨zc (.bool false) N, 1, 2⟩] := ⟨[⟨zc (.bool false) N, 1, 2⟩], by simp⟩
    have p2 : M ++ [(⟨zc (.int .i64 0) N, 1, 2⟩ : Blk), ⟨zc (.bool false) N, 1, 2⟩] <+: M ++ [⟨zc (.int .i64 0) N, 1, 2⟩, ⟨zc (.bool false) N, 1, 2⟩, ⟨zc (.bool false) N, 1, 2⟩] := ⟨[⟨zc (.bool false) N, 1, 2⟩], by simp⟩
    have b1 : (N : Int) * 8 ≤ 281474976710656 := by omega
    have b2 : (N : Int) ≤ 9223372036854775807 := by omega
    have b3 : (N : Int) ≤ 281474976710656 := by omega
    have q3' : ((a.length : Int) = b.length) = True := eq_true (by omega)
    have q4' : (b.length = a.length) = True := eq_true (by omega)
    rw [hNd] at l0 l1
    simp only [hNd] at g3 ⊢
    rw [← q3] at g2 cb ⊢
    rw [aCall_eq T_impl_PairDraws]; unfold A_impl_PairDraws C_impl_PairDraws; simp [g1, g2, g3, q1, q2, q3', q4, w1, b1, b2, b3, p1, p2, thenD_pre, ca, cb, l0]
    rw [S_impl_PairDraws_0]; unfold B_impl_PairDraws_0; simp [l1]
    rw [S_impl_PairDraws_1]; unfold B_impl_PairDraws_1; simp
def coordsI (n : Int) (xs : List Int) : List Int := (List.range xs.length).map (coordI n xs)
def wsI (n : Int) (xs : List Int) : List Int := if seqB n xs = true then coordsI n xs else []
theorem idB_t {n x : Int} (h : idB n x = true) : ¬ x < -1 ∧ ¬ n ≤ x := by
  simp only [idB, Bool.and_eq_true, decide_eq_true_eq] at h; omega
theorem r_spec_l15Right (M : Mem) (n : Int) (a : Option Addr) (c : Nat) (xs : List ty_Int.D) (h : Rep (.sl ty_Int) M [.slice a xs.length c] xs) (hl : xs.length ≤ 700) (i : Nat) (hi : i < xs.length) (hq : idB n xs[i] = true) :
    lp (aCall T0) K_spec_l15Right_0 L_spec_l15Right_0 [.int .i64 n, .slice a xs.length c, und, und, und, .int .i64 i, und, und, und, und, und, und, und, und, und, und, und, und, und, und, und, und, und, und, und, und, und, und, und, und, und, und, und, und, und, und] M = lp (aCall T0) K_spec_l15Right_0 L_spec_l15Right_0 [.int .i64 n, .slice a xs.length c, und, und, und, .int .i64 (i + 1 : Nat), und, und, und, und, und, und, und, und, und, und, und, und, und, und, und, und, und, und, und, und, und, und, und, und, und, und, und, und, und, und] M := by
  obtain ⟨l, o, rfl, hrep, hrd⟩ := at_Int h hi
  have e6 : IntKind.i64.wrap ((i : Int) + 1) = i + 1 := wrap_i64 (by omega) (by omega)
  obtain ⟨q1, q2⟩ := idB_t hq
  rw [S_spec_l15Right_0]; unfold B_spec_l15Right_0; simp [hrd, e6, hi, q1, q2]
theorem idB_f {n x : Int} (h : idB n x = false) : x < -1 ∨ (¬ x < -1 ∧ n ≤ x) := by
  simp only [idB, Bool.and_eq_false_iff, decide_eq_false_iff_not] at h; omega
theorem x_spec_l15Right (M : Mem) (n : Int) (a : Option Addr) (c : Nat) (xs : List ty_Int.D) (h : Rep (.sl ty_Int) M [.slice a xs.length c] xs) (i : Nat) (hi : i < xs.length) (hq : idB n xs[i] = false) (k : ACode) :
    thenF M [.tmp 4] (thenS (blockR 0 (lp (aCall T0) K_spec_l15Right_0 L_spec_l15Right_0 [.int .i64 n, .slice a xs.length c, und, und, und, .int .i64 i, und, und, und, und, und, und, und, und, und, und, und, und, und, und, und, und, und, und, und, und, und, und, und, und, und, und, und, und, und, und] M)) (aCall T0) k) = some (.bool false, M) := by
  obtain ⟨l, o, rfl, hrep, hrd⟩ := at_Int h hi
  rcases idB_f hq with q1 | ⟨q1, q2⟩
  · rw [S_spec_l15Right_0]; unfold B_spec_l15Right_0; simp [hrd, hi, q1]
  · rw [S_spec_l15Right_0]; unfold B_spec_l15Right_0; simp [hrd, hi, q1, q2]
theorem c_spec_l15Right (M : Mem) (n : Int) (v : V) (xs : List ty_Int.D) (h : Rep (.sl ty_Int) M [v] xs) : aCall T0 F_spec_l15Right [.int .i64 n, v] M = some (.bool (seqB n xs), M) := by
  obtain ⟨a, c, rfl⟩ := h.slen
  unfold seqB
  by_cases h1 : n < 0
  · have : ¬ 0 ≤ n := by omega
    rw [aCall_eq T_spec_l15Right]; unfold A_spec_l15Right C_spec_l15Right; simp [h1, this]
  by_cases h2 : 256 < n
  · have : ¬ n ≤ 256 := by omega
    rw [aCall_eq T_spec_l15Right]; unfold A_spec_l15Right C_spec_l15Right; simp [h1, h2, this]
  by_cases h3 : 700 < (xs.length : Int)
  · have : ¬ (xs.length : Int) ≤ 700 := by omega
    rw [aCall_eq T_spec_l15Right]; unfold A_spec_l15Right C_spec_l15Right; simp [h1, h2, h3, this]
  have hb : (decide (0 ≤ n) && decide (n ≤ 256)) = true := by simp; omega
  have hb2 : decide ((xs.length : Int) ≤ 700) = true := by simp; omega
  rw [hb, hb2, Bool.true_and, Bool.true_and]
  rcases first_all (idB n) xs with ha | ⟨ha, j, hj, q1, q2⟩
  · have hc := chain (g := fun i : Nat => lp (aCall T0) K_spec_l15Right_0 L_spec_l15Right_0 [.int .i64 n, .slice a xs.length c, und, und, und, .int .i64 i, und, und, und, und, und, und, und, und, und, und, und, und, und, und, und, und, und, und, und, und, und, und, und, und, und, und, und, und, und, und] M) (n := xs.length) fun i hi => r_spec_l15Right M n a c xs h (by omega) i hi (all_at ha hi)
    simp only [Int.natCast_zero, Int.ofNat_zero] at hc
    rw [ha]
    rw [aCall_eq T_spec_l15Right]; unfold A_spec_l15Right C_spec_l15Right; simp [h1, h2, h3, hc]
    rw [S_spec_l15Right_0]; unfold B_spec_l15Right_0; simp
  · have hc := chain (g := fun i : Nat => lp (aCall T0) K_spec_l15Right_0 L_spec_l15Right_0 [.int .i64 n, .slice a xs.length c, und, und, und, .int .i64 i, und, und, und, und, und, und, und, und, und, und, und, und, und, und, und, und, und, und, und, und, und, und, und, und, und, und, und, und, und, und] M) (n := j) fun i hi => r_spec_l15Right M n a c xs h (by omega) i (by omega) (q1 i (by omega) hi)
    simp only [Int.natCast_zero, Int.ofNat_zero] at hc
    rw [ha]
    rw [aCall_eq T_spec_l15Right]; unfold A_spec_l15Right C_spec_l15Right; simp [h1, h2, h3, hc, x_spec_l15Right M n a c xs h j hj q2]
def coordC (n : Int) (xs : List Int) (i : Nat) : List V := (List.range i).map fun j => .int .i64 (coordI n xs j)
theorem r_spec_l15Coord (M : Mem) (n : Int) (a : Option Addr) (c : Nat) (xs : List ty_Int.D) (h : Rep (.sl ty_Int) M [.slice a xs.length c] xs) (hl : xs.length ≤ 700) (i : Nat) (hi : i < xs.length) (m : Nat) (hm : m < i) (hne : xs[m]'(by omega) ≠ xs[i]) :
    lp (aCall T0) K_spec_l15Coord_0 L_spec_l15Coord_0 [.int .i64 n, .slice a xs.length c, .int .i64 i, und, und, und, und, .int .i64 m, und, und, und, und, und, und, und, und, und, und, und, und, und, und, und, und, und, und, und, und, und, und, und, und, und, und, und, und, und, und] M = lp (aCall T0) K_spec_l15Coord_0 L_spec_l15Coord_0 [.int .i64 n, .slice a xs.length c, .int .i64 i, und, und, und, und, .int .i64 ((m : Int) - 1), und, und, und, und, und, und, und, und, und, und, und, und, und, und, und, und, und, und, und, und, und, und, und, und, und, und, und, und, und, und] M := by
  obtain ⟨l, o, rfl, _, hrd⟩ := at_Int h hi
  obtain ⟨l2, o2, e, _, hrd2⟩ := at_Int h (i := m) (by omega)
  cases e
  have e6 : IntKind.i64.wrap ((m : Int) - 1) = m - 1 := wrap_i64 (by omega) (by omega)
  have hm2 : m < xs.length := by omega
  rw [S_spec_l15Coord_0]; unfold B_spec_l15Coord_0; simp [hrd, hrd2, e6, hi, hm2, hne]
theorem l_spec_l15Coord (M : Mem) (n : Int) (hn : 0 ≤ n ∧ n ≤ 256) (a : Option Addr) (c : Nat) (xs : List ty_Int.D) (h : Rep (.sl ty_Int) M [.slice a xs.length c] xs) (hl : xs.length ≤ 700) (i : Nat) (hi : i < xs.length) : ∀ (m : Nat), m ≤ i →
    thenF M [.tmp 6] (thenS (blockR 0 (lp (aCall T0) K_spec_l15Coord_0 L_spec_l15Coord_0 [.int .i64 n, .slice a xs.length c, .int .i64 i, und, und, und, und, .int .i64 ((m : Int) - 1), und, und, und, und, und, und, und, und, und, und, und, und, und, und, und, und, und, und, und, und, und, und, und, und, und, und, und, und, und, und] M)) (aCall T0) (.seq (.reg false [⟨(some 34), .mv (.t 1), none⟩, ⟨(some 35), .mv (.t 2), none⟩, ⟨(some 36), .ia 1 (.t 34) (.t 35), none⟩, ⟨(some 37), .load1 (.t 36), none⟩, ⟨(some 6), .mv (.t 37), none⟩]) .ret)) = some (.int .i64 (lastAt n xs xs[i] m), M)
  | 0, _ => by
    obtain ⟨l, o, rfl, _, hrd⟩ := at_Int h hi
    rw [S_spec_l15Coord_0]; unfold B_spec_l15Coord_0; simp [hrd, hi, lastAt]
  | m + 1, hm => by
    have hm2 : m < xs.length := by omega
    have e : ((m + 1 : Nat) : Int) - 1 = m := by omega
    rw [e]
    by_cases he : xs[m] = xs[i]
    · have hb : lastAt n xs xs[i] (m + 1) = n + m := by
        unfold lastAt
        rw [List.getElem?_eq_getElem hm2, he]
        exact if_pos rfl
      rw [hb]
      obtain ⟨l, o, rfl, _, hrd⟩ := at_Int h hi
      obtain ⟨l2, o2, e, _, hrd2⟩ := at_Int h hm2
      cases e
      rw [he] at hrd2
      have e6 : IntKind.i64.wrap (n + (m : Int)) = n + m := wrap_i64 (by omega) (by omega)
      rw [S_spec_l15Coord_0]; unfold B_spec_l15Coord_0; simp [hrd, hrd2, e6, hi, hm2]
    · have hb : lastAt n xs xs[i] (m + 1) = lastAt n xs xs[i] m := by
        rw [lastAt, List.getElem?_eq_getElem hm2]
        exact if_neg (fun e => he (Option.some.inj e))
      rw [hb, r_spec_l15Coord M n a c xs h hl i hi m (by omega) he]
      exact l_spec_l15Coord M n hn a c xs h hl i hi m (by omega)
theorem c_spec_l15Coord (M : Mem) (n : Int) (hn : 0 ≤ n ∧ n ≤ 256) (v : V) (xs : List ty_Int.D) (h : Rep (.sl ty_Int) M [v] xs) (hl : xs.length ≤ 700) (i : Nat) (hi : i < xs.length) :
    aCall T0 F_spec_l15Coord [.int .i64 n, v, .int .i64 i] M = some (.int .i64 (coordI n xs i), M) := by
  obtain ⟨a, c, rfl⟩ := h.slen
  have hm := l_spec_l15Coord M n hn a c xs h hl i hi i (by omega)
  obtain ⟨l, o, rfl, _, hrd⟩ := at_Int h hi
  have ec : coordI n xs i = if (xs[i] : Int) < 0 then n + i else lastAt n xs xs[i] i := by
    unfold coordI
    rw [List.getElem?_eq_getElem hi]
  have e6 : IntKind.i64.wrap (n + (i : Int)) = n + i := wrap_i64 (by omega) (by omega)
  have e7 : IntKind.i64.wrap ((i : Int) - 1) = i - 1 := wrap_i64 (by omega) (by omega)
  rw [ec]
  by_cases hx : (xs[i] : Int) < 0
  · rw [if_pos hx]
    rw [aCall_eq T_spec_l15Coord]; unfold A_spec_l15Coord C_spec_l15Coord; simp [hrd, hi, hx, e6]
  · rw [if_neg hx]
    rw [aCall_eq T_spec_l15Coord]; unfold A_spec_l15Coord C_spec_l15Coord; simp [hrd, hi, hx, e7, hm]
theorem coordC_succ (n : Int) (xs : List Int) (i : Nat) : coordC n xs (i + 1) = coordC n xs i ++ [.int .i64 (coordI n xs i)] := by simp [coordC, List.range_succ]
theorem coordC_len (n : Int) (xs : List Int) (i : Nat) : (coordC n xs i).length = i := by simp [coordC]
theorem r_spec_Coords (M : Mem) (n : Int) (hn : 0 ≤ n ∧ n ≤ 256) (v : V) (xs : List ty_Int.D) (h : Rep (.sl ty_Int) M [v] xs) (hl : xs.length ≤ 700) (l : Nat) (i : Nat) (hi : i < xs.length) (hb : M[l]? = some ⟨coordC n xs i, 1, 2⟩) :
    lp (aCall T0) K_spec_Coords_0 L_spec_Coords_0 [.int .i64 n, v, und, und, und, und, .slice (some ⟨l, 0, none⟩) i i, .int .i64 i, und, und, und, und, und, und, und, und, und, und, und, und, und, und, und, und, und, und, und] M =
    lp (aCall T0) K_spec_Coords_0 L_spec_Coords_0 [.int .i64 n, v, und, und, und, und, .slice (some ⟨M.length + 1, 0, none⟩) (i + 1) (i + 1), .int .i64 (i + 1 : Nat), und, und, und, und, und, und, und, und, und, und, und, und, und, und, und, und, und, und, und] ((M ++ [(⟨[.int .i64 (coordI n xs i)], 1, 2⟩ : Blk)]).set l ⟨coordC n xs i, 1, 0⟩ ++ [⟨coordC n xs (i + 1), 1, 2⟩]) := by
  have ec := c_spec_l15Coord M n hn v xs h hl i hi
  have e6 : IntKind.i64.wrap ((i : Int) + 1) = i + 1 := wrap_i64 (by omega) (by omega)
  have esl := sliceCells_one (M := M) (v := .int .i64 (coordI n xs i)) (w := 1)
  have eap := app_full (M := M ++ [⟨[.int .i64 (coordI n xs i)], 1, 2⟩]) (w := 1) (bytes := 8) (l := l) (n := i) (cs := coordC n xs i) (ys := [.int .i64 (coordI n xs i)]) (m := 1) (get_pre (List.prefix_append _ _) hb) (by rw [coordC_len]; omega) (by omega) rfl (by omega) (by omega)
  rw [← coordC_succ] at eap
  obtain ⟨X, hX⟩ : ∃ X, X = (M ++ [(⟨[.int .i64 (coordI n xs i)], 1, 2⟩ : Blk)]).set l ⟨coordC n xs i, 1, 0⟩ ++ [⟨coordC n xs (i + 1), 1, 2⟩] := ⟨_, rfl⟩
  rw [← hX] at eap ⊢
  have hL : (M ++ [(⟨[.int .i64 (coordI n xs i)], 1, 2⟩ : Blk)]).length = M.length + 1 := by simp
  rw [hL] at eap
  obtain ⟨a, c, rfl⟩ := h.slen
  rw [S_spec_Coords_0]; unfold B_spec_Coords_0; simp [ec, e6, esl, eap, hi]
theorem l_spec_Coords (M0 : Mem) (n : Int) (hn : 0 ≤ n ∧ n ≤ 256) (v : V) (xs : List ty_Int.D) (h : Rep (.sl ty_Int) M0 [v] xs) (hl : xs.length ≤ 700) : ∀ (k i l : Nat) (N : Mem), i + k = xs.length → M0.length ≤ l → (M0 ++ N)[l]? = some ⟨coordC n xs i, 1, 2⟩ →
    ∃ l' N', M0.length ≤ l' ∧ (M0 ++ N')[l']? = some ⟨coordC n xs xs.length, 1, 2⟩ ∧
      lp (aCall T0) K_spec_Coords_0 L_spec_Coords_0 [.int .i64 n, v, und, und, und, und, .slice (some ⟨l, 0, none⟩) i i, .int .i64 i, und, und, und, und, und, und, und, und, und, und, und, und, und, und, und, und, und, und, und] (M0 ++ N) =
      lp (aCall T0) K_spec_Coords_0 L_spec_Coords_0 [.int .i64 n, v, und, und, und, und, .slice (some ⟨l', 0, none⟩) xs.length xs.length, .int .i64 xs.length, und, und, und, und, und, und, und, und, und, und, und, und, und, und, und, und, und, und, und] (M0 ++ N')
  | 0, i, l, N, hi, h1, h2 => by
    have e : i = xs.length := by omega
    subst e
    exact ⟨l, N, h1, h2, rfl⟩
  | k + 1, i, l, N, hi, h1, h2 => by
    rw [r_spec_Coords (M0 ++ N) n hn v xs (h.mono (List.prefix_append _ _)) hl l i (by omega) h2]
    rw [List.append_assoc M0 N, set_app h1, List.append_assoc M0]
    refine l_spec_Coords M0 n hn v xs h hl k (i + 1) _ _ (by omega) (by simp; omega) ?_
    rw [← List.append_assoc, List.getElem?_append_right (by simp; omega)]
    simp
    have e : M0.length + N.length + 1 - (M0.length + (N.length + 1)) = 0 := by omega
    rw [e]
    rfl
theorem c_spec_Coords (M : Mem) (n : Int) (v : V) (xs : List ty_Int.D) (h : Rep (.sl ty_Int) M [v] xs) (hs : seqB n xs = true) :
    ∃ l N, M.length ≤ l ∧ (M ++ N)[l]? = some ⟨coordC n xs xs.length, 1, 2⟩ ∧ aCall T0 F_spec_Coords [.int .i64 n, v] M = some (.tuple #[.slice (some ⟨l, 0, none⟩) xs.length xs.length, .bool true], M ++ N) := by
  have hq := hs
  simp only [seqB, Bool.and_eq_true, decide_eq_true_eq] at hq
  have e0 := c_spec_l15Right M n v xs h
  rw [hs] at e0
  obtain ⟨l, N, h1, h2, h3⟩ := l_spec_Coords M n hq.1 v xs h (by omega) xs.length 0 M.length [⟨[], 1, 2⟩] (by omega) (Nat.le_refl _) (by simp [coordC])
  refine ⟨l, N, h1, h2, ?_⟩
  simp only [Int.natCast_zero, Int.ofNat_zero] at h3
  obtain ⟨a, c, rfl⟩ := h.slen
  rw [aCall_eq T_spec_Coords]; unfold A_spec_Coords C_spec_Coords; simp [e0, zeroCells, h3]
  rw [S_spec_Coords_0]; unfold B_spec_Coords_0; simp
theorem lastAt_bound {n : Int} {xs : List Int} {x : Int} (hn : 0 ≤ n ∧ n ≤ 256) (hx : 0 ≤ x ∧ x < n) : ∀ j, j ≤ 700 → 0 ≤ lastAt n xs x j ∧ lastAt n xs x j ≤ 956
  | 0, _ => by unfold lastAt; omega
  | j + 1, h => by
    unfold lastAt
    split
    · omega
    · exact lastAt_bound hn hx j (by omega)
theorem coordsI_wf {n : Int} {xs : List Int} (h : seqB n xs = true) : ∀ y ∈ coordsI n xs, (Lit.int .i64 y).wf = true := by
  obtain ⟨h1, h2, h3⟩ := seqB_parts h
  intro y hy
  obtain ⟨i, hi, rfl⟩ := List.mem_map.1 hy
  have hi : i < xs.length := by simpa using hi
  have := h3 i hi
  apply wf_range
  unfold coordI
  rw [List.getElem?_eq_getElem hi]
  simp only
  split
  · omega
  · have := lastAt_bound (n := n) (xs := xs) (x := xs[i]) h1 (by omega) i (by omega)
    omega
theorem d_spec_Coords (M : Mem) (n : Int) (v : V) (xs : List Int) (h : Rep (.sl ty_Int) M [v] xs) :
    ∃ N vw, aCall T0 F_spec_Coords [.int .i64 n, v] M = some (.tuple #[vw, .bool (seqB n xs)], M ++ N) ∧ Rep (.sl ty_Int) (M ++ N) [vw] (wsI n xs) := by
  unfold wsI
  cases hb : seqB n xs with
  | false =>
    have e := c_spec_l15Right M n v xs h
    rw [hb] at e
    refine ⟨[], .slice none 0 0, ?_, .inl ⟨rfl, rfl⟩⟩
    rw [aCall_eq T_spec_Coords]; unfold A_spec_Coords C_spec_Coords; simp [e]
  | true =>
    obtain ⟨l, N, h1, h2, h3⟩ := c_spec_Coords M n v xs h hb
    have hm : coordC n xs xs.length = (coordsI n xs).map fun n => .int .i64 n := by simp [coordsI, coordC]
    rw [hm] at h2
    obtain ⟨L, o1, o2⟩ := own_block (c := xs.length) h2 (coordsI_wf hb)
    have hlen : (coordsI n xs).length = xs.length := by simp [coordsI]
    rw [hlen] at o1
    exact ⟨N, _, h3, o1.rep⟩
theorem drB_t {x : Int} (h : drB x = true) : ¬ x < 0 ∧ ¬ 65535 < x := by
  simp only [drB, Bool.and_eq_true, decide_eq_true_eq] at h; omega
theorem r_spec_l15Draws (M : Mem) (a : Option Addr) (c : Nat) (xs : List ty_Int.D) (h : Rep (.sl ty_Int) M [.slice a xs.length c] xs) (hl : xs.length ≤ 1048576) (i : Nat) (hi : i < xs.length) (hq : drB xs[i] = true) :
    lp (aCall T0) K_spec_l15Draws_0 L_spec_l15Draws_0 [und, und, .slice a xs.length c, und, und, und, und, .int .i64 i, und, und, und, und, und, und, und, und, und, und, und, und, und, und, und, und, und, und, und, und, und, und, und, und, und] M = lp (aCall T0) K_spec_l15Draws_0 L_spec_l15Draws_0 [und, und, .slice a xs.length c, und, und, und, und, .int .i64 (i + 1 : Nat), und, und, und, und, und, und, und, und, und, und, und, und, und, und, und, und, und, und, und, und, und, und, und, und, und] M := by
  obtain ⟨l, o, rfl, hrep, hrd⟩ := at_Int h hi
  have e6 : IntKind.i64.wrap ((i : Int) + 1) = i + 1 := wrap_i64 (by omega) (by omega)
  obtain ⟨q1, q2⟩ := drB_t hq
  rw [S_spec_l15Draws_0]; unfold B_spec_l15Draws_0; simp [hrd, e6, hi, q1, q2]
theorem drB_f {x : Int} (h : drB x = false) : x < 0 ∨ (¬ x < 0 ∧ 65535 < x) := by
  simp only [drB, Bool.and_eq_false_iff, decide_eq_false_iff_not] at h; omega
theorem x_spec_l15Draws (M : Mem) (a : Option Addr) (c : Nat) (xs : List ty_Int.D) (h : Rep (.sl ty_Int) M [.slice a xs.length c] xs) (i : Nat) (hi : i < xs.length) (hq : drB xs[i] = false) (k : ACode) :
    thenF M [.tmp 6] (thenS (blockR 0 (lp (aCall T0) K_spec_l15Draws_0 L_spec_l15Draws_0 [und, und, .slice a xs.length c, und, und, und, und, .int .i64 i, und, und, und, und, und, und, und, und, und, und, und, und, und, und, und, und, und, und, und, und, und, und, und, und, und] M)) (aCall T0) k) = some (.bool false, M) := by
  obtain ⟨l, o, rfl, hrep, hrd⟩ := at_Int h hi
  rcases drB_f hq with q1 | ⟨q1, q2⟩
  · rw [S_spec_l15Draws_0]; unfold B_spec_l15Draws_0; simp [hrd, hi, q1]
  · rw [S_spec_l15Draws_0]; unfold B_spec_l15Draws_0; simp [hrd, hi, q1, q2]
theorem c_spec_l15Draws (M : Mem) (n : Int) (hn : 0 ≤ n ∧ n ≤ 256) (vi v : V) (ids ds : List Int) (hi : Rep (.sl ty_Int) M [vi] ids) (h : Rep (.sl ty_Int) M [v] ds) (hl : ds.length ≤ 1048576) (hil : ids.length ≤ 700) : aCall T0 F_spec_l15Draws [.int .i64 n, vi, v] M = some (.bool (drsB (n + ids.length) ds), M) := by
  obtain ⟨a, c, rfl⟩ := h.slen
  obtain ⟨b, d, rfl⟩ := hi.slen
  have e1 : IntKind.i64.wrap (n + (ids.length : Int)) = n + ids.length := wrap_i64 (by omega) (by omega)
  unfold drsB
  by_cases hk : (ds.length : Int) = n + ids.length
  · have hk' : ((ds.length : Int) = n + ids.length) = True := eq_true hk
    rcases first_all drB ds with ha | ⟨ha, j, hj, q1, q2⟩
    · have hc := chain (g := fun i : Nat => lp (aCall T0) K_spec_l15Draws_0 L_spec_l15Draws_0 [und, und, .slice a ds.length c, und, und, und, und, .int .i64 i, und, und, und, und, und, und, und, und, und, und, und, und, und, und, und, und, und, und, und, und, und, und, und, und, und] M) (n := ds.length) fun i hi => r_spec_l15Draws M a c ds h hl i hi (all_at ha hi)
      simp only [Int.natCast_zero, Int.ofNat_zero] at hc
      rw [ha]
      rw [aCall_eq T_spec_l15Draws]; unfold A_spec_l15Draws C_spec_l15Draws; simp [e1, hk', hc]
      rw [S_spec_l15Draws_0]; unfold B_spec_l15Draws_0; simp
    · have hc := chain (g := fun i : Nat => lp (aCall T0) K_spec_l15Draws_0 L_spec_l15Draws_0 [und, und, .slice a ds.length c, und, und, und, und, .int .i64 i, und, und, und, und, und, und, und, und, und, und, und, und, und, und, und, und, und, und, und, und, und, und, und, und, und] M) (n := j) fun i hi => r_spec_l15Draws M a c ds h hl i (by omega) (q1 i (by omega) hi)
      simp only [Int.natCast_zero, Int.ofNat_zero] at hc
      rw [ha]
      rw [aCall_eq T_spec_l15Draws]; unfold A_spec_l15Draws C_spec_l15Draws; simp [e1, hk', hc, x_spec_l15Draws M a c ds h j hj q2]
  · rw [aCall_eq T_spec_l15Draws]; unfold A_spec_l15Draws C_spec_l15Draws; simp [e1, hk]
def anyI (U : List Int) (t : Int) : Bool := U.any fun x => decide (x = t)
def frL (U : List Int) (n : Nat) : List Nat := (List.range n).filter fun (t : Nat) => !anyI U t
def frC (U : List Int) (n : Nat) : List V := (frL U n).map fun (t : Nat) => .int .i64 t
theorem pre_set {M0 M : Mem} {l : Nat} {b : Blk} (h : M0 <+: M) (hl : M0.length ≤ l) : M0 <+: M.set l b := by
  obtain ⟨r, rfl⟩ := h
  rw [set_app hl]
  exact List.prefix_append _ _
theorem pre_app {M0 M N : Mem} (h : M0 <+: M) : M0 <+: M ++ N := h.trans (List.prefix_append _ _)
theorem frC_t {U : List Int} {n : Nat} (h : anyI U n = true) : frC U (n + 1) = frC U n := by
  unfold frC frL
  rw [List.range_succ, List.filter_append]
  simp [h]
theorem frC_f {U : List Int} {n : Nat} (h : anyI U n = false) : frC U (n + 1) = frC U n ++ [.int .i64 n] := by
  unfold frC frL
  rw [List.range_succ, List.filter_append]
  simp [h]
theorem frC_len (U : List Int) (n : Nat) : (frC U n).length ≤ n := by
  unfold frC frL
  rw [List.length_map]
  have := List.length_filter_le (fun (t : Nat) => !anyI U t) (List.range n)
  simpa using this
theorem r_spec_l15Rest_1 (M : Mem) (n : Int) (a : Option Addr) (c : Nat) (U : List Int) (hU : Rep (.sl ty_Int) M [.slice a U.length c] U) (hl : U.length ≤ 1048576) (out : V) (i : Nat) (j : Nat) (hj : j < U.length) :
    lp (aCall T0) K_spec_l15Rest_1 L_spec_l15Rest_1 [.int .i64 n, .slice a U.length c, und, und, und, out, .int .i64 i, .bool (anyI (U.take j) i), .int .i64 j, und, und, und, und, und, und, und, und, und, und, und, und, und, und, und, und, und, und, und, und, und, und, und, und, und, und, und, und] M =
    lp (aCall T0) K_spec_l15Rest_1 L_spec_l15Rest_1 [.int .i64 n, .slice a U.length c, und, und, und, out, .int .i64 i, .bool (anyI (U.take (j + 1)) i), .int .i64 (j + 1 : Nat), und, und, und, und, und, und, und, und, und, und, und, und, und, und, und, und, und, und, und, und, und, und, und, und, und, und, und, und] M := by
  have e6 : IntKind.i64.wrap ((j : Int) + 1) = j + 1 := wrap_i64 (by omega) (by omega)
  have eh : anyI (U.take (j + 1)) i = (anyI (U.take j) i || decide (U[j] = (i : Int))) := by
    unfold anyI
    rw [List.take_succ_eq_append_getElem hj, List.any_append]
    simp
  obtain ⟨l, o, rfl, _, hrd⟩ := at_Int hU hj
  rw [eh]
  cases hh : anyI (U.take j) i with
  | true => rw [S_spec_l15Rest_1]; unfold B_spec_l15Rest_1; simp [hj, e6]
  | false => rw [S_spec_l15Rest_1]; unfold B_spec_l15Rest_1; simp [hj, e6, hrd]
theorem r_spec_l15Rest_0 (M0 M : Mem) (hM : M0 <+: M) (n : Nat) (hn : n ≤ 1048576) (a : Option Addr) (c : Nat) (U : List Int) (hU : Rep (.sl ty_Int) M0 [.slice a U.length c] U) (hl : U.length ≤ 1048576) (i : Nat) (hi : i < n) (l : Nat) (hlo : M0.length ≤ l) (hb : M[l]? = some ⟨frC U i, 1, 2⟩) :
    ∃ l' M', M0 <+: M' ∧ M0.length ≤ l' ∧ M'[l']? = some ⟨frC U (i + 1), 1, 2⟩ ∧
    lp (aCall T0) K_spec_l15Rest_0 L_spec_l15Rest_0 [.int .i64 n, .slice a U.length c, und, und, und, .slice (some ⟨l, 0, none⟩) (frC U i).length (frC U i).length, .int .i64 i, und, und, und, und, und, und, und, und, und, und, und, und, und, und, und, und, und, und, und, und, und, und, und, und, und, und, und, und, und, und] M =
    lp (aCall T0) K_spec_l15Rest_0 L_spec_l15Rest_0 [.int .i64 n, .slice a U.length c, und, und, und, .slice (some ⟨l', 0, none⟩) (frC U (i + 1)).length (frC U (i + 1)).length, .int .i64 (i + 1 : Nat), und, und, und, und, und, und, und, und, und, und, und, und, und, und, und, und, und, und, und, und, und, und, und, und, und, und, und, und, und, und] M' := by
  have e6 : IntKind.i64.wrap ((i : Int) + 1) = i + 1 := wrap_i64 (by omega) (by omega)
  have hin := chain (g := fun j : Nat => lp (aCall T0) K_spec_l15Rest_1 L_spec_l15Rest_1 [.int .i64 n, .slice a U.length c, und, und, und, .slice (some ⟨l, 0, none⟩) (frC U i).length (frC U i).length, .int .i64 i, .bool (anyI (U.take j) i), .int .i64 j, und, und, und, und, und, und, und, und, und, und, und, und, und, und, und, und, und, und, und, und, und, und, und, und, und, und, und, und] M) (n := U.length) fun j hj => r_spec_l15Rest_1 M n a c U (hU.mono hM) hl _ i j hj
  have z0 : anyI (U.take 0) i = false := by simp [anyI]
  simp only [Int.natCast_zero, Int.ofNat_zero, z0, List.take_length] at hin
  have hle := frC_len U i
  cases hh : anyI U i with
  | true =>
    rw [hh] at hin
    refine ⟨l, M, hM, hlo, by rw [frC_t hh]; exact hb, ?_⟩
    rw [frC_t hh]
    rw [S_spec_l15Rest_0]; unfold B_spec_l15Rest_0; simp [hi, e6, hin]
    rw [S_spec_l15Rest_1]; unfold B_spec_l15Rest_1; simp [e6]
  | false =>
    rw [hh] at hin
    obtain ⟨A, hA⟩ : ∃ A, A = M ++ [(⟨[.int .i64 i], 1, 2⟩ : Blk)] := ⟨_, rfl⟩
    have eap := app_full (M := A) (w := 1) (bytes := 8) (l := l) (n := (frC U i).length) (cs := frC U i) (ys := [.int .i64 i]) (m := 1) (by rw [hA]; exact get_pre' hb) (by omega) (by omega) rfl (by omega) (by omega)
    rw [← frC_f hh] at eap
    have hAl : A.length = M.length + 1 := by rw [hA]; simp
    rw [hAl] at eap
    have esl := sliceCells_one (M := M) (v := .int .i64 i) (w := 1)
    rw [← hA] at esl
    have hMl := hM.length_le
    have hlen : (frC U (i + 1)).length = (frC U i).length + 1 := by rw [frC_f hh]; simp
    obtain ⟨B, hB⟩ : ∃ B, B = A.set l ⟨frC U i, 1, 0⟩ ++ [(⟨frC U (i + 1), 1, 2⟩ : Blk)] := ⟨_, rfl⟩
    rw [← hB] at eap
    have hAm := hA.symm
    refine ⟨M.length + 1, B, by rw [hB, hA]; exact pre_app (pre_set (pre_app hM) hlo), by omega, ?_, ?_⟩
    · rw [hB, List.getElem?_append_right (by simp [hAl])]
      simp [hAl]
    · rw [hlen]
      rw [S_spec_l15Rest_0]; unfold B_spec_l15Rest_0; simp [hi, e6, hin]
      rw [S_spec_l15Rest_1]; unfold B_spec_l15Rest_1; simp [e6, hAm, esl, eap]
theorem l_spec_l15Rest (M0 : Mem) (n : Nat) (hn : n ≤ 1048576) (a : Option Addr) (c : Nat) (U : List Int) (hU : Rep (.sl ty_Int) M0 [.slice a U.length c] U) (hl : U.length ≤ 1048576) : ∀ (k i l : Nat) (M : Mem), i + k = n → M0 <+: M → M0.length ≤ l → M[l]? = some ⟨frC U i, 1, 2⟩ →
    ∃ l' M', M0 <+: M' ∧ M0.length ≤ l' ∧ M'[l']? = some ⟨frC U n, 1, 2⟩ ∧
    lp (aCall T0) K_spec_l15Rest_0 L_spec_l15Rest_0 [.int .i64 n, .slice a U.length c, und, und, und, .slice (some ⟨l, 0, none⟩) (frC U i).length (frC U i).length, .int .i64 i, und, und, und, und, und, und, und, und, und, und, und, und, und, und, und, und, und, und, und, und, und, und, und, und, und, und, und, und, und, und] M =
    lp (aCall T0) K_spec_l15Rest_0 L_spec_l15Rest_0 [.int .i64 n, .slice a U.length c, und, und, und, .slice (some ⟨l', 0, none⟩) (frC U n).length (frC U n).length, .int .i64 n, und, und, und, und, und, und, und, und, und, und, und, und, und, und, und, und, und, und, und, und, und, und, und, und, und, und, und, und, und, und] M'
  | 0, i, l, M, hi, hM, h1, h2 => by
    have e : i = n := by omega
    subst e
    exact ⟨l, M, hM, h1, h2, rfl⟩
  | k + 1, i, l, M, hi, hM, h1, h2 => by
    obtain ⟨l', M', q1, q2, q3, q4⟩ := r_spec_l15Rest_0 M0 M hM n hn a c U hU hl i (by omega) l h1 h2
    rw [q4]
    exact l_spec_l15Rest M0 n hn a c U hU hl k (i + 1) l' M' (by omega) q1 q2 q3
theorem c_spec_l15Rest (M : Mem) (n : Nat) (hn : n ≤ 1048576) (v : V) (U : List Int) (hU : Rep (.sl ty_Int) M [v] U) (hl : U.length ≤ 1048576) :
    ∃ l M', M <+: M' ∧ M.length ≤ l ∧ M'[l]? = some ⟨frC U n, 1, 2⟩ ∧ aCall T0 F_spec_l15Rest [.int .i64 n, v] M = some (.slice (some ⟨l, 0, none⟩) (frC U n).length (frC U n).length, M') := by
  obtain ⟨a, c, rfl⟩ := hU.slen
  obtain ⟨l', M', q1, q2, q3, q4⟩ := l_spec_l15Rest M n hn a c U hU hl n 0 M.length (M ++ [⟨[], 1, 2⟩]) (by omega) (List.prefix_append _ _) (by omega) (by simp [frC, frL])
  have z0 : (frC U 0).length = 0 := rfl
  simp only [Int.natCast_zero, Int.ofNat_zero, z0] at q4
  refine ⟨l', M', q1, q2, q3, ?_⟩
  rw [aCall_eq T_spec_l15Rest]; unfold A_spec_l15Rest C_spec_l15Rest; simp [zeroCells, q4]
  rw [S_spec_l15Rest_0]; unfold B_spec_l15Rest_0; simp
theorem frL_co {n : Nat} {xs : List Int} (hs : ∀ i (hi : i < xs.length), xs[i] < (n : Int)) (N : Nat) : frL (coordsI n xs) N = freeL (co n xs) xs.length N := by
  unfold frL freeL
  apply List.filter_congr
  intro t _
  congr 1
  rw [Bool.eq_iff_iff, usB_iff]
  unfold anyI coordsI
  simp only [List.any_map, List.any_eq_true, List.mem_range, Function.comp, decide_eq_true_eq]
  constructor
  · rintro ⟨i, h1, h2⟩
    refine ⟨i, h1, ?_⟩
    have := (co_val hs h1).1
    omega
  · rintro ⟨i, h1, h2⟩
    refine ⟨i, h1, ?_⟩
    rw [(co_val hs h1).1, h2]
theorem rd_co {M : Mem} {a : Option Addr} {n c k : Nat} {xs : List Int} (hs : ∀ i (hi : i < xs.length), xs[i] < (n : Int)) (h : Rep (.sl ty_Int) M [.slice a k c] (coordsI n xs)) {i : Nat} (hi : i < xs.length) : ∃ l o, a = some ⟨l, o, none⟩ ∧ rd1 M l (o + i) = some (.int .i64 (co n xs i)) := by
  obtain ⟨l, o, rfl, _, hrd⟩ := at_Int h (i := i) (by simpa [coordsI] using hi)
  refine ⟨l, o, rfl, ?_⟩
  rw [← (co_val hs hi).1]
  simpa [coordsI] using hrd
theorem r_spec_PairDraws_0 (Q : Mem) (n N : Nat) (a b ds : List Int) (hsa : ∀ i (hi : i < a.length), a[i] < (n : Int)) (hsb : ∀ i (hi : i < b.length), b[i] < (n : Int)) (hab : a.length = b.length) (hk : a.length ≤ 700) (ad au av : Option Addr) (cd cu cv : Nat)
    (hd : Rep (.sl ty_Int) Q [.slice ad ds.length cd] ds) (hu : Rep (.sl ty_Int) Q [.slice au a.length cu] (coordsI n a)) (hv : Rep (.sl ty_Int) Q [.slice av a.length cv] (coordsI n b)) (hN : ds.length = N) (hua : ∀ i, i < a.length → co n a i < N) (hvb : ∀ i, i < a.length → co n b i < N) (i : Nat) (hi : i < a.length) :
    lp (aCall T0) K_spec_PairDraws_0 L_spec_PairDraws_0 [und, und, und, .slice ad ds.length cd, und, und, und, und, und, und, .slice au a.length cu, und, .slice av a.length cv, und, .slice (some ⟨Q.length, 0, none⟩) N N, .int .i64 i, und, und, und, und, und, und, und, und, und, und, und, und, und, und, und, und, und, und, und, und, und, und, und, und, und, und, und, und, und, und, und, und, und, und, und, und, und, und, und, und, und, und, und, und, und, und, und, und, und, und, und, und, und, und, und, und, und, und, und, und, und, und, und, und, und, und, und, und, und, und, und, und, und, und, und, und, und, und, und, und, und, und, und, und, und] (Q ++ [⟨arrC N (wrA (co n a) (co n b) ds i), 1, 2⟩]) =
    lp (aCall T0) K_spec_PairDraws_0 L_spec_PairDraws_0 [und, und, und, .slice ad ds.length cd, und, und, und, und, und, und, .slice au a.length cu, und, .slice av a.length cv, und, .slice (some ⟨Q.length, 0, none⟩) N N, .int .i64 (i + 1 : Nat), und, und, und, und, und, und, und, und, und, und, und, und, und, und, und, und, und, und, und, und, und, und, und, und, und, und, und, und, und, und, und, und, und, und, und, und, und, und, und, und, und, und, und, und, und, und, und, und, und, und, und, und, und, und, und, und, und, und, und, und, und, und, und, und, und, und, und, und, und, und, und, und, und, und, und, und, und, und, und, und, und, und, und, und, und] (Q ++ [⟨arrC N (wrA (co n a) (co n b) ds (i + 1)), 1, 2⟩]) := by
  have e6 : IntKind.i64.wrap ((i : Int) + 1) = i + 1 := wrap_i64 (by omega) (by omega)
  have h1 := hua i hi
  have h2 := hvb i hi
  obtain ⟨l1, o1, rfl, hr1⟩ := rd_co hsa hu hi
  obtain ⟨l2, o2, rfl, hr2⟩ := rd_co hsb hv (i := i) (by omega)
  obtain ⟨l3, o3, rfl, hr3⟩ := rd_draw hd (z := (co n a i : Int)) (by omega) (by omega)
  have hr1' : ∀ X, rd1 (Q ++ X) l1 (o1 + i) = some (.int .i64 (co n a i)) := fun X => rd1_old hr1
  have hr2' : ∀ X, rd1 (Q ++ X) l2 (o2 + i) = some (.int .i64 (co n b i)) := fun X => rd1_old hr2
  have hr3' : ∀ X, rd1 (Q ++ X) l3 (o3 + co n a i) = some (.int .i64 (drawAt ds (co n a i))) := fun X => rd1_old hr3
  have s1 : splice (arrC N (wrA (co n a) (co n b) ds i)) (co n b i) [.int .i64 (drawAt ds (co n a i))] = arrC N (wrA (co n a) (co n b) ds (i + 1)) := by
    rw [splice_one (by rw [arrC_len]; exact h2), arrC_set _ _ _ _ h2]; rfl
  have w1 := arrC_len N (wrA (co n a) (co n b) ds i)
  have v2 : co n b i + 1 ≤ N := h2
  have q1 : co n a i < ds.length := by omega
  unfold splice at s1
  simp at s1
  rw [S_spec_PairDraws_0]; unfold B_spec_PairDraws_0; simp [hi, e6, h1, h2, hr1', hr2', hr3', s1, w1, v2, q1]
theorem frC_get (U : List Int) (n j : Nat) (h : j < (frL U n).length) : (frC U n)[j]? = some (.int .i64 ((frL U n).getD j 0 : Nat)) := by
  unfold frC
  rw [List.getElem?_map, List.getD_eq_getElem?_getD, List.getElem?_eq_getElem h]
  rfl
theorem frL_lt (U : List Int) (n j : Nat) (h : j < (frL U n).length) : (frL U n).getD j 0 < n := by
  rw [List.getD_eq_getElem?_getD, List.getElem?_eq_getElem h]
  have hm := List.getElem_mem h
  unfold frL at hm
  simp only [List.mem_filter, List.mem_range] at hm
  exact hm.1
theorem r_spec_PairDraws_1 (Q R : Mem) (N : Nat) (ds U W : List Int) (ad : Option Addr) (cd pp lq : Nat) (f : Nat → Int) (hd : Rep (.sl ty_Int) Q [.slice ad ds.length cd] ds) (hN : ds.length = N) (hNs : N ≤ 1048576)
    (hp : ∀ x, (Q ++ x :: R)[pp]? = some ⟨frC U N, 1, 2⟩) (hq : ∀ x, (Q ++ x :: R)[lq]? = some ⟨frC W N, 1, 2⟩) (hle : (frL U N).length = (frL W N).length) (j : Nat) (hj : j < (frL U N).length) :
    lp (aCall T0) K_spec_PairDraws_1 L_spec_PairDraws_1 [und, und, und, .slice ad ds.length cd, und, und, und, und, und, und, und, und, und, und, .slice (some ⟨Q.length, 0, none⟩) N N, und, .slice (some ⟨pp, 0, none⟩) (frC U N).length (frC U N).length, .slice (some ⟨lq, 0, none⟩) (frC W N).length (frC W N).length, .int .i64 j, und, und, und, und, und, und, und, und, und, und, und, und, und, und, und, und, und, und, und, und, und, und, und, und, und, und, und, und, und, und, und, und, und, und, und, und, und, und, und, und, und, und, und, und, und, und, und, und, und, und, und, und, und, und, und, und, und, und, und, und, und, und, und, und, und, und, und, und, und, und, und, und, und, und, und, und, und, und, und, und, und, und] (Q ++ ⟨arrC N f, 1, 2⟩ :: R) =
    lp (aCall T0) K_spec_PairDraws_1 L_spec_PairDraws_1 [und, und, und, .slice ad ds.length cd, und, und, und, und, und, und, und, und, und, und, .slice (some ⟨Q.length, 0, none⟩) N N, und, .slice (some ⟨pp, 0, none⟩) (frC U N).length (frC U N).length, .slice (some ⟨lq, 0, none⟩) (frC W N).length (frC W N).length, .int .i64 (j + 1 : Nat), und, und, und, und, und, und, und, und, und, und, und, und, und, und, und, und, und, und, und, und, und, und, und, und, und, und, und, und, und, und, und, und, und, und, und, und, und, und, und, und, und, und, und, und, und, und, und, und, und, und, und, und, und, und, und, und, und, und, und, und, und, und, und, und, und, und, und, und, und, und, und, und, und, und, und, und, und, und, und, und, und, und] (Q ++ ⟨arrC N (upF f ((frL W N).getD j 0) (drawAt ds ((frL U N).getD j 0 : Nat))), 1, 2⟩ :: R) := by
  have hlU : (frC U N).length = (frL U N).length := by simp [frC]
  have hlW : (frC W N).length = (frL W N).length := by simp [frC]
  have hle2 := frC_len U N
  have e6 : IntKind.i64.wrap ((j : Int) + 1) = j + 1 := wrap_i64 (by omega) (by omega)
  have g1 := frC_get U N j hj
  have g2 := frC_get W N j (by omega)
  have t1 := frL_lt U N j hj
  have t2 := frL_lt W N j (by omega)
  obtain ⟨x, hx⟩ : ∃ x, x = (frL U N).getD j 0 := ⟨_, rfl⟩
  obtain ⟨y, hy⟩ : ∃ y, y = (frL W N).getD j 0 := ⟨_, rfl⟩
  rw [← hx] at g1 t1 ⊢
  rw [← hy] at g2 t2 ⊢
  have r1 : ∀ z, rd1 (Q ++ z :: R) pp j = some (.int .i64 x) := by
    intro z
    unfold rd1
    rw [hp z]
    simp only [or_true, if_true]
    exact g1
  have r2 : ∀ z, rd1 (Q ++ z :: R) lq j = some (.int .i64 y) := by
    intro z
    unfold rd1
    rw [hq z]
    simp only [or_true, if_true]
    exact g2
  obtain ⟨l3, o3, rfl, hr3⟩ := rd_draw hd (z := (x : Int)) (by omega) (by omega)
  have hr3' : ∀ X, rd1 (Q ++ X) l3 (o3 + x) = some (.int .i64 (drawAt ds x)) := fun X => rd1_old hr3
  have s1 : splice (arrC N f) y [.int .i64 (drawAt ds x)] = arrC N (upF f y (drawAt ds x)) := by
    rw [splice_one (by rw [arrC_len]; exact t2), arrC_set _ _ _ _ t2]
  have w1 := arrC_len N f
  have v2 : y + 1 ≤ N := t2
  have q1 : x < ds.length := by omega
  have q2 : j < (frL W N).length := by omega
  unfold splice at s1
  simp at s1
  rw [hlU, hlW]
  rw [S_spec_PairDraws_1]; unfold B_spec_PairDraws_1; simp [hj, q2, e6, t1, t2, r1, r2, hr3', s1, w1, v2, q1]
theorem d_spec_PairDraws (M : Mem) (n : Int) (v_a : V) (a : List Int) (h_a : Rep (.sl ty_Int) M [v_a] a) (hn_a : a.length ≤ 1048576) (v_b : V) (b : List Int) (h_b : Rep (.sl ty_Int) M [v_b] b) (hn_b : b.length ≤ 1048576) (v_ds : V) (ds : List Int) (h_ds : Rep (.sl ty_Int) M [v_ds] ds) (hn_ds : ds.length ≤ 1048576) :
    ∃ M' u, M <+: M' ∧ aCall T0 F_spec_PairDraws [.int .i64 n, v_a, v_b, v_ds] M = some (.tuple #[u, .bool (pairOk n a b ds)], M') ∧ Rep (.sl ty_Int) M' [u] (pairR n a b ds) := by
  obtain ⟨N1, va, e1, r1⟩ := d_spec_Coords M n v_a a h_a
  have p1 : M <+: M ++ N1 := List.prefix_append _ _
  generalize M ++ N1 = Q1 at e1 r1 p1
  obtain ⟨N2, vb, e2, r2⟩ := d_spec_Coords Q1 n v_b b (h_b.mono p1)
  have p2 : Q1 <+: Q1 ++ N2 := List.prefix_append _ _
  generalize Q1 ++ N2 = Q at e2 r2 p2
  have pQ := p1.trans p2
  unfold pairR
  cases hb : pairOk n a b ds with
  | false =>
    refine ⟨Q, .slice none 0 0, pQ, ?_, .inl ⟨rfl, rfl⟩⟩
    simp only [pairOk] at hb
    obtain ⟨_, _, rfl⟩ := r1.slen
    obtain ⟨_, _, rfl⟩ := r2.slen
    cases q1 : seqB n a with
    | false =>
      obtain ⟨_, _, rfl⟩ := h_a.slen
      obtain ⟨_, _, rfl⟩ := h_b.slen
      rw [aCall_eq T_spec_PairDraws]; unfold A_spec_PairDraws C_spec_PairDraws; simp [e1, e2, q1]
    | true =>
      have hsq := seqB_parts q1
      cases q2 : seqB n b with
      | false =>
        obtain ⟨_, _, rfl⟩ := h_a.slen
        obtain ⟨_, _, rfl⟩ := h_b.slen
        rw [aCall_eq T_spec_PairDraws]; unfold A_spec_PairDraws C_spec_PairDraws; simp [e1, e2, q1, q2]
      | true =>
        have g3 := c_spec_l15Draws Q n hsq.1 v_a v_ds a ds (h_a.mono pQ) (h_ds.mono pQ) hn_ds hsq.2.1
        obtain ⟨_, _, rfl⟩ := h_a.slen
        obtain ⟨_, _, rfl⟩ := h_b.slen
        rw [q1, q2, Bool.true_and, Bool.true_and] at hb
        by_cases q3 : (a.length : Int) = b.length
        · rw [decide_eq_true q3, Bool.true_and] at hb
          have q3' : ((a.length : Int) = b.length) = True := eq_true q3
          have q4' : (a.length = b.length) = True := eq_true (by omega)
          rw [aCall_eq T_spec_PairDraws]; unfold A_spec_PairDraws C_spec_PairDraws; simp [e1, e2, g3, q1, q2, q3', q4', hb]
        · have q4 : ¬ a.length = b.length := by omega
          rw [aCall_eq T_spec_PairDraws]; unfold A_spec_PairDraws C_spec_PairDraws; simp [e1, e2, q1, q2, q3, q4]
  | true =>
    obtain ⟨q1, q2, q3, q4, hdl, hdr⟩ := pair_parts hb
    obtain ⟨h1, h2, h3⟩ := seqB_parts q1
    obtain ⟨_, k2, k3⟩ := seqB_parts q2
    have g3 := c_spec_l15Draws Q n h1 v_a v_ds a ds (h_a.mono pQ) (h_ds.mono pQ) hn_ds h2
    obtain ⟨m, rfl⟩ : ∃ m : Nat, n = m := ⟨n.toNat, by omega⟩
    have hsa : ∀ i (hi : i < a.length), a[i] < (m : Int) := fun i hi => (h3 i hi).2
    have hsb : ∀ i (hi : i < b.length), b[i] < (m : Int) := fun i hi => (k3 i hi).2
    obtain ⟨N, hNd⟩ : ∃ N, ds.length = N := ⟨_, rfl⟩
    have wa : wsI m a = coordsI m a := if_pos q1
    have wb : wsI m b = coordsI m b := if_pos q2
    rw [wa] at r1
    rw [wb] at r2
    have r1 := r1.mono p2
    have la : (coordsI m a).length = a.length := by simp [coordsI]
    have lb : (coordsI m b).length = a.length := by simp [coordsI, q3]
    have hua : ∀ i, i < a.length → co m a i < N := fun i hi => by have := (co_val hsa hi).2; omega
    have hvb : ∀ i, i < a.length → co m b i < N := fun i hi => by have := (co_val hsb (i := i) (by omega)).2; omega
    have ia : ∀ i j, i < j → j < a.length → co m a i ≠ co m a j := fun i j hij hj e => coord_inj hsa hij hj (by rw [(co_val hsa (i := i) (by omega)).1, (co_val hsa hj).1, e])
    have ib : ∀ i j, i < j → j < a.length → co m b i ≠ co m b j := fun i j hij hj e => coord_inj hsb hij (by omega) (by rw [(co_val hsb (i := i) (by omega)).1, (co_val hsb (i := j) (by omega)).1, e])
    have fa := free_count (co m a) N a.length hua ia
    have fb := free_count (co m b) N a.length hvb ib
    have la2 := frL_co hsa N
    have lb2 := frL_co hsb N
    rw [← q3] at lb2
    obtain ⟨ad, cd, rfl⟩ := h_ds.slen
    obtain ⟨au, cu, rfl⟩ := r1.slen
    obtain ⟨av, cv, rfl⟩ := r2.slen
    simp only [la, lb] at e1 e2 r1 r2
    have hdQ := h_ds.mono pQ
    have l0 := chain (n := a.length) fun i hi => r_spec_PairDraws_0 Q m N a b ds hsa hsb q3 h2 ad au av cd cu cv hdQ r1 r2 hNd hua hvb i hi
    obtain ⟨pl, Q2, u1, u2, u3, u4⟩ := c_spec_l15Rest (Q ++ [⟨arrC N (wrA (co m a) (co m b) ds a.length), 1, 2⟩]) N (by omega) (.slice au a.length cu) (coordsI m a) (r1.mono (List.prefix_append _ _)) (by omega)
    obtain ⟨ql, Q3, t1, t2, t3, t4⟩ := c_spec_l15Rest Q2 N (by omega) (.slice av a.length cv) (coordsI m b) (r2.mono ((List.prefix_append _ _).trans u1)) (by omega)
    obtain ⟨R, hR⟩ := u1.trans t1
    have u3' : Q3[pl]? = some ⟨frC (coordsI m a) N, 1, 2⟩ := get_pre t1 u3
    rw [List.append_assoc, List.singleton_append] at hR
    have hul := u1.length_le
    have reloc : ∀ (l : Nat) (B : Blk), Q.length + 1 ≤ l → Q3[l]? = some B → ∀ x, (Q ++ x :: R)[l]? = some B := by
      intro l B hl hB x
      rw [← hR, List.getElem?_append_right (by omega)] at hB
      rw [List.getElem?_append_right (by omega)]
      rw [show l - Q.length = (l - Q.length - 1) + 1 by omega] at hB ⊢
      simpa using hB
    simp only [List.length_append, List.length_cons, List.length_nil] at u2 hul
    have hpp := reloc pl _ u2 u3'
    have hqq := reloc ql _ (by omega) t3
    have l1 := chain (n := (frL (coordsI m a) N).length) (g := fun j : Nat => lp (aCall T0) K_spec_PairDraws_1 L_spec_PairDraws_1 [und, und, und, .slice ad ds.length cd, und, und, und, und, und, und, und, und, und, und, .slice (some ⟨Q.length, 0, none⟩) N N, und, .slice (some ⟨pl, 0, none⟩) (frC (coordsI m a) N).length (frC (coordsI m a) N).length, .slice (some ⟨ql, 0, none⟩) (frC (coordsI m b) N).length (frC (coordsI m b) N).length, .int .i64 j, und, und, und, und, und, und, und, und, und, und, und, und, und, und, und, und, und, und, und, und, und, und, und, und, und, und, und, und, und, und, und, und, und, und, und, und, und, und, und, und, und, und, und, und, und, und, und, und, und, und, und, und, und, und, und, und, und, und, und, und, und, und, und, und, und, und, und, und, und, und, und, und, und, und, und, und, und, und, und, und, und, und] (Q ++ ⟨arrC N (wrB (co m a) (co m b) ds a.length N j), 1, 2⟩ :: R)) fun j hj => by
      have h := r_spec_PairDraws_1 Q R N ds (coordsI m a) (coordsI m b) ad cd pl ql (wrB (co m a) (co m b) ds a.length N j) hdQ hNd (by omega) hpp hqq (by rw [la2, lb2]; omega) j hj
      rw [h]
      rw [wrB, la2, lb2]
    have hlen2 : (frL (coordsI m a) N).length = (freeL (co m a) a.length N).length := by rw [la2]
    rw [hlen2] at l1
    simp only [Int.natCast_zero, Int.ofNat_zero, wrA, arrC_zero, wrB] at l0 l1
    have hfin : arrC N (wrB (co m a) (co m b) ds a.length N (freeL (co m a) a.length N).length) = (pairL m a b ds).map fun x => .int .i64 x := by
      rw [← arr_pair, hNd]
      unfold pairF
      rw [hNd]
    rw [hfin] at l1
    obtain ⟨L, o1, o2⟩ := own_block (M := Q ++ ⟨(pairL m a b ds).map fun x => .int .i64 x, 1, 2⟩ :: R) (l := Q.length) (c := N) (ys := pairL m a b ds) (by simp) (pairL_wf hdr)
    have hlen : (pairL m a b ds).length = N := by simp [pairL, hNd]
    rw [hlen] at o1
    have htn : (m : Int).toNat = m := by omega
    rw [if_pos rfl, htn]
    refine ⟨_, _, pQ.trans (List.prefix_append _ _), ?_, o1.rep⟩
    have b1 : (N : Int) * 8 ≤ 281474976710656 := by omega
    have b2 : (N : Int) ≤ 9223372036854775807 := by omega
    have q3' : ((a.length : Int) = b.length) = True := eq_true (by omega)
    have q4' : (b.length = a.length) = True := eq_true (by omega)
    obtain ⟨ai, ci, rfl⟩ := h_a.slen
    obtain ⟨bi, di, rfl⟩ := h_b.slen
    rw [hNd] at l0 l1
    simp only [hNd] at g3 ⊢
    rw [← q3] at e2 ⊢
    have hlc : (frC (coordsI m a) N).length = (freeL (co m a) a.length N).length := by rw [← hlen2]; simp [frC]
    have z : (freeL (co m a) a.length N).length ≤ N := by omega
    rw [← hR] at t4
    rw [aCall_eq T_spec_PairDraws]; unfold A_spec_PairDraws C_spec_PairDraws; simp [e1, e2, g3, q1, q2, q3', q4', q4, b1, b2, l0]
    rw [S_spec_PairDraws_0]; unfold B_spec_PairDraws_0; simp [u4, t4, l1]
    rw [S_spec_PairDraws_1]; unfold B_spec_PairDraws_1; simp [hlc]
set_option maxHeartbeats 4000000 in
set_option maxRecDepth 20000 in
theorem c_laws_FnExactPairDraws (M : Mem) (n : Int) (v_a : V) (a : List Int) (h_a : Rep (.sl ty_Int) M [v_a] a) (hn_a : a.length ≤ 9223372036854775807) (v_b : V) (b : List Int) (h_b : Rep (.sl ty_Int) M [v_b] b) (hn_b : b.length ≤ 9223372036854775807) (v_ds : V) (ds : List Int) (h_ds : Rep (.sl ty_Int) M [v_ds] ds) (hn_ds : ds.length ≤ 9223372036854775807) : ∃ M', aCall T0 F_laws_FnExactPairDraws [.int .i64 n, v_a, v_b, v_ds] M = some (.bool true, M') := by
  by_cases hg_a : 1048576 < (a.length : Int)
  · refine ⟨M, ?_⟩
    obtain ⟨_, _, rfl⟩ := h_a.slen
    obtain ⟨_, _, rfl⟩ := h_b.slen
    obtain ⟨_, _, rfl⟩ := h_ds.slen
    rw [aCall_eq T_laws_FnExactPairDraws]; unfold A_laws_FnExactPairDraws C_laws_FnExactPairDraws; simp [hg_a]
  have h1_a : a.length ≤ 1048576 := by omega
  by_cases hg_b : 1048576 < (b.length : Int)
  · refine ⟨M, ?_⟩
    obtain ⟨_, _, rfl⟩ := h_a.slen
    obtain ⟨_, _, rfl⟩ := h_b.slen
    obtain ⟨_, _, rfl⟩ := h_ds.slen
    rw [aCall_eq T_laws_FnExactPairDraws]; unfold A_laws_FnExactPairDraws C_laws_FnExactPairDraws; simp [hg_a, hg_b]
  have h1_b : b.length ≤ 1048576 := by omega
  by_cases hg_ds : 1048576 < (ds.length : Int)
  · refine ⟨M, ?_⟩
    obtain ⟨_, _, rfl⟩ := h_a.slen
    obtain ⟨_, _, rfl⟩ := h_b.slen
    obtain ⟨_, _, rfl⟩ := h_ds.slen
    rw [aCall_eq T_laws_FnExactPairDraws]; unfold A_laws_FnExactPairDraws C_laws_FnExactPairDraws; simp [hg_a, hg_b, hg_ds]
  have h1_ds : ds.length ≤ 1048576 := by omega
  have hb_pairR : (pairR n a b ds).length ≤ 1000000000 := (by have := pairR_len n a b ds; omega)
  obtain ⟨M1, u2, L3, p4, t5, o6, f7⟩ := d_laws_toIntS M v_a a (h_a.mono ((List.prefix_refl _))) h1_a
  have g8 : ∀ l ∈ L3, M.length ≤ l ∧ l < M1.length := by intro l hl; have := f7 l hl; (try simp only [List.length_append, List.length_cons, List.length_nil] at this); omega
  have ln9 : M.length ≤ M1.length := by have := p4.length_le; (try simp only [List.length_append, List.length_cons, List.length_nil] at this); omega
  have z10 : M <+: M1 := (List.prefix_refl _).trans p4
  obtain ⟨M12, u13, L14, p15, t16, o17, f18⟩ := d_laws_toIntS M1 v_b b (h_b.mono (z10)) h1_b
  have g19 : ∀ l ∈ L14, M1.length ≤ l ∧ l < M12.length := by intro l hl; have := f18 l hl; (try simp only [List.length_append, List.length_cons, List.length_nil] at this); omega
  have ln20 : M1.length ≤ M12.length := by have := p15.length_le; (try simp only [List.length_append, List.length_cons, List.length_nil] at this); omega
  have o21 := Own.grow p15 o6
  have z22 : M <+: M12 := z10.trans p15
  obtain ⟨M24, u25, L26, p27, t28, o29, f30⟩ := d_laws_toIntS M12 v_ds ds (h_ds.mono (z22)) h1_ds
  have g31 : ∀ l ∈ L26, M12.length ≤ l ∧ l < M24.length := by intro l hl; have := f30 l hl; (try simp only [List.length_append, List.length_cons, List.length_nil] at this); omega
  have ln32 : M12.length ≤ M24.length := by have := p27.length_le; (try simp only [List.length_append, List.length_cons, List.length_nil] at this); omega
  have o33 := Own.grow p27 o21
  have o34 := Own.grow p27 o17
  have z35 : M <+: M24 := z22.trans p27
  obtain ⟨M37, u40, p38, s39, o41⟩ := d_spec_PairDraws M24 n u2 a (o33).rep h1_a u13 b (o34).rep h1_b u25 ds (o29).rep h1_ds
  have ln42 : M24.length ≤ M37.length := by have := p38.length_le; (try simp only [List.length_append, List.length_cons, List.length_nil] at this); omega
  have o43 := Own.grow p38 o33
  have o44 := Own.grow p38 o34
  have o45 := Own.grow p38 o29
  have z46 : M <+: M37 := z35.trans p38
  obtain ⟨M47, u48, L49, p50, t51, o52, f53⟩ := d_laws_toIntS M37 v_a a (h_a.mono (z46)) h1_a
  have g54 : ∀ l ∈ L49, M37.length ≤ l ∧ l < M47.length := by intro l hl; have := f53 l hl; (try simp only [List.length_append, List.length_cons, List.length_nil] at this); omega
  have ln55 : M37.length ≤ M47.length := by have := p50.length_le; (try simp only [List.length_append, List.length_cons, List.length_nil] at this); omega
  have o56 := Own.grow p50 o43
  have o57 := Own.grow p50 o44
  have o58 := Own.grow p50 o45
  have z59 : M <+: M47 := z46.trans p50
  have y60 : M37 <+: M47 := (List.prefix_refl _).trans p50
  obtain ⟨M62, u63, L64, p65, t66, o67, f68⟩ := d_laws_toIntS M47 v_b b (h_b.mono (z59)) h1_b
  have g69 : ∀ l ∈ L64, M47.length ≤ l ∧ l < M62.length := by intro l hl; have := f68 l hl; (try simp only [List.length_append, List.length_cons, List.length_nil] at this); omega
  have ln70 : M47.length ≤ M62.length := by have := p65.length_le; (try simp only [List.length_append, List.length_cons, List.length_nil] at this); omega
  have o71 := Own.grow p65 o56
  have o72 := Own.grow p65 o57
  have o73 := Own.grow p65 o58
  have o74 := Own.grow p65 o52
  have z75 : M <+: M62 := z59.trans p65
  have y76 : M37 <+: M62 := y60.trans p65
  obtain ⟨M78, u79, L80, p81, t82, o83, f84⟩ := d_laws_toIntS M62 v_ds ds (h_ds.mono (z75)) h1_ds
  have g85 : ∀ l ∈ L80, M62.length ≤ l ∧ l < M78.length := by intro l hl; have := f84 l hl; (try simp only [List.length_append, List.length_cons, List.length_nil] at this); omega
  have ln86 : M62.length ≤ M78.length := by have := p81.length_le; (try simp only [List.length_append, List.length_cons, List.length_nil] at this); omega
  have o87 := Own.grow p81 o71
  have o88 := Own.grow p81 o72
  have o89 := Own.grow p81 o73
  have o90 := Own.grow p81 o74
  have o91 := Own.grow p81 o67
  have z92 : M <+: M78 := z75.trans p81
  have y93 : M37 <+: M78 := y76.trans p81
  obtain ⟨M95, u98, L99, p96, s97, o100, f101⟩ := d_impl_PairDraws M78 n u48 a (o90).rep h1_a u63 b (o91).rep h1_b u79 ds (o83).rep h1_ds
  have ln102 : M78.length ≤ M95.length := by have := p96.length_le; (try simp only [List.length_append, List.length_cons, List.length_nil] at this); omega
  have o103 := Own.grow p96 o87
  have o104 := Own.grow p96 o88
  have o105 := Own.grow p96 o89
  have o106 := Own.grow p96 o90
  have o107 := Own.grow p96 o91
  have o108 := Own.grow p96 o83
  have z109 : M <+: M95 := z92.trans p96
  have y110 : M37 <+: M95 := y93.trans p96
  have g111 : ∀ l ∈ L99, M78.length ≤ l ∧ l < M95.length := by intro l hl; have := f101 l hl; (try simp only [List.length_append, List.length_cons, List.length_nil] at this); omega
  have e113 := (c_laws_eqIntS M95 u98 u40 _ _ (o100).rep (o41.mono (y110)) (by have := hb_pairR; omega)).trans (show _ = some (Go.Value.bool true, M95) by simp)
  obtain ⟨M114, u115, L116, p117, t118, o119, f120⟩ := d_laws_toIntS M95 v_a a (h_a.mono (z109)) h1_a
  have g121 : ∀ l ∈ L116, M95.length ≤ l ∧ l < M114.length := by intro l hl; have := f120 l hl; (try simp only [List.length_append, List.length_cons, List.length_nil] at this); omega
  have ln122 : M95.length ≤ M114.length := by have := p117.length_le; (try simp only [List.length_append, List.length_cons, List.length_nil] at this); omega
  have o123 := Own.grow p117 o103
  have o124 := Own.grow p117 o104
  have o125 := Own.grow p117 o105
  have o126 := Own.grow p117 o106
  have o127 := Own.grow p117 o107
  have o128 := Own.grow p117 o108
  have o129 := Own.grow p117 o100
  have z130 : M <+: M114 := z109.trans p117
  have y131 : M37 <+: M114 := y110.trans p117
  have e133 := (c_laws_eqIntS M114 u48 u115 _ _ (o126).rep (o119).rep (by omega)).trans (show _ = some (Go.Value.bool true, M114) by simp)
  obtain ⟨M134, u135, L136, p137, t138, o139, f140⟩ := d_laws_toIntS M114 v_b b (h_b.mono (z130)) h1_b
  have g141 : ∀ l ∈ L136, M114.length ≤ l ∧ l < M134.length := by intro l hl; have := f140 l hl; (try simp only [List.length_append, List.length_cons, List.length_nil] at this); omega
  have ln142 : M114.length ≤ M134.length := by have := p137.length_le; (try simp only [List.length_append, List.length_cons, List.length_nil] at this); omega
  have o143 := Own.grow p137 o123
  have o144 := Own.grow p137 o124
  have o145 := Own.grow p137 o125
  have o146 := Own.grow p137 o126
  have o147 := Own.grow p137 o127
  have o148 := Own.grow p137 o128
  have o149 := Own.grow p137 o129
  have o150 := Own.grow p137 o119
  have z151 : M <+: M134 := z130.trans p137
  have y152 : M37 <+: M134 := y131.trans p137
  have e154 := (c_laws_eqIntS M134 u63 u135 _ _ (o147).rep (o139).rep (by omega)).trans (show _ = some (Go.Value.bool true, M134) by simp)
  obtain ⟨M155, u156, L157, p158, t159, o160, f161⟩ := d_laws_toIntS M134 v_ds ds (h_ds.mono (z151)) h1_ds
  have g162 : ∀ l ∈ L157, M134.length ≤ l ∧ l < M155.length := by intro l hl; have := f161 l hl; (try simp only [List.length_append, List.length_cons, List.length_nil] at this); omega
  have ln163 : M134.length ≤ M155.length := by have := p158.length_le; (try simp only [List.length_append, List.length_cons, List.length_nil] at this); omega
  have o164 := Own.grow p158 o143
  have o165 := Own.grow p158 o144
  have o166 := Own.grow p158 o145
  have o167 := Own.grow p158 o146
  have o168 := Own.grow p158 o147
  have o169 := Own.grow p158 o148
  have o170 := Own.grow p158 o149
  have o171 := Own.grow p158 o150
  have o172 := Own.grow p158 o139
  have z173 : M <+: M155 := z151.trans p158
  have y174 : M37 <+: M155 := y152.trans p158
  have e176 := (c_laws_eqIntS M155 u79 u156 _ _ (o169).rep (o160).rep (by omega)).trans (show _ = some (Go.Value.bool true, M155) by simp)
  obtain ⟨M177, m178, up179, o180⟩ := d_laws_markIntS M155 u48 _ L49 o167 (1) (by omega) (by omega)
  have ln181 : M155.length ≤ M177.length := by have := up179.1; (try simp only [List.length_append, List.length_cons, List.length_nil] at this); omega
  have o182 := Own.updg up179 (o164) (fun l hl hk => by have := g8 l hl; have := g54 l hk; omega)
  have o183 := Own.updg up179 (o165) (fun l hl hk => by have := g19 l hl; have := g54 l hk; omega)
  have o184 := Own.updg up179 (o166) (fun l hl hk => by have := g31 l hl; have := g54 l hk; omega)
  have o186 := Own.updg up179 (o168) (fun l hl hk => by have := g69 l hl; have := g54 l hk; omega)
  have o187 := Own.updg up179 (o169) (fun l hl hk => by have := g85 l hl; have := g54 l hk; omega)
  have o188 := Own.updg up179 (o170) (fun l hl hk => by have := g111 l hl; have := g54 l hk; omega)
  have o189 := Own.updg up179 (o171) (fun l hl hk => by have := g121 l hl; have := g54 l hk; omega)
  have o190 := Own.updg up179 (o172) (fun l hl hk => by have := g141 l hl; have := g54 l hk; omega)
  have o191 := Own.updg up179 (o160) (fun l hl hk => by have := g162 l hl; have := g54 l hk; omega)
  have z192 : M <+: M177 := UpdG.pre up179 (z173) (fun l hl => by have := g54 l hl; omega)
  have y193 : M37 <+: M177 := UpdG.pre up179 (y174) (fun l hl => by have := g54 l hl; omega)
  obtain ⟨M194, m195, up196, o197⟩ := d_laws_markIntS M177 u63 _ L64 o186 (1 + (a.length : Int)) (by omega) (by omega)
  have ln198 : M177.length ≤ M194.length := by have := up196.1; (try simp only [List.length_append, List.length_cons, List.length_nil] at this); omega
  have o199 := Own.updg up196 (o182) (fun l hl hk => by have := g8 l hl; have := g69 l hk; omega)
  have o200 := Own.updg up196 (o183) (fun l hl hk => by have := g19 l hl; have := g69 l hk; omega)
  have o201 := Own.updg up196 (o184) (fun l hl hk => by have := g31 l hl; have := g69 l hk; omega)
  have o202 := Own.updg up196 (o180) (fun l hl hk => by have := g54 l hl; have := g69 l hk; omega)
  have o204 := Own.updg up196 (o187) (fun l hl hk => by have := g85 l hl; have := g69 l hk; omega)
  have o205 := Own.updg up196 (o188) (fun l hl hk => by have := g111 l hl; have := g69 l hk; omega)
  have o206 := Own.updg up196 (o189) (fun l hl hk => by have := g121 l hl; have := g69 l hk; omega)
  have o207 := Own.updg up196 (o190) (fun l hl hk => by have := g141 l hl; have := g69 l hk; omega)
  have o208 := Own.updg up196 (o191) (fun l hl hk => by have := g162 l hl; have := g69 l hk; omega)
  have z209 : M <+: M194 := UpdG.pre up196 (z192) (fun l hl => by have := g69 l hl; omega)
  have y210 : M37 <+: M194 := UpdG.pre up196 (y193) (fun l hl => by have := g69 l hl; omega)
  obtain ⟨M211, m212, up213, o214⟩ := d_laws_markIntS M194 u79 _ L80 o204 (1 + (a.length : Int) + (b.length : Int)) (by omega) (by omega)
  have ln215 : M194.length ≤ M211.length := by have := up213.1; (try simp only [List.length_append, List.length_cons, List.length_nil] at this); omega
  have o216 := Own.updg up213 (o199) (fun l hl hk => by have := g8 l hl; have := g85 l hk; omega)
  have o217 := Own.updg up213 (o200) (fun l hl hk => by have := g19 l hl; have := g85 l hk; omega)
  have o218 := Own.updg up213 (o201) (fun l hl hk => by have := g31 l hl; have := g85 l hk; omega)
  have o219 := Own.updg up213 (o202) (fun l hl hk => by have := g54 l hl; have := g85 l hk; omega)
  have o220 := Own.updg up213 (o197) (fun l hl hk => by have := g69 l hl; have := g85 l hk; omega)
  have o222 := Own.updg up213 (o205) (fun l hl hk => by have := g111 l hl; have := g85 l hk; omega)
  have o223 := Own.updg up213 (o206) (fun l hl hk => by have := g121 l hl; have := g85 l hk; omega)
  have o224 := Own.updg up213 (o207) (fun l hl hk => by have := g141 l hl; have := g85 l hk; omega)
  have o225 := Own.updg up213 (o208) (fun l hl hk => by have := g162 l hl; have := g85 l hk; omega)
  have z226 : M <+: M211 := UpdG.pre up213 (z209) (fun l hl => by have := g85 l hl; omega)
  have y227 : M37 <+: M211 := UpdG.pre up213 (y210) (fun l hl => by have := g85 l hl; omega)
  have c228 : ¬ (1 + (a.length : Int) + (b.length : Int) + (ds.length : Int) < 0) := by omega
  have e229 := (c_laws_eqIntS M211 u98 u40 _ _ (o222).rep (o41.mono (y227)) (by have := hb_pairR; omega)).trans (show _ = some (Go.Value.bool true, M211) by simp)
  obtain ⟨M230, m231, up232, o233⟩ := d_laws_markIntS M211 u98 _ L99 o222 (1) (by omega) (by omega)
  have ln234 : M211.length ≤ M230.length := by have := up232.1; (try simp only [List.length_append, List.length_cons, List.length_nil] at this); omega
  have o235 := Own.updg up232 (o216) (fun l hl hk => by have := g8 l hl; have := g111 l hk; omega)
  have o236 := Own.updg up232 (o217) (fun l hl hk => by have := g19 l hl; have := g111 l hk; omega)
  have o237 := Own.updg up232 (o218) (fun l hl hk => by have := g31 l hl; have := g111 l hk; omega)
  have o238 := Own.updg up232 (o219) (fun l hl hk => by have := g54 l hl; have := g111 l hk; omega)
  have o239 := Own.updg up232 (o220) (fun l hl hk => by have := g69 l hl; have := g111 l hk; omega)
  have o240 := Own.updg up232 (o214) (fun l hl hk => by have := g85 l hl; have := g111 l hk; omega)
  have o242 := Own.updg up232 (o223) (fun l hl hk => by have := g121 l hl; have := g111 l hk; omega)
  have o243 := Own.updg up232 (o224) (fun l hl hk => by have := g141 l hl; have := g111 l hk; omega)
  have o244 := Own.updg up232 (o225) (fun l hl hk => by have := g162 l hl; have := g111 l hk; omega)
  have z245 : M <+: M230 := UpdG.pre up232 (z226) (fun l hl => by have := g111 l hl; omega)
  have y246 : M37 <+: M230 := UpdG.pre up232 (y227) (fun l hl => by have := g111 l hl; omega)
  have c247 : ¬ (1 + ((pairR n a b ds).length : Int) < 0) := by omega
  have d248 := d_laws_heldIntS M230 u98 (1) _ (o233).rep (by omega) (by omega)
  have c249 : ¬ (1 + ((pairR n a b ds).length : Int) < 0) := by omega
  obtain ⟨M250, u251, L252, p253, t254, o255, f256⟩ := d_laws_toIntS M230 v_a a (h_a.mono (z245)) h1_a
  have g257 : ∀ l ∈ L252, M230.length ≤ l ∧ l < M250.length := by intro l hl; have := f256 l hl; (try simp only [List.length_append, List.length_cons, List.length_nil] at this); omega
  have ln258 : M230.length ≤ M250.length := by have := p253.length_le; (try simp only [List.length_append, List.length_cons, List.length_nil] at this); omega
  have o259 := Own.grow p253 o235
  have o260 := Own.grow p253 o236
  have o261 := Own.grow p253 o237
  have o262 := Own.grow p253 o238
  have o263 := Own.grow p253 o239
  have o264 := Own.grow p253 o240
  have o265 := Own.grow p253 o233
  have o266 := Own.grow p253 o242
  have o267 := Own.grow p253 o243
  have o268 := Own.grow p253 o244
  have z269 : M <+: M250 := z245.trans p253
  have y270 : M37 <+: M250 := y246.trans p253
  obtain ⟨M272, u273, L274, p275, t276, o277, f278⟩ := d_laws_toIntS M250 v_b b (h_b.mono (z269)) h1_b
  have g279 : ∀ l ∈ L274, M250.length ≤ l ∧ l < M272.length := by intro l hl; have := f278 l hl; (try simp only [List.length_append, List.length_cons, List.length_nil] at this); omega
  have ln280 : M250.length ≤ M272.length := by have := p275.length_le; (try simp only [List.length_append, List.length_cons, List.length_nil] at this); omega
  have o281 := Own.grow p275 o259
  have o282 := Own.grow p275 o260
  have o283 := Own.grow p275 o261
  have o284 := Own.grow p275 o262
  have o285 := Own.grow p275 o263
  have o286 := Own.grow p275 o264
  have o287 := Own.grow p275 o265
  have o288 := Own.grow p275 o266
  have o289 := Own.grow p275 o267
  have o290 := Own.grow p275 o268
  have o291 := Own.grow p275 o255
  have z292 : M <+: M272 := z269.trans p275
  have y293 : M37 <+: M272 := y270.trans p275
  obtain ⟨M295, u296, L297, p298, t299, o300, f301⟩ := d_laws_toIntS M272 v_ds ds (h_ds.mono (z292)) h1_ds
  have g302 : ∀ l ∈ L297, M272.length ≤ l ∧ l < M295.length := by intro l hl; have := f301 l hl; (try simp only [List.length_append, List.length_cons, List.length_nil] at this); omega
  have ln303 : M272.length ≤ M295.length := by have := p298.length_le; (try simp only [List.length_append, List.length_cons, List.length_nil] at this); omega
  have o304 := Own.grow p298 o281
  have o305 := Own.grow p298 o282
  have o306 := Own.grow p298 o283
  have o307 := Own.grow p298 o284
  have o308 := Own.grow p298 o285
  have o309 := Own.grow p298 o286
  have o310 := Own.grow p298 o287
  have o311 := Own.grow p298 o288
  have o312 := Own.grow p298 o289
  have o313 := Own.grow p298 o290
  have o314 := Own.grow p298 o291
  have o315 := Own.grow p298 o277
  have z316 : M <+: M295 := z292.trans p298
  have y317 : M37 <+: M295 := y293.trans p298
  obtain ⟨M319, u322, L323, p320, s321, o324, f325⟩ := d_impl_PairDraws M295 n u251 a (o314).rep h1_a u273 b (o315).rep h1_b u296 ds (o300).rep h1_ds
  have ln326 : M295.length ≤ M319.length := by have := p320.length_le; (try simp only [List.length_append, List.length_cons, List.length_nil] at this); omega
  have o327 := Own.grow p320 o304
  have o328 := Own.grow p320 o305
  have o329 := Own.grow p320 o306
  have o330 := Own.grow p320 o307
  have o331 := Own.grow p320 o308
  have o332 := Own.grow p320 o309
  have o333 := Own.grow p320 o310
  have o334 := Own.grow p320 o311
  have o335 := Own.grow p320 o312
  have o336 := Own.grow p320 o313
  have o337 := Own.grow p320 o314
  have o338 := Own.grow p320 o315
  have o339 := Own.grow p320 o300
  have z340 : M <+: M319 := z316.trans p320
  have y341 : M37 <+: M319 := y317.trans p320
  have g342 : ∀ l ∈ L323, M295.length ≤ l ∧ l < M319.length := by intro l hl; have := f325 l hl; (try simp only [List.length_append, List.length_cons, List.length_nil] at this); omega
  have e344 := (c_laws_eqIntS M319 u322 u40 _ _ (o324).rep (o41.mono (y341)) (by have := hb_pairR; omega)).trans (show _ = some (Go.Value.bool true, M319) by simp)
  have d345 := d_laws_heldIntS M319 u98 (1) _ (o333).rep (by omega) (by omega)
  have c346 : ¬ (1 + ((pairR n a b ds).length : Int) < 0) := by omega
  obtain ⟨_, _, rfl⟩ := h_a.slen
  obtain ⟨_, _, rfl⟩ := h_b.slen
  obtain ⟨_, _, rfl⟩ := h_ds.slen
  obtain ⟨_, _, rfl⟩ := ((o327).rep).slen
  obtain ⟨_, _, rfl⟩ := ((o328).rep).slen
  obtain ⟨_, _, rfl⟩ := ((o329).rep).slen
  obtain ⟨_, _, rfl⟩ := (o41).slen
  obtain ⟨_, _, rfl⟩ := ((o330).rep).slen
  obtain ⟨_, _, rfl⟩ := ((o331).rep).slen
  obtain ⟨_, _, rfl⟩ := ((o332).rep).slen
  obtain ⟨_, _, rfl⟩ := ((o333).rep).slen
  obtain ⟨_, _, rfl⟩ := ((o334).rep).slen
  obtain ⟨_, _, rfl⟩ := ((o335).rep).slen
  obtain ⟨_, _, rfl⟩ := ((o336).rep).slen
  obtain ⟨_, _, rfl⟩ := ((o337).rep).slen
  obtain ⟨_, _, rfl⟩ := ((o338).rep).slen
  obtain ⟨_, _, rfl⟩ := ((o339).rep).slen
  obtain ⟨_, _, rfl⟩ := ((o324).rep).slen
  rw [aCall_eq T_laws_FnExactPairDraws]; unfold A_laws_FnExactPairDraws C_laws_FnExactPairDraws; simp (maxSteps := 4000000) [hg_a, hg_b, hg_ds, t5, p4, t16, p15, t28, p27, s39, p38, t51, p50, t66, p65, t82, p81, s97, p96, e113, t118, p117, e133, t138, p137, e154, t159, p158, e176, m178, m195, m212, c228, e229, m231, c247, d248, c249, t254, p253, t276, p275, t299, p298, s321, p320, e344, d345, c346, thenD_pre]
  all_goals exact gc_ex _ _ _
theorem law_laws_FnExactPairDraws (M : Mem) (avs : List V) (_ : ∀ b ∈ M, b.st ≠ 2) (h : Ins [(false, (.int .i64)), (false, (.sl (.int .i64))), (false, (.sl (.int .i64))), (false, (.sl (.int .i64)))] M avs) : ∃ M', aCall T0 F_laws_FnExactPairDraws avs M = some (.bool true, M') := by
  obtain ⟨v_n, _, n, rfl, h_n, f_n, h⟩ := ins_cons h
  obtain ⟨v_a, _, a, rfl, h_a, f_a, h⟩ := ins_cons h
  obtain ⟨v_b, _, b, rfl, h_b, f_b, h⟩ := ins_cons h
  obtain ⟨v_ds, _, ds, rfl, h_ds, f_ds, h⟩ := ins_cons h
  obtain rfl := ins_nil h
  obtain ⟨h_n, _⟩ := repv_one h_n
  cases h_n
  exact c_laws_FnExactPairDraws M n v_a a (repv_one h_a) f_a.1 v_b b (repv_one h_b) f_b.1 v_ds ds (repv_one h_ds) f_ds.1
end GoAm
