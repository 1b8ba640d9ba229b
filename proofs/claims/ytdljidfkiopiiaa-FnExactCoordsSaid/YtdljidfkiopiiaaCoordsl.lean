/- What the functions do that the law reaches; and the law. -/
import Derived.Test.YtdljidfkiopiiaaCoordst
import Derived.Test.YtdljidfkiopiiaaAmOwn
set_option autoImplicit false
set_option linter.unusedVariables false
set_option linter.unusedSimpArgs false
namespace GoAm
open Go
theorem c_impl_within (M : Mem) (x a b : Int) : aCall T0 F_impl_within [.int .i64 x, .int .i64 a, .int .i64 b] M = some (.bool (decide (a ≤ x) && decide (x ≤ b)), M) := by
  rw [aCall_eq T_impl_within]; unfold A_impl_within C_impl_within; simp
  repeat' ((first | rw [selO_some] | rw [condR_bool] | rw [selD_some]); split <;> rename_i hq <;> (have hq2 := hq) <;> (try simp at hq2) <;> (try simp [*]))
def hs (h : Nat) (b : UInt8) : Nat := ((h ^^^ b.toNat) * 16777619) % 4294967296
abbrev ty_Int : Ty := .int .i64
abbrev enc_Int (x : ty_Int.D) : List V := [.int .i64 x]
theorem at_Int {M : Mem} {a : Option Addr} {n c : Nat} {xs : List ty_Int.D} (h : Rep (.sl ty_Int) M [.slice a n c] xs) {i : Nat} (hi : i < xs.length) : ∃ l o, a = some ⟨l, o, none⟩ ∧ Rep ty_Int M (enc_Int xs[i]) xs[i] ∧ rd1 M l (o + i) = some (.int .i64 xs[i]) := by
  obtain ⟨_, l, o, rfl, cs, hrd, hrep⟩ := rep_at h hi
  have hcs : cs = enc_Int xs[i] := hrep.1
  subst hcs
  have hw1 : ty_Int.w = 1 := rfl
  rw [hw1, Nat.mul_one] at hrd
  exact ⟨l, o, rfl, hrep, rd1_of_one hrd⟩
def z_Int : List V := [.int .i64 0]
theorem r_laws_toIntS (M : Mem) (a : Option Addr) (c : Nat) (xs : List ty_Int.D) (h : Rep (.sl ty_Int) M [.slice a xs.length c] xs) (hn : xs.length ≤ 1048576) (i : Nat) (hi : i < xs.length) :
    lp (aCall T0) K_laws_toIntS_0 L_laws_toIntS_0 [.slice a xs.length c, und, und, .slice (some ⟨M.length, 0, none⟩) xs.length xs.length, .int .i64 i, und, und, und, und, und, und, und, und, und, und, und, und, und, und, und, und, und] (M ++ [⟨tcells enc_Int z_Int xs i, 1, 2⟩]) =
    lp (aCall T0) K_laws_toIntS_0 L_laws_toIntS_0 [.slice a xs.length c, und, und, .slice (some ⟨M.length, 0, none⟩) xs.length xs.length, .int .i64 (i + 1 : Nat), und, und, und, und, und, und, und, und, und, und, und, und, und, und, und, und, und] (M ++ [⟨tcells enc_Int z_Int xs (i + 1), 1, 2⟩]) := by
  obtain ⟨l, o, rfl, hrep, hrd⟩ := at_Int h hi
  have hrd2 : rd1 (M ++ [⟨tcells enc_Int z_Int xs i, 1, 2⟩]) l (o + i) = some (.int .i64 xs[i]) := rd1_old hrd
  have e2 := tcells_len (enc := enc_Int) (z := z_Int) (xs := xs) (fun x _ => rfl) (i := i) (by omega)
  have e3 := tcells_step (enc := enc_Int) (z := z_Int) (xs := xs) (fun x _ => rfl) hi
  have e4 : z_Int.length = 1 := rfl
  rw [e4, Nat.mul_one] at e2 e3
  have e5 : i + 1 ≤ xs.length := by omega
  have e6 : IntKind.i64.wrap ((i : Int) + 1) = i + 1 := wrap_i64 (by omega) (by omega)
  unfold splice at e3
  simp at e3
  rw [S_laws_toIntS_0]; unfold B_laws_toIntS_0; simp [hrd2, e2, e3, e5, e6, hi]
theorem c_laws_toIntS (M : Mem) (v : V) (xs : List ty_Int.D) (h : Rep (.sl ty_Int) M [v] xs) (hn : xs.length ≤ 1048576) :
    aCall T0 F_laws_toIntS [v] M = some (.slice (some ⟨M.length, 0, none⟩) xs.length xs.length, M ++ [⟨(xs.map enc_Int).flatten, 1, 2⟩]) := by
  obtain ⟨a, c, rfl⟩ := h.slen
  have hl := chain (g := fun i : Nat => lp (aCall T0) K_laws_toIntS_0 L_laws_toIntS_0 [.slice a xs.length c, und, und, .slice (some ⟨M.length, 0, none⟩) xs.length xs.length, .int .i64 i, und, und, und, und, und, und, und, und, und, und, und, und, und, und, und, und, und] (M ++ [⟨tcells enc_Int z_Int xs i, 1, 2⟩])) (n := xs.length) fun i hi => r_laws_toIntS M a c xs h hn i hi
  simp only [Int.natCast_zero, Int.ofNat_zero, tcells_zero, tcells_full] at hl
  unfold z_Int at hl
  simp only [zeroCells_zc] at hl
  have e1 : (xs.length : Int) * 8 ≤ 281474976710656 := by omega
  have e2 : (xs.length : Int) ≤ 9223372036854775807 := by omega
  rw [aCall_eq T_laws_toIntS]; unfold A_laws_toIntS C_laws_toIntS; simp [e1, e2]
  rw [hl]
  rw [S_laws_toIntS_0]; unfold B_laws_toIntS_0; simp
theorem r_laws_eqIntS (M : Mem) (a b : Option Addr) (c d : Nat) (xs ys : List ty_Int.D) (h : Rep (.sl ty_Int) M [.slice a xs.length c] xs) (h2 : Rep (.sl ty_Int) M [.slice b ys.length d] ys) (hn : xs.length ≤ 9223372036854775807) (i : Nat) (hi : i < xs.length) (hj : i < ys.length) (he : xs[i] = ys[i]) :
    lp (aCall T0) K_laws_eqIntS_0 L_laws_eqIntS_0 [.slice a xs.length c, .slice b ys.length d, und, und, und, .int .i64 i, und, und, und, und, und, und, und, und, und, und, und, und, und, und, und, und, und, und, und, und] M = lp (aCall T0) K_laws_eqIntS_0 L_laws_eqIntS_0 [.slice a xs.length c, .slice b ys.length d, und, und, und, .int .i64 (i + 1 : Nat), und, und, und, und, und, und, und, und, und, und, und, und, und, und, und, und, und, und, und, und] M := by
  obtain ⟨l, o, rfl, _, hrd⟩ := at_Int h hi
  obtain ⟨l2, o2, rfl, _, hrd2⟩ := at_Int h2 hj
  have e6 : IntKind.i64.wrap ((i : Int) + 1) = i + 1 := wrap_i64 (by omega) (by omega)
  rw [S_laws_eqIntS_0]; unfold B_laws_eqIntS_0; simp [hrd, hrd2, e6, hi, hj, he]
theorem x_laws_eqIntS (M : Mem) (a b : Option Addr) (c d : Nat) (xs ys : List ty_Int.D) (h : Rep (.sl ty_Int) M [.slice a xs.length c] xs) (h2 : Rep (.sl ty_Int) M [.slice b ys.length d] ys) (hn : xs.length ≤ 9223372036854775807) (i : Nat) (hi : i < xs.length) (hj : i < ys.length) (he : xs[i] ≠ ys[i]) (k : ACode) :
    thenF M [.tmp 4] (thenS (blockR 0 (lp (aCall T0) K_laws_eqIntS_0 L_laws_eqIntS_0 [.slice a xs.length c, .slice b ys.length d, und, und, und, .int .i64 i, und, und, und, und, und, und, und, und, und, und, und, und, und, und, und, und, und, und, und, und] M)) (aCall T0) k) = some (.bool false, M) := by
  obtain ⟨l, o, rfl, _, hrd⟩ := at_Int h hi
  obtain ⟨l2, o2, rfl, _, hrd2⟩ := at_Int h2 hj
  rw [S_laws_eqIntS_0]; unfold B_laws_eqIntS_0; simp [hrd, hrd2, hi, hj, he]
theorem c_laws_eqIntS (M : Mem) (v u : V) (xs ys : List Int) (h : Rep (.sl ty_Int) M [v] xs) (h2 : Rep (.sl ty_Int) M [u] ys) (hn : xs.length ≤ 9223372036854775807) : aCall T0 F_laws_eqIntS [v, u] M = some (.bool (decide (xs = ys)), M) := by
  obtain ⟨a, c, rfl⟩ := h.slen
  obtain ⟨b, d, rfl⟩ := h2.slen
  by_cases hl : xs.length = ys.length
  · rcases list_eq_iff hl with he | ⟨j, hj, h3, h4⟩
    · subst he
      have hc := chain (g := fun i : Nat => lp (aCall T0) K_laws_eqIntS_0 L_laws_eqIntS_0 [.slice a xs.length c, .slice b xs.length d, und, und, und, .int .i64 i, und, und, und, und, und, und, und, und, und, und, und, und, und, und, und, und, und, und, und, und] M) (n := xs.length) fun i hi => r_laws_eqIntS M a b c d xs xs h h2 hn i hi hi rfl
      simp only [Int.natCast_zero, Int.ofNat_zero] at hc
      rw [aCall_eq T_laws_eqIntS]; unfold A_laws_eqIntS C_laws_eqIntS; simp [hc]
      rw [S_laws_eqIntS_0]; unfold B_laws_eqIntS_0; simp
    · have hc := chain (g := fun i : Nat => lp (aCall T0) K_laws_eqIntS_0 L_laws_eqIntS_0 [.slice a xs.length c, .slice b ys.length d, und, und, und, .int .i64 i, und, und, und, und, und, und, und, und, und, und, und, und, und, und, und, und, und, und, und, und] M) (n := j) fun i hi => r_laws_eqIntS M a b c d xs ys h h2 hn i (by omega) (by omega) (h3 i (by omega) hi)
      simp only [Int.natCast_zero, Int.ofNat_zero] at hc
      have hx := x_laws_eqIntS M a b c d xs ys h h2 hn j hj (by omega) h4
      have hne : xs ≠ ys := fun e => h4 (by simp [e])
      simp only [← hl] at hc hx
      simp only [← hl]
      rw [aCall_eq T_laws_eqIntS]; unfold A_laws_eqIntS C_laws_eqIntS; simp [hc, hx, hne]
  · have hne : xs ≠ ys := fun e => hl (by rw [e])
    have hl2 : ¬ ((xs.length : Int) = ys.length) := by omega
    rw [aCall_eq T_laws_eqIntS]; unfold A_laws_eqIntS C_laws_eqIntS; simp [hl2, hl, hne]
def marksI (k : Int) (n : Nat) : List Int := (List.range n).map fun (j : Nat) => k + (j : Int)
theorem marksI_len (k : Int) (n : Nat) : (marksI k n).length = n := by simp [marksI]
theorem marksI_get (k : Int) (n i : Nat) (hi : i < (marksI k n).length) : (marksI k n)[i] = k + i := by simp [marksI]
theorem marksI_succ (k : Int) (n : Nat) : marksI k (n + 1) = marksI k n ++ [k + n] := by simp [marksI, List.range_succ]
def markB (blk : Blk) (o : Nat) (k : Int) (i : Nat) : Blk := { blk with cells := splice blk.cells o ((marksI k i).map fun n => .int .i64 n) }
theorem splice_snoc (cs ys : List V) (o : Nat) (y : V) (h : o + ys.length + 1 ≤ cs.length) : splice (splice cs o ys) (o + ys.length) [y] = splice cs o (ys ++ [y]) := by
  have e1 : (cs.take o ++ ys).length = o + ys.length := by simp; omega
  unfold splice
  rw [← e1, List.take_left', List.append_assoc (cs.take o) ys]
  · simp only [List.length_append, List.length_cons, List.length_nil, List.append_assoc]
    congr 2
    rw [← List.append_assoc, List.drop_append, List.drop_eq_nil_of_le (by simp)]
    simp
    congr 1
    omega
  · rfl
theorem splice_len (cs ys : List V) (o : Nat) (h : o + ys.length ≤ cs.length) : (splice cs o ys).length = cs.length := by
  unfold splice; simp; omega
theorem wrn_mark (M : Mem) (l o : Nat) (blk : Blk) (hb : M[l]? = some blk) (h2 : blk.st = 2) (k : Int) (n i : Nat) (ho : o + n ≤ blk.cells.length) (hi : i < n) : wrn (M.set l (markB blk o k i)) l (o + i) [.int .i64 (k + i)] = some (M.set l (markB blk o k (i + 1))) := by
  have hl := (List.getElem?_eq_some_iff.1 hb).1
  have e0 : (M.set l (markB blk o k i))[l]? = some (markB blk o k i) := by simp [hl]
  have e1 : ((marksI k i).map fun n => Value.int .i64 n).length = i := by simp [marksI_len]
  unfold wrn
  rw [e0]
  simp only
  have e2 : (markB blk o k i).cells.length = blk.cells.length := splice_len _ _ _ (by rw [e1]; omega)
  rw [if_pos ⟨h2, by rw [e2]; simp; omega, rfl⟩, List.set_set]
  congr 2
  unfold markB
  simp only
  congr 1
  have := splice_snoc blk.cells ((marksI k i).map fun n => Value.int .i64 n) o (.int .i64 (k + i)) (by rw [e1]; omega)
  rw [e1] at this
  rw [this, marksI_succ]
  simp
theorem r_laws_markIntS (M : Mem) (l o n c : Nat) (blk : Blk) (hb : M[l]? = some blk) (h2 : blk.st = 2) (k : Int) (hk : 0 ≤ k) (hk2 : k + n ≤ 4611686018427387904) (ho : o + n ≤ blk.cells.length) (i : Nat) (hi : i < n) :
    lp (aCall T0) K_laws_markIntS_0 L_laws_markIntS_0 [.slice (some ⟨l, o, none⟩) n c, .int .i64 (k + i), und, und, und, .int .i64 i, und, und, und, und, und, und, und, und, und, und, und, und, und] (M.set l (markB blk o k i)) =
    lp (aCall T0) K_laws_markIntS_0 L_laws_markIntS_0 [.slice (some ⟨l, o, none⟩) n c, .int .i64 (k + (i + 1 : Nat)), und, und, und, .int .i64 (i + 1 : Nat), und, und, und, und, und, und, und, und, und, und, und, und, und] (M.set l (markB blk o k (i + 1))) := by
  have e1 := wrn_mark M l o blk hb h2 k n i ho hi
  have e6 : IntKind.i64.wrap ((i : Int) + 1) = i + 1 := wrap_i64 (by omega) (by omega)
  have e7 : IntKind.i64.wrap (k + (i : Int) + 1) = k + (i + 1) := by rw [wrap_i64 (by omega) (by omega)]; omega
  rw [S_laws_markIntS_0]; unfold B_laws_markIntS_0; simp [e1, e6, e7, hi]
theorem own_mark {M : Mem} {v : V} {xs : List ty_Int.D} {L : List Nat} (h : Own (.sl ty_Int) M [v] xs L) : (xs = [] ∧ L = [] ∧ Rep (.sl ty_Int) M [v] []) ∨ ∃ l o c blk, xs ≠ [] ∧ v = .slice (some ⟨l, o, none⟩) xs.length c ∧ M[l]? = some blk ∧ blk.st = 2 ∧ blk.w = 1 ∧ o + xs.length ≤ blk.cells.length ∧ L = [l] := by
  rcases h with ⟨rfl, hL, hr⟩ | ⟨l, o, c, blk, css, Ls, hne, e, hb, h2, hw, hc, hLs, hel, hp, rfl⟩
  · exact .inl ⟨rfl, hL, hr⟩
  · right
    simp only [List.cons.injEq, and_true] at e
    refine ⟨l, o, c, blk, hne, e, hb, h2, hw, ?_, ?_⟩
    · have hone : ∀ cs ∈ css, cs.length = 1 := by
        intro cs hcs
        obtain ⟨i, hi, rfl⟩ := List.getElem_of_mem hcs
        have := (hel i css[i] (xs[i]'(by omega)) (Ls[i]'(by omega)) (by simp) (by simp) (by simp)).1.1
        rw [this]; rfl
      have := flat_len hone
      have hl := hp.length_le
      rw [this, List.length_drop] at hl
      have h0 := List.length_pos_iff.2 hne
      omega
    · have : Ls.flatten = [] := by
        rw [List.flatten_eq_nil_iff]
        intro K hK
        obtain ⟨i, hi, rfl⟩ := List.getElem_of_mem hK
        exact (hel i (css[i]'(by omega)) (xs[i]'(by omega)) Ls[i] (by simp) (by simp) (by simp)).2
      rw [this]
theorem flat_Int (xs : List Int) : (xs.map enc_Int).flatten = xs.map fun n => Value.int .i64 n := by
  induction xs with
  | nil => rfl
  | cons x xs ih => simp [enc_Int, ih]
theorem c_laws_markIntS (M : Mem) (v : V) (xs : List ty_Int.D) (L : List Nat) (h : Own (.sl ty_Int) M [v] xs L) (k : Int) (hk : 0 ≤ k) (hk2 : k + xs.length ≤ 4611686018427387904) :
    ∃ M', aCall T0 F_laws_markIntS [v, .int .i64 k] M = some (.int .i64 (k + xs.length), M') ∧ Upd M M' (· ∈ L) ∧ Own (.sl ty_Int) M' [v] (marksI k xs.length) L := by
  rcases own_mark h with ⟨rfl, rfl, hr⟩ | ⟨l, o, c, blk, hx, rfl, hb, h2, hw, ho, rfl⟩
  · refine ⟨M, ?_, ⟨rfl, fun _ _ => rfl, fun l b hb => ⟨b, hb, rfl⟩⟩, .inl ⟨rfl, rfl, hr⟩⟩
    obtain ⟨a, c, rfl⟩ := hr.slen
    rw [aCall_eq T_laws_markIntS]; unfold A_laws_markIntS C_laws_markIntS; simp
    rw [S_laws_markIntS_0]; unfold B_laws_markIntS_0; simp
  · have hl := chain (g := fun i : Nat => lp (aCall T0) K_laws_markIntS_0 L_laws_markIntS_0 [.slice (some ⟨l, o, none⟩) xs.length c, .int .i64 (k + i), und, und, und, .int .i64 i, und, und, und, und, und, und, und, und, und, und, und, und, und] (M.set l (markB blk o k i))) (n := xs.length) fun i hi => r_laws_markIntS M l o xs.length c blk hb h2 k hk hk2 ho i hi
    have e0 : M.set l (markB blk o k 0) = M := by
      have : markB blk o k 0 = blk := by simp [markB, marksI, splice]
      rw [this]
      exact List.ext_getElem? fun j => by
        rw [List.getElem?_set]
        split
        · rename_i e; subst e; split
          · exact hb.symm
          · rename_i hlt; rw [List.getElem?_eq_none (by omega)]
        · rfl
    simp only [Int.natCast_zero, Int.ofNat_zero, e0, Int.add_zero] at hl
    have hlt := (List.getElem?_eq_some_iff.1 hb).1
    refine ⟨M.set l (markB blk o k xs.length), ?_, ⟨by simp, fun j hj => ?_, fun j b' hj => ?_⟩, ?_⟩
    · rw [aCall_eq T_laws_markIntS]; unfold A_laws_markIntS C_laws_markIntS; simp [hl]
      rw [S_laws_markIntS_0]; unfold B_laws_markIntS_0; simp
      exact gc_len (by simp)
    · rw [List.getElem?_set_ne (fun e => hj (by simp [e]))]
    · by_cases e : l = j
      · subst e
        rw [hb] at hj
        cases hj
        exact ⟨markB blk o k xs.length, by simp [hlt], rfl⟩
      · exact ⟨b', by rw [List.getElem?_set_ne e, hj], rfl⟩
    · refine .inr ⟨l, o, c, markB blk o k xs.length, (marksI k xs.length).map enc_Int, (marksI k xs.length).map (fun _ => []), ?_, ?_, ?_, h2, hw, ?_, ?_, ?_, ?_, ?_⟩
      · intro e; have := congrArg List.length e; rw [marksI_len] at this; exact hx (List.length_eq_zero_iff.1 this)
      · rw [marksI_len]
      · simp [hlt]
      · simp
      · simp
      · intro i ds x K h1 h2 h3
        rw [List.getElem?_map, h2] at h1
        rw [List.getElem?_map, h2] at h3
        simp only [Option.map_some, Option.some.injEq] at h1 h3
        subst h1; subst h3
        obtain ⟨hi, rfl⟩ := List.getElem?_eq_some_iff.1 h2
        rw [marksI_get]
        have hi2 : i < xs.length := by rw [marksI_len] at hi; exact hi
        exact ⟨⟨rfl, by simp [Lit.wf, IntKind.min, IntKind.max, IntKind.signed, IntKind.bits]; omega⟩, rfl⟩
      · rw [flat_Int]
        unfold markB splice
        simp only
        rw [List.append_assoc, List.drop_append, List.drop_eq_nil_of_le (by simp; omega)]
        have : o - (List.take o blk.cells).length = 0 := by simp; omega
        rw [this]
        exact List.prefix_append _ _
      · have : ((marksI k xs.length).map (fun _ => ([] : List Nat))).flatten = [] := by
          rw [List.flatten_eq_nil_iff]
          intro K hK
          obtain ⟨_, _, rfl⟩ := List.mem_map.1 hK
          rfl
        rw [this]
theorem heldB (M : Mem) (v : V) (k : Int) (n : Nat) (h : Rep (.sl ty_Int) M [v] (marksI k n)) (hk : 0 ≤ k) (hk2 : k + n ≤ 4611686018427387904) : aCall T0 F_laws_heldIntS [v, .int .i64 k] M = some (.int .i64 (k + n), M) := by
  obtain ⟨a, c, rfl⟩ := h.slen
  have hlen := marksI_len k n
  have hc := chain (g := fun i : Nat => lp (aCall T0) K_laws_heldIntS_0 L_laws_heldIntS_0 [.slice a (marksI k n).length c, .int .i64 (k + i), und, und, und, .int .i64 i, und, und, und, und, und, und, und, und, und, und, und, und, und, und, und] M) (n := n) fun i hi => by
    obtain ⟨l, o, rfl, _, hrd⟩ := at_Int h (i := i) (by omega)
    rw [marksI_get] at hrd
    have hi2 : (i : Int) < (marksI k n).length := by omega
    have e6 : IntKind.i64.wrap ((i : Int) + 1) = i + 1 := wrap_i64 (by omega) (by omega)
    have e7 : IntKind.i64.wrap (k + (i : Int) + 1) = k + (i + 1) := by rw [wrap_i64 (by omega) (by omega)]; omega
    rw [hlen] at hi2 ⊢
    rw [S_laws_heldIntS_0]; unfold B_laws_heldIntS_0; simp [hrd, hi2, hi, e6, e7]
  simp only [Int.natCast_zero, Int.ofNat_zero, Int.add_zero] at hc
  rw [hlen] at hc ⊢
  rw [aCall_eq T_laws_heldIntS]; unfold A_laws_heldIntS C_laws_heldIntS; simp [hc]
  rw [S_laws_heldIntS_0]; unfold B_laws_heldIntS_0; simp
theorem r_idx_Int (M : Mem) (a : Option Addr) (c : Nat) (xs : List ty_Int.D) (h : Rep (.sl ty_Int) M [.slice a xs.length c] xs) (hn : xs.length ≤ 9223372036854775807) (f : FuncId) (cap : List V) (p : Int → Bool)
    (hp : ∀ i (hi : i < xs.length), aCall T0 f (.int .i64 xs[i] :: cap) M = some (.bool (p xs[i]), M)) (i : Nat) (hi : i < xs.length) (hq : p xs[i] = false) :
    lp (aCall T0) K_slices_IndexFunc_int_int_0 L_slices_IndexFunc_int_int_0 [.slice a xs.length c, .func (.func f) #[] cap.toArray, und, und, und, und, und, .int .i64 xs.length, .int .i64 i, und, und, und, und, und, und, und, und, und, und] M =
    lp (aCall T0) K_slices_IndexFunc_int_int_0 L_slices_IndexFunc_int_int_0 [.slice a xs.length c, .func (.func f) #[] cap.toArray, und, und, und, und, und, .int .i64 xs.length, .int .i64 (i + 1 : Nat), und, und, und, und, und, und, und, und, und, und] M := by
  obtain ⟨l, o, rfl, hrep, hrd⟩ := at_Int h hi
  have ec := hp i hi
  have e6 : IntKind.i64.wrap ((i : Int) + 1) = i + 1 := wrap_i64 (by omega) (by omega)
  rw [S_slices_IndexFunc_int_int_0]; unfold B_slices_IndexFunc_int_int_0; simp [hrd, ec, e6, hi, hq]
theorem x_idx_Int (M : Mem) (a : Option Addr) (c : Nat) (xs : List ty_Int.D) (h : Rep (.sl ty_Int) M [.slice a xs.length c] xs) (f : FuncId) (cap : List V) (p : Int → Bool)
    (hp : ∀ i (hi : i < xs.length), aCall T0 f (.int .i64 xs[i] :: cap) M = some (.bool (p xs[i]), M)) (i : Nat) (hi : i < xs.length) (hq : p xs[i] = true) (k : ACode) :
    thenF M [.tmp 4] (thenS (blockR 0 (lp (aCall T0) K_slices_IndexFunc_int_int_0 L_slices_IndexFunc_int_int_0 [.slice a xs.length c, .func (.func f) #[] cap.toArray, und, und, und, und, und, .int .i64 xs.length, .int .i64 i, und, und, und, und, und, und, und, und, und, und] M)) (aCall T0) k) = some (.int .i64 i, M) := by
  obtain ⟨l, o, rfl, hrep, hrd⟩ := at_Int h hi
  have ec := hp i hi
  rw [S_slices_IndexFunc_int_int_0]; unfold B_slices_IndexFunc_int_int_0; simp [hrd, ec, hi, hq]
theorem c_idx_Int (M : Mem) (v : V) (xs : List ty_Int.D) (h : Rep (.sl ty_Int) M [v] xs) (hn : xs.length ≤ 9223372036854775807) (f : FuncId) (cap : List V) (p : Int → Bool)
    (hp : ∀ i (hi : i < xs.length), aCall T0 f (.int .i64 xs[i] :: cap) M = some (.bool (p xs[i]), M)) :
    aCall T0 F_slices_IndexFunc_int_int [v, .func (.func f) #[] cap.toArray] M = some (.int .i64 (idx p xs), M) := by
  obtain ⟨a, c, rfl⟩ := h.slen
  rcases idx_cases p xs with ⟨ha, h1⟩ | ⟨j, hj, ha, h1, h2⟩
  · have hc := chain (g := fun i : Nat => lp (aCall T0) K_slices_IndexFunc_int_int_0 L_slices_IndexFunc_int_int_0 [.slice a xs.length c, .func (.func f) #[] cap.toArray, und, und, und, und, und, .int .i64 xs.length, .int .i64 i, und, und, und, und, und, und, und, und, und, und] M) (n := xs.length) fun i hi => r_idx_Int M a c xs h hn f cap p hp i hi (h1 i hi)
    simp only [Int.natCast_zero, Int.ofNat_zero] at hc
    rw [ha]
    rw [aCall_eq T_slices_IndexFunc_int_int]; unfold A_slices_IndexFunc_int_int C_slices_IndexFunc_int_int; simp [hc]
    rw [S_slices_IndexFunc_int_int_0]; unfold B_slices_IndexFunc_int_int_0; simp
  · have hc := chain (g := fun i : Nat => lp (aCall T0) K_slices_IndexFunc_int_int_0 L_slices_IndexFunc_int_int_0 [.slice a xs.length c, .func (.func f) #[] cap.toArray, und, und, und, und, und, .int .i64 xs.length, .int .i64 i, und, und, und, und, und, und, und, und, und, und] M) (n := j) fun i hi => r_idx_Int M a c xs h hn f cap p hp i (by omega) (h1 i (by omega) hi)
    simp only [Int.natCast_zero, Int.ofNat_zero] at hc
    rw [ha]
    rw [aCall_eq T_slices_IndexFunc_int_int]; unfold A_slices_IndexFunc_int_int C_slices_IndexFunc_int_int; simp [hc, x_idx_Int M a c xs h f cap p hp j hj h2]
theorem c_any_Int (M : Mem) (v : V) (xs : List ty_Int.D) (h : Rep (.sl ty_Int) M [v] xs) (hn : xs.length ≤ 9223372036854775807) (f : FuncId) (cap : List V) (p : Int → Bool)
    (hp : ∀ i (hi : i < xs.length), aCall T0 f (.int .i64 xs[i] :: cap) M = some (.bool (p xs[i]), M)) :
    aCall T0 F_slices_ContainsFunc_int_int [v, .func (.func f) #[] cap.toArray] M = some (.bool (xs.any p), M) := by
  have h1 := c_idx_Int M v xs h hn f cap p hp
  have h2 := idx_any p xs
  rw [← h2]
  rw [aCall_eq T_slices_ContainsFunc_int_int]; unfold A_slices_ContainsFunc_int_int C_slices_ContainsFunc_int_int; simp [h1]
def idB (n : Int) (x : Int) : Bool := decide (-1 ≤ x) && decide (x ≤ n - 1)
theorem idB_t {n x : Int} (h : idB n x = true) : ¬ x < -1 ∧ ¬ n ≤ x := by
  simp only [idB, Bool.and_eq_true, decide_eq_true_eq] at h; omega
theorem idB_f {n x : Int} (h : idB n x = false) : x < -1 ∨ (¬ x < -1 ∧ n ≤ x) := by
  simp only [idB, Bool.and_eq_false_iff, decide_eq_false_iff_not] at h; omega
def seqB (n : Int) (xs : List Int) : Bool := (decide (0 ≤ n) && decide (n ≤ 256)) && (decide ((xs.length : Int) ≤ 700) && xs.all (idB n))
theorem c_impl_isSeq_1 (M : Mem) (x : Int) (p : Nat) (n : Int) (hn : 0 ≤ n ∧ n ≤ 256) (hp : rd1 M p 0 = some (.int .i64 n)) : aCall T0 F_impl_isSeq_1 [.int .i64 x, .pointer (some ⟨p, 0, none⟩)] M = some (.bool (!idB n x), M) := by
  have e : IntKind.i64.wrap (n - 1) = n - 1 := wrap_i64 (by omega) (by omega)
  unfold idB
  rw [aCall_eq T_impl_isSeq_1]; unfold A_impl_isSeq_1 C_impl_isSeq_1; simp [hp, c_impl_within, e]
theorem c_impl_isSeq (M : Mem) (n : Int) (v : V) (xs : List ty_Int.D) (h : Rep (.sl ty_Int) M [v] xs) (hl : xs.length ≤ 9223372036854775807) : aCall T0 F_impl_isSeq [.int .i64 n, v] M = some (.bool (seqB n xs), M) := by
  unfold seqB
  cases hb : (decide (0 ≤ n) && decide (n ≤ 256)) with
  | false => rw [aCall_eq T_impl_isSeq]; unfold A_impl_isSeq C_impl_isSeq; simp [c_impl_within, hb]
  | true =>
    have hn : 0 ≤ n ∧ n ≤ 256 := by simpa using hb
    have e : aCall T0 F_slices_ContainsFunc_int_int [v, .func (.func F_impl_isSeq_1) #[] #[.pointer (some ⟨M.length, 0, none⟩)]] (M ++ [⟨[.int .i64 n], 1, 2⟩]) = _ :=
      c_any_Int _ v xs (h.mono (List.prefix_append _ _)) hl F_impl_isSeq_1 [.pointer (some ⟨M.length, 0, none⟩)] (fun x => !idB n x) (fun i hi => c_impl_isSeq_1 _ xs[i] M.length n hn (by simp))
    obtain ⟨a, c, rfl⟩ := h.slen
    have e2 : xs.all (idB n) = !xs.any (fun x => !idB n x) := by simp [List.any_eq_not_all_not]
    rw [e2]
    by_cases h7 : (xs.length : Int) ≤ 700
    · rw [aCall_eq T_impl_isSeq]; unfold A_impl_isSeq C_impl_isSeq; simp [c_impl_within, hb, h7, e]
    · rw [aCall_eq T_impl_isSeq]; unfold A_impl_isSeq C_impl_isSeq; simp [c_impl_within, hb, h7]
theorem r_spec_l15Right (M : Mem) (n : Int) (a : Option Addr) (c : Nat) (xs : List ty_Int.D) (h : Rep (.sl ty_Int) M [.slice a xs.length c] xs) (hl : xs.length ≤ 700) (i : Nat) (hi : i < xs.length) (hq : idB n xs[i] = true) :
    lp (aCall T0) K_spec_l15Right_0 L_spec_l15Right_0 [.int .i64 n, .slice a xs.length c, und, und, und, .int .i64 i, und, und, und, und, und, und, und, und, und, und, und, und, und, und, und, und, und, und, und, und, und, und, und, und, und, und, und, und, und, und] M = lp (aCall T0) K_spec_l15Right_0 L_spec_l15Right_0 [.int .i64 n, .slice a xs.length c, und, und, und, .int .i64 (i + 1 : Nat), und, und, und, und, und, und, und, und, und, und, und, und, und, und, und, und, und, und, und, und, und, und, und, und, und, und, und, und, und, und] M := by
  obtain ⟨l, o, rfl, hrep, hrd⟩ := at_Int h hi
  have e6 : IntKind.i64.wrap ((i : Int) + 1) = i + 1 := wrap_i64 (by omega) (by omega)
  obtain ⟨q1, q2⟩ := idB_t hq
  rw [S_spec_l15Right_0]; unfold B_spec_l15Right_0; simp [hrd, e6, hi, q1, q2]
theorem x_spec_l15Right (M : Mem) (n : Int) (a : Option Addr) (c : Nat) (xs : List ty_Int.D) (h : Rep (.sl ty_Int) M [.slice a xs.length c] xs) (i : Nat) (hi : i < xs.length) (hq : idB n xs[i] = false) (k : ACode) :
    thenF M [.tmp 4] (thenS (blockR 0 (lp (aCall T0) K_spec_l15Right_0 L_spec_l15Right_0 [.int .i64 n, .slice a xs.length c, und, und, und, .int .i64 i, und, und, und, und, und, und, und, und, und, und, und, und, und, und, und, und, und, und, und, und, und, und, und, und, und, und, und, und, und, und] M)) (aCall T0) k) = some (.bool false, M) := by
  obtain ⟨l, o, rfl, hrep, hrd⟩ := at_Int h hi
  rcases idB_f hq with q1 | ⟨q1, q2⟩
  · rw [S_spec_l15Right_0]; unfold B_spec_l15Right_0; simp [hrd, hi, q1]
  · rw [S_spec_l15Right_0]; unfold B_spec_l15Right_0; simp [hrd, hi, q1, q2]
theorem c_spec_l15Right (M : Mem) (n : Int) (v : V) (xs : List ty_Int.D) (h : Rep (.sl ty_Int) M [v] xs) : aCall T0 F_spec_l15Right [.int .i64 n, v] M = some (.bool (seqB n xs), M) := by
  obtain ⟨a, c, rfl⟩ := h.slen
  unfold seqB
  by_cases h1 : n < 0
  · have : ¬ 0 ≤ n := by omega
    rw [aCall_eq T_spec_l15Right]; unfold A_spec_l15Right C_spec_l15Right; simp [h1, this]
  by_cases h2 : 256 < n
  · have : ¬ n ≤ 256 := by omega
    rw [aCall_eq T_spec_l15Right]; unfold A_spec_l15Right C_spec_l15Right; simp [h1, h2, this]
  by_cases h3 : 700 < (xs.length : Int)
  · have : ¬ (xs.length : Int) ≤ 700 := by omega
    rw [aCall_eq T_spec_l15Right]; unfold A_spec_l15Right C_spec_l15Right; simp [h1, h2, h3, this]
  have hb : (decide (0 ≤ n) && decide (n ≤ 256)) = true := by simp; omega
  have hb2 : decide ((xs.length : Int) ≤ 700) = true := by simp; omega
  rw [hb, hb2, Bool.true_and, Bool.true_and]
  rcases first_all (idB n) xs with ha | ⟨ha, j, hj, q1, q2⟩
  · have hc := chain (g := fun i : Nat => lp (aCall T0) K_spec_l15Right_0 L_spec_l15Right_0 [.int .i64 n, .slice a xs.length c, und, und, und, .int .i64 i, und, und, und, und, und, und, und, und, und, und, und, und, und, und, und, und, und, und, und, und, und, und, und, und, und, und, und, und, und, und] M) (n := xs.length) fun i hi => r_spec_l15Right M n a c xs h (by omega) i hi (all_at ha hi)
    simp only [Int.natCast_zero, Int.ofNat_zero] at hc
    rw [ha]
    rw [aCall_eq T_spec_l15Right]; unfold A_spec_l15Right C_spec_l15Right; simp [h1, h2, h3, hc]
    rw [S_spec_l15Right_0]; unfold B_spec_l15Right_0; simp
  · have hc := chain (g := fun i : Nat => lp (aCall T0) K_spec_l15Right_0 L_spec_l15Right_0 [.int .i64 n, .slice a xs.length c, und, und, und, .int .i64 i, und, und, und, und, und, und, und, und, und, und, und, und, und, und, und, und, und, und, und, und, und, und, und, und, und, und, und, und, und, und] M) (n := j) fun i hi => r_spec_l15Right M n a c xs h (by omega) i (by omega) (q1 i (by omega) hi)
    simp only [Int.natCast_zero, Int.ofNat_zero] at hc
    rw [ha]
    rw [aCall_eq T_spec_l15Right]; unfold A_spec_l15Right C_spec_l15Right; simp [h1, h2, h3, hc, x_spec_l15Right M n a c xs h j hj q2]
def lastAt (n : Int) (xs : List Int) (x : Int) : Nat → Int
  | 0 => x
  | j + 1 => if xs[j]? = some x then n + j else lastAt n xs x j
def coordI (n : Int) (xs : List Int) (i : Nat) : Int := match xs[i]? with
  | some x => if x < 0 then n + i else lastAt n xs x i
  | none => 0
def coordsI (n : Int) (xs : List Int) : List Int := (List.range xs.length).map (coordI n xs)
theorem lastAt_bound {n : Int} {xs : List Int} {x : Int} (hn : 0 ≤ n ∧ n ≤ 256) (hx : 0 ≤ x ∧ x < n) : ∀ j, j ≤ 700 → 0 ≤ lastAt n xs x j ∧ lastAt n xs x j ≤ 956
  | 0, _ => by unfold lastAt; omega
  | j + 1, h => by
    unfold lastAt
    split
    · omega
    · exact lastAt_bound hn hx j (by omega)
/-- A slice of cells that is filled from the left. -/
def fillC (f : Nat → Int) (n i : Nat) : List V := ((List.range i).map fun j => .int .i64 (f j)) ++ zc (.int .i64 0) (n - i)
theorem fillC_zero (f : Nat → Int) (n : Nat) : fillC f n 0 = zc (.int .i64 0) n := by simp [fillC]
theorem fillC_len (f : Nat → Int) (n i : Nat) (h : i ≤ n) : (fillC f n i).length = n := by simp [fillC]; omega
theorem fillC_full (f : Nat → Int) (n : Nat) : fillC f n n = (List.range n).map fun j => .int .i64 (f j) := by simp [fillC]
theorem fillC_set (f : Nat → Int) (n i : Nat) (h : i < n) : splice (fillC f n i) i [.int .i64 (f i)] = fillC f n (i + 1) := by
  rw [splice_one (by rw [fillC_len f n i (by omega)]; exact h)]
  unfold fillC
  have e : n - i = (n - (i + 1)) + 1 := by omega
  rw [List.set_append_right _ _ (by simp), e]
  have e1 : i - ((List.range i).map fun j => Value.int .i64 (f j)).length = 0 := by simp
  rw [e1, zc_set, List.range_succ]
  simp
theorem r_impl_coords_0 (M : Mem) (n : Nat) (v : V) (hn : n ≤ 256) (i : Nat) (hi : i < n) :
    lp (aCall T0) K_impl_coords_0 L_impl_coords_0 [.int .i64 n, v, und, und, und, .slice (some ⟨M.length, 0, none⟩) n n, und, und, und, und, und, und, und, .int .i64 n, .int .i64 i, und, und, und, und, und, und, und, und, und, und, und, und, und, und, und, und, und, und, und, und, und, und, und, und, und, und, und, und, und, und, und, und, und, und, und, und, und, und, und, und] (M ++ [⟨fillC (fun d => d) n i, 1, 2⟩]) =
    lp (aCall T0) K_impl_coords_0 L_impl_coords_0 [.int .i64 n, v, und, und, und, .slice (some ⟨M.length, 0, none⟩) n n, und, und, und, und, und, und, und, .int .i64 n, .int .i64 (i + 1 : Nat), und, und, und, und, und, und, und, und, und, und, und, und, und, und, und, und, und, und, und, und, und, und, und, und, und, und, und, und, und, und, und, und, und, und, und, und, und, und, und, und] (M ++ [⟨fillC (fun d => d) n (i + 1), 1, 2⟩]) := by
  have e2 := fillC_len (fun d => d) n i (by omega)
  have e3 := fillC_set (fun d => d) n i hi
  have e5 : i + 1 ≤ n := by omega
  have e6 : IntKind.i64.wrap ((i : Int) + 1) = i + 1 := wrap_i64 (by omega) (by omega)
  unfold splice at e3
  simp at e3
  rw [S_impl_coords_0]; unfold B_impl_coords_0; simp [e2, e3, e5, e6, hi]
theorem lastAt_next (n : Int) (xs : List Int) (i : Nat) (x d : Int) (hx : xs[i]? = some x) : lastAt n xs d (i + 1) = if d = x then n + i else lastAt n xs d i := by
  rw [lastAt, hx]
  by_cases h : d = x
  · subst h; simp
  · rw [if_neg h, if_neg (fun e => h (by simpa using e.symm))]
def ownC (n : Nat) (xs : List Int) (i : Nat) : List V := (List.range n).map fun (d : Nat) => .int .i64 (lastAt n xs d i)
theorem ownC_len (n : Nat) (xs : List Int) (i : Nat) : (ownC n xs i).length = n := by simp [ownC]
theorem ownC_get (n : Nat) (xs : List Int) (i d : Nat) (h : d < n) : (ownC n xs i)[d]? = some (.int .i64 (lastAt n xs d i)) := by simp [ownC, h]
theorem ownC_set (n : Nat) (xs : List Int) (i d : Nat) (h : d < n) (hx : xs[i]? = some (d : Int)) : splice (ownC n xs i) d [.int .i64 (n + i)] = ownC n xs (i + 1) := by
  rw [splice_one (by rw [ownC_len]; exact h)]
  apply List.ext_getElem?
  intro j
  rw [List.getElem?_set]
  by_cases hj : j < n
  · rw [ownC_get n xs (i + 1) j hj, lastAt_next n xs i d j hx]
    by_cases e : d = j
    · subst e; simp [ownC_len, h]
    · rw [if_neg e, ownC_get n xs i j hj, if_neg (by omega)]
  · rw [if_neg (by omega), List.getElem?_eq_none (by rw [ownC_len]; omega), List.getElem?_eq_none (by rw [ownC_len]; omega)]
theorem ownC_same (n : Nat) (xs : List Int) (i : Nat) (x : Int) (hx : xs[i]? = some x) (h : x < 0) : ownC n xs (i + 1) = ownC n xs i := by
  unfold ownC
  apply List.map_congr_left
  intro d _
  rw [lastAt_next n xs i x d hx, if_neg (by omega)]
theorem r_impl_coords_1 (M : Mem) (n : Nat) (a : Option Addr) (c : Nat) (xs : List ty_Int.D) (h : Rep (.sl ty_Int) M [.slice a xs.length c] xs) (hn : n ≤ 256) (hl : xs.length ≤ 700) (hs : ∀ i (hi : i < xs.length), (xs[i] : Int) < n) (i : Nat) (hi : i < xs.length) :
    lp (aCall T0) K_impl_coords_1 L_impl_coords_1 [.int .i64 n, und, und, und, und, .slice (some ⟨M.length, 0, none⟩) n n, und, .slice (some ⟨M.length + 1, 0, none⟩) xs.length xs.length, und, und, und, und, und, und, und, und, und, und, und, und, und, und, und, und, und, .slice a xs.length c, .int .i64 xs.length, .int .i64 i, und, und, und, und, und, und, und, und, und, und, und, und, und, und, und, und, und, und, und, und, und, und, und, und, und, und, und] (M ++ [⟨ownC n xs i, 1, 2⟩, ⟨fillC (coordI n xs) xs.length i, 1, 2⟩]) =
    lp (aCall T0) K_impl_coords_1 L_impl_coords_1 [.int .i64 n, und, und, und, und, .slice (some ⟨M.length, 0, none⟩) n n, und, .slice (some ⟨M.length + 1, 0, none⟩) xs.length xs.length, und, und, und, und, und, und, und, und, und, und, und, und, und, und, und, und, und, .slice a xs.length c, .int .i64 xs.length, .int .i64 (i + 1 : Nat), und, und, und, und, und, und, und, und, und, und, und, und, und, und, und, und, und, und, und, und, und, und, und, und, und, und, und] (M ++ [⟨ownC n xs (i + 1), 1, 2⟩, ⟨fillC (coordI n xs) xs.length (i + 1), 1, 2⟩]) := by
  obtain ⟨l, o, rfl, hrep, hrd⟩ := at_Int h hi
  have hrd' : ∀ N, rd1 (M ++ N) l (o + i) = some (.int .i64 xs[i]) := fun N => rd1_old hrd
  have hlt := hs i hi
  obtain ⟨x, hx⟩ : ∃ x : Int, x = xs[i] := ⟨_, rfl⟩
  rw [← hx] at hrd' hlt
  have hxi : (xs : List Int)[i]? = some x := by rw [hx]; simp [hi]
  have e6 : IntKind.i64.wrap ((i : Int) + 1) = i + 1 := wrap_i64 (by omega) (by omega)
  have e7 : IntKind.i64.wrap ((n : Int) + i) = n + i := wrap_i64 (by omega) (by omega)
  have l1 := fillC_len (coordI n xs) xs.length i (by omega)
  have l2 := ownC_len n xs i
  have e5 : i + 1 ≤ xs.length := by omega
  have e3 := fillC_set (coordI n xs) xs.length i hi
  by_cases hx0 : x < 0
  · have ec : coordI n xs i = n + i := by unfold coordI; rw [hxi]; exact if_pos hx0
    rw [ec] at e3
    unfold splice at e3
    simp at e3
    have hx0' : ¬ (0 ≤ x) := Int.not_le.2 hx0
    rw [ownC_same n xs i x hxi hx0]
    rw [S_impl_coords_1]; unfold B_impl_coords_1; simp [hrd', e6, e7, hi, l1, l2, e5, e3, hx0']
  · obtain ⟨d, rfl⟩ : ∃ d : Nat, x = d := ⟨x.toNat, by omega⟩
    have hlt2 : (d : Int) < (n : Int) := hlt
    have hd : d < n := by omega
    have ec : coordI n xs i = lastAt n xs d i := by unfold coordI; rw [hxi]; exact if_neg hx0
    have g1 := ownC_get n xs i d hd
    have g1b : ∀ hh : d < (ownC n xs i).length, (ownC n xs i)[d] = .int .i64 (lastAt n xs d i) := fun hh => by rw [List.getElem?_eq_getElem hh] at g1; exact Option.some.inj g1
    have g2 := ownC_set n xs i d hd hxi
    obtain ⟨Z, hZ⟩ : ∃ Z, Z = splice (fillC (coordI n xs) xs.length i) i [.int .i64 (n + i)] := ⟨_, rfl⟩
    have l3 : Z.length = xs.length := by rw [hZ, splice_len _ _ _ (by rw [l1]; simp; omega), l1]
    have e4 : splice Z i [.int .i64 (lastAt n xs d i)] = fillC (coordI n xs) xs.length (i + 1) := by
      have q1 := splice_one (cs := fillC (coordI n xs) xs.length i) (o := i) (v := .int .i64 (n + i)) (by rw [l1]; exact hi)
      have q2 := splice_one (cs := fillC (coordI n xs) xs.length i) (o := i) (v := .int .i64 (lastAt n xs d i)) (by rw [l1]; exact hi)
      rw [← e3, ec, q2, hZ, q1, splice_one (by rw [List.length_set, l1]; exact hi), List.set_set]
    have e4' := hZ.symm
    unfold splice at e4 e4' g2
    simp at e4 e4' g2
    have e8 : d + 1 ≤ n := by omega
    rw [S_impl_coords_1]; unfold B_impl_coords_1; simp [hrd', e6, e7, hi, l1, l2, l3, e5, e4, e4', g1b, g2, hd, e8]
theorem fillC_own (n : Nat) (xs : List Int) : fillC (fun d => d) n n = ownC n xs 0 := by
  rw [fillC_full]
  rfl
theorem c_impl_coords (M : Mem) (n : Nat) (v : V) (xs : List ty_Int.D) (h : Rep (.sl ty_Int) M [v] xs) (hn : n ≤ 256) (hl : xs.length ≤ 700) (hs : ∀ i (hi : i < xs.length), (xs[i] : Int) < n) :
    aCall T0 F_impl_coords [.int .i64 n, v] M = some (.slice (some ⟨M.length + 1, 0, none⟩) xs.length xs.length, M ++ [⟨ownC n xs xs.length, 1, 2⟩, ⟨(List.range xs.length).map fun j => .int .i64 (coordI n xs j), 1, 2⟩]) := by
  obtain ⟨a, c, rfl⟩ := h.slen
  have h0 := chain (g := fun i : Nat => lp (aCall T0) K_impl_coords_0 L_impl_coords_0 [.int .i64 n, .slice a xs.length c, und, und, und, .slice (some ⟨M.length, 0, none⟩) n n, und, und, und, und, und, und, und, .int .i64 n, .int .i64 i, und, und, und, und, und, und, und, und, und, und, und, und, und, und, und, und, und, und, und, und, und, und, und, und, und, und, und, und, und, und, und, und, und, und, und, und, und, und, und, und] (M ++ [⟨fillC (fun d => d) n i, 1, 2⟩])) (n := n) fun i hi => r_impl_coords_0 M n _ hn i hi
  have h1 := chain (g := fun i : Nat => lp (aCall T0) K_impl_coords_1 L_impl_coords_1 [.int .i64 n, und, und, und, und, .slice (some ⟨M.length, 0, none⟩) n n, und, .slice (some ⟨M.length + 1, 0, none⟩) xs.length xs.length, und, und, und, und, und, und, und, und, und, und, und, und, und, und, und, und, und, .slice a xs.length c, .int .i64 xs.length, .int .i64 i, und, und, und, und, und, und, und, und, und, und, und, und, und, und, und, und, und, und, und, und, und, und, und, und, und, und, und] (M ++ [⟨ownC n xs i, 1, 2⟩, ⟨fillC (coordI n xs) xs.length i, 1, 2⟩])) (n := xs.length) fun i hi => r_impl_coords_1 M n a c xs h hn hl hs i hi
  simp only [Int.natCast_zero, Int.ofNat_zero, fillC_zero, fillC_own n xs, fillC_full] at h0 h1
  have e1 : (n : Int) * 8 ≤ 281474976710656 := by omega
  have e2 : (n : Int) ≤ 9223372036854775807 := by omega
  have e3 : (xs.length : Int) * 8 ≤ 281474976710656 := by omega
  have e4 : (xs.length : Int) ≤ 9223372036854775807 := by omega
  rw [aCall_eq T_impl_coords]; unfold A_impl_coords C_impl_coords; simp [e1, e2, e3, e4, h0]
  rw [S_impl_coords_0]; unfold B_impl_coords_0; simp [e1, e2, e3, e4, h1]
  rw [S_impl_coords_1]; unfold B_impl_coords_1; simp
theorem r_spec_l15Coord (M : Mem) (n : Int) (a : Option Addr) (c : Nat) (xs : List ty_Int.D) (h : Rep (.sl ty_Int) M [.slice a xs.length c] xs) (hl : xs.length ≤ 700) (i : Nat) (hi : i < xs.length) (m : Nat) (hm : m < i) (hne : xs[m]'(by omega) ≠ xs[i]) :
    lp (aCall T0) K_spec_l15Coord_0 L_spec_l15Coord_0 [.int .i64 n, .slice a xs.length c, .int .i64 i, und, und, und, und, .int .i64 m, und, und, und, und, und, und, und, und, und, und, und, und, und, und, und, und, und, und, und, und, und, und, und, und, und, und, und, und, und, und] M = lp (aCall T0) K_spec_l15Coord_0 L_spec_l15Coord_0 [.int .i64 n, .slice a xs.length c, .int .i64 i, und, und, und, und, .int .i64 ((m : Int) - 1), und, und, und, und, und, und, und, und, und, und, und, und, und, und, und, und, und, und, und, und, und, und, und, und, und, und, und, und, und, und] M := by
  obtain ⟨l, o, rfl, _, hrd⟩ := at_Int h hi
  obtain ⟨l2, o2, e, _, hrd2⟩ := at_Int h (i := m) (by omega)
  cases e
  have e6 : IntKind.i64.wrap ((m : Int) - 1) = m - 1 := wrap_i64 (by omega) (by omega)
  have hm2 : m < xs.length := by omega
  rw [S_spec_l15Coord_0]; unfold B_spec_l15Coord_0; simp [hrd, hrd2, e6, hi, hm2, hne]
theorem l_spec_l15Coord (M : Mem) (n : Int) (hn : 0 ≤ n ∧ n ≤ 256) (a : Option Addr) (c : Nat) (xs : List ty_Int.D) (h : Rep (.sl ty_Int) M [.slice a xs.length c] xs) (hl : xs.length ≤ 700) (i : Nat) (hi : i < xs.length) : ∀ (m : Nat), m ≤ i →
    thenF M [.tmp 6] (thenS (blockR 0 (lp (aCall T0) K_spec_l15Coord_0 L_spec_l15Coord_0 [.int .i64 n, .slice a xs.length c, .int .i64 i, und, und, und, und, .int .i64 ((m : Int) - 1), und, und, und, und, und, und, und, und, und, und, und, und, und, und, und, und, und, und, und, und, und, und, und, und, und, und, und, und, und, und] M)) (aCall T0) (.seq (.reg false [⟨(some 34), .mv (.t 1), none⟩, ⟨(some 35), .mv (.t 2), none⟩, ⟨(some 36), .ia 1 (.t 34) (.t 35), none⟩, ⟨(some 37), .load1 (.t 36), none⟩, ⟨(some 6), .mv (.t 37), none⟩]) .ret)) = some (.int .i64 (lastAt n xs xs[i] m), M)
  | 0, _ => by
    obtain ⟨l, o, rfl, _, hrd⟩ := at_Int h hi
    rw [S_spec_l15Coord_0]; unfold B_spec_l15Coord_0; simp [hrd, hi, lastAt]
  | m + 1, hm => by
    have hm2 : m < xs.length := by omega
    have e : ((m + 1 : Nat) : Int) - 1 = m := by omega
    rw [e]
    by_cases he : xs[m] = xs[i]
    · have hb : lastAt n xs xs[i] (m + 1) = n + m := by
        unfold lastAt
        rw [List.getElem?_eq_getElem hm2, he]
        exact if_pos rfl
      rw [hb]
      obtain ⟨l, o, rfl, _, hrd⟩ := at_Int h hi
      obtain ⟨l2, o2, e, _, hrd2⟩ := at_Int h hm2
      cases e
      rw [he] at hrd2
      have e6 : IntKind.i64.wrap (n + (m : Int)) = n + m := wrap_i64 (by omega) (by omega)
      rw [S_spec_l15Coord_0]; unfold B_spec_l15Coord_0; simp [hrd, hrd2, e6, hi, hm2]
    · have hb : lastAt n xs xs[i] (m + 1) = lastAt n xs xs[i] m := by
        rw [lastAt, List.getElem?_eq_getElem hm2]
        exact if_neg (fun e => he (Option.some.inj e))
      rw [hb, r_spec_l15Coord M n a c xs h hl i hi m (by omega) he]
      exact l_spec_l15Coord M n hn a c xs h hl i hi m (by omega)
theorem c_spec_l15Coord (M : Mem) (n : Int) (hn : 0 ≤ n ∧ n ≤ 256) (v : V) (xs : List ty_Int.D) (h : Rep (.sl ty_Int) M [v] xs) (hl : xs.length ≤ 700) (i : Nat) (hi : i < xs.length) :
    aCall T0 F_spec_l15Coord [.int .i64 n, v, .int .i64 i] M = some (.int .i64 (coordI n xs i), M) := by
  obtain ⟨a, c, rfl⟩ := h.slen
  have hm := l_spec_l15Coord M n hn a c xs h hl i hi i (by omega)
  obtain ⟨l, o, rfl, _, hrd⟩ := at_Int h hi
  have ec : coordI n xs i = if (xs[i] : Int) < 0 then n + i else lastAt n xs xs[i] i := by
    unfold coordI
    rw [List.getElem?_eq_getElem hi]
  have e6 : IntKind.i64.wrap (n + (i : Int)) = n + i := wrap_i64 (by omega) (by omega)
  have e7 : IntKind.i64.wrap ((i : Int) - 1) = i - 1 := wrap_i64 (by omega) (by omega)
  rw [ec]
  by_cases hx : (xs[i] : Int) < 0
  · rw [if_pos hx]
    rw [aCall_eq T_spec_l15Coord]; unfold A_spec_l15Coord C_spec_l15Coord; simp [hrd, hi, hx, e6]
  · rw [if_neg hx]
    rw [aCall_eq T_spec_l15Coord]; unfold A_spec_l15Coord C_spec_l15Coord; simp [hrd, hi, hx, e7, hm]
def coordC (n : Int) (xs : List Int) (i : Nat) : List V := (List.range i).map fun j => .int .i64 (coordI n xs j)
theorem coordC_succ (n : Int) (xs : List Int) (i : Nat) : coordC n xs (i + 1) = coordC n xs i ++ [.int .i64 (coordI n xs i)] := by simp [coordC, List.range_succ]
theorem coordC_len (n : Int) (xs : List Int) (i : Nat) : (coordC n xs i).length = i := by simp [coordC]
theorem r_spec_Coords (M : Mem) (n : Int) (hn : 0 ≤ n ∧ n ≤ 256) (v : V) (xs : List ty_Int.D) (h : Rep (.sl ty_Int) M [v] xs) (hl : xs.length ≤ 700) (l : Nat) (i : Nat) (hi : i < xs.length) (hb : M[l]? = some ⟨coordC n xs i, 1, 2⟩) :
    lp (aCall T0) K_spec_Coords_0 L_spec_Coords_0 [.int .i64 n, v, und, und, und, und, .slice (some ⟨l, 0, none⟩) i i, .int .i64 i, und, und, und, und, und, und, und, und, und, und, und, und, und, und, und, und, und, und, und] M =
    lp (aCall T0) K_spec_Coords_0 L_spec_Coords_0 [.int .i64 n, v, und, und, und, und, .slice (some ⟨M.length + 1, 0, none⟩) (i + 1) (i + 1), .int .i64 (i + 1 : Nat), und, und, und, und, und, und, und, und, und, und, und, und, und, und, und, und, und, und, und] ((M ++ [(⟨[.int .i64 (coordI n xs i)], 1, 2⟩ : Blk)]).set l ⟨coordC n xs i, 1, 0⟩ ++ [⟨coordC n xs (i + 1), 1, 2⟩]) := by
  have ec := c_spec_l15Coord M n hn v xs h hl i hi
  have e6 : IntKind.i64.wrap ((i : Int) + 1) = i + 1 := wrap_i64 (by omega) (by omega)
  have esl := sliceCells_one (M := M) (v := .int .i64 (coordI n xs i)) (w := 1)
  have eap := app_full (M := M ++ [⟨[.int .i64 (coordI n xs i)], 1, 2⟩]) (w := 1) (bytes := 8) (l := l) (n := i) (cs := coordC n xs i) (ys := [.int .i64 (coordI n xs i)]) (m := 1) (get_pre (List.prefix_append _ _) hb) (by rw [coordC_len]; omega) (by omega) rfl (by omega) (by omega)
  rw [← coordC_succ] at eap
  obtain ⟨X, hX⟩ : ∃ X, X = (M ++ [(⟨[.int .i64 (coordI n xs i)], 1, 2⟩ : Blk)]).set l ⟨coordC n xs i, 1, 0⟩ ++ [⟨coordC n xs (i + 1), 1, 2⟩] := ⟨_, rfl⟩
  rw [← hX] at eap ⊢
  have hL : (M ++ [(⟨[.int .i64 (coordI n xs i)], 1, 2⟩ : Blk)]).length = M.length + 1 := by simp
  rw [hL] at eap
  obtain ⟨a, c, rfl⟩ := h.slen
  rw [S_spec_Coords_0]; unfold B_spec_Coords_0; simp [ec, e6, esl, eap, hi]
theorem l_spec_Coords (M0 : Mem) (n : Int) (hn : 0 ≤ n ∧ n ≤ 256) (v : V) (xs : List ty_Int.D) (h : Rep (.sl ty_Int) M0 [v] xs) (hl : xs.length ≤ 700) : ∀ (k i l : Nat) (N : Mem), i + k = xs.length → M0.length ≤ l → (M0 ++ N)[l]? = some ⟨coordC n xs i, 1, 2⟩ →
    ∃ l' N', M0.length ≤ l' ∧ (M0 ++ N')[l']? = some ⟨coordC n xs xs.length, 1, 2⟩ ∧
      lp (aCall T0) K_spec_Coords_0 L_spec_Coords_0 [.int .i64 n, v, und, und, und, und, .slice (some ⟨l, 0, none⟩) i i, .int .i64 i, und, und, und, und, und, und, und, und, und, und, und, und, und, und, und, und, und, und, und] (M0 ++ N) =
      lp (aCall T0) K_spec_Coords_0 L_spec_Coords_0 [.int .i64 n, v, und, und, und, und, .slice (some ⟨l', 0, none⟩) xs.length xs.length, .int .i64 xs.length, und, und, und, und, und, und, und, und, und, und, und, und, und, und, und, und, und, und, und] (M0 ++ N')
  | 0, i, l, N, hi, h1, h2 => by
    have e : i = xs.length := by omega
    subst e
    exact ⟨l, N, h1, h2, rfl⟩
  | k + 1, i, l, N, hi, h1, h2 => by
    rw [r_spec_Coords (M0 ++ N) n hn v xs (h.mono (List.prefix_append _ _)) hl l i (by omega) h2]
    rw [List.append_assoc M0 N, set_app h1, List.append_assoc M0]
    refine l_spec_Coords M0 n hn v xs h hl k (i + 1) _ _ (by omega) (by simp; omega) ?_
    rw [← List.append_assoc, List.getElem?_append_right (by simp; omega)]
    simp
    have e : M0.length + N.length + 1 - (M0.length + (N.length + 1)) = 0 := by omega
    rw [e]
    rfl
theorem c_spec_Coords (M : Mem) (n : Int) (v : V) (xs : List ty_Int.D) (h : Rep (.sl ty_Int) M [v] xs) (hs : seqB n xs = true) :
    ∃ l N, M.length ≤ l ∧ (M ++ N)[l]? = some ⟨coordC n xs xs.length, 1, 2⟩ ∧ aCall T0 F_spec_Coords [.int .i64 n, v] M = some (.tuple #[.slice (some ⟨l, 0, none⟩) xs.length xs.length, .bool true], M ++ N) := by
  have hq := hs
  simp only [seqB, Bool.and_eq_true, decide_eq_true_eq] at hq
  have e0 := c_spec_l15Right M n v xs h
  rw [hs] at e0
  obtain ⟨l, N, h1, h2, h3⟩ := l_spec_Coords M n hq.1 v xs h (by omega) xs.length 0 M.length [⟨[], 1, 2⟩] (by omega) (Nat.le_refl _) (by simp [coordC])
  refine ⟨l, N, h1, h2, ?_⟩
  simp only [Int.natCast_zero, Int.ofNat_zero] at h3
  obtain ⟨a, c, rfl⟩ := h.slen
  rw [aCall_eq T_spec_Coords]; unfold A_spec_Coords C_spec_Coords; simp [e0, zeroCells, h3]
  rw [S_spec_Coords_0]; unfold B_spec_Coords_0; simp
theorem own_block {M : Mem} {l c : Nat} {ys : List Int} (hb : M[l]? = some ⟨ys.map fun n => .int .i64 n, 1, 2⟩) (hw : ∀ y ∈ ys, (Lit.int .i64 y).wf = true) : ∃ L, Own (.sl ty_Int) M [.slice (some ⟨l, 0, none⟩) ys.length c] ys L ∧ ∀ j ∈ L, j = l := by
  by_cases hy : ys = []
  · subst hy
    exact ⟨[], .inl ⟨rfl, rfl, .inr ⟨l, 0, c, _, [], rfl, hb, .inr (.inr rfl), rfl, rfl, fun i ds x hd => by simp at hd, by simp⟩⟩, by simp⟩
  · refine ⟨[l], .inr ⟨l, 0, c, _, ys.map enc_Int, ys.map (fun _ => []), hy, rfl, hb, rfl, rfl, by simp, by simp, ?_, ?_, ?_⟩, by simp⟩
    · intro i ds x K h1 h2 h3
      rw [List.getElem?_map, h2] at h1
      rw [List.getElem?_map, h2] at h3
      simp only [Option.map_some, Option.some.injEq] at h1 h3
      subst h1; subst h3
      exact ⟨⟨rfl, hw x (List.mem_of_getElem? h2)⟩, rfl⟩
    · rw [flat_Int]; simp
    · have : (ys.map (fun _ => ([] : List Nat))).flatten = [] := by
        rw [List.flatten_eq_nil_iff]
        intro K hK
        obtain ⟨_, _, rfl⟩ := List.mem_map.1 hK
        rfl
      rw [this]
theorem wf_range {z : Int} (h : -9223372036854775808 ≤ z ∧ z ≤ 9223372036854775807) : (Lit.int .i64 z).wf = true := by
  simp [Lit.wf, IntKind.min, IntKind.max, IntKind.signed, IntKind.bits]; omega
def wsI (n : Int) (xs : List Int) : List Int := if seqB n xs = true then coordsI n xs else []
theorem seqB_parts {n : Int} {xs : List Int} (h : seqB n xs = true) : (0 ≤ n ∧ n ≤ 256) ∧ xs.length ≤ 700 ∧ ∀ i (hi : i < xs.length), -1 ≤ xs[i] ∧ xs[i] < n := by
  simp only [seqB, Bool.and_eq_true, decide_eq_true_eq] at h
  obtain ⟨h1, h2, h3⟩ := h
  refine ⟨h1, by omega, fun i hi => ?_⟩
  have := all_at h3 hi
  simp only [idB, Bool.and_eq_true, decide_eq_true_eq] at this
  omega
theorem coordsI_wf {n : Int} {xs : List Int} (h : seqB n xs = true) : ∀ y ∈ coordsI n xs, (Lit.int .i64 y).wf = true := by
  obtain ⟨h1, h2, h3⟩ := seqB_parts h
  intro y hy
  obtain ⟨i, hi, rfl⟩ := List.mem_map.1 hy
  have hi : i < xs.length := by simpa using hi
  have := h3 i hi
  apply wf_range
  unfold coordI
  rw [List.getElem?_eq_getElem hi]
  simp only
  split
  · omega
  · have := lastAt_bound (n := n) (xs := xs) (x := xs[i]) h1 (by omega) i (by omega)
    omega
theorem c_impl_Coords (M : Mem) (n : Int) (v : V) (xs : List Int) (h : Rep (.sl ty_Int) M [v] xs) (hl : xs.length ≤ 9223372036854775807) :
    ∃ N vg L, aCall T0 F_impl_Coords [.int .i64 n, v] M = some (.tuple #[vg, .bool (seqB n xs)], M ++ N) ∧ Own (.sl ty_Int) (M ++ N) [vg] (wsI n xs) L ∧ ∀ l ∈ L, M.length ≤ l := by
  have e := c_impl_isSeq M n v xs h hl
  unfold wsI
  cases hb : seqB n xs with
  | false =>
    rw [hb] at e
    refine ⟨[], .slice none 0 0, [], ?_, .inl ⟨rfl, rfl, .inl ⟨rfl, rfl⟩⟩, by simp⟩
    rw [aCall_eq T_impl_Coords]; unfold A_impl_Coords C_impl_Coords; simp [e]
  | true =>
    obtain ⟨h1, h2, h3⟩ := seqB_parts hb
    obtain ⟨m, rfl⟩ : ∃ m : Nat, n = m := ⟨n.toNat, by omega⟩
    rw [hb] at e
    have e2 := c_impl_coords M m v xs h (by omega) h2 (fun i hi => (h3 i hi).2)
    have hm : ((List.range xs.length).map fun j => Value.int .i64 (coordI m xs j)) = (coordsI m xs).map fun n => .int .i64 n := by simp [coordsI]
    obtain ⟨L, o1, o2⟩ := own_block (M := M ++ [⟨ownC m xs xs.length, 1, 2⟩, ⟨(coordsI m xs).map fun n => .int .i64 n, 1, 2⟩]) (l := M.length + 1) (c := xs.length) (ys := coordsI m xs) (by simp) (coordsI_wf hb)
    have hlen : (coordsI m xs).length = xs.length := by simp [coordsI]
    rw [hlen] at o1
    rw [hm] at e2
    refine ⟨_, _, L, ?_, o1, fun l hl => by rw [o2 l hl]; omega⟩
    rw [aCall_eq T_impl_Coords]; unfold A_impl_Coords C_impl_Coords; simp [e, e2]
theorem d_spec_Coords (M : Mem) (n : Int) (v : V) (xs : List Int) (h : Rep (.sl ty_Int) M [v] xs) :
    ∃ N vw, aCall T0 F_spec_Coords [.int .i64 n, v] M = some (.tuple #[vw, .bool (seqB n xs)], M ++ N) ∧ Rep (.sl ty_Int) (M ++ N) [vw] (wsI n xs) := by
  unfold wsI
  cases hb : seqB n xs with
  | false =>
    have e := c_spec_l15Right M n v xs h
    rw [hb] at e
    refine ⟨[], .slice none 0 0, ?_, .inl ⟨rfl, rfl⟩⟩
    rw [aCall_eq T_spec_Coords]; unfold A_spec_Coords C_spec_Coords; simp [e]
  | true =>
    obtain ⟨l, N, h1, h2, h3⟩ := c_spec_Coords M n v xs h hb
    have hm : coordC n xs xs.length = (coordsI n xs).map fun n => .int .i64 n := by simp [coordsI, coordC]
    rw [hm] at h2
    obtain ⟨L, o1, o2⟩ := own_block (c := xs.length) h2 (coordsI_wf hb)
    have hlen : (coordsI n xs).length = xs.length := by simp [coordsI]
    rw [hlen] at o1
    exact ⟨N, _, h3, o1.rep⟩
theorem gc_ex (M M' : Mem) (v : V) : ∃ X, gc M (some (v, M')) = some (v, X) := by
  simp only [gc]
  split
  · exact ⟨_, rfl⟩
  · exact ⟨_, rfl⟩
theorem d_toInt (M : Mem) (v : V) (xs : List Int) (h : Rep (.sl ty_Int) M [v] xs) (hn : xs.length ≤ 1048576) : ∃ M' u L, M <+: M' ∧ aCall T0 F_laws_toIntS [v] M = some (u, M') ∧ Own (.sl ty_Int) M' [u] xs L ∧ ∀ l ∈ L, M.length ≤ l ∧ l < M'.length := by
  have e := c_laws_toIntS M v xs h hn
  have hw : ∀ y ∈ xs, (Lit.int .i64 y).wf = true := by
    intro y hy
    obtain ⟨i, hi, rfl⟩ := List.getElem_of_mem hy
    obtain ⟨a, c, rfl⟩ := h.slen
    obtain ⟨l, o, rfl, hr, _⟩ := at_Int h hi
    exact hr.2
  obtain ⟨L, o1, o2⟩ := own_block (M := M ++ [⟨(xs.map enc_Int).flatten, 1, 2⟩]) (l := M.length) (c := xs.length) (ys := xs) (by rw [flat_Int]; simp) hw
  exact ⟨_, _, L, List.prefix_append _ _, e, o1, fun l hl => by rw [o2 l hl]; simp⟩
theorem wsI_len (n : Int) (xs : List Int) : (wsI n xs).length ≤ xs.length := by
  unfold wsI
  split
  · simp [coordsI]
  · simp
theorem c_laws_FnExactCoords (M : Mem) (n : Int) (v : V) (xs : List Int) (h : Rep (.sl ty_Int) M [v] xs) (hl : xs.length ≤ 9223372036854775807) : ∃ M', aCall T0 F_laws_FnExactCoords [.int .i64 n, v] M = some (.bool true, M') := by
  by_cases hn : 1048576 < (xs.length : Int)
  · obtain ⟨a, c, rfl⟩ := h.slen
    refine ⟨M, ?_⟩
    rw [aCall_eq T_laws_FnExactCoords]; unfold A_laws_FnExactCoords C_laws_FnExactCoords; simp [hn]
  have hn1 : xs.length ≤ 1048576 := by omega
  have hwl := wsI_len n xs
  obtain ⟨M1, u1, L1, p1, t1, o1, _⟩ := d_toInt M v xs h hn1
  obtain ⟨N1, vw, s1, w1⟩ := d_spec_Coords M1 n u1 xs o1.rep
  have p2 : M1 <+: M1 ++ N1 := List.prefix_append _ _
  generalize M1 ++ N1 = M2 at s1 w1 p2
  obtain ⟨M3, u2, L2, p3, t2, o2, b2⟩ := d_toInt M2 v xs (h.mono (p1.trans p2)) hn1
  obtain ⟨N2, vg, Lg, s2, og, bg⟩ := c_impl_Coords M3 n u2 xs o2.rep hl
  have p4 : M3 <+: M3 ++ N2 := List.prefix_append _ _
  generalize M3 ++ N2 = M4 at s2 og p4
  have q1 := c_laws_eqIntS M4 vg vw _ _ og.rep (w1.mono (p3.trans p4)) (by omega)
  obtain ⟨M5, u3, L3, p5, t3, o3, _⟩ := d_toInt M4 v xs (h.mono (((p1.trans p2).trans p3).trans p4)) hn1
  have q2 := c_laws_eqIntS M5 u2 u3 xs xs (o2.grow (p4.trans p5)).rep o3.rep hl
  obtain ⟨M6, m1, up1, om1⟩ := c_laws_markIntS M5 u2 xs L2 (o2.grow (p4.trans p5)) 1 (by omega) (by omega)
  have p6 : M2 <+: M6 := up1.pre ((p3.trans p4).trans p5) (fun l hl => (b2 l hl).1)
  have og6 := (og.grow p5).upd up1 (fun l hl hk => by have := bg l hl; have := (b2 l hk).2; omega)
  have q3 := c_laws_eqIntS M6 vg vw _ _ og6.rep (w1.mono p6) (by omega)
  obtain ⟨M7, m2, up2, om2⟩ := c_laws_markIntS M6 vg _ Lg og6 1 (by omega) (by omega)
  have p7 : M2 <+: M7 := up2.pre p6 (fun l hl => by have := bg l hl; have := p3.length_le; omega)
  have hd1 := heldB M7 vg 1 _ om2.rep (by omega) (by omega)
  obtain ⟨M8, u4, L4, p8, t4, o4, _⟩ := d_toInt M7 v xs (h.mono ((p1.trans p2).trans p7)) hn1
  obtain ⟨N3, vh, Lh, s3, oh, _⟩ := c_impl_Coords M8 n u4 xs o4.rep hl
  have p9 : M8 <+: M8 ++ N3 := List.prefix_append _ _
  generalize M8 ++ N3 = M9 at s3 oh p9
  have q4 := c_laws_eqIntS M9 vh vw _ _ oh.rep (w1.mono ((p7.trans p8).trans p9)) (by omega)
  have hd2 := heldB M9 vg 1 _ (om2.rep.mono (p8.trans p9)) (by omega) (by omega)
  have hpos : ¬ (1 + ((wsI n xs).length : Int) < 0) := by omega
  have hpos2 : ¬ (1 + ((xs.length : Int)) < 0) := by omega
  obtain ⟨a, c, rfl⟩ := h.slen
  simp at q1 q2 q3 q4
  rw [aCall_eq T_laws_FnExactCoords]; unfold A_laws_FnExactCoords C_laws_FnExactCoords; simp [hn, t1, s1, t2, s2, q1, t3, q2, m1, q3, m2, hd1, t4, s3, q4, hd2, hpos, hpos2]
  exact gc_ex _ _ _
theorem law_laws_FnExactCoords (M : Mem) (avs : List V) (_ : ∀ b ∈ M, b.st ≠ 2) (h : Ins [(false, (.int .i64)), (false, (.sl (.int .i64)))] M avs) : ∃ M', aCall T0 F_laws_FnExactCoords avs M = some (.bool true, M') := by
  obtain ⟨v, vs, x, rfl, h1, f1, h⟩ := ins_cons h
  obtain ⟨v2, vs2, xs, rfl, h2, f2, h⟩ := ins_cons h
  obtain rfl := ins_nil h
  obtain ⟨h1, _⟩ := repv_one h1
  cases h1
  exact c_laws_FnExactCoords M x v2 xs (repv_one h2) f2.1
end GoAm
