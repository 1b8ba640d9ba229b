/- What the functions do that the law reaches; and the law. -/
import Derived.Test.YtcjkoidiipfpeaaFnCoordst
import Derived.Test.YtcjkoidiipfpeaaAmGr
set_option autoImplicit false
set_option linter.unusedVariables false
set_option linter.unusedSimpArgs false
namespace GoAm
open Go
def hs (h : Nat) (b : UInt8) : Nat := ((h ^^^ b.toNat) * 16777619) % 4294967296
abbrev ty_Int : Ty := .int .i64
abbrev enc_Int (x : ty_Int.D) : List V := [.int .i64 x]
theorem at_Int {M : Mem} {a : Option Addr} {n c : Nat} {xs : List ty_Int.D} (h : Rep (.sl ty_Int) M [.slice a n c] xs) {i : Nat} (hi : i < xs.length) : ∃ l o, a = some ⟨l, o, none⟩ ∧ Rep ty_Int M (enc_Int xs[i]) xs[i] ∧ rd1 M l (o + i) = some (.int .i64 xs[i]) := by
  obtain ⟨_, l, o, rfl, cs, hrd, hrep⟩ := rep_at h hi
  have hcs : cs = enc_Int xs[i] := hrep.1
  subst hcs
  have hw1 : ty_Int.w = 1 := rfl
  rw [hw1, Nat.mul_one] at hrd
  exact ⟨l, o, rfl, hrep, rd1_of_one hrd⟩
def idB (n : Int) (x : Int) : Bool := decide (-1 ≤ x) && decide (x ≤ n - 1)
def seqB (n : Int) (xs : List Int) : Bool := (decide (0 ≤ n) && decide (n ≤ 256)) && (decide ((xs.length : Int) ≤ 700) && xs.all (idB n))
def lastAt (n : Int) (xs : List Int) (x : Int) : Nat → Int
  | 0 => x
  | j + 1 => if xs[j]? = some x then n + j else lastAt n xs x j
def coordI (n : Int) (xs : List Int) (i : Nat) : Int := match xs[i]? with
  | some x => if x < 0 then n + i else lastAt n xs x i
  | none => 0
def coordsI (n : Int) (xs : List Int) : List Int := (List.range xs.length).map (coordI n xs)
def wsI (n : Int) (xs : List Int) : List Int := if seqB n xs = true then coordsI n xs else []
theorem c_impl_within (M : Mem) (x a b : Int) : aCall T0 F_impl_within [.int .i64 x, .int .i64 a, .int .i64 b] M = some (.bool (decide (a ≤ x) && decide (x ≤ b)), M) := by
  rw [aCall_eq T_impl_within]; unfold A_impl_within C_impl_within; simp
  repeat' ((first | rw [selO_some] | rw [condR_bool] | rw [selD_some]); split <;> rename_i hq <;> (have hq2 := hq) <;> (try simp at hq2) <;> (try simp [*]))
theorem r_idx_Int (M : Mem) (a : Option Addr) (c : Nat) (xs : List ty_Int.D) (h : Rep (.sl ty_Int) M [.slice a xs.length c] xs) (hn : xs.length ≤ 9223372036854775807) (f : FuncId) (cap : List V) (p : Int → Bool)
    (hp : ∀ i (hi : i < xs.length), aCall T0 f (.int .i64 xs[i] :: cap) M = some (.bool (p xs[i]), M)) (i : Nat) (hi : i < xs.length) (hq : p xs[i] = false) :
    lp (aCall T0) K_slices_IndexFunc_int_int_0 L_slices_IndexFunc_int_int_0 [.slice a xs.length c, .func (.func f) #[] cap.toArray, und, und, und, und, und, .int .i64 xs.length, .int .i64 i, und, und, und, und, und, und, und, und, und, und] M =
    lp (aCall T0) K_slices_IndexFunc_int_int_0 L_slices_IndexFunc_int_int_0 [.slice a xs.length c, .func (.func f) #[] cap.toArray, und, und, und, und, und, .int .i64 xs.length, .int .i64 (i + 1 : Nat), und, und, und, und, und, und, und, und, und, und] M := by
  obtain ⟨l, o, rfl, hrep, hrd⟩ := at_Int h hi
  have ec := hp i hi
  have e6 : IntKind.i64.wrap ((i : Int) + 1) = i + 1 := wrap_i64 (by omega) (by omega)
  rw [S_slices_IndexFunc_int_int_0]; unfold B_slices_IndexFunc_int_int_0; simp [hrd, ec, e6, hi, hq]
theorem x_idx_Int (M : Mem) (a : Option Addr) (c : Nat) (xs : List ty_Int.D) (h : Rep (.sl ty_Int) M [.slice a xs.length c] xs) (f : FuncId) (cap : List V) (p : Int → Bool)
    (hp : ∀ i (hi : i < xs.length), aCall T0 f (.int .i64 xs[i] :: cap) M = some (.bool (p xs[i]), M)) (i : Nat) (hi : i < xs.length) (hq : p xs[i] = true) (k : ACode) :
    thenF M [.tmp 4] (thenS (blockR 0 (lp (aCall T0) K_slices_IndexFunc_int_int_0 L_slices_IndexFunc_int_int_0 [.slice a xs.length c, .func (.func f) #[] cap.toArray, und, und, und, und, und, .int .i64 xs.length, .int .i64 i, und, und, und, und, und, und, und, und, und, und] M)) (aCall T0) k) = some (.int .i64 i, M) := by
  obtain ⟨l, o, rfl, hrep, hrd⟩ := at_Int h hi
  have ec := hp i hi
  rw [S_slices_IndexFunc_int_int_0]; unfold B_slices_IndexFunc_int_int_0; simp [hrd, ec, hi, hq]
theorem c_idx_Int (M : Mem) (v : V) (xs : List ty_Int.D) (h : Rep (.sl ty_Int) M [v] xs) (hn : xs.length ≤ 9223372036854775807) (f : FuncId) (cap : List V) (p : Int → Bool)
    (hp : ∀ i (hi : i < xs.length), aCall T0 f (.int .i64 xs[i] :: cap) M = some (.bool (p xs[i]), M)) :
    aCall T0 F_slices_IndexFunc_int_int [v, .func (.func f) #[] cap.toArray] M = some (.int .i64 (idx p xs), M) := by
  obtain ⟨a, c, rfl⟩ := h.slen
  rcases idx_cases p xs with ⟨ha, h1⟩ | ⟨j, hj, ha, h1, h2⟩
  · have hc := chain (g := fun i : Nat => lp (aCall T0) K_slices_IndexFunc_int_int_0 L_slices_IndexFunc_int_int_0 [.slice a xs.length c, .func (.func f) #[] cap.toArray, und, und, und, und, und, .int .i64 xs.length, .int .i64 i, und, und, und, und, und, und, und, und, und, und] M) (n := xs.length) fun i hi => r_idx_Int M a c xs h hn f cap p hp i hi (h1 i hi)
    simp only [Int.natCast_zero, Int.ofNat_zero] at hc
    rw [ha]
    rw [aCall_eq T_slices_IndexFunc_int_int]; unfold A_slices_IndexFunc_int_int C_slices_IndexFunc_int_int; simp [hc]
    rw [S_slices_IndexFunc_int_int_0]; unfold B_slices_IndexFunc_int_int_0; simp
  · have hc := chain (g := fun i : Nat => lp (aCall T0) K_slices_IndexFunc_int_int_0 L_slices_IndexFunc_int_int_0 [.slice a xs.length c, .func (.func f) #[] cap.toArray, und, und, und, und, und, .int .i64 xs.length, .int .i64 i, und, und, und, und, und, und, und, und, und, und] M) (n := j) fun i hi => r_idx_Int M a c xs h hn f cap p hp i (by omega) (h1 i (by omega) hi)
    simp only [Int.natCast_zero, Int.ofNat_zero] at hc
    rw [ha]
    rw [aCall_eq T_slices_IndexFunc_int_int]; unfold A_slices_IndexFunc_int_int C_slices_IndexFunc_int_int; simp [hc, x_idx_Int M a c xs h f cap p hp j hj h2]
theorem c_any_Int (M : Mem) (v : V) (xs : List ty_Int.D) (h : Rep (.sl ty_Int) M [v] xs) (hn : xs.length ≤ 9223372036854775807) (f : FuncId) (cap : List V) (p : Int → Bool)
    (hp : ∀ i (hi : i < xs.length), aCall T0 f (.int .i64 xs[i] :: cap) M = some (.bool (p xs[i]), M)) :
    aCall T0 F_slices_ContainsFunc_int_int [v, .func (.func f) #[] cap.toArray] M = some (.bool (xs.any p), M) := by
  have h1 := c_idx_Int M v xs h hn f cap p hp
  have h2 := idx_any p xs
  rw [← h2]
  rw [aCall_eq T_slices_ContainsFunc_int_int]; unfold A_slices_ContainsFunc_int_int C_slices_ContainsFunc_int_int; simp [h1]
theorem c_impl_isSeq_1 (M : Mem) (x : Int) (p : Nat) (n : Int) (hn : 0 ≤ n ∧ n ≤ 256) (hp : rd1 M p 0 = some (.int .i64 n)) : aCall T0 F_impl_isSeq_1 [.int .i64 x, .pointer (some ⟨p, 0, none⟩)] M = some (.bool (!idB n x), M) := by
  have e : IntKind.i64.wrap (n - 1) = n - 1 := wrap_i64 (by omega) (by omega)
  unfold idB
  rw [aCall_eq T_impl_isSeq_1]; unfold A_impl_isSeq_1 C_impl_isSeq_1; simp [hp, c_impl_within, e]
theorem c_impl_isSeq (M : Mem) (n : Int) (v : V) (xs : List ty_Int.D) (h : Rep (.sl ty_Int) M [v] xs) (hl : xs.length ≤ 9223372036854775807) : aCall T0 F_impl_isSeq [.int .i64 n, v] M = some (.bool (seqB n xs), M) := by
  unfold seqB
  cases hb : (decide (0 ≤ n) && decide (n ≤ 256)) with
  | false => rw [aCall_eq T_impl_isSeq]; unfold A_impl_isSeq C_impl_isSeq; simp [c_impl_within, hb]
  | true =>
    have hn : 0 ≤ n ∧ n ≤ 256 := by simpa using hb
    have e : aCall T0 F_slices_ContainsFunc_int_int [v, .func (.func F_impl_isSeq_1) #[] #[.pointer (some ⟨M.length, 0, none⟩)]] (M ++ [⟨[.int .i64 n], 1, 2⟩]) = _ :=
      c_any_Int _ v xs (h.mono (List.prefix_append _ _)) hl F_impl_isSeq_1 [.pointer (some ⟨M.length, 0, none⟩)] (fun x => !idB n x) (fun i hi => c_impl_isSeq_1 _ xs[i] M.length n hn (by simp))
    obtain ⟨a, c, rfl⟩ := h.slen
    have e2 : xs.all (idB n) = !xs.any (fun x => !idB n x) := by simp [List.any_eq_not_all_not]
    rw [e2]
    by_cases h7 : (xs.length : Int) ≤ 700
    · rw [aCall_eq T_impl_isSeq]; unfold A_impl_isSeq C_impl_isSeq; simp [c_impl_within, hb, h7, e]
    · rw [aCall_eq T_impl_isSeq]; unfold A_impl_isSeq C_impl_isSeq; simp [c_impl_within, hb, h7]
def ownC (n : Nat) (xs : List Int) (i : Nat) : List V := (List.range n).map fun (d : Nat) => .int .i64 (lastAt n xs d i)
/-- A slice of cells that is filled from the left. -/
def fillC (f : Nat → Int) (n i : Nat) : List V := ((List.range i).map fun j => .int .i64 (f j)) ++ zc (.int .i64 0) (n - i)
theorem fillC_zero (f : Nat → Int) (n : Nat) : fillC f n 0 = zc (.int .i64 0) n := by simp [fillC]
theorem fillC_full (f : Nat → Int) (n : Nat) : fillC f n n = (List.range n).map fun j => .int .i64 (f j) := by simp [fillC]
theorem fillC_len (f : Nat → Int) (n i : Nat) (h : i ≤ n) : (fillC f n i).length = n := by simp [fillC]; omega
theorem fillC_set (f : Nat → Int) (n i : Nat) (h : i < n) : splice (fillC f n i) i [.int .i64 (f i)] = fillC f n (i + 1) := by
  rw [splice_one (by rw [fillC_len f n i (by omega)]; exact h)]
  unfold fillC
  have e : n - i = (n - (i + 1)) + 1 := by omega
  rw [List.set_append_right _ _ (by simp), e]
  have e1 : i - ((List.range i).map fun j => Value.int .i64 (f j)).length = 0 := by simp
  rw [e1, zc_set, List.range_succ]
  simp
theorem r_impl_coords_0 (M : Mem) (n : Nat) (v : V) (hn : n ≤ 256) (i : Nat) (hi : i < n) :
    lp (aCall T0) K_impl_coords_0 L_impl_coords_0 [.int .i64 n, v, und, und, und, .slice (some ⟨M.length, 0, none⟩) n n, und, und, und, und, und, und, und, .int .i64 n, .int .i64 i, und, und, und, und, und, und, und, und, und, und, und, und, und, und, und, und, und, und, und, und, und, und, und, und, und, und, und, und, und, und, und, und, und, und, und, und, und, und, und, und] (M ++ [⟨fillC (fun d => d) n i, 1, 2⟩]) =
    lp (aCall T0) K_impl_coords_0 L_impl_coords_0 [.int .i64 n, v, und, und, und, .slice (some ⟨M.length, 0, none⟩) n n, und, und, und, und, und, und, und, .int .i64 n, .int .i64 (i + 1 : Nat), und, und, und, und, und, und, und, und, und, und, und, und, und, und, und, und, und, und, und, und, und, und, und, und, und, und, und, und, und, und, und, und, und, und, und, und, und, und, und, und] (M ++ [⟨fillC (fun d => d) n (i + 1), 1, 2⟩]) := by
  have e2 := fillC_len (fun d => d) n i (by omega)
  have e3 := fillC_set (fun d => d) n i hi
  have e5 : i + 1 ≤ n := by omega
  have e6 : IntKind.i64.wrap ((i : Int) + 1) = i + 1 := wrap_i64 (by omega) (by omega)
  unfold splice at e3
  simp at e3
  rw [S_impl_coords_0]; unfold B_impl_coords_0; simp [e2, e3, e5, e6, hi]
theorem ownC_len (n : Nat) (xs : List Int) (i : Nat) : (ownC n xs i).length = n := by simp [ownC]
theorem ownC_get (n : Nat) (xs : List Int) (i d : Nat) (h : d < n) : (ownC n xs i)[d]? = some (.int .i64 (lastAt n xs d i)) := by simp [ownC, h]
theorem lastAt_next (n : Int) (xs : List Int) (i : Nat) (x d : Int) (hx : xs[i]? = some x) : lastAt n xs d (i + 1) = if d = x then n + i else lastAt n xs d i := by
  rw [lastAt, hx]
  by_cases h : d = x
  · subst h; simp
  · rw [if_neg h, if_neg (fun e => h (by simpa using e.symm))]
theorem ownC_set (n : Nat) (xs : List Int) (i d : Nat) (h : d < n) (hx : xs[i]? = some (d : Int)) : splice (ownC n xs i) d [.int .i64 (n + i)] = ownC n xs (i + 1) := by
  rw [splice_one (by rw [ownC_len]; exact h)]
  apply List.ext_getElem?
  intro j
  rw [List.getElem?_set]
  by_cases hj : j < n
  · rw [ownC_get n xs (i + 1) j hj, lastAt_next n xs i d j hx]
    by_cases e : d = j
    · subst e; simp [ownC_len, h]
    · rw [if_neg e, ownC_get n xs i j hj, if_neg (by omega)]
  · rw [if_neg (by omega), List.getElem?_eq_none (by rw [ownC_len]; omega), List.getElem?_eq_none (by rw [ownC_len]; omega)]
theorem ownC_same (n : Nat) (xs : List Int) (i : Nat) (x : Int) (hx : xs[i]? = some x) (h : x < 0) : ownC n xs (i + 1) = ownC n xs i := by
  unfold ownC
  apply List.map_congr_left
  intro d _
  rw [lastAt_next n xs i x d hx, if_neg (by omega)]
theorem r_impl_coords_1 (M : Mem) (n : Nat) (a : Option Addr) (c : Nat) (xs : List ty_Int.D) (h : Rep (.sl ty_Int) M [.slice a xs.length c] xs) (hn : n ≤ 256) (hl : xs.length ≤ 700) (hs : ∀ i (hi : i < xs.length), (xs[i] : Int) < n) (i : Nat) (hi : i < xs.length) :
    lp (aCall T0) K_impl_coords_1 L_impl_coords_1 [.int .i64 n, und, und, und, und, .slice (some ⟨M.length, 0, none⟩) n n, und, .slice (some ⟨M.length + 1, 0, none⟩) xs.length xs.length, und, und, und, und, und, und, und, und, und, und, und, und, und, und, und, und, und, .slice a xs.length c, .int .i64 xs.length, .int .i64 i, und, und, und, und, und, und, und, und, und, und, und, und, und, und, und, und, und, und, und, und, und, und, und, und, und, und, und] (M ++ [⟨ownC n xs i, 1, 2⟩, ⟨fillC (coordI n xs) xs.length i, 1, 2⟩]) =
    lp (aCall T0) K_impl_coords_1 L_impl_coords_1 [.int .i64 n, und, und, und, und, .slice (some ⟨M.length, 0, none⟩) n n, und, .slice (some ⟨M.length + 1, 0, none⟩) xs.length xs.length, und, und, und, und, und, und, und, und, und, und, und, und, und, und, und, und, und, .slice a xs.length c, .int .i64 xs.length, .int .i64 (i + 1 : Nat), und, und, und, und, und, und, und, und, und, und, und, und, und, und, und, und, und, und, und, und, und, und, und, und, und, und, und] (M ++ [⟨ownC n xs (i + 1), 1, 2⟩, ⟨fillC (coordI n xs) xs.length (i + 1), 1, 2⟩]) := by
  obtain ⟨l, o, rfl, hrep, hrd⟩ := at_Int h hi
  have hrd' : ∀ N, rd1 (M ++ N) l (o + i) = some (.int .i64 xs[i]) := fun N => rd1_old hrd
  have hlt := hs i hi
  obtain ⟨x, hx⟩ : ∃ x : Int, x = xs[i] := ⟨_, rfl⟩
  rw [← hx] at hrd' hlt
  have hxi : (xs : List Int)[i]? = some x := by rw [hx]; simp [hi]
  have e6 : IntKind.i64.wrap ((i : Int) + 1) = i + 1 := wrap_i64 (by omega) (by omega)
  have e7 : IntKind.i64.wrap ((n : Int) + i) = n + i := wrap_i64 (by omega) (by omega)
  have l1 := fillC_len (coordI n xs) xs.length i (by omega)
  have l2 := ownC_len n xs i
  have e5 : i + 1 ≤ xs.length := by omega
  have e3 := fillC_set (coordI n xs) xs.length i hi
  by_cases hx0 : x < 0
  · have ec : coordI n xs i = n + i := by unfold coordI; rw [hxi]; exact if_pos hx0
    rw [ec] at e3
    unfold splice at e3
    simp at e3
    have hx0' : ¬ (0 ≤ x) := Int.not_le.2 hx0
    rw [ownC_same n xs i x hxi hx0]
    rw [S_impl_coords_1]; unfold B_impl_coords_1; simp [hrd', e6, e7, hi, l1, l2, e5, e3, hx0']
  · obtain ⟨d, rfl⟩ : ∃ d : Nat, x = d := ⟨x.toNat, by omega⟩
    have hlt2 : (d : Int) < (n : Int) := hlt
    have hd : d < n := by omega
    have ec : coordI n xs i = lastAt n xs d i := by unfold coordI; rw [hxi]; exact if_neg hx0
    have g1 := ownC_get n xs i d hd
    have g1b : ∀ hh : d < (ownC n xs i).length, (ownC n xs i)[d] = .int .i64 (lastAt n xs d i) := fun hh => by rw [List.getElem?_eq_getElem hh] at g1; exact Option.some.inj g1
    have g2 := ownC_set n xs i d hd hxi
    obtain ⟨Z, hZ⟩ : ∃ Z, Z = splice (fillC (coordI n xs) xs.length i) i [.int .i64 (n + i)] := ⟨_, rfl⟩
    have l3 : Z.length = xs.length := by rw [hZ, splice_len _ _ _ (by rw [l1]; simp; omega), l1]
    have e4 : splice Z i [.int .i64 (lastAt n xs d i)] = fillC (coordI n xs) xs.length (i + 1) := by
      have q1 := splice_one (cs := fillC (coordI n xs) xs.length i) (o := i) (v := .int .i64 (n + i)) (by rw [l1]; exact hi)
      have q2 := splice_one (cs := fillC (coordI n xs) xs.length i) (o := i) (v := .int .i64 (lastAt n xs d i)) (by rw [l1]; exact hi)
      rw [← e3, ec, q2, hZ, q1, splice_one (by rw [List.length_set, l1]; exact hi), List.set_set]
    have e4' := hZ.symm
    unfold splice at e4 e4' g2
    simp at e4 e4' g2
    have e8 : d + 1 ≤ n := by omega
    rw [S_impl_coords_1]; unfold B_impl_coords_1; simp [hrd', e6, e7, hi, l1, l2, l3, e5, e4, e4', g1b, g2, hd, e8]
theorem fillC_own (n : Nat) (xs : List Int) : fillC (fun d => d) n n = ownC n xs 0 := by
  rw [fillC_full]
  rfl
theorem c_impl_coords (M : Mem) (n : Nat) (v : V) (xs : List ty_Int.D) (h : Rep (.sl ty_Int) M [v] xs) (hn : n ≤ 256) (hl : xs.length ≤ 700) (hs : ∀ i (hi : i < xs.length), (xs[i] : Int) < n) :
    aCall T0 F_impl_coords [.int .i64 n, v] M = some (.slice (some ⟨M.length + 1, 0, none⟩) xs.length xs.length, M ++ [⟨ownC n xs xs.length, 1, 2⟩, ⟨(List.range xs.length).map fun j => .int .i64 (coordI n xs j), 1, 2⟩]) := by
  obtain ⟨a, c, rfl⟩ := h.slen
  have h0 := chain (g := fun i : Nat => lp (aCall T0) K_impl_coords_0 L_impl_coords_0 [.int .i64 n, .slice a xs.length c, und, und, und, .slice (some ⟨M.length, 0, none⟩) n n, und, und, und, und, und, und, und, .int .i64 n, .int .i64 i, und, und, und, und, und, und, und, und, und, und, und, und, und, und, und, und, und, und, und, und, und, und, und, und, und, und, und, und, und, und, und, und, und, und, und, und, und, und, und, und] (M ++ [⟨fillC (fun d => d) n i, 1, 2⟩])) (n := n) fun i hi => r_impl_coords_0 M n _ hn i hi
  have h1 := chain (g := fun i : Nat => lp (aCall T0) K_impl_coords_1 L_impl_coords_1 [.int .i64 n, und, und, und, und, .slice (some ⟨M.length, 0, none⟩) n n, und, .slice (some ⟨M.length + 1, 0, none⟩) xs.length xs.length, und, und, und, und, und, und, und, und, und, und, und, und, und, und, und, und, und, .slice a xs.length c, .int .i64 xs.length, .int .i64 i, und, und, und, und, und, und, und, und, und, und, und, und, und, und, und, und, und, und, und, und, und, und, und, und, und, und, und] (M ++ [⟨ownC n xs i, 1, 2⟩, ⟨fillC (coordI n xs) xs.length i, 1, 2⟩])) (n := xs.length) fun i hi => r_impl_coords_1 M n a c xs h hn hl hs i hi
  simp only [Int.natCast_zero, Int.ofNat_zero, fillC_zero, fillC_own n xs, fillC_full] at h0 h1
  have e1 : (n : Int) * 8 ≤ 281474976710656 := by omega
  have e2 : (n : Int) ≤ 9223372036854775807 := by omega
  have e3 : (xs.length : Int) * 8 ≤ 281474976710656 := by omega
  have e4 : (xs.length : Int) ≤ 9223372036854775807 := by omega
  rw [aCall_eq T_impl_coords]; unfold A_impl_coords C_impl_coords; simp [e1, e2, e3, e4, h0]
  rw [S_impl_coords_0]; unfold B_impl_coords_0; simp [e1, e2, e3, e4, h1]
  rw [S_impl_coords_1]; unfold B_impl_coords_1; simp
theorem flat_Int (xs : List Int) : (xs.map enc_Int).flatten = xs.map (fun m => Value.int .i64 m) := by
  induction xs with
  | nil => rfl
  | cons x xs ih => rw [List.map_cons, List.flatten_cons, ih]; rfl
theorem own_block {M : Mem} {l c : Nat} {ys : List Int} (hb : M[l]? = some ⟨ys.map fun n => .int .i64 n, 1, 2⟩) (hw : ∀ y ∈ ys, (Lit.int .i64 y).wf = true) : ∃ L, Own (.sl ty_Int) M [.slice (some ⟨l, 0, none⟩) ys.length c] ys L ∧ ∀ j ∈ L, j = l := by
  by_cases hy : ys = []
  · subst hy
    exact ⟨[], .inl ⟨rfl, rfl, .inr ⟨l, 0, c, _, [], rfl, hb, .inr (.inr rfl), rfl, rfl, fun i ds x hd => by simp at hd, by simp⟩⟩, by simp⟩
  · refine ⟨[l], .inr ⟨l, 0, c, _, ys.map enc_Int, ys.map (fun _ => []), hy, rfl, hb, rfl, rfl, by simp, by simp, ?_, ?_, ?_⟩, by simp⟩
    · intro i ds x K h1 h2 h3
      rw [List.getElem?_map, h2] at h1
      rw [List.getElem?_map, h2] at h3
      simp only [Option.map_some, Option.some.injEq] at h1 h3
      subst h1; subst h3
      exact ⟨⟨rfl, hw x (List.mem_of_getElem? h2)⟩, rfl⟩
    · rw [flat_Int]; simp
    · have : (ys.map (fun _ => ([] : List Nat))).flatten = [] := by
        rw [List.flatten_eq_nil_iff]
        intro K hK
        obtain ⟨_, _, rfl⟩ := List.mem_map.1 hK
        rfl
      rw [this]
theorem seqB_parts {n : Int} {xs : List Int} (h : seqB n xs = true) : (0 ≤ n ∧ n ≤ 256) ∧ xs.length ≤ 700 ∧ ∀ i (hi : i < xs.length), -1 ≤ xs[i] ∧ xs[i] < n := by
  simp only [seqB, Bool.and_eq_true, decide_eq_true_eq] at h
  obtain ⟨h1, h2, h3⟩ := h
  refine ⟨h1, by omega, fun i hi => ?_⟩
  have := all_at h3 hi
  simp only [idB, Bool.and_eq_true, decide_eq_true_eq] at this
  omega
theorem lastAt_bound {n : Int} {xs : List Int} {x : Int} (hn : 0 ≤ n ∧ n ≤ 256) (hx : 0 ≤ x ∧ x < n) : ∀ j, j ≤ 700 → 0 ≤ lastAt n xs x j ∧ lastAt n xs x j ≤ 956
  | 0, _ => by unfold lastAt; omega
  | j + 1, h => by
    unfold lastAt
    split
    · omega
    · exact lastAt_bound hn hx j (by omega)
theorem wf_range {z : Int} (h : -9223372036854775808 ≤ z ∧ z ≤ 9223372036854775807) : (Lit.int .i64 z).wf = true := by
  simp [Lit.wf, IntKind.min, IntKind.max, IntKind.signed, IntKind.bits]; omega
theorem coordsI_wf {n : Int} {xs : List Int} (h : seqB n xs = true) : ∀ y ∈ coordsI n xs, (Lit.int .i64 y).wf = true := by
  obtain ⟨h1, h2, h3⟩ := seqB_parts h
  intro y hy
  obtain ⟨i, hi, rfl⟩ := List.mem_map.1 hy
  have hi : i < xs.length := by simpa using hi
  have := h3 i hi
  apply wf_range
  unfold coordI
  rw [List.getElem?_eq_getElem hi]
  simp only
  split
  · omega
  · have := lastAt_bound (n := n) (xs := xs) (x := xs[i]) h1 (by omega) i (by omega)
    omega
theorem c_impl_Coords (M : Mem) (n : Int) (v : V) (xs : List Int) (h : Rep (.sl ty_Int) M [v] xs) (hl : xs.length ≤ 9223372036854775807) :
    ∃ N vg L, aCall T0 F_impl_Coords [.int .i64 n, v] M = some (.tuple #[vg, .bool (seqB n xs)], M ++ N) ∧ Own (.sl ty_Int) (M ++ N) [vg] (wsI n xs) L ∧ ∀ l ∈ L, M.length ≤ l := by
  have e := c_impl_isSeq M n v xs h hl
  unfold wsI
  cases hb : seqB n xs with
  | false =>
    rw [hb] at e
    refine ⟨[], .slice none 0 0, [], ?_, .inl ⟨rfl, rfl, .inl ⟨rfl, rfl⟩⟩, by simp⟩
    rw [aCall_eq T_impl_Coords]; unfold A_impl_Coords C_impl_Coords; simp [e]
  | true =>
    obtain ⟨h1, h2, h3⟩ := seqB_parts hb
    obtain ⟨m, rfl⟩ : ∃ m : Nat, n = m := ⟨n.toNat, by omega⟩
    rw [hb] at e
    have e2 := c_impl_coords M m v xs h (by omega) h2 (fun i hi => (h3 i hi).2)
    have hm : ((List.range xs.length).map fun j => Value.int .i64 (coordI m xs j)) = (coordsI m xs).map fun n => .int .i64 n := by simp [coordsI]
    obtain ⟨L, o1, o2⟩ := own_block (M := M ++ [⟨ownC m xs xs.length, 1, 2⟩, ⟨(coordsI m xs).map fun n => .int .i64 n, 1, 2⟩]) (l := M.length + 1) (c := xs.length) (ys := coordsI m xs) (by simp) (coordsI_wf hb)
    have hlen : (coordsI m xs).length = xs.length := by simp [coordsI]
    rw [hlen] at o1
    rw [hm] at e2
    refine ⟨_, _, L, ?_, o1, fun l hl => by rw [o2 l hl]; omega⟩
    rw [aCall_eq T_impl_Coords]; unfold A_impl_Coords C_impl_Coords; simp [e, e2]
theorem gc_ex (M M' : Mem) (v : V) : ∃ X, gc M (some (v, M')) = some (v, X) := by
  simp only [gc]
  split
  · exact ⟨_, rfl⟩
  · exact ⟨_, rfl⟩
def drB (x : Int) : Bool := decide (0 ≤ x) && decide (x ≤ 65535)
def leafI (d l : Int) : Int := if drB d = true ∧ (0 ≤ l ∧ l ≤ 6) then ((d.toNat % 2 ^ l.toNat : Nat) : Int) else -1
theorem pow2_pos (n : Nat) : (0 : Int) < 2 ^ n := Int.pow_pos (by omega)
theorem pow2_le {n m : Nat} (h : n ≤ m) : (2 : Int) ^ n ≤ 2 ^ m := by
  have := Nat.pow_le_pow_right (show 0 < 2 by omega) h
  exact_mod_cast this
theorem c_impl_LeafOf (M : Mem) (d l : Int) : aCall T0 F_impl_LeafOf [.int .i64 d, .int .i64 l] M = some (.int .i64 (leafI d l), M) := by
  unfold leafI
  cases hd : drB d with
  | false =>
    have e : (decide (0 ≤ d) && decide (d ≤ 65535)) = false := hd
    rw [aCall_eq T_impl_LeafOf]; unfold A_impl_LeafOf C_impl_LeafOf; simp [c_impl_within, e]
  | true =>
    have e : (decide (0 ≤ d) && decide (d ≤ 65535)) = true := hd
    have hd2 : 0 ≤ d ∧ d ≤ 65535 := by simpa using e
    by_cases hl : 0 ≤ l ∧ l ≤ 6
    · obtain ⟨m, rfl⟩ : ∃ m : Nat, l = m := ⟨l.toNat, by omega⟩
      obtain ⟨k, rfl⟩ : ∃ k : Nat, d = k := ⟨d.toNat, by omega⟩
      have e2 : (decide (0 ≤ (m : Int)) && decide ((m : Int) ≤ 6)) = true := by simp; omega
      have hp : 2 ^ m ≤ 2 ^ 6 := Nat.pow_le_pow_right (by omega) (by omega)
      have hq : 0 < 2 ^ m := Nat.two_pow_pos m
      have e1 : bshl .i64 1 m = ((2 ^ m : Nat) : Int) := by
        unfold bshl
        have hm : min (m : Int).toNat IntKind.i64.bits = m := by show min _ 64 = m; omega
        rw [hm, wrap_i64 (by have := pow2_pos m; omega) (by have := pow2_le (show m ≤ 6 by omega); omega)]
        simp
      have e3 : IntKind.i64.wrap (((2 ^ m : Nat) : Int) - 1) = ((2 ^ m - 1 : Nat) : Int) := by
        rw [wrap_i64 (by omega) (by omega)]; omega
      have e4 := and_i64 (a := k) (b := 2 ^ m - 1) (by omega) (by omega)
      rw [Nat.and_two_pow_sub_one_eq_mod] at e4
      rw [if_pos ⟨rfl, hl⟩]
      simp only [Int.natCast_pow] at e1 e3 e4
      have e5 : (decide ((k : Int) ≤ 65535)) = true := by simp; omega
      have e6 : (decide ((m : Int) ≤ 6)) = true := by simp; omega
      have e7 : (k : Int) ≤ 65535 := by omega
      have e8 : (m : Int) ≤ 6 := by omega
      rw [aCall_eq T_impl_LeafOf]; unfold A_impl_LeafOf C_impl_LeafOf; simp [c_impl_within, e7, e8, e1]
      simp at e3 e4
      rw [e3, e4]
    · have e2 : (decide (0 ≤ l) && decide (l ≤ 6)) = false := by simpa using hl
      rw [if_neg (fun h => hl h.2)]
      rw [aCall_eq T_impl_LeafOf]; unfold A_impl_LeafOf C_impl_LeafOf; simp [c_impl_within, e, e2]
def drsB (k : Int) (ds : List Int) : Bool := decide ((ds.length : Int) = k) && ds.all drB
def drawAt (ds : List Int) (z : Int) : Int := (ds[z.toNat]?).getD 0
def pathI (n : Int) (l : Int) (ids ds : List Int) (i : Nat) : Int := leafI (drawAt ds (coordI n ids i)) l
def logB (l : Int) : Bool := decide (0 ≤ l) && decide (l ≤ 6)
def pathOk (n l : Int) (ids ds : List Int) : Bool := seqB n ids && (logB l && drsB (n + ids.length) ds)
def pathsI (n l : Int) (ids ds : List Int) : List Int := (List.range ids.length).map (pathI n l ids ds)
def pathR (n l : Int) (ids ds : List Int) : List Int := if pathOk n l ids ds = true then pathsI n l ids ds else []
theorem lastAt_lt {n : Int} {xs : List Int} {x : Int} (hx : 0 ≤ x ∧ x < n) : ∀ j, 0 ≤ lastAt n xs x j ∧ lastAt n xs x j < n + j
  | 0 => by unfold lastAt; omega
  | j + 1 => by
    have := lastAt_lt (xs := xs) hx j
    unfold lastAt
    split <;> omega
theorem coordI_lt {n : Int} {xs : List Int} (hn : 0 ≤ n) (hs : ∀ i (hi : i < xs.length), xs[i] < n) {i : Nat} (hi : i < xs.length) : 0 ≤ coordI n xs i ∧ coordI n xs i ≤ n + i := by
  unfold coordI
  rw [List.getElem?_eq_getElem hi]
  simp only
  have h1 := hs i hi
  split
  · omega
  · have := lastAt_lt (n := n) (xs := xs) (x := xs[i]) (by omega) i
    omega
theorem c_impl_isLog (M : Mem) (x : Int) : aCall T0 F_impl_isLog [.int .i64 x] M = some (.bool (decide (0 ≤ x) && decide (x ≤ 6)), M) := by
  rw [aCall_eq T_impl_isLog]; unfold A_impl_isLog C_impl_isLog; simp [c_impl_within]
def mixC (f g : Nat → Int) (n i : Nat) : List V := (List.range n).map fun j => .int .i64 (if j < i then f j else g j)
theorem mixC_zero (f g : Nat → Int) (n : Nat) : mixC f g n 0 = (List.range n).map fun j => .int .i64 (g j) := by simp [mixC]
theorem mixC_full (f g : Nat → Int) (n : Nat) : mixC f g n n = (List.range n).map fun j => .int .i64 (f j) := by
  unfold mixC
  apply List.map_congr_left
  intro j hj
  rw [if_pos (by simpa using hj)]
theorem c_impl_areDraws_1 (M : Mem) (x : Int) : aCall T0 F_impl_areDraws_1 [.int .i64 x] M = some (.bool (!drB x), M) := by
  unfold drB
  rw [aCall_eq T_impl_areDraws_1]; unfold A_impl_areDraws_1 C_impl_areDraws_1; simp [c_impl_within]
theorem c_impl_areDraws (M : Mem) (v : V) (ds : List Int) (h : Rep (.sl ty_Int) M [v] ds) (hl : ds.length ≤ 9223372036854775807) (k : Int) : aCall T0 F_impl_areDraws [v, .int .i64 k] M = some (.bool (drsB k ds), M) := by
  have e : aCall T0 F_slices_ContainsFunc_int_int [v, .func (.func F_impl_areDraws_1) #[] #[]] M = _ := c_any_Int M v ds h hl F_impl_areDraws_1 [] (fun x => !drB x) (fun i hi => c_impl_areDraws_1 M ds[i])
  obtain ⟨a, c, rfl⟩ := h.slen
  have e2 : ds.all drB = !ds.any (fun x => !drB x) := by simp [List.any_eq_not_all_not]
  unfold drsB
  rw [e2]
  by_cases hk : (ds.length : Int) = k
  · subst hk
    rw [aCall_eq T_impl_areDraws]; unfold A_impl_areDraws C_impl_areDraws; simp [e]
  · rw [aCall_eq T_impl_areDraws]; unfold A_impl_areDraws C_impl_areDraws; simp [hk]
theorem leafI_range (d l : Int) : -1 ≤ leafI d l ∧ leafI d l ≤ 65535 := by
  unfold leafI
  split
  · rename_i h
    have h1 : 0 ≤ d ∧ d ≤ 65535 := by simpa [drB] using h.1
    have := Nat.mod_le d.toNat (2 ^ l.toNat)
    omega
  · omega
theorem pathsI_wf (n l : Int) (ids ds : List Int) : ∀ y ∈ pathsI n l ids ds, (Lit.int .i64 y).wf = true := by
  intro y hy
  obtain ⟨i, _, rfl⟩ := List.mem_map.1 hy
  have := leafI_range (drawAt ds (coordI n ids i)) l
  exact wf_range (by unfold pathI; omega)
theorem mixC_len (f g : Nat → Int) (n i : Nat) : (mixC f g n i).length = n := by simp [mixC]
theorem mixC_get (f g : Nat → Int) (n i : Nat) (h : i < n) : (mixC f g n i)[i]? = some (.int .i64 (g i)) := by simp [mixC, h]
theorem mixC_set (f g : Nat → Int) (n i : Nat) (h : i < n) : splice (mixC f g n i) i [.int .i64 (f i)] = mixC f g n (i + 1) := by
  rw [splice_one (by rw [mixC_len]; exact h)]
  apply List.ext_getElem?
  intro j
  rw [List.getElem?_set]
  by_cases hj : i = j
  · subst hj
    simp [mixC_len, h]
    simp [mixC, h]
  · rw [if_neg hj]
    simp only [mixC, List.getElem?_map]
    by_cases hjn : j < n
    · simp only [List.getElem?_range hjn, Option.map_some]
      by_cases h1 : j < i
      · rw [if_pos h1, if_pos (by omega)]
      · rw [if_neg h1, if_neg (by omega)]
    · rw [List.getElem?_eq_none (by simp; omega)]
      simp
theorem drawAt_get {ds : List Int} {z : Int} (h0 : 0 ≤ z) (h : z < ds.length) : drawAt ds z = ds[z.toNat]'(by omega) := by
  unfold drawAt
  rw [List.getElem?_eq_getElem (by omega)]
  rfl
theorem rd_draw {M : Mem} {a : Option Addr} {c : Nat} {ds : List Int} (h : Rep (.sl ty_Int) M [.slice a ds.length c] ds) {z : Int} (h0 : 0 ≤ z) (h1 : z < ds.length) : ∃ l o, a = some ⟨l, o, none⟩ ∧ rd1 M l (o + z.toNat) = some (.int .i64 (drawAt ds z)) := by
  obtain ⟨l, o, rfl, _, hrd⟩ := at_Int h (i := z.toNat) (by omega)
  exact ⟨l, o, rfl, by rw [drawAt_get h0 h1]; exact hrd⟩
theorem r_impl_PathSeq (M : Mem) (O : Blk) (n : Nat) (l : Int) (a : Option Addr) (c : Nat) (ids ds : List Int) (hd : Rep (.sl ty_Int) M [.slice a ds.length c] ds) (hl : ids.length ≤ 700) (hs : ∀ i (hi : i < ids.length), ids[i] < (n : Int)) (hdl : (ds.length : Int) = n + ids.length) (i : Nat) (hi : i < ids.length) :
    lp (aCall T0) K_impl_PathSeq_0 L_impl_PathSeq_0 [und, .int .i64 l, und, .slice a ds.length c, und, und, und, und, und, und, .slice (some ⟨M.length + 1, 0, none⟩) ids.length ids.length, und, und, und, und, und, und, und, und, und, und, und, und, und, und, und, und, und, und, und, und, und, und, und, .slice (some ⟨M.length + 1, 0, none⟩) ids.length ids.length, .int .i64 ids.length, .int .i64 i, und, und, und, und, und, und, und, und, und, und, und, und, und, und, und] (M ++ [O, ⟨mixC (pathI n l ids ds) (coordI n ids) ids.length i, 1, 2⟩]) =
    lp (aCall T0) K_impl_PathSeq_0 L_impl_PathSeq_0 [und, .int .i64 l, und, .slice a ds.length c, und, und, und, und, und, und, .slice (some ⟨M.length + 1, 0, none⟩) ids.length ids.length, und, und, und, und, und, und, und, und, und, und, und, und, und, und, und, und, und, und, und, und, und, und, und, .slice (some ⟨M.length + 1, 0, none⟩) ids.length ids.length, .int .i64 ids.length, .int .i64 (i + 1 : Nat), und, und, und, und, und, und, und, und, und, und, und, und, und, und, und] (M ++ [O, ⟨mixC (pathI n l ids ds) (coordI n ids) ids.length (i + 1), 1, 2⟩]) := by
  have hz := coordI_lt (n := n) (xs := ids) (by omega) hs hi
  have e1 := mixC_get (pathI n l ids ds) (coordI n ids) ids.length i hi
  have e2 := mixC_len (pathI n l ids ds) (coordI n ids) ids.length i
  have e3 := mixC_set (pathI n l ids ds) (coordI n ids) ids.length i hi
  have e4 : pathI n l ids ds i = leafI (drawAt ds (coordI n ids i)) l := rfl
  obtain ⟨z, hz2⟩ : ∃ z, z = coordI n ids i := ⟨_, rfl⟩
  rw [← hz2] at hz e1 e4
  have h0 : 0 ≤ z := hz.1
  have h1 : z < ds.length := by omega
  obtain ⟨p, o, rfl, hrd⟩ := rd_draw hd h0 h1
  have hrd' : ∀ N, rd1 (M ++ N) p (o + z.toNat) = some (.int .i64 (drawAt ds z)) := fun N => rd1_old hrd
  have e5 : i + 1 ≤ ids.length := by omega
  have e6 : IntKind.i64.wrap ((i : Int) + 1) = i + 1 := wrap_i64 (by omega) (by omega)
  have e7 : ∀ hh : i < (mixC (pathI n l ids ds) (coordI n ids) ids.length i).length, (mixC (pathI n l ids ds) (coordI n ids) ids.length i)[i] = .int .i64 z := fun hh => by rw [List.getElem?_eq_getElem hh] at e1; exact Option.some.inj e1
  have e8 := fun M => c_impl_LeafOf M (drawAt ds z) l
  rw [← e4] at e8
  unfold splice at e3
  simp at e3
  rw [S_impl_PathSeq_0]; unfold B_impl_PathSeq_0; simp [e1, e2, e3, e5, e6, e7, e8, hi, h0, h1, hrd']
theorem d_impl_PathSeq (M : Mem) (n l : Int) (v_ids : V) (ids : List Int) (h_ids : Rep (.sl ty_Int) M [v_ids] ids) (hn_ids : ids.length ≤ 1048576) (v_ds : V) (ds : List Int) (h_ds : Rep (.sl ty_Int) M [v_ds] ds) (hn_ds : ds.length ≤ 1048576) :
    ∃ M' u L, M <+: M' ∧ aCall T0 F_impl_PathSeq [.int .i64 n, .int .i64 l, v_ids, v_ds] M = some (.tuple #[u, .bool (pathOk n l ids ds)], M') ∧ Own (.sl ty_Int) M' [u] (pathR n l ids ds) L ∧ ∀ l ∈ L, M.length ≤ l ∧ l < M'.length := by
  have g1 := c_impl_isSeq M n v_ids ids h_ids (by omega)
  have g2 := fun M => c_impl_isLog M l
  have g3 := c_impl_areDraws M v_ds ds h_ds (by omega) (n + ids.length)
  unfold pathR
  cases hb : pathOk n l ids ds with
  | false =>
    refine ⟨M, .slice none 0 0, [], List.prefix_refl _, ?_, .inl ⟨rfl, rfl, .inl ⟨rfl, rfl⟩⟩, by simp⟩
    simp only [pathOk] at hb
    cases q1 : seqB n ids with
    | false =>
      obtain ⟨a, c, rfl⟩ := h_ids.slen
      rw [aCall_eq T_impl_PathSeq]; unfold A_impl_PathSeq C_impl_PathSeq; simp [g1, q1]
    | true =>
      have hsq := seqB_parts q1
      have w1 : IntKind.i64.wrap (n + (ids.length : Int)) = n + ids.length := wrap_i64 (by omega) (by omega)
      rw [q1, Bool.true_and] at hb
      obtain ⟨a, c, rfl⟩ := h_ids.slen
      cases q2 : logB l with
      | false =>
        have q2' : (decide (0 ≤ l) && decide (l ≤ 6)) = false := q2
        rw [aCall_eq T_impl_PathSeq]; unfold A_impl_PathSeq C_impl_PathSeq; simp [g1, g2, q1, q2']
      | true =>
        have q2' : (decide (0 ≤ l) && decide (l ≤ 6)) = true := q2
        rw [q2, Bool.true_and] at hb
        rw [aCall_eq T_impl_PathSeq]; unfold A_impl_PathSeq C_impl_PathSeq; simp [g1, g2, g3, q1, q2', hb, w1]
  | true =>
    simp only [pathOk, Bool.and_eq_true] at hb
    obtain ⟨q1, q2, q3⟩ := hb
    obtain ⟨h1, h2, h3⟩ := seqB_parts q1
    have q2' : (decide (0 ≤ l) && decide (l ≤ 6)) = true := q2
    have hdl : (ds.length : Int) = n + ids.length := by
      simp only [drsB, Bool.and_eq_true, decide_eq_true_eq] at q3
      exact q3.1
    have w1 : IntKind.i64.wrap (n + (ids.length : Int)) = n + ids.length := wrap_i64 (by omega) (by omega)
    obtain ⟨m, rfl⟩ : ∃ m : Nat, n = m := ⟨n.toNat, by omega⟩
    have e2 := c_impl_coords M m v_ids ids h_ids (by omega) h2 (fun i hi => (h3 i hi).2)
    obtain ⟨ai, ci, rfl⟩ := h_ids.slen
    obtain ⟨ad, cd, rfl⟩ := h_ds.slen
    have hc := chain (g := fun i : Nat => lp (aCall T0) K_impl_PathSeq_0 L_impl_PathSeq_0 [und, .int .i64 l, und, .slice ad ds.length cd, und, und, und, und, und, und, .slice (some ⟨M.length + 1, 0, none⟩) ids.length ids.length, und, und, und, und, und, und, und, und, und, und, und, und, und, und, und, und, und, und, und, und, und, und, und, .slice (some ⟨M.length + 1, 0, none⟩) ids.length ids.length, .int .i64 ids.length, .int .i64 i, und, und, und, und, und, und, und, und, und, und, und, und, und, und, und] (M ++ [⟨ownC m ids ids.length, 1, 2⟩, ⟨mixC (pathI m l ids ds) (coordI m ids) ids.length i, 1, 2⟩])) (n := ids.length) fun i hi => r_impl_PathSeq M _ m l ad cd ids ds h_ds h2 (fun i hi => (h3 i hi).2) hdl i hi
    have hm : mixC (pathI m l ids ds) (coordI m ids) ids.length ids.length = (pathsI m l ids ds).map fun n => .int .i64 n := by simp [mixC_full, pathsI]
    simp only [Int.natCast_zero, Int.ofNat_zero, mixC_zero, hm] at hc
    obtain ⟨L, o1, o2⟩ := own_block (M := M ++ [⟨ownC m ids ids.length, 1, 2⟩, ⟨(pathsI m l ids ds).map fun n => .int .i64 n, 1, 2⟩]) (l := M.length + 1) (c := ids.length) (ys := pathsI m l ids ds) (by simp) (pathsI_wf m l ids ds)
    have hlen : (pathsI m l ids ds).length = ids.length := by simp [pathsI]
    rw [hlen] at o1
    rw [if_pos rfl]
    refine ⟨_, _, L, List.prefix_append _ _, ?_, o1, fun l hl => by rw [o2 l hl]; simp⟩
    rw [aCall_eq T_impl_PathSeq]; unfold A_impl_PathSeq C_impl_PathSeq; simp [g1, g2, g3, q1, q2', q3, w1, e2, hc]
    rw [S_impl_PathSeq_0]; unfold B_impl_PathSeq_0; simp
theorem c_spec_l11Log (M : Mem) (x : Int) : aCall T0 F_spec_l11Log [.int .i64 x] M = some (.bool (decide (0 ≤ x) && decide (x ≤ 6)), M) := by
  rw [aCall_eq T_spec_l11Log]; unfold A_spec_l11Log C_spec_l11Log; simp
  repeat' ((first | rw [selO_some] | rw [condR_bool] | rw [selD_some]); split <;> rename_i hq <;> (have hq2 := hq) <;> (try simp at hq2) <;> (try simp [*]))
theorem rep_blk {t : Ty} {M : Mem} {l o n c : Nat} {xs : List t.D} (h : Rep (.sl t) M [.slice (some ⟨l, o, none⟩) n c] xs) : ∃ blk, M[l]? = some blk ∧ blk.w = t.w ∧ n = xs.length := by
  rcases h with ⟨h, _⟩ | ⟨l', o', c', blk, css, e, h2, h3, h4, h5, h6, h7⟩
  · simp at h
  · simp only [List.cons.injEq, Value.slice.injEq, Option.some.injEq, Addr.mk.injEq, and_true, true_and] at e
    obtain ⟨⟨rfl, rfl⟩, rfl, rfl⟩ := e
    exact ⟨blk, h2, h4, rfl⟩
theorem rep_cells {t : Ty} {M : Mem} {enc : t.D → List V} (henc : ∀ (cs : List V) (x : t.D), Rep t M cs x → cs = enc x) {a : Option Addr} {n c : Nat} {xs : List t.D} (h : Rep (.sl t) M [.slice a n c] xs) {k c2 : Nat} (hk : k ≤ xs.length) :
    sliceCells M t.w (.slice a k c2) = some (k, ((xs.take k).map enc).flatten) := by
  rcases h with ⟨h, rfl⟩ | ⟨l', o', c', blk, css, e, h2, h3, h4, h5, h6, h7⟩
  · simp at h hk
    obtain ⟨rfl, rfl, rfl⟩ := h
    subst hk
    simp [sliceCells]
  · simp only [List.cons.injEq, Value.slice.injEq, and_true] at e
    obtain ⟨rfl, rfl, rfl⟩ := e
    by_cases hk0 : k = 0
    · subst hk0
      simp [sliceCells]
    have hw := Rep.css_w h5 h6
    have hcs : css = xs.map enc := by
      apply List.ext_getElem (by simp [h5])
      intro i h1 h2
      rw [List.getElem_map]
      exact henc _ _ (h6 i _ _ (by simp [h1]) (by simp))
    have hlen := flat_len hw
    have hpos := t.w_pos
    have h3' : blk.st = 1 ∨ blk.st = 2 := by
      rcases h3 with h3 | h3 | h3
      · exact .inl h3
      · exact .inr h3
      · subst h3; simp at hk; omega
    obtain ⟨r, hr⟩ := h7
    have hdl : css.flatten.length + r.length = blk.cells.length - o' := by rw [← List.length_drop, ← hr, List.length_append]
    have hle : k * t.w ≤ css.length * t.w := Nat.mul_le_mul_right _ (by omega)
    have hpos2 : 0 < k * t.w := Nat.mul_pos (by omega) hpos
    unfold sliceCells
    simp only
    rw [if_neg (by omega)]
    unfold rdn
    rw [h2]
    simp only
    rw [if_pos ⟨h3', by omega⟩]
    simp only [Option.map_some]
    congr 2
    rw [← hr, List.take_append_of_le_length (by omega)]
    have e2 : css = (xs.take k).map enc ++ (xs.drop k).map enc := by rw [hcs, ← List.map_append, List.take_append_drop]
    have e3 : (((xs.take k).map enc).flatten).length = k * t.w := by
      rw [flat_len (w := t.w) (fun cs hc => hw cs (by rw [e2]; exact List.mem_append_left _ hc))]
      simp [Nat.min_eq_left hk]
    rw [e2, List.flatten_append, ← e3, List.take_left']
    rfl
theorem idB_t {n x : Int} (h : idB n x = true) : ¬ x < -1 ∧ ¬ n ≤ x := by
  simp only [idB, Bool.and_eq_true, decide_eq_true_eq] at h; omega
theorem r_spec_l15Right (M : Mem) (n : Int) (a : Option Addr) (c : Nat) (xs : List ty_Int.D) (h : Rep (.sl ty_Int) M [.slice a xs.length c] xs) (hl : xs.length ≤ 700) (i : Nat) (hi : i < xs.length) (hq : idB n xs[i] = true) :
    lp (aCall T0) K_spec_l15Right_0 L_spec_l15Right_0 [.int .i64 n, .slice a xs.length c, und, und, und, .int .i64 i, und, und, und, und, und, und, und, und, und, und, und, und, und, und, und, und, und, und, und, und, und, und, und, und, und, und, und, und, und, und] M = lp (aCall T0) K_spec_l15Right_0 L_spec_l15Right_0 [.int .i64 n, .slice a xs.length c, und, und, und, .int .i64 (i + 1 : Nat), und, und, und, und, und, und, und, und, und, und, und, und, und, und, und, und, und, und, und, und, und, und, und, und, und, und, und, und, und, und] M := by
  obtain ⟨l, o, rfl, hrep, hrd⟩ := at_Int h hi
  have e6 : IntKind.i64.wrap ((i : Int) + 1) = i + 1 := wrap_i64 (by omega) (by omega)
  obtain ⟨q1, q2⟩ := idB_t hq
  rw [S_spec_l15Right_0]; unfold B_spec_l15Right_0; simp [hrd, e6, hi, q1, q2]
theorem idB_f {n x : Int} (h : idB n x = false) : x < -1 ∨ (¬ x < -1 ∧ n ≤ x) := by
  simp only [idB, Bool.and_eq_false_iff, decide_eq_false_iff_not] at h; omega
theorem x_spec_l15Right (M : Mem) (n : Int) (a : Option Addr) (c : Nat) (xs : List ty_Int.D) (h : Rep (.sl ty_Int) M [.slice a xs.length c] xs) (i : Nat) (hi : i < xs.length) (hq : idB n xs[i] = false) (k : ACode) :
    thenF M [.tmp 4] (thenS (blockR 0 (lp (aCall T0) K_spec_l15Right_0 L_spec_l15Right_0 [.int .i64 n, .slice a xs.length c, und, und, und, .int .i64 i, und, und, und, und, und, und, und, und, und, und, und, und, und, und, und, und, und, und, und, und, und, und, und, und, und, und, und, und, und, und] M)) (aCall T0) k) = some (.bool false, M) := by
  obtain ⟨l, o, rfl, hrep, hrd⟩ := at_Int h hi
  rcases idB_f hq with q1 | ⟨q1, q2⟩
  · rw [S_spec_l15Right_0]; unfold B_spec_l15Right_0; simp [hrd, hi, q1]
  · rw [S_spec_l15Right_0]; unfold B_spec_l15Right_0; simp [hrd, hi, q1, q2]
theorem c_spec_l15Right (M : Mem) (n : Int) (v : V) (xs : List ty_Int.D) (h : Rep (.sl ty_Int) M [v] xs) : aCall T0 F_spec_l15Right [.int .i64 n, v] M = some (.bool (seqB n xs), M) := by
  obtain ⟨a, c, rfl⟩ := h.slen
  unfold seqB
  by_cases h1 : n < 0
  · have : ¬ 0 ≤ n := by omega
    rw [aCall_eq T_spec_l15Right]; unfold A_spec_l15Right C_spec_l15Right; simp [h1, this]
  by_cases h2 : 256 < n
  · have : ¬ n ≤ 256 := by omega
    rw [aCall_eq T_spec_l15Right]; unfold A_spec_l15Right C_spec_l15Right; simp [h1, h2, this]
  by_cases h3 : 700 < (xs.length : Int)
  · have : ¬ (xs.length : Int) ≤ 700 := by omega
    rw [aCall_eq T_spec_l15Right]; unfold A_spec_l15Right C_spec_l15Right; simp [h1, h2, h3, this]
  have hb : (decide (0 ≤ n) && decide (n ≤ 256)) = true := by simp; omega
  have hb2 : decide ((xs.length : Int) ≤ 700) = true := by simp; omega
  rw [hb, hb2, Bool.true_and, Bool.true_and]
  rcases first_all (idB n) xs with ha | ⟨ha, j, hj, q1, q2⟩
  · have hc := chain (g := fun i : Nat => lp (aCall T0) K_spec_l15Right_0 L_spec_l15Right_0 [.int .i64 n, .slice a xs.length c, und, und, und, .int .i64 i, und, und, und, und, und, und, und, und, und, und, und, und, und, und, und, und, und, und, und, und, und, und, und, und, und, und, und, und, und, und] M) (n := xs.length) fun i hi => r_spec_l15Right M n a c xs h (by omega) i hi (all_at ha hi)
    simp only [Int.natCast_zero, Int.ofNat_zero] at hc
    rw [ha]
    rw [aCall_eq T_spec_l15Right]; unfold A_spec_l15Right C_spec_l15Right; simp [h1, h2, h3, hc]
    rw [S_spec_l15Right_0]; unfold B_spec_l15Right_0; simp
  · have hc := chain (g := fun i : Nat => lp (aCall T0) K_spec_l15Right_0 L_spec_l15Right_0 [.int .i64 n, .slice a xs.length c, und, und, und, .int .i64 i, und, und, und, und, und, und, und, und, und, und, und, und, und, und, und, und, und, und, und, und, und, und, und, und, und, und, und, und, und, und] M) (n := j) fun i hi => r_spec_l15Right M n a c xs h (by omega) i (by omega) (q1 i (by omega) hi)
    simp only [Int.natCast_zero, Int.ofNat_zero] at hc
    rw [ha]
    rw [aCall_eq T_spec_l15Right]; unfold A_spec_l15Right C_spec_l15Right; simp [h1, h2, h3, hc, x_spec_l15Right M n a c xs h j hj q2]
theorem drB_t {x : Int} (h : drB x = true) : ¬ x < 0 ∧ ¬ 65535 < x := by
  simp only [drB, Bool.and_eq_true, decide_eq_true_eq] at h; omega
theorem r_spec_l15Draws (M : Mem) (a : Option Addr) (c : Nat) (xs : List ty_Int.D) (h : Rep (.sl ty_Int) M [.slice a xs.length c] xs) (hl : xs.length ≤ 1048576) (i : Nat) (hi : i < xs.length) (hq : drB xs[i] = true) :
    lp (aCall T0) K_spec_l15Draws_0 L_spec_l15Draws_0 [und, und, .slice a xs.length c, und, und, und, und, .int .i64 i, und, und, und, und, und, und, und, und, und, und, und, und, und, und, und, und, und, und, und, und, und, und, und, und, und] M = lp (aCall T0) K_spec_l15Draws_0 L_spec_l15Draws_0 [und, und, .slice a xs.length c, und, und, und, und, .int .i64 (i + 1 : Nat), und, und, und, und, und, und, und, und, und, und, und, und, und, und, und, und, und, und, und, und, und, und, und, und, und] M := by
  obtain ⟨l, o, rfl, hrep, hrd⟩ := at_Int h hi
  have e6 : IntKind.i64.wrap ((i : Int) + 1) = i + 1 := wrap_i64 (by omega) (by omega)
  obtain ⟨q1, q2⟩ := drB_t hq
  rw [S_spec_l15Draws_0]; unfold B_spec_l15Draws_0; simp [hrd, e6, hi, q1, q2]
theorem drB_f {x : Int} (h : drB x = false) : x < 0 ∨ (¬ x < 0 ∧ 65535 < x) := by
  simp only [drB, Bool.and_eq_false_iff, decide_eq_false_iff_not] at h; omega
theorem x_spec_l15Draws (M : Mem) (a : Option Addr) (c : Nat) (xs : List ty_Int.D) (h : Rep (.sl ty_Int) M [.slice a xs.length c] xs) (i : Nat) (hi : i < xs.length) (hq : drB xs[i] = false) (k : ACode) :
    thenF M [.tmp 6] (thenS (blockR 0 (lp (aCall T0) K_spec_l15Draws_0 L_spec_l15Draws_0 [und, und, .slice a xs.length c, und, und, und, und, .int .i64 i, und, und, und, und, und, und, und, und, und, und, und, und, und, und, und, und, und, und, und, und, und, und, und, und, und] M)) (aCall T0) k) = some (.bool false, M) := by
  obtain ⟨l, o, rfl, hrep, hrd⟩ := at_Int h hi
  rcases drB_f hq with q1 | ⟨q1, q2⟩
  · rw [S_spec_l15Draws_0]; unfold B_spec_l15Draws_0; simp [hrd, hi, q1]
  · rw [S_spec_l15Draws_0]; unfold B_spec_l15Draws_0; simp [hrd, hi, q1, q2]
theorem c_spec_l15Draws (M : Mem) (n : Int) (hn : 0 ≤ n ∧ n ≤ 256) (vi v : V) (ids ds : List Int) (hi : Rep (.sl ty_Int) M [vi] ids) (h : Rep (.sl ty_Int) M [v] ds) (hl : ds.length ≤ 1048576) (hil : ids.length ≤ 700) : aCall T0 F_spec_l15Draws [.int .i64 n, vi, v] M = some (.bool (drsB (n + ids.length) ds), M) := by
  obtain ⟨a, c, rfl⟩ := h.slen
  obtain ⟨b, d, rfl⟩ := hi.slen
  have e1 : IntKind.i64.wrap (n + (ids.length : Int)) = n + ids.length := wrap_i64 (by omega) (by omega)
  unfold drsB
  by_cases hk : (ds.length : Int) = n + ids.length
  · have hk' : ((ds.length : Int) = n + ids.length) = True := eq_true hk
    rcases first_all drB ds with ha | ⟨ha, j, hj, q1, q2⟩
    · have hc := chain (g := fun i : Nat => lp (aCall T0) K_spec_l15Draws_0 L_spec_l15Draws_0 [und, und, .slice a ds.length c, und, und, und, und, .int .i64 i, und, und, und, und, und, und, und, und, und, und, und, und, und, und, und, und, und, und, und, und, und, und, und, und, und] M) (n := ds.length) fun i hi => r_spec_l15Draws M a c ds h hl i hi (all_at ha hi)
      simp only [Int.natCast_zero, Int.ofNat_zero] at hc
      rw [ha]
      rw [aCall_eq T_spec_l15Draws]; unfold A_spec_l15Draws C_spec_l15Draws; simp [e1, hk', hc]
      rw [S_spec_l15Draws_0]; unfold B_spec_l15Draws_0; simp
    · have hc := chain (g := fun i : Nat => lp (aCall T0) K_spec_l15Draws_0 L_spec_l15Draws_0 [und, und, .slice a ds.length c, und, und, und, und, .int .i64 i, und, und, und, und, und, und, und, und, und, und, und, und, und, und, und, und, und, und, und, und, und, und, und, und, und] M) (n := j) fun i hi => r_spec_l15Draws M a c ds h hl i (by omega) (q1 i (by omega) hi)
      simp only [Int.natCast_zero, Int.ofNat_zero] at hc
      rw [ha]
      rw [aCall_eq T_spec_l15Draws]; unfold A_spec_l15Draws C_spec_l15Draws; simp [e1, hk', hc, x_spec_l15Draws M a c ds h j hj q2]
  · rw [aCall_eq T_spec_l15Draws]; unfold A_spec_l15Draws C_spec_l15Draws; simp [e1, hk]
def posC (n : Nat) (ids ds : List Int) (i : Nat) : List V := (List.range n).map fun (d : Nat) => .int .i64 (drawAt ds (lastAt n ids d i))
theorem posC_len (n : Nat) (ids ds : List Int) (i : Nat) : (posC n ids ds i).length = n := by simp [posC]
theorem app_new {M : Mem} {w bytes m : Nat} {ys : List V} (hm : 0 < m) (h1 : ys.all one = true) (hs : m * bytes ≤ 140737488355328) (hs2 : m ≤ 9223372036854775807) :
    appS (M ++ [⟨[], w, 2⟩]) w bytes (.slice (some ⟨M.length, 0, none⟩) 0 0) m ys = some (.slice (some ⟨M.length + 1, 0, none⟩) m m, M ++ [⟨[], w, 0⟩, ⟨ys, w, 2⟩]) := by
  have h := app_full (M := M ++ [⟨[], w, 2⟩]) (w := w) (bytes := bytes) (l := M.length) (n := 0) (cs := []) (ys := ys) (m := m) (by simp) (by simp) hm h1 (by simpa using hs) (by simpa using hs2)
  simpa using h
def pathC (n l : Int) (ids ds : List Int) (i : Nat) : List V := (List.range i).map fun j => .int .i64 (pathI n l ids ds j)
theorem pre_set {M0 M : Mem} {l : Nat} {b : Blk} (h : M0 <+: M) (hl : M0.length ≤ l) : M0 <+: M.set l b := by
  obtain ⟨r, rfl⟩ := h
  rw [set_app hl]
  exact List.prefix_append _ _
theorem pre_app {M0 M N : Mem} (h : M0 <+: M) : M0 <+: M ++ N := h.trans (List.prefix_append _ _)
theorem l_spec_l02Pow (M : Mem) : ∀ (n : Nat) (x : Int), 0 ≤ x → x * 2 ^ n ≤ 4611686018427387904 → n ≤ 1000 →
    ∃ e0 e1 e2 e4 e5 e6 e7 e8 e9 e10, lp (aCall T0) K_spec_l02Pow_0 L_spec_l02Pow_0 [.int .i64 n, und, und, .int .i64 x, und, und, und, und, und, und, und] M = some (.exit 0, [e0, e1, e2, .int .i64 (x * 2 ^ n), e4, e5, e6, e7, e8, e9, e10], M)
  | 0, x, _, _, _ => by
    rw [S_spec_l02Pow_0]; unfold B_spec_l02Pow_0; simp
  | n + 1, x, h0, h1, h2 => by
    have hp : (1 : Int) ≤ 2 ^ n := by
      have : (0 : Int) < 2 ^ n := Int.pow_pos (by omega)
      omega
    have e : x * 2 ^ (n + 1) = 2 * x * 2 ^ n := by rw [Int.pow_succ, ← Int.mul_assoc, Int.mul_right_comm, Int.mul_comm x 2]
    rw [e] at h1
    have hx : 2 * x ≤ 2 * x * 2 ^ n := by
      have := Int.mul_le_mul_of_nonneg_left hp (show (0 : Int) ≤ 2 * x by omega)
      simpa using this
    have ih := l_spec_l02Pow M n (2 * x) (by omega) h1 (by omega)
    rw [e]
    rw [S_spec_l02Pow_0]; unfold B_spec_l02Pow_0; simp
    rw [wrap_i64 (z := 2 * x) (by omega) (by omega), wrap_i64 (z := n) (by omega) (by omega)]
    exact ih
theorem c_spec_l02Pow (M : Mem) (n : Nat) (h : n ≤ 60) : aCall T0 F_spec_l02Pow [.int .i64 n] M = some (.int .i64 (2 ^ n), M) := by
  obtain ⟨e0, e1, e2, e4, e5, e6, e7, e8, e9, e10, ih⟩ := l_spec_l02Pow M n 1 (by omega) (by
    have : (2 : Int) ^ n ≤ 2 ^ 60 := pow2_le h
    omega) (by omega)
  rw [aCall_eq T_spec_l02Pow]; unfold A_spec_l02Pow C_spec_l02Pow; simp [ih]
theorem c_spec_LeafOf (M : Mem) (d l : Int) : aCall T0 F_spec_LeafOf [.int .i64 d, .int .i64 l] M = some (.int .i64 (leafI d l), M) := by
  unfold leafI drB
  by_cases h1 : d < 0
  · have : ¬ 0 ≤ d := by omega
    rw [aCall_eq T_spec_LeafOf]; unfold A_spec_LeafOf C_spec_LeafOf; simp [h1, this]
  by_cases h2 : 65535 < d
  · have : ¬ d ≤ 65535 := by omega
    rw [aCall_eq T_spec_LeafOf]; unfold A_spec_LeafOf C_spec_LeafOf; simp [h1, h2, this]
  by_cases h3 : l < 0
  · have : ¬ 0 ≤ l := by omega
    rw [aCall_eq T_spec_LeafOf]; unfold A_spec_LeafOf C_spec_LeafOf; simp [h1, h2, h3, this]
  by_cases h4 : 6 < l
  · have : ¬ l ≤ 6 := by omega
    rw [aCall_eq T_spec_LeafOf]; unfold A_spec_LeafOf C_spec_LeafOf; simp [h1, h2, h3, h4, this]
  obtain ⟨m, rfl⟩ : ∃ m : Nat, l = m := ⟨l.toNat, by omega⟩
  obtain ⟨k, rfl⟩ : ∃ k : Nat, d = k := ⟨d.toNat, by omega⟩
  have hq : (2 : Int) ^ m ≠ 0 := by have := pow2_pos m; omega
  have e2 : Int.tmod (k : Int) (2 ^ m) = (k % 2 ^ m : Nat) := by
    rw [Int.tmod_eq_emod_of_nonneg (by omega)]; simp
  have e7 : (k : Int) ≤ 65535 := by omega
  have e8 : (m : Int) ≤ 6 := by omega
  rw [aCall_eq T_spec_LeafOf]; unfold A_spec_LeafOf C_spec_LeafOf; simp [h1, h2, h3, h4, e7, e8, c_spec_l02Pow _ m (by omega), hq]
  rw [e2]
  simp
theorem posC_get (n : Nat) (ids ds : List Int) (i d : Nat) (h : d < n) : (posC n ids ds i)[d]? = some (.int .i64 (drawAt ds (lastAt n ids d i))) := by simp [posC, h]
theorem posC_set (n : Nat) (ids ds : List Int) (i d : Nat) (h : d < n) (hx : ids[i]? = some (d : Int)) : splice (posC n ids ds i) d [.int .i64 (drawAt ds (n + i))] = posC n ids ds (i + 1) := by
  rw [splice_one (by rw [posC_len]; exact h)]
  apply List.ext_getElem?
  intro j
  rw [List.getElem?_set]
  by_cases hj : j < n
  · rw [posC_get n ids ds (i + 1) j hj, lastAt_next n ids i d j hx]
    by_cases e : d = j
    · subst e; simp [posC_len, h]
    · rw [if_neg e, posC_get n ids ds i j hj, if_neg (by omega)]
  · rw [if_neg (by omega), List.getElem?_eq_none (by rw [posC_len]; omega), List.getElem?_eq_none (by rw [posC_len]; omega)]
theorem posC_same (n : Nat) (ids ds : List Int) (i : Nat) (x : Int) (hx : ids[i]? = some x) (h : x < 0) : posC n ids ds (i + 1) = posC n ids ds i := by
  unfold posC
  apply List.map_congr_left
  intro d _
  rw [lastAt_next n ids i x d hx, if_neg (by omega)]
theorem pathC_succ (n l : Int) (ids ds : List Int) (i : Nat) : pathC n l ids ds (i + 1) = pathC n l ids ds i ++ [.int .i64 (pathI n l ids ds i)] := by simp [pathC, List.range_succ]
theorem pathC_len (n l : Int) (ids ds : List Int) (i : Nat) : (pathC n l ids ds i).length = i := by simp [pathC]
theorem r_spec_PathSeq (M0 M : Mem) (hM : M0 <+: M) (n : Nat) (hn : n ≤ 256) (l : Int) (vi vd : V) (ids ds : List Int) (hids : Rep (.sl ty_Int) M0 [vi] ids) (hds : Rep (.sl ty_Int) M0 [vd] ds) (hl : ids.length ≤ 700) (hs : ∀ i (hi : i < ids.length), ids[i] < (n : Int)) (hdl : (ds.length : Int) = n + ids.length)
    (pb lo cp : Nat) (hlp : M0.length ≤ pb) (hlo : M0.length ≤ lo) (hne : pb ≠ lo) (i : Nat) (hi : i < ids.length) (hbp : M[pb]? = some ⟨posC n ids ds i, 1, 2⟩) (hbo : M[lo]? = some ⟨pathC n l ids ds i, 1, 2⟩) :
    ∃ lo' M', M0 <+: M' ∧ M0.length ≤ lo' ∧ pb ≠ lo' ∧ M'[pb]? = some ⟨posC n ids ds (i + 1), 1, 2⟩ ∧ M'[lo']? = some ⟨pathC n l ids ds (i + 1), 1, 2⟩ ∧
      lp (aCall T0) K_spec_PathSeq_0 L_spec_PathSeq_0 [.int .i64 n, .int .i64 l, vi, vd, und, und, und, und, und, und, .slice (some ⟨pb, 0, none⟩) n cp, .slice (some ⟨lo, 0, none⟩) i i, .int .i64 i, und, und, und, und, und, und, und, und, und, und, und, und, und, und, und, und, und, und, und, und, und, und, und, und, und, und, und, und, und, und, und, und, und, und, und, und, und, und, und, und, und, und, und, und, und, und, und, und, und, und, und, und, und, und, und, und, und, und, und, und, und, und, und, und, und, und] M =
      lp (aCall T0) K_spec_PathSeq_0 L_spec_PathSeq_0 [.int .i64 n, .int .i64 l, vi, vd, und, und, und, und, und, und, .slice (some ⟨pb, 0, none⟩) n cp, .slice (some ⟨lo', 0, none⟩) (i + 1) (i + 1), .int .i64 (i + 1 : Nat), und, und, und, und, und, und, und, und, und, und, und, und, und, und, und, und, und, und, und, und, und, und, und, und, und, und, und, und, und, und, und, und, und, und, und, und, und, und, und, und, und, und, und, und, und, und, und, und, und, und, und, und, und, und, und, und, und, und, und, und, und, und, und, und, und, und] M' := by
  obtain ⟨x, hx⟩ : ∃ x : Int, x = ids[i] := ⟨_, rfl⟩
  have hxi : (ids : List Int)[i]? = some x := by rw [hx]; simp [hi]
  have hlt : x < n := by rw [hx]; exact hs i hi
  obtain ⟨A, hA⟩ : ∃ A, A = M ++ [(⟨[.int .i64 (pathI n l ids ds i)], 1, 2⟩ : Blk)] := ⟨_, rfl⟩
  have eap := app_full (M := A) (w := 1) (bytes := 8) (l := lo) (n := i) (cs := pathC n l ids ds i) (ys := [.int .i64 (pathI n l ids ds i)]) (m := 1) (by rw [hA]; exact get_pre (List.prefix_append _ _) hbo) (by rw [pathC_len]; omega) (by omega) rfl (by omega) (by omega)
  rw [← pathC_succ] at eap
  have hAl : A.length = M.length + 1 := by rw [hA]; simp
  rw [hAl] at eap
  have esl := sliceCells_one (M := M) (v := .int .i64 (pathI n l ids ds i)) (w := 1)
  rw [← hA] at esl
  have hlpl := (List.getElem?_eq_some_iff.1 hbp).1
  obtain ⟨B, hB⟩ : ∃ B, B = A.set lo ⟨pathC n l ids ds i, 1, 0⟩ ++ [(⟨pathC n l ids ds (i + 1), 1, 2⟩ : Blk)] := ⟨_, rfl⟩
  have bp : B[pb]? = some ⟨posC n ids ds i, 1, 2⟩ := by
    rw [hB, List.getElem?_append_left (by simp [hAl]; omega), List.getElem?_set_ne (fun e => hne e.symm), hA, List.getElem?_append_left hlpl, hbp]
  have bo : B[M.length + 1]? = some ⟨pathC n l ids ds (i + 1), 1, 2⟩ := by
    rw [hB, List.getElem?_append_right (by simp [hAl])]
    simp [hAl]
  have pB : M0 <+: B := by
    rw [hB, hA]
    exact pre_app (pre_set (pre_app hM) hlo)
  rw [← hB] at eap
  have hMl := hM.length_le
  have hA1 : M ++ [(⟨[.int .i64 (pathI n l ids ds i)], 1, 2⟩ : Blk)] = A := hA.symm
  have e6 : IntKind.i64.wrap ((i : Int) + 1) = i + 1 := wrap_i64 (by omega) (by omega)
  have e7 : IntKind.i64.wrap ((n : Int) + i) = n + i := wrap_i64 (by omega) (by omega)
  have e8 : ((n : Int) + i).toNat = n + i := by omega
  have e9 : (0 : Int) ≤ (n : Int) + i := by omega
  have e10 : (n : Int) + i < ds.length := by omega
  obtain ⟨ai, ci, rfl⟩ := hids.slen
  obtain ⟨ad, cd, rfl⟩ := hds.slen
  obtain ⟨pd, od, rfl, hrd0⟩ := rd_draw (hds.mono hM) e9 e10
  obtain ⟨pi, oi, rfl, _, hri0⟩ := at_Int (hids.mono hM) hi
  obtain ⟨_, _, q, _, hriB⟩ := at_Int (hids.mono pB) hi
  cases q
  rw [← hx] at hri0 hriB
  rw [e8] at hrd0
  by_cases hx0 : x < 0
  · have ec : coordI n ids i = n + i := by unfold coordI; rw [hxi]; exact if_pos hx0
    have e4 : pathI n l ids ds i = leafI (drawAt ds (n + i)) l := by unfold pathI; rw [ec]
    have e11 := fun M => c_spec_LeafOf M (drawAt ds (n + i)) l
    rw [← e4] at e11
    refine ⟨M.length + 1, B, pB, by omega, by omega, ?_, bo, ?_⟩
    · rw [bp, posC_same n ids ds i x hxi hx0]
    · rw [S_spec_PathSeq_0]; unfold B_spec_PathSeq_0; simp [hi, e6, e7, e8, e9, e10, hrd0, hri0, hx0, e11, hA1, esl, eap]
  · obtain ⟨d, rfl⟩ : ∃ d : Nat, x = d := ⟨x.toNat, by omega⟩
    have hd : d < n := by omega
    have ec : coordI n ids i = lastAt n ids d i := by unfold coordI; rw [hxi]; exact if_neg hx0
    have e4 : pathI n l ids ds i = leafI (drawAt ds (lastAt n ids d i)) l := by unfold pathI; rw [ec]
    have e11 := fun M => c_spec_LeafOf M (drawAt ds (lastAt n ids d i)) l
    rw [← e4] at e11
    have r1 : rd1 M pb d = some (.int .i64 (drawAt ds (lastAt n ids d i))) := by
      unfold rd1
      rw [hbp]
      simp only [or_true, if_true]
      exact posC_get n ids ds i d hd
    have w1 : wrn B pb d [.int .i64 (drawAt ds (n + i))] = some (B.set pb ⟨posC n ids ds (i + 1), 1, 2⟩) := by
      unfold wrn
      rw [bp]
      simp only
      rw [if_pos ⟨trivial, by rw [posC_len]; simp; omega, rfl⟩, posC_set n ids ds i d hd hxi]
    have hlpB := (List.getElem?_eq_some_iff.1 bp).1
    refine ⟨M.length + 1, B.set pb ⟨posC n ids ds (i + 1), 1, 2⟩, pre_set pB hlp, by omega, by omega, by simp [hlpB], ?_, ?_⟩
    · rw [List.getElem?_set_ne (by omega), bo]
    · have hx1 : decide ((d : Int) < 0) = false := decide_eq_false hx0
      rw [S_spec_PathSeq_0]; unfold B_spec_PathSeq_0; simp [hi, e6, e7, e8, e9, e10, hrd0, hri0, hriB, hd, hx1, r1, w1, e11, hA1, esl, eap]
theorem l_spec_PathSeq (M0 : Mem) (n : Nat) (hn : n ≤ 256) (l : Int) (vi vd : V) (ids ds : List Int) (hids : Rep (.sl ty_Int) M0 [vi] ids) (hds : Rep (.sl ty_Int) M0 [vd] ds) (hl : ids.length ≤ 700) (hs : ∀ i (hi : i < ids.length), ids[i] < (n : Int)) (hdl : (ds.length : Int) = n + ids.length)
    (pb cp : Nat) (hlp : M0.length ≤ pb) : ∀ (k i lo : Nat) (M : Mem), M0 <+: M → M0.length ≤ lo → pb ≠ lo → i + k = ids.length → M[pb]? = some ⟨posC n ids ds i, 1, 2⟩ → M[lo]? = some ⟨pathC n l ids ds i, 1, 2⟩ →
    ∃ lo' M', M0 <+: M' ∧ M0.length ≤ lo' ∧ M'[lo']? = some ⟨pathC n l ids ds ids.length, 1, 2⟩ ∧
      lp (aCall T0) K_spec_PathSeq_0 L_spec_PathSeq_0 [.int .i64 n, .int .i64 l, vi, vd, und, und, und, und, und, und, .slice (some ⟨pb, 0, none⟩) n cp, .slice (some ⟨lo, 0, none⟩) i i, .int .i64 i, und, und, und, und, und, und, und, und, und, und, und, und, und, und, und, und, und, und, und, und, und, und, und, und, und, und, und, und, und, und, und, und, und, und, und, und, und, und, und, und, und, und, und, und, und, und, und, und, und, und, und, und, und, und, und, und, und, und, und, und, und, und, und, und, und, und] M =
      lp (aCall T0) K_spec_PathSeq_0 L_spec_PathSeq_0 [.int .i64 n, .int .i64 l, vi, vd, und, und, und, und, und, und, .slice (some ⟨pb, 0, none⟩) n cp, .slice (some ⟨lo', 0, none⟩) ids.length ids.length, .int .i64 ids.length, und, und, und, und, und, und, und, und, und, und, und, und, und, und, und, und, und, und, und, und, und, und, und, und, und, und, und, und, und, und, und, und, und, und, und, und, und, und, und, und, und, und, und, und, und, und, und, und, und, und, und, und, und, und, und, und, und, und, und, und, und, und, und, und, und, und] M'
  | 0, i, lo, M, hM, h1, h2, hi, hbp, hbo => by
    have e : i = ids.length := by omega
    subst e
    exact ⟨lo, M, hM, h1, hbo, rfl⟩
  | k + 1, i, lo, M, hM, h1, h2, hi, hbp, hbo => by
    obtain ⟨lo', M', q1, q2, q3, q4, q5, q6⟩ := r_spec_PathSeq M0 M hM n hn l vi vd ids ds hids hds hl hs hdl pb lo cp hlp h1 h2 i (by omega) hbp hbo
    rw [q6]
    exact l_spec_PathSeq M0 n hn l vi vd ids ds hids hds hl hs hdl pb cp hlp k (i + 1) lo' M' q1 q2 q3 (by omega) q4 q5
theorem posC_zero (n : Nat) (ids ds : List Int) (hn : n ≤ ds.length) : ((ds.take n).map enc_Int).flatten = posC n ids ds 0 := by
  rw [flat_Int]
  unfold posC
  apply List.ext_getElem (by simp; omega)
  intro i h1 h2
  simp at h1 h2
  simp [lastAt]
  rw [drawAt_get (by omega) (by omega)]
  rfl
theorem d_spec_PathSeq (M : Mem) (n l : Int) (v_ids : V) (ids : List Int) (h_ids : Rep (.sl ty_Int) M [v_ids] ids) (hn_ids : ids.length ≤ 1048576) (v_ds : V) (ds : List Int) (h_ds : Rep (.sl ty_Int) M [v_ds] ds) (hn_ds : ds.length ≤ 1048576) :
    ∃ M' u, M <+: M' ∧ aCall T0 F_spec_PathSeq [.int .i64 n, .int .i64 l, v_ids, v_ds] M = some (.tuple #[u, .bool (pathOk n l ids ds)], M') ∧ Rep (.sl ty_Int) M' [u] (pathR n l ids ds) := by
  have g1 := c_spec_l15Right M n v_ids ids h_ids
  have g2 := fun M => c_spec_l11Log M l
  unfold pathR
  cases hb : pathOk n l ids ds with
  | false =>
    refine ⟨M, .slice none 0 0, List.prefix_refl _, ?_, .inl ⟨rfl, rfl⟩⟩
    simp only [pathOk] at hb
    cases q1 : seqB n ids with
    | false =>
      obtain ⟨a, c, rfl⟩ := h_ids.slen
      rw [aCall_eq T_spec_PathSeq]; unfold A_spec_PathSeq C_spec_PathSeq; simp [g1, q1]
    | true =>
      have hsq := seqB_parts q1
      have g3 := c_spec_l15Draws M n hsq.1 v_ids v_ds ids ds h_ids h_ds hn_ds hsq.2.1
      rw [q1, Bool.true_and] at hb
      obtain ⟨a, c, rfl⟩ := h_ids.slen
      cases q2 : logB l with
      | false =>
        have q2' : (decide (0 ≤ l) && decide (l ≤ 6)) = false := q2
        rw [aCall_eq T_spec_PathSeq]; unfold A_spec_PathSeq C_spec_PathSeq; simp [g1, g2, q1, q2']
      | true =>
        have q2' : (decide (0 ≤ l) && decide (l ≤ 6)) = true := q2
        rw [q2, Bool.true_and] at hb
        rw [aCall_eq T_spec_PathSeq]; unfold A_spec_PathSeq C_spec_PathSeq; simp [g1, g2, g3, q1, q2', hb]
  | true =>
    simp only [pathOk, Bool.and_eq_true] at hb
    obtain ⟨q1, q2, q3⟩ := hb
    obtain ⟨h1, h2, h3⟩ := seqB_parts q1
    have q2' : (decide (0 ≤ l) && decide (l ≤ 6)) = true := q2
    have hdl : (ds.length : Int) = n + ids.length := by
      simp only [drsB, Bool.and_eq_true, decide_eq_true_eq] at q3
      exact q3.1
    have g3 := c_spec_l15Draws M n h1 v_ids v_ds ids ds h_ids h_ds hn_ds h2
    obtain ⟨m, rfl⟩ : ∃ m : Nat, n = m := ⟨n.toNat, by omega⟩
    have hs : ∀ i (hi : i < ids.length), ids[i] < (m : Int) := fun i hi => (h3 i hi).2
    have hm : pathC m l ids ds ids.length = (pathsI m l ids ds).map fun n => .int .i64 n := by simp [pathC, pathsI]
    have hlen : (pathsI m l ids ds).length = ids.length := by simp [pathsI]
    have hmd : m ≤ ds.length := by omega
    by_cases hm0 : m = 0
    · subst hm0
      obtain ⟨lo', M', p1, p2, p3, p4⟩ := l_spec_PathSeq M 0 (by omega) l v_ids v_ds ids ds h_ids h_ds h2 hs hdl M.length 0 (Nat.le_refl _) ids.length 0 (M.length + 1) (M ++ [⟨[], 1, 2⟩, ⟨[], 1, 2⟩]) (List.prefix_append _ _) (by omega) (by omega) (by omega) (by simp [posC]) (by simp [pathC])
      rw [hm] at p3
      obtain ⟨L, o1, o2⟩ := own_block (c := ids.length) p3 (pathsI_wf _ l ids ds)
      rw [hlen] at o1
      rw [if_pos rfl]
      refine ⟨M', _, p1, ?_, o1.rep⟩
      obtain ⟨ai, ci, rfl⟩ := h_ids.slen
      obtain ⟨ad, cd, rfl⟩ := h_ds.slen
      simp only [Int.natCast_zero, Int.ofNat_zero] at p4 q1 q3 g1 g3 ⊢
      rw [q1] at g1
      rw [q3] at g3
      have g1' := g1
      have e2 : sliceCells (M ++ [⟨[], 1, 2⟩]) 1 (.slice none 0 0) = some (0, []) := rfl
      rcases h_ds.slice with ⟨e, hds⟩ | ⟨b, o, c2, e⟩
      · simp at e
        obtain ⟨rfl, e, rfl⟩ := e
        rw [aCall_eq T_spec_PathSeq]; unfold A_spec_PathSeq C_spec_PathSeq; simp [g1, g2, g3, q1, q2', zeroCells, sliceCells, appS, p4]
        rw [S_spec_PathSeq_0]; unfold B_spec_PathSeq_0; simp
      · simp at e
        obtain ⟨rfl, rfl⟩ := e
        obtain ⟨k, k1, k2, _⟩ := rep_blk (h_ds.mono (List.prefix_append M [⟨[], 1, 2⟩]))
        have k3 : k.w = 1 := k2
        rw [aCall_eq T_spec_PathSeq]; unfold A_spec_PathSeq C_spec_PathSeq; simp [g1, g2, g3, q1, q2', zeroCells, sliceCells, appS, k1, k3, p4]
        rw [S_spec_PathSeq_0]; unfold B_spec_PathSeq_0; simp
    · have hm1 : 0 < m := by omega
      have hz := posC_zero m ids ds hmd
      obtain ⟨lo', M', p1, p2, p3, p4⟩ := l_spec_PathSeq M m (by omega) l v_ids v_ds ids ds h_ids h_ds h2 hs hdl (M.length + 1) m (by omega) ids.length 0 (M.length + 2) (M ++ [⟨[], 1, 0⟩, ⟨posC m ids ds 0, 1, 2⟩, ⟨[], 1, 2⟩]) (List.prefix_append _ _) (by omega) (by omega) (by omega) (by simp) (by simp [pathC])
      rw [hm] at p3
      obtain ⟨L, o1, o2⟩ := own_block (c := ids.length) p3 (pathsI_wf _ l ids ds)
      rw [hlen] at o1
      rw [if_pos rfl]
      refine ⟨M', _, p1, ?_, o1.rep⟩
      obtain ⟨ai, ci, rfl⟩ := h_ids.slen
      rcases h_ds.slice with ⟨e, hds⟩ | ⟨b, o, c2, e⟩
      · rw [hds] at hmd; simp at hmd; omega
      · simp at e
        subst e
        obtain ⟨k, k1, k2, _⟩ := rep_blk (h_ds.mono (List.prefix_append M [⟨[], 1, 2⟩]))
        have k3 : k.w = 1 := k2
        have hsl := fun c => rep_cells (enc := enc_Int) (fun cs x hx => hx.1) (h_ds.mono (List.prefix_append M [⟨[], 1, 2⟩])) (k := m) (c2 := c) hmd
        have hw : ty_Int.w = 1 := rfl
        rw [hw, hz] at hsl
        have hpl := posC_len m ids ds 0
        have hall : (posC m ids ds 0).all one = true := by simp [posC]
        have hap := app_new (M := M) (w := 1) (bytes := 8) (m := m) (ys := posC m ids ds 0) hm1 hall (by omega) (by omega)
        have e1 : (m : Int) ≤ ds.length := by omega
        simp only [Int.natCast_zero, Int.ofNat_zero] at p4
        generalize posC m ids ds 0 = P at hsl hap p4
        rw [aCall_eq T_spec_PathSeq]; unfold A_spec_PathSeq C_spec_PathSeq; simp [g1, g2, g3, q1, q2', q3, zeroCells, k1, k3, hsl, hap, e1, hmd, p4]
        rw [S_spec_PathSeq_0]; unfold B_spec_PathSeq_0; simp
abbrev ty_Byte : Ty := .u8
def inI (x : Int) : Prop := -9223372036854775808 ≤ x ∧ x ≤ 9223372036854775807
/-- How the cursor is used: its code, and room enough. -/
structure CurH (M0 : Mem) (cv : V) : Prop where
  code : ∃ code : List UInt8, Rep (.sl ty_Byte) M0 [cv] code ∧ code.length ≤ 1048576
/-- The cursor's block, and how far it may have come. -/
def Cur (M0 : Mem) (p : Nat) (cv : V) (B : Int) (X : Mem) : Prop := M0 <+: X ∧ M0.length ≤ p ∧ ∃ at' seed : Int, X[p]? = some ⟨[cv, .int .i64 at', .int .i64 seed], 1, 2⟩ ∧ 0 ≤ at' ∧ at' ≤ B ∧ 0 ≤ seed ∧ seed ≤ 65520
theorem Cur.mono {M0 X : Mem} {p : Nat} {cv : V} {B B' : Int} (h : Cur M0 p cv B X) (hb : B ≤ B') : Cur M0 p cv B' X := by
  obtain ⟨h1, h2, a, s, h3, h4, h5, h6⟩ := h
  exact ⟨h1, h2, a, s, h3, h4, by omega, h6⟩
theorem Cur.lt {M0 X : Mem} {p : Nat} {cv : V} {B : Int} (h : Cur M0 p cv B X) : p < X.length := by
  obtain ⟨_, _, a, s, h3, _⟩ := h
  exact get_lt h3
theorem Cur.grow {M0 X X' : Mem} {p : Nat} {cv : V} {B : Int} (h : Cur M0 p cv B X) (hp : X <+: X') : Cur M0 p cv B X' := by
  obtain ⟨h1, h2, a, s, h3, h4⟩ := h
  exact ⟨h1.trans hp, h2, a, s, get_pre hp h3, h4⟩
/-- The list while it grows: so many elements. -/
def CurE (t : Ty) (M0 : Mem) (p : Nat) (cv : V) (B : Int) (X : Mem) (i : Nat) (v : V) (X' : Mem) : Prop := ∃ (xs : List t.D) (L : List Nat), Gr (.sl t) X' [v] xs L ∧ L.Nodup ∧ (∀ l ∈ L, X.length ≤ l) ∧ xs.length = i ∧ Cur M0 p cv B X' ∧ Agree X X' [p]
/-- A drawn list: fresh blocks of its own. -/
def CurV (t : Ty) (M0 : Mem) (p : Nat) (cv : V) (B : Int) (X : Mem) (N : Nat) (v : V) (X' : Mem) : Prop := ∃ (xs : List t.D) (L : List Nat), Gr (.sl t) X' [v] xs L ∧ L.Nodup ∧ (∀ l ∈ L, X.length ≤ l) ∧ xs.length ≤ N ∧ Cur M0 p cv B X' ∧ Agree X X' [p]
theorem CurV.e {t : Ty} {M0 X X' : Mem} {p N : Nat} {cv v : V} {B : Int} (h : CurV t M0 p cv B X N v X') : ∃ i a, i ≤ N ∧ v = .slice a i i ∧ CurE t M0 p cv B X i v X' := by
  obtain ⟨xs, L, g, nd, hf, hn, c, ag⟩ := h
  obtain ⟨a, rfl⟩ := g.shape
  exact ⟨xs.length, a, hn, rfl, xs, L, g, nd, hf, rfl, c, ag⟩
theorem CurE.v {t : Ty} {M0 X X' : Mem} {p i N : Nat} {cv v : V} {B B' : Int} (h : CurE t M0 p cv B X i v X') (hN : i ≤ N) (hB : B ≤ B') : CurV t M0 p cv B' X N v X' := by
  obtain ⟨xs, L, g, nd, hf, hn, c, a⟩ := h
  exact ⟨xs, L, g, nd, hf, by omega, c.mono hB, a⟩
theorem CurE.mono {t : Ty} {M0 X X' : Mem} {p i : Nat} {cv v : V} {B B' : Int} (h : CurE t M0 p cv B X i v X') (hB : B ≤ B') : CurE t M0 p cv B' X i v X' := by
  obtain ⟨xs, L, g, nd, hf, hn, c, a⟩ := h
  exact ⟨xs, L, g, nd, hf, hn, c.mono hB, a⟩
theorem CurE.c {t : Ty} {M0 X X' : Mem} {p i : Nat} {cv v : V} {B : Int} (h : CurE t M0 p cv B X i v X') : Cur M0 p cv B X' := by
  obtain ⟨xs, L, g, nd, hf, hn, c, ag⟩ := h
  exact c
/-- A drawn list of so many, to be read. -/
def RepN (t : Ty) (X : Mem) (v : V) (i : Nat) : Prop := ∃ xs : List t.D, Rep (.sl t) X [v] xs ∧ xs.length = i
theorem CurE.rep {t : Ty} {M0 X X' : Mem} {p i : Nat} {cv v : V} {B : Int} (h : CurE t M0 p cv B X i v X') : RepN t X' v i := by
  obtain ⟨xs, L, g, nd, hf, hn, c, ag⟩ := h
  exact ⟨xs, g.rep, hn⟩
theorem CurE.ag {t : Ty} {M0 X X' : Mem} {p i : Nat} {cv v : V} {B : Int} (h : CurE t M0 p cv B X i v X') : Agree X X' [p] := by
  obtain ⟨xs, L, g, nd, hf, hn, c, ag⟩ := h
  exact ag
theorem ag_trans {X Y Z : Mem} {w : List Nat} (h : Agree X Y w) (h2 : Agree Y Z w) : Agree X Z w := ⟨Nat.le_trans h.1 h2.1, fun j hj hn => by rw [h2.2 j (Nat.lt_of_lt_of_le hj h.1) hn, h.2 j hj hn]⟩
theorem cure_agree {t : Ty} {M0 X Y Z : Mem} {p i : Nat} {cv v : V} {B B' : Int} (h : CurE t M0 p cv B X i v Y) (hc : Cur M0 p cv B' Z) (ha : Agree Y Z [p]) (hpX : p < X.length) : CurE t M0 p cv B' X i v Z := by
  obtain ⟨xs, L, g, nd, hf, hn, _, hag⟩ := h
  have hpL : p ∉ L := fun hm => by have := hf p hm; omega
  exact ⟨xs, L, g.agree ha (fun l hl e => by simp at e; exact hpL (e ▸ hl)), nd, hf, hn, hc, ag_trans hag ha⟩
theorem cur_open {M : Mem} {cv : V} {k : Int} (h0 : 0 ≤ k) (h1 : k ≤ 65520) : Cur M M.length cv 0 (M ++ [⟨[cv, .int .i64 0, .int .i64 k], 1, 2⟩]) := ⟨List.prefix_append _ _, Nat.le_refl _, 0, k, by simp, Int.le_refl _, Int.le_refl _, h0, h1⟩
theorem c_spec_l01Open (M : Mem) (cv : V) (code : List UInt8) (h : Rep (.sl ty_Byte) M [cv] code) : ∃ k : Int, 0 ≤ k ∧ k ≤ 65520 ∧ aCall T0 F_spec_l01Open [cv] M = some (.pointer (some ⟨M.length, 0, none⟩), M ++ [⟨[cv, .int .i64 0, .int .i64 k], 1, 2⟩]) := by
  obtain ⟨a, c, rfl⟩ := h.slen
  obtain ⟨r, hr⟩ : ∃ r : Int, r = ((code.length : Int).tmod 1000) := ⟨_, rfl⟩
  have r0 : 0 ≤ r := by rw [hr]; exact Int.tmod_nonneg _ (by omega)
  have r1 : r < 1000 := by rw [hr]; exact Int.tmod_lt_of_pos _ (by decide)
  have w : IntKind.i64.wrap (59 + r) = 59 + r := wrap_i64 (by omega) (by omega)
  refine ⟨59 + r, by omega, by omega, ?_⟩
  have hrem := binS_rem .i64 (code.length : Int) 1000 (by decide)
  rw [← hr] at hrem
  rw [aCall_eq T_spec_l01Open]; unfold A_spec_l01Open C_spec_l01Open; simp [thenD_pp, sliceCells_sl, sliceCells_z, sliceCells_nil, take_full, appS_sl, appK_ok, appS_none, thenD_ag, agP_nil, agP_cons, hrem, w]
  exact gc_not rfl
/-- What a draw leaves: a number, the cursor further on. -/
def CurI (M0 : Mem) (p : Nat) (cv : V) (B : Int) (P : Int → Prop) (X : Mem) (r : V × Mem) : Prop := ∃ x : Int, r.1 = .int .i64 x ∧ P x ∧ Cur M0 p cv B r.2 ∧ Agree X r.2 [p]
abbrev enc_Byte (x : ty_Byte.D) : List V := [byteV x]
theorem at_Byte {M : Mem} {a : Option Addr} {n c : Nat} {xs : List ty_Byte.D} (h : Rep (.sl ty_Byte) M [.slice a n c] xs) {i : Nat} (hi : i < xs.length) : ∃ l o, a = some ⟨l, o, none⟩ ∧ Rep ty_Byte M (enc_Byte xs[i]) xs[i] ∧ rd1 M l (o + i) = some (byteV xs[i]) := by
  obtain ⟨_, l, o, rfl, cs, hrd, hrep⟩ := rep_at h hi
  have hcs : cs = enc_Byte xs[i] := hrep
  subst hcs
  have hw1 : ty_Byte.w = 1 := rfl
  rw [hw1, Nat.mul_one] at hrd
  exact ⟨l, o, rfl, hrep, rd1_of_one hrd⟩
theorem gc_np {M M' : Mem} {v : V} (h : ¬ M <+: M') : gc M (some (v, M')) = some (v, M') := by
  simp only [gc]
  rw [if_neg (fun q => h q.2)]
theorem ag_refl (X : Mem) (w : List Nat) : Agree X X w := ⟨Nat.le_refl _, fun _ _ _ => rfl⟩
theorem agree_set {X : Mem} {p : Nat} (b : Blk) : Agree X (X.set p b) [p] := ⟨by simp, fun j _ hn => gt_set (by simp at hn; omega)⟩
theorem c_spec_l01Cur_pick (M0 X : Mem) (p : Nat) (cv : V) (code : List UInt8) (B n : Int) (hc : Rep (.sl ty_Byte) M0 [cv] code) (h : Cur M0 p cv B X) (hB : B ≤ 1000000000000) (hn : n ≤ 1000000000000) (hl : code.length ≤ 1048576) :
    Sat (aCall T0 F_spec_l01Cur_pick [.pointer (some ⟨p, 0, none⟩), .int .i64 n] X) (CurI M0 p cv (B + 1) (fun x => 0 ≤ x ∧ (x < n ∨ x = 0)) X) := by
  by_cases h2 : n < 2
  · rw [aCall_eq T_spec_l01Cur_pick]; unfold A_spec_l01Cur_pick C_spec_l01Cur_pick; simp [thenD_pp, sliceCells_sl, sliceCells_z, sliceCells_nil, take_full, appS_sl, appK_ok, appS_none, thenD_ag, agP_nil, agP_cons, h2]
    exact sat_some ⟨0, rfl, ⟨Int.le_refl _, .inr rfl⟩, h.mono (by omega), ag_refl _ _⟩
  obtain ⟨hp, hp0, a, s, hb, ha0, ha1, hs0, hs1⟩ := h
  have hcX := hc.mono hp
  obtain ⟨ca, cc, rfl⟩ := hc.slen
  have e1 : IntKind.i64.wrap (a + 1) = a + 1 := wrap_i64 (by omega) (by omega)
  have hn0 : n ≠ 0 := by omega
  have fin : ∀ x seed' : Int, 0 ≤ x → 0 ≤ seed' → seed' ≤ 65520 → ∀ Y : Mem, X[p]? = some ⟨[.slice ca code.length cc, .int .i64 a, .int .i64 s], 1, 2⟩ → Y = X.set p ⟨[.slice ca code.length cc, .int .i64 (a + 1), .int .i64 seed'], 1, 2⟩ → Sat (some ((.int .i64 (x.tmod n) : V), Y)) (CurI M0 p (.slice ca code.length cc) (B + 1) (fun x => 0 ≤ x ∧ (x < n ∨ x = 0)) X) := by
    intro x seed' hx h0 h1 Y hb hY
    subst hY
    have t1 := Int.tmod_nonneg n hx
    have t2 := Int.tmod_lt_of_pos x (show 0 < n by omega)
    refine sat_some ⟨_, rfl, ⟨t1, .inl t2⟩, ⟨pf_set hp0 hp, hp0, a + 1, seed', gs_of hb _, by omega, by omega, h0, h1⟩, agree_set _⟩
  have hnp : ∀ (v : V) (y : Int), gc X (some (v, X.set p ⟨[.slice ca code.length cc, .int .i64 (a + 1), .int .i64 y], 1, 2⟩)) = some (v, X.set p ⟨[.slice ca code.length cc, .int .i64 (a + 1), .int .i64 y], 1, 2⟩) := fun v y => gc_np fun hpre => by
    have := get_pre hpre hb
    rw [gs_of hb] at this
    simp at this
    omega
  have hby : ∀ b : UInt8, ∃ y : Int, byteV b = .int .u8 y ∧ 0 ≤ y ∧ y ≤ 255 ∧ IntKind.i64.wrap y = y := fun b => by
    have : b.toNat < 256 := b.toNat_lt
    exact ⟨b.toNat, rfl, by omega, by omega, wrap_i64 (by omega) (by omega)⟩
  by_cases hlt : a < code.length
  · obtain ⟨k, rfl⟩ := Int.eq_ofNat_of_zero_le ha0
    have hk : k < code.length := by omega
    obtain ⟨l, o, rfl, _, hrd⟩ := at_Byte hcX hk
    obtain ⟨y, hy, hy0, hy1, hy2⟩ := hby code[k]
    rw [hy] at hrd
    rw [aCall_eq T_spec_l01Cur_pick]; unfold A_spec_l01Cur_pick C_spec_l01Cur_pick; simp [thenD_pp, sliceCells_sl, sliceCells_z, sliceCells_nil, take_full, appS_sl, appK_ok, appS_none, thenD_ag, agP_nil, agP_cons, h2, hlt, hk, hb, gs_of hb, hrd, hy2, e1, hn0, hnp, rd1_K, rdJ_ok, wrn_K, wrJ_ok]
    exact fin y s hy0 hs0 hs1 _ hb rfl
  · have w1 : IntKind.i64.wrap (s * 1103) = s * 1103 := wrap_i64 (by omega) (by omega)
    have w2 : IntKind.i64.wrap (s * 1103 + 12345) = s * 1103 + 12345 := wrap_i64 (by omega) (by omega)
    obtain ⟨s', hs', hs2, hs3⟩ : ∃ s' : Int, (s * 1103 + 12345).tmod 65521 = s' ∧ 0 ≤ s' ∧ s' ≤ 65520 := ⟨_, rfl, Int.tmod_nonneg _ (by omega), by have := Int.tmod_lt_of_pos (s * 1103 + 12345) (show (0 : Int) < 65521 by decide); omega⟩
    have e2 : ∀ b : Blk, (X.set p b)[p]? = some b := fun b => gs_of hb b
    by_cases hl0 : 0 < code.length
    · obtain ⟨j, hj, hjl⟩ : ∃ j : Nat, a.tmod (code.length : Int) = j ∧ j < code.length := by
        have t1 := Int.tmod_nonneg (code.length : Int) ha0
        have t2 := Int.tmod_lt_of_pos a (show (0 : Int) < code.length by omega)
        obtain ⟨j, hj⟩ := Int.eq_ofNat_of_zero_le t1
        exact ⟨j, hj, by omega⟩
      obtain ⟨q, hq, hq0, hq1⟩ : ∃ q : Int, s'.tdiv 7 = q ∧ 0 ≤ q ∧ q ≤ 65520 := ⟨_, rfl, Int.tdiv_nonneg hs2 (by decide), by
        rw [Int.tdiv_eq_ediv_of_nonneg hs2]
        omega⟩
      have hln : (code.length : Int) ≠ 0 := by omega
      obtain ⟨l, o, rfl, _, hrd⟩ := at_Byte hcX hjl
      obtain ⟨y, hy, hy0, hy1, hy2⟩ := hby code[j]
      rw [hy] at hrd
      have hlp : l ≠ p := by
        obtain ⟨blk, hbk, _⟩ := rep_blk hc
        have := get_lt hbk
        omega
      have hrd2 : ∀ b : Blk, rd1 (X.set p b) l (o + j) = some (.int .u8 y) := fun b => by rw [rd1_K, gt_set (Ne.symm hlp), ← rd1_K]; exact hrd
      have hrem := binS_rem .i64 a (code.length : Int) hln
      rw [hj] at hrem
      have w5 : IntKind.i64.wrap q = q := wrap_i64 (by omega) (by omega)
      have w3 : IntKind.i64.wrap (q + y) = q + y := wrap_i64 (by omega) (by omega)
      rw [aCall_eq T_spec_l01Cur_pick]; unfold A_spec_l01Cur_pick C_spec_l01Cur_pick; simp [thenD_pp, sliceCells_sl, sliceCells_z, sliceCells_nil, take_full, appS_sl, appK_ok, appS_none, thenD_ag, agP_nil, agP_cons, h2, hlt, hb, e2, w1, w2, hs', hq, hrem, hjl, hrd2, hy2, w5, w3, e1, hl0, hln, hn0, hnp, rd1_K, rdJ_ok, wrn_K, wrJ_ok]
      exact fin (q + y) s' (by omega) hs2 hs3 _ hb rfl
    · rw [aCall_eq T_spec_l01Cur_pick]; unfold A_spec_l01Cur_pick C_spec_l01Cur_pick; simp [thenD_pp, sliceCells_sl, sliceCells_z, sliceCells_nil, take_full, appS_sl, appK_ok, appS_none, thenD_ag, agP_nil, agP_cons, h2, hlt, hb, e2, w1, w2, hs', e1, hl0, hn0, hnp, rd1_K, rdJ_ok, wrn_K, wrJ_ok]
      have := fin 0 s' (by omega) hs2 hs3 _ hb rfl
      rw [Int.zero_tmod] at this
      exact this
theorem p_pick {M0 X : Mem} {p : Nat} {cv : V} {B n : Int} (hc : CurH M0 cv) (h : Cur M0 p cv B X) (hB : B ≤ 1000000000000) (hn : n ≤ 1000000000000) {x : Option (V × Mem)} (hx : aCall T0 F_spec_l01Cur_pick [.pointer (some ⟨p, 0, none⟩), .int .i64 n] X = x) :
    ∃ (y : Int) (X' : Mem), x = some (.int .i64 y, X') ∧ 0 ≤ y ∧ (y < n ∨ y = 0) ∧ Cur M0 p cv (B + 1) X' ∧ Agree X X' [p] := by
  obtain ⟨code, hr, hl⟩ := hc.code
  obtain ⟨v, X', rfl, y, e, hy, h1, h2⟩ := of_call hx (c_spec_l01Cur_pick M0 X p cv code B n hr h hB hn hl)
  simp only at e h1 h2
  subst e
  exact ⟨y, X', rfl, hy.1, hy.2, h1, h2⟩
theorem int_get (xs : List Int) (cells : List V) (he : cells = xs.map (fun x => (.int .i64 x : V))) {k : Nat} (hk : k < xs.length) : cells[k]? = some (.int .i64 xs[k]) := by
  subst he
  simp [hk]
theorem gc_sat {X X' : Mem} {v : V} {P : V × Mem → Prop} (h1 : P (v, X)) (h2 : P (v, X')) : Sat (gc X (some (v, X'))) P := by
  unfold gc
  simp only
  split
  · exact sat_some h1
  · exact sat_some h2
theorem cur_end {M0 X X' : Mem} {p : Nat} {cv : V} {B B' : Int} {P : Int → Prop} {x : Int} (h : Cur M0 p cv B X) (hB : B ≤ B') (hx : P x) (h2 : Cur M0 p cv B' X') (a : Agree X X' [p]) : Sat (gc X (some (.int .i64 x, X'))) (CurI M0 p cv B' P X) :=
  gc_sat ⟨x, rfl, hx, h.mono hB, ag_refl _ _⟩ ⟨x, rfl, hx, h2, a⟩
theorem agree_app {X : Mem} {N : Mem} {w : List Nat} : Agree X (X ++ N) w := ⟨by simp, fun j hj _ => List.getElem?_append_left hj⟩
theorem c_spec_l01Cur_raw (M0 X : Mem) (p : Nat) (cv : V) (B : Int) (hc : CurH M0 cv) (h : Cur M0 p cv B X) (hB : B ≤ 900000000000) :
    Sat (aCall T0 F_spec_l01Cur_raw [.pointer (some ⟨p, 0, none⟩)] X) (CurI M0 p cv (B + 2) inI X) := by
  rw [aCall_eq T_spec_l01Cur_raw]; unfold A_spec_l01Cur_raw C_spec_l01Cur_raw; simp [thenD_pp, sliceCells_sl, sliceCells_z, sliceCells_nil, take_full, appS_sl, appK_ok, appS_none, thenD_ag, agP_nil, agP_cons]
  generalize hx : aCall T0 F_spec_l01Cur_pick _ _ = xhx
  obtain ⟨y, X1, rfl, y0, y1, c1, a1⟩ := p_pick hc h (by omega) (by decide) hx
  clear hx
  by_cases h0 : y = 0
  · simp [thenD_pp, sliceCells_sl, sliceCells_z, sliceCells_nil, take_full, appS_sl, appK_ok, appS_none, thenD_ag, agP_nil, agP_cons, h0]
    generalize hx : aCall T0 F_spec_l01Cur_pick _ _ = xhx
    obtain ⟨z, X2, rfl, z0, z1, c2, a2⟩ := p_pick hc c1 (by omega) (by decide) hx
    clear hx
    have w : IntKind.i64.wrap (z - 128) = z - 128 := wrap_i64 (by omega) (by omega)
    simp [thenD_pp, sliceCells_sl, sliceCells_z, sliceCells_nil, take_full, appS_sl, appK_ok, appS_none, thenD_ag, agP_nil, agP_cons, w]
    exact cur_end h (by omega) (by unfold inI; omega) (c2.mono (by omega)) (ag_trans a1 a2)
  by_cases h1 : y = 1
  · simp [thenD_pp, sliceCells_sl, sliceCells_z, sliceCells_nil, take_full, appS_sl, appK_ok, appS_none, thenD_ag, agP_nil, agP_cons, h0, h1]
    generalize hx : aCall T0 F_spec_l01Cur_pick _ _ = xhx
    obtain ⟨z, X2, rfl, z0, z1, c2, a2⟩ := p_pick hc (c1.grow (List.prefix_append _ _)) (by omega) (by decide) hx
    clear hx
    obtain ⟨k, rfl⟩ := Int.eq_ofNat_of_zero_le z0
    have hk : k < 8 := by omega
    have hki : (k : Int) < 8 := by omega
    have hpl := c1.lt
    have b2 := a2.get (i := X1.length) (b := ⟨[.int .i64 9223372036854775807, .int .i64 (-9223372036854775808), .int .i64 4611686018427387904, .int .i64 65535, .int .i64 65536, .int .i64 (-1000), .int .i64 2147483648, .int .i64 4294967296], 1, 2⟩) (by simp) (by simp; omega)
    have g := int_get [9223372036854775807, -9223372036854775808, 4611686018427387904, 65535, 65536, -1000, 2147483648, 4294967296] _ rfl (k := k) hk
    simp only [List.map_cons, List.map_nil] at g
    have hin : ∀ x ∈ [9223372036854775807, -9223372036854775808, 4611686018427387904, 65535, 65536, -1000, 2147483648, (4294967296 : Int)], inI x := by
      intro x hx
      unfold inI
      simp only [List.mem_cons, List.not_mem_nil, or_false] at hx
      omega
    have hin2 := hin ([9223372036854775807, -9223372036854775808, 4611686018427387904, 65535, 65536, -1000, 2147483648, (4294967296 : Int)][k]'hk) (List.getElem_mem _)
    generalize ([9223372036854775807, -9223372036854775808, 4611686018427387904, 65535, 65536, -1000, 2147483648, (4294967296 : Int)])[k] = r at g hin2
    simp [thenD_pp, sliceCells_sl, sliceCells_z, sliceCells_nil, take_full, appS_sl, appK_ok, appS_none, thenD_ag, agP_nil, agP_cons, hki, b2, rd1_K, rdJ_ok, g]
    exact cur_end h (by omega) hin2 (c2.mono (by omega)) (ag_trans a1 (ag_trans agree_app a2))
  · simp [thenD_pp, sliceCells_sl, sliceCells_z, sliceCells_nil, take_full, appS_sl, appK_ok, appS_none, thenD_ag, agP_nil, agP_cons, h0, h1]
    generalize hx : aCall T0 F_spec_l01Cur_pick _ _ = xhx
    obtain ⟨z, X2, rfl, z0, z1, c2, a2⟩ := p_pick hc c1 (by omega) (by decide) hx
    clear hx
    have w : IntKind.i64.wrap (z - 3) = z - 3 := wrap_i64 (by omega) (by omega)
    simp [thenD_pp, sliceCells_sl, sliceCells_z, sliceCells_nil, take_full, appS_sl, appK_ok, appS_none, thenD_ag, agP_nil, agP_cons, w]
    exact cur_end h (by omega) (by unfold inI; omega) (c2.mono (by omega)) (ag_trans a1 a2)
theorem p_raw {M0 X : Mem} {p : Nat} {cv : V} {B : Int} (hc : CurH M0 cv) (h : Cur M0 p cv B X) (hB : B ≤ 900000000000) {x : Option (V × Mem)} (hx : aCall T0 F_spec_l01Cur_raw [.pointer (some ⟨p, 0, none⟩)] X = x) :
    ∃ (y : Int) (X' : Mem), x = some (.int .i64 y, X') ∧ inI y ∧ Cur M0 p cv (B + 2) X' ∧ Agree X X' [p] := by
  obtain ⟨v, X', rfl, y, e, hy, h1, h2⟩ := of_call hx (c_spec_l01Cur_raw M0 X p cv B hc h hB)
  simp only at e h1 h2
  subst e
  exact ⟨y, X', rfl, hy, h1, h2⟩
theorem c_spec_l01Cur_many (M0 X : Mem) (p : Nat) (cv : V) (B : Int) (hc : CurH M0 cv) (h : Cur M0 p cv B X) (hB : B ≤ 800000000000) :
    Sat (aCall T0 F_spec_l01Cur_many [.pointer (some ⟨p, 0, none⟩)] X) (CurI M0 p cv (B + 5) inI X) := by
  rw [aCall_eq T_spec_l01Cur_many]; unfold A_spec_l01Cur_many C_spec_l01Cur_many; simp [thenD_pp, sliceCells_sl, sliceCells_z, sliceCells_nil, take_full, appS_sl, appK_ok, appS_none, thenD_ag, agP_nil, agP_cons]
  generalize hx : aCall T0 F_spec_l01Cur_pick _ _ = xhx
  obtain ⟨y, X1, rfl, y0, y1, c1, a1⟩ := p_pick hc h (by omega) (by decide) hx
  clear hx
  simp [thenD_pp, sliceCells_sl, sliceCells_z, sliceCells_nil, take_full, appS_sl, appK_ok, appS_none, thenD_ag, agP_nil, agP_cons]
  generalize hx : aCall T0 F_spec_l01Cur_pick _ _ = xhx
  obtain ⟨z, X2, rfl, z0, z1, c2, a2⟩ := p_pick hc c1 (by omega) (by decide) hx
  clear hx
  simp [thenD_pp, sliceCells_sl, sliceCells_z, sliceCells_nil, take_full, appS_sl, appK_ok, appS_none, thenD_ag, agP_nil, agP_cons]
  generalize hx : aCall T0 F_spec_l01Cur_raw _ _ = xhx
  obtain ⟨r, X3, rfl, r0, c3, a3⟩ := p_raw hc c2 (by omega) hx
  clear hx
  simp [thenD_pp, sliceCells_sl, sliceCells_z, sliceCells_nil, take_full, appS_sl, appK_ok, appS_none, thenD_ag, agP_nil, agP_cons]
  generalize hx : aCall T0 F_spec_l01Cur_pick _ _ = xhx
  obtain ⟨u, X4, rfl, u0, u1, c4, a4⟩ := p_pick hc (c3.grow (List.prefix_append _ _)) (by omega) (by decide) hx
  clear hx
  obtain ⟨k, rfl⟩ := Int.eq_ofNat_of_zero_le u0
  have hk : k < 5 := by omega
  have hki : (k : Int) < 5 := by omega
  have hpl := c3.lt
  have b2 := a4.get (i := X3.length) (b := ⟨[.int .i64 y, .int .i64 z, .int .i64 r, .int .i64 256, .int .i64 257], 1, 2⟩) (by simp) (by simp; omega)
  have g := int_get [y, z, r, 256, 257] _ rfl (k := k) hk
  simp only [List.map_cons, List.map_nil] at g
  have hin : ∀ x ∈ [y, z, r, 256, (257 : Int)], inI x := by
    intro x hx
    unfold inI at *
    simp only [List.mem_cons, List.not_mem_nil, or_false] at hx
    omega
  have hin2 := hin ([y, z, r, 256, (257 : Int)][k]'hk) (List.getElem_mem _)
  generalize ([y, z, r, 256, (257 : Int)])[k]'hk = w at g hin2
  simp [thenD_pp, sliceCells_sl, sliceCells_z, sliceCells_nil, take_full, appS_sl, appK_ok, appS_none, thenD_ag, agP_nil, agP_cons, hki, b2, rd1_K, rdJ_ok, g]
  exact cur_end h (by omega) hin2 (c4.mono (by omega)) (ag_trans a1 (ag_trans a2 (ag_trans a3 (ag_trans agree_app a4))))
theorem p_many {M0 X : Mem} {p : Nat} {cv : V} {B : Int} (hc : CurH M0 cv) (h : Cur M0 p cv B X) (hB : B ≤ 800000000000) {x : Option (V × Mem)} (hx : aCall T0 F_spec_l01Cur_many [.pointer (some ⟨p, 0, none⟩)] X = x) :
    ∃ (y : Int) (X' : Mem), x = some (.int .i64 y, X') ∧ inI y ∧ Cur M0 p cv (B + 5) X' ∧ Agree X X' [p] := by
  obtain ⟨v, X', rfl, y, e, hy, h1, h2⟩ := of_call hx (c_spec_l01Cur_many M0 X p cv B hc h hB)
  simp only at e h1 h2
  subst e
  exact ⟨y, X', rfl, hy, h1, h2⟩
theorem c_spec_l01Cur_log (M0 X : Mem) (p : Nat) (cv : V) (B : Int) (hc : CurH M0 cv) (h : Cur M0 p cv B X) (hB : B ≤ 800000000000) :
    Sat (aCall T0 F_spec_l01Cur_log [.pointer (some ⟨p, 0, none⟩)] X) (CurI M0 p cv (B + 6) inI X) := by
  rw [aCall_eq T_spec_l01Cur_log]; unfold A_spec_l01Cur_log C_spec_l01Cur_log; simp [thenD_pp, sliceCells_sl, sliceCells_z, sliceCells_nil, take_full, appS_sl, appK_ok, appS_none, thenD_ag, agP_nil, agP_cons]
  generalize hx : aCall T0 F_spec_l01Cur_pick _ _ = xhx
  obtain ⟨y, X1, rfl, y0, y1, c1, a1⟩ := p_pick hc h (by omega) (by decide) hx
  clear hx
  simp [thenD_pp, sliceCells_sl, sliceCells_z, sliceCells_nil, take_full, appS_sl, appK_ok, appS_none, thenD_ag, agP_nil, agP_cons]
  generalize hx : aCall T0 F_spec_l01Cur_pick _ _ = xhx
  obtain ⟨z, X2, rfl, z0, z1, c2, a2⟩ := p_pick hc c1 (by omega) (by decide) hx
  clear hx
  simp [thenD_pp, sliceCells_sl, sliceCells_z, sliceCells_nil, take_full, appS_sl, appK_ok, appS_none, thenD_ag, agP_nil, agP_cons]
  generalize hx : aCall T0 F_spec_l01Cur_pick _ _ = xhx
  obtain ⟨s, X3, rfl, s0, s1, c3, a3⟩ := p_pick hc c2 (by omega) (by decide) hx
  clear hx
  have w0 : IntKind.i64.wrap (s - 1) = s - 1 := wrap_i64 (by omega) (by omega)
  simp [thenD_pp, sliceCells_sl, sliceCells_z, sliceCells_nil, take_full, appS_sl, appK_ok, appS_none, thenD_ag, agP_nil, agP_cons, w0]
  generalize hx : aCall T0 F_spec_l01Cur_raw _ _ = xhx
  obtain ⟨r, X4, rfl, r0, c4, a4⟩ := p_raw hc c3 (by omega) hx
  clear hx
  simp [thenD_pp, sliceCells_sl, sliceCells_z, sliceCells_nil, take_full, appS_sl, appK_ok, appS_none, thenD_ag, agP_nil, agP_cons]
  generalize hx : aCall T0 F_spec_l01Cur_pick _ _ = xhx
  obtain ⟨u, X5, rfl, u0, u1, c5, a5⟩ := p_pick hc (c4.grow (List.prefix_append _ _)) (by omega) (by decide) hx
  clear hx
  obtain ⟨k, rfl⟩ := Int.eq_ofNat_of_zero_le u0
  have hk : k < 4 := by omega
  have hki : (k : Int) < 4 := by omega
  have hpl := c4.lt
  have b2 := a5.get (i := X4.length) (b := ⟨[.int .i64 y, .int .i64 z, .int .i64 (s - 1), .int .i64 r], 1, 2⟩) (by simp) (by simp; omega)
  have g := int_get [y, z, s - 1, r] _ rfl (k := k) hk
  simp only [List.map_cons, List.map_nil] at g
  have hin : ∀ x ∈ [y, z, s - 1, r], inI x := by
    intro x hx
    unfold inI at *
    simp only [List.mem_cons, List.not_mem_nil, or_false] at hx
    omega
  have hin2 := hin ([y, z, s - 1, r][k]'hk) (List.getElem_mem _)
  generalize ([y, z, s - 1, r])[k]'hk = w at g hin2
  simp [thenD_pp, sliceCells_sl, sliceCells_z, sliceCells_nil, take_full, appS_sl, appK_ok, appS_none, thenD_ag, agP_nil, agP_cons, hki, b2, rd1_K, rdJ_ok, g]
  exact cur_end h (by omega) hin2 (c5.mono (by omega)) (ag_trans a1 (ag_trans a2 (ag_trans a3 (ag_trans a4 (ag_trans agree_app a5)))))
theorem p_log {M0 X : Mem} {p : Nat} {cv : V} {B : Int} (hc : CurH M0 cv) (h : Cur M0 p cv B X) (hB : B ≤ 800000000000) {x : Option (V × Mem)} (hx : aCall T0 F_spec_l01Cur_log [.pointer (some ⟨p, 0, none⟩)] X = x) :
    ∃ (y : Int) (X' : Mem), x = some (.int .i64 y, X') ∧ inI y ∧ Cur M0 p cv (B + 6) X' ∧ Agree X X' [p] := by
  obtain ⟨v, X', rfl, y, e, hy, h1, h2⟩ := of_call hx (c_spec_l01Cur_log M0 X p cv B hc h hB)
  simp only at e h1 h2
  subst e
  exact ⟨y, X', rfl, hy, h1, h2⟩
theorem gr_Int (M : Mem) {x : Int} (h : inI x) : Gr ty_Int M [.int .i64 x] x [] := ⟨⟨rfl, wf_range h⟩, rfl⟩
theorem cure_app {t : Ty} {M0 X Y Z : Mem} {p i bytes : Nat} {cv v : V} {B B' : Int} (h : CurE t M0 p cv B X i v Y) (hc : Cur M0 p cv B' Z) (ha : Agree Y Z [p]) (hpX : p < X.length) (hi : (i + 1) * bytes ≤ 140737488355328) (hi2 : i + 1 ≤ 9223372036854775807) {N : Mem} {ds : List V} {y : t.D} (hy : Gr t (Z ++ N) ds y []) {x : Option (V × Mem)} (hx : appS (Z ++ N) t.w bytes v 1 ds = x) :
    ∃ (l : Nat) (X3 : Mem), x = some (.slice (some ⟨l, 0, none⟩) (i + 1) (i + 1), X3) ∧ CurE t M0 p cv B' X (i + 1) (.slice (some ⟨l, 0, none⟩) (i + 1) (i + 1)) X3 := by
  obtain ⟨xs, L, g, nd, hf, hn, _, hag⟩ := h
  subst hn
  have hpL : p ∉ L := fun hm => by have := hf p hm; omega
  have gZ := g.agree ha (fun l hl e => by simp at e; exact hpL (e ▸ hl))
  have hpN := List.prefix_append Z N
  obtain ⟨l, X3, L', rfl, g3, ag3, len3, hw3, nd3, sub3, hl3⟩ := gZ.app hx hpN hy (by simp) nd (by simp) hi hi2
  have hag2 : Agree Y Z [p] := ha
  have hYl : Y.length ≤ Z.length := ha.1
  have hXl : X.length ≤ Y.length := hag.1
  have hpw : p ∉ wfs v := fun hm => hpL (hw3 _ hm)
  refine ⟨l, X3, rfl, xs ++ [y], L', g3, nd3, fun j hj => ?_, by simp, ?_, ?_⟩
  · rcases sub3 j hj with h | h | h
    · exact hf j h
    · simp at h
    · simp at hl3; omega
  · obtain ⟨c1, c2, a', s', c3, c4⟩ := hc
    refine ⟨?_, c2, a', s', ag3.get (get_pre hpN c3) hpw, c4⟩
    exact ag3.pre (c1.trans hpN) (fun b hb => by have := hf b (hw3 b hb); omega)
  · refine ⟨by have := ag3.1; simp at this; omega, fun j hj hn => ?_⟩
    rw [ag3.2 j (by simp; omega) (fun hm => by have := hf j (hw3 j hm); omega), List.getElem?_append_left (by omega), ha.2 j (by omega) hn]
    exact hag.2 j hj hn
theorem cure_nil {t : Ty} {M0 X : Mem} {p : Nat} {cv : V} {B : Int} {w : Nat} (hw : t.w = w) (h : Cur M0 p cv B X) : CurE t M0 p cv B X 0 (.slice (some ⟨X.length, 0, none⟩) 0 0) (X ++ [⟨[], w, 2⟩]) := by
  subst hw
  refine ⟨[], [X.length], .inr ⟨X.length, [], [], rfl, by simp, rfl, rfl, fun i ds x K hd => by simp at hd, by simp⟩, by simp, by simp, rfl, h.grow (List.prefix_append _ _), agree_app⟩
def CurB (M0 : Mem) (p : Nat) (cv : V) (B : Int) (X : Mem) (r : V × Mem) : Prop := ∃ b : Bool, r.1 = .bool b ∧ Cur M0 p cv B r.2 ∧ Agree X r.2 [p]
theorem c_spec_l01Cur_once (M0 X : Mem) (p : Nat) (cv : V) (B n : Int) (hc : CurH M0 cv) (h : Cur M0 p cv B X) (hB : B ≤ 1000000000000) (hn : n ≤ 1000000000000) (hn0 : -1000000000000 ≤ n) :
    Sat (aCall T0 F_spec_l01Cur_once [.pointer (some ⟨p, 0, none⟩), .int .i64 n] X) (CurB M0 p cv (B + 1) X) := by
  have w : IntKind.i64.wrap (n - 1) = n - 1 := wrap_i64 (by omega) (by omega)
  rw [aCall_eq T_spec_l01Cur_once]; unfold A_spec_l01Cur_once C_spec_l01Cur_once; simp [thenD_pp, sliceCells_sl, sliceCells_z, sliceCells_nil, take_full, appS_sl, appK_ok, appS_none, thenD_ag, agP_nil, agP_cons]
  generalize hx : aCall T0 F_spec_l01Cur_pick _ _ = xhx
  obtain ⟨y, X', rfl, y0, y1, c1, a1⟩ := p_pick hc h hB hn hx
  simp [thenD_pp, sliceCells_sl, sliceCells_z, sliceCells_nil, take_full, appS_sl, appK_ok, appS_none, thenD_ag, agP_nil, agP_cons, w]
  exact gc_sat ⟨_, rfl, h.mono (by omega), ag_refl _ _⟩ ⟨_, rfl, c1, a1⟩
theorem p_once {M0 X : Mem} {p : Nat} {cv : V} {B n : Int} (hc : CurH M0 cv) (h : Cur M0 p cv B X) (hB : B ≤ 1000000000000) (hn : n ≤ 1000000000000) (hn0 : -1000000000000 ≤ n) {x : Option (V × Mem)} (hx : aCall T0 F_spec_l01Cur_once [.pointer (some ⟨p, 0, none⟩), .int .i64 n] X = x) :
    ∃ (b : Bool) (X' : Mem), x = some (.bool b, X') ∧ Cur M0 p cv (B + 1) X' ∧ Agree X X' [p] := by
  obtain ⟨v, X', rfl, b, e, h1, h2⟩ := of_call hx (c_spec_l01Cur_once M0 X p cv B n hc h hB hn hn0)
  simp only at e h1 h2
  subst e
  exact ⟨b, X', rfl, h1, h2⟩
theorem l_spec_l01Cur_row_0 (M0 X : Mem) (p : Nat) (cv : V) (B n : Int) (K : Nat) (hc : CurH M0 cv) (hB : B ≤ 800000000000) (hn : n ≤ 100000000) (hK : K ≤ 1000000) (hpX : p < X.length) (v0 : V) (Z : Mem) (h0 : CurE ty_Int M0 p cv B X 0 v0 Z) :
    ∃ v' X', CurE ty_Int M0 p cv (B + 2 * K) X K v' X' ∧ lp (aCall T0) K_spec_l01Cur_row_0 L_spec_l01Cur_row_0 [.pointer (some ⟨p, 0, none⟩), .int .i64 n, und, und, und, und, und, v0, .int .i64 K, und, und, und, und, und, und, und, und, und, und, und, und, und, und, und, und, und, und, und, und, und, und, und, und, und] Z = lp (aCall T0) K_spec_l01Cur_row_0 L_spec_l01Cur_row_0 [.pointer (some ⟨p, 0, none⟩), .int .i64 n, und, und, und, und, und, v', .int .i64 0, und, und, und, und, und, und, und, und, und, und, und, und, und, und, und, und, und, und, und, und, und, und, und, und, und] X' := by
  have key := loop_to (call := aCall T0) (K := K_spec_l01Cur_row_0) (L := L_spec_l01Cur_row_0) (fun i (v : V) Y => CurE ty_Int M0 p cv (B + 2 * i) X i v Y) (fun i v => [.pointer (some ⟨p, 0, none⟩), .int .i64 n, und, und, und, und, und, v, .int .i64 ((K : Int) - i), und, und, und, und, und, und, und, und, und, und, und, und, und, und, und, und, und, und, und, und, und, und, und, und, und]) (n := K) ?_ 0 v0 Z (by omega) (by simpa using h0)
  · obtain ⟨v', X', h1, h2⟩ := key
    refine ⟨v', X', h1, ?_⟩
    simpa using h2
  intro i v Y hi hY
  have hcur : Cur M0 p cv (B + 2 * i) Y := hY.choose_spec.choose_spec.2.2.2.2.1
  have hgt : (0 : Int) < (K : Int) - i := by omega
  have w0 : IntKind.i64.wrap ((K : Int) - i - 1) = (K : Int) - (i + 1 : Nat) := by rw [wrap_i64 (by omega) (by omega)]; omega
  have e8 : (i : Int) + 1 = ((i + 1 : Nat) : Int) := by omega
  by_cases hn0 : (0 : Int) < n
  · rw [S_spec_l01Cur_row_0]; unfold B_spec_l01Cur_row_0; simp [thenD_pp, sliceCells_sl, sliceCells_z, sliceCells_nil, take_full, appS_sl, appK_ok, appS_none, thenD_ag, agP_nil, agP_cons, hi, hgt, hn0]
    generalize hx : aCall T0 F_spec_l01Cur_once _ _ = xhx
    obtain ⟨b, X1, rfl, c1, a1⟩ := p_once (n := 5) hc hcur (by omega) (by decide) (by decide) hx
    clear hx
    cases b with
    | true =>
      simp [thenD_pp, sliceCells_sl, sliceCells_z, sliceCells_nil, take_full, appS_sl, appK_ok, appS_none, thenD_ag, agP_nil, agP_cons]
      generalize hy : appS _ _ _ _ _ _ = xhy
      obtain ⟨l, X3, rfl, h3⟩ := cure_app (bytes := 8) hY c1 a1 hpX (by omega) (by omega) (gr_Int _ (x := -1) (by unfold inI; omega)) hy
      simp [thenD_pp, sliceCells_sl, sliceCells_z, sliceCells_nil, take_full, appS_sl, appK_ok, appS_none, thenD_ag, agP_nil, agP_cons, w0]
      exact ⟨_, X3, CurE.mono h3 (by omega), rfl⟩
    | false =>
      simp [thenD_pp, sliceCells_sl, sliceCells_z, sliceCells_nil, take_full, appS_sl, appK_ok, appS_none, thenD_ag, agP_nil, agP_cons]
      generalize hx : aCall T0 F_spec_l01Cur_pick _ _ = xhx
      obtain ⟨z, X2, rfl, z0, z1, c2, a2⟩ := p_pick hc c1 (by omega) (by omega) hx
      clear hx
      simp [thenD_pp, sliceCells_sl, sliceCells_z, sliceCells_nil, take_full, appS_sl, appK_ok, appS_none, thenD_ag, agP_nil, agP_cons]
      generalize hy : appS _ _ _ _ _ _ = xhy
      obtain ⟨l, X3, rfl, h3⟩ := cure_app (bytes := 8) hY c2 (ag_trans a1 a2) hpX (by omega) (by omega) (gr_Int _ (x := z) (by unfold inI; omega)) hy
      simp [thenD_pp, sliceCells_sl, sliceCells_z, sliceCells_nil, take_full, appS_sl, appK_ok, appS_none, thenD_ag, agP_nil, agP_cons, w0]
      exact ⟨_, X3, CurE.mono h3 (by omega), rfl⟩
  · rw [S_spec_l01Cur_row_0]; unfold B_spec_l01Cur_row_0; simp [thenD_pp, sliceCells_sl, sliceCells_z, sliceCells_nil, take_full, appS_sl, appK_ok, appS_none, thenD_ag, agP_nil, agP_cons, hi, hgt, hn0]
    generalize hy : appS _ _ _ _ _ _ = xhy
    obtain ⟨l, X3, rfl, h3⟩ := cure_app (bytes := 8) hY hcur (ag_refl _ _) hpX (by omega) (by omega) (gr_Int _ (x := -1) (by unfold inI; omega)) hy
    simp [thenD_pp, sliceCells_sl, sliceCells_z, sliceCells_nil, take_full, appS_sl, appK_ok, appS_none, thenD_ag, agP_nil, agP_cons, w0]
    exact ⟨_, X3, CurE.mono h3 (by omega), rfl⟩
theorem c_spec_l01Cur_row (M0 X : Mem) (p : Nat) (cv : V) (B n most : Int) (hc : CurH M0 cv) (h : Cur M0 p cv B X) (hB : B ≤ 700000000000) (hn : n ≤ 100000000) (hm : most ≤ 100000) (hm0 : 0 ≤ most) :
    ∃ v X', aCall T0 F_spec_l01Cur_row [.pointer (some ⟨p, 0, none⟩), .int .i64 n, .int .i64 most] X = some (v, X') ∧ CurV ty_Int M0 p cv (B + 3 + 2 * most) X most.toNat v X' := by
  have w : IntKind.i64.wrap (most + 1) = most + 1 := wrap_i64 (by omega) (by omega)
  rw [aCall_eq T_spec_l01Cur_row]; unfold A_spec_l01Cur_row C_spec_l01Cur_row; simp [thenD_pp, sliceCells_sl, sliceCells_z, sliceCells_nil, take_full, appS_sl, appK_ok, appS_none, thenD_ag, agP_nil, agP_cons, w, zeroCells]
  generalize hx : aCall T0 F_spec_l01Cur_pick _ _ = xhx
  obtain ⟨z, X1, rfl, z0, z1, c1, a1⟩ := p_pick (n := most + 1) hc (h.grow (List.prefix_append _ _)) (by omega) (by omega) hx
  clear hx
  obtain ⟨K, rfl⟩ := Int.eq_ofNat_of_zero_le z0
  have hE := cure_agree (cure_nil (t := ty_Int) rfl h) c1 a1 h.lt
  obtain ⟨v', X', hE', e⟩ := l_spec_l01Cur_row_0 M0 X p cv (B + 1) n K hc (by omega) hn (by omega) h.lt _ _ hE
  have hK : K ≤ most.toNat := by omega
  have hv := CurE.v hE' hK (show B + 1 + 2 * (K : Int) ≤ B + 3 + 2 * most by omega)
  obtain ⟨xs, L, g, _⟩ := id hv
  obtain ⟨a, rfl⟩ := g.shape

  simp [thenD_pp, sliceCells_sl, sliceCells_z, sliceCells_nil, take_full, appS_sl, appK_ok, appS_none, thenD_ag, agP_nil, agP_cons, e]
  rw [S_spec_l01Cur_row_0]; unfold B_spec_l01Cur_row_0; simp [thenD_pp, sliceCells_sl, sliceCells_z, sliceCells_nil, take_full, appS_sl, appK_ok, appS_none, thenD_ag, agP_nil, agP_cons]
  exact ⟨_, _, ⟨rfl, rfl⟩, hv⟩
theorem fl_Int : FlatE ty_Int (fun x => [(.int .i64 x : V)]) inI := ⟨fun M x h => gr_Int M h, fun M cs x h => ⟨h.1, wf_i64 h.2⟩⟩
theorem Gr.appF {t : Ty} {enc : t.D → List V} {P : t.D → Prop} (hf : FlatE t enc P) {X X2 : Mem} {v : V} {xs : List t.D} {L : List Nat} (h : Gr (.sl t) X [v] xs L) {bytes m : Nat} {zs : List t.D} {x : Option (V × Mem)} (hx : appS X2 t.w bytes v m (zs.map enc).flatten = x) (hp : X <+: X2)
    (hm : zs.length = m) (h0 : 0 < m) (hP : ∀ z ∈ zs, P z) (hs : (xs.length + m) * bytes ≤ 140737488355328) (hs2 : xs.length + m ≤ 9223372036854775807) :
    ∃ l X3, x = some (.slice (some ⟨l, 0, none⟩) (xs.length + m) (xs.length + m), X3) ∧ Gr (.sl t) X3 [.slice (some ⟨l, 0, none⟩) (xs.length + m) (xs.length + m)] (xs ++ zs) [l] ∧ Agree X2 X3 (wfs v) ∧ X2.length < X3.length ∧ (∀ b ∈ wfs v, b ∈ L) ∧ X2.length ≤ l := by
  obtain ⟨cs, hg, hw⟩ := h.gr (K := 0) (by simp)
  obtain ⟨_, hc, hPx⟩ := rep_cellsF hf h.rep
  have hcs : cs = (xs.map enc).flatten := by
    have := hg.cells
    rw [hc] at this
    simpa using this.symm
  subst hcs
  have g2 := hg.pre hp
  have hlen : (zs.map enc).flatten.length = m * t.w := by
    rw [flat_len (fun ds hd => by
      obtain ⟨z, hz, rfl⟩ := List.mem_map.1 hd
      exact (hf.1 X z (hP z hz)).len), List.length_map, hm]
  have hone : (zs.map enc).flatten.all GoAm.one = true := by
    rw [List.all_eq_true]
    intro y hy
    obtain ⟨ds, hd, hy⟩ := List.mem_flatten.1 hy
    obtain ⟨z, hz, rfl⟩ := List.mem_map.1 hd
    exact List.all_eq_true.1 (hf.1 X z (hP z hz)).one y hy
  have e := g2.app (m := m) (bytes := bytes) (ys := (zs.map enc).flatten) hlen h0 hone hs hs2
  refine ⟨_, _, hx.symm.trans e, ?_, kill_agree _ _ _, by rw [List.length_append, kill_len]; simp, hw, Nat.le_refl _⟩
  have hb : (kill X2 v ++ [(⟨(xs.map enc).flatten ++ (zs.map enc).flatten, t.w, 2⟩ : Blk)])[X2.length]? = some ⟨((xs ++ zs).map enc).flatten, t.w, 2⟩ := by
    rw [List.getElem?_append_right (by rw [kill_len]; exact Nat.le_refl _), kill_len]; simp
  have := gr_flat hf hb (fun z hz => by
    rcases List.mem_append.1 hz with hz | hz
    · exact hPx z hz
    · exact hP z hz)
  rw [List.length_append, hm] at this
  exact this
theorem cure_appF {t : Ty} {enc : t.D → List V} {P : t.D → Prop} (hf : FlatE t enc P) {M0 X Y Z : Mem} {p i m bytes : Nat} {cv v : V} {B B' : Int} (h : CurE t M0 p cv B X i v Y) (hc : Cur M0 p cv B' Z) (ha : Agree Y Z [p]) (hpX : p < X.length) (h0 : 0 < m) (hi : (i + m) * bytes ≤ 140737488355328) (hi2 : i + m ≤ 9223372036854775807) {N : Mem} {zs : List t.D} (hz : zs.length = m) (hP : ∀ z ∈ zs, P z) {x : Option (V × Mem)} (hx : appS (Z ++ N) t.w bytes v m (zs.map enc).flatten = x) :
    ∃ (l : Nat) (X3 : Mem), x = some (.slice (some ⟨l, 0, none⟩) (i + m) (i + m), X3) ∧ CurE t M0 p cv B' X (i + m) (.slice (some ⟨l, 0, none⟩) (i + m) (i + m)) X3 := by
  obtain ⟨xs, L, g, nd, hfr, hn, _, hag⟩ := h
  subst hn
  have hpL : p ∉ L := fun hm => by have := hfr p hm; omega
  have gZ := g.agree ha (fun l hl e => by simp at e; exact hpL (e ▸ hl))
  have hpN := List.prefix_append Z N
  obtain ⟨l, X3, rfl, g3, ag3, len3, hw3, hl3⟩ := Gr.appF hf gZ hx hpN hz h0 hP hi hi2
  have hYl : Y.length ≤ Z.length := ha.1
  have hXl : X.length ≤ Y.length := hag.1
  have hpw : p ∉ wfs v := fun hm => hpL (hw3 _ hm)
  refine ⟨l, X3, rfl, xs ++ zs, [l], g3, by simp, fun j hj => ?_, by simp [hz], ?_, ?_⟩
  · simp at hj hl3; omega
  · obtain ⟨c1, c2, a', s', c3, c4⟩ := hc
    refine ⟨?_, c2, a', s', ag3.get (get_pre hpN c3) hpw, c4⟩
    exact ag3.pre (c1.trans hpN) (fun b hb => by have := hfr b (hw3 b hb); omega)
  · refine ⟨by have := ag3.1; simp at this; omega, fun j hj hn => ?_⟩
    rw [ag3.2 j (by simp; omega) (fun hm => by have := hfr j (hw3 j hm); omega), List.getElem?_append_left (by omega), ha.2 j (by omega) hn]
    exact hag.2 j hj hn
theorem zero_flat (m : Nat) : zc (.int .i64 0 : V) m = ((List.replicate m (0 : Int)).map (fun x => [(.int .i64 x : V)])).flatten := by
  induction m with
  | zero => rfl
  | succ m ih =>
    have : zc (.int .i64 0 : V) (m + 1) = .int .i64 0 :: zc (.int .i64 0) m := by simp [zc, List.replicate_succ]
    rw [this, ih, List.replicate_succ, List.map_cons, List.flatten_cons]
    rfl
theorem c_spec_l01Cur_badRow (M0 X : Mem) (p : Nat) (cv : V) (B n most : Int) (hc : CurH M0 cv) (h : Cur M0 p cv B X) (hB : B ≤ 600000000000) (hn : n ≤ 100000000) (hnl : inI n) (hm : most ≤ 100) (hm0 : 0 ≤ most) :
    ∃ v X', aCall T0 F_spec_l01Cur_badRow [.pointer (some ⟨p, 0, none⟩), .int .i64 n, .int .i64 most] X = some (v, X') ∧ CurV ty_Int M0 p cv (B + 500) X 1000 v X' := by
  obtain ⟨v1, X1, e1, hv1⟩ := c_spec_l01Cur_row M0 X p cv B n most hc h (by omega) hn (by omega) hm0
  obtain ⟨i, a, hi, rfl, hE⟩ := CurV.e hv1
  have hi2 : i ≤ 100 := by omega
  rw [aCall_eq T_spec_l01Cur_badRow]; unfold A_spec_l01Cur_badRow C_spec_l01Cur_badRow; simp [thenD_pp, sliceCells_sl, sliceCells_z, sliceCells_nil, take_full, appS_sl, appK_ok, appS_none, thenD_ag, agP_nil, agP_cons, e1]
  generalize hx : aCall T0 F_spec_l01Cur_pick _ _ = xhx
  obtain ⟨z, X2, rfl, z0, z1, c2, a2⟩ := p_pick hc (CurE.c hE) (by omega) (by decide) hx
  clear hx
  have hE2 := cure_agree hE c2 a2 h.lt
  by_cases h0 : z = 0
  · simp [thenD_pp, sliceCells_sl, sliceCells_z, sliceCells_nil, take_full, appS_sl, appK_ok, appS_none, thenD_ag, agP_nil, agP_cons, h0]
    generalize hx : aCall T0 F_spec_l01Cur_raw _ _ = xhx
    obtain ⟨r, X3, rfl, r0, c3, a3⟩ := p_raw hc c2 (by omega) hx
    clear hx
    simp [thenD_pp, sliceCells_sl, sliceCells_z, sliceCells_nil, take_full, appS_sl, appK_ok, appS_none, thenD_ag, agP_nil, agP_cons]
    generalize hx : aCall T0 F_spec_l01Cur_pick _ _ = xhx
    obtain ⟨u, X4, rfl, u0, u1, c4, a4⟩ := p_pick hc (c3.grow (List.prefix_append _ _)) (by omega) (by decide) hx
    clear hx
    obtain ⟨k, rfl⟩ := Int.eq_ofNat_of_zero_le u0
    have hk : k < 2 := by omega
    have hki : (k : Int) < 2 := by omega
    have hpl := c3.lt
    have b2 := a4.get (i := X3.length) (b := ⟨[.int .i64 r, .int .i64 n], 1, 2⟩) (by simp) (by simp; omega)
    have g := int_get [r, n] _ rfl (k := k) hk
    simp only [List.map_cons, List.map_nil] at g
    have hin : ∀ x ∈ [r, n], inI x := by
      intro x hx
      simp only [List.mem_cons, List.not_mem_nil, or_false] at hx
      rcases hx with rfl | rfl
      · exact r0
      · exact hnl
    have hin2 := hin ([r, n][k]'hk) (List.getElem_mem _)
    generalize ([r, n])[k]'hk = w at g hin2
    simp [thenD_pp, sliceCells_sl, sliceCells_z, sliceCells_nil, take_full, appS_sl, appK_ok, appS_none, thenD_ag, agP_nil, agP_cons, hki, b2, rd1_K, rdJ_ok, g]
    generalize hy : appS _ _ _ _ _ _ = xhy
    obtain ⟨l, X5, rfl, h5⟩ := cure_app (bytes := 8) (cure_agree hE2 (c3.grow (List.prefix_append X3 [(⟨[.int .i64 r, .int .i64 n], 1, 2⟩ : Blk)])) (ag_trans a3 agree_app) h.lt) c4 a4 h.lt (by omega) (by omega) (gr_Int _ hin2) hy
    simp [thenD_pp, sliceCells_sl, sliceCells_z, sliceCells_nil, take_full, appS_sl, appK_ok, appS_none, thenD_ag, agP_nil, agP_cons]
    exact ⟨_, _, ⟨rfl, rfl⟩, CurE.v h5 (by omega) (by omega)⟩
  by_cases h1 : z = 1
  · simp [thenD_pp, sliceCells_sl, sliceCells_z, sliceCells_nil, take_full, appS_sl, appK_ok, appS_none, thenD_ag, agP_nil, agP_cons, h0, h1]
    generalize hx : aCall T0 F_spec_l01Cur_pick _ _ = xhx
    obtain ⟨r, X3, rfl, r0, r1, c3, a3⟩ := p_pick hc c2 (by omega) (by decide) hx
    clear hx
    obtain ⟨k, rfl⟩ := Int.eq_ofNat_of_zero_le r0
    have w1 : IntKind.i64.wrap (700 + (k : Int)) = 700 + k := wrap_i64 (by omega) (by omega)
    obtain ⟨m, hm1⟩ : ∃ m : Nat, m = 700 + k - i := ⟨_, rfl⟩
    have w2 : IntKind.i64.wrap (700 + (k : Int) - i) = (m : Int) := by rw [wrap_i64 (by omega) (by omega)]; omega
    have w3 : (m : Int) ≤ 9223372036854775807 := by omega
    have w4 : (m : Int) * 8 ≤ 281474976710656 := by omega
    simp [thenD_pp, sliceCells_sl, sliceCells_z, sliceCells_nil, take_full, appS_sl, appK_ok, appS_none, thenD_ag, agP_nil, agP_cons, w1, w2, w3, w4]
    generalize hy : appS _ _ _ _ _ _ = xhy
    rw [zero_flat] at hy
    rw [show X3 = X3 ++ [] by simp] at hy
    obtain ⟨l, X5, rfl, h5⟩ := cure_appF (bytes := 8) (m := m) fl_Int hE2 c3 a3 h.lt (by omega) (by omega) (by omega) (zs := List.replicate m 0) (by simp) (fun z hz => by
      rw [List.eq_of_mem_replicate hz]
      unfold inI
      omega) hy
    simp [thenD_pp, sliceCells_sl, sliceCells_z, sliceCells_nil, take_full, appS_sl, appK_ok, appS_none, thenD_ag, agP_nil, agP_cons]
    exact ⟨_, _, ⟨rfl, rfl⟩, CurE.v h5 (by omega) (by omega)⟩
  · simp [thenD_pp, sliceCells_sl, sliceCells_z, sliceCells_nil, take_full, appS_sl, appK_ok, appS_none, thenD_ag, agP_nil, agP_cons, h0, h1]
    exact ⟨_, _, ⟨rfl, rfl⟩, CurE.v hE2 (by omega) (by omega)⟩
theorem p_badRow {M0 X : Mem} {p : Nat} {cv : V} {B n most : Int} (hc : CurH M0 cv) (h : Cur M0 p cv B X) (hB : B ≤ 600000000000) (hn : n ≤ 100000000) (hnl : inI n) (hm : most ≤ 100) (hm0 : 0 ≤ most) {x : Option (V × Mem)} (hx : aCall T0 F_spec_l01Cur_badRow [.pointer (some ⟨p, 0, none⟩), .int .i64 n, .int .i64 most] X = x) :
    ∃ (a : Option Addr) (i : Nat) (X' : Mem), x = some (.slice a i i, X') ∧ i ≤ 1000 ∧ CurE ty_Int M0 p cv (B + 500) X i (.slice a i i) X' := by
  obtain ⟨v, X', e, hv⟩ := c_spec_l01Cur_badRow M0 X p cv B n most hc h hB hn hnl hm hm0
  obtain ⟨i, a, hi, rfl, hE⟩ := CurV.e hv
  exact ⟨a, i, X', hx.symm.trans e, hi, hE⟩
theorem c_spec_l01Cur_wide (M0 X : Mem) (p : Nat) (cv : V) (B n : Int) (hc : CurH M0 cv) (h : Cur M0 p cv B X) (hB : B ≤ 800000000000) (hn : 0 < n) :
    Sat (aCall T0 F_spec_l01Cur_wide [.pointer (some ⟨p, 0, none⟩), .int .i64 n] X) (CurI M0 p cv (B + 3) (fun x => 0 ≤ x ∧ x < n) X) := by
  rw [aCall_eq T_spec_l01Cur_wide]; unfold A_spec_l01Cur_wide C_spec_l01Cur_wide; simp [thenD_pp, sliceCells_sl, sliceCells_z, sliceCells_nil, take_full, appS_sl, appK_ok, appS_none, thenD_ag, agP_nil, agP_cons]
  generalize hx : aCall T0 F_spec_l01Cur_pick _ _ = xhx
  obtain ⟨y, X1, rfl, y0, y1, c1, a1⟩ := p_pick hc h (by omega) (by decide) hx
  clear hx
  have w1 : IntKind.i64.wrap (65536 * y) = 65536 * y := wrap_i64 (by omega) (by omega)
  simp [thenD_pp, sliceCells_sl, sliceCells_z, sliceCells_nil, take_full, appS_sl, appK_ok, appS_none, thenD_ag, agP_nil, agP_cons, w1]
  generalize hx : aCall T0 F_spec_l01Cur_pick _ _ = xhx
  obtain ⟨z, X2, rfl, z0, z1, c2, a2⟩ := p_pick hc c1 (by omega) (by decide) hx
  clear hx
  have w2 : IntKind.i64.wrap (256 * z) = 256 * z := wrap_i64 (by omega) (by omega)
  have w3 : IntKind.i64.wrap (65536 * y + 256 * z) = 65536 * y + 256 * z := wrap_i64 (by omega) (by omega)
  simp [thenD_pp, sliceCells_sl, sliceCells_z, sliceCells_nil, take_full, appS_sl, appK_ok, appS_none, thenD_ag, agP_nil, agP_cons, w2, w3]
  generalize hx : aCall T0 F_spec_l01Cur_pick _ _ = xhx
  obtain ⟨s, X3, rfl, s0, s1, c3, a3⟩ := p_pick hc c2 (by omega) (by decide) hx
  clear hx
  have w4 : IntKind.i64.wrap (65536 * y + 256 * z + s) = 65536 * y + 256 * z + s := wrap_i64 (by omega) (by omega)
  have hn0 : n ≠ 0 := by omega
  simp [thenD_pp, sliceCells_sl, sliceCells_z, sliceCells_nil, take_full, appS_sl, appK_ok, appS_none, thenD_ag, agP_nil, agP_cons, w4, hn0]
  exact cur_end h (by omega) ⟨Int.tmod_nonneg _ (by omega), Int.tmod_lt_of_pos _ hn⟩ (c3.mono (by omega)) (ag_trans a1 (ag_trans a2 a3))
theorem l_spec_l01Cur_drawsOf_0 (M0 X : Mem) (p : Nat) (cv : V) (B : Int) (K : Nat) (hc : CurH M0 cv) (hB : B ≤ 600000000000) (hK : K ≤ 1000000) (hpX : p < X.length) (v0 : V) (Z : Mem) (h0 : CurE ty_Int M0 p cv B X 0 v0 Z) :
    ∃ v' X', CurE ty_Int M0 p cv (B + 3 * K) X K v' X' ∧ ∀ n : Int, (K : Int) ≤ n → lp (aCall T0) K_spec_l01Cur_drawsOf_0 L_spec_l01Cur_drawsOf_0 [.pointer (some ⟨p, 0, none⟩), .int .i64 n, und, und, und, v0, und, und, und, und, und, und, und, und, und, und, und, und, und, und, und, und, und, und, und, und, und, und, und, und, und, und, und, und, und, und, und] Z = lp (aCall T0) K_spec_l01Cur_drawsOf_0 L_spec_l01Cur_drawsOf_0 [.pointer (some ⟨p, 0, none⟩), .int .i64 n, und, und, und, v', und, und, und, und, und, und, und, und, und, und, und, und, und, und, und, und, und, und, und, und, und, und, und, und, und, und, und, und, und, und, und] X' := by
  induction K with
  | zero => exact ⟨v0, Z, by simpa using h0, fun _ _ => rfl⟩
  | succ i ih =>
    obtain ⟨v, Y, hY, e⟩ := ih (by omega)
    have hcur : Cur M0 p cv (B + 3 * i) Y := CurE.c hY
    obtain ⟨a, rfl⟩ : ∃ a, v = .slice a i i := by
      obtain ⟨xs, L, g, nd, hf, hn, _⟩ := id hY
      obtain ⟨a, rfl⟩ := g.shape
      exact ⟨a, by rw [hn]⟩
    obtain ⟨⟨vw, Xw⟩, hxw, x, ew, hx2, hc2, ha2⟩ := c_spec_l01Cur_wide M0 Y p cv (B + 3 * i) 65536 hc hcur (by omega) (by decide)
    obtain rfl : vw = .int .i64 x := ew
    obtain ⟨l, X3, hy, h3⟩ := cure_app (bytes := 8) hY hc2 ha2 hpX (by omega) (by omega) (N := [(⟨[.int .i64 x], 1, 2⟩ : Blk)]) (gr_Int _ (x := x) (by unfold inI; omega)) rfl
    refine ⟨_, X3, CurE.mono h3 (by omega), fun n hn => ?_⟩
    rw [e n (by omega)]
    have hin : (i : Int) < n := by omega
    have hy' : appS (Xw ++ [(⟨[.int .i64 x], 1, 2⟩ : Blk)]) 1 8 (.slice a i i) 1 [.int .i64 x] = _ := hy
    rw [S_spec_l01Cur_drawsOf_0]; unfold B_spec_l01Cur_drawsOf_0; simp [thenD_pp, sliceCells_sl, sliceCells_z, sliceCells_nil, take_full, appS_sl, appK_ok, appS_none, thenD_ag, agP_nil, agP_cons, hin, hxw, hy']
theorem c_spec_l01Cur_drawsOf (M0 X : Mem) (p : Nat) (cv : V) (B n : Int) (hc : CurH M0 cv) (h : Cur M0 p cv B X) (hB : B ≤ 500000000000) (hn : n ≤ 100000) :
    ∃ v X', aCall T0 F_spec_l01Cur_drawsOf [.pointer (some ⟨p, 0, none⟩), .int .i64 n] X = some (v, X') ∧ CurV ty_Int M0 p cv (B + 500000) X 100001 v X' := by
  obtain ⟨v', X1, K, hK2, hend, hE, e0⟩ : ∃ v' X1, ∃ K : Nat, K ≤ 100000 ∧ ¬ ((K : Int) < n) ∧ CurE ty_Int M0 p cv (B + 300000) X K v' X1 ∧ lp (aCall T0) K_spec_l01Cur_drawsOf_0 L_spec_l01Cur_drawsOf_0 [.pointer (some ⟨p, 0, none⟩), .int .i64 n, und, und, und, .slice (some ⟨X.length, 0, none⟩) 0 0, und, und, und, und, und, und, und, und, und, und, und, und, und, und, und, und, und, und, und, und, und, und, und, und, und, und, und, und, und, und, und] (X ++ [⟨[], 1, 2⟩]) = lp (aCall T0) K_spec_l01Cur_drawsOf_0 L_spec_l01Cur_drawsOf_0 [.pointer (some ⟨p, 0, none⟩), .int .i64 n, und, und, und, v', und, und, und, und, und, und, und, und, und, und, und, und, und, und, und, und, und, und, und, und, und, und, und, und, und, und, und, und, und, und, und] X1 := by
    by_cases h0 : 0 ≤ n
    · obtain ⟨v', X1, hE, e⟩ := l_spec_l01Cur_drawsOf_0 M0 X p cv B n.toNat hc (by omega) (by omega) h.lt _ _ (cure_nil (t := ty_Int) rfl h)
      exact ⟨v', X1, n.toNat, by omega, by omega, CurE.mono hE (by omega), e n (by omega)⟩
    · exact ⟨_, _, 0, by omega, by omega, CurE.mono (cure_nil (t := ty_Int) rfl h) (by omega), rfl⟩
  obtain ⟨a, rfl⟩ : ∃ a, v' = .slice a K K := by
    obtain ⟨xs, L, g, nd, hf, hn, _⟩ := id hE
    obtain ⟨a, rfl⟩ := g.shape
    exact ⟨a, by rw [hn]⟩
  rw [aCall_eq T_spec_l01Cur_drawsOf]; unfold A_spec_l01Cur_drawsOf C_spec_l01Cur_drawsOf; simp [thenD_pp, sliceCells_sl, sliceCells_z, sliceCells_nil, take_full, appS_sl, appK_ok, appS_none, thenD_ag, agP_nil, agP_cons, zeroCells, e0]
  rw [S_spec_l01Cur_drawsOf_0]; unfold B_spec_l01Cur_drawsOf_0; simp [thenD_pp, sliceCells_sl, sliceCells_z, sliceCells_nil, take_full, appS_sl, appK_ok, appS_none, thenD_ag, agP_nil, agP_cons, hend]
  generalize hx : aCall T0 F_spec_l01Cur_pick _ _ = xhx
  obtain ⟨z, X2, rfl, z0, z1, c2, a2⟩ := p_pick hc (CurE.c hE) (by omega) (by decide) hx
  clear hx
  have hE2 := cure_agree hE c2 a2 h.lt
  by_cases h0 : z = 0
  · simp [thenD_pp, sliceCells_sl, sliceCells_z, sliceCells_nil, take_full, appS_sl, appK_ok, appS_none, thenD_ag, agP_nil, agP_cons, h0]
    generalize hy : appS _ _ _ _ _ _ = xhy
    obtain ⟨l, X5, rfl, h5⟩ := cure_app (bytes := 8) hE2 c2 (ag_refl _ _) h.lt (by omega) (by omega) (gr_Int _ (x := 0) (by unfold inI; omega)) hy
    simp [thenD_pp, sliceCells_sl, sliceCells_z, sliceCells_nil, take_full, appS_sl, appK_ok, appS_none, thenD_ag, agP_nil, agP_cons]
    exact ⟨_, _, ⟨rfl, rfl⟩, CurE.v h5 (by omega) (by omega)⟩
  by_cases h1 : z = 1
  · by_cases hK0 : 0 < K
    · simp [thenD_pp, sliceCells_sl, sliceCells_z, sliceCells_nil, take_full, appS_sl, appK_ok, appS_none, thenD_ag, agP_nil, agP_cons, h0, h1, hK0]
      generalize hx : aCall T0 F_spec_l01Cur_pick _ _ = xhx
      obtain ⟨u, X3, rfl, u0, u1, c3, a3⟩ := p_pick (n := (K : Int)) hc c2 (by omega) (by omega) hx
      clear hx
      obtain ⟨k, rfl⟩ := Int.eq_ofNat_of_zero_le u0
      have hk : k < K := by omega
      simp [thenD_pp, sliceCells_sl, sliceCells_z, sliceCells_nil, take_full, appS_sl, appK_ok, appS_none, thenD_ag, agP_nil, agP_cons]
      generalize hx : aCall T0 F_spec_l01Cur_raw _ _ = xhx
      obtain ⟨r, X4, rfl, r0, c4, a4⟩ := p_raw hc c3 (by omega) hx
      clear hx
      have hE4 := cure_agree hE2 c4 (ag_trans a3 a4) h.lt
      obtain ⟨xs, L, g, nd, hf, hn, _, hag⟩ := id hE4
      obtain ⟨l, cs, L', ev, b1, b2, b4, b5, b6⟩ := g.put (i := k) (by omega) (gr_Int X4 r0) (by simp) nd (by simp)
      rw [hn] at ev
      cases ev
      have b1 : X4[l]? = some ⟨cs, 1, 2⟩ := b1
      have b2 : k + 1 ≤ cs.length := by simpa [Ty.w] using b2
      have e10 : splice cs (k * ty_Int.w) [.int .i64 r] = List.take k cs ++ Value.int .i64 r :: List.drop (k + 1) cs := by simp [splice, Ty.w]
      rw [e10] at b5
      have hpL : p ∉ L := fun hm => by have := hf p hm; have := h.lt; omega
      have hlp : l ≠ p := fun e => hpL (e ▸ b4)
      simp [thenD_pp, sliceCells_sl, sliceCells_z, sliceCells_nil, take_full, appS_sl, appK_ok, appS_none, thenD_ag, agP_nil, agP_cons, hk, b1, b2, wrn_K, wrJ_ok]
      refine ⟨_, _, ⟨rfl, rfl⟩, xs.set k r, L', b5, b6.1, fun j hj => ?_, by simp; omega, ?_, ?_⟩
      · rcases b6.2 j hj with h | h
        · exact hf j h
        · simp at h
      · obtain ⟨q1, q2, a', s', q3, q4, q5, q6⟩ := c4
        have := hf l b4
        have := hag.1
        have := h.lt
        exact ⟨pf_set (by omega) q1, q2, a', s', by rw [gt_set hlp]; exact q3, q4, by omega, q6⟩
      · refine ⟨by rw [List.length_set]; exact hag.1, fun j hj hn2 => ?_⟩
        have := hf l b4
        rw [gt_set (by omega)]
        exact hag.2 j hj hn2
    · simp [thenD_pp, sliceCells_sl, sliceCells_z, sliceCells_nil, take_full, appS_sl, appK_ok, appS_none, thenD_ag, agP_nil, agP_cons, h0, h1, hK0]
      exact ⟨_, _, ⟨rfl, rfl⟩, CurE.v hE2 (by omega) (by omega)⟩
  · simp [thenD_pp, sliceCells_sl, sliceCells_z, sliceCells_nil, take_full, appS_sl, appK_ok, appS_none, thenD_ag, agP_nil, agP_cons, h0, h1]
    exact ⟨_, _, ⟨rfl, rfl⟩, CurE.v hE2 (by omega) (by omega)⟩
theorem p_drawsOf {M0 X : Mem} {p : Nat} {cv : V} {B n : Int} (hc : CurH M0 cv) (h : Cur M0 p cv B X) (hB : B ≤ 500000000000) (hn : n ≤ 100000) {x : Option (V × Mem)} (hx : aCall T0 F_spec_l01Cur_drawsOf [.pointer (some ⟨p, 0, none⟩), .int .i64 n] X = x) :
    ∃ (a : Option Addr) (i : Nat) (X' : Mem), x = some (.slice a i i, X') ∧ i ≤ 100001 ∧ CurE ty_Int M0 p cv (B + 500000) X i (.slice a i i) X' := by
  obtain ⟨v, X', e, hv⟩ := c_spec_l01Cur_drawsOf M0 X p cv B n hc h hB hn
  obtain ⟨i, a, hi, rfl, hE⟩ := CurV.e hv
  exact ⟨a, i, X', hx.symm.trans e, hi, hE⟩
/-- What the draws of a law hand over. -/
theorem c_spec_DrawPathSeq (M : Mem) (cv : V) (code : List UInt8) (h : Rep (.sl ty_Byte) M [cv] code) (hl : code.length ≤ 1048576) :
    ∃ (n l : Int) (a b : Option Addr) (i j : Nat) (X' : Mem), aCall T0 F_spec_DrawPathSeq [cv] M = some (.tuple #[.int .i64 n, .int .i64 l, .slice a i i, .slice b j j], X') ∧ M <+: X' ∧ inI n ∧ inI l ∧ i ≤ 1000 ∧ j ≤ 100001 ∧ RepN ty_Int X' (.slice a i i) i ∧ RepN ty_Int X' (.slice b j j) j := by
  have hc : CurH M cv := ⟨code, h, hl⟩
  obtain ⟨k, k0, k1, e0⟩ := c_spec_l01Open M cv code h
  have c0 := cur_open (M := M) (cv := cv) k0 k1
  rw [aCall_eq T_spec_DrawPathSeq]; unfold A_spec_DrawPathSeq C_spec_DrawPathSeq; simp [thenD_pp, sliceCells_sl, sliceCells_z, sliceCells_nil, take_full, appS_sl, appK_ok, appS_none, thenD_ag, agP_nil, agP_cons, e0]
  generalize hx : aCall T0 F_spec_l01Cur_many _ _ = xhx
  obtain ⟨n, X1, rfl, n0, c1, a1⟩ := p_many hc c0 (by omega) hx
  clear hx
  have n0' := n0
  unfold inI at n0'
  simp [thenD_pp, sliceCells_sl, sliceCells_z, sliceCells_nil, take_full, appS_sl, appK_ok, appS_none, thenD_ag, agP_nil, agP_cons]
  generalize hx : aCall T0 F_spec_l01Cur_badRow _ _ = xhx
  obtain ⟨m, hm⟩ : ∃ m : Int, m = if n < 300 then n else 300 := ⟨_, rfl⟩
  rw [← hm] at hx
  have hm1 : inI m ∧ m ≤ 300 := by unfold inI; rw [hm]; split <;> omega
  obtain ⟨a, i, X2, rfl, hi, hE⟩ := p_badRow hc c1 (by omega) (by omega) hm1.1 (by decide) (by decide) hx
  clear hx
  simp [thenD_pp, sliceCells_sl, sliceCells_z, sliceCells_nil, take_full, appS_sl, appK_ok, appS_none, thenD_ag, agP_nil, agP_cons]
  generalize hx : aCall T0 F_spec_l01Cur_log _ _ = xhx
  obtain ⟨l, X3, rfl, l0, c3, a3⟩ := p_log hc (CurE.c hE) (by omega) hx
  clear hx
  have hE3 := cure_agree hE c3 a3 c1.lt
  obtain ⟨q, hq⟩ : ∃ q : Int, q = (if (if 0 < n then n else 0) < 300 then (if 0 < n then n else 0) else 300) := ⟨_, rfl⟩
  have hq1 : 0 ≤ q ∧ q ≤ 300 := by rw [hq]; split <;> split <;> omega
  have w : IntKind.i64.wrap (q + (i : Int)) = q + i := wrap_i64 (by omega) (by omega)
  rw [hq] at w
  simp [thenD_pp, sliceCells_sl, sliceCells_z, sliceCells_nil, take_full, appS_sl, appK_ok, appS_none, thenD_ag, agP_nil, agP_cons, w]
  rw [← hq]
  generalize hx : aCall T0 F_spec_l01Cur_drawsOf _ _ = xhx
  obtain ⟨b, j, X4, rfl, hj, hD⟩ := p_drawsOf (n := q + i) hc c3 (by omega) (by omega) hx
  clear hx
  have hE4 := cure_agree hE3 (CurE.c hD) (CurE.ag hD) c1.lt
  simp [thenD_pp, sliceCells_sl, sliceCells_z, sliceCells_nil, take_full, appS_sl, appK_ok, appS_none, thenD_ag, agP_nil, agP_cons]
  refine ⟨n, l, a, b, i, j, _, ⟨⟨rfl, rfl, ⟨rfl, rfl⟩, rfl, rfl⟩, rfl⟩, (CurE.c hD).1, n0, l0, hi, hj, CurE.rep hE4, CurE.rep hD⟩
theorem c_laws_big (M : Mem) (a : Option Addr) (n c : Nat) : aCall T0 F_laws_big [.slice a n c] M = some (.bool (decide (1048576 < n)), M) := by
  by_cases h : 1048576 < n
  · have h' : (1048576 : Int) < n := by omega
    rw [decide_eq_true h]
    rw [aCall_eq T_laws_big]; unfold A_laws_big C_laws_big; simp [thenD_pp, sliceCells_sl, sliceCells_z, sliceCells_nil, take_full, appS_sl, appK_ok, appS_none, thenD_ag, agP_nil, agP_cons, h']
  · have h' : ¬ (1048576 : Int) < n := by omega
    rw [decide_eq_false h]
    rw [aCall_eq T_laws_big]; unfold A_laws_big C_laws_big; simp [thenD_pp, sliceCells_sl, sliceCells_z, sliceCells_nil, take_full, appS_sl, appK_ok, appS_none, thenD_ag, agP_nil, agP_cons, h']
theorem c_laws_counts (M : Mem) (v : V) (xs : List Int) (x : Int) (h : Rep (.sl ty_Int) M [v] xs) (hn : xs.length ≤ 1048576) : aCall T0 F_laws_counts [v, .int .i64 x] M = some (.int .i64 (xs.count x), M) := by
  obtain ⟨a, c, rfl⟩ := h.slen
  have hc : ∀ i, i ≤ xs.length → (xs.take i).count x ≤ 1048576 := fun i hi => by
    have := List.count_le_length (a := x) (l := xs.take i)
    rw [List.length_take] at this
    omega
  have hl := chain (g := fun i => lp (aCall T0) K_laws_counts_0 L_laws_counts_0 [.slice a xs.length c, .int .i64 x, und, und, und, .int .i64 ((xs.take i).count x : Nat), .int .i64 i, und, und, und, und, und, und, und, und, und, und, und, und, und, und, und] M) (n := xs.length) fun i hi => by
    have e6 : IntKind.i64.wrap ((i : Int) + 1) = i + 1 := wrap_i64 (by omega) (by omega)
    have h1 := hc i (by omega)
    have e7 : IntKind.i64.wrap (((xs.take i).count x : Nat) + 1 : Int) = ((xs.take i).count x : Nat) + 1 := wrap_i64 (by omega) (by omega)
    obtain ⟨l, o, rfl, _, q⟩ := at_Int h hi
    have es : (xs.take (i + 1)).count x = (xs.take i).count x + if xs[i] = x then 1 else 0 := by
      rw [List.take_succ_eq_append_getElem hi, List.count_append, List.count_singleton]
      congr 1
      by_cases hh : xs[i] = x
      · simp [hh]
      · simp [hh]
    rw [es]
    generalize (xs.take i).count x = k at e7
    by_cases hx : xs[i] = x
    · rw [if_pos hx]
      rw [hx] at q
      rw [S_laws_counts_0]; unfold B_laws_counts_0; simp [thenD_pp, sliceCells_sl, sliceCells_z, sliceCells_nil, take_full, appS_sl, appK_ok, appS_none, thenD_ag, agP_nil, agP_cons, hi, q, e6, e7]
    · rw [if_neg hx]
      rw [S_laws_counts_0]; unfold B_laws_counts_0; simp [thenD_pp, sliceCells_sl, sliceCells_z, sliceCells_nil, take_full, appS_sl, appK_ok, appS_none, thenD_ag, agP_nil, agP_cons, hi, q, hx, e6, e7]
  simp only [List.take_length, List.take_zero, List.count_nil, Int.natCast_zero, Int.ofNat_zero] at hl
  rw [aCall_eq T_laws_counts]; unfold A_laws_counts C_laws_counts; simp [thenD_pp, sliceCells_sl, sliceCells_z, sliceCells_nil, take_full, appS_sl, appK_ok, appS_none, thenD_ag, agP_nil, agP_cons, hl]
  rw [S_laws_counts_0]; unfold B_laws_counts_0; simp [thenD_pp, sliceCells_sl, sliceCells_z, sliceCells_nil, take_full, appS_sl, appK_ok, appS_none, thenD_ag, agP_nil, agP_cons]
theorem lastAt_spec (n : Int) (xs : List Int) (x : Int) : ∀ j, (∃ i, i < j ∧ xs[i]? = some x ∧ (∀ t, i < t → t < j → xs[t]? ≠ some x) ∧ lastAt n xs x j = n + i) ∨ ((∀ t, t < j → xs[t]? ≠ some x) ∧ lastAt n xs x j = x)
  | 0 => .inr ⟨fun t ht => by omega, rfl⟩
  | j + 1 => by
    by_cases h : xs[j]? = some x
    · left
      refine ⟨j, by omega, h, fun t h1 h2 => by omega, ?_⟩
      unfold lastAt
      rw [if_pos h]
    · have e : lastAt n xs x (j + 1) = lastAt n xs x j := by
        rw [lastAt, if_neg h]
      rw [e]
      rcases lastAt_spec n xs x j with ⟨i, h1, h2, h3, h4⟩ | ⟨h1, h2⟩
      · left
        refine ⟨i, by omega, h2, fun t q1 q2 => ?_, h4⟩
        by_cases q : t = j
        · subst q; exact h
        · exact h3 t q1 (by omega)
      · right
        refine ⟨fun t q => ?_, h2⟩
        by_cases q2 : t = j
        · subst q2; exact h
        · exact h1 t (by omega)
theorem coord_inj {n : Nat} {xs : List Int} (hs : ∀ i (hi : i < xs.length), xs[i] < (n : Int)) {i j : Nat} (hij : i < j) (hj : j < xs.length) : coordI n xs i ≠ coordI n xs j := by
  have hi : i < xs.length := by omega
  have h1 := hs i hi
  have h2 := hs j hj
  have ei : coordI n xs i = if xs[i] < 0 then (n : Int) + i else lastAt n xs xs[i] i := by unfold coordI; rw [List.getElem?_eq_getElem hi]
  have ej : coordI n xs j = if xs[j] < 0 then (n : Int) + j else lastAt n xs xs[j] j := by unfold coordI; rw [List.getElem?_eq_getElem hj]
  have gi : xs[i]? = some xs[i] := List.getElem?_eq_getElem hi
  rw [ei, ej]
  by_cases hj0 : xs[j] < 0
  · rw [if_pos hj0]
    split
    · omega
    · have := lastAt_lt (n := (n : Int)) (xs := xs) (x := xs[i]) (by omega) i
      omega
  · rw [if_neg hj0]
    rcases lastAt_spec n xs xs[j] j with ⟨j', q1, q2, q3, q4⟩ | ⟨q1, q2⟩
    · rw [q4]
      split
      · rename_i hi0
        intro e
        have : i = j' := by omega
        subst this
        rw [gi] at q2
        have := Option.some.inj q2
        omega
      · rename_i hi0
        rcases lastAt_spec n xs xs[i] i with ⟨i', p1, p2, p3, p4⟩ | ⟨p1, p2⟩
        · rw [p4]
          intro e
          have : i' = j' := by omega
          subst this
          rw [p2] at q2
          have e2 : xs[i] = xs[j] := Option.some.inj q2
          exact q3 i (by omega) hij (by rw [gi, e2])
        · rw [p2]; omega
    · rw [q2]
      split
      · omega
      · rename_i hi0
        rcases lastAt_spec n xs xs[i] i with ⟨i', p1, p2, p3, p4⟩ | ⟨p1, p2⟩
        · rw [p4]; omega
        · rw [p2]
          intro e
          exact q1 i hij (by rw [gi, e])
theorem cnt_one {x : Int} : ∀ {l : List Int}, l.Nodup → x ∈ l → l.count x = 1
  | [], _, h => by simp at h
  | y :: l, nd, h => by
    obtain ⟨h1, h2⟩ := List.nodup_cons.1 nd
    rw [List.count_cons]
    by_cases hy : y = x
    · subst hy
      rw [List.count_eq_zero.2 h1]
      simp
    · have hm : x ∈ l := by
        rcases List.mem_cons.1 h with h | h
        · exact absurd h.symm hy
        · exact h
      rw [cnt_one h2 hm]
      simp [hy]
theorem coord_count {n : Int} {xs : List Int} (hn : 0 ≤ n) (hs : ∀ i (hi : i < xs.length), xs[i] < n) {i : Nat} (hi : i < xs.length) : (coordsI n xs).count (coordI n xs i) = 1 := by
  obtain ⟨m, rfl⟩ := Int.eq_ofNat_of_zero_le hn
  have nd : (coordsI m xs).Nodup := by
    unfold coordsI
    refine List.pairwise_iff_getElem.2 fun a b ha hb hab e => ?_
    simp only [List.getElem_map, List.getElem_range] at e
    simp at ha hb
    exact coord_inj hs hab hb e
  have hm : coordI m xs i ∈ coordsI m xs := List.mem_map.2 ⟨i, List.mem_range.2 hi, rfl⟩
  exact cnt_one nd hm
set_option maxHeartbeats 4000000 in
set_option maxRecDepth 20000 in
theorem law_laws_FnCoords (M : Mem) (avs : List V) (_ : ∀ b ∈ M, b.st ≠ 2) (h : Ins [(false, (.sl .u8))] M avs) : ∃ M', aCall T0 F_laws_FnCoords avs M = some (.bool true, M') := by
  obtain ⟨v, _, code, rfl, h1, f1, h⟩ := ins_cons h
  obtain rfl := ins_nil h
  have hr := repv_one h1
  obtain ⟨a0, c0, rfl⟩ := hr.slen
  have hb := c_laws_big M a0 code.length c0
  by_cases hg : 1048576 < code.length
  · rw [decide_eq_true hg] at hb
    refine ⟨M, ?_⟩
    rw [aCall_eq T_laws_FnCoords]; unfold A_laws_FnCoords C_laws_FnCoords; simp [thenD_pp, sliceCells_sl, sliceCells_z, sliceCells_nil, take_full, appS_sl, appK_ok, appS_none, thenD_ag, agP_nil, agP_cons, hb]
  rw [decide_eq_false hg] at hb
  obtain ⟨n, l, a, b, i, j, X1, e1, p1, hn, hl, hi, hj, hri, hrd⟩ := c_spec_DrawPathSeq M _ code hr (by omega)
  obtain ⟨ids, r1, l1⟩ : ∃ ids : List Int, Rep (.sl ty_Int) X1 [.slice a i i] ids ∧ ids.length = i := hri
  obtain ⟨ds, r2, l2⟩ : ∃ ds : List Int, Rep (.sl ty_Int) X1 [.slice b j j] ds ∧ ds.length = j := hrd
  subst l1 l2
  obtain ⟨X2, u2, p2, e2, r3⟩ := d_spec_PathSeq X1 n l _ ids r1 (by omega) _ ds r2 (by omega)
  obtain ⟨X3, u3, L3, p3, e3, o3, _⟩ := d_impl_PathSeq X2 n l _ ids (r1.mono p2) (by omega) _ ds (r2.mono p2) (by omega)
  have r3' := o3.rep
  cases hok : pathOk n l ids ds with
  | false =>
    rw [hok] at e2 e3
    rw [aCall_eq T_laws_FnCoords]; unfold A_laws_FnCoords C_laws_FnCoords; simp [thenD_pp, sliceCells_sl, sliceCells_z, sliceCells_nil, take_full, appS_sl, appK_ok, appS_none, thenD_ag, agP_nil, agP_cons, hb, e1, e2, e3]
    exact gc_ex _ _ _
  | true =>
  rw [hok] at e2 e3
  obtain ⟨N4, u4, L4, e4, o4, _⟩ := c_impl_Coords X3 n _ ids (r1.mono (p2.trans p3)) (by omega)
  have r4 := o4.rep
  have hq := hok
  unfold pathOk at hq
  simp only [Bool.and_eq_true] at hq
  obtain ⟨hs, hlg, hd⟩ := hq
  rw [hs] at e4
  unfold wsI at r4
  rw [if_pos hs] at r4
  unfold pathR at r3'
  rw [if_pos hok] at r3'
  unfold seqB at hs
  simp only [Bool.and_eq_true, decide_eq_true_eq, List.all_eq_true, idB] at hs
  obtain ⟨⟨hn0, hn1⟩, hln, hall⟩ := hs
  have hlt : ∀ i (hi : i < ids.length), ids[i] < n := fun i hi => by
    have := (hall _ (List.getElem_mem hi)).2
    omega
  unfold drsB at hd
  simp only [Bool.and_eq_true, decide_eq_true_eq] at hd
  have hcl : (coordsI n ids).length = ids.length := by simp [coordsI]
  have hpl : (pathsI n l ids ds).length = ids.length := by simp [pathsI]
  have r3X := r3'.mono (List.prefix_append X3 N4)
  have r2X := r2.mono ((p2.trans p3).trans (List.prefix_append X3 N4))
  obtain ⟨a3, c3, rfl⟩ := r3'.slen
  obtain ⟨a4, c4, rfl⟩ := r4.slen
  rw [hcl] at r4 e4
  rw [hpl] at r3X e3
  have hlq : ∀ k : Int, k = ids.length → lp (aCall T0) K_laws_FnCoords_0 L_laws_FnCoords_0 [und, und, und, und, .int .i64 l, und, .slice b ds.length ds.length, und, und, .slice a3 ids.length c3, und, .slice a4 ids.length c4, und, .int .i64 (0 : Nat), und, und, und, und, und, und, und, und, und, und, und, und, und, und, und, und, und, und, und, und, und, und, und, und, und, und, und, und, und, und, und, und, und, und, und, und, und, und, und, und, und, und, und, und, und, und, und, und, und, und, und, und, und, und, und, und, und, und, und, und, und, und, und, und, und, und, und, und, und, und, und, und, und, und, und, und, und, und, und, und, und, und, und, und, und, und, und, und, und, und, und, und, und, und, und, und, und, und, und, und, und, und] (X3 ++ N4) = lp (aCall T0) K_laws_FnCoords_0 L_laws_FnCoords_0 [und, und, und, und, .int .i64 l, und, .slice b ds.length ds.length, und, und, .slice a3 ids.length c3, und, .slice a4 ids.length c4, und, .int .i64 k, und, und, und, und, und, und, und, und, und, und, und, und, und, und, und, und, und, und, und, und, und, und, und, und, und, und, und, und, und, und, und, und, und, und, und, und, und, und, und, und, und, und, und, und, und, und, und, und, und, und, und, und, und, und, und, und, und, und, und, und, und, und, und, und, und, und, und, und, und, und, und, und, und, und, und, und, und, und, und, und, und, und, und, und, und, und, und, und, und, und, und, und, und, und, und, und, und, und, und, und, und, und] (X3 ++ N4) := by
    rintro k rfl
    exact chain (g := fun i => lp (aCall T0) K_laws_FnCoords_0 L_laws_FnCoords_0 [und, und, und, und, .int .i64 l, und, .slice b ds.length ds.length, und, und, .slice a3 ids.length c3, und, .slice a4 ids.length c4, und, .int .i64 i, und, und, und, und, und, und, und, und, und, und, und, und, und, und, und, und, und, und, und, und, und, und, und, und, und, und, und, und, und, und, und, und, und, und, und, und, und, und, und, und, und, und, und, und, und, und, und, und, und, und, und, und, und, und, und, und, und, und, und, und, und, und, und, und, und, und, und, und, und, und, und, und, und, und, und, und, und, und, und, und, und, und, und, und, und, und, und, und, und, und, und, und, und, und, und, und, und, und, und, und, und, und] (X3 ++ N4)) (n := ids.length) fun i hi => by
      have e6 : IntKind.i64.wrap ((i : Int) + 1) = i + 1 := wrap_i64 (by omega) (by omega)
      have hc := coordI_lt hn0 hlt hi
      obtain ⟨k, hk⟩ := Int.eq_ofNat_of_zero_le hc.1
      have hkd : k < ds.length := by omega
      have hk0 : ¬ ((k : Int) < 0) := by omega
      have hkd' : ¬ ((ds.length : Int) ≤ k) := by omega
      obtain ⟨q0, o0, rfl, _, rd0⟩ := at_Int r4 (i := i) (by omega)
      obtain ⟨q1, o1, rfl, _, rd1'⟩ := at_Int r3X (i := i) (by omega)
      obtain ⟨q2, o2, rfl, _, rd2⟩ := at_Int r2X (i := k) hkd
      have g0 : (coordsI n ids)[i]'(by omega) = k := by simp [coordsI, hk]
      have g1 : (pathsI n l ids ds)[i]'(by omega) = leafI ds[k] l := by
        simp only [pathsI, List.getElem_map, List.getElem_range, pathI, hk, drawAt]
        simp [hkd]
      rw [g0] at rd0
      rw [g1] at rd1'
      have hct := c_laws_counts (X3 ++ N4) _ (coordsI n ids) k r4 (by omega)
      have h1 : (coordsI n ids).count (k : Int) = 1 := by rw [← hk]; exact coord_count hn0 hlt hi
      rw [h1] at hct
      have hlf := c_impl_LeafOf (X3 ++ N4) ds[k] l
      rw [S_laws_FnCoords_0]; unfold B_laws_FnCoords_0; simp [thenD_pp, sliceCells_sl, sliceCells_z, sliceCells_nil, take_full, appS_sl, appK_ok, appS_none, thenD_ag, agP_nil, agP_cons, hi, rd0, rd1', rd2, hct, hlf, hk0, hkd, hkd', e6]
  have hlq := hlq _ rfl
  simp only [Int.natCast_zero, Int.ofNat_zero] at hlq
  rw [aCall_eq T_laws_FnCoords]; unfold A_laws_FnCoords C_laws_FnCoords; simp [thenD_pp, sliceCells_sl, sliceCells_z, sliceCells_nil, take_full, appS_sl, appK_ok, appS_none, thenD_ag, agP_nil, agP_cons, hb, e1, e2, e3, e4, hlq]
  rw [S_laws_FnCoords_0]; unfold B_laws_FnCoords_0; simp [thenD_pp, sliceCells_sl, sliceCells_z, sliceCells_nil, take_full, appS_sl, appK_ok, appS_none, thenD_ag, agP_nil, agP_cons]
  exact gc_ex _ _ _
end GoAm
