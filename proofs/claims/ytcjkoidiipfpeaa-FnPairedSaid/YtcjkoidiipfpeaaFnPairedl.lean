/- What the functions do that the law reaches; and the law. -/
import Derived.Test.YtcjkoidiipfpeaaFnPairedt
import Derived.Test.YtcjkoidiipfpeaaAmGr
set_option autoImplicit false
set_option linter.unusedVariables false
set_option linter.unusedSimpArgs false
namespace GoAm
open Go
abbrev ty_Int : Ty := .int .i64
theorem gc_ex (M M' : Mem) (v : V) : ∃ X, gc M (some (v, M')) = some (v, X) := by
  simp only [gc]
  split
  · exact ⟨_, rfl⟩
  · exact ⟨_, rfl⟩
def lastAt (n : Int) (xs : List Int) (x : Int) : Nat → Int
  | 0 => x
  | j + 1 => if xs[j]? = some x then n + j else lastAt n xs x j
def coordI (n : Int) (xs : List Int) (i : Nat) : Int := match xs[i]? with
  | some x => if x < 0 then n + i else lastAt n xs x i
  | none => 0
def drB (x : Int) : Bool := decide (0 ≤ x) && decide (x ≤ 65535)
def leafI (d l : Int) : Int := if drB d = true ∧ (0 ≤ l ∧ l ≤ 6) then ((d.toNat % 2 ^ l.toNat : Nat) : Int) else -1
def drawAt (ds : List Int) (z : Int) : Int := (ds[z.toNat]?).getD 0
def pathI (n : Int) (l : Int) (ids ds : List Int) (i : Nat) : Int := leafI (drawAt ds (coordI n ids i)) l
def pathsI (n l : Int) (ids ds : List Int) : List Int := (List.range ids.length).map (pathI n l ids ds)
def idB (n : Int) (x : Int) : Bool := decide (-1 ≤ x) && decide (x ≤ n - 1)
def seqB (n : Int) (xs : List Int) : Bool := (decide (0 ≤ n) && decide (n ≤ 256)) && (decide ((xs.length : Int) ≤ 700) && xs.all (idB n))
def drsB (k : Int) (ds : List Int) : Bool := decide ((ds.length : Int) = k) && ds.all drB
def logB (l : Int) : Bool := decide (0 ≤ l) && decide (l ≤ 6)
def pathOk (n l : Int) (ids ds : List Int) : Bool := seqB n ids && (logB l && drsB (n + ids.length) ds)
def pathR (n l : Int) (ids ds : List Int) : List Int := if pathOk n l ids ds = true then pathsI n l ids ds else []
theorem c_impl_within (M : Mem) (x a b : Int) : aCall T0 F_impl_within [.int .i64 x, .int .i64 a, .int .i64 b] M = some (.bool (decide (a ≤ x) && decide (x ≤ b)), M) := by
  rw [aCall_eq T_impl_within]; unfold A_impl_within C_impl_within; simp
  repeat' ((first | rw [selO_some] | rw [condR_bool] | rw [selD_some]); split <;> rename_i hq <;> (have hq2 := hq) <;> (try simp at hq2) <;> (try simp [*]))
theorem c_impl_isLog (M : Mem) (x : Int) : aCall T0 F_impl_isLog [.int .i64 x] M = some (.bool (decide (0 ≤ x) && decide (x ≤ 6)), M) := by
  rw [aCall_eq T_impl_isLog]; unfold A_impl_isLog C_impl_isLog; simp [c_impl_within]
def mixC (f g : Nat → Int) (n i : Nat) : List V := (List.range n).map fun j => .int .i64 (if j < i then f j else g j)
theorem mixC_zero (f g : Nat → Int) (n : Nat) : mixC f g n 0 = (List.range n).map fun j => .int .i64 (g j) := by simp [mixC]
theorem mixC_full (f g : Nat → Int) (n : Nat) : mixC f g n n = (List.range n).map fun j => .int .i64 (f j) := by
  unfold mixC
  apply List.map_congr_left
  intro j hj
  rw [if_pos (by simpa using hj)]
abbrev enc_Int (x : ty_Int.D) : List V := [.int .i64 x]
theorem at_Int {M : Mem} {a : Option Addr} {n c : Nat} {xs : List ty_Int.D} (h : Rep (.sl ty_Int) M [.slice a n c] xs) {i : Nat} (hi : i < xs.length) : ∃ l o, a = some ⟨l, o, none⟩ ∧ Rep ty_Int M (enc_Int xs[i]) xs[i] ∧ rd1 M l (o + i) = some (.int .i64 xs[i]) := by
  obtain ⟨_, l, o, rfl, cs, hrd, hrep⟩ := rep_at h hi
  have hcs : cs = enc_Int xs[i] := hrep.1
  subst hcs
  have hw1 : ty_Int.w = 1 := rfl
  rw [hw1, Nat.mul_one] at hrd
  exact ⟨l, o, rfl, hrep, rd1_of_one hrd⟩
theorem r_idx_Int (M : Mem) (a : Option Addr) (c : Nat) (xs : List ty_Int.D) (h : Rep (.sl ty_Int) M [.slice a xs.length c] xs) (hn : xs.length ≤ 9223372036854775807) (f : FuncId) (cap : List V) (p : Int → Bool)
    (hp : ∀ i (hi : i < xs.length), aCall T0 f (.int .i64 xs[i] :: cap) M = some (.bool (p xs[i]), M)) (i : Nat) (hi : i < xs.length) (hq : p xs[i] = false) :
    lp (aCall T0) K_slices_IndexFunc_int_int_0 L_slices_IndexFunc_int_int_0 [.slice a xs.length c, .func (.func f) #[] cap.toArray, und, und, und, und, und, .int .i64 xs.length, .int .i64 i, und, und, und, und, und, und, und, und, und, und] M =
    lp (aCall T0) K_slices_IndexFunc_int_int_0 L_slices_IndexFunc_int_int_0 [.slice a xs.length c, .func (.func f) #[] cap.toArray, und, und, und, und, und, .int .i64 xs.length, .int .i64 (i + 1 : Nat), und, und, und, und, und, und, und, und, und, und] M := by
  obtain ⟨l, o, rfl, hrep, hrd⟩ := at_Int h hi
  have ec := hp i hi
  have e6 : IntKind.i64.wrap ((i : Int) + 1) = i + 1 := wrap_i64 (by omega) (by omega)
  rw [S_slices_IndexFunc_int_int_0]; unfold B_slices_IndexFunc_int_int_0; simp [hrd, ec, e6, hi, hq]
theorem x_idx_Int (M : Mem) (a : Option Addr) (c : Nat) (xs : List ty_Int.D) (h : Rep (.sl ty_Int) M [.slice a xs.length c] xs) (f : FuncId) (cap : List V) (p : Int → Bool)
    (hp : ∀ i (hi : i < xs.length), aCall T0 f (.int .i64 xs[i] :: cap) M = some (.bool (p xs[i]), M)) (i : Nat) (hi : i < xs.length) (hq : p xs[i] = true) (k : ACode) :
    thenF M [.tmp 4] (thenS (blockR 0 (lp (aCall T0) K_slices_IndexFunc_int_int_0 L_slices_IndexFunc_int_int_0 [.slice a xs.length c, .func (.func f) #[] cap.toArray, und, und, und, und, und, .int .i64 xs.length, .int .i64 i, und, und, und, und, und, und, und, und, und, und] M)) (aCall T0) k) = some (.int .i64 i, M) := by
  obtain ⟨l, o, rfl, hrep, hrd⟩ := at_Int h hi
  have ec := hp i hi
  rw [S_slices_IndexFunc_int_int_0]; unfold B_slices_IndexFunc_int_int_0; simp [hrd, ec, hi, hq]
theorem c_idx_Int (M : Mem) (v : V) (xs : List ty_Int.D) (h : Rep (.sl ty_Int) M [v] xs) (hn : xs.length ≤ 9223372036854775807) (f : FuncId) (cap : List V) (p : Int → Bool)
    (hp : ∀ i (hi : i < xs.length), aCall T0 f (.int .i64 xs[i] :: cap) M = some (.bool (p xs[i]), M)) :
    aCall T0 F_slices_IndexFunc_int_int [v, .func (.func f) #[] cap.toArray] M = some (.int .i64 (idx p xs), M) := by
  obtain ⟨a, c, rfl⟩ := h.slen
  rcases idx_cases p xs with ⟨ha, h1⟩ | ⟨j, hj, ha, h1, h2⟩
  · have hc := chain (g := fun i : Nat => lp (aCall T0) K_slices_IndexFunc_int_int_0 L_slices_IndexFunc_int_int_0 [.slice a xs.length c, .func (.func f) #[] cap.toArray, und, und, und, und, und, .int .i64 xs.length, .int .i64 i, und, und, und, und, und, und, und, und, und, und] M) (n := xs.length) fun i hi => r_idx_Int M a c xs h hn f cap p hp i hi (h1 i hi)
    simp only [Int.natCast_zero, Int.ofNat_zero] at hc
    rw [ha]
    rw [aCall_eq T_slices_IndexFunc_int_int]; unfold A_slices_IndexFunc_int_int C_slices_IndexFunc_int_int; simp [hc]
    rw [S_slices_IndexFunc_int_int_0]; unfold B_slices_IndexFunc_int_int_0; simp
  · have hc := chain (g := fun i : Nat => lp (aCall T0) K_slices_IndexFunc_int_int_0 L_slices_IndexFunc_int_int_0 [.slice a xs.length c, .func (.func f) #[] cap.toArray, und, und, und, und, und, .int .i64 xs.length, .int .i64 i, und, und, und, und, und, und, und, und, und, und] M) (n := j) fun i hi => r_idx_Int M a c xs h hn f cap p hp i (by omega) (h1 i (by omega) hi)
    simp only [Int.natCast_zero, Int.ofNat_zero] at hc
    rw [ha]
    rw [aCall_eq T_slices_IndexFunc_int_int]; unfold A_slices_IndexFunc_int_int C_slices_IndexFunc_int_int; simp [hc, x_idx_Int M a c xs h f cap p hp j hj h2]
theorem c_any_Int (M : Mem) (v : V) (xs : List ty_Int.D) (h : Rep (.sl ty_Int) M [v] xs) (hn : xs.length ≤ 9223372036854775807) (f : FuncId) (cap : List V) (p : Int → Bool)
    (hp : ∀ i (hi : i < xs.length), aCall T0 f (.int .i64 xs[i] :: cap) M = some (.bool (p xs[i]), M)) :
    aCall T0 F_slices_ContainsFunc_int_int [v, .func (.func f) #[] cap.toArray] M = some (.bool (xs.any p), M) := by
  have h1 := c_idx_Int M v xs h hn f cap p hp
  have h2 := idx_any p xs
  rw [← h2]
  rw [aCall_eq T_slices_ContainsFunc_int_int]; unfold A_slices_ContainsFunc_int_int C_slices_ContainsFunc_int_int; simp [h1]
theorem c_impl_isSeq_1 (M : Mem) (x : Int) (p : Nat) (n : Int) (hn : 0 ≤ n ∧ n ≤ 256) (hp : rd1 M p 0 = some (.int .i64 n)) : aCall T0 F_impl_isSeq_1 [.int .i64 x, .pointer (some ⟨p, 0, none⟩)] M = some (.bool (!idB n x), M) := by
  have e : IntKind.i64.wrap (n - 1) = n - 1 := wrap_i64 (by omega) (by omega)
  unfold idB
  rw [aCall_eq T_impl_isSeq_1]; unfold A_impl_isSeq_1 C_impl_isSeq_1; simp [hp, c_impl_within, e]
theorem c_impl_isSeq (M : Mem) (n : Int) (v : V) (xs : List ty_Int.D) (h : Rep (.sl ty_Int) M [v] xs) (hl : xs.length ≤ 9223372036854775807) : aCall T0 F_impl_isSeq [.int .i64 n, v] M = some (.bool (seqB n xs), M) := by
  unfold seqB
  cases hb : (decide (0 ≤ n) && decide (n ≤ 256)) with
  | false => rw [aCall_eq T_impl_isSeq]; unfold A_impl_isSeq C_impl_isSeq; simp [c_impl_within, hb]
  | true =>
    have hn : 0 ≤ n ∧ n ≤ 256 := by simpa using hb
    have e : aCall T0 F_slices_ContainsFunc_int_int [v, .func (.func F_impl_isSeq_1) #[] #[.pointer (some ⟨M.length, 0, none⟩)]] (M ++ [⟨[.int .i64 n], 1, 2⟩]) = _ :=
      c_any_Int _ v xs (h.mono (List.prefix_append _ _)) hl F_impl_isSeq_1 [.pointer (some ⟨M.length, 0, none⟩)] (fun x => !idB n x) (fun i hi => c_impl_isSeq_1 _ xs[i] M.length n hn (by simp))
    obtain ⟨a, c, rfl⟩ := h.slen
    have e2 : xs.all (idB n) = !xs.any (fun x => !idB n x) := by simp [List.any_eq_not_all_not]
    rw [e2]
    by_cases h7 : (xs.length : Int) ≤ 700
    · rw [aCall_eq T_impl_isSeq]; unfold A_impl_isSeq C_impl_isSeq; simp [c_impl_within, hb, h7, e]
    · rw [aCall_eq T_impl_isSeq]; unfold A_impl_isSeq C_impl_isSeq; simp [c_impl_within, hb, h7]
def ownC (n : Nat) (xs : List Int) (i : Nat) : List V := (List.range n).map fun (d : Nat) => .int .i64 (lastAt n xs d i)
def hs (h : Nat) (b : UInt8) : Nat := ((h ^^^ b.toNat) * 16777619) % 4294967296
/-- A slice of cells that is filled from the left. -/
def fillC (f : Nat → Int) (n i : Nat) : List V := ((List.range i).map fun j => .int .i64 (f j)) ++ zc (.int .i64 0) (n - i)
theorem fillC_zero (f : Nat → Int) (n : Nat) : fillC f n 0 = zc (.int .i64 0) n := by simp [fillC]
theorem fillC_full (f : Nat → Int) (n : Nat) : fillC f n n = (List.range n).map fun j => .int .i64 (f j) := by simp [fillC]
theorem fillC_len (f : Nat → Int) (n i : Nat) (h : i ≤ n) : (fillC f n i).length = n := by simp [fillC]; omega
theorem fillC_set (f : Nat → Int) (n i : Nat) (h : i < n) : splice (fillC f n i) i [.int .i64 (f i)] = fillC f n (i + 1) := by
  rw [splice_one (by rw [fillC_len f n i (by omega)]; exact h)]
  unfold fillC
  have e : n - i = (n - (i + 1)) + 1 := by omega
  rw [List.set_append_right _ _ (by simp), e]
  have e1 : i - ((List.range i).map fun j => Value.int .i64 (f j)).length = 0 := by simp
  rw [e1, zc_set, List.range_succ]
  simp
theorem r_impl_coords_0 (M : Mem) (n : Nat) (v : V) (hn : n ≤ 256) (i : Nat) (hi : i < n) :
    lp (aCall T0) K_impl_coords_0 L_impl_coords_0 [.int .i64 n, v, und, und, und, .slice (some ⟨M.length, 0, none⟩) n n, und, und, und, und, und, und, und, .int .i64 n, .int .i64 i, und, und, und, und, und, und, und, und, und, und, und, und, und, und, und, und, und, und, und, und, und, und, und, und, und, und, und, und, und, und, und, und, und, und, und, und, und, und, und, und] (M ++ [⟨fillC (fun d => d) n i, 1, 2⟩]) =
    lp (aCall T0) K_impl_coords_0 L_impl_coords_0 [.int .i64 n, v, und, und, und, .slice (some ⟨M.length, 0, none⟩) n n, und, und, und, und, und, und, und, .int .i64 n, .int .i64 (i + 1 : Nat), und, und, und, und, und, und, und, und, und, und, und, und, und, und, und, und, und, und, und, und, und, und, und, und, und, und, und, und, und, und, und, und, und, und, und, und, und, und, und, und] (M ++ [⟨fillC (fun d => d) n (i + 1), 1, 2⟩]) := by
  have e2 := fillC_len (fun d => d) n i (by omega)
  have e3 := fillC_set (fun d => d) n i hi
  have e5 : i + 1 ≤ n := by omega
  have e6 : IntKind.i64.wrap ((i : Int) + 1) = i + 1 := wrap_i64 (by omega) (by omega)
  unfold splice at e3
  simp at e3
  rw [S_impl_coords_0]; unfold B_impl_coords_0; simp [e2, e3, e5, e6, hi]
theorem ownC_len (n : Nat) (xs : List Int) (i : Nat) : (ownC n xs i).length = n := by simp [ownC]
theorem ownC_get (n : Nat) (xs : List Int) (i d : Nat) (h : d < n) : (ownC n xs i)[d]? = some (.int .i64 (lastAt n xs d i)) := by simp [ownC, h]
theorem lastAt_next (n : Int) (xs : List Int) (i : Nat) (x d : Int) (hx : xs[i]? = some x) : lastAt n xs d (i + 1) = if d = x then n + i else lastAt n xs d i := by
  rw [lastAt, hx]
  by_cases h : d = x
  · subst h; simp
  · rw [if_neg h, if_neg (fun e => h (by simpa using e.symm))]
theorem ownC_set (n : Nat) (xs : List Int) (i d : Nat) (h : d < n) (hx : xs[i]? = some (d : Int)) : splice (ownC n xs i) d [.int .i64 (n + i)] = ownC n xs (i + 1) := by
  rw [splice_one (by rw [ownC_len]; exact h)]
  apply List.ext_getElem?
  intro j
  rw [List.getElem?_set]
  by_cases hj : j < n
  · rw [ownC_get n xs (i + 1) j hj, lastAt_next n xs i d j hx]
    by_cases e : d = j
    · subst e; simp [ownC_len, h]
    · rw [if_neg e, ownC_get n xs i j hj, if_neg (by omega)]
  · rw [if_neg (by omega), List.getElem?_eq_none (by rw [ownC_len]; omega), List.getElem?_eq_none (by rw [ownC_len]; omega)]
theorem ownC_same (n : Nat) (xs : List Int) (i : Nat) (x : Int) (hx : xs[i]? = some x) (h : x < 0) : ownC n xs (i + 1) = ownC n xs i := by
  unfold ownC
  apply List.map_congr_left
  intro d _
  rw [lastAt_next n xs i x d hx, if_neg (by omega)]
theorem r_impl_coords_1 (M : Mem) (n : Nat) (a : Option Addr) (c : Nat) (xs : List ty_Int.D) (h : Rep (.sl ty_Int) M [.slice a xs.length c] xs) (hn : n ≤ 256) (hl : xs.length ≤ 700) (hs : ∀ i (hi : i < xs.length), (xs[i] : Int) < n) (i : Nat) (hi : i < xs.length) :
    lp (aCall T0) K_impl_coords_1 L_impl_coords_1 [.int .i64 n, und, und, und, und, .slice (some ⟨M.length, 0, none⟩) n n, und, .slice (some ⟨M.length + 1, 0, none⟩) xs.length xs.length, und, und, und, und, und, und, und, und, und, und, und, und, und, und, und, und, und, .slice a xs.length c, .int .i64 xs.length, .int .i64 i, und, und, und, und, und, und, und, und, und, und, und, und, und, und, und, und, und, und, und, und, und, und, und, und, und, und, und] (M ++ [⟨ownC n xs i, 1, 2⟩, ⟨fillC (coordI n xs) xs.length i, 1, 2⟩]) =
    lp (aCall T0) K_impl_coords_1 L_impl_coords_1 [.int .i64 n, und, und, und, und, .slice (some ⟨M.length, 0, none⟩) n n, und, .slice (some ⟨M.length + 1, 0, none⟩) xs.length xs.length, und, und, und, und, und, und, und, und, und, und, und, und, und, und, und, und, und, .slice a xs.length c, .int .i64 xs.length, .int .i64 (i + 1 : Nat), und, und, und, und, und, und, und, und, und, und, und, und, und, und, und, und, und, und, und, und, und, und, und, und, und, und, und] (M ++ [⟨ownC n xs (i + 1), 1, 2⟩, ⟨fillC (coordI n xs) xs.length (i + 1), 1, 2⟩]) := by
  obtain ⟨l, o, rfl, hrep, hrd⟩ := at_Int h hi
  have hrd' : ∀ N, rd1 (M ++ N) l (o + i) = some (.int .i64 xs[i]) := fun N => rd1_old hrd
  have hlt := hs i hi
  obtain ⟨x, hx⟩ : ∃ x : Int, x = xs[i] := ⟨_, rfl⟩
  rw [← hx] at hrd' hlt
  have hxi : (xs : List Int)[i]? = some x := by rw [hx]; simp [hi]
  have e6 : IntKind.i64.wrap ((i : Int) + 1) = i + 1 := wrap_i64 (by omega) (by omega)
  have e7 : IntKind.i64.wrap ((n : Int) + i) = n + i := wrap_i64 (by omega) (by omega)
  have l1 := fillC_len (coordI n xs) xs.length i (by omega)
  have l2 := ownC_len n xs i
  have e5 : i + 1 ≤ xs.length := by omega
  have e3 := fillC_set (coordI n xs) xs.length i hi
  by_cases hx0 : x < 0
  · have ec : coordI n xs i = n + i := by unfold coordI; rw [hxi]; exact if_pos hx0
    rw [ec] at e3
    unfold splice at e3
    simp at e3
    have hx0' : ¬ (0 ≤ x) := Int.not_le.2 hx0
    rw [ownC_same n xs i x hxi hx0]
    rw [S_impl_coords_1]; unfold B_impl_coords_1; simp [hrd', e6, e7, hi, l1, l2, e5, e3, hx0']
  · obtain ⟨d, rfl⟩ : ∃ d : Nat, x = d := ⟨x.toNat, by omega⟩
    have hlt2 : (d : Int) < (n : Int) := hlt
    have hd : d < n := by omega
    have ec : coordI n xs i = lastAt n xs d i := by unfold coordI; rw [hxi]; exact if_neg hx0
    have g1 := ownC_get n xs i d hd
    have g1b : ∀ hh : d < (ownC n xs i).length, (ownC n xs i)[d] = .int .i64 (lastAt n xs d i) := fun hh => by rw [List.getElem?_eq_getElem hh] at g1; exact Option.some.inj g1
    have g2 := ownC_set n xs i d hd hxi
    obtain ⟨Z, hZ⟩ : ∃ Z, Z = splice (fillC (coordI n xs) xs.length i) i [.int .i64 (n + i)] := ⟨_, rfl⟩
    have l3 : Z.length = xs.length := by rw [hZ, splice_len _ _ _ (by rw [l1]; simp; omega), l1]
    have e4 : splice Z i [.int .i64 (lastAt n xs d i)] = fillC (coordI n xs) xs.length (i + 1) := by
      have q1 := splice_one (cs := fillC (coordI n xs) xs.length i) (o := i) (v := .int .i64 (n + i)) (by rw [l1]; exact hi)
      have q2 := splice_one (cs := fillC (coordI n xs) xs.length i) (o := i) (v := .int .i64 (lastAt n xs d i)) (by rw [l1]; exact hi)
      rw [← e3, ec, q2, hZ, q1, splice_one (by rw [List.length_set, l1]; exact hi), List.set_set]
    have e4' := hZ.symm
    unfold splice at e4 e4' g2
    simp at e4 e4' g2
    have e8 : d + 1 ≤ n := by omega
    rw [S_impl_coords_1]; unfold B_impl_coords_1; simp [hrd', e6, e7, hi, l1, l2, l3, e5, e4, e4', g1b, g2, hd, e8]
theorem fillC_own (n : Nat) (xs : List Int) : fillC (fun d => d) n n = ownC n xs 0 := by
  rw [fillC_full]
  rfl
theorem c_impl_coords (M : Mem) (n : Nat) (v : V) (xs : List ty_Int.D) (h : Rep (.sl ty_Int) M [v] xs) (hn : n ≤ 256) (hl : xs.length ≤ 700) (hs : ∀ i (hi : i < xs.length), (xs[i] : Int) < n) :
    aCall T0 F_impl_coords [.int .i64 n, v] M = some (.slice (some ⟨M.length + 1, 0, none⟩) xs.length xs.length, M ++ [⟨ownC n xs xs.length, 1, 2⟩, ⟨(List.range xs.length).map fun j => .int .i64 (coordI n xs j), 1, 2⟩]) := by
  obtain ⟨a, c, rfl⟩ := h.slen
  have h0 := chain (g := fun i : Nat => lp (aCall T0) K_impl_coords_0 L_impl_coords_0 [.int .i64 n, .slice a xs.length c, und, und, und, .slice (some ⟨M.length, 0, none⟩) n n, und, und, und, und, und, und, und, .int .i64 n, .int .i64 i, und, und, und, und, und, und, und, und, und, und, und, und, und, und, und, und, und, und, und, und, und, und, und, und, und, und, und, und, und, und, und, und, und, und, und, und, und, und, und, und] (M ++ [⟨fillC (fun d => d) n i, 1, 2⟩])) (n := n) fun i hi => r_impl_coords_0 M n _ hn i hi
  have h1 := chain (g := fun i : Nat => lp (aCall T0) K_impl_coords_1 L_impl_coords_1 [.int .i64 n, und, und, und, und, .slice (some ⟨M.length, 0, none⟩) n n, und, .slice (some ⟨M.length + 1, 0, none⟩) xs.length xs.length, und, und, und, und, und, und, und, und, und, und, und, und, und, und, und, und, und, .slice a xs.length c, .int .i64 xs.length, .int .i64 i, und, und, und, und, und, und, und, und, und, und, und, und, und, und, und, und, und, und, und, und, und, und, und, und, und, und, und] (M ++ [⟨ownC n xs i, 1, 2⟩, ⟨fillC (coordI n xs) xs.length i, 1, 2⟩])) (n := xs.length) fun i hi => r_impl_coords_1 M n a c xs h hn hl hs i hi
  simp only [Int.natCast_zero, Int.ofNat_zero, fillC_zero, fillC_own n xs, fillC_full] at h0 h1
  have e1 : (n : Int) * 8 ≤ 281474976710656 := by omega
  have e2 : (n : Int) ≤ 9223372036854775807 := by omega
  have e3 : (xs.length : Int) * 8 ≤ 281474976710656 := by omega
  have e4 : (xs.length : Int) ≤ 9223372036854775807 := by omega
  rw [aCall_eq T_impl_coords]; unfold A_impl_coords C_impl_coords; simp [e1, e2, e3, e4, h0]
  rw [S_impl_coords_0]; unfold B_impl_coords_0; simp [e1, e2, e3, e4, h1]
  rw [S_impl_coords_1]; unfold B_impl_coords_1; simp
theorem flat_Int (xs : List Int) : (xs.map enc_Int).flatten = xs.map (fun m => Value.int .i64 m) := by
  induction xs with
  | nil => rfl
  | cons x xs ih => rw [List.map_cons, List.flatten_cons, ih]; rfl
theorem own_block {M : Mem} {l c : Nat} {ys : List Int} (hb : M[l]? = some ⟨ys.map fun n => .int .i64 n, 1, 2⟩) (hw : ∀ y ∈ ys, (Lit.int .i64 y).wf = true) : ∃ L, Own (.sl ty_Int) M [.slice (some ⟨l, 0, none⟩) ys.length c] ys L ∧ ∀ j ∈ L, j = l := by
  by_cases hy : ys = []
  · subst hy
    exact ⟨[], .inl ⟨rfl, rfl, .inr ⟨l, 0, c, _, [], rfl, hb, .inr (.inr rfl), rfl, rfl, fun i ds x hd => by simp at hd, by simp⟩⟩, by simp⟩
  · refine ⟨[l], .inr ⟨l, 0, c, _, ys.map enc_Int, ys.map (fun _ => []), hy, rfl, hb, rfl, rfl, by simp, by simp, ?_, ?_, ?_⟩, by simp⟩
    · intro i ds x K h1 h2 h3
      rw [List.getElem?_map, h2] at h1
      rw [List.getElem?_map, h2] at h3
      simp only [Option.map_some, Option.some.injEq] at h1 h3
      subst h1; subst h3
      exact ⟨⟨rfl, hw x (List.mem_of_getElem? h2)⟩, rfl⟩
    · rw [flat_Int]; simp
    · have : (ys.map (fun _ => ([] : List Nat))).flatten = [] := by
        rw [List.flatten_eq_nil_iff]
        intro K hK
        obtain ⟨_, _, rfl⟩ := List.mem_map.1 hK
        rfl
      rw [this]
theorem seqB_parts {n : Int} {xs : List Int} (h : seqB n xs = true) : (0 ≤ n ∧ n ≤ 256) ∧ xs.length ≤ 700 ∧ ∀ i (hi : i < xs.length), -1 ≤ xs[i] ∧ xs[i] < n := by
  simp only [seqB, Bool.and_eq_true, decide_eq_true_eq] at h
  obtain ⟨h1, h2, h3⟩ := h
  refine ⟨h1, by omega, fun i hi => ?_⟩
  have := all_at h3 hi
  simp only [idB, Bool.and_eq_true, decide_eq_true_eq] at this
  omega
theorem c_impl_areDraws_1 (M : Mem) (x : Int) : aCall T0 F_impl_areDraws_1 [.int .i64 x] M = some (.bool (!drB x), M) := by
  unfold drB
  rw [aCall_eq T_impl_areDraws_1]; unfold A_impl_areDraws_1 C_impl_areDraws_1; simp [c_impl_within]
theorem c_impl_areDraws (M : Mem) (v : V) (ds : List Int) (h : Rep (.sl ty_Int) M [v] ds) (hl : ds.length ≤ 9223372036854775807) (k : Int) : aCall T0 F_impl_areDraws [v, .int .i64 k] M = some (.bool (drsB k ds), M) := by
  have e : aCall T0 F_slices_ContainsFunc_int_int [v, .func (.func F_impl_areDraws_1) #[] #[]] M = _ := c_any_Int M v ds h hl F_impl_areDraws_1 [] (fun x => !drB x) (fun i hi => c_impl_areDraws_1 M ds[i])
  obtain ⟨a, c, rfl⟩ := h.slen
  have e2 : ds.all drB = !ds.any (fun x => !drB x) := by simp [List.any_eq_not_all_not]
  unfold drsB
  rw [e2]
  by_cases hk : (ds.length : Int) = k
  · subst hk
    rw [aCall_eq T_impl_areDraws]; unfold A_impl_areDraws C_impl_areDraws; simp [e]
  · rw [aCall_eq T_impl_areDraws]; unfold A_impl_areDraws C_impl_areDraws; simp [hk]
theorem wf_range {z : Int} (h : -9223372036854775808 ≤ z ∧ z ≤ 9223372036854775807) : (Lit.int .i64 z).wf = true := by
  simp [Lit.wf, IntKind.min, IntKind.max, IntKind.signed, IntKind.bits]; omega
theorem leafI_range (d l : Int) : -1 ≤ leafI d l ∧ leafI d l ≤ 65535 := by
  unfold leafI
  split
  · rename_i h
    have h1 : 0 ≤ d ∧ d ≤ 65535 := by simpa [drB] using h.1
    have := Nat.mod_le d.toNat (2 ^ l.toNat)
    omega
  · omega
theorem pathsI_wf (n l : Int) (ids ds : List Int) : ∀ y ∈ pathsI n l ids ds, (Lit.int .i64 y).wf = true := by
  intro y hy
  obtain ⟨i, _, rfl⟩ := List.mem_map.1 hy
  have := leafI_range (drawAt ds (coordI n ids i)) l
  exact wf_range (by unfold pathI; omega)
theorem mixC_len (f g : Nat → Int) (n i : Nat) : (mixC f g n i).length = n := by simp [mixC]
theorem mixC_get (f g : Nat → Int) (n i : Nat) (h : i < n) : (mixC f g n i)[i]? = some (.int .i64 (g i)) := by simp [mixC, h]
theorem mixC_set (f g : Nat → Int) (n i : Nat) (h : i < n) : splice (mixC f g n i) i [.int .i64 (f i)] = mixC f g n (i + 1) := by
  rw [splice_one (by rw [mixC_len]; exact h)]
  apply List.ext_getElem?
  intro j
  rw [List.getElem?_set]
  by_cases hj : i = j
  · subst hj
    simp [mixC_len, h]
    simp [mixC, h]
  · rw [if_neg hj]
    simp only [mixC, List.getElem?_map]
    by_cases hjn : j < n
    · simp only [List.getElem?_range hjn, Option.map_some]
      by_cases h1 : j < i
      · rw [if_pos h1, if_pos (by omega)]
      · rw [if_neg h1, if_neg (by omega)]
    · rw [List.getElem?_eq_none (by simp; omega)]
      simp
theorem pow2_pos (n : Nat) : (0 : Int) < 2 ^ n := Int.pow_pos (by omega)
theorem pow2_le {n m : Nat} (h : n ≤ m) : (2 : Int) ^ n ≤ 2 ^ m := by
  have := Nat.pow_le_pow_right (show 0 < 2 by omega) h
  exact_mod_cast this
theorem c_impl_LeafOf (M : Mem) (d l : Int) : aCall T0 F_impl_LeafOf [.int .i64 d, .int .i64 l] M = some (.int .i64 (leafI d l), M) := by
  unfold leafI
  cases hd : drB d with
  | false =>
    have e : (decide (0 ≤ d) && decide (d ≤ 65535)) = false := hd
    rw [aCall_eq T_impl_LeafOf]; unfold A_impl_LeafOf C_impl_LeafOf; simp [c_impl_within, e]
  | true =>
    have e : (decide (0 ≤ d) && decide (d ≤ 65535)) = true := hd
    have hd2 : 0 ≤ d ∧ d ≤ 65535 := by simpa using e
    by_cases hl : 0 ≤ l ∧ l ≤ 6
    · obtain ⟨m, rfl⟩ : ∃ m : Nat, l = m := ⟨l.toNat, by omega⟩
      obtain ⟨k, rfl⟩ : ∃ k : Nat, d = k := ⟨d.toNat, by omega⟩
      have e2 : (decide (0 ≤ (m : Int)) && decide ((m : Int) ≤ 6)) = true := by simp; omega
      have hp : 2 ^ m ≤ 2 ^ 6 := Nat.pow_le_pow_right (by omega) (by omega)
      have hq : 0 < 2 ^ m := Nat.two_pow_pos m
      have e1 : bshl .i64 1 m = ((2 ^ m : Nat) : Int) := by
        unfold bshl
        have hm : min (m : Int).toNat IntKind.i64.bits = m := by show min _ 64 = m; omega
        rw [hm, wrap_i64 (by have := pow2_pos m; omega) (by have := pow2_le (show m ≤ 6 by omega); omega)]
        simp
      have e3 : IntKind.i64.wrap (((2 ^ m : Nat) : Int) - 1) = ((2 ^ m - 1 : Nat) : Int) := by
        rw [wrap_i64 (by omega) (by omega)]; omega
      have e4 := and_i64 (a := k) (b := 2 ^ m - 1) (by omega) (by omega)
      rw [Nat.and_two_pow_sub_one_eq_mod] at e4
      rw [if_pos ⟨rfl, hl⟩]
      simp only [Int.natCast_pow] at e1 e3 e4
      have e5 : (decide ((k : Int) ≤ 65535)) = true := by simp; omega
      have e6 : (decide ((m : Int) ≤ 6)) = true := by simp; omega
      have e7 : (k : Int) ≤ 65535 := by omega
      have e8 : (m : Int) ≤ 6 := by omega
      rw [aCall_eq T_impl_LeafOf]; unfold A_impl_LeafOf C_impl_LeafOf; simp [c_impl_within, e7, e8, e1]
      simp at e3 e4
      rw [e3, e4]
    · have e2 : (decide (0 ≤ l) && decide (l ≤ 6)) = false := by simpa using hl
      rw [if_neg (fun h => hl h.2)]
      rw [aCall_eq T_impl_LeafOf]; unfold A_impl_LeafOf C_impl_LeafOf; simp [c_impl_within, e, e2]
theorem lastAt_lt {n : Int} {xs : List Int} {x : Int} (hx : 0 ≤ x ∧ x < n) : ∀ j, 0 ≤ lastAt n xs x j ∧ lastAt n xs x j < n + j
  | 0 => by unfold lastAt; omega
  | j + 1 => by
    have := lastAt_lt (xs := xs) hx j
    unfold lastAt
    split <;> omega
theorem coordI_lt {n : Int} {xs : List Int} (hn : 0 ≤ n) (hs : ∀ i (hi : i < xs.length), xs[i] < n) {i : Nat} (hi : i < xs.length) : 0 ≤ coordI n xs i ∧ coordI n xs i ≤ n + i := by
  unfold coordI
  rw [List.getElem?_eq_getElem hi]
  simp only
  have h1 := hs i hi
  split
  · omega
  · have := lastAt_lt (n := n) (xs := xs) (x := xs[i]) (by omega) i
    omega
theorem drawAt_get {ds : List Int} {z : Int} (h0 : 0 ≤ z) (h : z < ds.length) : drawAt ds z = ds[z.toNat]'(by omega) := by
  unfold drawAt
  rw [List.getElem?_eq_getElem (by omega)]
  rfl
theorem rd_draw {M : Mem} {a : Option Addr} {c : Nat} {ds : List Int} (h : Rep (.sl ty_Int) M [.slice a ds.length c] ds) {z : Int} (h0 : 0 ≤ z) (h1 : z < ds.length) : ∃ l o, a = some ⟨l, o, none⟩ ∧ rd1 M l (o + z.toNat) = some (.int .i64 (drawAt ds z)) := by
  obtain ⟨l, o, rfl, _, hrd⟩ := at_Int h (i := z.toNat) (by omega)
  exact ⟨l, o, rfl, by rw [drawAt_get h0 h1]; exact hrd⟩
theorem r_impl_PathSeq (M : Mem) (O : Blk) (n : Nat) (l : Int) (a : Option Addr) (c : Nat) (ids ds : List Int) (hd : Rep (.sl ty_Int) M [.slice a ds.length c] ds) (hl : ids.length ≤ 700) (hs : ∀ i (hi : i < ids.length), ids[i] < (n : Int)) (hdl : (ds.length : Int) = n + ids.length) (i : Nat) (hi : i < ids.length) :
    lp (aCall T0) K_impl_PathSeq_0 L_impl_PathSeq_0 [und, .int .i64 l, und, .slice a ds.length c, und, und, und, und, und, und, .slice (some ⟨M.length + 1, 0, none⟩) ids.length ids.length, und, und, und, und, und, und, und, und, und, und, und, und, und, und, und, und, und, und, und, und, und, und, und, .slice (some ⟨M.length + 1, 0, none⟩) ids.length ids.length, .int .i64 ids.length, .int .i64 i, und, und, und, und, und, und, und, und, und, und, und, und, und, und, und] (M ++ [O, ⟨mixC (pathI n l ids ds) (coordI n ids) ids.length i, 1, 2⟩]) =
    lp (aCall T0) K_impl_PathSeq_0 L_impl_PathSeq_0 [und, .int .i64 l, und, .slice a ds.length c, und, und, und, und, und, und, .slice (some ⟨M.length + 1, 0, none⟩) ids.length ids.length, und, und, und, und, und, und, und, und, und, und, und, und, und, und, und, und, und, und, und, und, und, und, und, .slice (some ⟨M.length + 1, 0, none⟩) ids.length ids.length, .int .i64 ids.length, .int .i64 (i + 1 : Nat), und, und, und, und, und, und, und, und, und, und, und, und, und, und, und] (M ++ [O, ⟨mixC (pathI n l ids ds) (coordI n ids) ids.length (i + 1), 1, 2⟩]) := by
  have hz := coordI_lt (n := n) (xs := ids) (by omega) hs hi
  have e1 := mixC_get (pathI n l ids ds) (coordI n ids) ids.length i hi
  have e2 := mixC_len (pathI n l ids ds) (coordI n ids) ids.length i
  have e3 := mixC_set (pathI n l ids ds) (coordI n ids) ids.length i hi
  have e4 : pathI n l ids ds i = leafI (drawAt ds (coordI n ids i)) l := rfl
  obtain ⟨z, hz2⟩ : ∃ z, z = coordI n ids i := ⟨_, rfl⟩
  rw [← hz2] at hz e1 e4
  have h0 : 0 ≤ z := hz.1
  have h1 : z < ds.length := by omega
  obtain ⟨p, o, rfl, hrd⟩ := rd_draw hd h0 h1
  have hrd' : ∀ N, rd1 (M ++ N) p (o + z.toNat) = some (.int .i64 (drawAt ds z)) := fun N => rd1_old hrd
  have e5 : i + 1 ≤ ids.length := by omega
  have e6 : IntKind.i64.wrap ((i : Int) + 1) = i + 1 := wrap_i64 (by omega) (by omega)
  have e7 : ∀ hh : i < (mixC (pathI n l ids ds) (coordI n ids) ids.length i).length, (mixC (pathI n l ids ds) (coordI n ids) ids.length i)[i] = .int .i64 z := fun hh => by rw [List.getElem?_eq_getElem hh] at e1; exact Option.some.inj e1
  have e8 := fun M => c_impl_LeafOf M (drawAt ds z) l
  rw [← e4] at e8
  unfold splice at e3
  simp at e3
  rw [S_impl_PathSeq_0]; unfold B_impl_PathSeq_0; simp [e1, e2, e3, e5, e6, e7, e8, hi, h0, h1, hrd']
theorem d_impl_PathSeq (M : Mem) (n l : Int) (v_ids : V) (ids : List Int) (h_ids : Rep (.sl ty_Int) M [v_ids] ids) (hn_ids : ids.length ≤ 1048576) (v_ds : V) (ds : List Int) (h_ds : Rep (.sl ty_Int) M [v_ds] ds) (hn_ds : ds.length ≤ 1048576) :
    ∃ M' u L, M <+: M' ∧ aCall T0 F_impl_PathSeq [.int .i64 n, .int .i64 l, v_ids, v_ds] M = some (.tuple #[u, .bool (pathOk n l ids ds)], M') ∧ Own (.sl ty_Int) M' [u] (pathR n l ids ds) L ∧ ∀ l ∈ L, M.length ≤ l ∧ l < M'.length := by
  have g1 := c_impl_isSeq M n v_ids ids h_ids (by omega)
  have g2 := fun M => c_impl_isLog M l
  have g3 := c_impl_areDraws M v_ds ds h_ds (by omega) (n + ids.length)
  unfold pathR
  cases hb : pathOk n l ids ds with
  | false =>
    refine ⟨M, .slice none 0 0, [], List.prefix_refl _, ?_, .inl ⟨rfl, rfl, .inl ⟨rfl, rfl⟩⟩, by simp⟩
    simp only [pathOk] at hb
    cases q1 : seqB n ids with
    | false =>
      obtain ⟨a, c, rfl⟩ := h_ids.slen
      rw [aCall_eq T_impl_PathSeq]; unfold A_impl_PathSeq C_impl_PathSeq; simp [g1, q1]
    | true =>
      have hsq := seqB_parts q1
      have w1 : IntKind.i64.wrap (n + (ids.length : Int)) = n + ids.length := wrap_i64 (by omega) (by omega)
      rw [q1, Bool.true_and] at hb
      obtain ⟨a, c, rfl⟩ := h_ids.slen
      cases q2 : logB l with
      | false =>
        have q2' : (decide (0 ≤ l) && decide (l ≤ 6)) = false := q2
        rw [aCall_eq T_impl_PathSeq]; unfold A_impl_PathSeq C_impl_PathSeq; simp [g1, g2, q1, q2']
      | true =>
        have q2' : (decide (0 ≤ l) && decide (l ≤ 6)) = true := q2
        rw [q2, Bool.true_and] at hb
        rw [aCall_eq T_impl_PathSeq]; unfold A_impl_PathSeq C_impl_PathSeq; simp [g1, g2, g3, q1, q2', hb, w1]
  | true =>
    simp only [pathOk, Bool.and_eq_true] at hb
    obtain ⟨q1, q2, q3⟩ := hb
    obtain ⟨h1, h2, h3⟩ := seqB_parts q1
    have q2' : (decide (0 ≤ l) && decide (l ≤ 6)) = true := q2
    have hdl : (ds.length : Int) = n + ids.length := by
      simp only [drsB, Bool.and_eq_true, decide_eq_true_eq] at q3
      exact q3.1
    have w1 : IntKind.i64.wrap (n + (ids.length : Int)) = n + ids.length := wrap_i64 (by omega) (by omega)
    obtain ⟨m, rfl⟩ : ∃ m : Nat, n = m := ⟨n.toNat, by omega⟩
    have e2 := c_impl_coords M m v_ids ids h_ids (by omega) h2 (fun i hi => (h3 i hi).2)
    obtain ⟨ai, ci, rfl⟩ := h_ids.slen
    obtain ⟨ad, cd, rfl⟩ := h_ds.slen
    have hc := chain (g := fun i : Nat => lp (aCall T0) K_impl_PathSeq_0 L_impl_PathSeq_0 [und, .int .i64 l, und, .slice ad ds.length cd, und, und, und, und, und, und, .slice (some ⟨M.length + 1, 0, none⟩) ids.length ids.length, und, und, und, und, und, und, und, und, und, und, und, und, und, und, und, und, und, und, und, und, und, und, und, .slice (some ⟨M.length + 1, 0, none⟩) ids.length ids.length, .int .i64 ids.length, .int .i64 i, und, und, und, und, und, und, und, und, und, und, und, und, und, und, und] (M ++ [⟨ownC m ids ids.length, 1, 2⟩, ⟨mixC (pathI m l ids ds) (coordI m ids) ids.length i, 1, 2⟩])) (n := ids.length) fun i hi => r_impl_PathSeq M _ m l ad cd ids ds h_ds h2 (fun i hi => (h3 i hi).2) hdl i hi
    have hm : mixC (pathI m l ids ds) (coordI m ids) ids.length ids.length = (pathsI m l ids ds).map fun n => .int .i64 n := by simp [mixC_full, pathsI]
    simp only [Int.natCast_zero, Int.ofNat_zero, mixC_zero, hm] at hc
    obtain ⟨L, o1, o2⟩ := own_block (M := M ++ [⟨ownC m ids ids.length, 1, 2⟩, ⟨(pathsI m l ids ds).map fun n => .int .i64 n, 1, 2⟩]) (l := M.length + 1) (c := ids.length) (ys := pathsI m l ids ds) (by simp) (pathsI_wf m l ids ds)
    have hlen : (pathsI m l ids ds).length = ids.length := by simp [pathsI]
    rw [hlen] at o1
    rw [if_pos rfl]
    refine ⟨_, _, L, List.prefix_append _ _, ?_, o1, fun l hl => by rw [o2 l hl]; simp⟩
    rw [aCall_eq T_impl_PathSeq]; unfold A_impl_PathSeq C_impl_PathSeq; simp [g1, g2, g3, q1, q2', q3, w1, e2, hc]
    rw [S_impl_PathSeq_0]; unfold B_impl_PathSeq_0; simp
def pairOk (n : Int) (a b ds : List Int) : Bool := (seqB n a && seqB n b) && (decide ((a.length : Int) = b.length) && drsB (n + a.length) ds)
def co (n : Nat) (xs : List Int) (i : Nat) : Nat := (coordI n xs i).toNat
def upF {α : Type} (f : Nat → α) (d : Nat) (x : α) : Nat → α := fun t => if t = d then x else f t
def usB (us : Nat → Nat) : Nat → Nat → Bool
  | 0 => fun _ => false
  | i + 1 => upF (usB us i) (us i) true
def freeL (us : Nat → Nat) (k N : Nat) : List Nat := (List.range N).filter fun t => !usB us k t
/-- What lies at the coordinates of b: the draws at those of a. -/
def wrA (us vs : Nat → Nat) (ds : List Int) : Nat → Nat → Int
  | 0 => fun _ => 0
  | i + 1 => upF (wrA us vs ds i) (vs i) (drawAt ds (us i))
/-- What the second loop writes: the free draws, in order, at the free places. -/
def wrB (us vs : Nat → Nat) (ds : List Int) (k N : Nat) : Nat → Nat → Int
  | 0 => wrA us vs ds k
  | j + 1 => upF (wrB us vs ds k N j) ((freeL vs k N).getD j 0) (drawAt ds ((freeL us k N).getD j 0 : Nat))
def pairF (n : Nat) (a b ds : List Int) : Nat → Int := wrB (co n a) (co n b) ds a.length ds.length (freeL (co n a) a.length ds.length).length
def pairL (n : Nat) (a b ds : List Int) : List Int := (List.range ds.length).map (pairF n a b ds)
def pairR (n : Int) (a b ds : List Int) : List Int := if pairOk n a b ds = true then pairL n.toNat a b ds else []
theorem pairR_len (n : Int) (a b ds : List Int) : (pairR n a b ds).length ≤ ds.length := by
  unfold pairR
  split
  · simp [pairL]
  · simp
def arrC (N : Nat) (f : Nat → Int) : List V := (List.range N).map fun t => .int .i64 (f t)
def bolC (N : Nat) (f : Nat → Bool) : List V := (List.range N).map fun t => .bool (f t)
theorem usB_iff (us : Nat → Nat) (k t : Nat) : usB us k t = true ↔ ∃ i, i < k ∧ us i = t := by
  induction k with
  | zero => simp [usB]
  | succ k ih =>
    simp only [usB, upF]
    by_cases e : t = us k
    · rw [if_pos e]
      exact ⟨fun _ => ⟨k, by omega, e.symm⟩, fun _ => rfl⟩
    · rw [if_neg e, ih]
      constructor
      · rintro ⟨i, h1, h2⟩; exact ⟨i, by omega, h2⟩
      · rintro ⟨i, h1, h2⟩
        refine ⟨i, ?_, h2⟩
        rcases Nat.lt_or_ge i k with h | h
        · exact h
        · exact absurd (by rw [← h2, show i = k by omega]) e
theorem free_count (us : Nat → Nat) (N : Nat) : ∀ k, (∀ i, i < k → us i < N) → (∀ i j, i < j → j < k → us i ≠ us j) → (freeL us k N).length + k = N := by
  intro k
  induction k with
  | zero =>
    intro _ _
    unfold freeL usB
    rw [List.filter_eq_self.2 (by simp)]
    simp
  | succ k ih =>
    intro h1 h2
    have ih := ih (fun i hi => h1 i (by omega)) (fun i j hij hj => h2 i j hij (by omega))
    have hf : usB us k (us k) = false := by
      cases h : usB us k (us k) with
      | false => rfl
      | true =>
        obtain ⟨i, q1, q2⟩ := (usB_iff us k (us k)).1 h
        exact absurd q2 (h2 i k q1 (by omega))
    have hmem : us k ∈ freeL us k N := by
      unfold freeL
      rw [List.mem_filter]
      exact ⟨List.mem_range.2 (h1 k (by omega)), by simp [hf]⟩
    have hnd : (freeL us k N).Nodup := List.Pairwise.filter _ List.nodup_range
    have e : freeL us (k + 1) N = (freeL us k N).erase (us k) := by
      rw [List.Nodup.erase_eq_filter hnd]
      unfold freeL
      rw [List.filter_filter]
      apply List.filter_congr
      intro t _
      simp only [usB, upF]
      by_cases q : t = us k
      · simp [q]
      · simp [q]
    rw [e, List.length_erase_of_mem hmem]
    have := List.length_pos_of_mem hmem
    omega
theorem lastAt_spec (n : Int) (xs : List Int) (x : Int) : ∀ j, (∃ i, i < j ∧ xs[i]? = some x ∧ (∀ t, i < t → t < j → xs[t]? ≠ some x) ∧ lastAt n xs x j = n + i) ∨ ((∀ t, t < j → xs[t]? ≠ some x) ∧ lastAt n xs x j = x)
  | 0 => .inr ⟨fun t ht => by omega, rfl⟩
  | j + 1 => by
    by_cases h : xs[j]? = some x
    · left
      refine ⟨j, by omega, h, fun t h1 h2 => by omega, ?_⟩
      unfold lastAt
      rw [if_pos h]
    · have e : lastAt n xs x (j + 1) = lastAt n xs x j := by
        rw [lastAt, if_neg h]
      rw [e]
      rcases lastAt_spec n xs x j with ⟨i, h1, h2, h3, h4⟩ | ⟨h1, h2⟩
      · left
        refine ⟨i, by omega, h2, fun t q1 q2 => ?_, h4⟩
        by_cases q : t = j
        · subst q; exact h
        · exact h3 t q1 (by omega)
      · right
        refine ⟨fun t q => ?_, h2⟩
        by_cases q2 : t = j
        · subst q2; exact h
        · exact h1 t (by omega)
theorem coord_inj {n : Nat} {xs : List Int} (hs : ∀ i (hi : i < xs.length), xs[i] < (n : Int)) {i j : Nat} (hij : i < j) (hj : j < xs.length) : coordI n xs i ≠ coordI n xs j := by
  have hi : i < xs.length := by omega
  have h1 := hs i hi
  have h2 := hs j hj
  have ei : coordI n xs i = if xs[i] < 0 then (n : Int) + i else lastAt n xs xs[i] i := by unfold coordI; rw [List.getElem?_eq_getElem hi]
  have ej : coordI n xs j = if xs[j] < 0 then (n : Int) + j else lastAt n xs xs[j] j := by unfold coordI; rw [List.getElem?_eq_getElem hj]
  have gi : xs[i]? = some xs[i] := List.getElem?_eq_getElem hi
  rw [ei, ej]
  by_cases hj0 : xs[j] < 0
  · rw [if_pos hj0]
    split
    · omega
    · have := lastAt_lt (n := (n : Int)) (xs := xs) (x := xs[i]) (by omega) i
      omega
  · rw [if_neg hj0]
    rcases lastAt_spec n xs xs[j] j with ⟨j', q1, q2, q3, q4⟩ | ⟨q1, q2⟩
    · rw [q4]
      split
      · rename_i hi0
        intro e
        have : i = j' := by omega
        subst this
        rw [gi] at q2
        have := Option.some.inj q2
        omega
      · rename_i hi0
        rcases lastAt_spec n xs xs[i] i with ⟨i', p1, p2, p3, p4⟩ | ⟨p1, p2⟩
        · rw [p4]
          intro e
          have : i' = j' := by omega
          subst this
          rw [p2] at q2
          have e2 : xs[i] = xs[j] := Option.some.inj q2
          exact q3 i (by omega) hij (by rw [gi, e2])
        · rw [p2]; omega
    · rw [q2]
      split
      · omega
      · rename_i hi0
        rcases lastAt_spec n xs xs[i] i with ⟨i', p1, p2, p3, p4⟩ | ⟨p1, p2⟩
        · rw [p4]; omega
        · rw [p2]
          intro e
          exact q1 i hij (by rw [gi, e])
theorem co_val {n : Nat} {xs : List Int} (hs : ∀ i (hi : i < xs.length), xs[i] < (n : Int)) {i : Nat} (hi : i < xs.length) : coordI n xs i = (co n xs i : Nat) ∧ co n xs i < n + xs.length := by
  have := coordI_lt (n := (n : Int)) (by omega) hs hi
  unfold co
  omega
theorem arr_pair (n : Nat) (a b ds : List Int) : arrC ds.length (pairF n a b ds) = (pairL n a b ds).map fun x => .int .i64 x := by simp [arrC, pairL]
theorem upF_range {f : Nat → Int} {d : Nat} {x lo hi : Int} (h : ∀ t, lo ≤ f t ∧ f t ≤ hi) (hx : lo ≤ x ∧ x ≤ hi) : ∀ t, lo ≤ upF f d x t ∧ upF f d x t ≤ hi := by
  intro t
  unfold upF
  split
  · exact hx
  · exact h t
theorem draw_range {ds : List Int} (h : ∀ x ∈ ds, 0 ≤ x ∧ x ≤ 65535) (z : Int) : 0 ≤ drawAt ds z ∧ drawAt ds z ≤ 65535 := by
  unfold drawAt
  cases e : ds[z.toNat]? with
  | none => simp
  | some y => exact h y (List.mem_of_getElem? e)
theorem pairL_wf {n : Nat} {a b ds : List Int} (h : ∀ x ∈ ds, 0 ≤ x ∧ x ≤ 65535) : ∀ y ∈ pairL n a b ds, (Lit.int .i64 y).wf = true := by
  intro y hy
  obtain ⟨t, _, rfl⟩ := List.mem_map.1 hy
  have hA : ∀ i t, 0 ≤ wrA (co n a) (co n b) ds i t ∧ wrA (co n a) (co n b) ds i t ≤ 65535 := by
    intro i
    induction i with
    | zero => intro t; simp [wrA]
    | succ i ih => exact upF_range ih (draw_range h _)
  have hB : ∀ j t, 0 ≤ wrB (co n a) (co n b) ds a.length ds.length j t ∧ wrB (co n a) (co n b) ds a.length ds.length j t ≤ 65535 := by
    intro j
    induction j with
    | zero => exact hA _
    | succ j ih => exact upF_range ih (draw_range h _)
  have := hB (freeL (co n a) a.length ds.length).length t
  exact wf_range (by unfold pairF; omega)
def intC (f : Nat → Nat) (k : Nat) : List V := (List.range k).map fun t => .int .i64 (f t)
theorem arrC_len (N : Nat) (f : Nat → Int) : (arrC N f).length = N := by simp [arrC]
theorem arrC_set (N : Nat) (f : Nat → Int) (d : Nat) (x : Int) (h : d < N) : (arrC N f).set d (.int .i64 x) = arrC N (upF f d x) := by
  apply List.ext_getElem?
  intro j
  rw [List.getElem?_set]
  by_cases e : d = j
  · subst e; simp [arrC, h, upF]
  · rw [if_neg e]
    simp only [arrC, List.getElem?_map]
    by_cases hj : j < N
    · simp only [List.getElem?_range hj, Option.map_some, upF]
      rw [if_neg (fun q => e q.symm)]
    · rw [List.getElem?_eq_none (by simp; omega)]
      simp
theorem bolC_len (N : Nat) (f : Nat → Bool) : (bolC N f).length = N := by simp [bolC]
theorem bolC_set (N : Nat) (f : Nat → Bool) (d : Nat) (x : Bool) (h : d < N) : (bolC N f).set d (.bool x) = bolC N (upF f d x) := by
  apply List.ext_getElem?
  intro j
  rw [List.getElem?_set]
  by_cases e : d = j
  · subst e; simp [bolC, h, upF]
  · rw [if_neg e]
    simp only [bolC, List.getElem?_map]
    by_cases hj : j < N
    · simp only [List.getElem?_range hj, Option.map_some, upF]
      rw [if_neg (fun q => e q.symm)]
    · rw [List.getElem?_eq_none (by simp; omega)]
      simp
theorem intC_get (f : Nat → Nat) (k i : Nat) (h : i < k) : (intC f k)[i]? = some (.int .i64 (f i)) := by simp [intC, h]
theorem intC_len (f : Nat → Nat) (k : Nat) : (intC f k).length = k := by simp [intC]
theorem some_getElem {α : Type} {l : List α} {i : Nat} {x : α} (h : l[i]? = some x) : ∀ hh : i < l.length, l[i] = x := fun hh => by rw [List.getElem?_eq_getElem hh] at h; exact Option.some.inj h
theorem r_impl_PairDraws_0 (M : Mem) (O1 O2 : Blk) (N k : Nat) (a : Option Addr) (c : Nat) (ds : List Int) (hd : Rep (.sl ty_Int) M [.slice a ds.length c] ds) (hN : ds.length = N) (hk : k ≤ 700) (us vs : Nat → Nat) (hu : ∀ i, i < k → us i < N) (hv : ∀ i, i < k → vs i < N) (hNs : N ≤ 1048576) (i : Nat) (hi : i < k) :
    lp (aCall T0) K_impl_PairDraws_0 L_impl_PairDraws_0 [und, und, und, .slice a ds.length c, und, und, und, und, und, und, .slice (some ⟨M.length, 0, none⟩) N N, .slice (some ⟨M.length + 1, 0, none⟩) N N, .slice (some ⟨M.length + 2, 0, none⟩) N N, .slice (some ⟨M.length + 4, 0, none⟩) k k, .slice (some ⟨M.length + 6, 0, none⟩) k k, und, und, und, und, und, und, und, und, und, und, und, und, und, und, und, und, und, und, und, und, und, und, und, und, und, und, und, und, und, und, und, und, und, und, und, und, und, und, und, und, und, und, und, und, und, .int .i64 k, .int .i64 i, und, und, und, und, und, und, und, und, und, und, und, und, und, und, und, und, und, und, und, und, und, und, und, und, und, und, und, und, und, und, und, und, und, und, und, und, und, und, und, und, und, und, und, und, und, und, und, und, und, und, und, und, und, und] (M ++ [⟨arrC N (wrA us vs ds i), 1, 2⟩, ⟨bolC N (usB us i), 1, 2⟩, ⟨bolC N (usB vs i), 1, 2⟩, O1, ⟨intC us k, 1, 2⟩, O2, ⟨intC vs k, 1, 2⟩]) =
    lp (aCall T0) K_impl_PairDraws_0 L_impl_PairDraws_0 [und, und, und, .slice a ds.length c, und, und, und, und, und, und, .slice (some ⟨M.length, 0, none⟩) N N, .slice (some ⟨M.length + 1, 0, none⟩) N N, .slice (some ⟨M.length + 2, 0, none⟩) N N, .slice (some ⟨M.length + 4, 0, none⟩) k k, .slice (some ⟨M.length + 6, 0, none⟩) k k, und, und, und, und, und, und, und, und, und, und, und, und, und, und, und, und, und, und, und, und, und, und, und, und, und, und, und, und, und, und, und, und, und, und, und, und, und, und, und, und, und, und, und, und, und, .int .i64 k, .int .i64 (i + 1 : Nat), und, und, und, und, und, und, und, und, und, und, und, und, und, und, und, und, und, und, und, und, und, und, und, und, und, und, und, und, und, und, und, und, und, und, und, und, und, und, und, und, und, und, und, und, und, und, und, und, und, und, und, und, und, und] (M ++ [⟨arrC N (wrA us vs ds (i + 1)), 1, 2⟩, ⟨bolC N (usB us (i + 1)), 1, 2⟩, ⟨bolC N (usB vs (i + 1)), 1, 2⟩, O1, ⟨intC us k, 1, 2⟩, O2, ⟨intC vs k, 1, 2⟩]) := by
  have h1 := hu i hi
  have h2 := hv i hi
  have e6 : IntKind.i64.wrap ((i : Int) + 1) = i + 1 := wrap_i64 (by omega) (by omega)
  have g1 := some_getElem (intC_get us k i hi)
  have g2 := some_getElem (intC_get vs k i hi)
  have gl1 := intC_len us k
  have gl2 := intC_len vs k
  obtain ⟨l, o, rfl, hrd⟩ := rd_draw hd (z := (us i : Int)) (by omega) (by omega)
  have hrd' : ∀ X, rd1 (M ++ X) l (o + us i) = some (.int .i64 (drawAt ds (us i))) := fun X => rd1_old hrd
  have s1 : splice (arrC N (wrA us vs ds i)) (vs i) [.int .i64 (drawAt ds (us i))] = arrC N (wrA us vs ds (i + 1)) := by
    rw [splice_one (by rw [arrC_len]; exact h2), arrC_set _ _ _ _ h2]; rfl
  have s2 : splice (bolC N (usB us i)) (us i) [.bool true] = bolC N (usB us (i + 1)) := by
    rw [splice_one (by rw [bolC_len]; exact h1), bolC_set _ _ _ _ h1]; rfl
  have s3 : splice (bolC N (usB vs i)) (vs i) [.bool true] = bolC N (usB vs (i + 1)) := by
    rw [splice_one (by rw [bolC_len]; exact h2), bolC_set _ _ _ _ h2]; rfl
  have w1 := arrC_len N (wrA us vs ds i)
  have w2 := bolC_len N (usB us i)
  have w3 := bolC_len N (usB vs i)
  have v1 : us i + 1 ≤ N := h1
  have v2 : vs i + 1 ≤ N := h2
  have q1 : us i < ds.length := by omega
  unfold splice at s1 s2 s3
  simp at s1 s2 s3
  rw [S_impl_PairDraws_0]; unfold B_impl_PairDraws_0; simp [hi, e6, g1, g2, gl1, gl2, h1, h2, hrd', s1, s2, s3, w1, w2, w3, v1, v2, q1]
theorem freeL_at (us : Nat → Nat) (k N i : Nat) (hi : i < N) (hf : usB us k i = false) : (freeL us k N)[(freeL us k i).length]? = some i := by
  unfold freeL
  have e : List.range N = List.range i ++ i :: (List.range (N - i - 1)).map (fun t => i + 1 + t) := by
    apply List.ext_getElem (by simp; omega)
    intro j h1 h2
    simp only [List.getElem_range]
    by_cases hj : j < i
    · rw [List.getElem_append_left (by simpa using hj)]; simp
    · rw [List.getElem_append_right (by simp; omega)]
      simp only [List.length_range]
      by_cases hj2 : j = i
      · subst hj2; simp
      · obtain ⟨d, rfl⟩ : ∃ d, j = i + 1 + d := ⟨j - i - 1, by omega⟩
        simp only [show i + 1 + d - i = d + 1 by omega, List.getElem_cons_succ, List.getElem_map, List.getElem_range]
  rw [e, List.filter_append, List.filter_cons, if_pos (by simp [hf]), List.getElem?_append_right (Nat.le_refl _)]
  simp
theorem freeL_succ (us : Nat → Nat) (k i : Nat) : (freeL us k (i + 1)).length = (freeL us k i).length + (if usB us k i then 0 else 1) := by
  unfold freeL
  rw [List.range_succ, List.filter_append, List.length_append]
  cases h : usB us k i <;> simp [h]
theorem freeL_mono (us : Nat → Nat) (k i : Nat) : ∀ j, i ≤ j → (freeL us k i).length ≤ (freeL us k j).length := by
  intro j hij
  induction hij with
  | refl => exact Nat.le_refl _
  | step _ ih => rw [freeL_succ]; omega
theorem bolC_get (N : Nat) (f : Nat → Bool) (d : Nat) (h : d < N) : (bolC N f)[d]? = some (.bool (f d)) := by simp [bolC, h]
theorem r_impl_PairDraws_1s (M R : Mem) (a : Option Addr) (c : Nat) (ds : List Int) (N : Nat) (g : Nat → Int) (F T : Nat → Bool) (hNs : N ≤ 1048576) (at0 i : Nat) (hi : i < N) (hT : T i = true) :
    lp (aCall T0) K_impl_PairDraws_1 L_impl_PairDraws_1 [und, und, und, .slice a ds.length c, und, und, und, und, und, und, .slice (some ⟨M.length, 0, none⟩) N N, .slice (some ⟨M.length + 1, 0, none⟩) N N, .slice (some ⟨M.length + 2, 0, none⟩) N N, und, und, und, .int .i64 at0, und, und, und, und, und, und, und, und, und, und, und, und, und, und, und, und, und, und, und, und, und, und, und, und, und, und, und, und, und, und, und, und, und, und, und, und, und, und, und, und, und, und, und, und, und, und, und, und, und, und, und, und, und, und, und, und, und, und, und, und, und, und, und, und, und, und, und, und, und, und, und, und, und, und, .int .i64 N, .int .i64 i, und, und, und, und, und, und, und, und, und, und, und, und, und, und, und, und, und, und, und, und, und, und, und] (M ++ ⟨arrC N g, 1, 2⟩ :: ⟨bolC N F, 1, 2⟩ :: ⟨bolC N T, 1, 2⟩ :: R) =
    lp (aCall T0) K_impl_PairDraws_1 L_impl_PairDraws_1 [und, und, und, .slice a ds.length c, und, und, und, und, und, und, .slice (some ⟨M.length, 0, none⟩) N N, .slice (some ⟨M.length + 1, 0, none⟩) N N, .slice (some ⟨M.length + 2, 0, none⟩) N N, und, und, und, .int .i64 at0, und, und, und, und, und, und, und, und, und, und, und, und, und, und, und, und, und, und, und, und, und, und, und, und, und, und, und, und, und, und, und, und, und, und, und, und, und, und, und, und, und, und, und, und, und, und, und, und, und, und, und, und, und, und, und, und, und, und, und, und, und, und, und, und, und, und, und, und, und, und, und, und, und, und, .int .i64 N, .int .i64 (i + 1 : Nat), und, und, und, und, und, und, und, und, und, und, und, und, und, und, und, und, und, und, und, und, und, und, und] (M ++ ⟨arrC N g, 1, 2⟩ :: ⟨bolC N F, 1, 2⟩ :: ⟨bolC N T, 1, 2⟩ :: R) := by
  have e6 : IntKind.i64.wrap ((i : Int) + 1) = i + 1 := wrap_i64 (by omega) (by omega)
  have g1 := some_getElem (bolC_get N T i hi)
  rw [hT] at g1
  have gl := bolC_len N T
  rw [S_impl_PairDraws_1]; unfold B_impl_PairDraws_1; simp [hi, e6, g1, gl]
theorem r_impl_PairDraws_2 (M : Mem) (l3 : V) (N : Nat) (lo lt : Nat) (lf i tn : Nat) (f : Nat → Bool) (hb : M[lf]? = some ⟨bolC N f, 1, 2⟩) (hN : N ≤ 1048576) (p : Nat) (hp : p < N) (hf : f p = true) :
    lp (aCall T0) K_impl_PairDraws_2 L_impl_PairDraws_2 [und, und, und, l3, und, und, und, und, und, und, .slice (some ⟨lo, 0, none⟩) N N, .slice (some ⟨lf, 0, none⟩) N N, .slice (some ⟨lt, 0, none⟩) N N, und, und, und, .int .i64 p, .int .i64 i, und, und, und, und, und, und, und, und, und, und, und, und, und, und, und, und, und, und, und, und, und, und, und, und, und, und, und, und, und, und, und, und, und, und, und, und, und, und, und, und, und, und, und, und, und, und, und, und, und, und, und, und, und, und, und, und, und, und, und, und, und, und, und, und, und, und, und, und, und, und, und, und, und, .int .i64 tn, .int .i64 i, und, und, und, und, und, und, und, und, und, und, und, und, und, und, und, und, und, und, und, und, und, und, und] M =
    lp (aCall T0) K_impl_PairDraws_2 L_impl_PairDraws_2 [und, und, und, l3, und, und, und, und, und, und, .slice (some ⟨lo, 0, none⟩) N N, .slice (some ⟨lf, 0, none⟩) N N, .slice (some ⟨lt, 0, none⟩) N N, und, und, und, .int .i64 (p + 1 : Nat), .int .i64 i, und, und, und, und, und, und, und, und, und, und, und, und, und, und, und, und, und, und, und, und, und, und, und, und, und, und, und, und, und, und, und, und, und, und, und, und, und, und, und, und, und, und, und, und, und, und, und, und, und, und, und, und, und, und, und, und, und, und, und, und, und, und, und, und, und, und, und, und, und, und, und, und, und, .int .i64 tn, .int .i64 i, und, und, und, und, und, und, und, und, und, und, und, und, und, und, und, und, und, und, und, und, und, und, und] M := by
  have e6 : IntKind.i64.wrap ((p : Int) + 1) = p + 1 := wrap_i64 (by omega) (by omega)
  have r1 : rd1 M lf p = some (.bool (f p)) := by
    unfold rd1
    rw [hb]
    simp only [or_true, if_true]
    exact bolC_get N f p hp
  rw [hf] at r1
  rw [S_impl_PairDraws_2]; unfold B_impl_PairDraws_2; simp [r1, e6, hp]
theorem r_impl_PairDraws_1w (M R : Mem) (a : Option Addr) (c : Nat) (ds : List Int) (hd : Rep (.sl ty_Int) M [.slice a ds.length c] ds) (N : Nat) (hN : ds.length = N) (g : Nat → Int) (F T : Nat → Bool) (hNs : N ≤ 1048576) (at0 p i : Nat) (hi : i < N) (hT : T i = false) (h1 : at0 ≤ p) (hp : p < N) (h2 : ∀ t, at0 ≤ t → t < p → F t = true) (h3 : F p = false) :
    lp (aCall T0) K_impl_PairDraws_1 L_impl_PairDraws_1 [und, und, und, .slice a ds.length c, und, und, und, und, und, und, .slice (some ⟨M.length, 0, none⟩) N N, .slice (some ⟨M.length + 1, 0, none⟩) N N, .slice (some ⟨M.length + 2, 0, none⟩) N N, und, und, und, .int .i64 at0, und, und, und, und, und, und, und, und, und, und, und, und, und, und, und, und, und, und, und, und, und, und, und, und, und, und, und, und, und, und, und, und, und, und, und, und, und, und, und, und, und, und, und, und, und, und, und, und, und, und, und, und, und, und, und, und, und, und, und, und, und, und, und, und, und, und, und, und, und, und, und, und, und, und, .int .i64 N, .int .i64 i, und, und, und, und, und, und, und, und, und, und, und, und, und, und, und, und, und, und, und, und, und, und, und] (M ++ ⟨arrC N g, 1, 2⟩ :: ⟨bolC N F, 1, 2⟩ :: ⟨bolC N T, 1, 2⟩ :: R) =
    lp (aCall T0) K_impl_PairDraws_1 L_impl_PairDraws_1 [und, und, und, .slice a ds.length c, und, und, und, und, und, und, .slice (some ⟨M.length, 0, none⟩) N N, .slice (some ⟨M.length + 1, 0, none⟩) N N, .slice (some ⟨M.length + 2, 0, none⟩) N N, und, und, und, .int .i64 (p + 1 : Nat), und, und, und, und, und, und, und, und, und, und, und, und, und, und, und, und, und, und, und, und, und, und, und, und, und, und, und, und, und, und, und, und, und, und, und, und, und, und, und, und, und, und, und, und, und, und, und, und, und, und, und, und, und, und, und, und, und, und, und, und, und, und, und, und, und, und, und, und, und, und, und, und, und, und, .int .i64 N, .int .i64 (i + 1 : Nat), und, und, und, und, und, und, und, und, und, und, und, und, und, und, und, und, und, und, und, und, und, und, und] (M ++ ⟨arrC N (upF g i (drawAt ds p)), 1, 2⟩ :: ⟨bolC N F, 1, 2⟩ :: ⟨bolC N T, 1, 2⟩ :: R) := by
  have e6 : IntKind.i64.wrap ((i : Int) + 1) = i + 1 := wrap_i64 (by omega) (by omega)
  have e7 : IntKind.i64.wrap ((p : Int) + 1) = p + 1 := wrap_i64 (by omega) (by omega)
  have g1 := some_getElem (bolC_get N T i hi)
  rw [hT] at g1
  have gl := bolC_len N T
  have g2 := some_getElem (bolC_get N F p hp)
  rw [h3] at g2
  have gl2 := bolC_len N F
  have hin := chain (g := fun j : Nat => lp (aCall T0) K_impl_PairDraws_2 L_impl_PairDraws_2 [und, und, und, .slice a ds.length c, und, und, und, und, und, und, .slice (some ⟨M.length, 0, none⟩) N N, .slice (some ⟨M.length + 1, 0, none⟩) N N, .slice (some ⟨M.length + 2, 0, none⟩) N N, und, und, und, .int .i64 (at0 + j : Nat), .int .i64 i, und, und, und, und, und, und, und, und, und, und, und, und, und, und, und, und, und, und, und, und, und, und, und, und, und, und, und, und, und, und, und, und, und, und, und, und, und, und, und, und, und, und, und, und, und, und, und, und, und, und, und, und, und, und, und, und, und, und, und, und, und, und, und, und, und, und, und, und, und, und, und, und, und, .int .i64 N, .int .i64 i, und, und, und, und, und, und, und, und, und, und, und, und, und, und, und, und, und, und, und, und, und, und, und] (M ++ ⟨arrC N g, 1, 2⟩ :: ⟨bolC N F, 1, 2⟩ :: ⟨bolC N T, 1, 2⟩ :: R)) (n := p - at0) fun j hj =>
    r_impl_PairDraws_2 _ _ N M.length (M.length + 2) (M.length + 1) i N F (by simp) hNs (at0 + j) (by omega) (h2 _ (by omega) (by omega))
  simp only [Nat.add_zero, show at0 + (p - at0) = p by omega] at hin
  obtain ⟨l, o, rfl, hrd⟩ := rd_draw hd (z := (p : Int)) (by omega) (by omega)
  have hrd' : ∀ X, rd1 (M ++ X) l (o + p) = some (.int .i64 (drawAt ds p)) := fun X => rd1_old hrd
  have s1 : splice (arrC N g) i [.int .i64 (drawAt ds p)] = arrC N (upF g i (drawAt ds p)) := by
    rw [splice_one (by rw [arrC_len]; exact hi), arrC_set _ _ _ _ hi]
  have w1 := arrC_len N g
  have v1 : i + 1 ≤ N := hi
  have q1 : p < ds.length := by omega
  unfold splice at s1
  simp at s1
  rw [S_impl_PairDraws_1]; unfold B_impl_PairDraws_1; simp [hi, e6, g1, gl, hin]
  rw [S_impl_PairDraws_2]; unfold B_impl_PairDraws_2; simp [hp, g2, gl2, hrd', q1, hi, s1, w1, v1, e6, e7]
theorem freeL_const (us : Nat → Nat) (k a : Nat) : ∀ b, a ≤ b → (∀ t, a ≤ t → t < b → usB us k t = true) → (freeL us k b).length = (freeL us k a).length := by
  intro b hab
  induction hab with
  | refl => intro _; rfl
  | @step b hab ih =>
    intro h
    rw [freeL_succ, h b hab (by omega), ih (fun t h1 h2 => h t h1 (by omega))]
    simp
theorem l_impl_PairDraws_1 (M R : Mem) (a : Option Addr) (c : Nat) (ds : List Int) (hd : Rep (.sl ty_Int) M [.slice a ds.length c] ds) (N k : Nat) (hN : ds.length = N) (us vs : Nat → Nat) (hNs : N ≤ 1048576) (hc : (freeL us k N).length = (freeL vs k N).length) :
    ∀ (d i at0 : Nat), i + d = N → (freeL us k at0).length = (freeL vs k i).length → at0 ≤ N → ∃ at1 : Nat,
    lp (aCall T0) K_impl_PairDraws_1 L_impl_PairDraws_1 [und, und, und, .slice a ds.length c, und, und, und, und, und, und, .slice (some ⟨M.length, 0, none⟩) N N, .slice (some ⟨M.length + 1, 0, none⟩) N N, .slice (some ⟨M.length + 2, 0, none⟩) N N, und, und, und, .int .i64 at0, und, und, und, und, und, und, und, und, und, und, und, und, und, und, und, und, und, und, und, und, und, und, und, und, und, und, und, und, und, und, und, und, und, und, und, und, und, und, und, und, und, und, und, und, und, und, und, und, und, und, und, und, und, und, und, und, und, und, und, und, und, und, und, und, und, und, und, und, und, und, und, und, und, und, .int .i64 N, .int .i64 i, und, und, und, und, und, und, und, und, und, und, und, und, und, und, und, und, und, und, und, und, und, und, und] (M ++ ⟨arrC N (wrB us vs ds k N (freeL vs k i).length), 1, 2⟩ :: ⟨bolC N (usB us k), 1, 2⟩ :: ⟨bolC N (usB vs k), 1, 2⟩ :: R) =
    lp (aCall T0) K_impl_PairDraws_1 L_impl_PairDraws_1 [und, und, und, .slice a ds.length c, und, und, und, und, und, und, .slice (some ⟨M.length, 0, none⟩) N N, .slice (some ⟨M.length + 1, 0, none⟩) N N, .slice (some ⟨M.length + 2, 0, none⟩) N N, und, und, und, .int .i64 at1, und, und, und, und, und, und, und, und, und, und, und, und, und, und, und, und, und, und, und, und, und, und, und, und, und, und, und, und, und, und, und, und, und, und, und, und, und, und, und, und, und, und, und, und, und, und, und, und, und, und, und, und, und, und, und, und, und, und, und, und, und, und, und, und, und, und, und, und, und, und, und, und, und, und, .int .i64 N, .int .i64 N, und, und, und, und, und, und, und, und, und, und, und, und, und, und, und, und, und, und, und, und, und, und, und] (M ++ ⟨arrC N (wrB us vs ds k N (freeL vs k N).length), 1, 2⟩ :: ⟨bolC N (usB us k), 1, 2⟩ :: ⟨bolC N (usB vs k), 1, 2⟩ :: R)
  | 0, i, at0, hi, hr, hat => by
    have e : i = N := by omega
    subst e
    exact ⟨at0, rfl⟩
  | d + 1, i, at0, hi, hr, hat => by
    have hiN : i < N := by omega
    have hsucc := freeL_succ vs k i
    cases hT : usB vs k i with
    | true =>
      rw [hT] at hsucc
      simp only [if_true, Nat.add_zero] at hsucc
      obtain ⟨at1, h1⟩ := l_impl_PairDraws_1 M R a c ds hd N k hN us vs hNs hc d (i + 1) at0 (by omega) (by rw [hsucc]; exact hr) hat
      rw [hsucc] at h1
      exact ⟨at1, by rw [r_impl_PairDraws_1s M R a c ds N _ _ _ hNs at0 i hiN hT, h1]⟩
    | false =>
      rw [hT] at hsucc
      simp only [Bool.false_eq_true, if_false] at hsucc
      have hm := freeL_mono vs k (i + 1) N (by omega)
      rcases first_bad (fun j => usB us k (at0 + j)) (N - at0) with hall | ⟨j, hj, hall, hbad⟩
      · exfalso
        have := freeL_const us k at0 N hat (fun t h1 h2 => by have := hall (t - at0) (by omega); rwa [show at0 + (t - at0) = t by omega] at this)
        omega
      · have hused : ∀ t, at0 ≤ t → t < at0 + j → usB us k t = true := fun t h1 h2 => by have := hall (t - at0) (by omega); rwa [show at0 + (t - at0) = t by omega] at this
        have hcp := freeL_const us k at0 (at0 + j) (by omega) hused
        have hp1 := freeL_at us k N (at0 + j) (by omega) hbad
        have hi1 := freeL_at vs k N i hiN hT
        rw [hcp, hr] at hp1
        have hs2 := freeL_succ us k (at0 + j)
        rw [hbad] at hs2
        simp only [Bool.false_eq_true, if_false] at hs2
        obtain ⟨at1, h1⟩ := l_impl_PairDraws_1 M R a c ds hd N k hN us vs hNs hc d (i + 1) (at0 + j + 1) (by omega) (by omega) (by omega)
        refine ⟨at1, ?_⟩
        rw [r_impl_PairDraws_1w M R a c ds hd N hN _ _ _ hNs at0 (at0 + j) i hiN hT (by omega) (by omega) hused hbad]
        have hw : wrB us vs ds k N (freeL vs k (i + 1)).length = upF (wrB us vs ds k N (freeL vs k i).length) i (drawAt ds ((at0 + j : Nat) : Int)) := by
          rw [hsucc, wrB]
          rw [List.getD_eq_getElem?_getD, List.getD_eq_getElem?_getD, hi1, hp1]
          rfl
        rw [hw] at h1
        exact h1
theorem intC_co {n : Nat} {xs : List Int} (hs : ∀ i (hi : i < xs.length), xs[i] < (n : Int)) : ((List.range xs.length).map fun j => Value.int .i64 (coordI n xs j)) = intC (co n xs) xs.length := by
  unfold intC
  apply List.map_congr_left
  intro j hj
  rw [(co_val hs (by simpa using hj)).1]
theorem arrC_zero (N : Nat) : arrC N (fun _ => 0) = zc (.int .i64 0) N := by
  unfold arrC zc
  rw [List.map_const', List.length_range]
theorem bolC_zero (N : Nat) : bolC N (fun _ => false) = zc (.bool false) N := by
  unfold bolC zc
  rw [List.map_const', List.length_range]
theorem pair_parts {n : Int} {a b ds : List Int} (h : pairOk n a b ds = true) : seqB n a = true ∧ seqB n b = true ∧ a.length = b.length ∧ drsB (n + a.length) ds = true ∧ (ds.length : Int) = n + a.length ∧ ∀ x ∈ ds, 0 ≤ x ∧ x ≤ 65535 := by
  simp only [pairOk, Bool.and_eq_true, decide_eq_true_eq] at h
  obtain ⟨⟨h1, h2⟩, h3, h4⟩ := h
  have h5 := h4
  simp only [drsB, Bool.and_eq_true, decide_eq_true_eq, List.all_eq_true] at h5
  refine ⟨h1, h2, by omega, h4, h5.1, fun x hx => ?_⟩
  have := h5.2 x hx
  simpa [drB] using this
theorem d_impl_PairDraws (M : Mem) (n : Int) (v_a : V) (a : List Int) (h_a : Rep (.sl ty_Int) M [v_a] a) (hn_a : a.length ≤ 1048576) (v_b : V) (b : List Int) (h_b : Rep (.sl ty_Int) M [v_b] b) (hn_b : b.length ≤ 1048576) (v_ds : V) (ds : List Int) (h_ds : Rep (.sl ty_Int) M [v_ds] ds) (hn_ds : ds.length ≤ 1048576) :
    ∃ M' u L, M <+: M' ∧ aCall T0 F_impl_PairDraws [.int .i64 n, v_a, v_b, v_ds] M = some (.tuple #[u, .bool (pairOk n a b ds)], M') ∧ Own (.sl ty_Int) M' [u] (pairR n a b ds) L ∧ ∀ l ∈ L, M.length ≤ l ∧ l < M'.length := by
  have g1 := c_impl_isSeq M n v_a a h_a (by omega)
  have g2 := c_impl_isSeq M n v_b b h_b (by omega)
  have g3 := c_impl_areDraws M v_ds ds h_ds (by omega) (n + a.length)
  unfold pairR
  cases hb : pairOk n a b ds with
  | false =>
    refine ⟨M, .slice none 0 0, [], List.prefix_refl _, ?_, .inl ⟨rfl, rfl, .inl ⟨rfl, rfl⟩⟩, by simp⟩
    simp only [pairOk] at hb
    cases q1 : seqB n a with
    | false =>
      obtain ⟨_, _, rfl⟩ := h_a.slen
      obtain ⟨_, _, rfl⟩ := h_b.slen
      rw [aCall_eq T_impl_PairDraws]; unfold A_impl_PairDraws C_impl_PairDraws; simp [g1, q1]
    | true =>
      have hsq := seqB_parts q1
      have w1 : IntKind.i64.wrap (n + (a.length : Int)) = n + a.length := wrap_i64 (by omega) (by omega)
      obtain ⟨_, _, rfl⟩ := h_a.slen
      obtain ⟨_, _, rfl⟩ := h_b.slen
      cases q2 : seqB n b with
      | false => rw [aCall_eq T_impl_PairDraws]; unfold A_impl_PairDraws C_impl_PairDraws; simp [g1, g2, q1, q2]
      | true =>
        rw [q1, q2, Bool.true_and, Bool.true_and] at hb
        by_cases q3 : (a.length : Int) = b.length
        · rw [decide_eq_true q3, Bool.true_and] at hb
          have q3' : ((a.length : Int) = b.length) = True := eq_true q3
          have q4' : (a.length = b.length) = True := eq_true (by omega)
          rw [aCall_eq T_impl_PairDraws]; unfold A_impl_PairDraws C_impl_PairDraws; simp [g1, g2, g3, q1, q2, q3', q4', w1, hb]
        · have q4 : ¬ a.length = b.length := by omega
          rw [aCall_eq T_impl_PairDraws]; unfold A_impl_PairDraws C_impl_PairDraws; simp [g1, g2, q1, q2, q3, q4]
  | true =>
    obtain ⟨q1, q2, q3, q4, hdl, hdr⟩ := pair_parts hb
    obtain ⟨h1, h2, h3⟩ := seqB_parts q1
    obtain ⟨_, k2, k3⟩ := seqB_parts q2
    have w1 : IntKind.i64.wrap (n + (a.length : Int)) = n + a.length := wrap_i64 (by omega) (by omega)
    obtain ⟨m, rfl⟩ : ∃ m : Nat, n = m := ⟨n.toNat, by omega⟩
    have hsa : ∀ i (hi : i < a.length), a[i] < (m : Int) := fun i hi => (h3 i hi).2
    have hsb : ∀ i (hi : i < b.length), b[i] < (m : Int) := fun i hi => (k3 i hi).2
    have hN : ds.length = m + a.length := by omega
    obtain ⟨N, hNd⟩ : ∃ N, ds.length = N := ⟨_, rfl⟩
    have ca := c_impl_coords (M ++ [⟨zc (.int .i64 0) N, 1, 2⟩, ⟨zc (.bool false) N, 1, 2⟩, ⟨zc (.bool false) N, 1, 2⟩]) m v_a a (h_a.mono (List.prefix_append _ _)) (by omega) h2 hsa
    rw [intC_co hsa] at ca
    have cb := c_impl_coords (M ++ [⟨zc (.int .i64 0) N, 1, 2⟩, ⟨zc (.bool false) N, 1, 2⟩, ⟨zc (.bool false) N, 1, 2⟩, ⟨ownC m a a.length, 1, 2⟩, ⟨intC (co m a) a.length, 1, 2⟩]) m v_b b (h_b.mono (List.prefix_append _ _)) (by omega) k2 hsb
    rw [intC_co hsb] at cb
    simp [Nat.add_assoc] at ca cb
    rw [← q3] at cb
    have hua : ∀ i, i < a.length → co m a i < N := fun i hi => by have := (co_val hsa hi).2; omega
    have hvb : ∀ i, i < a.length → co m b i < N := fun i hi => by have := (co_val hsb (i := i) (by omega)).2; omega
    have ia : ∀ i j, i < j → j < a.length → co m a i ≠ co m a j := fun i j hij hj e => coord_inj hsa hij hj (by rw [(co_val hsa (i := i) (by omega)).1, (co_val hsa hj).1, e])
    have ib : ∀ i j, i < j → j < a.length → co m b i ≠ co m b j := fun i j hij hj e => coord_inj hsb hij (by omega) (by rw [(co_val hsb (i := i) (by omega)).1, (co_val hsb (i := j) (by omega)).1, e])
    have fa := free_count (co m a) N a.length hua ia
    have fb := free_count (co m b) N a.length hvb ib
    obtain ⟨ai, ci, rfl⟩ := h_a.slen
    obtain ⟨bi, di, rfl⟩ := h_b.slen
    obtain ⟨ad, cd, rfl⟩ := h_ds.slen
    have l0 := chain (n := a.length) fun i hi => r_impl_PairDraws_0 M ⟨ownC m a a.length, 1, 2⟩ ⟨ownC m b a.length, 1, 2⟩ N a.length ad cd ds h_ds hNd h2 (co m a) (co m b) hua hvb (by omega) i hi
    obtain ⟨at1, l1⟩ := l_impl_PairDraws_1 M [⟨ownC m a a.length, 1, 2⟩, ⟨intC (co m a) a.length, 1, 2⟩, ⟨ownC m b a.length, 1, 2⟩, ⟨intC (co m b) a.length, 1, 2⟩] ad cd ds h_ds N a.length hNd (co m a) (co m b) (by omega) (by omega) N 0 0 (by omega) rfl (by omega)
    have z0 : (freeL (co m b) a.length 0).length = 0 := rfl
    simp only [Int.natCast_zero, Int.ofNat_zero, wrA, usB, arrC_zero, bolC_zero, z0, wrB] at l0 l1
    have hfin : arrC N (wrB (co m a) (co m b) ds a.length N (freeL (co m b) a.length N).length) = (pairL m a b ds).map fun x => .int .i64 x := by
      rw [← arr_pair, hNd]
      unfold pairF
      rw [hNd, show (freeL (co m b) a.length N).length = (freeL (co m a) a.length N).length by omega]
    rw [hfin] at l1
    obtain ⟨L, o1, o2⟩ := own_block (M := M ++ ⟨(pairL m a b ds).map fun x => .int .i64 x, 1, 2⟩ :: ⟨bolC N (usB (co m a) a.length), 1, 2⟩ :: ⟨bolC N (usB (co m b) a.length), 1, 2⟩ :: [⟨ownC m a a.length, 1, 2⟩, ⟨intC (co m a) a.length, 1, 2⟩, ⟨ownC m b a.length, 1, 2⟩, ⟨intC (co m b) a.length, 1, 2⟩]) (l := M.length) (c := N) (ys := pairL m a b ds) (by simp) (pairL_wf hdr)
    have hlen : (pairL m a b ds).length = N := by simp [pairL, hNd]
    rw [hlen] at o1
    have htn : (m : Int).toNat = m := by omega
    rw [if_pos rfl, htn]
    refine ⟨_, _, L, List.prefix_append _ _, ?_, o1, fun l hl => by rw [o2 l hl]; simp⟩
    have p1 : M ++ [(⟨zc (.int .i64 0) N, 1, 2⟩ : Blk)] <+: M ++ [⟨zc (.int .i64 0) N, 1, 2⟩, ⟨zc (.bool false) N, 1, 2⟩] := ⟨[⟨zc (.bool false) N, 1, 2⟩], by simp⟩
    have p2 : M ++ [(⟨zc (.int .i64 0) N, 1, 2⟩ : Blk), ⟨zc (.bool false) N, 1, 2⟩] <+: M ++ [⟨zc (.int .i64 0) N, 1, 2⟩, ⟨zc (.bool false) N, 1, 2⟩, ⟨zc (.bool false) N, 1, 2⟩] := ⟨[⟨zc (.bool false) N, 1, 2⟩], by simp⟩
    have b1 : (N : Int) * 8 ≤ 281474976710656 := by omega
    have b2 : (N : Int) ≤ 9223372036854775807 := by omega
    have b3 : (N : Int) ≤ 281474976710656 := by omega
    have q3' : ((a.length : Int) = b.length) = True := eq_true (by omega)
    have q4' : (b.length = a.length) = True := eq_true (by omega)
    rw [hNd] at l0 l1
    simp only [hNd] at g3 ⊢
    rw [← q3] at g2 cb ⊢
    rw [aCall_eq T_impl_PairDraws]; unfold A_impl_PairDraws C_impl_PairDraws; simp [g1, g2, g3, q1, q2, q3', q4, w1, b1, b2, b3, p1, p2, thenD_pre, ca, cb, l0]
    rw [S_impl_PairDraws_0]; unfold B_impl_PairDraws_0; simp [l1]
    rw [S_impl_PairDraws_1]; unfold B_impl_PairDraws_1; simp
def coordsI (n : Int) (xs : List Int) : List Int := (List.range xs.length).map (coordI n xs)
def wsI (n : Int) (xs : List Int) : List Int := if seqB n xs = true then coordsI n xs else []
theorem idB_t {n x : Int} (h : idB n x = true) : ¬ x < -1 ∧ ¬ n ≤ x := by
  simp only [idB, Bool.and_eq_true, decide_eq_true_eq] at h; omega
theorem r_spec_l15Right (M : Mem) (n : Int) (a : Option Addr) (c : Nat) (xs : List ty_Int.D) (h : Rep (.sl ty_Int) M [.slice a xs.length c] xs) (hl : xs.length ≤ 700) (i : Nat) (hi : i < xs.length) (hq : idB n xs[i] = true) :
    lp (aCall T0) K_spec_l15Right_0 L_spec_l15Right_0 [.int .i64 n, .slice a xs.length c, und, und, und, .int .i64 i, und, und, und, und, und, und, und, und, und, und, und, und, und, und, und, und, und, und, und, und, und, und, und, und, und, und, und, und, und, und] M = lp (aCall T0) K_spec_l15Right_0 L_spec_l15Right_0 [.int .i64 n, .slice a xs.length c, und, und, und, .int .i64 (i + 1 : Nat), und, und, und, und, und, und, und, und, und, und, und, und, und, und, und, und, und, und, und, und, und, und, und, und, und, und, und, und, und, und] M := by
  obtain ⟨l, o, rfl, hrep, hrd⟩ := at_Int h hi
  have e6 : IntKind.i64.wrap ((i : Int) + 1) = i + 1 := wrap_i64 (by omega) (by omega)
  obtain ⟨q1, q2⟩ := idB_t hq
  rw [S_spec_l15Right_0]; unfold B_spec_l15Right_0; simp [hrd, e6, hi, q1, q2]
theorem idB_f {n x : Int} (h : idB n x = false) : x < -1 ∨ (¬ x < -1 ∧ n ≤ x) := by
  simp only [idB, Bool.and_eq_false_iff, decide_eq_false_iff_not] at h; omega
theorem x_spec_l15Right (M : Mem) (n : Int) (a : Option Addr) (c : Nat) (xs : List ty_Int.D) (h : Rep (.sl ty_Int) M [.slice a xs.length c] xs) (i : Nat) (hi : i < xs.length) (hq : idB n xs[i] = false) (k : ACode) :
    thenF M [.tmp 4] (thenS (blockR 0 (lp (aCall T0) K_spec_l15Right_0 L_spec_l15Right_0 [.int .i64 n, .slice a xs.length c, und, und, und, .int .i64 i, und, und, und, und, und, und, und, und, und, und, und, und, und, und, und, und, und, und, und, und, und, und, und, und, und, und, und, und, und, und] M)) (aCall T0) k) = some (.bool false, M) := by
  obtain ⟨l, o, rfl, hrep, hrd⟩ := at_Int h hi
  rcases idB_f hq with q1 | ⟨q1, q2⟩
  · rw [S_spec_l15Right_0]; unfold B_spec_l15Right_0; simp [hrd, hi, q1]
  · rw [S_spec_l15Right_0]; unfold B_spec_l15Right_0; simp [hrd, hi, q1, q2]
theorem c_spec_l15Right (M : Mem) (n : Int) (v : V) (xs : List ty_Int.D) (h : Rep (.sl ty_Int) M [v] xs) : aCall T0 F_spec_l15Right [.int .i64 n, v] M = some (.bool (seqB n xs), M) := by
  obtain ⟨a, c, rfl⟩ := h.slen
  unfold seqB
  by_cases h1 : n < 0
  · have : ¬ 0 ≤ n := by omega
    rw [aCall_eq T_spec_l15Right]; unfold A_spec_l15Right C_spec_l15Right; simp [h1, this]
  by_cases h2 : 256 < n
  · have : ¬ n ≤ 256 := by omega
    rw [aCall_eq T_spec_l15Right]; unfold A_spec_l15Right C_spec_l15Right; simp [h1, h2, this]
  by_cases h3 : 700 < (xs.length : Int)
  · have : ¬ (xs.length : Int) ≤ 700 := by omega
    rw [aCall_eq T_spec_l15Right]; unfold A_spec_l15Right C_spec_l15Right; simp [h1, h2, h3, this]
  have hb : (decide (0 ≤ n) && decide (n ≤ 256)) = true := by simp; omega
  have hb2 : decide ((xs.length : Int) ≤ 700) = true := by simp; omega
  rw [hb, hb2, Bool.true_and, Bool.true_and]
  rcases first_all (idB n) xs with ha | ⟨ha, j, hj, q1, q2⟩
  · have hc := chain (g := fun i : Nat => lp (aCall T0) K_spec_l15Right_0 L_spec_l15Right_0 [.int .i64 n, .slice a xs.length c, und, und, und, .int .i64 i, und, und, und, und, und, und, und, und, und, und, und, und, und, und, und, und, und, und, und, und, und, und, und, und, und, und, und, und, und, und] M) (n := xs.length) fun i hi => r_spec_l15Right M n a c xs h (by omega) i hi (all_at ha hi)
    simp only [Int.natCast_zero, Int.ofNat_zero] at hc
    rw [ha]
    rw [aCall_eq T_spec_l15Right]; unfold A_spec_l15Right C_spec_l15Right; simp [h1, h2, h3, hc]
    rw [S_spec_l15Right_0]; unfold B_spec_l15Right_0; simp
  · have hc := chain (g := fun i : Nat => lp (aCall T0) K_spec_l15Right_0 L_spec_l15Right_0 [.int .i64 n, .slice a xs.length c, und, und, und, .int .i64 i, und, und, und, und, und, und, und, und, und, und, und, und, und, und, und, und, und, und, und, und, und, und, und, und, und, und, und, und, und, und] M) (n := j) fun i hi => r_spec_l15Right M n a c xs h (by omega) i (by omega) (q1 i (by omega) hi)
    simp only [Int.natCast_zero, Int.ofNat_zero] at hc
    rw [ha]
    rw [aCall_eq T_spec_l15Right]; unfold A_spec_l15Right C_spec_l15Right; simp [h1, h2, h3, hc, x_spec_l15Right M n a c xs h j hj q2]
def coordC (n : Int) (xs : List Int) (i : Nat) : List V := (List.range i).map fun j => .int .i64 (coordI n xs j)
theorem r_spec_l15Coord (M : Mem) (n : Int) (a : Option Addr) (c : Nat) (xs : List ty_Int.D) (h : Rep (.sl ty_Int) M [.slice a xs.length c] xs) (hl : xs.length ≤ 700) (i : Nat) (hi : i < xs.length) (m : Nat) (hm : m < i) (hne : xs[m]'(by omega) ≠ xs[i]) :
    lp (aCall T0) K_spec_l15Coord_0 L_spec_l15Coord_0 [.int .i64 n, .slice a xs.length c, .int .i64 i, und, und, und, und, .int .i64 m, und, und, und, und, und, und, und, und, und, und, und, und, und, und, und, und, und, und, und, und, und, und, und, und, und, und, und, und, und, und] M = lp (aCall T0) K_spec_l15Coord_0 L_spec_l15Coord_0 [.int .i64 n, .slice a xs.length c, .int .i64 i, und, und, und, und, .int .i64 ((m : Int) - 1), und, und, und, und, und, und, und, und, und, und, und, und, und, und, und, und, und, und, und, und, und, und, und, und, und, und, und, und, und, und] M := by
  obtain ⟨l, o, rfl, _, hrd⟩ := at_Int h hi
  obtain ⟨l2, o2, e, _, hrd2⟩ := at_Int h (i := m) (by omega)
  cases e
  have e6 : IntKind.i64.wrap ((m : Int) - 1) = m - 1 := wrap_i64 (by omega) (by omega)
  have hm2 : m < xs.length := by omega
  rw [S_spec_l15Coord_0]; unfold B_spec_l15Coord_0; simp [hrd, hrd2, e6, hi, hm2, hne]
theorem l_spec_l15Coord (M : Mem) (n : Int) (hn : 0 ≤ n ∧ n ≤ 256) (a : Option Addr) (c : Nat) (xs : List ty_Int.D) (h : Rep (.sl ty_Int) M [.slice a xs.length c] xs) (hl : xs.length ≤ 700) (i : Nat) (hi : i < xs.length) : ∀ (m : Nat), m ≤ i →
    thenF M [.tmp 6] (thenS (blockR 0 (lp (aCall T0) K_spec_l15Coord_0 L_spec_l15Coord_0 [.int .i64 n, .slice a xs.length c, .int .i64 i, und, und, und, und, .int .i64 ((m : Int) - 1), und, und, und, und, und, und, und, und, und, und, und, und, und, und, und, und, und, und, und, und, und, und, und, und, und, und, und, und, und, und] M)) (aCall T0) (.seq (.reg false [⟨(some 34), .mv (.t 1), none⟩, ⟨(some 35), .mv (.t 2), none⟩, ⟨(some 36), .ia 1 (.t 34) (.t 35), none⟩, ⟨(some 37), .load1 (.t 36), none⟩, ⟨(some 6), .mv (.t 37), none⟩]) .ret)) = some (.int .i64 (lastAt n xs xs[i] m), M)
  | 0, _ => by
    obtain ⟨l, o, rfl, _, hrd⟩ := at_Int h hi
    rw [S_spec_l15Coord_0]; unfold B_spec_l15Coord_0; simp [hrd, hi, lastAt]
  | m + 1, hm => by
    have hm2 : m < xs.length := by omega
    have e : ((m + 1 : Nat) : Int) - 1 = m := by omega
    rw [e]
    by_cases he : xs[m] = xs[i]
    · have hb : lastAt n xs xs[i] (m + 1) = n + m := by
        unfold lastAt
        rw [List.getElem?_eq_getElem hm2, he]
        exact if_pos rfl
      rw [hb]
      obtain ⟨l, o, rfl, _, hrd⟩ := at_Int h hi
      obtain ⟨l2, o2, e, _, hrd2⟩ := at_Int h hm2
      cases e
      rw [he] at hrd2
      have e6 : IntKind.i64.wrap (n + (m : Int)) = n + m := wrap_i64 (by omega) (by omega)
      rw [S_spec_l15Coord_0]; unfold B_spec_l15Coord_0; simp [hrd, hrd2, e6, hi, hm2]
    · have hb : lastAt n xs xs[i] (m + 1) = lastAt n xs xs[i] m := by
        rw [lastAt, List.getElem?_eq_getElem hm2]
        exact if_neg (fun e => he (Option.some.inj e))
      rw [hb, r_spec_l15Coord M n a c xs h hl i hi m (by omega) he]
      exact l_spec_l15Coord M n hn a c xs h hl i hi m (by omega)
theorem c_spec_l15Coord (M : Mem) (n : Int) (hn : 0 ≤ n ∧ n ≤ 256) (v : V) (xs : List ty_Int.D) (h : Rep (.sl ty_Int) M [v] xs) (hl : xs.length ≤ 700) (i : Nat) (hi : i < xs.length) :
    aCall T0 F_spec_l15Coord [.int .i64 n, v, .int .i64 i] M = some (.int .i64 (coordI n xs i), M) := by
  obtain ⟨a, c, rfl⟩ := h.slen
  have hm := l_spec_l15Coord M n hn a c xs h hl i hi i (by omega)
  obtain ⟨l, o, rfl, _, hrd⟩ := at_Int h hi
  have ec : coordI n xs i = if (xs[i] : Int) < 0 then n + i else lastAt n xs xs[i] i := by
    unfold coordI
    rw [List.getElem?_eq_getElem hi]
  have e6 : IntKind.i64.wrap (n + (i : Int)) = n + i := wrap_i64 (by omega) (by omega)
  have e7 : IntKind.i64.wrap ((i : Int) - 1) = i - 1 := wrap_i64 (by omega) (by omega)
  rw [ec]
  by_cases hx : (xs[i] : Int) < 0
  · rw [if_pos hx]
    rw [aCall_eq T_spec_l15Coord]; unfold A_spec_l15Coord C_spec_l15Coord; simp [hrd, hi, hx, e6]
  · rw [if_neg hx]
    rw [aCall_eq T_spec_l15Coord]; unfold A_spec_l15Coord C_spec_l15Coord; simp [hrd, hi, hx, e7, hm]
theorem coordC_succ (n : Int) (xs : List Int) (i : Nat) : coordC n xs (i + 1) = coordC n xs i ++ [.int .i64 (coordI n xs i)] := by simp [coordC, List.range_succ]
theorem coordC_len (n : Int) (xs : List Int) (i : Nat) : (coordC n xs i).length = i := by simp [coordC]
theorem r_spec_Coords (M : Mem) (n : Int) (hn : 0 ≤ n ∧ n ≤ 256) (v : V) (xs : List ty_Int.D) (h : Rep (.sl ty_Int) M [v] xs) (hl : xs.length ≤ 700) (l : Nat) (i : Nat) (hi : i < xs.length) (hb : M[l]? = some ⟨coordC n xs i, 1, 2⟩) :
    lp (aCall T0) K_spec_Coords_0 L_spec_Coords_0 [.int .i64 n, v, und, und, und, und, .slice (some ⟨l, 0, none⟩) i i, .int .i64 i, und, und, und, und, und, und, und, und, und, und, und, und, und, und, und, und, und, und, und] M =
    lp (aCall T0) K_spec_Coords_0 L_spec_Coords_0 [.int .i64 n, v, und, und, und, und, .slice (some ⟨M.length + 1, 0, none⟩) (i + 1) (i + 1), .int .i64 (i + 1 : Nat), und, und, und, und, und, und, und, und, und, und, und, und, und, und, und, und, und, und, und] ((M ++ [(⟨[.int .i64 (coordI n xs i)], 1, 2⟩ : Blk)]).set l ⟨coordC n xs i, 1, 0⟩ ++ [⟨coordC n xs (i + 1), 1, 2⟩]) := by
  have ec := c_spec_l15Coord M n hn v xs h hl i hi
  have e6 : IntKind.i64.wrap ((i : Int) + 1) = i + 1 := wrap_i64 (by omega) (by omega)
  have esl := sliceCells_one (M := M) (v := .int .i64 (coordI n xs i)) (w := 1)
  have eap := app_full (M := M ++ [⟨[.int .i64 (coordI n xs i)], 1, 2⟩]) (w := 1) (bytes := 8) (l := l) (n := i) (cs := coordC n xs i) (ys := [.int .i64 (coordI n xs i)]) (m := 1) (get_pre (List.prefix_append _ _) hb) (by rw [coordC_len]; omega) (by omega) rfl (by omega) (by omega)
  rw [← coordC_succ] at eap
  obtain ⟨X, hX⟩ : ∃ X, X = (M ++ [(⟨[.int .i64 (coordI n xs i)], 1, 2⟩ : Blk)]).set l ⟨coordC n xs i, 1, 0⟩ ++ [⟨coordC n xs (i + 1), 1, 2⟩] := ⟨_, rfl⟩
  rw [← hX] at eap ⊢
  have hL : (M ++ [(⟨[.int .i64 (coordI n xs i)], 1, 2⟩ : Blk)]).length = M.length + 1 := by simp
  rw [hL] at eap
  obtain ⟨a, c, rfl⟩ := h.slen
  rw [S_spec_Coords_0]; unfold B_spec_Coords_0; simp [ec, e6, esl, eap, hi]
theorem l_spec_Coords (M0 : Mem) (n : Int) (hn : 0 ≤ n ∧ n ≤ 256) (v : V) (xs : List ty_Int.D) (h : Rep (.sl ty_Int) M0 [v] xs) (hl : xs.length ≤ 700) : ∀ (k i l : Nat) (N : Mem), i + k = xs.length → M0.length ≤ l → (M0 ++ N)[l]? = some ⟨coordC n xs i, 1, 2⟩ →
    ∃ l' N', M0.length ≤ l' ∧ (M0 ++ N')[l']? = some ⟨coordC n xs xs.length, 1, 2⟩ ∧
      lp (aCall T0) K_spec_Coords_0 L_spec_Coords_0 [.int .i64 n, v, und, und, und, und, .slice (some ⟨l, 0, none⟩) i i, .int .i64 i, und, und, und, und, und, und, und, und, und, und, und, und, und, und, und, und, und, und, und] (M0 ++ N) =
      lp (aCall T0) K_spec_Coords_0 L_spec_Coords_0 [.int .i64 n, v, und, und, und, und, .slice (some ⟨l', 0, none⟩) xs.length xs.length, .int .i64 xs.length, und, und, und, und, und, und, und, und, und, und, und, und, und, und, und, und, und, und, und] (M0 ++ N')
  | 0, i, l, N, hi, h1, h2 => by
    have e : i = xs.length := by omega
    subst e
    exact ⟨l, N, h1, h2, rfl⟩
  | k + 1, i, l, N, hi, h1, h2 => by
    rw [r_spec_Coords (M0 ++ N) n hn v xs (h.mono (List.prefix_append _ _)) hl l i (by omega) h2]
    rw [List.append_assoc M0 N, set_app h1, List.append_assoc M0]
    refine l_spec_Coords M0 n hn v xs h hl k (i + 1) _ _ (by omega) (by simp; omega) ?_
    rw [← List.append_assoc, List.getElem?_append_right (by simp; omega)]
    simp
    have e : M0.length + N.length + 1 - (M0.length + (N.length + 1)) = 0 := by omega
    rw [e]
    rfl
theorem c_spec_Coords (M : Mem) (n : Int) (v : V) (xs : List ty_Int.D) (h : Rep (.sl ty_Int) M [v] xs) (hs : seqB n xs = true) :
    ∃ l N, M.length ≤ l ∧ (M ++ N)[l]? = some ⟨coordC n xs xs.length, 1, 2⟩ ∧ aCall T0 F_spec_Coords [.int .i64 n, v] M = some (.tuple #[.slice (some ⟨l, 0, none⟩) xs.length xs.length, .bool true], M ++ N) := by
  have hq := hs
  simp only [seqB, Bool.and_eq_true, decide_eq_true_eq] at hq
  have e0 := c_spec_l15Right M n v xs h
  rw [hs] at e0
  obtain ⟨l, N, h1, h2, h3⟩ := l_spec_Coords M n hq.1 v xs h (by omega) xs.length 0 M.length [⟨[], 1, 2⟩] (by omega) (Nat.le_refl _) (by simp [coordC])
  refine ⟨l, N, h1, h2, ?_⟩
  simp only [Int.natCast_zero, Int.ofNat_zero] at h3
  obtain ⟨a, c, rfl⟩ := h.slen
  rw [aCall_eq T_spec_Coords]; unfold A_spec_Coords C_spec_Coords; simp [e0, zeroCells, h3]
  rw [S_spec_Coords_0]; unfold B_spec_Coords_0; simp
theorem lastAt_bound {n : Int} {xs : List Int} {x : Int} (hn : 0 ≤ n ∧ n ≤ 256) (hx : 0 ≤ x ∧ x < n) : ∀ j, j ≤ 700 → 0 ≤ lastAt n xs x j ∧ lastAt n xs x j ≤ 956
  | 0, _ => by unfold lastAt; omega
  | j + 1, h => by
    unfold lastAt
    split
    · omega
    · exact lastAt_bound hn hx j (by omega)
theorem coordsI_wf {n : Int} {xs : List Int} (h : seqB n xs = true) : ∀ y ∈ coordsI n xs, (Lit.int .i64 y).wf = true := by
  obtain ⟨h1, h2, h3⟩ := seqB_parts h
  intro y hy
  obtain ⟨i, hi, rfl⟩ := List.mem_map.1 hy
  have hi : i < xs.length := by simpa using hi
  have := h3 i hi
  apply wf_range
  unfold coordI
  rw [List.getElem?_eq_getElem hi]
  simp only
  split
  · omega
  · have := lastAt_bound (n := n) (xs := xs) (x := xs[i]) h1 (by omega) i (by omega)
    omega
theorem d_spec_Coords (M : Mem) (n : Int) (v : V) (xs : List Int) (h : Rep (.sl ty_Int) M [v] xs) :
    ∃ N vw, aCall T0 F_spec_Coords [.int .i64 n, v] M = some (.tuple #[vw, .bool (seqB n xs)], M ++ N) ∧ Rep (.sl ty_Int) (M ++ N) [vw] (wsI n xs) := by
  unfold wsI
  cases hb : seqB n xs with
  | false =>
    have e := c_spec_l15Right M n v xs h
    rw [hb] at e
    refine ⟨[], .slice none 0 0, ?_, .inl ⟨rfl, rfl⟩⟩
    rw [aCall_eq T_spec_Coords]; unfold A_spec_Coords C_spec_Coords; simp [e]
  | true =>
    obtain ⟨l, N, h1, h2, h3⟩ := c_spec_Coords M n v xs h hb
    have hm : coordC n xs xs.length = (coordsI n xs).map fun n => .int .i64 n := by simp [coordsI, coordC]
    rw [hm] at h2
    obtain ⟨L, o1, o2⟩ := own_block (c := xs.length) h2 (coordsI_wf hb)
    have hlen : (coordsI n xs).length = xs.length := by simp [coordsI]
    rw [hlen] at o1
    exact ⟨N, _, h3, o1.rep⟩
theorem drB_t {x : Int} (h : drB x = true) : ¬ x < 0 ∧ ¬ 65535 < x := by
  simp only [drB, Bool.and_eq_true, decide_eq_true_eq] at h; omega
theorem r_spec_l15Draws (M : Mem) (a : Option Addr) (c : Nat) (xs : List ty_Int.D) (h : Rep (.sl ty_Int) M [.slice a xs.length c] xs) (hl : xs.length ≤ 1048576) (i : Nat) (hi : i < xs.length) (hq : drB xs[i] = true) :
    lp (aCall T0) K_spec_l15Draws_0 L_spec_l15Draws_0 [und, und, .slice a xs.length c, und, und, und, und, .int .i64 i, und, und, und, und, und, und, und, und, und, und, und, und, und, und, und, und, und, und, und, und, und, und, und, und, und] M = lp (aCall T0) K_spec_l15Draws_0 L_spec_l15Draws_0 [und, und, .slice a xs.length c, und, und, und, und, .int .i64 (i + 1 : Nat), und, und, und, und, und, und, und, und, und, und, und, und, und, und, und, und, und, und, und, und, und, und, und, und, und] M := by
  obtain ⟨l, o, rfl, hrep, hrd⟩ := at_Int h hi
  have e6 : IntKind.i64.wrap ((i : Int) + 1) = i + 1 := wrap_i64 (by omega) (by omega)
  obtain ⟨q1, q2⟩ := drB_t hq
  rw [S_spec_l15Draws_0]; unfold B_spec_l15Draws_0; simp [hrd, e6, hi, q1, q2]
theorem drB_f {x : Int} (h : drB x = false) : x < 0 ∨ (¬ x < 0 ∧ 65535 < x) := by
  simp only [drB, Bool.and_eq_false_iff, decide_eq_false_iff_not] at h; omega
theorem x_spec_l15Draws (M : Mem) (a : Option Addr) (c : Nat) (xs : List ty_Int.D) (h : Rep (.sl ty_Int) M [.slice a xs.length c] xs) (i : Nat) (hi : i < xs.length) (hq : drB xs[i] = false) (k : ACode) :
    thenF M [.tmp 6] (thenS (blockR 0 (lp (aCall T0) K_spec_l15Draws_0 L_spec_l15Draws_0 [und, und, .slice a xs.length c, und, und, und, und, .int .i64 i, und, und, und, und, und, und, und, und, und, und, und, und, und, und, und, und, und, und, und, und, und, und, und, und, und] M)) (aCall T0) k) = some (.bool false, M) := by
  obtain ⟨l, o, rfl, hrep, hrd⟩ := at_Int h hi
  rcases drB_f hq with q1 | ⟨q1, q2⟩
  · rw [S_spec_l15Draws_0]; unfold B_spec_l15Draws_0; simp [hrd, hi, q1]
  · rw [S_spec_l15Draws_0]; unfold B_spec_l15Draws_0; simp [hrd, hi, q1, q2]
theorem c_spec_l15Draws (M : Mem) (n : Int) (hn : 0 ≤ n ∧ n ≤ 256) (vi v : V) (ids ds : List Int) (hi : Rep (.sl ty_Int) M [vi] ids) (h : Rep (.sl ty_Int) M [v] ds) (hl : ds.length ≤ 1048576) (hil : ids.length ≤ 700) : aCall T0 F_spec_l15Draws [.int .i64 n, vi, v] M = some (.bool (drsB (n + ids.length) ds), M) := by
  obtain ⟨a, c, rfl⟩ := h.slen
  obtain ⟨b, d, rfl⟩ := hi.slen
  have e1 : IntKind.i64.wrap (n + (ids.length : Int)) = n + ids.length := wrap_i64 (by omega) (by omega)
  unfold drsB
  by_cases hk : (ds.length : Int) = n + ids.length
  · have hk' : ((ds.length : Int) = n + ids.length) = True := eq_true hk
    rcases first_all drB ds with ha | ⟨ha, j, hj, q1, q2⟩
    · have hc := chain (g := fun i : Nat => lp (aCall T0) K_spec_l15Draws_0 L_spec_l15Draws_0 [und, und, .slice a ds.length c, und, und, und, und, .int .i64 i, und, und, und, und, und, und, und, und, und, und, und, und, und, und, und, und, und, und, und, und, und, und, und, und, und] M) (n := ds.length) fun i hi => r_spec_l15Draws M a c ds h hl i hi (all_at ha hi)
      simp only [Int.natCast_zero, Int.ofNat_zero] at hc
      rw [ha]
      rw [aCall_eq T_spec_l15Draws]; unfold A_spec_l15Draws C_spec_l15Draws; simp [e1, hk', hc]
      rw [S_spec_l15Draws_0]; unfold B_spec_l15Draws_0; simp
    · have hc := chain (g := fun i : Nat => lp (aCall T0) K_spec_l15Draws_0 L_spec_l15Draws_0 [und, und, .slice a ds.length c, und, und, und, und, .int .i64 i, und, und, und, und, und, und, und, und, und, und, und, und, und, und, und, und, und, und, und, und, und, und, und, und, und] M) (n := j) fun i hi => r_spec_l15Draws M a c ds h hl i (by omega) (q1 i (by omega) hi)
      simp only [Int.natCast_zero, Int.ofNat_zero] at hc
      rw [ha]
      rw [aCall_eq T_spec_l15Draws]; unfold A_spec_l15Draws C_spec_l15Draws; simp [e1, hk', hc, x_spec_l15Draws M a c ds h j hj q2]
  · rw [aCall_eq T_spec_l15Draws]; unfold A_spec_l15Draws C_spec_l15Draws; simp [e1, hk]
def anyI (U : List Int) (t : Int) : Bool := U.any fun x => decide (x = t)
def frL (U : List Int) (n : Nat) : List Nat := (List.range n).filter fun (t : Nat) => !anyI U t
def frC (U : List Int) (n : Nat) : List V := (frL U n).map fun (t : Nat) => .int .i64 t
theorem pre_set {M0 M : Mem} {l : Nat} {b : Blk} (h : M0 <+: M) (hl : M0.length ≤ l) : M0 <+: M.set l b := by
  obtain ⟨r, rfl⟩ := h
  rw [set_app hl]
  exact List.prefix_append _ _
theorem pre_app {M0 M N : Mem} (h : M0 <+: M) : M0 <+: M ++ N := h.trans (List.prefix_append _ _)
theorem frC_t {U : List Int} {n : Nat} (h : anyI U n = true) : frC U (n + 1) = frC U n := by
  unfold frC frL
  rw [List.range_succ, List.filter_append]
  simp [h]
theorem frC_f {U : List Int} {n : Nat} (h : anyI U n = false) : frC U (n + 1) = frC U n ++ [.int .i64 n] := by
  unfold frC frL
  rw [List.range_succ, List.filter_append]
  simp [h]
theorem frC_len (U : List Int) (n : Nat) : (frC U n).length ≤ n := by
  unfold frC frL
  rw [List.length_map]
  have := List.length_filter_le (fun (t : Nat) => !anyI U t) (List.range n)
  simpa using this
theorem r_spec_l15Rest_1 (M : Mem) (n : Int) (a : Option Addr) (c : Nat) (U : List Int) (hU : Rep (.sl ty_Int) M [.slice a U.length c] U) (hl : U.length ≤ 1048576) (out : V) (i : Nat) (j : Nat) (hj : j < U.length) :
    lp (aCall T0) K_spec_l15Rest_1 L_spec_l15Rest_1 [.int .i64 n, .slice a U.length c, und, und, und, out, .int .i64 i, .bool (anyI (U.take j) i), .int .i64 j, und, und, und, und, und, und, und, und, und, und, und, und, und, und, und, und, und, und, und, und, und, und, und, und, und, und, und, und] M =
    lp (aCall T0) K_spec_l15Rest_1 L_spec_l15Rest_1 [.int .i64 n, .slice a U.length c, und, und, und, out, .int .i64 i, .bool (anyI (U.take (j + 1)) i), .int .i64 (j + 1 : Nat), und, und, und, und, und, und, und, und, und, und, und, und, und, und, und, und, und, und, und, und, und, und, und, und, und, und, und, und] M := by
  have e6 : IntKind.i64.wrap ((j : Int) + 1) = j + 1 := wrap_i64 (by omega) (by omega)
  have eh : anyI (U.take (j + 1)) i = (anyI (U.take j) i || decide (U[j] = (i : Int))) := by
    unfold anyI
    rw [List.take_succ_eq_append_getElem hj, List.any_append]
    simp
  obtain ⟨l, o, rfl, _, hrd⟩ := at_Int hU hj
  rw [eh]
  cases hh : anyI (U.take j) i with
  | true => rw [S_spec_l15Rest_1]; unfold B_spec_l15Rest_1; simp [hj, e6]
  | false => rw [S_spec_l15Rest_1]; unfold B_spec_l15Rest_1; simp [hj, e6, hrd]
theorem r_spec_l15Rest_0 (M0 M : Mem) (hM : M0 <+: M) (n : Nat) (hn : n ≤ 1048576) (a : Option Addr) (c : Nat) (U : List Int) (hU : Rep (.sl ty_Int) M0 [.slice a U.length c] U) (hl : U.length ≤ 1048576) (i : Nat) (hi : i < n) (l : Nat) (hlo : M0.length ≤ l) (hb : M[l]? = some ⟨frC U i, 1, 2⟩) :
    ∃ l' M', M0 <+: M' ∧ M0.length ≤ l' ∧ M'[l']? = some ⟨frC U (i + 1), 1, 2⟩ ∧
    lp (aCall T0) K_spec_l15Rest_0 L_spec_l15Rest_0 [.int .i64 n, .slice a U.length c, und, und, und, .slice (some ⟨l, 0, none⟩) (frC U i).length (frC U i).length, .int .i64 i, und, und, und, und, und, und, und, und, und, und, und, und, und, und, und, und, und, und, und, und, und, und, und, und, und, und, und, und, und, und] M =
    lp (aCall T0) K_spec_l15Rest_0 L_spec_l15Rest_0 [.int .i64 n, .slice a U.length c, und, und, und, .slice (some ⟨l', 0, none⟩) (frC U (i + 1)).length (frC U (i + 1)).length, .int .i64 (i + 1 : Nat), und, und, und, und, und, und, und, und, und, und, und, und, und, und, und, und, und, und, und, und, und, und, und, und, und, und, und, und, und, und] M' := by
  have e6 : IntKind.i64.wrap ((i : Int) + 1) = i + 1 := wrap_i64 (by omega) (by omega)
  have hin := chain (g := fun j : Nat => lp (aCall T0) K_spec_l15Rest_1 L_spec_l15Rest_1 [.int .i64 n, .slice a U.length c, und, und, und, .slice (some ⟨l, 0, none⟩) (frC U i).length (frC U i).length, .int .i64 i, .bool (anyI (U.take j) i), .int .i64 j, und, und, und, und, und, und, und, und, und, und, und, und, und, und, und, und, und, und, und, und, und, und, und, und, und, und, und, und] M) (n := U.length) fun j hj => r_spec_l15Rest_1 M n a c U (hU.mono hM) hl _ i j hj
  have z0 : anyI (U.take 0) i = false := by simp [anyI]
  simp only [Int.natCast_zero, Int.ofNat_zero, z0, List.take_length] at hin
  have hle := frC_len U i
  cases hh : anyI U i with
  | true =>
    rw [hh] at hin
    refine ⟨l, M, hM, hlo, by rw [frC_t hh]; exact hb, ?_⟩
    rw [frC_t hh]
    rw [S_spec_l15Rest_0]; unfold B_spec_l15Rest_0; simp [hi, e6, hin]
    rw [S_spec_l15Rest_1]; unfold B_spec_l15Rest_1; simp [e6]
  | false =>
    rw [hh] at hin
    obtain ⟨A, hA⟩ : ∃ A, A = M ++ [(⟨[.int .i64 i], 1, 2⟩ : Blk)] := ⟨_, rfl⟩
    have eap := app_full (M := A) (w := 1) (bytes := 8) (l := l) (n := (frC U i).length) (cs := frC U i) (ys := [.int .i64 i]) (m := 1) (by rw [hA]; exact get_pre' hb) (by omega) (by omega) rfl (by omega) (by omega)
    rw [← frC_f hh] at eap
    have hAl : A.length = M.length + 1 := by rw [hA]; simp
    rw [hAl] at eap
    have esl := sliceCells_one (M := M) (v := .int .i64 i) (w := 1)
    rw [← hA] at esl
    have hMl := hM.length_le
    have hlen : (frC U (i + 1)).length = (frC U i).length + 1 := by rw [frC_f hh]; simp
    obtain ⟨B, hB⟩ : ∃ B, B = A.set l ⟨frC U i, 1, 0⟩ ++ [(⟨frC U (i + 1), 1, 2⟩ : Blk)] := ⟨_, rfl⟩
    rw [← hB] at eap
    have hAm := hA.symm
    refine ⟨M.length + 1, B, by rw [hB, hA]; exact pre_app (pre_set (pre_app hM) hlo), by omega, ?_, ?_⟩
    · rw [hB, List.getElem?_append_right (by simp [hAl])]
      simp [hAl]
    · rw [hlen]
      rw [S_spec_l15Rest_0]; unfold B_spec_l15Rest_0; simp [hi, e6, hin]
      rw [S_spec_l15Rest_1]; unfold B_spec_l15Rest_1; simp [e6, hAm, esl, eap]
theorem l_spec_l15Rest (M0 : Mem) (n : Nat) (hn : n ≤ 1048576) (a : Option Addr) (c : Nat) (U : List Int) (hU : Rep (.sl ty_Int) M0 [.slice a U.length c] U) (hl : U.length ≤ 1048576) : ∀ (k i l : Nat) (M : Mem), i + k = n → M0 <+: M → M0.length ≤ l → M[l]? = some ⟨frC U i, 1, 2⟩ →
    ∃ l' M', M0 <+: M' ∧ M0.length ≤ l' ∧ M'[l']? = some ⟨frC U n, 1, 2⟩ ∧
    lp (aCall T0) K_spec_l15Rest_0 L_spec_l15Rest_0 [.int .i64 n, .slice a U.length c, und, und, und, .slice (some ⟨l, 0, none⟩) (frC U i).length (frC U i).length, .int .i64 i, und, und, und, und, und, und, und, und, und, und, und, und, und, und, und, und, und, und, und, und, und, und, und, und, und, und, und, und, und, und] M =
    lp (aCall T0) K_spec_l15Rest_0 L_spec_l15Rest_0 [.int .i64 n, .slice a U.length c, und, und, und, .slice (some ⟨l', 0, none⟩) (frC U n).length (frC U n).length, .int .i64 n, und, und, und, und, und, und, und, und, und, und, und, und, und, und, und, und, und, und, und, und, und, und, und, und, und, und, und, und, und, und] M'
  | 0, i, l, M, hi, hM, h1, h2 => by
    have e : i = n := by omega
    subst e
    exact ⟨l, M, hM, h1, h2, rfl⟩
  | k + 1, i, l, M, hi, hM, h1, h2 => by
    obtain ⟨l', M', q1, q2, q3, q4⟩ := r_spec_l15Rest_0 M0 M hM n hn a c U hU hl i (by omega) l h1 h2
    rw [q4]
    exact l_spec_l15Rest M0 n hn a c U hU hl k (i + 1) l' M' (by omega) q1 q2 q3
theorem c_spec_l15Rest (M : Mem) (n : Nat) (hn : n ≤ 1048576) (v : V) (U : List Int) (hU : Rep (.sl ty_Int) M [v] U) (hl : U.length ≤ 1048576) :
    ∃ l M', M <+: M' ∧ M.length ≤ l ∧ M'[l]? = some ⟨frC U n, 1, 2⟩ ∧ aCall T0 F_spec_l15Rest [.int .i64 n, v] M = some (.slice (some ⟨l, 0, none⟩) (frC U n).length (frC U n).length, M') := by
  obtain ⟨a, c, rfl⟩ := hU.slen
  obtain ⟨l', M', q1, q2, q3, q4⟩ := l_spec_l15Rest M n hn a c U hU hl n 0 M.length (M ++ [⟨[], 1, 2⟩]) (by omega) (List.prefix_append _ _) (by omega) (by simp [frC, frL])
  have z0 : (frC U 0).length = 0 := rfl
  simp only [Int.natCast_zero, Int.ofNat_zero, z0] at q4
  refine ⟨l', M', q1, q2, q3, ?_⟩
  rw [aCall_eq T_spec_l15Rest]; unfold A_spec_l15Rest C_spec_l15Rest; simp [zeroCells, q4]
  rw [S_spec_l15Rest_0]; unfold B_spec_l15Rest_0; simp
theorem frL_co {n : Nat} {xs : List Int} (hs : ∀ i (hi : i < xs.length), xs[i] < (n : Int)) (N : Nat) : frL (coordsI n xs) N = freeL (co n xs) xs.length N := by
  unfold frL freeL
  apply List.filter_congr
  intro t _
  congr 1
  rw [Bool.eq_iff_iff, usB_iff]
  unfold anyI coordsI
  simp only [List.any_map, List.any_eq_true, List.mem_range, Function.comp, decide_eq_true_eq]
  constructor
  · rintro ⟨i, h1, h2⟩
    refine ⟨i, h1, ?_⟩
    have := (co_val hs h1).1
    omega
  · rintro ⟨i, h1, h2⟩
    refine ⟨i, h1, ?_⟩
    rw [(co_val hs h1).1, h2]
theorem rd_co {M : Mem} {a : Option Addr} {n c k : Nat} {xs : List Int} (hs : ∀ i (hi : i < xs.length), xs[i] < (n : Int)) (h : Rep (.sl ty_Int) M [.slice a k c] (coordsI n xs)) {i : Nat} (hi : i < xs.length) : ∃ l o, a = some ⟨l, o, none⟩ ∧ rd1 M l (o + i) = some (.int .i64 (co n xs i)) := by
  obtain ⟨l, o, rfl, _, hrd⟩ := at_Int h (i := i) (by simpa [coordsI] using hi)
  refine ⟨l, o, rfl, ?_⟩
  rw [← (co_val hs hi).1]
  simpa [coordsI] using hrd
theorem r_spec_PairDraws_0 (Q : Mem) (n N : Nat) (a b ds : List Int) (hsa : ∀ i (hi : i < a.length), a[i] < (n : Int)) (hsb : ∀ i (hi : i < b.length), b[i] < (n : Int)) (hab : a.length = b.length) (hk : a.length ≤ 700) (ad au av : Option Addr) (cd cu cv : Nat)
    (hd : Rep (.sl ty_Int) Q [.slice ad ds.length cd] ds) (hu : Rep (.sl ty_Int) Q [.slice au a.length cu] (coordsI n a)) (hv : Rep (.sl ty_Int) Q [.slice av a.length cv] (coordsI n b)) (hN : ds.length = N) (hua : ∀ i, i < a.length → co n a i < N) (hvb : ∀ i, i < a.length → co n b i < N) (i : Nat) (hi : i < a.length) :
    lp (aCall T0) K_spec_PairDraws_0 L_spec_PairDraws_0 [und, und, und, .slice ad ds.length cd, und, und, und, und, und, und, .slice au a.length cu, und, .slice av a.length cv, und, .slice (some ⟨Q.length, 0, none⟩) N N, .int .i64 i, und, und, und, und, und, und, und, und, und, und, und, und, und, und, und, und, und, und, und, und, und, und, und, und, und, und, und, und, und, und, und, und, und, und, und, und, und, und, und, und, und, und, und, und, und, und, und, und, und, und, und, und, und, und, und, und, und, und, und, und, und, und, und, und, und, und, und, und, und, und, und, und, und, und, und, und, und, und, und, und, und, und, und, und, und] (Q ++ [⟨arrC N (wrA (co n a) (co n b) ds i), 1, 2⟩]) =
    lp (aCall T0) K_spec_PairDraws_0 L_spec_PairDraws_0 [und, und, und, .slice ad ds.length cd, und, und, und, und, und, und, .slice au a.length cu, und, .slice av a.length cv, und, .slice (some ⟨Q.length, 0, none⟩) N N, .int .i64 (i + 1 : Nat), und, und, und, und, und, und, und, und, und, und, und, und, und, und, und, und, und, und, und, und, und, und, und, und, und, und, und, und, und, und, und, und, und, und, und, und, und, und, und, und, und, und, und, und, und, und, und, und, und, und, und, und, und, und, und, und, und, und, und, und, und, und, und, und, und, und, und, und, und, und, und, und, und, und, und, und, und, und, und, und, und, und, und, und, und] (Q ++ [⟨arrC N (wrA (co n a) (co n b) ds (i + 1)), 1, 2⟩]) := by
  have e6 : IntKind.i64.wrap ((i : Int) + 1) = i + 1 := wrap_i64 (by omega) (by omega)
  have h1 := hua i hi
  have h2 := hvb i hi
  obtain ⟨l1, o1, rfl, hr1⟩ := rd_co hsa hu hi
  obtain ⟨l2, o2, rfl, hr2⟩ := rd_co hsb hv (i := i) (by omega)
  obtain ⟨l3, o3, rfl, hr3⟩ := rd_draw hd (z := (co n a i : Int)) (by omega) (by omega)
  have hr1' : ∀ X, rd1 (Q ++ X) l1 (o1 + i) = some (.int .i64 (co n a i)) := fun X => rd1_old hr1
  have hr2' : ∀ X, rd1 (Q ++ X) l2 (o2 + i) = some (.int .i64 (co n b i)) := fun X => rd1_old hr2
  have hr3' : ∀ X, rd1 (Q ++ X) l3 (o3 + co n a i) = some (.int .i64 (drawAt ds (co n a i))) := fun X => rd1_old hr3
  have s1 : splice (arrC N (wrA (co n a) (co n b) ds i)) (co n b i) [.int .i64 (drawAt ds (co n a i))] = arrC N (wrA (co n a) (co n b) ds (i + 1)) := by
    rw [splice_one (by rw [arrC_len]; exact h2), arrC_set _ _ _ _ h2]; rfl
  have w1 := arrC_len N (wrA (co n a) (co n b) ds i)
  have v2 : co n b i + 1 ≤ N := h2
  have q1 : co n a i < ds.length := by omega
  unfold splice at s1
  simp at s1
  rw [S_spec_PairDraws_0]; unfold B_spec_PairDraws_0; simp [hi, e6, h1, h2, hr1', hr2', hr3', s1, w1, v2, q1]
theorem frC_get (U : List Int) (n j : Nat) (h : j < (frL U n).length) : (frC U n)[j]? = some (.int .i64 ((frL U n).getD j 0 : Nat)) := by
  unfold frC
  rw [List.getElem?_map, List.getD_eq_getElem?_getD, List.getElem?_eq_getElem h]
  rfl
theorem frL_lt (U : List Int) (n j : Nat) (h : j < (frL U n).length) : (frL U n).getD j 0 < n := by
  rw [List.getD_eq_getElem?_getD, List.getElem?_eq_getElem h]
  have hm := List.getElem_mem h
  unfold frL at hm
  simp only [List.mem_filter, List.mem_range] at hm
  exact hm.1
theorem r_spec_PairDraws_1 (Q R : Mem) (N : Nat) (ds U W : List Int) (ad : Option Addr) (cd pp lq : Nat) (f : Nat → Int) (hd : Rep (.sl ty_Int) Q [.slice ad ds.length cd] ds) (hN : ds.length = N) (hNs : N ≤ 1048576)
    (hp : ∀ x, (Q ++ x :: R)[pp]? = some ⟨frC U N, 1, 2⟩) (hq : ∀ x, (Q ++ x :: R)[lq]? = some ⟨frC W N, 1, 2⟩) (hle : (frL U N).length = (frL W N).length) (j : Nat) (hj : j < (frL U N).length) :
    lp (aCall T0) K_spec_PairDraws_1 L_spec_PairDraws_1 [und, und, und, .slice ad ds.length cd, und, und, und, und, und, und, und, und, und, und, .slice (some ⟨Q.length, 0, none⟩) N N, und, .slice (some ⟨pp, 0, none⟩) (frC U N).length (frC U N).length, .slice (some ⟨lq, 0, none⟩) (frC W N).length (frC W N).length, .int .i64 j, und, und, und, und, und, und, und, und, und, und, und, und, und, und, und, und, und, und, und, und, und, und, und, und, und, und, und, und, und, und, und, und, und, und, und, und, und, und, und, und, und, und, und, und, und, und, und, und, und, und, und, und, und, und, und, und, und, und, und, und, und, und, und, und, und, und, und, und, und, und, und, und, und, und, und, und, und, und, und, und, und, und] (Q ++ ⟨arrC N f, 1, 2⟩ :: R) =
    lp (aCall T0) K_spec_PairDraws_1 L_spec_PairDraws_1 [und, und, und, .slice ad ds.length cd, und, und, und, und, und, und, und, und, und, und, .slice (some ⟨Q.length, 0, none⟩) N N, und, .slice (some ⟨pp, 0, none⟩) (frC U N).length (frC U N).length, .slice (some ⟨lq, 0, none⟩) (frC W N).length (frC W N).length, .int .i64 (j + 1 : Nat), und, und, und, und, und, und, und, und, und, und, und, und, und, und, und, und, und, und, und, und, und, und, und, und, und, und, und, und, und, und, und, und, und, und, und, und, und, und, und, und, und, und, und, und, und, und, und, und, und, und, und, und, und, und, und, und, und, und, und, und, und, und, und, und, und, und, und, und, und, und, und, und, und, und, und, und, und, und, und, und, und, und] (Q ++ ⟨arrC N (upF f ((frL W N).getD j 0) (drawAt ds ((frL U N).getD j 0 : Nat))), 1, 2⟩ :: R) := by
  have hlU : (frC U N).length = (frL U N).length := by simp [frC]
  have hlW : (frC W N).length = (frL W N).length := by simp [frC]
  have hle2 := frC_len U N
  have e6 : IntKind.i64.wrap ((j : Int) + 1) = j + 1 := wrap_i64 (by omega) (by omega)
  have g1 := frC_get U N j hj
  have g2 := frC_get W N j (by omega)
  have t1 := frL_lt U N j hj
  have t2 := frL_lt W N j (by omega)
  obtain ⟨x, hx⟩ : ∃ x, x = (frL U N).getD j 0 := ⟨_, rfl⟩
  obtain ⟨y, hy⟩ : ∃ y, y = (frL W N).getD j 0 := ⟨_, rfl⟩
  rw [← hx] at g1 t1 ⊢
  rw [← hy] at g2 t2 ⊢
  have r1 : ∀ z, rd1 (Q ++ z :: R) pp j = some (.int .i64 x) := by
    intro z
    unfold rd1
    rw [hp z]
    simp only [or_true, if_true]
    exact g1
  have r2 : ∀ z, rd1 (Q ++ z :: R) lq j = some (.int .i64 y) := by
    intro z
    unfold rd1
    rw [hq z]
    simp only [or_true, if_true]
    exact g2
  obtain ⟨l3, o3, rfl, hr3⟩ := rd_draw hd (z := (x : Int)) (by omega) (by omega)
  have hr3' : ∀ X, rd1 (Q ++ X) l3 (o3 + x) = some (.int .i64 (drawAt ds x)) := fun X => rd1_old hr3
  have s1 : splice (arrC N f) y [.int .i64 (drawAt ds x)] = arrC N (upF f y (drawAt ds x)) := by
    rw [splice_one (by rw [arrC_len]; exact t2), arrC_set _ _ _ _ t2]
  have w1 := arrC_len N f
  have v2 : y + 1 ≤ N := t2
  have q1 : x < ds.length := by omega
  have q2 : j < (frL W N).length := by omega
  unfold splice at s1
  simp at s1
  rw [hlU, hlW]
  rw [S_spec_PairDraws_1]; unfold B_spec_PairDraws_1; simp [hj, q2, e6, t1, t2, r1, r2, hr3', s1, w1, v2, q1]
theorem d_spec_PairDraws (M : Mem) (n : Int) (v_a : V) (a : List Int) (h_a : Rep (.sl ty_Int) M [v_a] a) (hn_a : a.length ≤ 1048576) (v_b : V) (b : List Int) (h_b : Rep (.sl ty_Int) M [v_b] b) (hn_b : b.length ≤ 1048576) (v_ds : V) (ds : List Int) (h_ds : Rep (.sl ty_Int) M [v_ds] ds) (hn_ds : ds.length ≤ 1048576) :
    ∃ M' u, M <+: M' ∧ aCall T0 F_spec_PairDraws [.int .i64 n, v_a, v_b, v_ds] M = some (.tuple #[u, .bool (pairOk n a b ds)], M') ∧ Rep (.sl ty_Int) M' [u] (pairR n a b ds) := by
  obtain ⟨N1, va, e1, r1⟩ := d_spec_Coords M n v_a a h_a
  have p1 : M <+: M ++ N1 := List.prefix_append _ _
  generalize M ++ N1 = Q1 at e1 r1 p1
  obtain ⟨N2, vb, e2, r2⟩ := d_spec_Coords Q1 n v_b b (h_b.mono p1)
  have p2 : Q1 <+: Q1 ++ N2 := List.prefix_append _ _
  generalize Q1 ++ N2 = Q at e2 r2 p2
  have pQ := p1.trans p2
  unfold pairR
  cases hb : pairOk n a b ds with
  | false =>
    refine ⟨Q, .slice none 0 0, pQ, ?_, .inl ⟨rfl, rfl⟩⟩
    simp only [pairOk] at hb
    obtain ⟨_, _, rfl⟩ := r1.slen
    obtain ⟨_, _, rfl⟩ := r2.slen
    cases q1 : seqB n a with
    | false =>
      obtain ⟨_, _, rfl⟩ := h_a.slen
      obtain ⟨_, _, rfl⟩ := h_b.slen
      rw [aCall_eq T_spec_PairDraws]; unfold A_spec_PairDraws C_spec_PairDraws; simp [e1, e2, q1]
    | true =>
      have hsq := seqB_parts q1
      cases q2 : seqB n b with
      | false =>
        obtain ⟨_, _, rfl⟩ := h_a.slen
        obtain ⟨_, _, rfl⟩ := h_b.slen
        rw [aCall_eq T_spec_PairDraws]; unfold A_spec_PairDraws C_spec_PairDraws; simp [e1, e2, q1, q2]
      | true =>
        have g3 := c_spec_l15Draws Q n hsq.1 v_a v_ds a ds (h_a.mono pQ) (h_ds.mono pQ) hn_ds hsq.2.1
        obtain ⟨_, _, rfl⟩ := h_a.slen
        obtain ⟨_, _, rfl⟩ := h_b.slen
        rw [q1, q2, Bool.true_and, Bool.true_and] at hb
        by_cases q3 : (a.length : Int) = b.length
        · rw [decide_eq_true q3, Bool.true_and] at hb
          have q3' : ((a.length : Int) = b.length) = True := eq_true q3
          have q4' : (a.length = b.length) = True := eq_true (by omega)
          rw [aCall_eq T_spec_PairDraws]; unfold A_spec_PairDraws C_spec_PairDraws; simp [e1, e2, g3, q1, q2, q3', q4', hb]
        · have q4 : ¬ a.length = b.length := by omega
          rw [aCall_eq T_spec_PairDraws]; unfold A_spec_PairDraws C_spec_PairDraws; simp [e1, e2, q1, q2, q3, q4]
  | true =>
    obtain ⟨q1, q2, q3, q4, hdl, hdr⟩ := pair_parts hb
    obtain ⟨h1, h2, h3⟩ := seqB_parts q1
    obtain ⟨_, k2, k3⟩ := seqB_parts q2
    have g3 := c_spec_l15Draws Q n h1 v_a v_ds a ds (h_a.mono pQ) (h_ds.mono pQ) hn_ds h2
    obtain ⟨m, rfl⟩ : ∃ m : Nat, n = m := ⟨n.toNat, by omega⟩
    have hsa : ∀ i (hi : i < a.length), a[i] < (m : Int) := fun i hi => (h3 i hi).2
    have hsb : ∀ i (hi : i < b.length), b[i] < (m : Int) := fun i hi => (k3 i hi).2
    obtain ⟨N, hNd⟩ : ∃ N, ds.length = N := ⟨_, rfl⟩
    have wa : wsI m a = coordsI m a := if_pos q1
    have wb : wsI m b = coordsI m b := if_pos q2
    rw [wa] at r1
    rw [wb] at r2
    have r1 := r1.mono p2
    have la : (coordsI m a).length = a.length := by simp [coordsI]
    have lb : (coordsI m b).length = a.length := by simp [coordsI, q3]
    have hua : ∀ i, i < a.length → co m a i < N := fun i hi => by have := (co_val hsa hi).2; omega
    have hvb : ∀ i, i < a.length → co m b i < N := fun i hi => by have := (co_val hsb (i := i) (by omega)).2; omega
    have ia : ∀ i j, i < j → j < a.length → co m a i ≠ co m a j := fun i j hij hj e => coord_inj hsa hij hj (by rw [(co_val hsa (i := i) (by omega)).1, (co_val hsa hj).1, e])
    have ib : ∀ i j, i < j → j < a.length → co m b i ≠ co m b j := fun i j hij hj e => coord_inj hsb hij (by omega) (by rw [(co_val hsb (i := i) (by omega)).1, (co_val hsb (i := j) (by omega)).1, e])
    have fa := free_count (co m a) N a.length hua ia
    have fb := free_count (co m b) N a.length hvb ib
    have la2 := frL_co hsa N
    have lb2 := frL_co hsb N
    rw [← q3] at lb2
    obtain ⟨ad, cd, rfl⟩ := h_ds.slen
    obtain ⟨au, cu, rfl⟩ := r1.slen
    obtain ⟨av, cv, rfl⟩ := r2.slen
    simp only [la, lb] at e1 e2 r1 r2
    have hdQ := h_ds.mono pQ
    have l0 := chain (n := a.length) fun i hi => r_spec_PairDraws_0 Q m N a b ds hsa hsb q3 h2 ad au av cd cu cv hdQ r1 r2 hNd hua hvb i hi
    obtain ⟨pl, Q2, u1, u2, u3, u4⟩ := c_spec_l15Rest (Q ++ [⟨arrC N (wrA (co m a) (co m b) ds a.length), 1, 2⟩]) N (by omega) (.slice au a.length cu) (coordsI m a) (r1.mono (List.prefix_append _ _)) (by omega)
    obtain ⟨ql, Q3, t1, t2, t3, t4⟩ := c_spec_l15Rest Q2 N (by omega) (.slice av a.length cv) (coordsI m b) (r2.mono ((List.prefix_append _ _).trans u1)) (by omega)
    obtain ⟨R, hR⟩ := u1.trans t1
    have u3' : Q3[pl]? = some ⟨frC (coordsI m a) N, 1, 2⟩ := get_pre t1 u3
    rw [List.append_assoc, List.singleton_append] at hR
    have hul := u1.length_le
    have reloc : ∀ (l : Nat) (B : Blk), Q.length + 1 ≤ l → Q3[l]? = some B → ∀ x, (Q ++ x :: R)[l]? = some B := by
      intro l B hl hB x
      rw [← hR, List.getElem?_append_right (by omega)] at hB
      rw [List.getElem?_append_right (by omega)]
      rw [show l - Q.length = (l - Q.length - 1) + 1 by omega] at hB ⊢
      simpa using hB
    simp only [List.length_append, List.length_cons, List.length_nil] at u2 hul
    have hpp := reloc pl _ u2 u3'
    have hqq := reloc ql _ (by omega) t3
    have l1 := chain (n := (frL (coordsI m a) N).length) (g := fun j : Nat => lp (aCall T0) K_spec_PairDraws_1 L_spec_PairDraws_1 [und, und, und, .slice ad ds.length cd, und, und, und, und, und, und, und, und, und, und, .slice (some ⟨Q.length, 0, none⟩) N N, und, .slice (some ⟨pl, 0, none⟩) (frC (coordsI m a) N).length (frC (coordsI m a) N).length, .slice (some ⟨ql, 0, none⟩) (frC (coordsI m b) N).length (frC (coordsI m b) N).length, .int .i64 j, und, und, und, und, und, und, und, und, und, und, und, und, und, und, und, und, und, und, und, und, und, und, und, und, und, und, und, und, und, und, und, und, und, und, und, und, und, und, und, und, und, und, und, und, und, und, und, und, und, und, und, und, und, und, und, und, und, und, und, und, und, und, und, und, und, und, und, und, und, und, und, und, und, und, und, und, und, und, und, und, und, und] (Q ++ ⟨arrC N (wrB (co m a) (co m b) ds a.length N j), 1, 2⟩ :: R)) fun j hj => by
      have h := r_spec_PairDraws_1 Q R N ds (coordsI m a) (coordsI m b) ad cd pl ql (wrB (co m a) (co m b) ds a.length N j) hdQ hNd (by omega) hpp hqq (by rw [la2, lb2]; omega) j hj
      rw [h]
      rw [wrB, la2, lb2]
    have hlen2 : (frL (coordsI m a) N).length = (freeL (co m a) a.length N).length := by rw [la2]
    rw [hlen2] at l1
    simp only [Int.natCast_zero, Int.ofNat_zero, wrA, arrC_zero, wrB] at l0 l1
    have hfin : arrC N (wrB (co m a) (co m b) ds a.length N (freeL (co m a) a.length N).length) = (pairL m a b ds).map fun x => .int .i64 x := by
      rw [← arr_pair, hNd]
      unfold pairF
      rw [hNd]
    rw [hfin] at l1
    obtain ⟨L, o1, o2⟩ := own_block (M := Q ++ ⟨(pairL m a b ds).map fun x => .int .i64 x, 1, 2⟩ :: R) (l := Q.length) (c := N) (ys := pairL m a b ds) (by simp) (pairL_wf hdr)
    have hlen : (pairL m a b ds).length = N := by simp [pairL, hNd]
    rw [hlen] at o1
    have htn : (m : Int).toNat = m := by omega
    rw [if_pos rfl, htn]
    refine ⟨_, _, pQ.trans (List.prefix_append _ _), ?_, o1.rep⟩
    have b1 : (N : Int) * 8 ≤ 281474976710656 := by omega
    have b2 : (N : Int) ≤ 9223372036854775807 := by omega
    have q3' : ((a.length : Int) = b.length) = True := eq_true (by omega)
    have q4' : (b.length = a.length) = True := eq_true (by omega)
    obtain ⟨ai, ci, rfl⟩ := h_a.slen
    obtain ⟨bi, di, rfl⟩ := h_b.slen
    rw [hNd] at l0 l1
    simp only [hNd] at g3 ⊢
    rw [← q3] at e2 ⊢
    have hlc : (frC (coordsI m a) N).length = (freeL (co m a) a.length N).length := by rw [← hlen2]; simp [frC]
    have z : (freeL (co m a) a.length N).length ≤ N := by omega
    rw [← hR] at t4
    rw [aCall_eq T_spec_PairDraws]; unfold A_spec_PairDraws C_spec_PairDraws; simp [e1, e2, g3, q1, q2, q3', q4', q4, b1, b2, l0]
    rw [S_spec_PairDraws_0]; unfold B_spec_PairDraws_0; simp [u4, t4, l1]
    rw [S_spec_PairDraws_1]; unfold B_spec_PairDraws_1; simp [hlc]
theorem c_laws_big (M : Mem) (a : Option Addr) (n c : Nat) : aCall T0 F_laws_big [.slice a n c] M = some (.bool (decide (1048576 < n)), M) := by
  by_cases h : 1048576 < n
  · have h' : (1048576 : Int) < n := by omega
    rw [decide_eq_true h]
    rw [aCall_eq T_laws_big]; unfold A_laws_big C_laws_big; simp [thenD_pp, sliceCells_sl, sliceCells_z, sliceCells_nil, take_full, appS_sl, appK_ok, appS_none, thenD_ag, agP_nil, agP_cons, h']
  · have h' : ¬ (1048576 : Int) < n := by omega
    rw [decide_eq_false h]
    rw [aCall_eq T_laws_big]; unfold A_laws_big C_laws_big; simp [thenD_pp, sliceCells_sl, sliceCells_z, sliceCells_nil, take_full, appS_sl, appK_ok, appS_none, thenD_ag, agP_nil, agP_cons, h']
theorem wrA_at (us vs : Nat → Nat) (ds : List Int) : ∀ k, (∀ i j, i < j → j < k → vs i ≠ vs j) → ∀ i, i < k → wrA us vs ds k (vs i) = drawAt ds (us i)
  | 0, _, i, hi => by omega
  | k + 1, h, i, hi => by
    unfold wrA upF
    by_cases e : i = k
    · subst e
      rw [if_pos rfl]
    · rw [if_neg (h i k (by omega) (by omega))]
      exact wrA_at us vs ds k (fun a b hab hb => h a b hab (by omega)) i (by omega)
theorem freeL_mem {us : Nat → Nat} {k N t : Nat} : t ∈ freeL us k N ↔ t < N ∧ usB us k t = false := by
  unfold freeL
  rw [List.mem_filter, List.mem_range]
  simp
theorem freeL_getD {us : Nat → Nat} {k N j : Nat} (hj : j < (freeL us k N).length) : (freeL us k N).getD j 0 ∈ freeL us k N := by
  rw [List.getD_eq_getElem?_getD, List.getElem?_eq_getElem hj]
  exact List.getElem_mem hj
theorem wrB_used (us vs : Nat → Nat) (ds : List Int) (k N t : Nat) (ht : usB vs k t = true) : ∀ m, m ≤ (freeL vs k N).length → wrB us vs ds k N m t = wrA us vs ds k t
  | 0, _ => rfl
  | m + 1, h => by
    unfold wrB upF
    rw [if_neg (fun e => ?_)]
    · exact wrB_used us vs ds k N t ht m (by omega)
    · have := (freeL_mem.1 (freeL_getD (us := vs) (k := k) (N := N) (j := m) (by omega))).2
      rw [← e, ht] at this
      exact absurd this (by decide)
theorem freeL_nd (us : Nat → Nat) (k N : Nat) : (freeL us k N).Nodup := List.Pairwise.filter _ List.nodup_range
theorem freeL_ne {us : Nat → Nat} {k N i j : Nat} (hij : i < j) (hj : j < (freeL us k N).length) : (freeL us k N).getD i 0 ≠ (freeL us k N).getD j 0 := by
  rw [List.getD_eq_getElem?_getD, List.getD_eq_getElem?_getD, List.getElem?_eq_getElem hj, List.getElem?_eq_getElem (show i < (freeL us k N).length by omega)]
  exact List.pairwise_iff_getElem.1 (freeL_nd us k N) i j (by omega) hj hij
theorem wrB_free (us vs : Nat → Nat) (ds : List Int) (k N : Nat) : ∀ m, m ≤ (freeL vs k N).length → ∀ j, j < m → wrB us vs ds k N m ((freeL vs k N).getD j 0) = drawAt ds ((freeL us k N).getD j 0 : Nat)
  | 0, _, j, hj => by omega
  | m + 1, h, j, hj => by
    unfold wrB upF
    by_cases e : j = m
    · subst e
      rw [if_pos rfl]
    · rw [if_neg (freeL_ne (by omega) (by omega))]
      exact wrB_free us vs ds k N m (by omega) j (by omega)
theorem pair_gen {us vs : Nat → Nat} {k N : Nat} {ds D : List Int} (hu : ∀ i, i < k → us i < N) (hv : ∀ i, i < k → vs i < N) (iu : ∀ i j, i < j → j < k → us i ≠ us j) (iv : ∀ i j, i < j → j < k → vs i ≠ vs j)
    (hD : ∀ t, t < N → drawAt D (t : Nat) = wrB us vs ds k N (freeL us k N).length t) (t : Nat) (ht : t < N) : wrB vs us D k N (freeL vs k N).length t = drawAt ds (t : Nat) := by
  have cu := free_count us N k hu iu
  have cv := free_count vs N k hv iv
  cases h : usB us k t with
  | true =>
    rw [wrB_used vs us D k N t h _ (by omega)]
    obtain ⟨i, hi, rfl⟩ := (usB_iff us k t).1 h
    rw [wrA_at vs us D k iu i hi, hD _ (hv i hi), wrB_used us vs ds k N (vs i) ((usB_iff vs k _).2 ⟨i, hi, rfl⟩) _ (by omega), wrA_at us vs ds k iv i hi]
  | false =>
    obtain ⟨j, hj, e⟩ := List.getElem_of_mem (freeL_mem.2 ⟨ht, h⟩ : t ∈ freeL us k N)
    have e2 : (freeL us k N).getD j 0 = t := by rw [List.getD_eq_getElem?_getD, List.getElem?_eq_getElem hj]; exact e
    rw [← e2, wrB_free vs us D k N _ (by omega) j (by omega)]
    have hm := (freeL_mem.1 (freeL_getD (us := vs) (k := k) (N := N) (j := j) (by omega))).1
    rw [hD _ hm, wrB_free us vs ds k N _ (by omega) j (by omega)]
theorem drawAt_nat {ds : List Int} {t : Nat} (h : t < ds.length) : drawAt ds (t : Int) = ds[t] := by
  unfold drawAt
  simp [h]
theorem pairL_len (n : Nat) (a b ds : List Int) : (pairL n a b ds).length = ds.length := by simp [pairL]
theorem pairL_at {n : Nat} {a b ds : List Int} {t : Nat} (h : t < ds.length) : drawAt (pairL n a b ds) (t : Int) = pairF n a b ds t := by
  rw [drawAt_nat (by rw [pairL_len]; exact h)]
  simp [pairL]
theorem seq_lt {n : Int} {xs : List Int} (h : seqB n xs = true) : 0 ≤ n ∧ n ≤ 256 ∧ xs.length ≤ 700 ∧ ∀ i (hi : i < xs.length), xs[i] < n := by
  unfold seqB at h
  simp only [Bool.and_eq_true, decide_eq_true_eq, List.all_eq_true, idB] at h
  obtain ⟨⟨h1, h2⟩, h3, h4⟩ := h
  refine ⟨h1, h2, by omega, fun i hi => ?_⟩
  have := (h4 _ (List.getElem_mem hi)).2
  omega
theorem pairL_range {n : Nat} {a b ds : List Int} (h : ∀ x ∈ ds, 0 ≤ x ∧ x ≤ 65535) : ∀ y ∈ pairL n a b ds, 0 ≤ y ∧ y ≤ 65535 := by
  intro y hy
  obtain ⟨t, _, rfl⟩ := List.mem_map.1 hy
  have hA : ∀ i t, 0 ≤ wrA (co n a) (co n b) ds i t ∧ wrA (co n a) (co n b) ds i t ≤ 65535 := by
    intro i
    induction i with
    | zero => intro t; simp [wrA]
    | succ i ih => exact upF_range ih (draw_range h _)
  have hB : ∀ j t, 0 ≤ wrB (co n a) (co n b) ds a.length ds.length j t ∧ wrB (co n a) (co n b) ds a.length ds.length j t ≤ 65535 := by
    intro j
    induction j with
    | zero => exact hA _
    | succ j ih => exact upF_range ih (draw_range h _)
  exact hB (freeL (co n a) a.length ds.length).length t
/-- What the law asks of the paired draws. -/
theorem pair_law {n l : Int} {a b ds : List Int} (h : pairOk n a b ds = true) (hl : 0 ≤ l ∧ l ≤ 6) :
    pathOk n l a ds = true ∧ pathOk n l b (pairR n a b ds) = true ∧ pairOk n b a (pairR n a b ds) = true ∧ pathsI n l a ds = pathsI n l b (pairR n a b ds) ∧ pairR n b a (pairR n a b ds) = ds := by
  obtain ⟨h1, h2, h3, h4, h5, h6⟩ := pair_parts h
  obtain ⟨n0, n1, la, hsa⟩ := seq_lt h1
  obtain ⟨_, _, lb, hsb⟩ := seq_lt h2
  obtain ⟨m, rfl⟩ := Int.eq_ofNat_of_zero_le n0
  have hR : pairR (m : Int) a b ds = pairL m a b ds := by unfold pairR; rw [if_pos h]; rfl
  rw [hR]
  have hlg : logB l = true := by unfold logB; simp [hl.1, hl.2]
  have hd2 : drsB ((m : Int) + b.length) (pairL m a b ds) = true := by
    unfold drsB
    rw [pairL_len]
    simp only [Bool.and_eq_true, decide_eq_true_eq, List.all_eq_true]
    refine ⟨by omega, fun x hx => ?_⟩
    have := pairL_range h6 x hx
    unfold drB
    simp [this.1, this.2]
  have hok2 : pairOk (m : Int) b a (pairL m a b ds) = true := by
    unfold pairOk
    rw [h1, h2, hd2]
    simp
    omega
  have hN : ds.length = m + a.length := by omega
  have hu : ∀ i, i < a.length → co m a i < ds.length := fun i hi => by have := (co_val hsa hi).2; omega
  have hv : ∀ i, i < a.length → co m b i < ds.length := fun i hi => by have := (co_val hsb (i := i) (by omega)).2; omega
  have ia : ∀ i j, i < j → j < a.length → co m a i ≠ co m a j := fun i j hij hj e => coord_inj hsa hij hj (by rw [(co_val hsa (i := i) (by omega)).1, (co_val hsa hj).1, e])
  have ib : ∀ i j, i < j → j < a.length → co m b i ≠ co m b j := fun i j hij hj e => coord_inj hsb hij (by omega) (by rw [(co_val hsb (i := i) (by omega)).1, (co_val hsb (i := j) (by omega)).1, e])
  refine ⟨by unfold pathOk; rw [h1, hlg, h4]; rfl, by unfold pathOk; rw [h2, hlg, hd2]; rfl, hok2, ?_, ?_⟩
  · unfold pathsI
    rw [h3]
    refine List.map_congr_left fun i hi => ?_
    have hi : i < b.length := List.mem_range.1 hi
    have hia : i < a.length := by omega
    unfold pathI
    rw [(co_val hsa hia).1, (co_val hsb hi).1, pairL_at (hv i hia)]
    unfold pairF
    have cu := free_count (co m a) ds.length a.length hu ia
    have cv := free_count (co m b) ds.length a.length hv ib
    rw [wrB_used _ _ _ _ _ _ ((usB_iff _ _ _).2 ⟨i, hia, rfl⟩) _ (by omega), wrA_at _ _ _ _ ib i hia]
  · unfold pairR
    rw [if_pos hok2]
    refine List.ext_getElem (by rw [pairL_len, pairL_len]) fun t ht1 ht2 => ?_
    have e0 : (pairL (m : Int).toNat b a (pairL m a b ds))[t] = pairF m b a (pairL m a b ds) t := by simp [pairL]
    rw [e0]
    have := pair_gen (us := co m a) (vs := co m b) (k := a.length) (N := ds.length) (ds := ds) (D := pairL m a b ds) hu hv ia ib (fun t ht => pairL_at ht) t ht2
    rw [drawAt_nat ht2] at this
    unfold pairF
    rw [pairL_len, ← h3]
    exact this
abbrev ty_Byte : Ty := .u8
theorem rep_blk {t : Ty} {M : Mem} {l o n c : Nat} {xs : List t.D} (h : Rep (.sl t) M [.slice (some ⟨l, o, none⟩) n c] xs) : ∃ blk, M[l]? = some blk ∧ blk.w = t.w ∧ n = xs.length := by
  rcases h with ⟨h, _⟩ | ⟨l', o', c', blk, css, e, h2, h3, h4, h5, h6, h7⟩
  · simp at h
  · simp only [List.cons.injEq, Value.slice.injEq, Option.some.injEq, Addr.mk.injEq, and_true, true_and] at e
    obtain ⟨⟨rfl, rfl⟩, rfl, rfl⟩ := e
    exact ⟨blk, h2, h4, rfl⟩
theorem rep_take {t : Ty} {M : Mem} {l o n c : Nat} {xs : List t.D} (h : Rep (.sl t) M [.slice (some ⟨l, o, none⟩) n c] xs) (k : Nat) (hk : k ≤ xs.length) (c2 : Nat) : Rep (.sl t) M [.slice (some ⟨l, o, none⟩) k c2] (xs.take k) := by
  rcases h with ⟨e, rfl⟩ | ⟨l', o', c', blk, css, e, h2, h3, h4, h5, h6, h7⟩
  · simp at e
  · simp only [List.cons.injEq, Value.slice.injEq, Option.some.injEq, Addr.mk.injEq, and_true] at e
    obtain ⟨⟨rfl, rfl⟩, rfl, rfl⟩ := e
    refine .inr ⟨l, o, c2, blk, css.take k, ?_, h2, ?_, h4, ?_, ?_, ?_⟩
    · rw [List.length_take, Nat.min_eq_left hk]
    · rcases h3 with h3 | h3 | h3
      · exact .inl h3
      · exact .inr (.inl h3)
      · exact .inr (.inr (by subst h3; simp))
    · rw [List.length_take, List.length_take, h5]
    · intro i ds x hd hx
      rw [List.getElem?_take] at hd hx
      split at hd
      · rename_i hik
        rw [if_pos hik] at hx
        exact h6 _ _ _ hd hx
      · cases hd
    · have : (css.take k).flatten <+: css.flatten := by
        conv => rhs; rw [← List.take_append_drop k css, List.flatten_append]
        exact List.prefix_append _ _
      exact this.trans h7
def inI (x : Int) : Prop := -9223372036854775808 ≤ x ∧ x ≤ 9223372036854775807
/-- How the cursor is used: its code, and room enough. -/
structure CurH (M0 : Mem) (cv : V) : Prop where
  code : ∃ code : List UInt8, Rep (.sl ty_Byte) M0 [cv] code ∧ code.length ≤ 1048576
/-- The cursor's block, and how far it may have come. -/
def Cur (M0 : Mem) (p : Nat) (cv : V) (B : Int) (X : Mem) : Prop := M0 <+: X ∧ M0.length ≤ p ∧ ∃ at' seed : Int, X[p]? = some ⟨[cv, .int .i64 at', .int .i64 seed], 1, 2⟩ ∧ 0 ≤ at' ∧ at' ≤ B ∧ 0 ≤ seed ∧ seed ≤ 65520
theorem Cur.mono {M0 X : Mem} {p : Nat} {cv : V} {B B' : Int} (h : Cur M0 p cv B X) (hb : B ≤ B') : Cur M0 p cv B' X := by
  obtain ⟨h1, h2, a, s, h3, h4, h5, h6⟩ := h
  exact ⟨h1, h2, a, s, h3, h4, by omega, h6⟩
theorem Cur.lt {M0 X : Mem} {p : Nat} {cv : V} {B : Int} (h : Cur M0 p cv B X) : p < X.length := by
  obtain ⟨_, _, a, s, h3, _⟩ := h
  exact get_lt h3
theorem Cur.grow {M0 X X' : Mem} {p : Nat} {cv : V} {B : Int} (h : Cur M0 p cv B X) (hp : X <+: X') : Cur M0 p cv B X' := by
  obtain ⟨h1, h2, a, s, h3, h4⟩ := h
  exact ⟨h1.trans hp, h2, a, s, get_pre hp h3, h4⟩
def CurB (M0 : Mem) (p : Nat) (cv : V) (B : Int) (X : Mem) (r : V × Mem) : Prop := ∃ b : Bool, r.1 = .bool b ∧ Cur M0 p cv B r.2 ∧ Agree X r.2 [p]
theorem ag_refl (X : Mem) (w : List Nat) : Agree X X w := ⟨Nat.le_refl _, fun _ _ _ => rfl⟩
abbrev enc_Byte (x : ty_Byte.D) : List V := [byteV x]
theorem at_Byte {M : Mem} {a : Option Addr} {n c : Nat} {xs : List ty_Byte.D} (h : Rep (.sl ty_Byte) M [.slice a n c] xs) {i : Nat} (hi : i < xs.length) : ∃ l o, a = some ⟨l, o, none⟩ ∧ Rep ty_Byte M (enc_Byte xs[i]) xs[i] ∧ rd1 M l (o + i) = some (byteV xs[i]) := by
  obtain ⟨_, l, o, rfl, cs, hrd, hrep⟩ := rep_at h hi
  have hcs : cs = enc_Byte xs[i] := hrep
  subst hcs
  have hw1 : ty_Byte.w = 1 := rfl
  rw [hw1, Nat.mul_one] at hrd
  exact ⟨l, o, rfl, hrep, rd1_of_one hrd⟩
theorem gc_np {M M' : Mem} {v : V} (h : ¬ M <+: M') : gc M (some (v, M')) = some (v, M') := by
  simp only [gc]
  rw [if_neg (fun q => h q.2)]
/-- What a draw leaves: a number, the cursor further on. -/
def CurI (M0 : Mem) (p : Nat) (cv : V) (B : Int) (P : Int → Prop) (X : Mem) (r : V × Mem) : Prop := ∃ x : Int, r.1 = .int .i64 x ∧ P x ∧ Cur M0 p cv B r.2 ∧ Agree X r.2 [p]
theorem agree_set {X : Mem} {p : Nat} (b : Blk) : Agree X (X.set p b) [p] := ⟨by simp, fun j _ hn => gt_set (by simp at hn; omega)⟩
theorem c_spec_l01Cur_pick (M0 X : Mem) (p : Nat) (cv : V) (code : List UInt8) (B n : Int) (hc : Rep (.sl ty_Byte) M0 [cv] code) (h : Cur M0 p cv B X) (hB : B ≤ 1000000000000) (hn : n ≤ 1000000000000) (hl : code.length ≤ 1048576) :
    Sat (aCall T0 F_spec_l01Cur_pick [.pointer (some ⟨p, 0, none⟩), .int .i64 n] X) (CurI M0 p cv (B + 1) (fun x => 0 ≤ x ∧ (x < n ∨ x = 0)) X) := by
  by_cases h2 : n < 2
  · rw [aCall_eq T_spec_l01Cur_pick]; unfold A_spec_l01Cur_pick C_spec_l01Cur_pick; simp [thenD_pp, sliceCells_sl, sliceCells_z, sliceCells_nil, take_full, appS_sl, appK_ok, appS_none, thenD_ag, agP_nil, agP_cons, h2]
    exact sat_some ⟨0, rfl, ⟨Int.le_refl _, .inr rfl⟩, h.mono (by omega), ag_refl _ _⟩
  obtain ⟨hp, hp0, a, s, hb, ha0, ha1, hs0, hs1⟩ := h
  have hcX := hc.mono hp
  obtain ⟨ca, cc, rfl⟩ := hc.slen
  have e1 : IntKind.i64.wrap (a + 1) = a + 1 := wrap_i64 (by omega) (by omega)
  have hn0 : n ≠ 0 := by omega
  have fin : ∀ x seed' : Int, 0 ≤ x → 0 ≤ seed' → seed' ≤ 65520 → ∀ Y : Mem, X[p]? = some ⟨[.slice ca code.length cc, .int .i64 a, .int .i64 s], 1, 2⟩ → Y = X.set p ⟨[.slice ca code.length cc, .int .i64 (a + 1), .int .i64 seed'], 1, 2⟩ → Sat (some ((.int .i64 (x.tmod n) : V), Y)) (CurI M0 p (.slice ca code.length cc) (B + 1) (fun x => 0 ≤ x ∧ (x < n ∨ x = 0)) X) := by
    intro x seed' hx h0 h1 Y hb hY
    subst hY
    have t1 := Int.tmod_nonneg n hx
    have t2 := Int.tmod_lt_of_pos x (show 0 < n by omega)
    refine sat_some ⟨_, rfl, ⟨t1, .inl t2⟩, ⟨pf_set hp0 hp, hp0, a + 1, seed', gs_of hb _, by omega, by omega, h0, h1⟩, agree_set _⟩
  have hnp : ∀ (v : V) (y : Int), gc X (some (v, X.set p ⟨[.slice ca code.length cc, .int .i64 (a + 1), .int .i64 y], 1, 2⟩)) = some (v, X.set p ⟨[.slice ca code.length cc, .int .i64 (a + 1), .int .i64 y], 1, 2⟩) := fun v y => gc_np fun hpre => by
    have := get_pre hpre hb
    rw [gs_of hb] at this
    simp at this
    omega
  have hby : ∀ b : UInt8, ∃ y : Int, byteV b = .int .u8 y ∧ 0 ≤ y ∧ y ≤ 255 ∧ IntKind.i64.wrap y = y := fun b => by
    have : b.toNat < 256 := b.toNat_lt
    exact ⟨b.toNat, rfl, by omega, by omega, wrap_i64 (by omega) (by omega)⟩
  by_cases hlt : a < code.length
  · obtain ⟨k, rfl⟩ := Int.eq_ofNat_of_zero_le ha0
    have hk : k < code.length := by omega
    obtain ⟨l, o, rfl, _, hrd⟩ := at_Byte hcX hk
    obtain ⟨y, hy, hy0, hy1, hy2⟩ := hby code[k]
    rw [hy] at hrd
    rw [aCall_eq T_spec_l01Cur_pick]; unfold A_spec_l01Cur_pick C_spec_l01Cur_pick; simp [thenD_pp, sliceCells_sl, sliceCells_z, sliceCells_nil, take_full, appS_sl, appK_ok, appS_none, thenD_ag, agP_nil, agP_cons, h2, hlt, hk, hb, gs_of hb, hrd, hy2, e1, hn0, hnp, rd1_K, rdJ_ok, wrn_K, wrJ_ok]
    exact fin y s hy0 hs0 hs1 _ hb rfl
  · have w1 : IntKind.i64.wrap (s * 1103) = s * 1103 := wrap_i64 (by omega) (by omega)
    have w2 : IntKind.i64.wrap (s * 1103 + 12345) = s * 1103 + 12345 := wrap_i64 (by omega) (by omega)
    obtain ⟨s', hs', hs2, hs3⟩ : ∃ s' : Int, (s * 1103 + 12345).tmod 65521 = s' ∧ 0 ≤ s' ∧ s' ≤ 65520 := ⟨_, rfl, Int.tmod_nonneg _ (by omega), by have := Int.tmod_lt_of_pos (s * 1103 + 12345) (show (0 : Int) < 65521 by decide); omega⟩
    have e2 : ∀ b : Blk, (X.set p b)[p]? = some b := fun b => gs_of hb b
    by_cases hl0 : 0 < code.length
    · obtain ⟨j, hj, hjl⟩ : ∃ j : Nat, a.tmod (code.length : Int) = j ∧ j < code.length := by
        have t1 := Int.tmod_nonneg (code.length : Int) ha0
        have t2 := Int.tmod_lt_of_pos a (show (0 : Int) < code.length by omega)
        obtain ⟨j, hj⟩ := Int.eq_ofNat_of_zero_le t1
        exact ⟨j, hj, by omega⟩
      obtain ⟨q, hq, hq0, hq1⟩ : ∃ q : Int, s'.tdiv 7 = q ∧ 0 ≤ q ∧ q ≤ 65520 := ⟨_, rfl, Int.tdiv_nonneg hs2 (by decide), by
        rw [Int.tdiv_eq_ediv_of_nonneg hs2]
        omega⟩
      have hln : (code.length : Int) ≠ 0 := by omega
      obtain ⟨l, o, rfl, _, hrd⟩ := at_Byte hcX hjl
      obtain ⟨y, hy, hy0, hy1, hy2⟩ := hby code[j]
      rw [hy] at hrd
      have hlp : l ≠ p := by
        obtain ⟨blk, hbk, _⟩ := rep_blk hc
        have := get_lt hbk
        omega
      have hrd2 : ∀ b : Blk, rd1 (X.set p b) l (o + j) = some (.int .u8 y) := fun b => by rw [rd1_K, gt_set (Ne.symm hlp), ← rd1_K]; exact hrd
      have hrem := binS_rem .i64 a (code.length : Int) hln
      rw [hj] at hrem
      have w5 : IntKind.i64.wrap q = q := wrap_i64 (by omega) (by omega)
      have w3 : IntKind.i64.wrap (q + y) = q + y := wrap_i64 (by omega) (by omega)
      rw [aCall_eq T_spec_l01Cur_pick]; unfold A_spec_l01Cur_pick C_spec_l01Cur_pick; simp [thenD_pp, sliceCells_sl, sliceCells_z, sliceCells_nil, take_full, appS_sl, appK_ok, appS_none, thenD_ag, agP_nil, agP_cons, h2, hlt, hb, e2, w1, w2, hs', hq, hrem, hjl, hrd2, hy2, w5, w3, e1, hl0, hln, hn0, hnp, rd1_K, rdJ_ok, wrn_K, wrJ_ok]
      exact fin (q + y) s' (by omega) hs2 hs3 _ hb rfl
    · rw [aCall_eq T_spec_l01Cur_pick]; unfold A_spec_l01Cur_pick C_spec_l01Cur_pick; simp [thenD_pp, sliceCells_sl, sliceCells_z, sliceCells_nil, take_full, appS_sl, appK_ok, appS_none, thenD_ag, agP_nil, agP_cons, h2, hlt, hb, e2, w1, w2, hs', e1, hl0, hn0, hnp, rd1_K, rdJ_ok, wrn_K, wrJ_ok]
      have := fin 0 s' (by omega) hs2 hs3 _ hb rfl
      rw [Int.zero_tmod] at this
      exact this
theorem p_pick {M0 X : Mem} {p : Nat} {cv : V} {B n : Int} (hc : CurH M0 cv) (h : Cur M0 p cv B X) (hB : B ≤ 1000000000000) (hn : n ≤ 1000000000000) {x : Option (V × Mem)} (hx : aCall T0 F_spec_l01Cur_pick [.pointer (some ⟨p, 0, none⟩), .int .i64 n] X = x) :
    ∃ (y : Int) (X' : Mem), x = some (.int .i64 y, X') ∧ 0 ≤ y ∧ (y < n ∨ y = 0) ∧ Cur M0 p cv (B + 1) X' ∧ Agree X X' [p] := by
  obtain ⟨code, hr, hl⟩ := hc.code
  obtain ⟨v, X', rfl, y, e, hy, h1, h2⟩ := of_call hx (c_spec_l01Cur_pick M0 X p cv code B n hr h hB hn hl)
  simp only at e h1 h2
  subst e
  exact ⟨y, X', rfl, hy.1, hy.2, h1, h2⟩
theorem gc_sat {X X' : Mem} {v : V} {P : V × Mem → Prop} (h1 : P (v, X)) (h2 : P (v, X')) : Sat (gc X (some (v, X'))) P := by
  unfold gc
  simp only
  split
  · exact sat_some h1
  · exact sat_some h2
theorem c_spec_l01Cur_once (M0 X : Mem) (p : Nat) (cv : V) (B n : Int) (hc : CurH M0 cv) (h : Cur M0 p cv B X) (hB : B ≤ 1000000000000) (hn : n ≤ 1000000000000) (hn0 : -1000000000000 ≤ n) :
    Sat (aCall T0 F_spec_l01Cur_once [.pointer (some ⟨p, 0, none⟩), .int .i64 n] X) (CurB M0 p cv (B + 1) X) := by
  have w : IntKind.i64.wrap (n - 1) = n - 1 := wrap_i64 (by omega) (by omega)
  rw [aCall_eq T_spec_l01Cur_once]; unfold A_spec_l01Cur_once C_spec_l01Cur_once; simp [thenD_pp, sliceCells_sl, sliceCells_z, sliceCells_nil, take_full, appS_sl, appK_ok, appS_none, thenD_ag, agP_nil, agP_cons]
  generalize hx : aCall T0 F_spec_l01Cur_pick _ _ = xhx
  obtain ⟨y, X', rfl, y0, y1, c1, a1⟩ := p_pick hc h hB hn hx
  simp [thenD_pp, sliceCells_sl, sliceCells_z, sliceCells_nil, take_full, appS_sl, appK_ok, appS_none, thenD_ag, agP_nil, agP_cons, w]
  exact gc_sat ⟨_, rfl, h.mono (by omega), ag_refl _ _⟩ ⟨_, rfl, c1, a1⟩
theorem p_once {M0 X : Mem} {p : Nat} {cv : V} {B n : Int} (hc : CurH M0 cv) (h : Cur M0 p cv B X) (hB : B ≤ 1000000000000) (hn : n ≤ 1000000000000) (hn0 : -1000000000000 ≤ n) {x : Option (V × Mem)} (hx : aCall T0 F_spec_l01Cur_once [.pointer (some ⟨p, 0, none⟩), .int .i64 n] X = x) :
    ∃ (b : Bool) (X' : Mem), x = some (.bool b, X') ∧ Cur M0 p cv (B + 1) X' ∧ Agree X X' [p] := by
  obtain ⟨v, X', rfl, b, e, h1, h2⟩ := of_call hx (c_spec_l01Cur_once M0 X p cv B n hc h hB hn hn0)
  simp only at e h1 h2
  subst e
  exact ⟨b, X', rfl, h1, h2⟩
/-- The list while it grows: so many elements. -/
def CurE (t : Ty) (M0 : Mem) (p : Nat) (cv : V) (B : Int) (X : Mem) (i : Nat) (v : V) (X' : Mem) : Prop := ∃ (xs : List t.D) (L : List Nat), Gr (.sl t) X' [v] xs L ∧ L.Nodup ∧ (∀ l ∈ L, X.length ≤ l) ∧ xs.length = i ∧ Cur M0 p cv B X' ∧ Agree X X' [p]
/-- A drawn list: fresh blocks of its own. -/
def CurV (t : Ty) (M0 : Mem) (p : Nat) (cv : V) (B : Int) (X : Mem) (N : Nat) (v : V) (X' : Mem) : Prop := ∃ (xs : List t.D) (L : List Nat), Gr (.sl t) X' [v] xs L ∧ L.Nodup ∧ (∀ l ∈ L, X.length ≤ l) ∧ xs.length ≤ N ∧ Cur M0 p cv B X' ∧ Agree X X' [p]
theorem CurV.e {t : Ty} {M0 X X' : Mem} {p N : Nat} {cv v : V} {B : Int} (h : CurV t M0 p cv B X N v X') : ∃ i a, i ≤ N ∧ v = .slice a i i ∧ CurE t M0 p cv B X i v X' := by
  obtain ⟨xs, L, g, nd, hf, hn, c, ag⟩ := h
  obtain ⟨a, rfl⟩ := g.shape
  exact ⟨xs.length, a, hn, rfl, xs, L, g, nd, hf, rfl, c, ag⟩
theorem CurE.v {t : Ty} {M0 X X' : Mem} {p i N : Nat} {cv v : V} {B B' : Int} (h : CurE t M0 p cv B X i v X') (hN : i ≤ N) (hB : B ≤ B') : CurV t M0 p cv B' X N v X' := by
  obtain ⟨xs, L, g, nd, hf, hn, c, a⟩ := h
  exact ⟨xs, L, g, nd, hf, by omega, c.mono hB, a⟩
theorem CurE.mono {t : Ty} {M0 X X' : Mem} {p i : Nat} {cv v : V} {B B' : Int} (h : CurE t M0 p cv B X i v X') (hB : B ≤ B') : CurE t M0 p cv B' X i v X' := by
  obtain ⟨xs, L, g, nd, hf, hn, c, a⟩ := h
  exact ⟨xs, L, g, nd, hf, hn, c.mono hB, a⟩
theorem CurE.c {t : Ty} {M0 X X' : Mem} {p i : Nat} {cv v : V} {B : Int} (h : CurE t M0 p cv B X i v X') : Cur M0 p cv B X' := by
  obtain ⟨xs, L, g, nd, hf, hn, c, ag⟩ := h
  exact c
/-- A drawn list of so many, to be read. -/
def RepN (t : Ty) (X : Mem) (v : V) (i : Nat) : Prop := ∃ xs : List t.D, Rep (.sl t) X [v] xs ∧ xs.length = i
theorem CurE.rep {t : Ty} {M0 X X' : Mem} {p i : Nat} {cv v : V} {B : Int} (h : CurE t M0 p cv B X i v X') : RepN t X' v i := by
  obtain ⟨xs, L, g, nd, hf, hn, c, ag⟩ := h
  exact ⟨xs, g.rep, hn⟩
theorem CurE.ag {t : Ty} {M0 X X' : Mem} {p i : Nat} {cv v : V} {B : Int} (h : CurE t M0 p cv B X i v X') : Agree X X' [p] := by
  obtain ⟨xs, L, g, nd, hf, hn, c, ag⟩ := h
  exact ag
theorem ag_trans {X Y Z : Mem} {w : List Nat} (h : Agree X Y w) (h2 : Agree Y Z w) : Agree X Z w := ⟨Nat.le_trans h.1 h2.1, fun j hj hn => by rw [h2.2 j (Nat.lt_of_lt_of_le hj h.1) hn, h.2 j hj hn]⟩
theorem cure_agree {t : Ty} {M0 X Y Z : Mem} {p i : Nat} {cv v : V} {B B' : Int} (h : CurE t M0 p cv B X i v Y) (hc : Cur M0 p cv B' Z) (ha : Agree Y Z [p]) (hpX : p < X.length) : CurE t M0 p cv B' X i v Z := by
  obtain ⟨xs, L, g, nd, hf, hn, _, hag⟩ := h
  have hpL : p ∉ L := fun hm => by have := hf p hm; omega
  exact ⟨xs, L, g.agree ha (fun l hl e => by simp at e; exact hpL (e ▸ hl)), nd, hf, hn, hc, ag_trans hag ha⟩
theorem cur_open {M : Mem} {cv : V} {k : Int} (h0 : 0 ≤ k) (h1 : k ≤ 65520) : Cur M M.length cv 0 (M ++ [⟨[cv, .int .i64 0, .int .i64 k], 1, 2⟩]) := ⟨List.prefix_append _ _, Nat.le_refl _, 0, k, by simp, Int.le_refl _, Int.le_refl _, h0, h1⟩
theorem c_spec_l01Open (M : Mem) (cv : V) (code : List UInt8) (h : Rep (.sl ty_Byte) M [cv] code) : ∃ k : Int, 0 ≤ k ∧ k ≤ 65520 ∧ aCall T0 F_spec_l01Open [cv] M = some (.pointer (some ⟨M.length, 0, none⟩), M ++ [⟨[cv, .int .i64 0, .int .i64 k], 1, 2⟩]) := by
  obtain ⟨a, c, rfl⟩ := h.slen
  obtain ⟨r, hr⟩ : ∃ r : Int, r = ((code.length : Int).tmod 1000) := ⟨_, rfl⟩
  have r0 : 0 ≤ r := by rw [hr]; exact Int.tmod_nonneg _ (by omega)
  have r1 : r < 1000 := by rw [hr]; exact Int.tmod_lt_of_pos _ (by decide)
  have w : IntKind.i64.wrap (59 + r) = 59 + r := wrap_i64 (by omega) (by omega)
  refine ⟨59 + r, by omega, by omega, ?_⟩
  have hrem := binS_rem .i64 (code.length : Int) 1000 (by decide)
  rw [← hr] at hrem
  rw [aCall_eq T_spec_l01Open]; unfold A_spec_l01Open C_spec_l01Open; simp [thenD_pp, sliceCells_sl, sliceCells_z, sliceCells_nil, take_full, appS_sl, appK_ok, appS_none, thenD_ag, agP_nil, agP_cons, hrem, w]
  exact gc_not rfl
theorem int_get (xs : List Int) (cells : List V) (he : cells = xs.map (fun x => (.int .i64 x : V))) {k : Nat} (hk : k < xs.length) : cells[k]? = some (.int .i64 xs[k]) := by
  subst he
  simp [hk]
theorem cur_end {M0 X X' : Mem} {p : Nat} {cv : V} {B B' : Int} {P : Int → Prop} {x : Int} (h : Cur M0 p cv B X) (hB : B ≤ B') (hx : P x) (h2 : Cur M0 p cv B' X') (a : Agree X X' [p]) : Sat (gc X (some (.int .i64 x, X'))) (CurI M0 p cv B' P X) :=
  gc_sat ⟨x, rfl, hx, h.mono hB, ag_refl _ _⟩ ⟨x, rfl, hx, h2, a⟩
theorem agree_app {X : Mem} {N : Mem} {w : List Nat} : Agree X (X ++ N) w := ⟨by simp, fun j hj _ => List.getElem?_append_left hj⟩
theorem c_spec_l01Cur_raw (M0 X : Mem) (p : Nat) (cv : V) (B : Int) (hc : CurH M0 cv) (h : Cur M0 p cv B X) (hB : B ≤ 900000000000) :
    Sat (aCall T0 F_spec_l01Cur_raw [.pointer (some ⟨p, 0, none⟩)] X) (CurI M0 p cv (B + 2) inI X) := by
  rw [aCall_eq T_spec_l01Cur_raw]; unfold A_spec_l01Cur_raw C_spec_l01Cur_raw; simp [thenD_pp, sliceCells_sl, sliceCells_z, sliceCells_nil, take_full, appS_sl, appK_ok, appS_none, thenD_ag, agP_nil, agP_cons]
  generalize hx : aCall T0 F_spec_l01Cur_pick _ _ = xhx
  obtain ⟨y, X1, rfl, y0, y1, c1, a1⟩ := p_pick hc h (by omega) (by decide) hx
  clear hx
  by_cases h0 : y = 0
  · simp [thenD_pp, sliceCells_sl, sliceCells_z, sliceCells_nil, take_full, appS_sl, appK_ok, appS_none, thenD_ag, agP_nil, agP_cons, h0]
    generalize hx : aCall T0 F_spec_l01Cur_pick _ _ = xhx
    obtain ⟨z, X2, rfl, z0, z1, c2, a2⟩ := p_pick hc c1 (by omega) (by decide) hx
    clear hx
    have w : IntKind.i64.wrap (z - 128) = z - 128 := wrap_i64 (by omega) (by omega)
    simp [thenD_pp, sliceCells_sl, sliceCells_z, sliceCells_nil, take_full, appS_sl, appK_ok, appS_none, thenD_ag, agP_nil, agP_cons, w]
    exact cur_end h (by omega) (by unfold inI; omega) (c2.mono (by omega)) (ag_trans a1 a2)
  by_cases h1 : y = 1
  · simp [thenD_pp, sliceCells_sl, sliceCells_z, sliceCells_nil, take_full, appS_sl, appK_ok, appS_none, thenD_ag, agP_nil, agP_cons, h0, h1]
    generalize hx : aCall T0 F_spec_l01Cur_pick _ _ = xhx
    obtain ⟨z, X2, rfl, z0, z1, c2, a2⟩ := p_pick hc (c1.grow (List.prefix_append _ _)) (by omega) (by decide) hx
    clear hx
    obtain ⟨k, rfl⟩ := Int.eq_ofNat_of_zero_le z0
    have hk : k < 8 := by omega
    have hki : (k : Int) < 8 := by omega
    have hpl := c1.lt
    have b2 := a2.get (i := X1.length) (b := ⟨[.int .i64 9223372036854775807, .int .i64 (-9223372036854775808), .int .i64 4611686018427387904, .int .i64 65535, .int .i64 65536, .int .i64 (-1000), .int .i64 2147483648, .int .i64 4294967296], 1, 2⟩) (by simp) (by simp; omega)
    have g := int_get [9223372036854775807, -9223372036854775808, 4611686018427387904, 65535, 65536, -1000, 2147483648, 4294967296] _ rfl (k := k) hk
    simp only [List.map_cons, List.map_nil] at g
    have hin : ∀ x ∈ [9223372036854775807, -9223372036854775808, 4611686018427387904, 65535, 65536, -1000, 2147483648, (4294967296 : Int)], inI x := by
      intro x hx
      unfold inI
      simp only [List.mem_cons, List.not_mem_nil, or_false] at hx
      omega
    have hin2 := hin ([9223372036854775807, -9223372036854775808, 4611686018427387904, 65535, 65536, -1000, 2147483648, (4294967296 : Int)][k]'hk) (List.getElem_mem _)
    generalize ([9223372036854775807, -9223372036854775808, 4611686018427387904, 65535, 65536, -1000, 2147483648, (4294967296 : Int)])[k] = r at g hin2
    simp [thenD_pp, sliceCells_sl, sliceCells_z, sliceCells_nil, take_full, appS_sl, appK_ok, appS_none, thenD_ag, agP_nil, agP_cons, hki, b2, rd1_K, rdJ_ok, g]
    exact cur_end h (by omega) hin2 (c2.mono (by omega)) (ag_trans a1 (ag_trans agree_app a2))
  · simp [thenD_pp, sliceCells_sl, sliceCells_z, sliceCells_nil, take_full, appS_sl, appK_ok, appS_none, thenD_ag, agP_nil, agP_cons, h0, h1]
    generalize hx : aCall T0 F_spec_l01Cur_pick _ _ = xhx
    obtain ⟨z, X2, rfl, z0, z1, c2, a2⟩ := p_pick hc c1 (by omega) (by decide) hx
    clear hx
    have w : IntKind.i64.wrap (z - 3) = z - 3 := wrap_i64 (by omega) (by omega)
    simp [thenD_pp, sliceCells_sl, sliceCells_z, sliceCells_nil, take_full, appS_sl, appK_ok, appS_none, thenD_ag, agP_nil, agP_cons, w]
    exact cur_end h (by omega) (by unfold inI; omega) (c2.mono (by omega)) (ag_trans a1 a2)
theorem p_raw {M0 X : Mem} {p : Nat} {cv : V} {B : Int} (hc : CurH M0 cv) (h : Cur M0 p cv B X) (hB : B ≤ 900000000000) {x : Option (V × Mem)} (hx : aCall T0 F_spec_l01Cur_raw [.pointer (some ⟨p, 0, none⟩)] X = x) :
    ∃ (y : Int) (X' : Mem), x = some (.int .i64 y, X') ∧ inI y ∧ Cur M0 p cv (B + 2) X' ∧ Agree X X' [p] := by
  obtain ⟨v, X', rfl, y, e, hy, h1, h2⟩ := of_call hx (c_spec_l01Cur_raw M0 X p cv B hc h hB)
  simp only at e h1 h2
  subst e
  exact ⟨y, X', rfl, hy, h1, h2⟩
theorem c_spec_l01Cur_many (M0 X : Mem) (p : Nat) (cv : V) (B : Int) (hc : CurH M0 cv) (h : Cur M0 p cv B X) (hB : B ≤ 800000000000) :
    Sat (aCall T0 F_spec_l01Cur_many [.pointer (some ⟨p, 0, none⟩)] X) (CurI M0 p cv (B + 5) inI X) := by
  rw [aCall_eq T_spec_l01Cur_many]; unfold A_spec_l01Cur_many C_spec_l01Cur_many; simp [thenD_pp, sliceCells_sl, sliceCells_z, sliceCells_nil, take_full, appS_sl, appK_ok, appS_none, thenD_ag, agP_nil, agP_cons]
  generalize hx : aCall T0 F_spec_l01Cur_pick _ _ = xhx
  obtain ⟨y, X1, rfl, y0, y1, c1, a1⟩ := p_pick hc h (by omega) (by decide) hx
  clear hx
  simp [thenD_pp, sliceCells_sl, sliceCells_z, sliceCells_nil, take_full, appS_sl, appK_ok, appS_none, thenD_ag, agP_nil, agP_cons]
  generalize hx : aCall T0 F_spec_l01Cur_pick _ _ = xhx
  obtain ⟨z, X2, rfl, z0, z1, c2, a2⟩ := p_pick hc c1 (by omega) (by decide) hx
  clear hx
  simp [thenD_pp, sliceCells_sl, sliceCells_z, sliceCells_nil, take_full, appS_sl, appK_ok, appS_none, thenD_ag, agP_nil, agP_cons]
  generalize hx : aCall T0 F_spec_l01Cur_raw _ _ = xhx
  obtain ⟨r, X3, rfl, r0, c3, a3⟩ := p_raw hc c2 (by omega) hx
  clear hx
  simp [thenD_pp, sliceCells_sl, sliceCells_z, sliceCells_nil, take_full, appS_sl, appK_ok, appS_none, thenD_ag, agP_nil, agP_cons]
  generalize hx : aCall T0 F_spec_l01Cur_pick _ _ = xhx
  obtain ⟨u, X4, rfl, u0, u1, c4, a4⟩ := p_pick hc (c3.grow (List.prefix_append _ _)) (by omega) (by decide) hx
  clear hx
  obtain ⟨k, rfl⟩ := Int.eq_ofNat_of_zero_le u0
  have hk : k < 5 := by omega
  have hki : (k : Int) < 5 := by omega
  have hpl := c3.lt
  have b2 := a4.get (i := X3.length) (b := ⟨[.int .i64 y, .int .i64 z, .int .i64 r, .int .i64 256, .int .i64 257], 1, 2⟩) (by simp) (by simp; omega)
  have g := int_get [y, z, r, 256, 257] _ rfl (k := k) hk
  simp only [List.map_cons, List.map_nil] at g
  have hin : ∀ x ∈ [y, z, r, 256, (257 : Int)], inI x := by
    intro x hx
    unfold inI at *
    simp only [List.mem_cons, List.not_mem_nil, or_false] at hx
    omega
  have hin2 := hin ([y, z, r, 256, (257 : Int)][k]'hk) (List.getElem_mem _)
  generalize ([y, z, r, 256, (257 : Int)])[k]'hk = w at g hin2
  simp [thenD_pp, sliceCells_sl, sliceCells_z, sliceCells_nil, take_full, appS_sl, appK_ok, appS_none, thenD_ag, agP_nil, agP_cons, hki, b2, rd1_K, rdJ_ok, g]
  exact cur_end h (by omega) hin2 (c4.mono (by omega)) (ag_trans a1 (ag_trans a2 (ag_trans a3 (ag_trans agree_app a4))))
theorem p_many {M0 X : Mem} {p : Nat} {cv : V} {B : Int} (hc : CurH M0 cv) (h : Cur M0 p cv B X) (hB : B ≤ 800000000000) {x : Option (V × Mem)} (hx : aCall T0 F_spec_l01Cur_many [.pointer (some ⟨p, 0, none⟩)] X = x) :
    ∃ (y : Int) (X' : Mem), x = some (.int .i64 y, X') ∧ inI y ∧ Cur M0 p cv (B + 5) X' ∧ Agree X X' [p] := by
  obtain ⟨v, X', rfl, y, e, hy, h1, h2⟩ := of_call hx (c_spec_l01Cur_many M0 X p cv B hc h hB)
  simp only at e h1 h2
  subst e
  exact ⟨y, X', rfl, hy, h1, h2⟩
theorem gr_Int (M : Mem) {x : Int} (h : inI x) : Gr ty_Int M [.int .i64 x] x [] := ⟨⟨rfl, wf_range h⟩, rfl⟩
theorem cure_app {t : Ty} {M0 X Y Z : Mem} {p i bytes : Nat} {cv v : V} {B B' : Int} (h : CurE t M0 p cv B X i v Y) (hc : Cur M0 p cv B' Z) (ha : Agree Y Z [p]) (hpX : p < X.length) (hi : (i + 1) * bytes ≤ 140737488355328) (hi2 : i + 1 ≤ 9223372036854775807) {N : Mem} {ds : List V} {y : t.D} (hy : Gr t (Z ++ N) ds y []) {x : Option (V × Mem)} (hx : appS (Z ++ N) t.w bytes v 1 ds = x) :
    ∃ (l : Nat) (X3 : Mem), x = some (.slice (some ⟨l, 0, none⟩) (i + 1) (i + 1), X3) ∧ CurE t M0 p cv B' X (i + 1) (.slice (some ⟨l, 0, none⟩) (i + 1) (i + 1)) X3 := by
  obtain ⟨xs, L, g, nd, hf, hn, _, hag⟩ := h
  subst hn
  have hpL : p ∉ L := fun hm => by have := hf p hm; omega
  have gZ := g.agree ha (fun l hl e => by simp at e; exact hpL (e ▸ hl))
  have hpN := List.prefix_append Z N
  obtain ⟨l, X3, L', rfl, g3, ag3, len3, hw3, nd3, sub3, hl3⟩ := gZ.app hx hpN hy (by simp) nd (by simp) hi hi2
  have hag2 : Agree Y Z [p] := ha
  have hYl : Y.length ≤ Z.length := ha.1
  have hXl : X.length ≤ Y.length := hag.1
  have hpw : p ∉ wfs v := fun hm => hpL (hw3 _ hm)
  refine ⟨l, X3, rfl, xs ++ [y], L', g3, nd3, fun j hj => ?_, by simp, ?_, ?_⟩
  · rcases sub3 j hj with h | h | h
    · exact hf j h
    · simp at h
    · simp at hl3; omega
  · obtain ⟨c1, c2, a', s', c3, c4⟩ := hc
    refine ⟨?_, c2, a', s', ag3.get (get_pre hpN c3) hpw, c4⟩
    exact ag3.pre (c1.trans hpN) (fun b hb => by have := hf b (hw3 b hb); omega)
  · refine ⟨by have := ag3.1; simp at this; omega, fun j hj hn => ?_⟩
    rw [ag3.2 j (by simp; omega) (fun hm => by have := hf j (hw3 j hm); omega), List.getElem?_append_left (by omega), ha.2 j (by omega) hn]
    exact hag.2 j hj hn
theorem cure_nil {t : Ty} {M0 X : Mem} {p : Nat} {cv : V} {B : Int} {w : Nat} (hw : t.w = w) (h : Cur M0 p cv B X) : CurE t M0 p cv B X 0 (.slice (some ⟨X.length, 0, none⟩) 0 0) (X ++ [⟨[], w, 2⟩]) := by
  subst hw
  refine ⟨[], [X.length], .inr ⟨X.length, [], [], rfl, by simp, rfl, rfl, fun i ds x K hd => by simp at hd, by simp⟩, by simp, by simp, rfl, h.grow (List.prefix_append _ _), agree_app⟩
theorem l_spec_l01Cur_row_0 (M0 X : Mem) (p : Nat) (cv : V) (B n : Int) (K : Nat) (hc : CurH M0 cv) (hB : B ≤ 800000000000) (hn : n ≤ 100000000) (hK : K ≤ 1000000) (hpX : p < X.length) (v0 : V) (Z : Mem) (h0 : CurE ty_Int M0 p cv B X 0 v0 Z) :
    ∃ v' X', CurE ty_Int M0 p cv (B + 2 * K) X K v' X' ∧ lp (aCall T0) K_spec_l01Cur_row_0 L_spec_l01Cur_row_0 [.pointer (some ⟨p, 0, none⟩), .int .i64 n, und, und, und, und, und, v0, .int .i64 K, und, und, und, und, und, und, und, und, und, und, und, und, und, und, und, und, und, und, und, und, und, und, und, und, und] Z = lp (aCall T0) K_spec_l01Cur_row_0 L_spec_l01Cur_row_0 [.pointer (some ⟨p, 0, none⟩), .int .i64 n, und, und, und, und, und, v', .int .i64 0, und, und, und, und, und, und, und, und, und, und, und, und, und, und, und, und, und, und, und, und, und, und, und, und, und] X' := by
  have key := loop_to (call := aCall T0) (K := K_spec_l01Cur_row_0) (L := L_spec_l01Cur_row_0) (fun i (v : V) Y => CurE ty_Int M0 p cv (B + 2 * i) X i v Y) (fun i v => [.pointer (some ⟨p, 0, none⟩), .int .i64 n, und, und, und, und, und, v, .int .i64 ((K : Int) - i), und, und, und, und, und, und, und, und, und, und, und, und, und, und, und, und, und, und, und, und, und, und, und, und, und]) (n := K) ?_ 0 v0 Z (by omega) (by simpa using h0)
  · obtain ⟨v', X', h1, h2⟩ := key
    refine ⟨v', X', h1, ?_⟩
    simpa using h2
  intro i v Y hi hY
  have hcur : Cur M0 p cv (B + 2 * i) Y := hY.choose_spec.choose_spec.2.2.2.2.1
  have hgt : (0 : Int) < (K : Int) - i := by omega
  have w0 : IntKind.i64.wrap ((K : Int) - i - 1) = (K : Int) - (i + 1 : Nat) := by rw [wrap_i64 (by omega) (by omega)]; omega
  have e8 : (i : Int) + 1 = ((i + 1 : Nat) : Int) := by omega
  by_cases hn0 : (0 : Int) < n
  · rw [S_spec_l01Cur_row_0]; unfold B_spec_l01Cur_row_0; simp [thenD_pp, sliceCells_sl, sliceCells_z, sliceCells_nil, take_full, appS_sl, appK_ok, appS_none, thenD_ag, agP_nil, agP_cons, hi, hgt, hn0]
    generalize hx : aCall T0 F_spec_l01Cur_once _ _ = xhx
    obtain ⟨b, X1, rfl, c1, a1⟩ := p_once (n := 5) hc hcur (by omega) (by decide) (by decide) hx
    clear hx
    cases b with
    | true =>
      simp [thenD_pp, sliceCells_sl, sliceCells_z, sliceCells_nil, take_full, appS_sl, appK_ok, appS_none, thenD_ag, agP_nil, agP_cons]
      generalize hy : appS _ _ _ _ _ _ = xhy
      obtain ⟨l, X3, rfl, h3⟩ := cure_app (bytes := 8) hY c1 a1 hpX (by omega) (by omega) (gr_Int _ (x := -1) (by unfold inI; omega)) hy
      simp [thenD_pp, sliceCells_sl, sliceCells_z, sliceCells_nil, take_full, appS_sl, appK_ok, appS_none, thenD_ag, agP_nil, agP_cons, w0]
      exact ⟨_, X3, CurE.mono h3 (by omega), rfl⟩
    | false =>
      simp [thenD_pp, sliceCells_sl, sliceCells_z, sliceCells_nil, take_full, appS_sl, appK_ok, appS_none, thenD_ag, agP_nil, agP_cons]
      generalize hx : aCall T0 F_spec_l01Cur_pick _ _ = xhx
      obtain ⟨z, X2, rfl, z0, z1, c2, a2⟩ := p_pick hc c1 (by omega) (by omega) hx
      clear hx
      simp [thenD_pp, sliceCells_sl, sliceCells_z, sliceCells_nil, take_full, appS_sl, appK_ok, appS_none, thenD_ag, agP_nil, agP_cons]
      generalize hy : appS _ _ _ _ _ _ = xhy
      obtain ⟨l, X3, rfl, h3⟩ := cure_app (bytes := 8) hY c2 (ag_trans a1 a2) hpX (by omega) (by omega) (gr_Int _ (x := z) (by unfold inI; omega)) hy
      simp [thenD_pp, sliceCells_sl, sliceCells_z, sliceCells_nil, take_full, appS_sl, appK_ok, appS_none, thenD_ag, agP_nil, agP_cons, w0]
      exact ⟨_, X3, CurE.mono h3 (by omega), rfl⟩
  · rw [S_spec_l01Cur_row_0]; unfold B_spec_l01Cur_row_0; simp [thenD_pp, sliceCells_sl, sliceCells_z, sliceCells_nil, take_full, appS_sl, appK_ok, appS_none, thenD_ag, agP_nil, agP_cons, hi, hgt, hn0]
    generalize hy : appS _ _ _ _ _ _ = xhy
    obtain ⟨l, X3, rfl, h3⟩ := cure_app (bytes := 8) hY hcur (ag_refl _ _) hpX (by omega) (by omega) (gr_Int _ (x := -1) (by unfold inI; omega)) hy
    simp [thenD_pp, sliceCells_sl, sliceCells_z, sliceCells_nil, take_full, appS_sl, appK_ok, appS_none, thenD_ag, agP_nil, agP_cons, w0]
    exact ⟨_, X3, CurE.mono h3 (by omega), rfl⟩
theorem c_spec_l01Cur_row (M0 X : Mem) (p : Nat) (cv : V) (B n most : Int) (hc : CurH M0 cv) (h : Cur M0 p cv B X) (hB : B ≤ 700000000000) (hn : n ≤ 100000000) (hm : most ≤ 100000) (hm0 : 0 ≤ most) :
    ∃ v X', aCall T0 F_spec_l01Cur_row [.pointer (some ⟨p, 0, none⟩), .int .i64 n, .int .i64 most] X = some (v, X') ∧ CurV ty_Int M0 p cv (B + 3 + 2 * most) X most.toNat v X' := by
  have w : IntKind.i64.wrap (most + 1) = most + 1 := wrap_i64 (by omega) (by omega)
  rw [aCall_eq T_spec_l01Cur_row]; unfold A_spec_l01Cur_row C_spec_l01Cur_row; simp [thenD_pp, sliceCells_sl, sliceCells_z, sliceCells_nil, take_full, appS_sl, appK_ok, appS_none, thenD_ag, agP_nil, agP_cons, w, zeroCells]
  generalize hx : aCall T0 F_spec_l01Cur_pick _ _ = xhx
  obtain ⟨z, X1, rfl, z0, z1, c1, a1⟩ := p_pick (n := most + 1) hc (h.grow (List.prefix_append _ _)) (by omega) (by omega) hx
  clear hx
  obtain ⟨K, rfl⟩ := Int.eq_ofNat_of_zero_le z0
  have hE := cure_agree (cure_nil (t := ty_Int) rfl h) c1 a1 h.lt
  obtain ⟨v', X', hE', e⟩ := l_spec_l01Cur_row_0 M0 X p cv (B + 1) n K hc (by omega) hn (by omega) h.lt _ _ hE
  have hK : K ≤ most.toNat := by omega
  have hv := CurE.v hE' hK (show B + 1 + 2 * (K : Int) ≤ B + 3 + 2 * most by omega)
  obtain ⟨xs, L, g, _⟩ := id hv
  obtain ⟨a, rfl⟩ := g.shape

  simp [thenD_pp, sliceCells_sl, sliceCells_z, sliceCells_nil, take_full, appS_sl, appK_ok, appS_none, thenD_ag, agP_nil, agP_cons, e]
  rw [S_spec_l01Cur_row_0]; unfold B_spec_l01Cur_row_0; simp [thenD_pp, sliceCells_sl, sliceCells_z, sliceCells_nil, take_full, appS_sl, appK_ok, appS_none, thenD_ag, agP_nil, agP_cons]
  exact ⟨_, _, ⟨rfl, rfl⟩, hv⟩
theorem fl_Int : FlatE ty_Int (fun x => [(.int .i64 x : V)]) inI := ⟨fun M x h => gr_Int M h, fun M cs x h => ⟨h.1, wf_i64 h.2⟩⟩
theorem Gr.appF {t : Ty} {enc : t.D → List V} {P : t.D → Prop} (hf : FlatE t enc P) {X X2 : Mem} {v : V} {xs : List t.D} {L : List Nat} (h : Gr (.sl t) X [v] xs L) {bytes m : Nat} {zs : List t.D} {x : Option (V × Mem)} (hx : appS X2 t.w bytes v m (zs.map enc).flatten = x) (hp : X <+: X2)
    (hm : zs.length = m) (h0 : 0 < m) (hP : ∀ z ∈ zs, P z) (hs : (xs.length + m) * bytes ≤ 140737488355328) (hs2 : xs.length + m ≤ 9223372036854775807) :
    ∃ l X3, x = some (.slice (some ⟨l, 0, none⟩) (xs.length + m) (xs.length + m), X3) ∧ Gr (.sl t) X3 [.slice (some ⟨l, 0, none⟩) (xs.length + m) (xs.length + m)] (xs ++ zs) [l] ∧ Agree X2 X3 (wfs v) ∧ X2.length < X3.length ∧ (∀ b ∈ wfs v, b ∈ L) ∧ X2.length ≤ l := by
  obtain ⟨cs, hg, hw⟩ := h.gr (K := 0) (by simp)
  obtain ⟨_, hc, hPx⟩ := rep_cellsF hf h.rep
  have hcs : cs = (xs.map enc).flatten := by
    have := hg.cells
    rw [hc] at this
    simpa using this.symm
  subst hcs
  have g2 := hg.pre hp
  have hlen : (zs.map enc).flatten.length = m * t.w := by
    rw [flat_len (fun ds hd => by
      obtain ⟨z, hz, rfl⟩ := List.mem_map.1 hd
      exact (hf.1 X z (hP z hz)).len), List.length_map, hm]
  have hone : (zs.map enc).flatten.all GoAm.one = true := by
    rw [List.all_eq_true]
    intro y hy
    obtain ⟨ds, hd, hy⟩ := List.mem_flatten.1 hy
    obtain ⟨z, hz, rfl⟩ := List.mem_map.1 hd
    exact List.all_eq_true.1 (hf.1 X z (hP z hz)).one y hy
  have e := g2.app (m := m) (bytes := bytes) (ys := (zs.map enc).flatten) hlen h0 hone hs hs2
  refine ⟨_, _, hx.symm.trans e, ?_, kill_agree _ _ _, by rw [List.length_append, kill_len]; simp, hw, Nat.le_refl _⟩
  have hb : (kill X2 v ++ [(⟨(xs.map enc).flatten ++ (zs.map enc).flatten, t.w, 2⟩ : Blk)])[X2.length]? = some ⟨((xs ++ zs).map enc).flatten, t.w, 2⟩ := by
    rw [List.getElem?_append_right (by rw [kill_len]; exact Nat.le_refl _), kill_len]; simp
  have := gr_flat hf hb (fun z hz => by
    rcases List.mem_append.1 hz with hz | hz
    · exact hPx z hz
    · exact hP z hz)
  rw [List.length_append, hm] at this
  exact this
theorem cure_appF {t : Ty} {enc : t.D → List V} {P : t.D → Prop} (hf : FlatE t enc P) {M0 X Y Z : Mem} {p i m bytes : Nat} {cv v : V} {B B' : Int} (h : CurE t M0 p cv B X i v Y) (hc : Cur M0 p cv B' Z) (ha : Agree Y Z [p]) (hpX : p < X.length) (h0 : 0 < m) (hi : (i + m) * bytes ≤ 140737488355328) (hi2 : i + m ≤ 9223372036854775807) {N : Mem} {zs : List t.D} (hz : zs.length = m) (hP : ∀ z ∈ zs, P z) {x : Option (V × Mem)} (hx : appS (Z ++ N) t.w bytes v m (zs.map enc).flatten = x) :
    ∃ (l : Nat) (X3 : Mem), x = some (.slice (some ⟨l, 0, none⟩) (i + m) (i + m), X3) ∧ CurE t M0 p cv B' X (i + m) (.slice (some ⟨l, 0, none⟩) (i + m) (i + m)) X3 := by
  obtain ⟨xs, L, g, nd, hfr, hn, _, hag⟩ := h
  subst hn
  have hpL : p ∉ L := fun hm => by have := hfr p hm; omega
  have gZ := g.agree ha (fun l hl e => by simp at e; exact hpL (e ▸ hl))
  have hpN := List.prefix_append Z N
  obtain ⟨l, X3, rfl, g3, ag3, len3, hw3, hl3⟩ := Gr.appF hf gZ hx hpN hz h0 hP hi hi2
  have hYl : Y.length ≤ Z.length := ha.1
  have hXl : X.length ≤ Y.length := hag.1
  have hpw : p ∉ wfs v := fun hm => hpL (hw3 _ hm)
  refine ⟨l, X3, rfl, xs ++ zs, [l], g3, by simp, fun j hj => ?_, by simp [hz], ?_, ?_⟩
  · simp at hj hl3; omega
  · obtain ⟨c1, c2, a', s', c3, c4⟩ := hc
    refine ⟨?_, c2, a', s', ag3.get (get_pre hpN c3) hpw, c4⟩
    exact ag3.pre (c1.trans hpN) (fun b hb => by have := hfr b (hw3 b hb); omega)
  · refine ⟨by have := ag3.1; simp at this; omega, fun j hj hn => ?_⟩
    rw [ag3.2 j (by simp; omega) (fun hm => by have := hfr j (hw3 j hm); omega), List.getElem?_append_left (by omega), ha.2 j (by omega) hn]
    exact hag.2 j hj hn
theorem zero_flat (m : Nat) : zc (.int .i64 0 : V) m = ((List.replicate m (0 : Int)).map (fun x => [(.int .i64 x : V)])).flatten := by
  induction m with
  | zero => rfl
  | succ m ih =>
    have : zc (.int .i64 0 : V) (m + 1) = .int .i64 0 :: zc (.int .i64 0) m := by simp [zc, List.replicate_succ]
    rw [this, ih, List.replicate_succ, List.map_cons, List.flatten_cons]
    rfl
theorem c_spec_l01Cur_badRow (M0 X : Mem) (p : Nat) (cv : V) (B n most : Int) (hc : CurH M0 cv) (h : Cur M0 p cv B X) (hB : B ≤ 600000000000) (hn : n ≤ 100000000) (hnl : inI n) (hm : most ≤ 100) (hm0 : 0 ≤ most) :
    ∃ v X', aCall T0 F_spec_l01Cur_badRow [.pointer (some ⟨p, 0, none⟩), .int .i64 n, .int .i64 most] X = some (v, X') ∧ CurV ty_Int M0 p cv (B + 500) X 1000 v X' := by
  obtain ⟨v1, X1, e1, hv1⟩ := c_spec_l01Cur_row M0 X p cv B n most hc h (by omega) hn (by omega) hm0
  obtain ⟨i, a, hi, rfl, hE⟩ := CurV.e hv1
  have hi2 : i ≤ 100 := by omega
  rw [aCall_eq T_spec_l01Cur_badRow]; unfold A_spec_l01Cur_badRow C_spec_l01Cur_badRow; simp [thenD_pp, sliceCells_sl, sliceCells_z, sliceCells_nil, take_full, appS_sl, appK_ok, appS_none, thenD_ag, agP_nil, agP_cons, e1]
  generalize hx : aCall T0 F_spec_l01Cur_pick _ _ = xhx
  obtain ⟨z, X2, rfl, z0, z1, c2, a2⟩ := p_pick hc (CurE.c hE) (by omega) (by decide) hx
  clear hx
  have hE2 := cure_agree hE c2 a2 h.lt
  by_cases h0 : z = 0
  · simp [thenD_pp, sliceCells_sl, sliceCells_z, sliceCells_nil, take_full, appS_sl, appK_ok, appS_none, thenD_ag, agP_nil, agP_cons, h0]
    generalize hx : aCall T0 F_spec_l01Cur_raw _ _ = xhx
    obtain ⟨r, X3, rfl, r0, c3, a3⟩ := p_raw hc c2 (by omega) hx
    clear hx
    simp [thenD_pp, sliceCells_sl, sliceCells_z, sliceCells_nil, take_full, appS_sl, appK_ok, appS_none, thenD_ag, agP_nil, agP_cons]
    generalize hx : aCall T0 F_spec_l01Cur_pick _ _ = xhx
    obtain ⟨u, X4, rfl, u0, u1, c4, a4⟩ := p_pick hc (c3.grow (List.prefix_append _ _)) (by omega) (by decide) hx
    clear hx
    obtain ⟨k, rfl⟩ := Int.eq_ofNat_of_zero_le u0
    have hk : k < 2 := by omega
    have hki : (k : Int) < 2 := by omega
    have hpl := c3.lt
    have b2 := a4.get (i := X3.length) (b := ⟨[.int .i64 r, .int .i64 n], 1, 2⟩) (by simp) (by simp; omega)
    have g := int_get [r, n] _ rfl (k := k) hk
    simp only [List.map_cons, List.map_nil] at g
    have hin : ∀ x ∈ [r, n], inI x := by
      intro x hx
      simp only [List.mem_cons, List.not_mem_nil, or_false] at hx
      rcases hx with rfl | rfl
      · exact r0
      · exact hnl
    have hin2 := hin ([r, n][k]'hk) (List.getElem_mem _)
    generalize ([r, n])[k]'hk = w at g hin2
    simp [thenD_pp, sliceCells_sl, sliceCells_z, sliceCells_nil, take_full, appS_sl, appK_ok, appS_none, thenD_ag, agP_nil, agP_cons, hki, b2, rd1_K, rdJ_ok, g]
    generalize hy : appS _ _ _ _ _ _ = xhy
    obtain ⟨l, X5, rfl, h5⟩ := cure_app (bytes := 8) (cure_agree hE2 (c3.grow (List.prefix_append X3 [(⟨[.int .i64 r, .int .i64 n], 1, 2⟩ : Blk)])) (ag_trans a3 agree_app) h.lt) c4 a4 h.lt (by omega) (by omega) (gr_Int _ hin2) hy
    simp [thenD_pp, sliceCells_sl, sliceCells_z, sliceCells_nil, take_full, appS_sl, appK_ok, appS_none, thenD_ag, agP_nil, agP_cons]
    exact ⟨_, _, ⟨rfl, rfl⟩, CurE.v h5 (by omega) (by omega)⟩
  by_cases h1 : z = 1
  · simp [thenD_pp, sliceCells_sl, sliceCells_z, sliceCells_nil, take_full, appS_sl, appK_ok, appS_none, thenD_ag, agP_nil, agP_cons, h0, h1]
    generalize hx : aCall T0 F_spec_l01Cur_pick _ _ = xhx
    obtain ⟨r, X3, rfl, r0, r1, c3, a3⟩ := p_pick hc c2 (by omega) (by decide) hx
    clear hx
    obtain ⟨k, rfl⟩ := Int.eq_ofNat_of_zero_le r0
    have w1 : IntKind.i64.wrap (700 + (k : Int)) = 700 + k := wrap_i64 (by omega) (by omega)
    obtain ⟨m, hm1⟩ : ∃ m : Nat, m = 700 + k - i := ⟨_, rfl⟩
    have w2 : IntKind.i64.wrap (700 + (k : Int) - i) = (m : Int) := by rw [wrap_i64 (by omega) (by omega)]; omega
    have w3 : (m : Int) ≤ 9223372036854775807 := by omega
    have w4 : (m : Int) * 8 ≤ 281474976710656 := by omega
    simp [thenD_pp, sliceCells_sl, sliceCells_z, sliceCells_nil, take_full, appS_sl, appK_ok, appS_none, thenD_ag, agP_nil, agP_cons, w1, w2, w3, w4]
    generalize hy : appS _ _ _ _ _ _ = xhy
    rw [zero_flat] at hy
    rw [show X3 = X3 ++ [] by simp] at hy
    obtain ⟨l, X5, rfl, h5⟩ := cure_appF (bytes := 8) (m := m) fl_Int hE2 c3 a3 h.lt (by omega) (by omega) (by omega) (zs := List.replicate m 0) (by simp) (fun z hz => by
      rw [List.eq_of_mem_replicate hz]
      unfold inI
      omega) hy
    simp [thenD_pp, sliceCells_sl, sliceCells_z, sliceCells_nil, take_full, appS_sl, appK_ok, appS_none, thenD_ag, agP_nil, agP_cons]
    exact ⟨_, _, ⟨rfl, rfl⟩, CurE.v h5 (by omega) (by omega)⟩
  · simp [thenD_pp, sliceCells_sl, sliceCells_z, sliceCells_nil, take_full, appS_sl, appK_ok, appS_none, thenD_ag, agP_nil, agP_cons, h0, h1]
    exact ⟨_, _, ⟨rfl, rfl⟩, CurE.v hE2 (by omega) (by omega)⟩
theorem p_badRow {M0 X : Mem} {p : Nat} {cv : V} {B n most : Int} (hc : CurH M0 cv) (h : Cur M0 p cv B X) (hB : B ≤ 600000000000) (hn : n ≤ 100000000) (hnl : inI n) (hm : most ≤ 100) (hm0 : 0 ≤ most) {x : Option (V × Mem)} (hx : aCall T0 F_spec_l01Cur_badRow [.pointer (some ⟨p, 0, none⟩), .int .i64 n, .int .i64 most] X = x) :
    ∃ (a : Option Addr) (i : Nat) (X' : Mem), x = some (.slice a i i, X') ∧ i ≤ 1000 ∧ CurE ty_Int M0 p cv (B + 500) X i (.slice a i i) X' := by
  obtain ⟨v, X', e, hv⟩ := c_spec_l01Cur_badRow M0 X p cv B n most hc h hB hn hnl hm hm0
  obtain ⟨i, a, hi, rfl, hE⟩ := CurV.e hv
  exact ⟨a, i, X', hx.symm.trans e, hi, hE⟩
theorem c_spec_l01Cur_wide (M0 X : Mem) (p : Nat) (cv : V) (B n : Int) (hc : CurH M0 cv) (h : Cur M0 p cv B X) (hB : B ≤ 800000000000) (hn : 0 < n) :
    Sat (aCall T0 F_spec_l01Cur_wide [.pointer (some ⟨p, 0, none⟩), .int .i64 n] X) (CurI M0 p cv (B + 3) (fun x => 0 ≤ x ∧ x < n) X) := by
  rw [aCall_eq T_spec_l01Cur_wide]; unfold A_spec_l01Cur_wide C_spec_l01Cur_wide; simp [thenD_pp, sliceCells_sl, sliceCells_z, sliceCells_nil, take_full, appS_sl, appK_ok, appS_none, thenD_ag, agP_nil, agP_cons]
  generalize hx : aCall T0 F_spec_l01Cur_pick _ _ = xhx
  obtain ⟨y, X1, rfl, y0, y1, c1, a1⟩ := p_pick hc h (by omega) (by decide) hx
  clear hx
  have w1 : IntKind.i64.wrap (65536 * y) = 65536 * y := wrap_i64 (by omega) (by omega)
  simp [thenD_pp, sliceCells_sl, sliceCells_z, sliceCells_nil, take_full, appS_sl, appK_ok, appS_none, thenD_ag, agP_nil, agP_cons, w1]
  generalize hx : aCall T0 F_spec_l01Cur_pick _ _ = xhx
  obtain ⟨z, X2, rfl, z0, z1, c2, a2⟩ := p_pick hc c1 (by omega) (by decide) hx
  clear hx
  have w2 : IntKind.i64.wrap (256 * z) = 256 * z := wrap_i64 (by omega) (by omega)
  have w3 : IntKind.i64.wrap (65536 * y + 256 * z) = 65536 * y + 256 * z := wrap_i64 (by omega) (by omega)
  simp [thenD_pp, sliceCells_sl, sliceCells_z, sliceCells_nil, take_full, appS_sl, appK_ok, appS_none, thenD_ag, agP_nil, agP_cons, w2, w3]
  generalize hx : aCall T0 F_spec_l01Cur_pick _ _ = xhx
  obtain ⟨s, X3, rfl, s0, s1, c3, a3⟩ := p_pick hc c2 (by omega) (by decide) hx
  clear hx
  have w4 : IntKind.i64.wrap (65536 * y + 256 * z + s) = 65536 * y + 256 * z + s := wrap_i64 (by omega) (by omega)
  have hn0 : n ≠ 0 := by omega
  simp [thenD_pp, sliceCells_sl, sliceCells_z, sliceCells_nil, take_full, appS_sl, appK_ok, appS_none, thenD_ag, agP_nil, agP_cons, w4, hn0]
  exact cur_end h (by omega) ⟨Int.tmod_nonneg _ (by omega), Int.tmod_lt_of_pos _ hn⟩ (c3.mono (by omega)) (ag_trans a1 (ag_trans a2 a3))
theorem l_spec_l01Cur_drawsOf_0 (M0 X : Mem) (p : Nat) (cv : V) (B : Int) (K : Nat) (hc : CurH M0 cv) (hB : B ≤ 600000000000) (hK : K ≤ 1000000) (hpX : p < X.length) (v0 : V) (Z : Mem) (h0 : CurE ty_Int M0 p cv B X 0 v0 Z) :
    ∃ v' X', CurE ty_Int M0 p cv (B + 3 * K) X K v' X' ∧ ∀ n : Int, (K : Int) ≤ n → lp (aCall T0) K_spec_l01Cur_drawsOf_0 L_spec_l01Cur_drawsOf_0 [.pointer (some ⟨p, 0, none⟩), .int .i64 n, und, und, und, v0, und, und, und, und, und, und, und, und, und, und, und, und, und, und, und, und, und, und, und, und, und, und, und, und, und, und, und, und, und, und, und] Z = lp (aCall T0) K_spec_l01Cur_drawsOf_0 L_spec_l01Cur_drawsOf_0 [.pointer (some ⟨p, 0, none⟩), .int .i64 n, und, und, und, v', und, und, und, und, und, und, und, und, und, und, und, und, und, und, und, und, und, und, und, und, und, und, und, und, und, und, und, und, und, und, und] X' := by
  induction K with
  | zero => exact ⟨v0, Z, by simpa using h0, fun _ _ => rfl⟩
  | succ i ih =>
    obtain ⟨v, Y, hY, e⟩ := ih (by omega)
    have hcur : Cur M0 p cv (B + 3 * i) Y := CurE.c hY
    obtain ⟨a, rfl⟩ : ∃ a, v = .slice a i i := by
      obtain ⟨xs, L, g, nd, hf, hn, _⟩ := id hY
      obtain ⟨a, rfl⟩ := g.shape
      exact ⟨a, by rw [hn]⟩
    obtain ⟨⟨vw, Xw⟩, hxw, x, ew, hx2, hc2, ha2⟩ := c_spec_l01Cur_wide M0 Y p cv (B + 3 * i) 65536 hc hcur (by omega) (by decide)
    obtain rfl : vw = .int .i64 x := ew
    obtain ⟨l, X3, hy, h3⟩ := cure_app (bytes := 8) hY hc2 ha2 hpX (by omega) (by omega) (N := [(⟨[.int .i64 x], 1, 2⟩ : Blk)]) (gr_Int _ (x := x) (by unfold inI; omega)) rfl
    refine ⟨_, X3, CurE.mono h3 (by omega), fun n hn => ?_⟩
    rw [e n (by omega)]
    have hin : (i : Int) < n := by omega
    have hy' : appS (Xw ++ [(⟨[.int .i64 x], 1, 2⟩ : Blk)]) 1 8 (.slice a i i) 1 [.int .i64 x] = _ := hy
    rw [S_spec_l01Cur_drawsOf_0]; unfold B_spec_l01Cur_drawsOf_0; simp [thenD_pp, sliceCells_sl, sliceCells_z, sliceCells_nil, take_full, appS_sl, appK_ok, appS_none, thenD_ag, agP_nil, agP_cons, hin, hxw, hy']
theorem c_spec_l01Cur_drawsOf (M0 X : Mem) (p : Nat) (cv : V) (B n : Int) (hc : CurH M0 cv) (h : Cur M0 p cv B X) (hB : B ≤ 500000000000) (hn : n ≤ 100000) :
    ∃ v X', aCall T0 F_spec_l01Cur_drawsOf [.pointer (some ⟨p, 0, none⟩), .int .i64 n] X = some (v, X') ∧ CurV ty_Int M0 p cv (B + 500000) X 100001 v X' := by
  obtain ⟨v', X1, K, hK2, hend, hE, e0⟩ : ∃ v' X1, ∃ K : Nat, K ≤ 100000 ∧ ¬ ((K : Int) < n) ∧ CurE ty_Int M0 p cv (B + 300000) X K v' X1 ∧ lp (aCall T0) K_spec_l01Cur_drawsOf_0 L_spec_l01Cur_drawsOf_0 [.pointer (some ⟨p, 0, none⟩), .int .i64 n, und, und, und, .slice (some ⟨X.length, 0, none⟩) 0 0, und, und, und, und, und, und, und, und, und, und, und, und, und, und, und, und, und, und, und, und, und, und, und, und, und, und, und, und, und, und, und] (X ++ [⟨[], 1, 2⟩]) = lp (aCall T0) K_spec_l01Cur_drawsOf_0 L_spec_l01Cur_drawsOf_0 [.pointer (some ⟨p, 0, none⟩), .int .i64 n, und, und, und, v', und, und, und, und, und, und, und, und, und, und, und, und, und, und, und, und, und, und, und, und, und, und, und, und, und, und, und, und, und, und, und] X1 := by
    by_cases h0 : 0 ≤ n
    · obtain ⟨v', X1, hE, e⟩ := l_spec_l01Cur_drawsOf_0 M0 X p cv B n.toNat hc (by omega) (by omega) h.lt _ _ (cure_nil (t := ty_Int) rfl h)
      exact ⟨v', X1, n.toNat, by omega, by omega, CurE.mono hE (by omega), e n (by omega)⟩
    · exact ⟨_, _, 0, by omega, by omega, CurE.mono (cure_nil (t := ty_Int) rfl h) (by omega), rfl⟩
  obtain ⟨a, rfl⟩ : ∃ a, v' = .slice a K K := by
    obtain ⟨xs, L, g, nd, hf, hn, _⟩ := id hE
    obtain ⟨a, rfl⟩ := g.shape
    exact ⟨a, by rw [hn]⟩
  rw [aCall_eq T_spec_l01Cur_drawsOf]; unfold A_spec_l01Cur_drawsOf C_spec_l01Cur_drawsOf; simp [thenD_pp, sliceCells_sl, sliceCells_z, sliceCells_nil, take_full, appS_sl, appK_ok, appS_none, thenD_ag, agP_nil, agP_cons, zeroCells, e0]
  rw [S_spec_l01Cur_drawsOf_0]; unfold B_spec_l01Cur_drawsOf_0; simp [thenD_pp, sliceCells_sl, sliceCells_z, sliceCells_nil, take_full, appS_sl, appK_ok, appS_none, thenD_ag, agP_nil, agP_cons, hend]
  generalize hx : aCall T0 F_spec_l01Cur_pick _ _ = xhx
  obtain ⟨z, X2, rfl, z0, z1, c2, a2⟩ := p_pick hc (CurE.c hE) (by omega) (by decide) hx
  clear hx
  have hE2 := cure_agree hE c2 a2 h.lt
  by_cases h0 : z = 0
  · simp [thenD_pp, sliceCells_sl, sliceCells_z, sliceCells_nil, take_full, appS_sl, appK_ok, appS_none, thenD_ag, agP_nil, agP_cons, h0]
    generalize hy : appS _ _ _ _ _ _ = xhy
    obtain ⟨l, X5, rfl, h5⟩ := cure_app (bytes := 8) hE2 c2 (ag_refl _ _) h.lt (by omega) (by omega) (gr_Int _ (x := 0) (by unfold inI; omega)) hy
    simp [thenD_pp, sliceCells_sl, sliceCells_z, sliceCells_nil, take_full, appS_sl, appK_ok, appS_none, thenD_ag, agP_nil, agP_cons]
    exact ⟨_, _, ⟨rfl, rfl⟩, CurE.v h5 (by omega) (by omega)⟩
  by_cases h1 : z = 1
  · by_cases hK0 : 0 < K
    · simp [thenD_pp, sliceCells_sl, sliceCells_z, sliceCells_nil, take_full, appS_sl, appK_ok, appS_none, thenD_ag, agP_nil, agP_cons, h0, h1, hK0]
      generalize hx : aCall T0 F_spec_l01Cur_pick _ _ = xhx
      obtain ⟨u, X3, rfl, u0, u1, c3, a3⟩ := p_pick (n := (K : Int)) hc c2 (by omega) (by omega) hx
      clear hx
      obtain ⟨k, rfl⟩ := Int.eq_ofNat_of_zero_le u0
      have hk : k < K := by omega
      simp [thenD_pp, sliceCells_sl, sliceCells_z, sliceCells_nil, take_full, appS_sl, appK_ok, appS_none, thenD_ag, agP_nil, agP_cons]
      generalize hx : aCall T0 F_spec_l01Cur_raw _ _ = xhx
      obtain ⟨r, X4, rfl, r0, c4, a4⟩ := p_raw hc c3 (by omega) hx
      clear hx
      have hE4 := cure_agree hE2 c4 (ag_trans a3 a4) h.lt
      obtain ⟨xs, L, g, nd, hf, hn, _, hag⟩ := id hE4
      obtain ⟨l, cs, L', ev, b1, b2, b4, b5, b6⟩ := g.put (i := k) (by omega) (gr_Int X4 r0) (by simp) nd (by simp)
      rw [hn] at ev
      cases ev
      have b1 : X4[l]? = some ⟨cs, 1, 2⟩ := b1
      have b2 : k + 1 ≤ cs.length := by simpa [Ty.w] using b2
      have e10 : splice cs (k * ty_Int.w) [.int .i64 r] = List.take k cs ++ Value.int .i64 r :: List.drop (k + 1) cs := by simp [splice, Ty.w]
      rw [e10] at b5
      have hpL : p ∉ L := fun hm => by have := hf p hm; have := h.lt; omega
      have hlp : l ≠ p := fun e => hpL (e ▸ b4)
      simp [thenD_pp, sliceCells_sl, sliceCells_z, sliceCells_nil, take_full, appS_sl, appK_ok, appS_none, thenD_ag, agP_nil, agP_cons, hk, b1, b2, wrn_K, wrJ_ok]
      refine ⟨_, _, ⟨rfl, rfl⟩, xs.set k r, L', b5, b6.1, fun j hj => ?_, by simp; omega, ?_, ?_⟩
      · rcases b6.2 j hj with h | h
        · exact hf j h
        · simp at h
      · obtain ⟨q1, q2, a', s', q3, q4, q5, q6⟩ := c4
        have := hf l b4
        have := hag.1
        have := h.lt
        exact ⟨pf_set (by omega) q1, q2, a', s', by rw [gt_set hlp]; exact q3, q4, by omega, q6⟩
      · refine ⟨by rw [List.length_set]; exact hag.1, fun j hj hn2 => ?_⟩
        have := hf l b4
        rw [gt_set (by omega)]
        exact hag.2 j hj hn2
    · simp [thenD_pp, sliceCells_sl, sliceCells_z, sliceCells_nil, take_full, appS_sl, appK_ok, appS_none, thenD_ag, agP_nil, agP_cons, h0, h1, hK0]
      exact ⟨_, _, ⟨rfl, rfl⟩, CurE.v hE2 (by omega) (by omega)⟩
  · simp [thenD_pp, sliceCells_sl, sliceCells_z, sliceCells_nil, take_full, appS_sl, appK_ok, appS_none, thenD_ag, agP_nil, agP_cons, h0, h1]
    exact ⟨_, _, ⟨rfl, rfl⟩, CurE.v hE2 (by omega) (by omega)⟩
theorem p_drawsOf {M0 X : Mem} {p : Nat} {cv : V} {B n : Int} (hc : CurH M0 cv) (h : Cur M0 p cv B X) (hB : B ≤ 500000000000) (hn : n ≤ 100000) {x : Option (V × Mem)} (hx : aCall T0 F_spec_l01Cur_drawsOf [.pointer (some ⟨p, 0, none⟩), .int .i64 n] X = x) :
    ∃ (a : Option Addr) (i : Nat) (X' : Mem), x = some (.slice a i i, X') ∧ i ≤ 100001 ∧ CurE ty_Int M0 p cv (B + 500000) X i (.slice a i i) X' := by
  obtain ⟨v, X', e, hv⟩ := c_spec_l01Cur_drawsOf M0 X p cv B n hc h hB hn
  obtain ⟨i, a, hi, rfl, hE⟩ := CurV.e hv
  exact ⟨a, i, X', hx.symm.trans e, hi, hE⟩
theorem l_spec_DrawPairDraws_0 (M0 X : Mem) (p : Nat) (cv : V) (B : Int) (n : V) (aa : Option Addr) (i1 i2 : Nat) (hpX : p < X.length) (h1 : i1 ≤ 1000) (vb : V) (Z : Mem) (h : CurE ty_Int M0 p cv B X i2 vb Z) : ∀ d, i2 + d ≤ i1 →
    ∃ v' X', CurE ty_Int M0 p cv B X (i2 + d) v' X' ∧ lp (aCall T0) K_spec_DrawPairDraws_0 L_spec_DrawPairDraws_0 [und, und, und, und, und, und, .pointer (some ⟨p, 0, none⟩), n, .slice aa i1 i1, vb, und, und, und, und, und, und, und, und, und, und, und, und, und, und, und, und, und, und, und, und, und, und, und, und, und, und, und, und, und, und, und, und, und, und, und, und, und, und, und, und, und, und, und, und, und] Z = lp (aCall T0) K_spec_DrawPairDraws_0 L_spec_DrawPairDraws_0 [und, und, und, und, und, und, .pointer (some ⟨p, 0, none⟩), n, .slice aa i1 i1, v', und, und, und, und, und, und, und, und, und, und, und, und, und, und, und, und, und, und, und, und, und, und, und, und, und, und, und, und, und, und, und, und, und, und, und, und, und, und, und, und, und, und, und, und, und] X'
  | 0, _ => ⟨vb, Z, h, rfl⟩
  | d + 1, hd => by
    obtain ⟨v, Y, hY, e⟩ := l_spec_DrawPairDraws_0 M0 X p cv B n aa i1 i2 hpX h1 vb Z h d (by omega)
    obtain ⟨a, rfl⟩ : ∃ a, v = .slice a (i2 + d) (i2 + d) := by
      obtain ⟨xs, L, g, nd, hf, hn, _⟩ := id hY
      obtain ⟨a, rfl⟩ := g.shape
      exact ⟨a, by rw [hn]⟩
    obtain ⟨l, X3, hy, h3⟩ := cure_app (bytes := 8) hY (CurE.c hY) (ag_refl _ _) hpX (by omega) (by omega) (N := [(⟨[.int .i64 (-1)], 1, 2⟩ : Blk)]) (gr_Int _ (x := -1) (by unfold inI; omega)) rfl
    refine ⟨_, X3, h3, ?_⟩
    rw [e]
    have hin : i2 + d < i1 := by omega
    have hin2 : (i2 : Int) + d < i1 := by omega
    have hy' : appS (Y ++ [(⟨[.int .i64 (-1)], 1, 2⟩ : Blk)]) 1 8 (.slice a (i2 + d) (i2 + d)) 1 [.int .i64 (-1)] = _ := hy
    rw [S_spec_DrawPairDraws_0]; unfold B_spec_DrawPairDraws_0; simp [thenD_pp, sliceCells_sl, sliceCells_z, sliceCells_nil, take_full, appS_sl, appK_ok, appS_none, thenD_ag, agP_nil, agP_cons, hin, hin2, hy']
theorem c_spec_DrawPairDraws (M : Mem) (cv : V) (code : List UInt8) (h : Rep (.sl ty_Byte) M [cv] code) (hl : code.length ≤ 1048576) :
    ∃ (n : Int) (va vb vd : V) (i j k : Nat) (X' : Mem), aCall T0 F_spec_DrawPairDraws [cv] M = some (.tuple #[.int .i64 n, va, vb, vd], X') ∧ M <+: X' ∧ inI n ∧ i ≤ 1000 ∧ j ≤ 1000 ∧ k ≤ 100001 ∧ RepN ty_Int X' va i ∧ RepN ty_Int X' vb j ∧ RepN ty_Int X' vd k := by
  have hc : CurH M cv := ⟨code, h, hl⟩
  obtain ⟨k, k0, k1, e0⟩ := c_spec_l01Open M cv code h
  have c0 := cur_open (M := M) (cv := cv) k0 k1
  rw [aCall_eq T_spec_DrawPairDraws]; unfold A_spec_DrawPairDraws C_spec_DrawPairDraws; simp [thenD_pp, sliceCells_sl, sliceCells_z, sliceCells_nil, take_full, appS_sl, appK_ok, appS_none, thenD_ag, agP_nil, agP_cons, e0]
  generalize hx : aCall T0 F_spec_l01Cur_many _ _ = xhx
  obtain ⟨n, X1, rfl, n0, c1, a1⟩ := p_many hc c0 (by omega) hx
  clear hx
  have n0' := n0
  unfold inI at n0'
  obtain ⟨m, hm⟩ : ∃ m : Int, m = if n < 300 then n else 300 := ⟨_, rfl⟩
  have hm1 : inI m ∧ m ≤ 300 := by unfold inI; rw [hm]; split <;> omega
  simp [thenD_pp, sliceCells_sl, sliceCells_z, sliceCells_nil, take_full, appS_sl, appK_ok, appS_none, thenD_ag, agP_nil, agP_cons]
  rw [← hm]
  generalize hx : aCall T0 F_spec_l01Cur_badRow _ _ = xhx
  obtain ⟨a, i, X2, rfl, hi, hE⟩ := p_badRow hc c1 (by omega) (by omega) hm1.1 (by decide) (by decide) hx
  clear hx
  simp [thenD_pp, sliceCells_sl, sliceCells_z, sliceCells_nil, take_full, appS_sl, appK_ok, appS_none, thenD_ag, agP_nil, agP_cons]
  rw [← hm]
  generalize hx : aCall T0 F_spec_l01Cur_badRow _ _ = xhx
  obtain ⟨b, j, X3, rfl, hj, hF⟩ := p_badRow hc (CurE.c hE) (by omega) (by omega) hm1.1 (by decide) (by decide) hx
  clear hx
  have hp2 := (CurE.c hE).lt
  obtain ⟨j', b', X4, hj', hij, hF', e4⟩ : ∃ (j' : Nat) (b' : Option Addr) (X4 : Mem), j' ≤ 1000 ∧ i ≤ j' ∧ CurE ty_Int M M.length cv (0 + 5 + 500 + 500) X2 j' (.slice b' j' j') X4 ∧ lp (aCall T0) K_spec_DrawPairDraws_0 L_spec_DrawPairDraws_0 [und, und, und, und, und, und, .pointer (some ⟨M.length, 0, none⟩), .int .i64 n, .slice a i i, .slice b j j, und, und, und, und, und, und, und, und, und, und, und, und, und, und, und, und, und, und, und, und, und, und, und, und, und, und, und, und, und, und, und, und, und, und, und, und, und, und, und, und, und, und, und, und, und] X3 = lp (aCall T0) K_spec_DrawPairDraws_0 L_spec_DrawPairDraws_0 [und, und, und, und, und, und, .pointer (some ⟨M.length, 0, none⟩), .int .i64 n, .slice a i i, .slice b' j' j', und, und, und, und, und, und, und, und, und, und, und, und, und, und, und, und, und, und, und, und, und, und, und, und, und, und, und, und, und, und, und, und, und, und, und, und, und, und, und, und, und, und, und, und, und] X4 := by
    by_cases hij : i ≤ j
    · exact ⟨j, b, X3, hj, hij, hF, rfl⟩
    · obtain ⟨v', X', hF', e⟩ := l_spec_DrawPairDraws_0 M X2 M.length cv (0 + 5 + 500 + 500) (.int .i64 n) a i j hp2 hi _ X3 hF (i - j) (by omega)
      have hs : j + (i - j) = i := by omega
      rw [hs] at hF'
      obtain ⟨b', rfl⟩ : ∃ b', v' = .slice b' i i := by
        obtain ⟨xs, L, g, nd, hf, hn, _⟩ := id hF'
        obtain ⟨a, rfl⟩ := g.shape
        exact ⟨a, by rw [hn]⟩
      exact ⟨i, b', X', hi, Nat.le_refl _, hF', e⟩
  have hE4 := cure_agree hE (CurE.c hF') (CurE.ag hF') c1.lt
  have hend : ¬ j' < i := by omega
  simp [thenD_pp, sliceCells_sl, sliceCells_z, sliceCells_nil, take_full, appS_sl, appK_ok, appS_none, thenD_ag, agP_nil, agP_cons, e4]
  rw [S_spec_DrawPairDraws_0]; unfold B_spec_DrawPairDraws_0; simp [thenD_pp, sliceCells_sl, sliceCells_z, sliceCells_nil, take_full, appS_sl, appK_ok, appS_none, thenD_ag, agP_nil, agP_cons, hend]
  obtain ⟨q, hq⟩ : ∃ q : Int, q = (if (if 0 < n then n else 0) < 300 then (if 0 < n then n else 0) else 300) := ⟨_, rfl⟩
  have hq1 : 0 ≤ q ∧ q ≤ 300 := by rw [hq]; split <;> split <;> omega
  have w : IntKind.i64.wrap (q + (i : Int)) = q + i := wrap_i64 (by omega) (by omega)
  rw [hq] at w
  obtain ⟨bs, rb, lb⟩ := CurE.rep hF'
  by_cases hgt : i < j'
  · simp [thenD_pp, sliceCells_sl, sliceCells_z, sliceCells_nil, take_full, appS_sl, appK_ok, appS_none, thenD_ag, agP_nil, agP_cons, hgt]
    generalize hx : aCall T0 F_spec_l01Cur_once _ _ = xhx
    obtain ⟨t, X5, rfl, c5, a5⟩ := p_once (n := 9) hc (CurE.c hF') (by omega) (by decide) (by decide) hx
    clear hx
    have hE5 := cure_agree hE4 c5 a5 c1.lt
    have hF5 := cure_agree hF' c5 a5 hp2
    cases t with
    | true =>
      simp [thenD_pp, sliceCells_sl, sliceCells_z, sliceCells_nil, take_full, appS_sl, appK_ok, appS_none, thenD_ag, agP_nil, agP_cons, w]
      rw [← hq]
      generalize hx : aCall T0 F_spec_l01Cur_drawsOf _ _ = xhx
      obtain ⟨d, k, X6, rfl, hk, hD⟩ := p_drawsOf (n := q + i) hc c5 (by omega) (by omega) hx
      clear hx
      have hE6 := cure_agree hE5 (CurE.c hD) (CurE.ag hD) c1.lt
      have hF6 := cure_agree hF5 (CurE.c hD) (CurE.ag hD) hp2
      simp [thenD_pp, sliceCells_sl, sliceCells_z, sliceCells_nil, take_full, appS_sl, appK_ok, appS_none, thenD_ag, agP_nil, agP_cons]
      exact ⟨n, _, _, _, i, j', k, _, ⟨⟨rfl, rfl, rfl, rfl⟩, rfl⟩, (CurE.c hD).1, n0, hi, hj', hk, CurE.rep hE6, CurE.rep hF6, CurE.rep hD⟩
    | false =>
      obtain ⟨bs5, rb5, lb5⟩ : ∃ bs : List Int, Rep (.sl ty_Int) X5 [.slice b' j' j'] bs ∧ bs.length = j' := CurE.rep hF5
      obtain ⟨lb0, ob0, rfl, _, _⟩ := at_Int rb5 (i := 0) (by omega)
      obtain ⟨bk, hbk, hbw, _⟩ := rep_blk rb5
      have hbw : bk.w = 1 := hbw
      have hle : i ≤ j' := by omega
      have rt := rep_take rb5 i (by omega) j'
      simp [thenD_pp, sliceCells_sl, sliceCells_z, sliceCells_nil, take_full, appS_sl, appK_ok, appS_none, thenD_ag, agP_nil, agP_cons, w, hle, hbk, hbw]
      rw [← hq]
      generalize hx : aCall T0 F_spec_l01Cur_drawsOf _ _ = xhx
      obtain ⟨d, k, X6, rfl, hk, hD⟩ := p_drawsOf (n := q + i) hc c5 (by omega) (by omega) hx
      clear hx
      have hE6 := cure_agree hE5 (CurE.c hD) (CurE.ag hD) c1.lt
      have hF6 := cure_agree hF5 (CurE.c hD) (CurE.ag hD) hp2
      obtain ⟨bs6, rb6, lb6⟩ : ∃ bs : List Int, Rep (.sl ty_Int) X6 [.slice (some ⟨lb0, ob0, none⟩) j' j'] bs ∧ bs.length = j' := CurE.rep hF6
      simp [thenD_pp, sliceCells_sl, sliceCells_z, sliceCells_nil, take_full, appS_sl, appK_ok, appS_none, thenD_ag, agP_nil, agP_cons]
      exact ⟨n, _, _, _, i, i, k, _, ⟨⟨rfl, rfl, rfl, rfl⟩, rfl⟩, (CurE.c hD).1, n0, hi, hi, hk, CurE.rep hE6, ⟨_, rep_take rb6 i (by omega) j', by simp; omega⟩, CurE.rep hD⟩
  · simp [thenD_pp, sliceCells_sl, sliceCells_z, sliceCells_nil, take_full, appS_sl, appK_ok, appS_none, thenD_ag, agP_nil, agP_cons, hgt, w]
    rw [← hq]
    generalize hx : aCall T0 F_spec_l01Cur_drawsOf _ _ = xhx
    obtain ⟨d, k, X6, rfl, hk, hD⟩ := p_drawsOf (n := q + i) hc (CurE.c hF') (by omega) (by omega) hx
    clear hx
    have hE6 := cure_agree hE4 (CurE.c hD) (CurE.ag hD) c1.lt
    have hF6 := cure_agree hF' (CurE.c hD) (CurE.ag hD) hp2
    simp [thenD_pp, sliceCells_sl, sliceCells_z, sliceCells_nil, take_full, appS_sl, appK_ok, appS_none, thenD_ag, agP_nil, agP_cons]
    exact ⟨n, _, _, _, i, j', k, _, ⟨⟨rfl, rfl, rfl, rfl⟩, rfl⟩, (CurE.c hD).1, n0, hi, hj', hk, CurE.rep hE6, CurE.rep hF6, CurE.rep hD⟩
theorem c_laws_same (M : Mem) (v u : V) (xs : List Int) (h : Rep (.sl ty_Int) M [v] xs) (h2 : Rep (.sl ty_Int) M [u] xs) (hn : xs.length ≤ 1048576) : aCall T0 F_laws_same [v, u] M = some (.bool true, M) := by
  obtain ⟨a, c, rfl⟩ := h.slen
  obtain ⟨b, d, rfl⟩ := h2.slen
  have hl := chain (g := fun i => lp (aCall T0) K_laws_same_0 L_laws_same_0 [.slice a xs.length c, .slice b xs.length d, und, und, und, .int .i64 i, und, und, und, und, und, und, und, und, und, und, und, und, und, und, und, und, und, und, und, und] M) (n := xs.length) fun i hi => by
    have e6 : IntKind.i64.wrap ((i : Int) + 1) = i + 1 := wrap_i64 (by omega) (by omega)
    obtain ⟨l, o, rfl, _, q⟩ := at_Int h hi
    obtain ⟨l2, o2, rfl, _, q2⟩ := at_Int h2 hi
    rw [S_laws_same_0]; unfold B_laws_same_0; simp [thenD_pp, sliceCells_sl, sliceCells_z, sliceCells_nil, take_full, appS_sl, appK_ok, appS_none, thenD_ag, agP_nil, agP_cons, hi, q, q2, e6]
  simp only [Int.natCast_zero, Int.ofNat_zero] at hl
  rw [aCall_eq T_laws_same]; unfold A_laws_same C_laws_same; simp [thenD_pp, sliceCells_sl, sliceCells_z, sliceCells_nil, take_full, appS_sl, appK_ok, appS_none, thenD_ag, agP_nil, agP_cons, hl]
  rw [S_laws_same_0]; unfold B_laws_same_0; simp [thenD_pp, sliceCells_sl, sliceCells_z, sliceCells_nil, take_full, appS_sl, appK_ok, appS_none, thenD_ag, agP_nil, agP_cons]
theorem r_laws_pick_0 (M : Mem) (a : Option Addr) (c : Nat) (code : List UInt8) (at0 n x : Int) (h : Rep (.sl ty_Byte) M [.slice a code.length c] code) (hl : code.length ≤ 1048576) (h0 : 0 < code.length) (ha : 0 ≤ at0 ∧ at0 ≤ 1000) (hx : 0 ≤ x ∧ x ≤ 100000000) (k : Nat) (hk : k < 3) :
    ∃ y : Int, 0 ≤ y ∧ y ≤ 31 * x + 255 ∧ lp (aCall T0) K_laws_pick_0 L_laws_pick_0 [.slice a code.length c, .int .i64 at0, .int .i64 n, und, und, und, und, .int .i64 x, .int .i64 k, und, und, und, und, und, und, und, und, und, und, und, und, und, und, und, und, und, und, und, und, und, und, und, und, und, und, und, und, und] M = lp (aCall T0) K_laws_pick_0 L_laws_pick_0 [.slice a code.length c, .int .i64 at0, .int .i64 n, und, und, und, und, .int .i64 y, .int .i64 (k + 1 : Nat), und, und, und, und, und, und, und, und, und, und, und, und, und, und, und, und, und, und, und, und, und, und, und, und, und, und, und, und, und] M := by
  have w1 : IntKind.i64.wrap (31 * x) = 31 * x := wrap_i64 (by omega) (by omega)
  have w2 : IntKind.i64.wrap (at0 + (k : Int)) = at0 + k := wrap_i64 (by omega) (by omega)
  have e6 : IntKind.i64.wrap ((k : Int) + 1) = k + 1 := wrap_i64 (by omega) (by omega)
  obtain ⟨j, hj, hjl⟩ : ∃ j : Nat, (at0 + (k : Int)).tmod (code.length : Int) = j ∧ j < code.length := by
    have t1 := Int.tmod_nonneg (code.length : Int) (show 0 ≤ at0 + (k : Int) by omega)
    have t2 := Int.tmod_lt_of_pos (at0 + (k : Int)) (show (0 : Int) < code.length by omega)
    obtain ⟨j, hj⟩ := Int.eq_ofNat_of_zero_le t1
    exact ⟨j, hj, by omega⟩
  have hln : (code.length : Int) ≠ 0 := by omega
  have hrem := binS_rem .i64 (at0 + (k : Int)) (code.length : Int) hln
  rw [hj] at hrem
  obtain ⟨l, o, rfl, _, hrd⟩ := at_Byte h hjl
  obtain ⟨y, hy, hy0, hy1, hy2⟩ : ∃ y : Int, byteV code[j] = .int .u8 y ∧ 0 ≤ y ∧ y ≤ 255 ∧ IntKind.i64.wrap y = y := by
    have : code[j].toNat < 256 := code[j].toNat_lt
    exact ⟨code[j].toNat, rfl, by omega, by omega, wrap_i64 (by omega) (by omega)⟩
  rw [hy] at hrd
  have w3 : IntKind.i64.wrap (31 * x + y) = 31 * x + y := wrap_i64 (by omega) (by omega)
  refine ⟨31 * x + y, by omega, by omega, ?_⟩
  have hk2 : (k : Int) < 3 := by omega
  rw [S_laws_pick_0]; unfold B_laws_pick_0; simp [thenD_pp, sliceCells_sl, sliceCells_z, sliceCells_nil, take_full, appS_sl, appK_ok, appS_none, thenD_ag, agP_nil, agP_cons, hk, hk2, w1, w2, hrem, hjl, hrd, hy2, w3, e6]
theorem c_laws_pick (M : Mem) (cv : V) (code : List UInt8) (at0 n : Int) (h : Rep (.sl ty_Byte) M [cv] code) (hl : code.length ≤ 1048576) (ha : 0 ≤ at0 ∧ at0 ≤ 1000) (hn : 2 ≤ n ∧ n ≤ 1000000) : ∃ x : Int, aCall T0 F_laws_pick [cv, .int .i64 at0, .int .i64 n] M = some (.int .i64 x, M) ∧ 0 ≤ x ∧ x < n := by
  obtain ⟨a, c, rfl⟩ := h.slen
  have hn2 : ¬ n < 2 := by omega
  have hn0 : n ≠ 0 := by omega
  by_cases h0 : 0 < code.length
  · have hz : ¬ code.length = 0 := by omega
    have hz2 : code ≠ [] := fun e => by rw [e] at h0; simp at h0
    obtain ⟨x1, p1, q1, e1⟩ := r_laws_pick_0 M a c code at0 n 0 h hl h0 ha (by omega) 0 (by decide)
    obtain ⟨x2, p2, q2, e2⟩ := r_laws_pick_0 M a c code at0 n x1 h hl h0 ha (by omega) 1 (by decide)
    obtain ⟨x3, p3, q3, e3⟩ := r_laws_pick_0 M a c code at0 n x2 h hl h0 ha (by omega) 2 (by decide)
    have e := e1.trans (e2.trans e3)
    simp only [Int.natCast_zero, Int.ofNat_zero] at e
    have w : IntKind.i64.wrap (x3 + at0) = x3 + at0 := wrap_i64 (by omega) (by omega)
    refine ⟨(x3 + at0).tmod n, ?_, Int.tmod_nonneg _ (by omega), Int.tmod_lt_of_pos _ (by omega)⟩
    rw [aCall_eq T_laws_pick]; unfold A_laws_pick C_laws_pick; simp [thenD_pp, sliceCells_sl, sliceCells_z, sliceCells_nil, take_full, appS_sl, appK_ok, appS_none, thenD_ag, agP_nil, agP_cons, hz, hz2, hn2, e]
    rw [S_laws_pick_0]; unfold B_laws_pick_0; simp [thenD_pp, sliceCells_sl, sliceCells_z, sliceCells_nil, take_full, appS_sl, appK_ok, appS_none, thenD_ag, agP_nil, agP_cons, w, hn0]
  · have hz : code = [] := List.length_eq_zero_iff.1 (by omega)
    subst hz
    refine ⟨0, ?_, by omega, by omega⟩
    rw [aCall_eq T_laws_pick]; unfold A_laws_pick C_laws_pick; simp [thenD_pp, sliceCells_sl, sliceCells_z, sliceCells_nil, take_full, appS_sl, appK_ok, appS_none, thenD_ag, agP_nil, agP_cons]
set_option maxHeartbeats 4000000 in
set_option maxRecDepth 20000 in
theorem law_laws_FnPaired (M : Mem) (avs : List V) (_ : ∀ b ∈ M, b.st ≠ 2) (h : Ins [(false, (.sl .u8))] M avs) : ∃ M', aCall T0 F_laws_FnPaired avs M = some (.bool true, M') := by
  obtain ⟨v, _, code, rfl, h1, f1, h⟩ := ins_cons h
  obtain rfl := ins_nil h
  have hr := repv_one h1
  obtain ⟨a0, c0, rfl⟩ := hr.slen
  have hb := c_laws_big M a0 code.length c0
  by_cases hg : 1048576 < code.length
  · rw [decide_eq_true hg] at hb
    refine ⟨M, ?_⟩
    rw [aCall_eq T_laws_FnPaired]; unfold A_laws_FnPaired C_laws_FnPaired; simp [thenD_pp, sliceCells_sl, sliceCells_z, sliceCells_nil, take_full, appS_sl, appK_ok, appS_none, thenD_ag, agP_nil, agP_cons, hb]
  rw [decide_eq_false hg] at hb
  obtain ⟨n, va, vb, vd, i, j, k, X1, e1, p1, hn, hi, hj, hk, hra, hrb, hrd⟩ := c_spec_DrawPairDraws M _ code hr (by omega)
  obtain ⟨a, r1, l1⟩ : ∃ a : List Int, Rep (.sl ty_Int) X1 [va] a ∧ a.length = i := hra
  obtain ⟨b, r2, l2⟩ : ∃ b : List Int, Rep (.sl ty_Int) X1 [vb] b ∧ b.length = j := hrb
  obtain ⟨ds, r3, l3⟩ : ∃ ds : List Int, Rep (.sl ty_Int) X1 [vd] ds ∧ ds.length = k := hrd
  subst l1 l2 l3
  obtain ⟨lg, e0, g0, g1⟩ := c_laws_pick X1 _ code 5 7 (hr.mono p1) (by omega) (by decide) (by decide)
  obtain ⟨X2, u2, p2, e2, _⟩ := d_spec_PairDraws X1 n _ a r1 (by omega) _ b r2 (by omega) _ ds r3 (by omega)
  obtain ⟨X3, u3, L3, p3, e3, o3, _⟩ := d_impl_PairDraws X2 n _ a (r1.mono p2) (by omega) _ b (r2.mono p2) (by omega) _ ds (r3.mono p2) (by omega)
  have r4 := o3.rep
  cases hok : pairOk n a b ds with
  | false =>
    rw [hok] at e2 e3
    rw [aCall_eq T_laws_FnPaired]; unfold A_laws_FnPaired C_laws_FnPaired; simp [thenD_pp, sliceCells_sl, sliceCells_z, sliceCells_nil, take_full, appS_sl, appK_ok, appS_none, thenD_ag, agP_nil, agP_cons, hb, e1, e0, e2, e3]
    exact gc_ex _ _ _
  | true =>
  rw [hok] at e2 e3
  obtain ⟨t1, t2, t3, t4, t5⟩ := pair_law hok ⟨g0, (by omega : lg ≤ 6)⟩
  have hpl := pairR_len n a b ds
  have q3 := p2.trans p3
  obtain ⟨X4, u4, L4, p4, e4, o4, _⟩ := d_impl_PathSeq X3 n lg _ a (r1.mono q3) (by omega) _ ds (r3.mono q3) (by omega)
  obtain ⟨X5, u5, L5, p5, e5, o5, _⟩ := d_impl_PathSeq X4 n lg _ b (r2.mono (q3.trans p4)) (by omega) _ _ (r4.mono p4) (by omega)
  obtain ⟨X6, u6, L6, p6, e6, o6, _⟩ := d_impl_PairDraws X5 n _ b (r2.mono ((q3.trans p4).trans p5)) (by omega) _ a (r1.mono ((q3.trans p4).trans p5)) (by omega) _ _ ((r4.mono p4).mono p5) (by omega)
  rw [t1] at e4
  rw [t2] at e5
  rw [t3] at e6
  have s4 := (o4.rep.mono p5).mono p6
  have s5 := o5.rep.mono p6
  have s6 := o6.rep
  unfold pathR at s4 s5
  rw [if_pos t1, t4] at s4
  rw [if_pos t2] at s5
  rw [t5] at s6
  have hps : (pathsI n lg b (pairR n a b ds)).length = a.length := by rw [← t4]; simp [pathsI]
  have c1 := c_laws_same X6 _ _ _ s4 s5 (by omega)
  have c2 := c_laws_same X6 _ _ _ s6 (((r3.mono q3).mono p4).mono (p5.trans p6)) (by omega)
  obtain ⟨a4, c4, rfl⟩ := s4.slen
  obtain ⟨a1, c1', rfl⟩ := r1.slen
  rw [hps] at e4 c1
  rw [aCall_eq T_laws_FnPaired]; unfold A_laws_FnPaired C_laws_FnPaired; simp [thenD_pp, sliceCells_sl, sliceCells_z, sliceCells_nil, take_full, appS_sl, appK_ok, appS_none, thenD_ag, agP_nil, agP_cons, hb, e1, e0, e2, e3, e4, e5, e6, c1, c2]
  exact gc_ex _ _ _
end GoAm
