/- What the functions do that the law reaches; and the law. -/
import Derived.Test.YtcikkbcneeakiaaReplyOkt
import Derived.Test.YtcikkbcneeakiaaAmOwn
set_option autoImplicit false
set_option linter.unusedVariables false
set_option linter.unusedSimpArgs false
namespace GoAm
open Go
abbrev ty_Int : Ty := .int .i64
abbrev ty_Rec : Ty := .pr .bool (.pr (.int .i64) (.pr (.int .i64) .str))
instance d_Rec : DecidableEq ty_Rec.D := Ty.deq ty_Rec
abbrev ty_Reply : Ty := .pr (.int .i64) (.pr .bool (.pr (.int .i64) (.pr (.sl ty_Rec) (.sl ty_Int))))
theorem gc_boolp {M M' : Mem} (hp : M <+: M') (b : Bool) : gc M (some (.bool b, M')) = some (.bool b, M) := by
  obtain ⟨N, rfl⟩ := hp
  exact gc_bool M N b
abbrev cY (k : Int) (f : Bool) (w : Int) (v u : V) : List V := [.int .i64 k, .bool f, .int .i64 w, v, u]
def shapeB (k s : Int) : Bool := if k = 6 then decide (1 ≤ s) && decide (s ≤ 16) else decide (1 ≤ k) && decide (k ≤ 5) && decide (s = 0)
def okByte (b : UInt8) : Bool := decide (97 ≤ (b.toNat : Int)) && decide ((b.toNat : Int) ≤ 122)
def wordB (w : List UInt8) : Bool := w.all okByte && (decide (1 ≤ (w.length : Int)) && decide ((w.length : Int) ≤ 32))
def zRec : ty_Rec.D := (false, (0 : Int), (0 : Int), ([] : List UInt8))
def recB (r : ty_Rec.D) : Bool := decide (r = zRec) || (r.1 && (decide (0 ≤ (r.2.1 : Int)) && decide ((r.2.1 : Int) ≤ 7)) && (decide (0 ≤ (r.2.2.1 : Int)) && decide ((r.2.2.1 : Int) ≤ 65535)) && wordB r.2.2.2)
def cmpW (a b : List UInt8) : Int := if Op.bytesLess a b = true then -1 else if Op.bytesLess b a = true then 1 else 0
def cmpI (a b : Int) : Int := if a < b then -1 else if b < a then 1 else 0
def orI (a b c : Int) : Int := if a = 0 then (if b = 0 then c else b) else a
def aheadB (a b : ty_Rec.D) : Bool := if a.1 = true ∧ b.1 = true then decide (orI (cmpI a.2.1 b.2.1) (cmpI b.2.2.1 a.2.2.1) (cmpW a.2.2.2 b.2.2.2) < 0) else (a.1 && !b.1)
def okT (xs : List ty_Rec.D) (i : Nat) : Bool := match xs[i]?, xs[i - 1]? with
  | some x, some y => recB x && decide ((x.2.1 : Int) ≤ 3) && (decide (i = 0) || !aheadB x y) && !(x.1 && (xs.take i).any fun p => decide (p.2.2.2 = x.2.2.2))
  | _, _ => true
def topB (xs : List ty_Rec.D) : Bool := decide (xs.length = 8) && (List.range xs.length).all (okT xs)
def markOk (n : Int) : Bool := decide (0 ≤ n) && decide (n ≤ 3)
def marksB (xs : List Int) (s : Int) : Bool := decide ((xs.length : Int) = s) && xs.all markOk
def replyB (kind slots k : Int) (f : Bool) (w : Int) (top : List ty_Rec.D) (marks : List Int) : Bool :=
  shapeB kind slots && (decide (0 ≤ k) && decide (k ≤ 8)) &&
  ((if k = 0 ∧ kind = 1 then (decide (0 ≤ w) && decide (w ≤ 65535)) && (f || decide (w = 0)) else !f && decide (w = 0)) &&
   (if k = 0 ∧ kind = 2 then topB top else decide (top.length = 0)) &&
   (if k = 0 ∧ kind = 6 then marksB marks slots else decide (marks.length = 0)))
def shapeB2 (k s : Int) : Bool := if k = 6 then decide (1 ≤ s) && decide (s ≤ 16) else decide (1 ≤ k) && decide (k ≤ 6) && decide (s = 0)
theorem shapeB2_eq (k s : Int) : shapeB2 k s = shapeB k s := by
  unfold shapeB2 shapeB
  split
  · rfl
  · rw [show decide (k ≤ 6) = decide (k ≤ 5) from decide_eq_decide.2 (by omega)]
theorem c_spec_l18Shape (M : Mem) (k s : Int) : aCall T0 F_spec_l18Shape [.int .i64 k, .int .i64 s] M = some (.bool (shapeB k s), M) := by
  rw [← shapeB2_eq]
  unfold shapeB2
  rw [aCall_eq T_spec_l18Shape]; unfold A_spec_l18Shape C_spec_l18Shape; simp
  repeat' ((first | rw [selO_some] | rw [condR_bool] | rw [selD_some]); split <;> rename_i hq <;> (have hq2 := hq) <;> (try simp at hq2) <;> (try simp [*]))
def hs (h : Nat) (b : UInt8) : Nat := ((h ^^^ b.toNat) * 16777619) % 4294967296
theorem range_all {n : Nat} {p : Nat → Bool} (h : ∀ i, i < n → p i = true) : (List.range n).all p = true := by
  rw [List.all_eq_true]
  intro i hi
  exact h i (List.mem_range.1 hi)
theorem range_not {n j : Nat} {p : Nat → Bool} (hj : j < n) (h : p j = false) : (List.range n).all p = false := by
  rw [List.all_eq_false]
  exact ⟨j, List.mem_range.2 hj, by simp [h]⟩
abbrev enc_Rec (x : ty_Rec.D) : List V := [.bool x.1, .int .i64 x.2.1, .int .i64 x.2.2.1, strV x.2.2.2]
theorem rep_Rec {M : Mem} {cs : List V} {x : ty_Rec.D} (h : Rep ty_Rec M cs x) : cs = enc_Rec x := by
  obtain ⟨_, _, rfl, rfl, ⟨_, _, rfl, ⟨rfl, _⟩, ⟨_, _, rfl, ⟨rfl, _⟩, rfl⟩⟩⟩ := h
  rfl
theorem at_Rec {M : Mem} {a : Option Addr} {n c : Nat} {xs : List ty_Rec.D} (h : Rep (.sl ty_Rec) M [.slice a n c] xs) {i : Nat} (hi : i < xs.length) : ∃ l o, a = some ⟨l, o, none⟩ ∧ Rep ty_Rec M (enc_Rec xs[i]) xs[i] ∧ rdn M l (o + i * 4) 4 = some (enc_Rec xs[i]) ∧ rd1 M l (o + i * 4) = some (.bool xs[i].1) ∧ rd1 M l (o + i * 4 + 1) = some (.int .i64 xs[i].2.1) ∧ rd1 M l (o + i * 4 + 2) = some (.int .i64 xs[i].2.2.1) ∧ rd1 M l (o + i * 4 + 3) = some (strV xs[i].2.2.2) := by
  obtain ⟨_, l, o, rfl, cs, hrd, hrep⟩ := rep_at h hi
  have hcs := rep_Rec hrep
  subst hcs
  have hw : ty_Rec.w = 4 := rfl
  rw [hw] at hrd
  exact ⟨l, o, rfl, hrep, hrd, rd1_of_rdn hrd (k := 0) rfl, rd1_of_rdn hrd (k := 1) rfl, rd1_of_rdn hrd (k := 2) rfl, rd1_of_rdn hrd (k := 3) rfl⟩
theorem all_false {w : List UInt8} {j : Nat} (hj : j < w.length) (h : okByte w[j] = false) : w.all okByte = false := by
  rw [List.all_eq_false]
  exact ⟨w[j], List.getElem_mem hj, by simp [h]⟩
theorem all_true {w : List UInt8} (h : ∀ i (hi : i < w.length), okByte w[i] = true) : w.all okByte = true := by
  rw [List.all_eq_true]
  intro b hb
  obtain ⟨i, hi, rfl⟩ := List.getElem_of_mem hb
  exact h i hi
theorem first_byte (w : List UInt8) : w.all okByte = true ∨ (w.all okByte = false ∧ ∃ j, ∃ hj : j < w.length, (∀ i (hi : i < w.length), i < j → okByte w[i] = true) ∧ okByte w[j] = false) := by
  rcases first_bad (fun i => (w[i]?).any okByte) w.length with h | ⟨j, h1, h2, h3⟩
  · left; exact all_true fun i hi => by have := h i hi; simpa [hi] using this
  · right
    have h3' : okByte w[j] = false := by simpa [h1] using h3
    exact ⟨all_false h1 h3', j, h1, fun i hi hij => by have := h2 i hij; simpa [hi] using this, h3'⟩
theorem okByte_t {b : UInt8} (h : okByte b = true) : ¬ ((b.toNat : Int) < 97) ∧ ¬ (122 < (b.toNat : Int)) := by
  simp only [okByte, Bool.and_eq_true, decide_eq_true_eq] at h; omega
theorem r_spec_WordOk (M : Mem) (w : List UInt8) (hw : w.length ≤ 9223372036854775807) (i : Nat) (hi : i < w.length) (hb : okByte w[i] = true) :
    lp (aCall T0) K_spec_WordOk_0 L_spec_WordOk_0 [strV w, und, und, .int .i64 i, und, und, und, und, und, und, und, und, und, und, und, und, und, und, und, und, und, und, und, und, und, und, und, und] M = lp (aCall T0) K_spec_WordOk_0 L_spec_WordOk_0 [strV w, und, und, .int .i64 (i + 1 : Nat), und, und, und, und, und, und, und, und, und, und, und, und, und, und, und, und, und, und, und, und, und, und, und, und] M := by
  obtain ⟨h1, h2⟩ := okByte_t hb
  rw [S_spec_WordOk_0]; unfold B_spec_WordOk_0; simp [hi, byteV, h1, h2]
  rw [wrap_i64 (by omega) (by omega)]
theorem okByte_f {b : UInt8} (h : okByte b = false) : (b.toNat : Int) < 97 ∨ (¬ ((b.toNat : Int) < 97) ∧ (122 < (b.toNat : Int))) := by
  simp only [okByte, Bool.and_eq_false_iff, decide_eq_false_iff_not] at h; omega
theorem x_spec_WordOk (M : Mem) (w : List UInt8) (hw : w.length ≤ 9223372036854775807) (i : Nat) (hi : i < w.length) (hb : okByte w[i] = false) (k : ACode) :
    thenF M [.tmp 2] (thenS (blockR 0 (lp (aCall T0) K_spec_WordOk_0 L_spec_WordOk_0 [strV w, und, und, .int .i64 i, und, und, und, und, und, und, und, und, und, und, und, und, und, und, und, und, und, und, und, und, und, und, und, und] M)) (aCall T0) k) = some (.bool false, M) := by
  rcases okByte_f hb with h1 | ⟨h1, h2⟩
  · rw [S_spec_WordOk_0]; unfold B_spec_WordOk_0; simp [hi, byteV, h1]
  · rw [S_spec_WordOk_0]; unfold B_spec_WordOk_0; simp [hi, byteV, h1, h2]
theorem c_spec_WordOk (M : Mem) (w : List UInt8) (hw : w.length ≤ 9223372036854775807) : aCall T0 F_spec_WordOk [strV w] M = some (.bool (wordB w), M) := by
  unfold wordB
  by_cases hl1 : (w.length : Int) < 1
  · have : w = [] := List.length_eq_zero_iff.1 (by omega)
    subst this
    rw [aCall_eq T_spec_WordOk]; unfold A_spec_WordOk C_spec_WordOk; simp
  by_cases hl2 : 32 < (w.length : Int)
  · rw [aCall_eq T_spec_WordOk]; unfold A_spec_WordOk C_spec_WordOk; simp [hl1, hl2]
  have e : (decide (1 ≤ (w.length : Int)) && decide ((w.length : Int) ≤ 32)) = true := by simp; omega
  rw [e, Bool.and_true]
  rcases first_byte w with ha | ⟨ha, j, hj, h1, h2⟩
  · have hl := chain (g := fun i : Nat => lp (aCall T0) K_spec_WordOk_0 L_spec_WordOk_0 [strV w, und, und, .int .i64 i, und, und, und, und, und, und, und, und, und, und, und, und, und, und, und, und, und, und, und, und, und, und, und, und] M) (n := w.length) fun i hi => r_spec_WordOk M w hw i hi (List.all_eq_true.1 ha _ (List.getElem_mem hi))
    simp only [Int.natCast_zero, Int.ofNat_zero] at hl
    rw [ha]
    rw [aCall_eq T_spec_WordOk]; unfold A_spec_WordOk C_spec_WordOk; simp [hl, hl1, hl2]
    rw [S_spec_WordOk_0]; unfold B_spec_WordOk_0; simp
  · have hl := chain (g := fun i : Nat => lp (aCall T0) K_spec_WordOk_0 L_spec_WordOk_0 [strV w, und, und, .int .i64 i, und, und, und, und, und, und, und, und, und, und, und, und, und, und, und, und, und, und, und, und, und, und, und, und] M) (n := j) fun i hi => r_spec_WordOk M w hw i (by omega) (h1 i (by omega) hi)
    simp only [Int.natCast_zero, Int.ofNat_zero] at hl
    rw [ha]
    rw [aCall_eq T_spec_WordOk]; unfold A_spec_WordOk C_spec_WordOk; simp [hl, hl1, hl2, x_spec_WordOk M w hw j hj h2]
theorem z_rec (r : ty_Rec.D) : decide (r = zRec) = (decide (r.1 = false) && (decide ((r.2.1 : Int) = 0) && (decide ((r.2.2.1 : Int) = 0) && decide (r.2.2.2 = [])))) := by
  obtain ⟨a, b, c, d⟩ := r
  simp [zRec]
theorem eq_rec (r : ty_Rec.D) : eqCells [0, 1, 1, 2] [.bool r.1, .int .i64 r.2.1, .int .i64 r.2.2.1, strV r.2.2.2] [.bool false, .int .i64 0, .int .i64 0, .string ⟨#[]⟩] = some (decide (r = zRec)) := by
  rw [z_rec]
  simp [eqCells]
  cases r.1 <;> simp
  by_cases h2 : (r.2.1 : Int) = 0 <;> simp [h2]
  by_cases h3 : (r.2.2.1 : Int) = 0 <;> simp [h3]
  by_cases h4 : r.2.2.2 = [] <;> simp [h4]
theorem c_spec_l09Empty (M : Mem) (r : ty_Rec.D) : aCall T0 F_spec_l09Empty [.agg (enc_Rec r).toArray] M = some (.bool (decide (r = zRec)), M) := by
  rw [aCall_eq T_spec_l09Empty]; unfold A_spec_l09Empty C_spec_l09Empty; simp [eq_rec]
  rw [z_rec]
  simp
theorem c_spec_RecOk (M : Mem) (r : ty_Rec.D) (hw : r.2.2.2.length ≤ 9223372036854775807) : aCall T0 F_spec_RecOk [.agg (enc_Rec r).toArray] M = some (.bool (recB r), M) := by
  unfold recB
  have h := fun M => c_spec_l09Empty M r
  have h2 := fun M => c_spec_WordOk M r.2.2.2 hw
  cases he : decide (r = zRec) with
  | true =>
    simp only [he] at h
    rw [aCall_eq T_spec_RecOk]; unfold A_spec_RecOk C_spec_RecOk; simp [h]
  | false =>
    simp only [he] at h
    rw [aCall_eq T_spec_RecOk]; unfold A_spec_RecOk C_spec_RecOk; simp [h, h2]
    repeat' ((first | rw [selO_some] | rw [condR_bool] | rw [selD_some]); split <;> rename_i hq <;> (have hq2 := hq) <;> (try simp at hq2) <;> (try simp [*, h2]))
theorem okT_get (xs : List ty_Rec.D) (i : Nat) (hi : i < xs.length) : okT xs i = (recB xs[i] && decide ((xs[i].2.1 : Int) ≤ 3) && (decide (i = 0) || !aheadB xs[i] (xs[i - 1]'(by omega))) && !(xs[i].1 && (xs.take i).any fun p => decide (p.2.2.2 = xs[i].2.2.2))) := by
  unfold okT
  rw [List.getElem?_eq_getElem hi, List.getElem?_eq_getElem (show i - 1 < xs.length by omega)]
theorem okT_parts {xs : List ty_Rec.D} {i : Nat} (hi : i < xs.length) (h : okT xs i = true) : recB xs[i] = true ∧ (xs[i].2.1 : Int) ≤ 3 ∧ (∀ (h0 : 0 < i), aheadB xs[i] (xs[i - 1]'(by omega)) = false) ∧ (xs[i].1 = true → ∀ j (hj : j < xs.length), j < i → xs[j].2.2.2 ≠ xs[i].2.2.2) := by
  rw [okT_get xs i hi] at h
  simp only [Bool.and_eq_true, decide_eq_true_eq, Bool.or_eq_true, Bool.not_eq_true'] at h
  obtain ⟨⟨⟨h1, h2⟩, h3⟩, h4⟩ := h
  refine ⟨h1, h2, fun h0 => ?_, fun hl j hj hji e => ?_⟩
  · rcases h3 with h3 | h3
    · omega
    · exact h3
  · rw [hl, Bool.true_and, List.any_eq_false] at h4
    refine h4 xs[j] ?_ (by simp [e])
    rw [List.mem_take_iff_getElem]
    exact ⟨j, by omega, rfl⟩
theorem less_trans : ∀ {a b c : List UInt8}, Op.bytesLess a b = true → Op.bytesLess b c = true → Op.bytesLess a c = true
  | [], [], _, h, _ => by simp [Op.bytesLess] at h
  | [], _ :: _, [], _, h => by simp [Op.bytesLess] at h
  | [], _ :: _, _ :: _, _, _ => by simp [Op.bytesLess]
  | _ :: _, [], _, h, _ => by simp [Op.bytesLess] at h
  | _ :: _, _ :: _, [], _, h => by simp [Op.bytesLess] at h
  | x :: a, y :: b, z :: c, h, h2 => by
    simp only [Op.bytesLess, Bool.or_eq_true, Bool.and_eq_true, decide_eq_true_eq, beq_iff_eq] at h h2 ⊢
    simp only [UInt8.lt_iff_toNat_lt] at h h2 ⊢
    rcases h with h | ⟨rfl, h⟩
    · rcases h2 with h2 | ⟨rfl, h2⟩
      · exact .inl (by omega)
      · exact .inl h
    · rcases h2 with h2 | ⟨rfl, h2⟩
      · exact .inl h2
      · exact .inr ⟨rfl, less_trans h h2⟩
theorem cmpW_nil (b : List UInt8) : cmpW [] b = if 0 < b.length then -1 else 0 := by
  cases b <;> simp [cmpW, Op.bytesLess]
theorem cmpW_nil2 (a : List UInt8) : cmpW a [] = if 0 < a.length then 1 else 0 := by
  cases a <;> simp [cmpW, Op.bytesLess]
theorem cmpW_lt {x y : UInt8} (a b : List UInt8) (h : x < y) : cmpW (x :: a) (y :: b) = -1 := by
  unfold cmpW
  rw [Op.bytesLess]
  simp [h]
theorem cmpW_gt {x y : UInt8} (a b : List UInt8) (h : y < x) : cmpW (x :: a) (y :: b) = 1 := by
  unfold cmpW
  rw [Op.bytesLess, Op.bytesLess]
  have h1 : ¬ x < y := fun q => by
    have := UInt8.lt_iff_toNat_lt.1 h
    have := UInt8.lt_iff_toNat_lt.1 q
    omega
  have h2 : ¬ x = y := fun q => by
    subst q
    have := UInt8.lt_iff_toNat_lt.1 h
    omega
  simp [h1, h2, h]
theorem cmpW_eq (x : UInt8) (a b : List UInt8) : cmpW (x :: a) (x :: b) = cmpW a b := by
  unfold cmpW
  rw [Op.bytesLess, Op.bytesLess]
  have h1 : ¬ x < x := fun q => by
    have := UInt8.lt_iff_toNat_lt.1 q
    omega
  simp
theorem lcp : ∀ a b : List UInt8, ∃ j, j ≤ a.length ∧ j ≤ b.length ∧ (∀ i, i < j → ∀ (h : i < a.length) (h2 : i < b.length), a[i] = b[i]) ∧
    ((j = a.length ∧ j = b.length ∧ cmpW a b = 0) ∨ (j = a.length ∧ j < b.length ∧ cmpW a b = -1) ∨ (j < a.length ∧ j = b.length ∧ cmpW a b = 1) ∨
     ∃ (h : j < a.length) (h2 : j < b.length), (a[j] < b[j] ∧ cmpW a b = -1) ∨ (¬ a[j] < b[j] ∧ b[j] < a[j] ∧ cmpW a b = 1))
  | [], [] => ⟨0, by simp, by simp, by simp, .inl ⟨rfl, rfl, rfl⟩⟩
  | [], b :: bs => ⟨0, by simp, by simp, by simp, .inr (.inl ⟨rfl, by simp, by simp [cmpW_nil]⟩)⟩
  | a :: as, [] => ⟨0, by simp, by simp, by simp, .inr (.inr (.inl ⟨by simp, rfl, by simp [cmpW_nil2]⟩))⟩
  | a :: as, b :: bs => by
    by_cases h : a < b
    · exact ⟨0, by simp, by simp, by simp, .inr (.inr (.inr ⟨by simp, by simp, .inl ⟨h, cmpW_lt _ _ h⟩⟩))⟩
    by_cases h2 : b < a
    · exact ⟨0, by simp, by simp, by simp, .inr (.inr (.inr ⟨by simp, by simp, .inr ⟨h, h2, cmpW_gt _ _ h2⟩⟩))⟩
    have e : a = b := by
      apply UInt8.toNat_inj.1
      have q1 : ¬ a.toNat < b.toNat := fun q => h (UInt8.lt_iff_toNat_lt.2 q)
      have q2 : ¬ b.toNat < a.toNat := fun q => h2 (UInt8.lt_iff_toNat_lt.2 q)
      omega
    subst e
    obtain ⟨j, h1, h3, h4, h5⟩ := lcp as bs
    refine ⟨j + 1, by simp; omega, by simp; omega, fun i hi p q => ?_, ?_⟩
    · cases i with
      | zero => rfl
      | succ i => exact h4 i (by omega) (by simpa using p) (by simpa using q)
    · rw [cmpW_eq]
      simpa using h5
theorem cmpW_zero {a b : List UInt8} (h : cmpW a b = 0) : a = b := by
  obtain ⟨j, h1, h2, h3, h4⟩ := lcp a b
  rcases h4 with ⟨e1, e2, e⟩ | ⟨e1, e2, e⟩ | ⟨e1, e2, e⟩ | ⟨e1, e2, ⟨e3, e⟩ | ⟨e3, e4, e⟩⟩
  · apply List.ext_getElem (by omega)
    intro i p q
    exact h3 i (by omega) p q
  · omega
  · omega
  · omega
  · omega
theorem cmp_neg {a b : List UInt8} : (cmpW a b < 0) ↔ Op.bytesLess a b = true := by
  unfold cmpW
  cases Op.bytesLess a b
  · cases Op.bytesLess b a <;> simp
  · simp
theorem cmp_negtrans {a b c : List UInt8} (h : cmpW a c < 0) : cmpW a b < 0 ∨ cmpW b c < 0 := by
  rw [cmp_neg] at h
  rw [cmp_neg, cmp_neg]
  cases h1 : Op.bytesLess a b with
  | true => exact .inl rfl
  | false =>
    right
    cases h2 : Op.bytesLess b a with
    | true => exact less_trans h2 h
    | false =>
      have : a = b := cmpW_zero (by simp [cmpW, h1, h2])
      rw [← this]
      exact h
theorem or_char (d e w v c : Int) : orI (cmpI d e) (cmpI w v) c < 0 ↔ d < e ∨ (d = e ∧ (w < v ∨ (w = v ∧ c < 0))) := by
  unfold orI cmpI
  by_cases h1 : d < e
  · simp [h1]
  · by_cases h2 : e < d
    · have : ¬ d = e := by omega
      simp [h1, h2, this]
    · have h3 : d = e := by omega
      by_cases h4 : w < v
      · simp [h3, h4]
      · by_cases h5 : v < w
        · have : ¬ w = v := by omega
          simp [h3, h4, h5, this]
        · have h6 : w = v := by omega
          simp [h3, h6]
theorem lex_negtrans (d1 d2 d3 w1 w2 w3 c13 c12 c23 : Int) (h : c13 < 0 → c12 < 0 ∨ c23 < 0) (hq : orI (cmpI d1 d3) (cmpI w3 w1) c13 < 0) : orI (cmpI d1 d2) (cmpI w2 w1) c12 < 0 ∨ orI (cmpI d2 d3) (cmpI w3 w2) c23 < 0 := by
  rw [or_char] at hq
  rw [or_char, or_char]
  by_cases hc : c13 < 0
  · rcases h hc with h | h <;> omega
  · omega
theorem ahead_negtrans {x y z : ty_Rec.D} (h : aheadB x z = true) : aheadB x y = true ∨ aheadB y z = true := by
  obtain ⟨x1, x2, x3, x4⟩ := x
  obtain ⟨y1, y2, y3, y4⟩ := y
  obtain ⟨z1, z2, z3, z4⟩ := z
  unfold aheadB at h ⊢
  cases x1
  · simp at h
  · cases y1
    · left; simp
    · cases z1
      · right; simp
      · simp only [and_self, if_true, decide_eq_true_eq] at h ⊢
        exact lex_negtrans x2 y2 z2 x3 y3 z3 _ _ _ (fun q => cmp_negtrans q) h
theorem ahead_all {xs : List ty_Rec.D} {n : Nat} (h : ∀ i, i < n → okT xs i = true) (hn : n ≤ xs.length) : ∀ (d i j : Nat) (hi : i < n) (_ : i = j + 1 + d), aheadB (xs[i]'(by omega)) (xs[j]'(by omega)) = false
  | 0, i, j, hi, e => by
    have h1 := (okT_parts (by omega) (h i hi)).2.2.1 (by omega)
    have : i - 1 = j := by omega
    simp only [this] at h1
    exact h1
  | d + 1, i, j, hi, e => by
    have h1 := (okT_parts (by omega) (h i hi)).2.2.1 (by omega)
    have h2 := ahead_all h hn d (i - 1) j (by omega) (by omega)
    cases q : aheadB (xs[i]'(by omega)) (xs[j]'(by omega)) with
    | false => rfl
    | true =>
      rcases ahead_negtrans (y := xs[i - 1]'(by omega)) q with q2 | q2
      · rw [h1] at q2; cases q2
      · rw [h2] at q2; cases q2
def inB (xs : List ty_Rec.D) (i j : Nat) : Bool := match xs[i]?, xs[j]? with
  | some x, some y => !aheadB x y && !(x.1 && decide (x.2.2.2 = y.2.2.2))
  | _, _ => true
theorem inB_get (xs : List ty_Rec.D) (i j : Nat) (hi : i < xs.length) (hj : j < xs.length) : inB xs i j = (!aheadB xs[i] xs[j] && !(xs[i].1 && decide (xs[i].2.2.2 = xs[j].2.2.2))) := by
  unfold inB
  rw [List.getElem?_eq_getElem hi, List.getElem?_eq_getElem hj]
theorem r_spec_WordCmp (M : Mem) (a b : List UInt8) (ha : a.length ≤ 9223372036854775807) (hb : b.length ≤ 9223372036854775807) (i : Nat) (hi : i < a.length) (hj : i < b.length) (he : a[i] = b[i]) :
    lp (aCall T0) K_spec_WordCmp_0 L_spec_WordCmp_0 [strV a, strV b, und, und, und, .int .i64 i, und, und, und, und, und, und, und, und, und, und, und, und, und, und, und, und, und, und, und, und, und, und, und, und, und, und, und, und, und, und, und, und, und, und, und, und] M = lp (aCall T0) K_spec_WordCmp_0 L_spec_WordCmp_0 [strV a, strV b, und, und, und, .int .i64 (i + 1 : Nat), und, und, und, und, und, und, und, und, und, und, und, und, und, und, und, und, und, und, und, und, und, und, und, und, und, und, und, und, und, und, und, und, und, und, und, und] M := by
  rw [S_spec_WordCmp_0]; unfold B_spec_WordCmp_0; simp [hi, hj, byteV, he]
  rw [wrap_i64 (by omega) (by omega)]
theorem c_spec_WordCmp (M : Mem) (a b : List UInt8) (ha : a.length ≤ 9223372036854775807) (hb : b.length ≤ 9223372036854775807) : aCall T0 F_spec_WordCmp [strV a, strV b] M = some (.int .i64 (cmpW a b), M) := by
  obtain ⟨j, h1, h2, h3, h4⟩ := lcp a b
  have hl := chain (g := fun i : Nat => lp (aCall T0) K_spec_WordCmp_0 L_spec_WordCmp_0 [strV a, strV b, und, und, und, .int .i64 i, und, und, und, und, und, und, und, und, und, und, und, und, und, und, und, und, und, und, und, und, und, und, und, und, und, und, und, und, und, und, und, und, und, und, und, und] M) (n := j) fun i hi => r_spec_WordCmp M a b ha hb i (by omega) (by omega) (h3 i hi (by omega) (by omega))
  simp only [Int.natCast_zero, Int.ofNat_zero] at hl
  rcases h4 with ⟨e1, e2, e⟩ | ⟨e1, e2, e⟩ | ⟨e1, e2, e⟩ | ⟨e1, e2, ⟨e3, e⟩ | ⟨e3, e4, e⟩⟩
  · rw [e]
    have q1 : ¬ j < a.length := by omega
    have q3 : ¬ (a.length : Int) < b.length := by omega
    have q4 : ¬ (b.length : Int) < a.length := by omega
    rw [aCall_eq T_spec_WordCmp]; unfold A_spec_WordCmp C_spec_WordCmp; simp [hl]
    rw [S_spec_WordCmp_0]; unfold B_spec_WordCmp_0; simp [q1, q3, q4]
  · rw [e]
    have q1 : ¬ j < a.length := by omega
    have q3 : (a.length : Int) < b.length := by omega
    rw [aCall_eq T_spec_WordCmp]; unfold A_spec_WordCmp C_spec_WordCmp; simp [hl]
    rw [S_spec_WordCmp_0]; unfold B_spec_WordCmp_0; simp [q1, q3]
  · rw [e]
    have q1 : j < a.length := by omega
    have q2 : ¬ j < b.length := by omega
    have q3 : ¬ (a.length : Int) < b.length := by omega
    have q4 : (b.length : Int) < a.length := by omega
    rw [aCall_eq T_spec_WordCmp]; unfold A_spec_WordCmp C_spec_WordCmp; simp [hl]
    rw [S_spec_WordCmp_0]; unfold B_spec_WordCmp_0; simp [q1, q2, q3, q4]
  · rw [e]
    have q : (a[j].toNat : Int) < b[j].toNat := by have := UInt8.lt_iff_toNat_lt.1 e3; omega
    rw [aCall_eq T_spec_WordCmp]; unfold A_spec_WordCmp C_spec_WordCmp; simp [hl]
    rw [S_spec_WordCmp_0]; unfold B_spec_WordCmp_0; simp [e1, e2, byteV, q]
  · rw [e]
    have q : ¬ (a[j].toNat : Int) < b[j].toNat := by have : ¬ a[j].toNat < b[j].toNat := fun q => e3 (UInt8.lt_iff_toNat_lt.2 q); omega
    have q2 : (b[j].toNat : Int) < a[j].toNat := by have := UInt8.lt_iff_toNat_lt.1 e4; omega
    rw [aCall_eq T_spec_WordCmp]; unfold A_spec_WordCmp C_spec_WordCmp; simp [hl]
    rw [S_spec_WordCmp_0]; unfold B_spec_WordCmp_0; simp [e1, e2, byteV, q, q2]
theorem c_spec_RecAhead0 (M : Mem) (a1 b1 : Bool) (a2 a3 b2 b3 : Int) (a4 b4 : List UInt8) (ha : a4.length ≤ 9223372036854775807) (hb : b4.length ≤ 9223372036854775807) (ra : recB (a1, a2, a3, a4) = true) (rb : recB (b1, b2, b3, b4) = true) : aCall T0 F_spec_RecAhead [.agg (enc_Rec (a1, a2, a3, a4)).toArray, .agg (enc_Rec (b1, b2, b3, b4)).toArray] M = some (.bool (aheadB (a1, a2, a3, a4) (b1, b2, b3, b4)), M) := by
  have s1 := fun M => c_spec_RecOk M (a1, a2, a3, a4) ha
  have s2 := fun M => c_spec_RecOk M (b1, b2, b3, b4) hb
  simp only [ra] at s1
  simp only [rb] at s2
  have s3 := fun M => c_spec_WordCmp M a4 b4 ha hb
  clear ra rb ha hb
  unfold aheadB
  cases a1
  · rw [aCall_eq T_spec_RecAhead]; unfold A_spec_RecAhead C_spec_RecAhead; simp [s1, s2]
  · cases b1
    · rw [aCall_eq T_spec_RecAhead]; unfold A_spec_RecAhead C_spec_RecAhead; simp [s1, s2]
    · simp only [and_self, if_true]
      unfold orI cmpI
      by_cases h1 : a2 = b2
      · have h2 : ¬ a2 < b2 := by omega
        have h3 : ¬ b2 < a2 := by omega
        by_cases h4 : a3 = b3
        · have h5 : ¬ a3 < b3 := by omega
          have h6 : ¬ b3 < a3 := by omega
          subst h1 h4
          rw [aCall_eq T_spec_RecAhead]; unfold A_spec_RecAhead C_spec_RecAhead; simp [s1, s2, s3]
        · by_cases h5 : b3 < a3
          · subst h1
            rw [aCall_eq T_spec_RecAhead]; unfold A_spec_RecAhead C_spec_RecAhead; simp [s1, s2, h4, h5]
          · have h6 : a3 < b3 := by omega
            subst h1
            rw [aCall_eq T_spec_RecAhead]; unfold A_spec_RecAhead C_spec_RecAhead; simp [s1, s2, h4, h5, h6]
      · by_cases h2 : a2 < b2
        · rw [aCall_eq T_spec_RecAhead]; unfold A_spec_RecAhead C_spec_RecAhead; simp [s1, s2, h1, h2]
        · have h3 : b2 < a2 := by omega
          rw [aCall_eq T_spec_RecAhead]; unfold A_spec_RecAhead C_spec_RecAhead; simp [s1, s2, h1, h2, h3]
theorem c_spec_RecAhead (M : Mem) (a b : ty_Rec.D) (ha : a.2.2.2.length ≤ 9223372036854775807) (hb : b.2.2.2.length ≤ 9223372036854775807) (ra : recB a = true) (rb : recB b = true) : aCall T0 F_spec_RecAhead [.agg (enc_Rec a).toArray, .agg (enc_Rec b).toArray] M = some (.bool (aheadB a b), M) :=
  c_spec_RecAhead0 M a.1 b.1 a.2.1 a.2.2.1 b.2.1 b.2.2.1 a.2.2.2 b.2.2.2 ha hb ra rb
theorem r2_spec_l18Top (M : Mem) (a : Option Addr) (c : Nat) (xs : List ty_Rec.D) (h : Rep (.sl ty_Rec) M [.slice a xs.length c] xs) (hn : xs.length ≤ 1048576) (hf : ∀ x ∈ xs, x.2.2.2.length ≤ 9223372036854775807) (i j : Nat) (hi : i < xs.length) (hj : j < i) (hj2 : j < xs.length) (ri : recB xs[i] = true) (rj : recB xs[j] = true) (hq : inB xs i j = true) :
    lp (aCall T0) K_spec_l18Top_1 L_spec_l18Top_1 [.slice a xs.length c, und, und, .int .i64 i, .int .i64 j, und, und, und, und, und, und, und, und, und, und, und, und, und, und, und, und, und, und, und, und, und, und, und, und, und, und, und, und, und, und, und, und, und, und, und, und, und, und, und, und, und, und, und, und, und, und, und, und, und, und, und, und, und, und, und, und, und, und, und, und, und, und, und, und, und, und, und, und, und, und, und, und, und, und, und, und, und] M = lp (aCall T0) K_spec_l18Top_1 L_spec_l18Top_1 [.slice a xs.length c, und, und, .int .i64 i, .int .i64 (j + 1 : Nat), und, und, und, und, und, und, und, und, und, und, und, und, und, und, und, und, und, und, und, und, und, und, und, und, und, und, und, und, und, und, und, und, und, und, und, und, und, und, und, und, und, und, und, und, und, und, und, und, und, und, und, und, und, und, und, und, und, und, und, und, und, und, und, und, und, und, und, und, und, und, und, und, und, und, und, und, und] M := by
  obtain ⟨l, o, rfl, _, hrd, f0, f1, f2, f3⟩ := at_Rec h hi
  obtain ⟨l2, o2, e2, _, hrd2, _, _, _, d3⟩ := at_Rec h hj2
  simp at e2
  obtain ⟨rfl, rfl⟩ := e2
  have e6 : IntKind.i64.wrap ((j : Int) + 1) = j + 1 := wrap_i64 (by omega) (by omega)
  have s1 := c_spec_RecAhead M xs[i] xs[j] (hf _ (List.getElem_mem _)) (hf _ (List.getElem_mem _)) ri rj
  rw [inB_get xs i j hi hj2] at hq
  have g0 : (j : Int) < i := by omega
  cases ka : aheadB xs[i] xs[j] with
  | true => rw [ka] at hq; cases hq
  | false =>
    rw [ka] at s1 hq
    cases hl : xs[i].1 with
    | false =>
      rw [hl] at f0
      rw [S_spec_l18Top_1]; unfold B_spec_l18Top_1; simp [hi, hj, hj2, g0, hrd, hrd2, s1, f0, e6]
    | true =>
      rw [hl] at f0 hq
      have hw : ¬ xs[i].2.2.2 = xs[j].2.2.2 := by simpa using hq
      rw [S_spec_l18Top_1]; unfold B_spec_l18Top_1; simp [hi, hj, hj2, g0, hrd, hrd2, s1, f0, f3, d3, hw, e6]
theorem r_spec_l18Top (M : Mem) (a : Option Addr) (c : Nat) (xs : List ty_Rec.D) (h : Rep (.sl ty_Rec) M [.slice a xs.length c] xs) (hn : xs.length ≤ 1048576) (hf : ∀ x ∈ xs, x.2.2.2.length ≤ 9223372036854775807) (i : Nat) (hi : i < xs.length) (hq : ∀ j, j < i + 1 → okT xs j = true) :
    lp (aCall T0) K_spec_l18Top_0 L_spec_l18Top_0 [.slice a xs.length c, und, und, .int .i64 i, und, und, und, und, und, und, und, und, und, und, und, und, und, und, und, und, und, und, und, und, und, und, und, und, und, und, und, und, und, und, und, und, und, und, und, und, und, und, und, und, und, und, und, und, und, und, und, und, und, und, und, und, und, und, und, und, und, und, und, und, und, und, und, und, und, und, und, und, und, und, und, und, und, und, und, und, und, und] M = lp (aCall T0) K_spec_l18Top_0 L_spec_l18Top_0 [.slice a xs.length c, und, und, .int .i64 (i + 1 : Nat), und, und, und, und, und, und, und, und, und, und, und, und, und, und, und, und, und, und, und, und, und, und, und, und, und, und, und, und, und, und, und, und, und, und, und, und, und, und, und, und, und, und, und, und, und, und, und, und, und, und, und, und, und, und, und, und, und, und, und, und, und, und, und, und, und, und, und, und, und, und, und, und, und, und, und, und, und, und] M := by
  obtain ⟨k1, k2, k3, k4⟩ := okT_parts hi (hq i (by omega))
  have hc := chain (g := fun j : Nat => lp (aCall T0) K_spec_l18Top_1 L_spec_l18Top_1 [.slice a xs.length c, und, und, .int .i64 i, .int .i64 j, und, und, und, und, und, und, und, und, und, und, und, und, und, und, und, und, und, und, und, und, und, und, und, und, und, und, und, und, und, und, und, und, und, und, und, und, und, und, und, und, und, und, und, und, und, und, und, und, und, und, und, und, und, und, und, und, und, und, und, und, und, und, und, und, und, und, und, und, und, und, und, und, und, und, und, und, und] M) (n := i) fun j hj => r2_spec_l18Top M a c xs h hn hf i j hi hj (by omega) k1 (okT_parts (by omega) (hq j (by omega))).1 (by
    rw [inB_get xs i j hi (by omega), ahead_all hq (by omega) (i - 1 - j) i j (by omega) (by omega)]
    cases hl : xs[i].1 with
    | false => rfl
    | true =>
      have := k4 hl j (by omega) hj
      simp [Ne.symm this])
  simp only [Int.natCast_zero, Int.ofNat_zero] at hc
  obtain ⟨l, o, rfl, _, hrd, f0, f1, f2, f3⟩ := at_Rec h hi
  have e6 : IntKind.i64.wrap ((i : Int) + 1) = i + 1 := wrap_i64 (by omega) (by omega)
  have s1 := c_spec_RecOk M xs[i] (hf _ (List.getElem_mem hi))
  rw [k1] at s1
  have k2' : ¬ 3 < (xs[i].2.1 : Int) := Int.not_lt.2 k2
  by_cases h0 : i = 0
  · have g0 : ¬ 0 < (i : Int) := by omega
    have g1 : ¬ 0 < i := by omega
    rw [S_spec_l18Top_0]; unfold B_spec_l18Top_0; simp [hi, hrd, s1, f1, k2', g0, g1, hc]
    rw [S_spec_l18Top_1]; unfold B_spec_l18Top_1; simp [e6]
  · obtain ⟨l3, o3, e3, _, _, p0, _⟩ := at_Rec h (show i - 1 < xs.length by omega)
    simp at e3
    obtain ⟨rfl, rfl⟩ := e3
    have g0 : 0 < (i : Int) := by omega
    have g2 : 0 < i := by omega
    have g1 : IntKind.i64.wrap ((i : Int) - 1) = ((i - 1 : Nat) : Int) := by rw [wrap_i64 (by omega) (by omega)]; omega
    have hi1 : i - 1 < xs.length := by omega
    have ha := k3 g2
    cases hl : xs[i].1 with
    | false =>
      rw [hl] at f0
      rw [S_spec_l18Top_0]; unfold B_spec_l18Top_0; simp [hi, hrd, s1, f0, f1, k2', g0, g2, hc]
      rw [S_spec_l18Top_1]; unfold B_spec_l18Top_1; simp [e6]
    | true =>
      have hp : (xs[i - 1]'hi1).1 = true := by
        cases hp : (xs[i - 1]'hi1).1 with
        | true => rfl
        | false =>
          unfold aheadB at ha
          rw [hl, hp] at ha
          simp at ha
      rw [hl] at f0
      rw [hp] at p0
      rw [S_spec_l18Top_0]; unfold B_spec_l18Top_0; simp [hi, hrd, s1, f0, f1, k2', g0, g2, g1, hi1, p0, hc]
      rw [S_spec_l18Top_1]; unfold B_spec_l18Top_1; simp [e6]
set_option maxHeartbeats 4000000 in
theorem x_spec_l18Top (M : Mem) (a : Option Addr) (c : Nat) (xs : List ty_Rec.D) (h : Rep (.sl ty_Rec) M [.slice a xs.length c] xs) (hn : xs.length ≤ 1048576) (hf : ∀ x ∈ xs, x.2.2.2.length ≤ 9223372036854775807) (i : Nat) (hi : i < xs.length) (hg : ∀ j, j < i → okT xs j = true) (hq : okT xs i = false) (K : ACode) :
    thenF M [.tmp 2] (thenS (blockR 0 (lp (aCall T0) K_spec_l18Top_0 L_spec_l18Top_0 [.slice a xs.length c, und, und, .int .i64 i, und, und, und, und, und, und, und, und, und, und, und, und, und, und, und, und, und, und, und, und, und, und, und, und, und, und, und, und, und, und, und, und, und, und, und, und, und, und, und, und, und, und, und, und, und, und, und, und, und, und, und, und, und, und, und, und, und, und, und, und, und, und, und, und, und, und, und, und, und, und, und, und, und, und, und, und, und, und] M)) (aCall T0) K) = some (.bool false, M) := by
  have h00 := h
  obtain ⟨l, o, e0, _, hrd, f0, f1, f2, f3⟩ := at_Rec h hi
  subst e0
  rw [okT_get xs i hi] at hq
  have s1 := c_spec_RecOk M xs[i] (hf _ (List.getElem_mem hi))
  cases k1 : recB xs[i] with
  | false =>
    rw [k1] at s1
    rw [S_spec_l18Top_0]; unfold B_spec_l18Top_0; simp [hi, hrd, s1]
  | true =>
  rw [k1] at s1
  by_cases k2 : (xs[i].2.1 : Int) ≤ 3
  rotate_left
  · have k2' : 3 < (xs[i].2.1 : Int) := Int.not_le.1 k2
    rw [S_spec_l18Top_0]; unfold B_spec_l18Top_0; simp [hi, hrd, s1, f1, k2']
  have k2' : ¬ 3 < (xs[i].2.1 : Int) := Int.not_lt.2 k2
  rw [k1, decide_eq_true k2] at hq
  by_cases h0 : i = 0
  · subst h0
    simp at hq
  obtain ⟨l3, o3, e3, _, _, p0, _⟩ := at_Rec h (show i - 1 < xs.length by omega)
  simp at e3
  obtain ⟨rfl, rfl⟩ := e3
  have g0 : 0 < (i : Int) := by omega
  have g2 : 0 < i := by omega
  have g1 : IntKind.i64.wrap ((i : Int) - 1) = ((i - 1 : Nat) : Int) := by rw [wrap_i64 (by omega) (by omega)]; omega
  have hi1 : i - 1 < xs.length := by omega
  rw [decide_eq_false h0] at hq
  by_cases hlp : xs[i].1 = true ∧ (xs[i - 1]'hi1).1 = false
  · obtain ⟨hl, hp⟩ := hlp
    rw [hl] at f0
    rw [hp] at p0
    rw [S_spec_l18Top_0]; unfold B_spec_l18Top_0; simp [hi, hrd, s1, f0, f1, k2', g0, g2, g1, hi1, p0]
  -- the inner loop finds it
  have hbad : ¬ ∀ j, j < i → inB xs i j = true := by
    intro hall
    have ha := hall (i - 1) (by omega)
    rw [inB_get xs i (i - 1) hi hi1, Bool.and_eq_true, Bool.not_eq_true'] at ha
    rw [ha.1] at hq
    simp only [Bool.not_false, Bool.or_true, Bool.and_true, Bool.true_and, Bool.not_eq_false', Bool.and_eq_true] at hq
    obtain ⟨hl, hany⟩ := hq
    obtain ⟨x, hx, he⟩ := List.any_eq_true.1 hany
    obtain ⟨j, hj, rfl⟩ := List.mem_take_iff_getElem.1 hx
    have hb := hall j (by omega)
    rw [inB_get xs i j hi (by omega), hl] at hb
    simp only [decide_eq_true_eq] at he
    simp [he] at hb
  rcases first_bad (inB xs i) i with hall | ⟨j, hj, q1, q2⟩
  · exact absurd hall hbad
  have hc := chain (g := fun j : Nat => lp (aCall T0) K_spec_l18Top_1 L_spec_l18Top_1 [.slice (some ⟨l, o, none⟩) xs.length c, und, und, .int .i64 i, .int .i64 j, und, und, und, und, und, und, und, und, und, und, und, und, und, und, und, und, und, und, und, und, und, und, und, und, und, und, und, und, und, und, und, und, und, und, und, und, und, und, und, und, und, und, und, und, und, und, und, und, und, und, und, und, und, und, und, und, und, und, und, und, und, und, und, und, und, und, und, und, und, und, und, und, und, und, und, und, und] M) (n := j) fun q hq => r2_spec_l18Top M _ c xs h00 hn hf i q hi (by omega) (by omega) k1 (okT_parts (by omega) (hg q (by omega))).1 (q1 q hq)
  simp only [Int.natCast_zero, Int.ofNat_zero] at hc
  have hj2 : j < xs.length := by omega
  obtain ⟨l4, o4, e4, _, hrd2, _, _, _, d3⟩ := at_Rec h hj2
  simp at e4
  obtain ⟨rfl, rfl⟩ := e4
  have s2 := c_spec_RecAhead M xs[i] xs[j] (hf _ (List.getElem_mem _)) (hf _ (List.getElem_mem _)) k1 (okT_parts (by omega) (hg j hj)).1
  rw [inB_get xs i j hi hj2] at q2
  have gj : (j : Int) < i := by omega
  have fin : ∀ (F : V → V × Mem), True := fun _ => trivial
  cases hl : xs[i].1 with
  | false =>
    rw [hl] at f0 q2
    have ka : aheadB xs[i] xs[j] = true := by simpa using q2
    rw [ka] at s2
    rw [S_spec_l18Top_0]; unfold B_spec_l18Top_0; simp [hi, hrd, s1, f0, f1, k2', g0, g2, hc]
    rw [S_spec_l18Top_1]; unfold B_spec_l18Top_1; simp [hi, hj, hj2, gj, hrd, hrd2, s2]
  | true =>
    have hp : (xs[i - 1]'hi1).1 = true := by
      cases hp : (xs[i - 1]'hi1).1 with
      | true => rfl
      | false => exact absurd ⟨hl, hp⟩ hlp
    rw [hl] at f0 q2
    rw [hp] at p0
    cases ka : aheadB xs[i] xs[j] with
    | true =>
      rw [ka] at s2
      rw [S_spec_l18Top_0]; unfold B_spec_l18Top_0; simp [hi, hrd, s1, f0, f1, k2', g0, g2, g1, hi1, p0, hc]
      rw [S_spec_l18Top_1]; unfold B_spec_l18Top_1; simp [hi, hj, hj2, gj, hrd, hrd2, s2]
    | false =>
      rw [ka] at s2 q2
      have hw : xs[i].2.2.2 = xs[j].2.2.2 := by simpa using q2
      rw [← hw] at d3
      rw [S_spec_l18Top_0]; unfold B_spec_l18Top_0; simp [hi, hrd, s1, f0, f1, k2', g0, g2, g1, hi1, p0, hc]
      rw [S_spec_l18Top_1]; unfold B_spec_l18Top_1; simp [hi, hj, hj2, gj, hrd, hrd2, s2, f0, f3, d3]
theorem c_spec_l18Top (M : Mem) (v : V) (xs : List ty_Rec.D) (h : Rep (.sl ty_Rec) M [v] xs) (hn : xs.length ≤ 1048576) (hf : ∀ x ∈ xs, x.2.2.2.length ≤ 9223372036854775807) : aCall T0 F_spec_l18Top [v] M = some (.bool (topB xs), M) := by
  obtain ⟨a, c, rfl⟩ := h.slen
  unfold topB
  by_cases h8 : xs.length = 8
  rotate_left
  · have h8' : ¬ (xs.length : Int) = 8 := by omega
    rw [decide_eq_false h8]
    rw [aCall_eq T_spec_l18Top]; unfold A_spec_l18Top C_spec_l18Top; simp [h8', h8]
  rw [decide_eq_true h8]
  have h8' : (xs.length : Int) = 8 := by omega
  rcases first_bad (okT xs) xs.length with hg | ⟨j, hj, h1, h2⟩
  · have hc := chain (g := fun i : Nat => lp (aCall T0) K_spec_l18Top_0 L_spec_l18Top_0 [.slice a xs.length c, und, und, .int .i64 i, und, und, und, und, und, und, und, und, und, und, und, und, und, und, und, und, und, und, und, und, und, und, und, und, und, und, und, und, und, und, und, und, und, und, und, und, und, und, und, und, und, und, und, und, und, und, und, und, und, und, und, und, und, und, und, und, und, und, und, und, und, und, und, und, und, und, und, und, und, und, und, und, und, und, und, und, und, und] M) (n := xs.length) fun i hi => r_spec_l18Top M a c xs h hn hf i hi (fun j hj => hg j (by omega))
    simp only [Int.natCast_zero, Int.ofNat_zero] at hc
    rw [range_all hg]
    rw [h8] at hc ⊢
    rw [aCall_eq T_spec_l18Top]; unfold A_spec_l18Top C_spec_l18Top; simp [hc]
    rw [S_spec_l18Top_0]; unfold B_spec_l18Top_0; simp
  · have hc := chain (g := fun i : Nat => lp (aCall T0) K_spec_l18Top_0 L_spec_l18Top_0 [.slice a xs.length c, und, und, .int .i64 i, und, und, und, und, und, und, und, und, und, und, und, und, und, und, und, und, und, und, und, und, und, und, und, und, und, und, und, und, und, und, und, und, und, und, und, und, und, und, und, und, und, und, und, und, und, und, und, und, und, und, und, und, und, und, und, und, und, und, und, und, und, und, und, und, und, und, und, und, und, und, und, und, und, und, und, und, und, und] M) (n := j) fun i hi => r_spec_l18Top M a c xs h hn hf i (by omega) (fun q hq => h1 q (by omega))
    simp only [Int.natCast_zero, Int.ofNat_zero] at hc
    rw [range_not hj h2]
    have x := x_spec_l18Top M a c xs h hn hf j hj h1 h2
    rw [h8] at hc x ⊢
    rw [aCall_eq T_spec_l18Top]; unfold A_spec_l18Top C_spec_l18Top; simp [hc, x]
abbrev enc_Int (x : ty_Int.D) : List V := [.int .i64 x]
theorem at_Int {M : Mem} {a : Option Addr} {n c : Nat} {xs : List ty_Int.D} (h : Rep (.sl ty_Int) M [.slice a n c] xs) {i : Nat} (hi : i < xs.length) : ∃ l o, a = some ⟨l, o, none⟩ ∧ Rep ty_Int M (enc_Int xs[i]) xs[i] ∧ rd1 M l (o + i) = some (.int .i64 xs[i]) := by
  obtain ⟨_, l, o, rfl, cs, hrd, hrep⟩ := rep_at h hi
  have hcs : cs = enc_Int xs[i] := hrep.1
  subst hcs
  have hw1 : ty_Int.w = 1 := rfl
  rw [hw1, Nat.mul_one] at hrd
  exact ⟨l, o, rfl, hrep, rd1_of_one hrd⟩
theorem r_spec_l18Marks (M : Mem) (a : Option Addr) (c : Nat) (xs : List Int) (h : Rep (.sl ty_Int) M [.slice a xs.length c] xs) (hn : xs.length ≤ 1048576) (i : Nat) (hi : i < xs.length) (hq : markOk xs[i] = true) :
    lp (aCall T0) K_spec_l18Marks_0 L_spec_l18Marks_0 [.slice a xs.length c, und, und, und, und, .int .i64 i, und, und, und, und, und, und, und, und, und, und, und, und, und, und, und, und, und, und, und, und, und, und] M = lp (aCall T0) K_spec_l18Marks_0 L_spec_l18Marks_0 [.slice a xs.length c, und, und, und, und, .int .i64 (i + 1 : Nat), und, und, und, und, und, und, und, und, und, und, und, und, und, und, und, und, und, und, und, und, und, und] M := by
  obtain ⟨l, o, rfl, _, hrd⟩ := at_Int h hi
  have e6 : IntKind.i64.wrap ((i : Int) + 1) = i + 1 := wrap_i64 (by omega) (by omega)
  simp only [markOk, Bool.and_eq_true, decide_eq_true_eq] at hq
  have g1 : ¬ (xs[i] : Int) < 0 := by omega
  have g2 : ¬ 3 < (xs[i] : Int) := by omega
  rw [S_spec_l18Marks_0]; unfold B_spec_l18Marks_0; simp [hi, hrd, g1, g2, e6]
theorem x_spec_l18Marks (M : Mem) (a : Option Addr) (c : Nat) (xs : List Int) (h : Rep (.sl ty_Int) M [.slice a xs.length c] xs) (i : Nat) (hi : i < xs.length) (hq : markOk xs[i] = false) (K : ACode) :
    thenF M [.tmp 4] (thenS (blockR 0 (lp (aCall T0) K_spec_l18Marks_0 L_spec_l18Marks_0 [.slice a xs.length c, und, und, und, und, .int .i64 i, und, und, und, und, und, und, und, und, und, und, und, und, und, und, und, und, und, und, und, und, und, und] M)) (aCall T0) K) = some (.bool false, M) := by
  obtain ⟨l, o, rfl, _, hrd⟩ := at_Int h hi
  rcases (show (xs[i] : Int) < 0 ∨ (¬ (xs[i] : Int) < 0 ∧ 3 < (xs[i] : Int)) by simp only [markOk, Bool.and_eq_false_iff, decide_eq_false_iff_not] at hq; omega) with g1 | ⟨g1, g2⟩
  · rw [S_spec_l18Marks_0]; unfold B_spec_l18Marks_0; simp [hi, hrd, g1]
  · rw [S_spec_l18Marks_0]; unfold B_spec_l18Marks_0; simp [hi, hrd, g1, g2]
theorem c_spec_l18Marks (M : Mem) (v : V) (xs : List Int) (s : Int) (h : Rep (.sl ty_Int) M [v] xs) (hn : xs.length ≤ 1048576) : aCall T0 F_spec_l18Marks [v, .int .i64 s] M = some (.bool (marksB xs s), M) := by
  obtain ⟨a, c, rfl⟩ := h.slen
  unfold marksB
  by_cases hs : (xs.length : Int) = s
  rotate_left
  · rw [decide_eq_false hs]
    rw [aCall_eq T_spec_l18Marks]; unfold A_spec_l18Marks C_spec_l18Marks; simp [hs]
  rw [decide_eq_true hs]
  rcases first_bad (fun i => (xs[i]?).all markOk) xs.length with hg | ⟨j, hj, h1, h2⟩
  · have hc := chain (g := fun i : Nat => lp (aCall T0) K_spec_l18Marks_0 L_spec_l18Marks_0 [.slice a xs.length c, und, und, und, und, .int .i64 i, und, und, und, und, und, und, und, und, und, und, und, und, und, und, und, und, und, und, und, und, und, und] M) (n := xs.length) fun i hi => r_spec_l18Marks M a c xs h hn i hi (by have := hg i hi; simpa [hi] using this)
    simp only [Int.natCast_zero, Int.ofNat_zero] at hc
    have : xs.all markOk = true := by
      rw [List.all_eq_true]
      intro x hx
      obtain ⟨i, hi, rfl⟩ := List.getElem_of_mem hx
      have := hg i hi
      simpa [hi] using this
    rw [this]
    rw [aCall_eq T_spec_l18Marks]; unfold A_spec_l18Marks C_spec_l18Marks; simp [hs]
    rw [hs] at hc
    rw [hc]
    rw [S_spec_l18Marks_0]; unfold B_spec_l18Marks_0; simp [hs]
  · have hc := chain (g := fun i : Nat => lp (aCall T0) K_spec_l18Marks_0 L_spec_l18Marks_0 [.slice a xs.length c, und, und, und, und, .int .i64 i, und, und, und, und, und, und, und, und, und, und, und, und, und, und, und, und, und, und, und, und, und, und] M) (n := j) fun i hi => r_spec_l18Marks M a c xs h hn i (by omega) (by have := h1 i hi; simpa [show i < xs.length by omega] using this)
    simp only [Int.natCast_zero, Int.ofNat_zero] at hc
    have hb : markOk xs[j] = false := by simpa [hj] using h2
    have : xs.all markOk = false := by
      rw [List.all_eq_false]
      exact ⟨xs[j], List.getElem_mem hj, by simp [hb]⟩
    rw [this]
    rw [aCall_eq T_spec_l18Marks]; unfold A_spec_l18Marks C_spec_l18Marks; simp [hs]
    rw [hc]
    exact x_spec_l18Marks M a c xs h j hj hb _
set_option maxHeartbeats 8000000 in
set_option maxRecDepth 20000 in
theorem sr_p1 (M : Mem) (kind slots k : Int) (f : Bool) (w : Int) (a b : Option Addr) (c d n1 n2 : Nat) (T A : Bool)
    (s1 : ∀ M, aCall T0 F_spec_l18Shape [.int .i64 kind, .int .i64 slots] M = some (.bool true, M))
    (s2 : aCall T0 F_spec_l18Top [.slice a n1 c] (M ++ [⟨cY k f w (.slice a n1 c) (.slice b n2 d), 1, 2⟩]) = some (.bool T, M ++ [⟨cY k f w (.slice a n1 c) (.slice b n2 d), 1, 2⟩]))
    (s3 : aCall T0 F_spec_l18Marks [.slice b n2 d, .int .i64 slots] (M ++ [⟨cY k f w (.slice a n1 c) (.slice b n2 d), 1, 2⟩]) = some (.bool A, M ++ [⟨cY k f w (.slice a n1 c) (.slice b n2 d), 1, 2⟩]))
    (hk1 : ¬ k < 0) (hk2 : ¬ 8 < k) (k0 : k = 0) (q1 : kind = 1) :
    aCall T0 F_spec_ReplyOk [.int .i64 kind, .int .i64 slots, .agg (cY k f w (.slice a n1 c) (.slice b n2 d)).toArray] M = some (.bool ((if k = 0 ∧ kind = 1 then (decide (0 ≤ w) && decide (w ≤ 65535)) && (f || decide (w = 0)) else !f && decide (w = 0)) &&
   (if k = 0 ∧ kind = 2 then T else decide (n1 = 0)) && (if k = 0 ∧ kind = 6 then A else decide (n2 = 0))), M) := by
  subst k0 q1
  by_cases m1 : n1 = 0
  rotate_left
  · have m1' : 0 < n1 := by omega
    rw [aCall_eq T_spec_ReplyOk]; unfold A_spec_ReplyOk C_spec_ReplyOk; simp [s1, m1, m1']
  subst m1
  by_cases m2 : n2 = 0
  rotate_left
  · have m2' : 0 < n2 := by omega
    rw [aCall_eq T_spec_ReplyOk]; unfold A_spec_ReplyOk C_spec_ReplyOk; simp [s1, m2, m2']
  subst m2
  by_cases w1 : w < 0
  · have w1' : ¬ 0 ≤ w := by omega
    rw [aCall_eq T_spec_ReplyOk]; unfold A_spec_ReplyOk C_spec_ReplyOk; simp [s1, w1, w1']
  by_cases w2 : 65535 < w
  · have w2' : ¬ w ≤ 65535 := by omega
    rw [aCall_eq T_spec_ReplyOk]; unfold A_spec_ReplyOk C_spec_ReplyOk; simp [s1, w1, w2, w2']
  have w1' : 0 ≤ w := by omega
  have w2' : w ≤ 65535 := by omega
  cases f with
  | true => rw [aCall_eq T_spec_ReplyOk]; unfold A_spec_ReplyOk C_spec_ReplyOk; simp [s1, w1, w2, w1', w2']
  | false =>
    by_cases w0 : w = 0
    · subst w0
      rw [aCall_eq T_spec_ReplyOk]; unfold A_spec_ReplyOk C_spec_ReplyOk; simp [s1]
    · rw [aCall_eq T_spec_ReplyOk]; unfold A_spec_ReplyOk C_spec_ReplyOk; simp [s1, w1, w2, w1', w2', w0]
set_option maxHeartbeats 8000000 in
set_option maxRecDepth 20000 in
theorem sr_p2 (M : Mem) (kind slots k : Int) (f : Bool) (w : Int) (a b : Option Addr) (c d n1 n2 : Nat) (T A : Bool)
    (s1 : ∀ M, aCall T0 F_spec_l18Shape [.int .i64 kind, .int .i64 slots] M = some (.bool true, M))
    (s2 : aCall T0 F_spec_l18Top [.slice a n1 c] (M ++ [⟨cY k f w (.slice a n1 c) (.slice b n2 d), 1, 2⟩]) = some (.bool T, M ++ [⟨cY k f w (.slice a n1 c) (.slice b n2 d), 1, 2⟩]))
    (s3 : aCall T0 F_spec_l18Marks [.slice b n2 d, .int .i64 slots] (M ++ [⟨cY k f w (.slice a n1 c) (.slice b n2 d), 1, 2⟩]) = some (.bool A, M ++ [⟨cY k f w (.slice a n1 c) (.slice b n2 d), 1, 2⟩]))
    (hk1 : ¬ k < 0) (hk2 : ¬ 8 < k) (k0 : k = 0) (q2 : kind = 2) :
    aCall T0 F_spec_ReplyOk [.int .i64 kind, .int .i64 slots, .agg (cY k f w (.slice a n1 c) (.slice b n2 d)).toArray] M = some (.bool ((if k = 0 ∧ kind = 1 then (decide (0 ≤ w) && decide (w ≤ 65535)) && (f || decide (w = 0)) else !f && decide (w = 0)) &&
   (if k = 0 ∧ kind = 2 then T else decide (n1 = 0)) && (if k = 0 ∧ kind = 6 then A else decide (n2 = 0))), M) := by
  subst k0 q2
  cases f with
  | true => rw [aCall_eq T_spec_ReplyOk]; unfold A_spec_ReplyOk C_spec_ReplyOk; simp [s1]
  | false =>
  by_cases w0 : w = 0
  rotate_left
  · rw [aCall_eq T_spec_ReplyOk]; unfold A_spec_ReplyOk C_spec_ReplyOk; simp [s1, w0]
  subst w0
  by_cases m2 : n2 = 0
  rotate_left
  · have m2' : 0 < n2 := by omega
    rw [aCall_eq T_spec_ReplyOk]; unfold A_spec_ReplyOk C_spec_ReplyOk; simp [s1, m2, m2']
  subst m2
  cases T with
  | true => rw [aCall_eq T_spec_ReplyOk]; unfold A_spec_ReplyOk C_spec_ReplyOk; simp [s1, s2]
  | false => rw [aCall_eq T_spec_ReplyOk]; unfold A_spec_ReplyOk C_spec_ReplyOk; simp [s1, s2]
set_option maxHeartbeats 8000000 in
set_option maxRecDepth 20000 in
theorem sr_p6 (M : Mem) (kind slots k : Int) (f : Bool) (w : Int) (a b : Option Addr) (c d n1 n2 : Nat) (T A : Bool)
    (s1 : ∀ M, aCall T0 F_spec_l18Shape [.int .i64 kind, .int .i64 slots] M = some (.bool true, M))
    (s2 : aCall T0 F_spec_l18Top [.slice a n1 c] (M ++ [⟨cY k f w (.slice a n1 c) (.slice b n2 d), 1, 2⟩]) = some (.bool T, M ++ [⟨cY k f w (.slice a n1 c) (.slice b n2 d), 1, 2⟩]))
    (s3 : aCall T0 F_spec_l18Marks [.slice b n2 d, .int .i64 slots] (M ++ [⟨cY k f w (.slice a n1 c) (.slice b n2 d), 1, 2⟩]) = some (.bool A, M ++ [⟨cY k f w (.slice a n1 c) (.slice b n2 d), 1, 2⟩]))
    (hk1 : ¬ k < 0) (hk2 : ¬ 8 < k) (k0 : k = 0) (q6 : kind = 6) :
    aCall T0 F_spec_ReplyOk [.int .i64 kind, .int .i64 slots, .agg (cY k f w (.slice a n1 c) (.slice b n2 d)).toArray] M = some (.bool ((if k = 0 ∧ kind = 1 then (decide (0 ≤ w) && decide (w ≤ 65535)) && (f || decide (w = 0)) else !f && decide (w = 0)) &&
   (if k = 0 ∧ kind = 2 then T else decide (n1 = 0)) && (if k = 0 ∧ kind = 6 then A else decide (n2 = 0))), M) := by
  subst k0 q6
  cases f with
  | true => rw [aCall_eq T_spec_ReplyOk]; unfold A_spec_ReplyOk C_spec_ReplyOk; simp [s1]
  | false =>
  by_cases w0 : w = 0
  rotate_left
  · rw [aCall_eq T_spec_ReplyOk]; unfold A_spec_ReplyOk C_spec_ReplyOk; simp [s1, w0]
  subst w0
  by_cases m1 : n1 = 0
  rotate_left
  · have m1' : 0 < n1 := by omega
    rw [aCall_eq T_spec_ReplyOk]; unfold A_spec_ReplyOk C_spec_ReplyOk; simp [s1, m1, m1']
  subst m1
  cases A with
  | true => rw [aCall_eq T_spec_ReplyOk]; unfold A_spec_ReplyOk C_spec_ReplyOk; simp [s1, s3]
  | false => rw [aCall_eq T_spec_ReplyOk]; unfold A_spec_ReplyOk C_spec_ReplyOk; simp [s1, s3]
set_option maxHeartbeats 8000000 in
set_option maxRecDepth 20000 in
theorem sr_p0 (M : Mem) (kind slots k : Int) (f : Bool) (w : Int) (a b : Option Addr) (c d n1 n2 : Nat) (T A : Bool)
    (s1 : ∀ M, aCall T0 F_spec_l18Shape [.int .i64 kind, .int .i64 slots] M = some (.bool true, M))
    (s2 : aCall T0 F_spec_l18Top [.slice a n1 c] (M ++ [⟨cY k f w (.slice a n1 c) (.slice b n2 d), 1, 2⟩]) = some (.bool T, M ++ [⟨cY k f w (.slice a n1 c) (.slice b n2 d), 1, 2⟩]))
    (s3 : aCall T0 F_spec_l18Marks [.slice b n2 d, .int .i64 slots] (M ++ [⟨cY k f w (.slice a n1 c) (.slice b n2 d), 1, 2⟩]) = some (.bool A, M ++ [⟨cY k f w (.slice a n1 c) (.slice b n2 d), 1, 2⟩]))
    (hk1 : ¬ k < 0) (hk2 : ¬ 8 < k) (k0 : k = 0) (q1 : ¬ kind = 1) (q2 : ¬ kind = 2) (q6 : ¬ kind = 6) :
    aCall T0 F_spec_ReplyOk [.int .i64 kind, .int .i64 slots, .agg (cY k f w (.slice a n1 c) (.slice b n2 d)).toArray] M = some (.bool ((if k = 0 ∧ kind = 1 then (decide (0 ≤ w) && decide (w ≤ 65535)) && (f || decide (w = 0)) else !f && decide (w = 0)) &&
   (if k = 0 ∧ kind = 2 then T else decide (n1 = 0)) && (if k = 0 ∧ kind = 6 then A else decide (n2 = 0))), M) := by
  subst k0
  cases f with
  | true => rw [aCall_eq T_spec_ReplyOk]; unfold A_spec_ReplyOk C_spec_ReplyOk; simp [s1, q1, q2, q6]
  | false =>
  by_cases w0 : w = 0
  rotate_left
  · rw [aCall_eq T_spec_ReplyOk]; unfold A_spec_ReplyOk C_spec_ReplyOk; simp [s1, w0, q1, q2, q6]
  subst w0
  by_cases m1 : n1 = 0
  rotate_left
  · have m1' : 0 < n1 := by omega
    rw [aCall_eq T_spec_ReplyOk]; unfold A_spec_ReplyOk C_spec_ReplyOk; simp [s1, m1, m1', q1, q2, q6]
  subst m1
  by_cases m2 : n2 = 0
  rotate_left
  · have m2' : 0 < n2 := by omega
    rw [aCall_eq T_spec_ReplyOk]; unfold A_spec_ReplyOk C_spec_ReplyOk; simp [s1, m2, m2', q1, q2, q6]
  subst m2
  rw [aCall_eq T_spec_ReplyOk]; unfold A_spec_ReplyOk C_spec_ReplyOk; simp [s1, q1, q2, q6]
set_option maxHeartbeats 8000000 in
set_option maxRecDepth 20000 in
theorem sr_n1 (M : Mem) (kind slots k : Int) (f : Bool) (w : Int) (a b : Option Addr) (c d n1 n2 : Nat) (T A : Bool)
    (s1 : ∀ M, aCall T0 F_spec_l18Shape [.int .i64 kind, .int .i64 slots] M = some (.bool true, M))
    (s2 : aCall T0 F_spec_l18Top [.slice a n1 c] (M ++ [⟨cY k f w (.slice a n1 c) (.slice b n2 d), 1, 2⟩]) = some (.bool T, M ++ [⟨cY k f w (.slice a n1 c) (.slice b n2 d), 1, 2⟩]))
    (s3 : aCall T0 F_spec_l18Marks [.slice b n2 d, .int .i64 slots] (M ++ [⟨cY k f w (.slice a n1 c) (.slice b n2 d), 1, 2⟩]) = some (.bool A, M ++ [⟨cY k f w (.slice a n1 c) (.slice b n2 d), 1, 2⟩]))
    (hk1 : ¬ k < 0) (hk2 : ¬ 8 < k) (k0 : ¬ k = 0) (q : kind = 1) :
    aCall T0 F_spec_ReplyOk [.int .i64 kind, .int .i64 slots, .agg (cY k f w (.slice a n1 c) (.slice b n2 d)).toArray] M = some (.bool ((if k = 0 ∧ kind = 1 then (decide (0 ≤ w) && decide (w ≤ 65535)) && (f || decide (w = 0)) else !f && decide (w = 0)) &&
   (if k = 0 ∧ kind = 2 then T else decide (n1 = 0)) && (if k = 0 ∧ kind = 6 then A else decide (n2 = 0))), M) := by
  subst q
  cases f with
  | true => rw [aCall_eq T_spec_ReplyOk]; unfold A_spec_ReplyOk C_spec_ReplyOk; simp [s1, hk1, hk2, k0]
  | false =>
  by_cases w0 : w = 0
  rotate_left
  · rw [aCall_eq T_spec_ReplyOk]; unfold A_spec_ReplyOk C_spec_ReplyOk; simp [s1, w0, hk1, hk2, k0]
  subst w0
  by_cases m1 : n1 = 0
  rotate_left
  · have m1' : 0 < n1 := by omega
    rw [aCall_eq T_spec_ReplyOk]; unfold A_spec_ReplyOk C_spec_ReplyOk; simp [s1, m1, m1', hk1, hk2, k0]
  subst m1
  by_cases m2 : n2 = 0
  rotate_left
  · have m2' : 0 < n2 := by omega
    rw [aCall_eq T_spec_ReplyOk]; unfold A_spec_ReplyOk C_spec_ReplyOk; simp [s1, m2, m2', hk1, hk2, k0]
  subst m2
  rw [aCall_eq T_spec_ReplyOk]; unfold A_spec_ReplyOk C_spec_ReplyOk; simp [s1, hk1, hk2, k0]
set_option maxHeartbeats 8000000 in
set_option maxRecDepth 20000 in
theorem sr_n2 (M : Mem) (kind slots k : Int) (f : Bool) (w : Int) (a b : Option Addr) (c d n1 n2 : Nat) (T A : Bool)
    (s1 : ∀ M, aCall T0 F_spec_l18Shape [.int .i64 kind, .int .i64 slots] M = some (.bool true, M))
    (s2 : aCall T0 F_spec_l18Top [.slice a n1 c] (M ++ [⟨cY k f w (.slice a n1 c) (.slice b n2 d), 1, 2⟩]) = some (.bool T, M ++ [⟨cY k f w (.slice a n1 c) (.slice b n2 d), 1, 2⟩]))
    (s3 : aCall T0 F_spec_l18Marks [.slice b n2 d, .int .i64 slots] (M ++ [⟨cY k f w (.slice a n1 c) (.slice b n2 d), 1, 2⟩]) = some (.bool A, M ++ [⟨cY k f w (.slice a n1 c) (.slice b n2 d), 1, 2⟩]))
    (hk1 : ¬ k < 0) (hk2 : ¬ 8 < k) (k0 : ¬ k = 0) (q : kind = 2) :
    aCall T0 F_spec_ReplyOk [.int .i64 kind, .int .i64 slots, .agg (cY k f w (.slice a n1 c) (.slice b n2 d)).toArray] M = some (.bool ((if k = 0 ∧ kind = 1 then (decide (0 ≤ w) && decide (w ≤ 65535)) && (f || decide (w = 0)) else !f && decide (w = 0)) &&
   (if k = 0 ∧ kind = 2 then T else decide (n1 = 0)) && (if k = 0 ∧ kind = 6 then A else decide (n2 = 0))), M) := by
  subst q
  cases f with
  | true => rw [aCall_eq T_spec_ReplyOk]; unfold A_spec_ReplyOk C_spec_ReplyOk; simp [s1, hk1, hk2, k0]
  | false =>
  by_cases w0 : w = 0
  rotate_left
  · rw [aCall_eq T_spec_ReplyOk]; unfold A_spec_ReplyOk C_spec_ReplyOk; simp [s1, w0, hk1, hk2, k0]
  subst w0
  by_cases m1 : n1 = 0
  rotate_left
  · have m1' : 0 < n1 := by omega
    rw [aCall_eq T_spec_ReplyOk]; unfold A_spec_ReplyOk C_spec_ReplyOk; simp [s1, m1, m1', hk1, hk2, k0]
  subst m1
  by_cases m2 : n2 = 0
  rotate_left
  · have m2' : 0 < n2 := by omega
    rw [aCall_eq T_spec_ReplyOk]; unfold A_spec_ReplyOk C_spec_ReplyOk; simp [s1, m2, m2', hk1, hk2, k0]
  subst m2
  rw [aCall_eq T_spec_ReplyOk]; unfold A_spec_ReplyOk C_spec_ReplyOk; simp [s1, hk1, hk2, k0]
set_option maxHeartbeats 8000000 in
set_option maxRecDepth 20000 in
theorem sr_n6 (M : Mem) (kind slots k : Int) (f : Bool) (w : Int) (a b : Option Addr) (c d n1 n2 : Nat) (T A : Bool)
    (s1 : ∀ M, aCall T0 F_spec_l18Shape [.int .i64 kind, .int .i64 slots] M = some (.bool true, M))
    (s2 : aCall T0 F_spec_l18Top [.slice a n1 c] (M ++ [⟨cY k f w (.slice a n1 c) (.slice b n2 d), 1, 2⟩]) = some (.bool T, M ++ [⟨cY k f w (.slice a n1 c) (.slice b n2 d), 1, 2⟩]))
    (s3 : aCall T0 F_spec_l18Marks [.slice b n2 d, .int .i64 slots] (M ++ [⟨cY k f w (.slice a n1 c) (.slice b n2 d), 1, 2⟩]) = some (.bool A, M ++ [⟨cY k f w (.slice a n1 c) (.slice b n2 d), 1, 2⟩]))
    (hk1 : ¬ k < 0) (hk2 : ¬ 8 < k) (k0 : ¬ k = 0) (q : kind = 6) :
    aCall T0 F_spec_ReplyOk [.int .i64 kind, .int .i64 slots, .agg (cY k f w (.slice a n1 c) (.slice b n2 d)).toArray] M = some (.bool ((if k = 0 ∧ kind = 1 then (decide (0 ≤ w) && decide (w ≤ 65535)) && (f || decide (w = 0)) else !f && decide (w = 0)) &&
   (if k = 0 ∧ kind = 2 then T else decide (n1 = 0)) && (if k = 0 ∧ kind = 6 then A else decide (n2 = 0))), M) := by
  subst q
  cases f with
  | true => rw [aCall_eq T_spec_ReplyOk]; unfold A_spec_ReplyOk C_spec_ReplyOk; simp [s1, hk1, hk2, k0]
  | false =>
  by_cases w0 : w = 0
  rotate_left
  · rw [aCall_eq T_spec_ReplyOk]; unfold A_spec_ReplyOk C_spec_ReplyOk; simp [s1, w0, hk1, hk2, k0]
  subst w0
  by_cases m1 : n1 = 0
  rotate_left
  · have m1' : 0 < n1 := by omega
    rw [aCall_eq T_spec_ReplyOk]; unfold A_spec_ReplyOk C_spec_ReplyOk; simp [s1, m1, m1', hk1, hk2, k0]
  subst m1
  by_cases m2 : n2 = 0
  rotate_left
  · have m2' : 0 < n2 := by omega
    rw [aCall_eq T_spec_ReplyOk]; unfold A_spec_ReplyOk C_spec_ReplyOk; simp [s1, m2, m2', hk1, hk2, k0]
  subst m2
  rw [aCall_eq T_spec_ReplyOk]; unfold A_spec_ReplyOk C_spec_ReplyOk; simp [s1, hk1, hk2, k0]
set_option maxHeartbeats 8000000 in
set_option maxRecDepth 20000 in
theorem sr_n0 (M : Mem) (kind slots k : Int) (f : Bool) (w : Int) (a b : Option Addr) (c d n1 n2 : Nat) (T A : Bool)
    (s1 : ∀ M, aCall T0 F_spec_l18Shape [.int .i64 kind, .int .i64 slots] M = some (.bool true, M))
    (s2 : aCall T0 F_spec_l18Top [.slice a n1 c] (M ++ [⟨cY k f w (.slice a n1 c) (.slice b n2 d), 1, 2⟩]) = some (.bool T, M ++ [⟨cY k f w (.slice a n1 c) (.slice b n2 d), 1, 2⟩]))
    (s3 : aCall T0 F_spec_l18Marks [.slice b n2 d, .int .i64 slots] (M ++ [⟨cY k f w (.slice a n1 c) (.slice b n2 d), 1, 2⟩]) = some (.bool A, M ++ [⟨cY k f w (.slice a n1 c) (.slice b n2 d), 1, 2⟩]))
    (hk1 : ¬ k < 0) (hk2 : ¬ 8 < k) (k0 : ¬ k = 0) (q1 : ¬ kind = 1) (q2 : ¬ kind = 2) (q6 : ¬ kind = 6) :
    aCall T0 F_spec_ReplyOk [.int .i64 kind, .int .i64 slots, .agg (cY k f w (.slice a n1 c) (.slice b n2 d)).toArray] M = some (.bool ((if k = 0 ∧ kind = 1 then (decide (0 ≤ w) && decide (w ≤ 65535)) && (f || decide (w = 0)) else !f && decide (w = 0)) &&
   (if k = 0 ∧ kind = 2 then T else decide (n1 = 0)) && (if k = 0 ∧ kind = 6 then A else decide (n2 = 0))), M) := by
  cases f with
  | true => rw [aCall_eq T_spec_ReplyOk]; unfold A_spec_ReplyOk C_spec_ReplyOk; simp [s1, hk1, hk2, k0, q1, q2, q6]
  | false =>
  by_cases w0 : w = 0
  rotate_left
  · rw [aCall_eq T_spec_ReplyOk]; unfold A_spec_ReplyOk C_spec_ReplyOk; simp [s1, w0, hk1, hk2, k0, q1, q2, q6]
  subst w0
  by_cases m1 : n1 = 0
  rotate_left
  · have m1' : 0 < n1 := by omega
    rw [aCall_eq T_spec_ReplyOk]; unfold A_spec_ReplyOk C_spec_ReplyOk; simp [s1, m1, m1', hk1, hk2, k0, q1, q2, q6]
  subst m1
  by_cases m2 : n2 = 0
  rotate_left
  · have m2' : 0 < n2 := by omega
    rw [aCall_eq T_spec_ReplyOk]; unfold A_spec_ReplyOk C_spec_ReplyOk; simp [s1, m2, m2', hk1, hk2, k0, q1, q2, q6]
  subst m2
  rw [aCall_eq T_spec_ReplyOk]; unfold A_spec_ReplyOk C_spec_ReplyOk; simp [s1, hk1, hk2, k0, q1, q2, q6]
theorem c_spec_ReplyOk (M : Mem) (kind slots k : Int) (f : Bool) (w : Int) (v u : V) (top : List ty_Rec.D) (marks : List Int) (h : Rep (.sl ty_Rec) M [v] top) (h2 : Rep (.sl ty_Int) M [u] marks) (hn : top.length ≤ 1048576) (hn2 : marks.length ≤ 1048576) (hf : ∀ x ∈ top, x.2.2.2.length ≤ 9223372036854775807) :
    aCall T0 F_spec_ReplyOk [.int .i64 kind, .int .i64 slots, .agg (cY k f w v u).toArray] M = some (.bool (replyB kind slots k f w top marks), M) := by
  have s1 := fun M => c_spec_l18Shape M kind slots
  have s2 := c_spec_l18Top (M ++ [⟨cY k f w v u, 1, 2⟩]) v top (h.mono (List.prefix_append _ _)) hn hf
  have s3 := c_spec_l18Marks (M ++ [⟨cY k f w v u, 1, 2⟩]) u marks slots (h2.mono (List.prefix_append _ _)) hn2
  unfold replyB
  generalize topB top = T at s2
  generalize marksB marks slots = A at s3
  obtain ⟨a, c, rfl⟩ := h.slen
  obtain ⟨b, d, rfl⟩ := h2.slen
  generalize top.length = n1 at s2 s3 ⊢
  generalize marks.length = n2 at s2 s3 ⊢
  clear h h2 hn hn2 hf
  cases hs : shapeB kind slots with
  | false =>
    simp only [hs] at s1
    rw [aCall_eq T_spec_ReplyOk]; unfold A_spec_ReplyOk C_spec_ReplyOk; simp [s1]
  | true =>
  simp only [hs] at s1
  by_cases hk1 : k < 0
  · have e : decide (0 ≤ k) = false := by simp; omega
    rw [e]
    rw [aCall_eq T_spec_ReplyOk]; unfold A_spec_ReplyOk C_spec_ReplyOk; simp [s1, hk1]
  by_cases hk2 : 8 < k
  · have e : decide (k ≤ 8) = false := by simp; omega
    rw [e]
    rw [aCall_eq T_spec_ReplyOk]; unfold A_spec_ReplyOk C_spec_ReplyOk; simp [s1, hk1, hk2]
  have e : (decide (0 ≤ k) && decide (k ≤ 8)) = true := by simp; omega
  rw [e, Bool.true_and, Bool.true_and]
  by_cases k0 : k = 0
  · by_cases q1 : kind = 1
    · exact sr_p1 M kind slots k f w a b c d n1 n2 T A s1 s2 s3 hk1 hk2 k0 q1
    · by_cases q2 : kind = 2
      · exact sr_p2 M kind slots k f w a b c d n1 n2 T A s1 s2 s3 hk1 hk2 k0 q2
      · by_cases q6 : kind = 6
        · exact sr_p6 M kind slots k f w a b c d n1 n2 T A s1 s2 s3 hk1 hk2 k0 q6
        · exact sr_p0 M kind slots k f w a b c d n1 n2 T A s1 s2 s3 hk1 hk2 k0 q1 q2 q6
  · by_cases q1 : kind = 1
    · exact sr_n1 M kind slots k f w a b c d n1 n2 T A s1 s2 s3 hk1 hk2 k0 q1
    · by_cases q2 : kind = 2
      · exact sr_n2 M kind slots k f w a b c d n1 n2 T A s1 s2 s3 hk1 hk2 k0 q2
      · by_cases q6 : kind = 6
        · exact sr_n6 M kind slots k f w a b c d n1 n2 T A s1 s2 s3 hk1 hk2 k0 q6
        · exact sr_n0 M kind slots k f w a b c d n1 n2 T A s1 s2 s3 hk1 hk2 k0 q1 q2 q6
def sz_Rec (x : ty_Rec.D) : Int := (x.2.2.2.length : Int)
def szs_Rec : List ty_Rec.D → Int
  | [] => 0
  | x :: xs => sz_Rec x + szs_Rec xs
theorem szs_pos_Rec : ∀ xs, 0 ≤ szs_Rec xs
  | [] => by simp [szs_Rec]
  | x :: xs => by have := szs_pos_Rec xs; unfold szs_Rec sz_Rec; omega
theorem z_laws_szRec (M : Mem) (x : ty_Rec.D) (left : Int) (h0 : 0 ≤ left) (h1 : left ≤ 1048576) (f0 : x.2.2.2.length ≤ 9223372036854775807) : ∃ l : Int, aCall T0 F_laws_szRec [.agg (enc_Rec x).toArray, .int .i64 left] M = some (.int .i64 l, M) ∧ (0 ≤ l → sz_Rec x + l ≤ left) := by
  unfold sz_Rec
  have w0 : -9223372036854775808 ≤ left - (x.2.2.2.length : Int) ∧ left - (x.2.2.2.length : Int) ≤ 9223372036854775807 := by omega
  have e0 : IntKind.i64.wrap (left - (x.2.2.2.length : Int)) = left - (x.2.2.2.length : Int) := wrap_i64 w0.1 w0.2
  by_cases c0 : left - (x.2.2.2.length : Int) < 0
  · refine ⟨-1, ?_, by omega⟩
    rw [aCall_eq T_laws_szRec]; unfold A_laws_szRec C_laws_szRec; simp [e0, c0]
  refine ⟨left - (x.2.2.2.length : Int), ?_, by omega⟩
  rw [aCall_eq T_laws_szRec]; unfold A_laws_szRec C_laws_szRec; simp [e0, c0]
theorem l_laws_szRecS (M : Mem) (a : Option Addr) (c : Nat) (xs : List ty_Rec.D) (h : Rep (.sl ty_Rec) M [.slice a xs.length c] xs) (hn : xs.length ≤ 1048576) (f0 : ∀ x ∈ xs, x.2.2.2.length ≤ 9223372036854775807) : ∀ (k i : Nat) (left : Int), i + k = xs.length → 0 ≤ left → left ≤ 1048576 →
    (∃ (l l2 : Int) (j : Nat), ∃ hj : j < xs.length, aCall T0 F_laws_szRec [.agg (enc_Rec xs[j]).toArray, .int .i64 l] M = some (.int .i64 l2, M) ∧ l2 < 0 ∧ lp (aCall T0) K_laws_szRecS_0 L_laws_szRecS_0 [.slice a xs.length c, .int .i64 left, und, und, und, .int .i64 i, und, und, und, und, und, und, und, und, und, und, und, und, und, und, und, und, und, und, und, und, und] M = lp (aCall T0) K_laws_szRecS_0 L_laws_szRecS_0 [.slice a xs.length c, .int .i64 l, und, und, und, .int .i64 j, und, und, und, und, und, und, und, und, und, und, und, und, und, und, und, und, und, und, und, und, und] M) ∨
    (∃ l : Int, 0 ≤ l ∧ szs_Rec (xs.drop i) + l ≤ left ∧ lp (aCall T0) K_laws_szRecS_0 L_laws_szRecS_0 [.slice a xs.length c, .int .i64 left, und, und, und, .int .i64 i, und, und, und, und, und, und, und, und, und, und, und, und, und, und, und, und, und, und, und, und, und] M = lp (aCall T0) K_laws_szRecS_0 L_laws_szRecS_0 [.slice a xs.length c, .int .i64 l, und, und, und, .int .i64 xs.length, und, und, und, und, und, und, und, und, und, und, und, und, und, und, und, und, und, und, und, und, und] M)
  | 0, i, left, hi, h0, h1 => by
    right
    have e : xs.drop i = [] := List.drop_eq_nil_of_le (by omega)
    have e2 : i = xs.length := by omega
    refine ⟨left, h0, by rw [e]; simp [szs_Rec], ?_⟩
    rw [e2]
  | k + 1, i, left, hi', h0, h1 => by
    have hi : i < xs.length := by omega
    obtain ⟨l', hl1, hl2⟩ := z_laws_szRec M xs[i] left h0 h1 (f0 xs[i] (List.getElem_mem hi))
    by_cases hl0 : l' < 0
    · exact .inl ⟨left, l', i, hi, hl1, hl0, rfl⟩
    · obtain ⟨_, l, o, rfl, cs, hrd, hrep⟩ := rep_at h hi
      have hcs := rep_Rec hrep
      subst hcs
      have hw : ty_Rec.w = 4 := rfl
      rw [hw] at hrd
      have e6 : IntKind.i64.wrap ((i : Int) + 1) = i + 1 := wrap_i64 (by omega) (by omega)
      have hd : xs.drop i = xs[i] :: xs.drop (i + 1) := (List.drop_eq_getElem_cons hi)
      have hz : 0 ≤ sz_Rec xs[i] := by unfold sz_Rec; omega
      have ih := l_laws_szRecS M (some ⟨l, o, none⟩) c xs h hn f0 k (i + 1) l' (by omega) (by omega) (by have := hl2 (by omega); omega)
      have e7 : lp (aCall T0) K_laws_szRecS_0 L_laws_szRecS_0 [.slice (some ⟨l, o, none⟩) xs.length c, .int .i64 left, und, und, und, .int .i64 i, und, und, und, und, und, und, und, und, und, und, und, und, und, und, und, und, und, und, und, und, und] M = lp (aCall T0) K_laws_szRecS_0 L_laws_szRecS_0 [.slice (some ⟨l, o, none⟩) xs.length c, .int .i64 l', und, und, und, .int .i64 (i + 1 : Nat), und, und, und, und, und, und, und, und, und, und, und, und, und, und, und, und, und, und, und, und, und] M := by
        rw [S_laws_szRecS_0]; unfold B_laws_szRecS_0; simp [hrd, hl1, hl0, hi, e6]
      rw [e7, hd]
      rcases ih with ih | ⟨l3, h3, h4, h5⟩
      · exact .inl ih
      · refine .inr ⟨l3, h3, ?_, h5⟩
        have := hl2 (by omega)
        simp only [szs_Rec]
        omega
theorem c_laws_szRecS (M : Mem) (v : V) (xs : List ty_Rec.D) (h : Rep (.sl ty_Rec) M [v] xs) (left : Int) (h0 : 0 ≤ left) (h1 : left ≤ 1048576) (hx : xs.length ≤ 9223372036854775807) (f0 : ∀ x ∈ xs, x.2.2.2.length ≤ 9223372036854775807) :
    ∃ l : Int, aCall T0 F_laws_szRecS [v, .int .i64 left] M = some (.int .i64 l, M) ∧ (0 ≤ l → xs.length + szs_Rec xs + l ≤ left) := by
  obtain ⟨a, c, rfl⟩ := h.slen
  have e0 : IntKind.i64.wrap (left - xs.length) = left - xs.length := wrap_i64 (by omega) (by omega)
  by_cases hc : left - (xs.length : Int) < 0
  · refine ⟨-1, ?_, by omega⟩
    rw [aCall_eq T_laws_szRecS]; unfold A_laws_szRecS C_laws_szRecS; simp [e0, hc]
  · rcases l_laws_szRecS M a c xs h (by omega) f0 xs.length 0 (left - xs.length) (by omega) (by omega) (by omega) with ⟨l, l2, j, hj, h3, h4, hl⟩ | ⟨l, h3, h4, hl⟩
    · simp only [Int.natCast_zero, Int.ofNat_zero] at hl
      obtain ⟨_, p, o, rfl, cs, hrd, hrep⟩ := rep_at h hj
      have hcs := rep_Rec hrep
      subst hcs
      have hw : ty_Rec.w = 4 := rfl
      rw [hw] at hrd
      refine ⟨-1, ?_, by omega⟩
      rw [aCall_eq T_laws_szRecS]; unfold A_laws_szRecS C_laws_szRecS; simp [e0, hc, hl]
      rw [S_laws_szRecS_0]; unfold B_laws_szRecS_0; simp [hrd, hj, h3, h4]
    · simp only [Int.natCast_zero, Int.ofNat_zero, List.drop_zero] at hl h4
      refine ⟨l, ?_, by omega⟩
      rw [aCall_eq T_laws_szRecS]; unfold A_laws_szRecS C_laws_szRecS; simp [e0, hc, hl]
      rw [S_laws_szRecS_0]; unfold B_laws_szRecS_0; simp
theorem c_laws_szIntS (M : Mem) (v : V) (xs : List Int) (h : Rep (.sl ty_Int) M [v] xs) (left : Int) (h0 : 0 ≤ left) (h1 : left ≤ 1048576) (hx : xs.length ≤ 9223372036854775807) :
    ∃ l : Int, aCall T0 F_laws_szIntS [v, .int .i64 left] M = some (.int .i64 l, M) ∧ (0 ≤ l → xs.length + l ≤ left) := by
  obtain ⟨a, c, rfl⟩ := h.slen
  have e : IntKind.i64.wrap (left - (xs.length : Int)) = left - xs.length := wrap_i64 (by omega) (by omega)
  by_cases hl : left - (xs.length : Int) < 0
  · refine ⟨-1, ?_, by omega⟩
    have hl2 : left < (xs.length : Int) := by omega
    rw [aCall_eq T_laws_szIntS]; unfold A_laws_szIntS C_laws_szIntS; simp [e, hl, hl2]
  · refine ⟨left - xs.length, ?_, by omega⟩
    have hl2 : ¬ left < (xs.length : Int) := by omega
    rw [aCall_eq T_laws_szIntS]; unfold A_laws_szIntS C_laws_szIntS; simp [e, hl, hl2]
theorem c_laws_szReply (M : Mem) (k : Int) (f : Bool) (w : Int) (v u : V) (top : List ty_Rec.D) (marks : List Int) (h : Rep (.sl ty_Rec) M [v] top) (h2 : Rep (.sl ty_Int) M [u] marks) (left : Int) (h0 : 0 ≤ left) (h1 : left ≤ 1048576) (hx : top.length ≤ 9223372036854775807) (hx2 : marks.length ≤ 9223372036854775807) (f0 : ∀ x ∈ top, x.2.2.2.length ≤ 9223372036854775807) :
    ∃ l : Int, aCall T0 F_laws_szReply [.agg (cY k f w v u).toArray, .int .i64 left] M = some (.int .i64 l, M) ∧ (0 ≤ l → (top.length : Int) ≤ 1048576 ∧ (marks.length : Int) ≤ 1048576) := by
  have hp := szs_pos_Rec top
  obtain ⟨l, e1, e2⟩ := c_laws_szRecS (M ++ [⟨cY k f w v u, 1, 2⟩]) v top (h.mono (List.prefix_append _ _)) left h0 h1 hx f0
  by_cases hl : l < 0
  · obtain ⟨a, c, rfl⟩ := h.slen
    obtain ⟨b, d, rfl⟩ := h2.slen
    refine ⟨-1, ?_, by omega⟩
    rw [aCall_eq T_laws_szReply]; unfold A_laws_szReply C_laws_szReply; simp [e1, hl]
  have e3 := e2 (by omega)
  obtain ⟨l2, e4, e5⟩ := c_laws_szIntS (M ++ [⟨cY k f w v u, 1, 2⟩]) u marks (h2.mono (List.prefix_append _ _)) l (by omega) (by omega) hx2
  obtain ⟨a, c, rfl⟩ := h.slen
  obtain ⟨b, d, rfl⟩ := h2.slen
  by_cases hl2 : l2 < 0
  · refine ⟨-1, ?_, by omega⟩
    rw [aCall_eq T_laws_szReply]; unfold A_laws_szReply C_laws_szReply; simp [e1, hl, e4, hl2]
  · refine ⟨l2, ?_, fun _ => by have := e5 (by omega); omega⟩
    rw [aCall_eq T_laws_szReply]; unfold A_laws_szReply C_laws_szReply; simp [e1, hl, e4, hl2]
def z_Int : List V := [.int .i64 0]
theorem r_laws_toIntS (M : Mem) (a : Option Addr) (c : Nat) (xs : List ty_Int.D) (h : Rep (.sl ty_Int) M [.slice a xs.length c] xs) (hn : xs.length ≤ 1048576) (i : Nat) (hi : i < xs.length) :
    lp (aCall T0) K_laws_toIntS_0 L_laws_toIntS_0 [.slice a xs.length c, und, und, .slice (some ⟨M.length, 0, none⟩) xs.length xs.length, .int .i64 i, und, und, und, und, und, und, und, und, und, und, und, und, und, und, und, und, und] (M ++ [⟨tcells enc_Int z_Int xs i, 1, 2⟩]) =
    lp (aCall T0) K_laws_toIntS_0 L_laws_toIntS_0 [.slice a xs.length c, und, und, .slice (some ⟨M.length, 0, none⟩) xs.length xs.length, .int .i64 (i + 1 : Nat), und, und, und, und, und, und, und, und, und, und, und, und, und, und, und, und, und] (M ++ [⟨tcells enc_Int z_Int xs (i + 1), 1, 2⟩]) := by
  obtain ⟨l, o, rfl, hrep, hrd⟩ := at_Int h hi
  have hrd2 : rd1 (M ++ [⟨tcells enc_Int z_Int xs i, 1, 2⟩]) l (o + i) = some (.int .i64 xs[i]) := rd1_old hrd
  have e2 := tcells_len (enc := enc_Int) (z := z_Int) (xs := xs) (fun x _ => rfl) (i := i) (by omega)
  have e3 := tcells_step (enc := enc_Int) (z := z_Int) (xs := xs) (fun x _ => rfl) hi
  have e4 : z_Int.length = 1 := rfl
  rw [e4, Nat.mul_one] at e2 e3
  have e5 : i + 1 ≤ xs.length := by omega
  have e6 : IntKind.i64.wrap ((i : Int) + 1) = i + 1 := wrap_i64 (by omega) (by omega)
  unfold splice at e3
  simp at e3
  rw [S_laws_toIntS_0]; unfold B_laws_toIntS_0; simp [hrd2, e2, e3, e5, e6, hi]
theorem c_laws_toIntS (M : Mem) (v : V) (xs : List ty_Int.D) (h : Rep (.sl ty_Int) M [v] xs) (hn : xs.length ≤ 1048576) :
    aCall T0 F_laws_toIntS [v] M = some (.slice (some ⟨M.length, 0, none⟩) xs.length xs.length, M ++ [⟨(xs.map enc_Int).flatten, 1, 2⟩]) := by
  obtain ⟨a, c, rfl⟩ := h.slen
  have hl := chain (g := fun i : Nat => lp (aCall T0) K_laws_toIntS_0 L_laws_toIntS_0 [.slice a xs.length c, und, und, .slice (some ⟨M.length, 0, none⟩) xs.length xs.length, .int .i64 i, und, und, und, und, und, und, und, und, und, und, und, und, und, und, und, und, und] (M ++ [⟨tcells enc_Int z_Int xs i, 1, 2⟩])) (n := xs.length) fun i hi => r_laws_toIntS M a c xs h hn i hi
  simp only [Int.natCast_zero, Int.ofNat_zero, tcells_zero, tcells_full] at hl
  unfold z_Int at hl
  simp only [zeroCells_zc] at hl
  have e1 : (xs.length : Int) * 8 ≤ 281474976710656 := by omega
  have e2 : (xs.length : Int) ≤ 9223372036854775807 := by omega
  rw [aCall_eq T_laws_toIntS]; unfold A_laws_toIntS C_laws_toIntS; simp [e1, e2]
  rw [hl]
  rw [S_laws_toIntS_0]; unfold B_laws_toIntS_0; simp
def z_Rec : List V := [(.bool false), (.int .i64 0), (.int .i64 0), (.string ⟨#[]⟩)]
theorem c_laws_toRec_f (M : Mem) (x : ty_Rec.D) : aCall T0 F_laws_toRec [.agg (enc_Rec x).toArray] M = some (.agg (enc_Rec x).toArray, M) := by
  rw [aCall_eq T_laws_toRec]; unfold A_laws_toRec C_laws_toRec; simp
theorem r_laws_toRecS (M : Mem) (a : Option Addr) (c : Nat) (xs : List ty_Rec.D) (h : Rep (.sl ty_Rec) M [.slice a xs.length c] xs) (hn : xs.length ≤ 1048576) (i : Nat) (hi : i < xs.length) :
    lp (aCall T0) K_laws_toRecS_0 L_laws_toRecS_0 [.slice a xs.length c, und, und, .slice (some ⟨M.length, 0, none⟩) xs.length xs.length, .int .i64 i, und, und, und, und, und, und, und, und, und, und, und, und, und, und, und, und, und, und] (M ++ [⟨tcells enc_Rec z_Rec xs i, 4, 2⟩]) =
    lp (aCall T0) K_laws_toRecS_0 L_laws_toRecS_0 [.slice a xs.length c, und, und, .slice (some ⟨M.length, 0, none⟩) xs.length xs.length, .int .i64 (i + 1 : Nat), und, und, und, und, und, und, und, und, und, und, und, und, und, und, und, und, und, und] (M ++ [⟨tcells enc_Rec z_Rec xs (i + 1), 4, 2⟩]) := by
  obtain ⟨_, l, o, rfl, cs, hrd, hrep⟩ := rep_at h hi
  have hcs := rep_Rec hrep
  subst hcs
  have hrd2 : rdn (M ++ [⟨tcells enc_Rec z_Rec xs i, 4, 2⟩]) l (o + i * 4) 4 = some (enc_Rec xs[i]) := rdn_old hrd
  have e2 := tcells_len (enc := enc_Rec) (z := z_Rec) (xs := xs) (fun x _ => rfl) (i := i) (by omega)
  have e3 := tcells_step (enc := enc_Rec) (z := z_Rec) (xs := xs) (fun x _ => rfl) hi
  have e4 : z_Rec.length = 4 := rfl
  rw [e4] at e2 e3
  have e5 : i * 4 + 4 ≤ xs.length * 4 := by omega
  have e6 : IntKind.i64.wrap ((i : Int) + 1) = i + 1 := wrap_i64 (by omega) (by omega)
  have e7 : (i : Int) < xs.length := by omega
  unfold splice at e3
  simp at e3
  have ec := fun M => c_laws_toRec_f M xs[i]
  rw [S_laws_toRecS_0]; unfold B_laws_toRecS_0; simp [hrd2, ec, e2, e3, e5, e6, hi]
theorem c_laws_toRecS (M : Mem) (v : V) (xs : List ty_Rec.D) (h : Rep (.sl ty_Rec) M [v] xs) (hn : xs.length ≤ 1048576) :
    aCall T0 F_laws_toRecS [v] M = some (.slice (some ⟨M.length, 0, none⟩) xs.length xs.length, M ++ [⟨(xs.map enc_Rec).flatten, 4, 2⟩]) := by
  obtain ⟨a, c, rfl⟩ := h.slen
  have hl := chain (g := fun i : Nat => lp (aCall T0) K_laws_toRecS_0 L_laws_toRecS_0 [.slice a xs.length c, und, und, .slice (some ⟨M.length, 0, none⟩) xs.length xs.length, .int .i64 i, und, und, und, und, und, und, und, und, und, und, und, und, und, und, und, und, und, und] (M ++ [⟨tcells enc_Rec z_Rec xs i, 4, 2⟩])) (n := xs.length) fun i hi => r_laws_toRecS M a c xs h hn i hi
  simp only [Int.natCast_zero, Int.ofNat_zero, tcells_zero, tcells_full] at hl
  unfold z_Rec at hl
  have e1 : (xs.length : Int) * 40 ≤ 281474976710656 := by omega
  have e2 : (xs.length : Int) ≤ 9223372036854775807 := by omega
  rw [aCall_eq T_laws_toRecS]; unfold A_laws_toRecS C_laws_toRecS; simp [e1, e2]
  rw [hl]
  rw [S_laws_toRecS_0]; unfold B_laws_toRecS_0; simp
theorem repi_Rec {M M2 : Mem} {cs : List V} {x : ty_Rec.D} (h : Rep ty_Rec M cs x) : Rep ty_Rec M2 (enc_Rec x) x := by
  obtain ⟨_, _, rfl, rfl, ⟨_, _, rfl, ⟨rfl, w1⟩, ⟨_, _, rfl, ⟨rfl, w2⟩, rfl⟩⟩⟩ := h
  exact ⟨[.bool x.1], [.int .i64 x.2.1, .int .i64 x.2.2.1, strV x.2.2.2], rfl, rfl, ⟨[.int .i64 x.2.1], [.int .i64 x.2.2.1, strV x.2.2.2], rfl, ⟨rfl, w1⟩, ⟨[.int .i64 x.2.2.1], [strV x.2.2.2], rfl, ⟨rfl, w2⟩, rfl⟩⟩⟩
theorem rep_toRecS {M M2 : Mem} {v : V} {xs : List ty_Rec.D} (h : Rep (.sl ty_Rec) M [v] xs) : Rep (.sl ty_Rec) (M2 ++ [⟨(xs.map enc_Rec).flatten, 4, 2⟩]) [.slice (some ⟨M2.length, 0, none⟩) xs.length xs.length] xs := by
  refine rep_made fun x hx => ?_
  obtain ⟨i, hi, rfl⟩ := List.getElem_of_mem hx
  obtain ⟨a, c, rfl⟩ := h.slen
  obtain ⟨_, l, o, rfl, cs, hrd, hrep⟩ := rep_at h hi
  exact repi_Rec hrep
theorem rep_toIntS {M M2 : Mem} {v : V} {xs : List ty_Int.D} (h : Rep (.sl ty_Int) M [v] xs) : Rep (.sl ty_Int) (M2 ++ [⟨(xs.map enc_Int).flatten, 1, 2⟩]) [.slice (some ⟨M2.length, 0, none⟩) xs.length xs.length] xs := by
  refine rep_made fun x hx => ?_
  obtain ⟨i, hi, rfl⟩ := List.getElem_of_mem hx
  obtain ⟨a, c, rfl⟩ := h.slen
  obtain ⟨_, l, o, rfl, cs, hrd, hrep⟩ := rep_at h hi
  exact ⟨rfl, hrep.2⟩
theorem c_laws_toReply (M : Mem) (k : Int) (f : Bool) (w : Int) (v u : V) (top : List ty_Rec.D) (marks : List Int) (h : Rep (.sl ty_Rec) M [v] top) (h2 : Rep (.sl ty_Int) M [u] marks) (hn : top.length ≤ 1048576) (hn2 : marks.length ≤ 1048576) :
    ∃ M' v' u', M <+: M' ∧ aCall T0 F_laws_toReply [.agg (cY k f w v u).toArray] M = some (.agg (cY k f w v' u').toArray, M') ∧ Rep (.sl ty_Rec) M' [v'] top ∧ Rep (.sl ty_Int) M' [u'] marks := by
  obtain ⟨B, hB⟩ : ∃ B : Blk, B = ⟨(top.map enc_Rec).flatten, 4, 2⟩ := ⟨_, rfl⟩
  obtain ⟨C, hC⟩ : ∃ C : Blk, C = ⟨(marks.map enc_Int).flatten, 1, 2⟩ := ⟨_, rfl⟩
  have t := c_laws_toRecS (M ++ [⟨cY k f w v u, 1, 2⟩, ⟨cY 0 false 0 (.slice none 0 0) (.slice none 0 0), 1, 2⟩, ⟨cY k f w (.slice none 0 0) (.slice none 0 0), 1, 2⟩]) v top (h.mono (List.prefix_append _ _)) hn
  have t2 := c_laws_toIntS (M ++ [⟨cY k f w v u, 1, 2⟩, ⟨cY 0 false 0 (.slice none 0 0) (.slice none 0 0), 1, 2⟩, ⟨cY k f w (.slice (some ⟨M.length + 3, 0, none⟩) top.length top.length) (.slice none 0 0), 1, 2⟩, B]) u marks (h2.mono (List.prefix_append _ _)) hn2
  have r := rep_toRecS (M2 := M ++ [⟨cY k f w v u, 1, 2⟩, ⟨cY k f w (.slice (some ⟨M.length + 3, 0, none⟩) top.length top.length) (.slice (some ⟨M.length + 4, 0, none⟩) marks.length marks.length), 1, 2⟩, ⟨cY k f w (.slice (some ⟨M.length + 3, 0, none⟩) top.length top.length) (.slice (some ⟨M.length + 4, 0, none⟩) marks.length marks.length), 1, 2⟩]) h
  rw [← hB] at t r
  have hCi : Rep (.sl ty_Int) (M ++ [⟨cY k f w v u, 1, 2⟩, ⟨cY k f w (.slice (some ⟨M.length + 3, 0, none⟩) top.length top.length) (.slice (some ⟨M.length + 4, 0, none⟩) marks.length marks.length), 1, 2⟩, ⟨cY k f w (.slice (some ⟨M.length + 3, 0, none⟩) top.length top.length) (.slice (some ⟨M.length + 4, 0, none⟩) marks.length marks.length), 1, 2⟩, B, C]) [.slice (some ⟨M.length + 4, 0, none⟩) marks.length marks.length] marks := by
    have q := rep_toIntS (M2 := M ++ [⟨cY k f w v u, 1, 2⟩, ⟨cY k f w (.slice (some ⟨M.length + 3, 0, none⟩) top.length top.length) (.slice (some ⟨M.length + 4, 0, none⟩) marks.length marks.length), 1, 2⟩, ⟨cY k f w (.slice (some ⟨M.length + 3, 0, none⟩) top.length top.length) (.slice (some ⟨M.length + 4, 0, none⟩) marks.length marks.length), 1, 2⟩, B]) h2
    rw [← hC] at q
    simpa using q
  rw [← hC] at t2
  refine ⟨M ++ [⟨cY k f w v u, 1, 2⟩, ⟨cY k f w (.slice (some ⟨M.length + 3, 0, none⟩) top.length top.length) (.slice (some ⟨M.length + 4, 0, none⟩) marks.length marks.length), 1, 2⟩, ⟨cY k f w (.slice (some ⟨M.length + 3, 0, none⟩) top.length top.length) (.slice (some ⟨M.length + 4, 0, none⟩) marks.length marks.length), 1, 2⟩, B, C], .slice (some ⟨M.length + 3, 0, none⟩) top.length top.length, .slice (some ⟨M.length + 4, 0, none⟩) marks.length marks.length, List.prefix_append _ _, ?_, ?_, hCi⟩
  · simp at t t2
    obtain ⟨a, c, rfl⟩ := h.slen
    obtain ⟨b, d, rfl⟩ := h2.slen
    rw [aCall_eq T_laws_toReply]; unfold A_laws_toReply C_laws_toReply; simp [t, t2]
  · have := r.mono (List.prefix_append _ [C])
    simpa using this
theorem r_laws_eqIntS (M : Mem) (a b : Option Addr) (c d : Nat) (xs ys : List ty_Int.D) (h : Rep (.sl ty_Int) M [.slice a xs.length c] xs) (h2 : Rep (.sl ty_Int) M [.slice b ys.length d] ys) (hn : xs.length ≤ 9223372036854775807) (i : Nat) (hi : i < xs.length) (hj : i < ys.length) (he : xs[i] = ys[i]) :
    lp (aCall T0) K_laws_eqIntS_0 L_laws_eqIntS_0 [.slice a xs.length c, .slice b ys.length d, und, und, und, .int .i64 i, und, und, und, und, und, und, und, und, und, und, und, und, und, und, und, und, und, und, und, und] M = lp (aCall T0) K_laws_eqIntS_0 L_laws_eqIntS_0 [.slice a xs.length c, .slice b ys.length d, und, und, und, .int .i64 (i + 1 : Nat), und, und, und, und, und, und, und, und, und, und, und, und, und, und, und, und, und, und, und, und] M := by
  obtain ⟨l, o, rfl, _, hrd⟩ := at_Int h hi
  obtain ⟨l2, o2, rfl, _, hrd2⟩ := at_Int h2 hj
  have e6 : IntKind.i64.wrap ((i : Int) + 1) = i + 1 := wrap_i64 (by omega) (by omega)
  rw [S_laws_eqIntS_0]; unfold B_laws_eqIntS_0; simp [hrd, hrd2, e6, hi, hj, he]
theorem x_laws_eqIntS (M : Mem) (a b : Option Addr) (c d : Nat) (xs ys : List ty_Int.D) (h : Rep (.sl ty_Int) M [.slice a xs.length c] xs) (h2 : Rep (.sl ty_Int) M [.slice b ys.length d] ys) (hn : xs.length ≤ 9223372036854775807) (i : Nat) (hi : i < xs.length) (hj : i < ys.length) (he : xs[i] ≠ ys[i]) (k : ACode) :
    thenF M [.tmp 4] (thenS (blockR 0 (lp (aCall T0) K_laws_eqIntS_0 L_laws_eqIntS_0 [.slice a xs.length c, .slice b ys.length d, und, und, und, .int .i64 i, und, und, und, und, und, und, und, und, und, und, und, und, und, und, und, und, und, und, und, und] M)) (aCall T0) k) = some (.bool false, M) := by
  obtain ⟨l, o, rfl, _, hrd⟩ := at_Int h hi
  obtain ⟨l2, o2, rfl, _, hrd2⟩ := at_Int h2 hj
  rw [S_laws_eqIntS_0]; unfold B_laws_eqIntS_0; simp [hrd, hrd2, hi, hj, he]
theorem c_laws_eqIntS (M : Mem) (v u : V) (xs ys : List Int) (h : Rep (.sl ty_Int) M [v] xs) (h2 : Rep (.sl ty_Int) M [u] ys) (hn : xs.length ≤ 9223372036854775807) : aCall T0 F_laws_eqIntS [v, u] M = some (.bool (decide (xs = ys)), M) := by
  obtain ⟨a, c, rfl⟩ := h.slen
  obtain ⟨b, d, rfl⟩ := h2.slen
  by_cases hl : xs.length = ys.length
  · rcases list_eq_iff hl with he | ⟨j, hj, h3, h4⟩
    · subst he
      have hc := chain (g := fun i : Nat => lp (aCall T0) K_laws_eqIntS_0 L_laws_eqIntS_0 [.slice a xs.length c, .slice b xs.length d, und, und, und, .int .i64 i, und, und, und, und, und, und, und, und, und, und, und, und, und, und, und, und, und, und, und, und] M) (n := xs.length) fun i hi => r_laws_eqIntS M a b c d xs xs h h2 hn i hi hi rfl
      simp only [Int.natCast_zero, Int.ofNat_zero] at hc
      rw [aCall_eq T_laws_eqIntS]; unfold A_laws_eqIntS C_laws_eqIntS; simp [hc]
      rw [S_laws_eqIntS_0]; unfold B_laws_eqIntS_0; simp
    · have hc := chain (g := fun i : Nat => lp (aCall T0) K_laws_eqIntS_0 L_laws_eqIntS_0 [.slice a xs.length c, .slice b ys.length d, und, und, und, .int .i64 i, und, und, und, und, und, und, und, und, und, und, und, und, und, und, und, und, und, und, und, und] M) (n := j) fun i hi => r_laws_eqIntS M a b c d xs ys h h2 hn i (by omega) (by omega) (h3 i (by omega) hi)
      simp only [Int.natCast_zero, Int.ofNat_zero] at hc
      have hx := x_laws_eqIntS M a b c d xs ys h h2 hn j hj (by omega) h4
      have hne : xs ≠ ys := fun e => h4 (by simp [e])
      simp only [← hl] at hc hx
      simp only [← hl]
      rw [aCall_eq T_laws_eqIntS]; unfold A_laws_eqIntS C_laws_eqIntS; simp [hc, hx, hne]
  · have hne : xs ≠ ys := fun e => hl (by rw [e])
    have hl2 : ¬ ((xs.length : Int) = ys.length) := by omega
    rw [aCall_eq T_laws_eqIntS]; unfold A_laws_eqIntS C_laws_eqIntS; simp [hl2, hl, hne]
theorem deq_Rec (x y : ty_Rec.D) : decide (x = y) = (decide (x.1 = y.1) && (decide (x.2.1 = y.2.1) && (decide (x.2.2.1 = y.2.2.1) && (decide (x.2.2.2 = y.2.2.2))))) := by
  obtain ⟨x0, x1, x2, x3⟩ := x
  obtain ⟨y0, y1, y2, y3⟩ := y
  simp
theorem c_laws_eqRec (M : Mem) (x y : ty_Rec.D) : aCall T0 F_laws_eqRec [.agg (enc_Rec x).toArray, .agg (enc_Rec y).toArray] M = some (.bool (decide (x = y)), M) := by
  rw [deq_Rec]
  rw [aCall_eq T_laws_eqRec]; unfold A_laws_eqRec C_laws_eqRec; simp
  repeat' ((first | rw [selO_some] | rw [condR_bool] | rw [selD_some]); split <;> rename_i hq <;> (have hq2 := hq) <;> (try simp at hq2) <;> (try simp [*]))
theorem r_laws_eqRecS (M : Mem) (a b : Option Addr) (c d : Nat) (xs ys : List ty_Rec.D) (h : Rep (.sl ty_Rec) M [.slice a xs.length c] xs) (h2 : Rep (.sl ty_Rec) M [.slice b ys.length d] ys) (hn : xs.length ≤ 9223372036854775807) (i : Nat) (hi : i < xs.length) (hj : i < ys.length) (he : xs[i] = ys[i]) :
    lp (aCall T0) K_laws_eqRecS_0 L_laws_eqRecS_0 [.slice a xs.length c, .slice b ys.length d, und, und, und, .int .i64 i, und, und, und, und, und, und, und, und, und, und, und, und, und, und, und, und, und, und, und, und, und] M = lp (aCall T0) K_laws_eqRecS_0 L_laws_eqRecS_0 [.slice a xs.length c, .slice b ys.length d, und, und, und, .int .i64 (i + 1 : Nat), und, und, und, und, und, und, und, und, und, und, und, und, und, und, und, und, und, und, und, und, und] M := by
  obtain ⟨_, l, o, rfl, cs, hrd, hrep⟩ := rep_at h hi
  obtain ⟨_, l2, o2, rfl, ds, hrd2, hrep2⟩ := rep_at h2 hj
  have hcs := rep_Rec hrep
  subst hcs
  have hds := rep_Rec hrep2
  subst hds
  have hw : ty_Rec.w = 4 := rfl
  rw [hw] at hrd hrd2
  have e6 : IntKind.i64.wrap ((i : Int) + 1) = i + 1 := wrap_i64 (by omega) (by omega)
  have ec := fun M => c_laws_eqRec M ys[i] ys[i]
  rw [S_laws_eqRecS_0]; unfold B_laws_eqRecS_0; simp [hrd, hrd2, ec, e6, hi, hj, he]
theorem x_laws_eqRecS (M : Mem) (a b : Option Addr) (c d : Nat) (xs ys : List ty_Rec.D) (h : Rep (.sl ty_Rec) M [.slice a xs.length c] xs) (h2 : Rep (.sl ty_Rec) M [.slice b ys.length d] ys) (hn : xs.length ≤ 9223372036854775807) (i : Nat) (hi : i < xs.length) (hj : i < ys.length) (he : xs[i] ≠ ys[i]) (k : ACode) :
    thenF M [.tmp 4] (thenS (blockR 0 (lp (aCall T0) K_laws_eqRecS_0 L_laws_eqRecS_0 [.slice a xs.length c, .slice b ys.length d, und, und, und, .int .i64 i, und, und, und, und, und, und, und, und, und, und, und, und, und, und, und, und, und, und, und, und, und] M)) (aCall T0) k) = some (.bool false, M) := by
  obtain ⟨_, l, o, rfl, cs, hrd, hrep⟩ := rep_at h hi
  obtain ⟨_, l2, o2, rfl, ds, hrd2, hrep2⟩ := rep_at h2 hj
  have hcs := rep_Rec hrep
  subst hcs
  have hds := rep_Rec hrep2
  subst hds
  have hw : ty_Rec.w = 4 := rfl
  rw [hw] at hrd hrd2
  have ec := fun M => c_laws_eqRec M xs[i] ys[i]
  rw [S_laws_eqRecS_0]; unfold B_laws_eqRecS_0; simp [hrd, hrd2, ec, hi, hj, he]
theorem c_laws_eqRecS (M : Mem) (v u : V) (xs ys : List ty_Rec.D) (h : Rep (.sl ty_Rec) M [v] xs) (h2 : Rep (.sl ty_Rec) M [u] ys) (hn : xs.length ≤ 9223372036854775807) : aCall T0 F_laws_eqRecS [v, u] M = some (.bool (decide (xs = ys)), M) := by
  obtain ⟨a, c, rfl⟩ := h.slen
  obtain ⟨b, d, rfl⟩ := h2.slen
  by_cases hl : xs.length = ys.length
  · rcases list_eq_iff hl with he | ⟨j, hj, h3, h4⟩
    · subst he
      have hc := chain (g := fun i : Nat => lp (aCall T0) K_laws_eqRecS_0 L_laws_eqRecS_0 [.slice a xs.length c, .slice b xs.length d, und, und, und, .int .i64 i, und, und, und, und, und, und, und, und, und, und, und, und, und, und, und, und, und, und, und, und, und] M) (n := xs.length) fun i hi => r_laws_eqRecS M a b c d xs xs h h2 hn i hi hi rfl
      simp only [Int.natCast_zero, Int.ofNat_zero] at hc
      rw [aCall_eq T_laws_eqRecS]; unfold A_laws_eqRecS C_laws_eqRecS; simp [hc]
      rw [S_laws_eqRecS_0]; unfold B_laws_eqRecS_0; simp
    · have hc := chain (g := fun i : Nat => lp (aCall T0) K_laws_eqRecS_0 L_laws_eqRecS_0 [.slice a xs.length c, .slice b ys.length d, und, und, und, .int .i64 i, und, und, und, und, und, und, und, und, und, und, und, und, und, und, und, und, und, und, und, und, und] M) (n := j) fun i hi => r_laws_eqRecS M a b c d xs ys h h2 hn i (by omega) (by omega) (h3 i (by omega) hi)
      simp only [Int.natCast_zero, Int.ofNat_zero] at hc
      have hx := x_laws_eqRecS M a b c d xs ys h h2 hn j hj (by omega) h4
      have hne : xs ≠ ys := fun e => h4 (by simp [e])
      simp only [← hl] at hc hx
      simp only [← hl]
      rw [aCall_eq T_laws_eqRecS]; unfold A_laws_eqRecS C_laws_eqRecS; simp [hc, hx, hne]
  · have hne : xs ≠ ys := fun e => hl (by rw [e])
    have hl2 : ¬ ((xs.length : Int) = ys.length) := by omega
    rw [aCall_eq T_laws_eqRecS]; unfold A_laws_eqRecS C_laws_eqRecS; simp [hl2, hl, hne]
theorem c_laws_eqReply (M : Mem) (k : Int) (f : Bool) (w : Int) (v u v2 u2 : V) (top : List ty_Rec.D) (marks : List Int) (h : Rep (.sl ty_Rec) M [v] top) (h2 : Rep (.sl ty_Int) M [u] marks) (h3 : Rep (.sl ty_Rec) M [v2] top) (h4 : Rep (.sl ty_Int) M [u2] marks) (hn : top.length ≤ 9223372036854775807) (hn2 : marks.length ≤ 9223372036854775807) :
    aCall T0 F_laws_eqReply [.agg (cY k f w v u).toArray, .agg (cY k f w v2 u2).toArray] M = some (.bool true, M) := by
  have hp : M <+: M ++ [⟨cY k f w v u, 1, 2⟩, ⟨cY k f w v2 u2, 1, 2⟩] := List.prefix_append _ _
  have e1 := c_laws_eqRecS _ v v2 top top (h.mono hp) (h3.mono hp) hn
  have e2 := c_laws_eqIntS _ u u2 marks marks (h2.mono hp) (h4.mono hp) hn2
  simp only [decide_true] at e1 e2
  obtain ⟨_, _, rfl⟩ := h.slen
  obtain ⟨_, _, rfl⟩ := h2.slen
  obtain ⟨_, _, rfl⟩ := h3.slen
  obtain ⟨_, _, rfl⟩ := h4.slen
  rw [aCall_eq T_laws_eqReply]; unfold A_laws_eqReply C_laws_eqReply; simp [e1, e2]
theorem rdn_box {M : Mem} {l n : Nat} {cs : List V} (h : M[l]? = some ⟨cs, 1, 2⟩) (hn : n = cs.length) : rdn M l 0 n = some cs := by
  unfold rdn
  rw [h]
  simp [hn]
theorem rd_reply {M : Mem} {p : Nat} {k : Int} {f : Bool} {w : Int} {v u : V} (hb : M[p]? = some ⟨cY k f w v u, 1, 2⟩) : rdn M p 0 5 = some (cY k f w v u) := rdn_box hb rfl
theorem c_impl_within (M : Mem) (x a b : Int) : aCall T0 F_impl_within [.int .i64 x, .int .i64 a, .int .i64 b] M = some (.bool (decide (a ≤ x) && decide (x ≤ b)), M) := by
  rw [aCall_eq T_impl_within]; unfold A_impl_within C_impl_within; simp
  repeat' ((first | rw [selO_some] | rw [condR_bool] | rw [selD_some]); split <;> rename_i hq <;> (have hq2 := hq) <;> (try simp at hq2) <;> (try simp [*]))
theorem c_impl_isShape (M : Mem) (k s : Int) : aCall T0 F_impl_isShape [.int .i64 k, .int .i64 s] M = some (.bool (shapeB k s), M) := by
  unfold shapeB
  rw [aCall_eq T_impl_isShape]; unfold A_impl_isShape C_impl_isShape; simp [c_impl_within]
  repeat' ((first | rw [selO_some] | rw [condR_bool] | rw [selD_some]); split <;> rename_i hq <;> (have hq2 := hq) <;> (try simp at hq2) <;> (try simp [*, c_impl_within]))
theorem r_idx_Int (M : Mem) (a : Option Addr) (c : Nat) (xs : List ty_Int.D) (h : Rep (.sl ty_Int) M [.slice a xs.length c] xs) (hn : xs.length ≤ 9223372036854775807) (f : FuncId) (cap : List V) (p : Int → Bool)
    (hp : ∀ i (hi : i < xs.length), aCall T0 f (.int .i64 xs[i] :: cap) M = some (.bool (p xs[i]), M)) (i : Nat) (hi : i < xs.length) (hq : p xs[i] = false) :
    lp (aCall T0) K_slices_IndexFunc_int_int_0 L_slices_IndexFunc_int_int_0 [.slice a xs.length c, .func (.func f) #[] cap.toArray, und, und, und, und, und, .int .i64 xs.length, .int .i64 i, und, und, und, und, und, und, und, und, und, und] M =
    lp (aCall T0) K_slices_IndexFunc_int_int_0 L_slices_IndexFunc_int_int_0 [.slice a xs.length c, .func (.func f) #[] cap.toArray, und, und, und, und, und, .int .i64 xs.length, .int .i64 (i + 1 : Nat), und, und, und, und, und, und, und, und, und, und] M := by
  obtain ⟨l, o, rfl, hrep, hrd⟩ := at_Int h hi
  have ec := hp i hi
  have e6 : IntKind.i64.wrap ((i : Int) + 1) = i + 1 := wrap_i64 (by omega) (by omega)
  rw [S_slices_IndexFunc_int_int_0]; unfold B_slices_IndexFunc_int_int_0; simp [hrd, ec, e6, hi, hq]
theorem x_idx_Int (M : Mem) (a : Option Addr) (c : Nat) (xs : List ty_Int.D) (h : Rep (.sl ty_Int) M [.slice a xs.length c] xs) (f : FuncId) (cap : List V) (p : Int → Bool)
    (hp : ∀ i (hi : i < xs.length), aCall T0 f (.int .i64 xs[i] :: cap) M = some (.bool (p xs[i]), M)) (i : Nat) (hi : i < xs.length) (hq : p xs[i] = true) (k : ACode) :
    thenF M [.tmp 4] (thenS (blockR 0 (lp (aCall T0) K_slices_IndexFunc_int_int_0 L_slices_IndexFunc_int_int_0 [.slice a xs.length c, .func (.func f) #[] cap.toArray, und, und, und, und, und, .int .i64 xs.length, .int .i64 i, und, und, und, und, und, und, und, und, und, und] M)) (aCall T0) k) = some (.int .i64 i, M) := by
  obtain ⟨l, o, rfl, hrep, hrd⟩ := at_Int h hi
  have ec := hp i hi
  rw [S_slices_IndexFunc_int_int_0]; unfold B_slices_IndexFunc_int_int_0; simp [hrd, ec, hi, hq]
theorem c_idx_Int (M : Mem) (v : V) (xs : List ty_Int.D) (h : Rep (.sl ty_Int) M [v] xs) (hn : xs.length ≤ 9223372036854775807) (f : FuncId) (cap : List V) (p : Int → Bool)
    (hp : ∀ i (hi : i < xs.length), aCall T0 f (.int .i64 xs[i] :: cap) M = some (.bool (p xs[i]), M)) :
    aCall T0 F_slices_IndexFunc_int_int [v, .func (.func f) #[] cap.toArray] M = some (.int .i64 (idx p xs), M) := by
  obtain ⟨a, c, rfl⟩ := h.slen
  rcases idx_cases p xs with ⟨ha, h1⟩ | ⟨j, hj, ha, h1, h2⟩
  · have hc := chain (g := fun i : Nat => lp (aCall T0) K_slices_IndexFunc_int_int_0 L_slices_IndexFunc_int_int_0 [.slice a xs.length c, .func (.func f) #[] cap.toArray, und, und, und, und, und, .int .i64 xs.length, .int .i64 i, und, und, und, und, und, und, und, und, und, und] M) (n := xs.length) fun i hi => r_idx_Int M a c xs h hn f cap p hp i hi (h1 i hi)
    simp only [Int.natCast_zero, Int.ofNat_zero] at hc
    rw [ha]
    rw [aCall_eq T_slices_IndexFunc_int_int]; unfold A_slices_IndexFunc_int_int C_slices_IndexFunc_int_int; simp [hc]
    rw [S_slices_IndexFunc_int_int_0]; unfold B_slices_IndexFunc_int_int_0; simp
  · have hc := chain (g := fun i : Nat => lp (aCall T0) K_slices_IndexFunc_int_int_0 L_slices_IndexFunc_int_int_0 [.slice a xs.length c, .func (.func f) #[] cap.toArray, und, und, und, und, und, .int .i64 xs.length, .int .i64 i, und, und, und, und, und, und, und, und, und, und] M) (n := j) fun i hi => r_idx_Int M a c xs h hn f cap p hp i (by omega) (h1 i (by omega) hi)
    simp only [Int.natCast_zero, Int.ofNat_zero] at hc
    rw [ha]
    rw [aCall_eq T_slices_IndexFunc_int_int]; unfold A_slices_IndexFunc_int_int C_slices_IndexFunc_int_int; simp [hc, x_idx_Int M a c xs h f cap p hp j hj h2]
theorem c_any_Int (M : Mem) (v : V) (xs : List ty_Int.D) (h : Rep (.sl ty_Int) M [v] xs) (hn : xs.length ≤ 9223372036854775807) (f : FuncId) (cap : List V) (p : Int → Bool)
    (hp : ∀ i (hi : i < xs.length), aCall T0 f (.int .i64 xs[i] :: cap) M = some (.bool (p xs[i]), M)) :
    aCall T0 F_slices_ContainsFunc_int_int [v, .func (.func f) #[] cap.toArray] M = some (.bool (xs.any p), M) := by
  have h1 := c_idx_Int M v xs h hn f cap p hp
  have h2 := idx_any p xs
  rw [← h2]
  rw [aCall_eq T_slices_ContainsFunc_int_int]; unfold A_slices_ContainsFunc_int_int C_slices_ContainsFunc_int_int; simp [h1]
theorem rep_blk {t : Ty} {M : Mem} {l o n c : Nat} {xs : List t.D} (h : Rep (.sl t) M [.slice (some ⟨l, o, none⟩) n c] xs) : ∃ blk, M[l]? = some blk ∧ blk.w = t.w ∧ n = xs.length := by
  rcases h with ⟨h, _⟩ | ⟨l', o', c', blk, css, e, h2, h3, h4, h5, h6, h7⟩
  · simp at h
  · simp only [List.cons.injEq, Value.slice.injEq, Option.some.injEq, Addr.mk.injEq, and_true, true_and] at e
    obtain ⟨⟨rfl, rfl⟩, rfl, rfl⟩ := e
    exact ⟨blk, h2, h4, rfl⟩
theorem r_impl_isWord (M : Mem) (w : List UInt8) (hw : w.length ≤ 9223372036854775807) (i : Nat) (hi : i < w.length) (hb : okByte w[i] = true) :
    lp (aCall T0) K_impl_isWord_0 L_impl_isWord_0 [strV w, und, und, und, und, .int .i64 w.length, .int .i64 i, und, und, und, und, und, und, und, und, und, und, und, und, und, und, und, und] M = lp (aCall T0) K_impl_isWord_0 L_impl_isWord_0 [strV w, und, und, und, und, .int .i64 w.length, .int .i64 (i + 1 : Nat), und, und, und, und, und, und, und, und, und, und, und, und, und, und, und, und] M := by
  obtain ⟨h1, h2⟩ := okByte_t hb
  rw [S_impl_isWord_0]; unfold B_impl_isWord_0; simp [hi, byteV, h1, h2]
  rw [wrap_i64 (by omega) (by omega)]
theorem x_impl_isWord (M : Mem) (w : List UInt8) (hw : w.length ≤ 9223372036854775807) (i : Nat) (hi : i < w.length) (hb : okByte w[i] = false) (k : ACode) :
    thenF M [.tmp 2] (thenS (blockR 0 (lp (aCall T0) K_impl_isWord_0 L_impl_isWord_0 [strV w, und, und, und, und, .int .i64 w.length, .int .i64 i, und, und, und, und, und, und, und, und, und, und, und, und, und, und, und, und] M)) (aCall T0) k) = some (.bool false, M) := by
  rcases okByte_f hb with h1 | ⟨h1, h2⟩
  · rw [S_impl_isWord_0]; unfold B_impl_isWord_0; simp [hi, byteV, h1]
  · rw [S_impl_isWord_0]; unfold B_impl_isWord_0; simp [hi, byteV, h1, h2]
theorem c_impl_isWord (M : Mem) (w : List UInt8) (hw : w.length ≤ 9223372036854775807) : aCall T0 F_impl_isWord [strV w] M = some (.bool (wordB w), M) := by
  unfold wordB
  rcases first_byte w with ha | ⟨ha, j, hj, h1, h2⟩
  · have hl := chain (g := fun i : Nat => lp (aCall T0) K_impl_isWord_0 L_impl_isWord_0 [strV w, und, und, und, und, .int .i64 w.length, .int .i64 i, und, und, und, und, und, und, und, und, und, und, und, und, und, und, und, und] M) (n := w.length) fun i hi => r_impl_isWord M w hw i hi (List.all_eq_true.1 ha _ (List.getElem_mem hi))
    simp only [Int.natCast_zero, Int.ofNat_zero] at hl
    rw [ha]
    rw [aCall_eq T_impl_isWord]; unfold A_impl_isWord C_impl_isWord; simp [hl]
    rw [S_impl_isWord_0]; unfold B_impl_isWord_0; simp [c_impl_within]
  · have hl := chain (g := fun i : Nat => lp (aCall T0) K_impl_isWord_0 L_impl_isWord_0 [strV w, und, und, und, und, .int .i64 w.length, .int .i64 i, und, und, und, und, und, und, und, und, und, und, und, und, und, und, und, und] M) (n := j) fun i hi => r_impl_isWord M w hw i (by omega) (h1 i (by omega) hi)
    simp only [Int.natCast_zero, Int.ofNat_zero] at hl
    rw [ha]
    rw [aCall_eq T_impl_isWord]; unfold A_impl_isWord C_impl_isWord; simp [hl, x_impl_isWord M w hw j hj h2]
theorem c_impl_isRec (M : Mem) (r : ty_Rec.D) (hw : r.2.2.2.length ≤ 9223372036854775807) : aCall T0 F_impl_isRec [.agg (enc_Rec r).toArray] M = some (.bool (recB r), M) := by
  unfold recB
  have h2 := fun M => c_impl_isWord M r.2.2.2 hw
  cases he : decide (r = zRec) with
  | true =>
    have h3 := eq_rec r
    rw [he] at h3
    rw [aCall_eq T_impl_isRec]; unfold A_impl_isRec C_impl_isRec; simp [h3]
  | false =>
    have h3 := eq_rec r
    rw [he] at h3
    rw [aCall_eq T_impl_isRec]; unfold A_impl_isRec C_impl_isRec; simp [h3, h2, c_impl_within]
    repeat' ((first | rw [selO_some] | rw [condR_bool] | rw [selD_some]); split <;> rename_i hq <;> (have hq2 := hq) <;> (try simp at hq2) <;> (try simp [*, h2, c_impl_within]))
theorem less_irr : ∀ a : List UInt8, Op.bytesLess a a = false
  | [] => rfl
  | x :: a => by
    rw [Op.bytesLess, less_irr a]
    simp
theorem c_cmp_isNaN_string (M : Mem) (a : List UInt8) : aCall T0 F_cmp_isNaN_string [strV a] M = some (.bool false, M) := by
  rw [aCall_eq T_cmp_isNaN_string]; unfold A_cmp_isNaN_string C_cmp_isNaN_string; simp
theorem c_cmp_Compare_string (M : Mem) (a b : List UInt8) : aCall T0 F_cmp_Compare_string [strV a, strV b] M = some (.int .i64 (cmpW a b), M) := by
  unfold cmpW
  cases h : Op.bytesLess a b with
  | true => rw [aCall_eq T_cmp_Compare_string]; unfold A_cmp_Compare_string C_cmp_Compare_string; simp [c_cmp_isNaN_string, h]
  | false => cases h2 : Op.bytesLess b a with
    | true =>
      have hne : ¬ a = b := by
        intro e
        rw [e, less_irr] at h2
        cases h2
      rw [aCall_eq T_cmp_Compare_string]; unfold A_cmp_Compare_string C_cmp_Compare_string; simp [c_cmp_isNaN_string, h, hne]
    | false =>
      have he : a = b := cmpW_zero (by simp [cmpW, h, h2])
      subst he
      rw [aCall_eq T_cmp_Compare_string]; unfold A_cmp_Compare_string C_cmp_Compare_string; simp [c_cmp_isNaN_string, h]
theorem c_cmp_isNaN_int (M : Mem) (a : Int) : aCall T0 F_cmp_isNaN_int [.int .i64 a] M = some (.bool false, M) := by
  rw [aCall_eq T_cmp_isNaN_int]; unfold A_cmp_isNaN_int C_cmp_isNaN_int; simp
theorem c_cmp_Compare_int (M : Mem) (a b : Int) : aCall T0 F_cmp_Compare_int [.int .i64 a, .int .i64 b] M = some (.int .i64 (cmpI a b), M) := by
  unfold cmpI
  by_cases h : a < b
  · rw [aCall_eq T_cmp_Compare_int]; unfold A_cmp_Compare_int C_cmp_Compare_int; simp [c_cmp_isNaN_int, h]
  · by_cases h2 : b < a
    · rw [aCall_eq T_cmp_Compare_int]; unfold A_cmp_Compare_int C_cmp_Compare_int; simp [c_cmp_isNaN_int, h, h2]
    · rw [aCall_eq T_cmp_Compare_int]; unfold A_cmp_Compare_int C_cmp_Compare_int; simp [c_cmp_isNaN_int, h, h2]
theorem c_cmp_Or_int (M : Mem) (a b c : Int) : aCall T0 F_cmp_Or_int [.slice (some ⟨M.length, 0, none⟩) 3 3] (M ++ [⟨[.int .i64 a, .int .i64 b, .int .i64 c], 1, 2⟩]) = some (.int .i64 (orI a b c), M ++ [⟨[.int .i64 a, .int .i64 b, .int .i64 c], 1, 2⟩]) := by
  have e0 : IntKind.i64.wrap 1 = 1 := by decide
  have e1 : IntKind.i64.wrap 2 = 2 := by decide
  have e2 : IntKind.i64.wrap 3 = 3 := by decide
  unfold orI
  by_cases h : a = 0
  · by_cases h2 : b = 0
    · by_cases h3 : c = 0
      · rw [aCall_eq T_cmp_Or_int]; unfold A_cmp_Or_int C_cmp_Or_int; simp
        rw [S_cmp_Or_int_0]; unfold B_cmp_Or_int_0; simp [h, e0]
        rw [S_cmp_Or_int_0]; unfold B_cmp_Or_int_0; simp [h2, e1]
        rw [S_cmp_Or_int_0]; unfold B_cmp_Or_int_0; simp [h3, e2]
        rw [S_cmp_Or_int_0]; unfold B_cmp_Or_int_0; simp [h, h2, h3]
      · rw [aCall_eq T_cmp_Or_int]; unfold A_cmp_Or_int C_cmp_Or_int; simp
        rw [S_cmp_Or_int_0]; unfold B_cmp_Or_int_0; simp [h, e0]
        rw [S_cmp_Or_int_0]; unfold B_cmp_Or_int_0; simp [h2, e1]
        rw [S_cmp_Or_int_0]; unfold B_cmp_Or_int_0; simp [h, h2, h3, e2]
    · rw [aCall_eq T_cmp_Or_int]; unfold A_cmp_Or_int C_cmp_Or_int; simp
      rw [S_cmp_Or_int_0]; unfold B_cmp_Or_int_0; simp [h, e0]
      rw [S_cmp_Or_int_0]; unfold B_cmp_Or_int_0; simp [h, h2, e1]
  · rw [aCall_eq T_cmp_Or_int]; unfold A_cmp_Or_int C_cmp_Or_int; simp
    rw [S_cmp_Or_int_0]; unfold B_cmp_Or_int_0; simp [h, e0]
theorem c_impl_isAhead (M : Mem) (a b : ty_Rec.D) : aCall T0 F_impl_isAhead [.agg (enc_Rec a).toArray, .agg (enc_Rec b).toArray] M = some (.bool (aheadB a b), M) := by
  unfold aheadB
  obtain ⟨a1, a2, a3, a4⟩ := a
  obtain ⟨b1, b2, b3, b4⟩ := b
  have s1 := fun M => c_cmp_Compare_int M a2 b2
  have s2 := fun M => c_cmp_Compare_int M b3 a3
  have s3 := fun M => c_cmp_Compare_string M a4 b4
  cases a1
  · cases b1
    · rw [aCall_eq T_impl_isAhead]; unfold A_impl_isAhead C_impl_isAhead; simp
    · rw [aCall_eq T_impl_isAhead]; unfold A_impl_isAhead C_impl_isAhead; simp
  · cases b1
    · rw [aCall_eq T_impl_isAhead]; unfold A_impl_isAhead C_impl_isAhead; simp
    · simp only [and_self, if_true]
      have s4 := c_cmp_Or_int (M ++ [⟨enc_Rec (true, a2, a3, a4), 1, 2⟩, ⟨enc_Rec (true, b2, b3, b4), 1, 2⟩]) (cmpI a2 b2) (cmpI b3 a3) (cmpW a4 b4)
      generalize cmpI a2 b2 = x1 at s1 s4 ⊢
      generalize cmpI b3 a3 = x2 at s2 s4 ⊢
      generalize cmpW a4 b4 = x3 at s3 s4 ⊢
      simp at s4
      rw [aCall_eq T_impl_isAhead]; unfold A_impl_isAhead C_impl_isAhead; simp [s1, s2, s3, s4, zeroCells, thenD_pre]
theorem r_idx_Rec (M : Mem) (a : Option Addr) (c : Nat) (xs : List ty_Rec.D) (h : Rep (.sl ty_Rec) M [.slice a xs.length c] xs) (hn : xs.length ≤ 9223372036854775807) (f : FuncId) (cap : List V) (p : ty_Rec.D → Bool)
    (hp : ∀ i (hi : i < xs.length), aCall T0 f (.agg (enc_Rec xs[i]).toArray :: cap) M = some (.bool (p xs[i]), M)) (i : Nat) (hi : i < xs.length) (hq : p xs[i] = false) :
    lp (aCall T0) K_slices_IndexFunc_impl_Rec_impl_Rec_0 L_slices_IndexFunc_impl_Rec_impl_Rec_0 [.slice a xs.length c, .func (.func f) #[] cap.toArray, und, und, und, und, und, .int .i64 xs.length, .int .i64 i, und, und, und, und, und, und, und, und, und, und] M =
    lp (aCall T0) K_slices_IndexFunc_impl_Rec_impl_Rec_0 L_slices_IndexFunc_impl_Rec_impl_Rec_0 [.slice a xs.length c, .func (.func f) #[] cap.toArray, und, und, und, und, und, .int .i64 xs.length, .int .i64 (i + 1 : Nat), und, und, und, und, und, und, und, und, und, und] M := by
  obtain ⟨l, o, rfl, hrep, hrd, _⟩ := at_Rec h hi
  have ec := hp i hi
  have e6 : IntKind.i64.wrap ((i : Int) + 1) = i + 1 := wrap_i64 (by omega) (by omega)
  rw [S_slices_IndexFunc_impl_Rec_impl_Rec_0]; unfold B_slices_IndexFunc_impl_Rec_impl_Rec_0; simp [hrd, ec, e6, hi, hq]
theorem x_idx_Rec (M : Mem) (a : Option Addr) (c : Nat) (xs : List ty_Rec.D) (h : Rep (.sl ty_Rec) M [.slice a xs.length c] xs) (f : FuncId) (cap : List V) (p : ty_Rec.D → Bool)
    (hp : ∀ i (hi : i < xs.length), aCall T0 f (.agg (enc_Rec xs[i]).toArray :: cap) M = some (.bool (p xs[i]), M)) (i : Nat) (hi : i < xs.length) (hq : p xs[i] = true) (k : ACode) :
    thenF M [.tmp 4] (thenS (blockR 0 (lp (aCall T0) K_slices_IndexFunc_impl_Rec_impl_Rec_0 L_slices_IndexFunc_impl_Rec_impl_Rec_0 [.slice a xs.length c, .func (.func f) #[] cap.toArray, und, und, und, und, und, .int .i64 xs.length, .int .i64 i, und, und, und, und, und, und, und, und, und, und] M)) (aCall T0) k) = some (.int .i64 i, M) := by
  obtain ⟨l, o, rfl, hrep, hrd, _⟩ := at_Rec h hi
  have ec := hp i hi
  rw [S_slices_IndexFunc_impl_Rec_impl_Rec_0]; unfold B_slices_IndexFunc_impl_Rec_impl_Rec_0; simp [hrd, ec, hi, hq]
theorem c_idx_Rec (M : Mem) (v : V) (xs : List ty_Rec.D) (h : Rep (.sl ty_Rec) M [v] xs) (hn : xs.length ≤ 9223372036854775807) (f : FuncId) (cap : List V) (p : ty_Rec.D → Bool)
    (hp : ∀ i (hi : i < xs.length), aCall T0 f (.agg (enc_Rec xs[i]).toArray :: cap) M = some (.bool (p xs[i]), M)) :
    aCall T0 F_slices_IndexFunc_impl_Rec_impl_Rec [v, .func (.func f) #[] cap.toArray] M = some (.int .i64 (idx p xs), M) := by
  obtain ⟨a, c, rfl⟩ := h.slen
  rcases idx_cases p xs with ⟨ha, h1⟩ | ⟨j, hj, ha, h1, h2⟩
  · have hc := chain (g := fun i : Nat => lp (aCall T0) K_slices_IndexFunc_impl_Rec_impl_Rec_0 L_slices_IndexFunc_impl_Rec_impl_Rec_0 [.slice a xs.length c, .func (.func f) #[] cap.toArray, und, und, und, und, und, .int .i64 xs.length, .int .i64 i, und, und, und, und, und, und, und, und, und, und] M) (n := xs.length) fun i hi => r_idx_Rec M a c xs h hn f cap p hp i hi (h1 i hi)
    simp only [Int.natCast_zero, Int.ofNat_zero] at hc
    rw [ha]
    rw [aCall_eq T_slices_IndexFunc_impl_Rec_impl_Rec]; unfold A_slices_IndexFunc_impl_Rec_impl_Rec C_slices_IndexFunc_impl_Rec_impl_Rec; simp [hc]
    rw [S_slices_IndexFunc_impl_Rec_impl_Rec_0]; unfold B_slices_IndexFunc_impl_Rec_impl_Rec_0; simp
  · have hc := chain (g := fun i : Nat => lp (aCall T0) K_slices_IndexFunc_impl_Rec_impl_Rec_0 L_slices_IndexFunc_impl_Rec_impl_Rec_0 [.slice a xs.length c, .func (.func f) #[] cap.toArray, und, und, und, und, und, .int .i64 xs.length, .int .i64 i, und, und, und, und, und, und, und, und, und, und] M) (n := j) fun i hi => r_idx_Rec M a c xs h hn f cap p hp i (by omega) (h1 i (by omega) hi)
    simp only [Int.natCast_zero, Int.ofNat_zero] at hc
    rw [ha]
    rw [aCall_eq T_slices_IndexFunc_impl_Rec_impl_Rec]; unfold A_slices_IndexFunc_impl_Rec_impl_Rec C_slices_IndexFunc_impl_Rec_impl_Rec; simp [hc, x_idx_Rec M a c xs h f cap p hp j hj h2]
theorem c_any_Rec (M : Mem) (v : V) (xs : List ty_Rec.D) (h : Rep (.sl ty_Rec) M [v] xs) (hn : xs.length ≤ 9223372036854775807) (f : FuncId) (cap : List V) (p : ty_Rec.D → Bool)
    (hp : ∀ i (hi : i < xs.length), aCall T0 f (.agg (enc_Rec xs[i]).toArray :: cap) M = some (.bool (p xs[i]), M)) :
    aCall T0 F_slices_ContainsFunc_impl_Rec_impl_Rec [v, .func (.func f) #[] cap.toArray] M = some (.bool (xs.any p), M) := by
  have h1 := c_idx_Rec M v xs h hn f cap p hp
  have h2 := idx_any p xs
  rw [← h2]
  rw [aCall_eq T_slices_ContainsFunc_impl_Rec_impl_Rec]; unfold A_slices_ContainsFunc_impl_Rec_impl_Rec C_slices_ContainsFunc_impl_Rec_impl_Rec; simp [h1]
theorem rep_take {t : Ty} {M : Mem} {l o n c : Nat} {xs : List t.D} (h : Rep (.sl t) M [.slice (some ⟨l, o, none⟩) n c] xs) (k : Nat) (hk : k ≤ xs.length) (c2 : Nat) : Rep (.sl t) M [.slice (some ⟨l, o, none⟩) k c2] (xs.take k) := by
  rcases h with ⟨e, rfl⟩ | ⟨l', o', c', blk, css, e, h2, h3, h4, h5, h6, h7⟩
  · simp at e
  · simp only [List.cons.injEq, Value.slice.injEq, Option.some.injEq, Addr.mk.injEq, and_true] at e
    obtain ⟨⟨rfl, rfl⟩, rfl, rfl⟩ := e
    refine .inr ⟨l, o, c2, blk, css.take k, ?_, h2, ?_, h4, ?_, ?_, ?_⟩
    · rw [List.length_take, Nat.min_eq_left hk]
    · rcases h3 with h3 | h3 | h3
      · exact .inl h3
      · exact .inr (.inl h3)
      · exact .inr (.inr (by subst h3; simp))
    · rw [List.length_take, List.length_take, h5]
    · intro i ds x hd hx
      rw [List.getElem?_take] at hd hx
      split at hd
      · rename_i hik
        rw [if_pos hik] at hx
        exact h6 _ _ _ hd hx
      · cases hd
    · have : (css.take k).flatten <+: css.flatten := by
        conv => rhs; rw [← List.take_append_drop k css, List.flatten_append]
        exact List.prefix_append _ _
      exact this.trans h7
theorem c_impl_isTop_1 (M : Mem) (r : ty_Rec.D) (p : Nat) (w : List UInt8) (hp : rd1 M p 3 = some (strV w)) : aCall T0 F_impl_isTop_1 [.agg (enc_Rec r).toArray, .pointer (some ⟨p, 0, none⟩)] M = some (.bool (decide (r.2.2.2 = w)), M) := by
  have h2 : ∀ N, rd1 (M ++ N) p 3 = some (strV w) := fun N => rd1_old hp
  rw [aCall_eq T_impl_isTop_1]; unfold A_impl_isTop_1 C_impl_isTop_1; simp [h2]
theorem x_impl_isTop (M0 M : Mem) (hM : M0 <+: M) (a : Option Addr) (c : Nat) (xs : List ty_Rec.D) (h : Rep (.sl ty_Rec) M0 [.slice a xs.length c] xs) (hn : xs.length ≤ 1048576) (hf : ∀ x ∈ xs, x.2.2.2.length ≤ 9223372036854775807) (i : Nat) (hi : i < xs.length) (hq : okT xs i = false) (K : ACode) :
    thenF M0 [.tmp 2] (thenS (blockR 0 (lp (aCall T0) K_impl_isTop_0 L_impl_isTop_0 [.slice a xs.length c, und, und, und, und, .slice a xs.length c, .int .i64 xs.length, .int .i64 i, und, und, und, und, und, und, und, und, und, und, und, und, und, und, und, und, und, und, und, und, und, und, und, und, und, und, und, und, und, und, und, und, und, und, und, und, und, und] M)) (aCall T0) K) = some (.bool false, M0) := by
  have hA : M <+: M ++ [(⟨enc_Rec xs[i], 1, 2⟩ : Blk)] := List.prefix_append _ _
  have gb := fun b => gc_boolp (hM.trans hA) b
  have h1 := h.mono (hM.trans hA)
  have h2 := h.mono hM
  obtain ⟨l, o, e1, hrep, hrd, hfs⟩ := at_Rec h1 hi
  obtain ⟨l2, o2, e2, _, hrd2, _⟩ := at_Rec h2 hi
  subst e1
  simp at e2
  obtain ⟨rfl, rfl⟩ := e2
  rw [okT_get xs i hi] at hq
  have s1 := c_impl_isRec (M ++ [(⟨enc_Rec xs[i], 1, 2⟩ : Blk)]) xs[i] (hf _ (List.getElem_mem hi))
  cases k1 : recB xs[i] with
  | false =>
    rw [k1] at s1
    rw [S_impl_isTop_0]; unfold B_impl_isTop_0; simp [hi, hrd2, s1, gb]
  | true =>
  rw [k1] at s1
  by_cases k2 : (xs[i].2.1 : Int) ≤ 3
  rotate_left
  · have k2' : 3 < (xs[i].2.1 : Int) := Int.not_le.1 k2
    rw [S_impl_isTop_0]; unfold B_impl_isTop_0; simp [hi, hrd2, s1, k2', gb]
  have k2' : ¬ 3 < (xs[i].2.1 : Int) := Int.not_lt.2 k2
  rw [k1, decide_eq_true k2] at hq
  obtain ⟨blk, hb, hbw, _⟩ := rep_blk h1
  have hbw : blk.w = 4 := hbw
  have hle : i ≤ xs.length := by omega
  have ht := rep_take h1 i (by omega) (max xs.length c)
  have ha := c_any_Rec _ _ (xs.take i) ht (by rw [List.length_take]; omega) F_impl_isTop_1 [.pointer (some ⟨M.length, 0, none⟩)] (fun p => decide (p.2.2.2 = xs[i].2.2.2)) (fun j hj => c_impl_isTop_1 _ _ M.length _ (by simp))
  by_cases h0 : i = 0
  · subst h0
    simp at hq
  · obtain ⟨l3, o3, e3, _, hrd3, _⟩ := at_Rec h1 (show i - 1 < xs.length by omega)
    simp at e3
    obtain ⟨rfl, rfl⟩ := e3
    have g0 : 0 < (i : Int) := by omega
    have g2 : 0 < i := by omega
    have g1 : IntKind.i64.wrap ((i : Int) - 1) = ((i - 1 : Nat) : Int) := by rw [wrap_i64 (by omega) (by omega)]; omega
    have hi1 : i - 1 < xs.length := by omega
    have s2 := c_impl_isAhead (M ++ [(⟨enc_Rec xs[i], 1, 2⟩ : Blk)]) xs[i] (xs[i - 1]'hi1)
    rw [decide_eq_false h0] at hq
    cases ka : aheadB xs[i] (xs[i - 1]'hi1) with
    | true =>
      rw [ka] at s2
      rw [S_impl_isTop_0]; unfold B_impl_isTop_0; simp [hi, hrd2, s1, k2', g0, g2, g1, hi1, hrd3, s2, gb]
    | false =>
      rw [ka] at s2 hq
      simp only [Bool.not_false, Bool.or_true, Bool.and_true, Bool.true_and, Bool.not_eq_false', Bool.and_eq_true] at hq
      obtain ⟨hl, hany⟩ := hq
      rw [hany] at ha
      rw [S_impl_isTop_0]; unfold B_impl_isTop_0; simp [hi, hrd2, s1, k2', g0, g2, g1, hi1, hrd3, s2]
      simp [hl, hb, hbw, hle, ha, gb]
theorem r_impl_isTop (M0 M : Mem) (hM : M0 <+: M) (a : Option Addr) (c : Nat) (xs : List ty_Rec.D) (h : Rep (.sl ty_Rec) M0 [.slice a xs.length c] xs) (hn : xs.length ≤ 1048576) (hf : ∀ x ∈ xs, x.2.2.2.length ≤ 9223372036854775807) (i : Nat) (hi : i < xs.length) (hq : okT xs i = true) :
    ∃ M', M0 <+: M' ∧ lp (aCall T0) K_impl_isTop_0 L_impl_isTop_0 [.slice a xs.length c, und, und, und, und, .slice a xs.length c, .int .i64 xs.length, .int .i64 i, und, und, und, und, und, und, und, und, und, und, und, und, und, und, und, und, und, und, und, und, und, und, und, und, und, und, und, und, und, und, und, und, und, und, und, und, und, und] M = lp (aCall T0) K_impl_isTop_0 L_impl_isTop_0 [.slice a xs.length c, und, und, und, und, .slice a xs.length c, .int .i64 xs.length, .int .i64 (i + 1 : Nat), und, und, und, und, und, und, und, und, und, und, und, und, und, und, und, und, und, und, und, und, und, und, und, und, und, und, und, und, und, und, und, und, und, und, und, und, und, und] M' := by
  have hA : M <+: M ++ [(⟨enc_Rec xs[i], 1, 2⟩ : Blk)] := List.prefix_append _ _
  refine ⟨M ++ [(⟨enc_Rec xs[i], 1, 2⟩ : Blk)], hM.trans hA, ?_⟩
  have h1 := h.mono (hM.trans hA)
  have h2 := h.mono hM
  obtain ⟨l, o, e1, hrep, hrd, hfs⟩ := at_Rec h1 hi
  obtain ⟨l2, o2, e2, _, hrd2, _⟩ := at_Rec h2 hi
  subst e1
  simp at e2
  obtain ⟨rfl, rfl⟩ := e2
  obtain ⟨k1, k2, k3, k4⟩ := okT_parts hi hq
  have e6 : IntKind.i64.wrap ((i : Int) + 1) = i + 1 := wrap_i64 (by omega) (by omega)
  have s1 := c_impl_isRec (M ++ [(⟨enc_Rec xs[i], 1, 2⟩ : Blk)]) xs[i] (hf _ (List.getElem_mem hi))
  rw [k1] at s1
  have k2' : ¬ 3 < (xs[i].2.1 : Int) := Int.not_lt.2 k2
  obtain ⟨blk, hb, hbw, _⟩ := rep_blk h1
  have hbw : blk.w = 4 := hbw
  have hle : i ≤ xs.length := by omega
  have ht := rep_take h1 i (by omega) (max xs.length c)
  have ha := c_any_Rec _ _ (xs.take i) ht (by rw [List.length_take]; omega) F_impl_isTop_1 [.pointer (some ⟨M.length, 0, none⟩)] (fun p => decide (p.2.2.2 = xs[i].2.2.2)) (fun j hj => c_impl_isTop_1 _ _ M.length _ (by simp))
  have hany : (xs[i].1 = true) → ((xs.take i).any fun p => decide (p.2.2.2 = xs[i].2.2.2)) = false := by
    intro hl
    rw [List.any_eq_false]
    intro x hx
    obtain ⟨j, hj, rfl⟩ := List.mem_take_iff_getElem.1 hx
    have := k4 hl j (by omega) (by omega)
    simp [this]
  by_cases h0 : i = 0
  · have g0 : ¬ 0 < (i : Int) := by omega
    have g1 : ¬ 0 < i := by omega
    cases hl : xs[i].1 with
    | false =>
      rw [S_impl_isTop_0]; unfold B_impl_isTop_0; simp [hi, hrd2, s1, k2', g0, g1, e6]
      simp [hl, e6]
    | true =>
      rw [hany hl] at ha
      rw [S_impl_isTop_0]; unfold B_impl_isTop_0; simp [hi, hrd2, s1, k2', g0, g1, e6]
      simp [hl, hb, hbw, hle, ha, e6]
  · obtain ⟨l3, o3, e3, _, hrd3, _⟩ := at_Rec h1 (show i - 1 < xs.length by omega)
    simp at e3
    obtain ⟨rfl, rfl⟩ := e3
    have g0 : 0 < (i : Int) := by omega
    have g2 : 0 < i := by omega
    have g1 : IntKind.i64.wrap ((i : Int) - 1) = ((i - 1 : Nat) : Int) := by rw [wrap_i64 (by omega) (by omega)]; omega
    have hi1 : i - 1 < xs.length := by omega
    have s2 := c_impl_isAhead (M ++ [(⟨enc_Rec xs[i], 1, 2⟩ : Blk)]) xs[i] (xs[i - 1]'hi1)
    rw [k3 g2] at s2
    cases hl : xs[i].1 with
    | false =>
      rw [S_impl_isTop_0]; unfold B_impl_isTop_0; simp [hi, hrd2, s1, k2', g0, g2, g1, hi1, hrd3, s2, e6]
      simp [hl, e6]
    | true =>
      rw [hany hl] at ha
      rw [S_impl_isTop_0]; unfold B_impl_isTop_0; simp [hi, hrd2, s1, k2', g0, g2, g1, hi1, hrd3, s2, e6]
      simp [hl, hb, hbw, hle, ha, e6]
theorem l_impl_isTop (M0 : Mem) (a : Option Addr) (c : Nat) (xs : List ty_Rec.D) (h : Rep (.sl ty_Rec) M0 [.slice a xs.length c] xs) (hn : xs.length ≤ 1048576) (hf : ∀ x ∈ xs, x.2.2.2.length ≤ 9223372036854775807) (n : Nat) (hnx : n ≤ xs.length) (hg : ∀ i, i < n → okT xs i = true) :
    ∀ (j i : Nat) (M : Mem), i + j = n → M0 <+: M → ∃ M', M0 <+: M' ∧ lp (aCall T0) K_impl_isTop_0 L_impl_isTop_0 [.slice a xs.length c, und, und, und, und, .slice a xs.length c, .int .i64 xs.length, .int .i64 i, und, und, und, und, und, und, und, und, und, und, und, und, und, und, und, und, und, und, und, und, und, und, und, und, und, und, und, und, und, und, und, und, und, und, und, und, und, und] M = lp (aCall T0) K_impl_isTop_0 L_impl_isTop_0 [.slice a xs.length c, und, und, und, und, .slice a xs.length c, .int .i64 xs.length, .int .i64 n, und, und, und, und, und, und, und, und, und, und, und, und, und, und, und, und, und, und, und, und, und, und, und, und, und, und, und, und, und, und, und, und, und, und, und, und, und, und] M'
  | 0, i, M, hi, hM => by
    have e : i = n := by omega
    subst e
    exact ⟨M, hM, rfl⟩
  | j + 1, i, M, hi, hM => by
    obtain ⟨M', q1, q2⟩ := r_impl_isTop M0 M hM a c xs h hn hf i (by omega) (hg i (by omega))
    rw [q2]
    exact l_impl_isTop M0 a c xs h hn hf n hnx hg j (i + 1) M' (by omega) q1
theorem c_impl_isTop (M : Mem) (v : V) (xs : List ty_Rec.D) (h : Rep (.sl ty_Rec) M [v] xs) (hn : xs.length ≤ 1048576) (hf : ∀ x ∈ xs, x.2.2.2.length ≤ 9223372036854775807) : aCall T0 F_impl_isTop [v] M = some (.bool (topB xs), M) := by
  obtain ⟨a, c, rfl⟩ := h.slen
  unfold topB
  rcases first_bad (okT xs) xs.length with hg | ⟨j, hj, h1, h2⟩
  · obtain ⟨M', q1, q2⟩ := l_impl_isTop M a c xs h hn hf xs.length (Nat.le_refl _) hg xs.length 0 M (by omega) (List.prefix_refl _)
    simp only [Int.natCast_zero, Int.ofNat_zero] at q2
    have gb := fun b => gc_boolp q1 b
    rw [range_all hg]
    by_cases h8 : xs.length = 8
    · have h8' : (xs.length : Int) = 8 := by omega
      rw [aCall_eq T_impl_isTop]; unfold A_impl_isTop C_impl_isTop; simp [q2]
      rw [S_impl_isTop_0]; unfold B_impl_isTop_0; simp [h8', h8, gb]
    · have h8' : ¬ (xs.length : Int) = 8 := by omega
      rw [aCall_eq T_impl_isTop]; unfold A_impl_isTop C_impl_isTop; simp [q2]
      rw [S_impl_isTop_0]; unfold B_impl_isTop_0; simp [h8', h8, gb]
  · obtain ⟨M', q1, q2⟩ := l_impl_isTop M a c xs h hn hf j (by omega) h1 j 0 M (by omega) (List.prefix_refl _)
    simp only [Int.natCast_zero, Int.ofNat_zero] at q2
    rw [range_not hj h2]
    have x := x_impl_isTop M M' q1 a c xs h hn hf j hj h2
    rw [aCall_eq T_impl_isTop]; unfold A_impl_isTop C_impl_isTop; simp [q2, x]
theorem c_impl_isReply_1 (M : Mem) (n : Int) : aCall T0 F_impl_isReply_1 [.int .i64 n] M = some (.bool (!markOk n), M) := by
  unfold markOk
  rw [aCall_eq T_impl_isReply_1]; unfold A_impl_isReply_1 C_impl_isReply_1; simp [c_impl_within]
set_option maxHeartbeats 4000000 in
theorem c_impl_isReply (M : Mem) (kind slots k : Int) (f : Bool) (w : Int) (v u : V) (top : List ty_Rec.D) (marks : List Int) (h : Rep (.sl ty_Rec) M [v] top) (h2 : Rep (.sl ty_Int) M [u] marks) (hn : top.length ≤ 1048576) (hn2 : marks.length ≤ 1048576) (hf : ∀ x ∈ top, x.2.2.2.length ≤ 9223372036854775807) :
    aCall T0 F_impl_isReply [.int .i64 kind, .int .i64 slots, .agg (cY k f w v u).toArray] M = some (.bool (replyB kind slots k f w top marks), M) := by
  have s1 := fun M => c_impl_isShape M kind slots
  have s2 := c_impl_isTop (M ++ [⟨cY k f w v u, 1, 2⟩]) v top (h.mono (List.prefix_append _ _)) hn hf
  have s3 := c_any_Int (M ++ [⟨cY k f w v u, 1, 2⟩]) u marks (h2.mono (List.prefix_append _ _)) (by omega) F_impl_isReply_1 [] (fun n => !markOk n) (fun i hi => c_impl_isReply_1 _ _)
  have hm : (marks.any fun n => !markOk n) = !marks.all markOk := by
    rw [List.not_all_eq_any_not]
  rw [hm] at s3
  unfold replyB marksB
  generalize topB top = T at s2
  generalize marks.all markOk = A at s3
  obtain ⟨a, c, rfl⟩ := h.slen
  obtain ⟨b, d, rfl⟩ := h2.slen
  generalize top.length = n1 at s2 s3 ⊢
  generalize marks.length = n2 at s2 s3 ⊢
  clear hm h h2 hn hn2 hf
  cases hs : shapeB kind slots with
  | false =>
    simp only [hs] at s1
    rw [aCall_eq T_impl_isReply]; unfold A_impl_isReply C_impl_isReply; simp [s1]
  | true =>
  simp only [hs] at s1
  cases hk : (decide (0 ≤ k) && decide (k ≤ 8)) with
  | false => rw [aCall_eq T_impl_isReply]; unfold A_impl_isReply C_impl_isReply; simp [s1, c_impl_within, hk]
  | true =>
  by_cases k0 : k = 0
  · subst k0
    by_cases q1 : kind = 1
    · subst q1
      cases f with
      | false =>
        cases hw : (decide (0 ≤ w) && decide (w ≤ 65535))
        · rw [aCall_eq T_impl_isReply]; unfold A_impl_isReply C_impl_isReply; simp [s1, c_impl_within, hk, hw, s2, s3]
        · rw [aCall_eq T_impl_isReply]; unfold A_impl_isReply C_impl_isReply; simp [s1, c_impl_within, hk, hw, s2, s3]
          repeat' ((first | rw [selO_some] | rw [condR_bool] | rw [selD_some]); split <;> rename_i hq <;> (have hq2 := hq) <;> (try simp at hq2) <;> (try simp [*]))
      | true =>
        cases hw : (decide (0 ≤ w) && decide (w ≤ 65535))
        · rw [aCall_eq T_impl_isReply]; unfold A_impl_isReply C_impl_isReply; simp [s1, c_impl_within, hk, hw, s2, s3]
        · rw [aCall_eq T_impl_isReply]; unfold A_impl_isReply C_impl_isReply; simp [s1, c_impl_within, hk, hw, s2, s3]
          repeat' ((first | rw [selO_some] | rw [condR_bool] | rw [selD_some]); split <;> rename_i hq <;> (have hq2 := hq) <;> (try simp at hq2) <;> (try simp [*]))
    · by_cases q2 : kind = 2
      · subst q2
        cases f with
        | true => rw [aCall_eq T_impl_isReply]; unfold A_impl_isReply C_impl_isReply; simp [s1, c_impl_within, hk, s2, s3]
        | false =>
          rw [aCall_eq T_impl_isReply]; unfold A_impl_isReply C_impl_isReply; simp [s1, c_impl_within, hk, s2, s3]
          repeat' ((first | rw [selO_some] | rw [condR_bool] | rw [selD_some]); split <;> rename_i hq <;> (have hq2 := hq) <;> (try simp at hq2) <;> (try simp [*]))
      · by_cases q6 : kind = 6
        · subst q6
          by_cases hm : (n2 : Int) = slots
          · cases f with
            | true => rw [aCall_eq T_impl_isReply]; unfold A_impl_isReply C_impl_isReply; simp [s1, c_impl_within, hk, s2, s3, hm]
            | false =>
              rw [aCall_eq T_impl_isReply]; unfold A_impl_isReply C_impl_isReply; simp [s1, c_impl_within, hk, s2, s3, hm]
              repeat' ((first | rw [selO_some] | rw [condR_bool] | rw [selD_some]); split <;> rename_i hq <;> (have hq2 := hq) <;> (try simp at hq2) <;> (try simp [*]))
          · cases f with
            | true => rw [aCall_eq T_impl_isReply]; unfold A_impl_isReply C_impl_isReply; simp [s1, c_impl_within, hk, s2, s3, hm]
            | false =>
              rw [aCall_eq T_impl_isReply]; unfold A_impl_isReply C_impl_isReply; simp [s1, c_impl_within, hk, s2, s3, hm]
              repeat' ((first | rw [selO_some] | rw [condR_bool] | rw [selD_some]); split <;> rename_i hq <;> (have hq2 := hq) <;> (try simp at hq2) <;> (try simp [*]))
        · cases f with
          | true => rw [aCall_eq T_impl_isReply]; unfold A_impl_isReply C_impl_isReply; simp [s1, c_impl_within, hk, s2, s3, q1, q2, q6]
          | false =>
            rw [aCall_eq T_impl_isReply]; unfold A_impl_isReply C_impl_isReply; simp [s1, c_impl_within, hk, s2, s3, q1, q2, q6]
            repeat' ((first | rw [selO_some] | rw [condR_bool] | rw [selD_some]); split <;> rename_i hq <;> (have hq2 := hq) <;> (try simp at hq2) <;> (try simp [*]))
  · cases f with
    | true => rw [aCall_eq T_impl_isReply]; unfold A_impl_isReply C_impl_isReply; simp [s1, c_impl_within, hk, s2, s3, k0]
    | false =>
      rw [aCall_eq T_impl_isReply]; unfold A_impl_isReply C_impl_isReply; simp [s1, c_impl_within, hk, s2, s3, k0]
      repeat' ((first | rw [selO_some] | rw [condR_bool] | rw [selD_some]); split <;> rename_i hq <;> (have hq2 := hq) <;> (try simp at hq2) <;> (try simp [*]))
theorem c_impl_ReplyOk (M : Mem) (kind slots k : Int) (f : Bool) (w : Int) (v u : V) (top : List ty_Rec.D) (marks : List Int) (h : Rep (.sl ty_Rec) M [v] top) (h2 : Rep (.sl ty_Int) M [u] marks) (hn : top.length ≤ 1048576) (hn2 : marks.length ≤ 1048576) (hf : ∀ x ∈ top, x.2.2.2.length ≤ 9223372036854775807) :
    aCall T0 F_impl_ReplyOk [.int .i64 kind, .int .i64 slots, .agg (cY k f w v u).toArray] M = some (.bool (replyB kind slots k f w top marks), M) := by
  have e := c_impl_isReply (M ++ [(⟨cY k f w v u, 1, 2⟩ : Blk)]) kind slots k f w v u top marks (h.mono (List.prefix_append _ _)) (h2.mono (List.prefix_append _ _)) hn hn2 hf
  obtain ⟨_, _, rfl⟩ := h.slen
  obtain ⟨_, _, rfl⟩ := h2.slen
  rw [aCall_eq T_impl_ReplyOk]; unfold A_impl_ReplyOk C_impl_ReplyOk; simp [e]
theorem c_laws_FnExactReplyOk (M : Mem) (kind slots k : Int) (f : Bool) (w : Int) (v u : V) (top : List ty_Rec.D) (marks : List Int) (h : Rep (.sl ty_Rec) M [v] top) (h2 : Rep (.sl ty_Int) M [u] marks) (hx : top.length ≤ 9223372036854775807) (hx2 : marks.length ≤ 9223372036854775807) (hf : ∀ x ∈ top, x.2.2.2.length ≤ 9223372036854775807) :
    ∃ M', aCall T0 F_laws_FnExactReplyOk [.int .i64 kind, .int .i64 slots, .agg (cY k f w v u).toArray] M = some (.bool true, M') := by
  have h0 : Rep (.sl ty_Rec) (M ++ [(⟨cY k f w v u, 1, 2⟩ : Blk)]) [v] top := h.mono (List.prefix_append _ _)
  have h20 : Rep (.sl ty_Int) (M ++ [(⟨cY k f w v u, 1, 2⟩ : Blk)]) [u] marks := h2.mono (List.prefix_append _ _)
  obtain ⟨l, e1, e2⟩ := c_laws_szReply _ k f w v u top marks h0 h20 1048576 (by omega) (by omega) hx hx2 hf
  refine ⟨M, ?_⟩
  by_cases hl : l < 0
  · obtain ⟨_, _, rfl⟩ := h.slen
    obtain ⟨_, _, rfl⟩ := h2.slen
    rw [aCall_eq T_laws_FnExactReplyOk]; unfold A_laws_FnExactReplyOk C_laws_FnExactReplyOk; simp [e1, hl]
  have hn : top.length ≤ 1048576 := by have := (e2 (by omega)).1; omega
  have hn2 : marks.length ≤ 1048576 := by have := (e2 (by omega)).2; omega
  have hb : (M ++ [(⟨cY k f w v u, 1, 2⟩ : Blk)])[M.length]? = some ⟨cY k f w v u, 1, 2⟩ := by simp
  obtain ⟨M1, v1, u1, p1, t1, r1, r1'⟩ := c_laws_toReply _ k f w v u top marks h0 h20 hn hn2
  have q1 := c_spec_ReplyOk M1 kind slots k f w v1 u1 top marks r1 r1' hn hn2 hf
  obtain ⟨M2, v2, u2, p2, t2, r2, r2'⟩ := c_laws_toReply M1 k f w v u top marks (h0.mono p1) (h20.mono p1) hn hn2
  have q2 := c_impl_ReplyOk (M2 ++ [(⟨cY k f w v2 u2, 1, 2⟩ : Blk)]) kind slots k f w v2 u2 top marks (r2.mono (List.prefix_append _ _)) (r2'.mono (List.prefix_append _ _)) hn hn2 hf
  have p3' := (p1.trans p2).trans (List.prefix_append M2 [(⟨cY k f w v2 u2, 1, 2⟩ : Blk)])
  obtain ⟨M3, v3, u3, p3, t3, r3, r3'⟩ := c_laws_toReply (M2 ++ [(⟨cY k f w v2 u2, 1, 2⟩ : Blk)]) k f w v u top marks (h0.mono p3') (h20.mono p3') hn hn2
  have q3 := c_laws_eqReply M3 k f w v2 u2 v3 u3 top marks (r2.mono ((List.prefix_append _ _).trans p3)) (r2'.mono ((List.prefix_append _ _).trans p3)) r3 r3' hx hx2
  have w1 := rd_reply (get_pre p1 hb)
  have w2 := rd_reply (get_pre p3' hb)
  have gb := fun b => gc_boolp (((List.prefix_append M [(⟨cY k f w v u, 1, 2⟩ : Blk)]).trans p3').trans p3) b
  generalize replyB kind slots k f w top marks = B at q1 q2
  obtain ⟨_, _, rfl⟩ := h.slen
  obtain ⟨_, _, rfl⟩ := h2.slen
  obtain ⟨_, _, rfl⟩ := r1.slen
  obtain ⟨_, _, rfl⟩ := r1'.slen
  obtain ⟨_, _, rfl⟩ := r2.slen
  obtain ⟨_, _, rfl⟩ := r2'.slen
  obtain ⟨_, _, rfl⟩ := r3.slen
  obtain ⟨_, _, rfl⟩ := r3'.slen
  rw [aCall_eq T_laws_FnExactReplyOk]; unfold A_laws_FnExactReplyOk C_laws_FnExactReplyOk; simp [e1, hl, t1, t2, t3, q1, q2, q3, w1, w2, p1, p2, p3, thenD_pre, gb]
theorem law_laws_FnExactReplyOk (M : Mem) (avs : List V) (_ : ∀ b ∈ M, b.st ≠ 2) (h : Ins [(false, (.int .i64)), (false, (.int .i64)), (true, (.pr (.int .i64) (.pr .bool (.pr (.int .i64) (.pr (.sl (.pr .bool (.pr (.int .i64) (.pr (.int .i64) .str)))) (.sl (.int .i64)))))))] M avs) : ∃ M', aCall T0 F_laws_FnExactReplyOk avs M = some (.bool true, M') := by
  obtain ⟨v1, vs, kind, rfl, h1, f1, h⟩ := ins_cons h
  obtain ⟨v2, vs2, slots, rfl, h2, f2, h⟩ := ins_cons h
  obtain ⟨v3, vs3, x, rfl, h3, f3, h⟩ := ins_cons h
  obtain rfl := ins_nil h
  obtain ⟨h1, _⟩ := repv_one h1
  cases h1
  obtain ⟨h2, _⟩ := repv_one h2
  cases h2
  obtain ⟨cs, rfl, r⟩ := repv_agg h3
  have r : Rep ty_Reply M cs x := r
  obtain ⟨c1, c2, rfl, ⟨rfl, _⟩, ⟨c3, c4, rfl, rfl, ⟨c5, c6, rfl, ⟨rfl, _⟩, ⟨c7, c8, rfl, r7, r8⟩⟩⟩⟩ := r
  obtain ⟨_, _, _, ⟨hl1, hfit⟩, hl2, _⟩ := f3
  have l7 := r7.len
  have l8 := r8.len
  match c7, c8, l7, l8, r7, r8 with
  | [v], [u], _, _, r7, r8 => exact c_laws_FnExactReplyOk M kind slots x.1 x.2.1 x.2.2.1 v u x.2.2.2.1 x.2.2.2.2 r7 r8 hl1 hl2 (fun e he => (hfit e he).2.2.2)
end GoAm
