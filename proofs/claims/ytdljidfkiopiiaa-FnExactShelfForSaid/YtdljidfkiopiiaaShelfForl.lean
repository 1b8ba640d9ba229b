/- What the functions do that the law reaches; and the law. -/
import Derived.Test.YtdljidfkiopiiaaShelfFort
import Derived.Test.YtdljidfkiopiiaaAmArith
set_option autoImplicit false
set_option linter.unusedVariables false
set_option linter.unusedSimpArgs false
namespace GoAm
open Go
theorem c_impl_within (M : Mem) (x a b : Int) : aCall T0 F_impl_within [.int .i64 x, .int .i64 a, .int .i64 b] M = some (.bool (decide (a ≤ x) && decide (x ≤ b)), M) := by
  rw [aCall_eq T_impl_within]; unfold A_impl_within C_impl_within; simp
  repeat' ((first | rw [selO_some] | rw [condR_bool] | rw [selD_some]); split <;> rename_i hq <;> (have hq2 := hq) <;> (try simp at hq2) <;> (try simp [*]))
theorem pow2_pos (n : Nat) : (0 : Int) < 2 ^ n := Int.pow_pos (by omega)
theorem pow2_le {n m : Nat} (h : n ≤ m) : (2 : Int) ^ n ≤ 2 ^ m := by
  have := Nat.pow_le_pow_right (show 0 < 2 by omega) h
  exact_mod_cast this
theorem l_spec_l02Pow (M : Mem) : ∀ (n : Nat) (x : Int), 0 ≤ x → x * 2 ^ n ≤ 4611686018427387904 → n ≤ 1000 →
    ∃ e0 e1 e2 e4 e5 e6 e7 e8 e9 e10, lp (aCall T0) K_spec_l02Pow_0 L_spec_l02Pow_0 [.int .i64 n, und, und, .int .i64 x, und, und, und, und, und, und, und] M = some (.exit 0, [e0, e1, e2, .int .i64 (x * 2 ^ n), e4, e5, e6, e7, e8, e9, e10], M)
  | 0, x, _, _, _ => by
    rw [S_spec_l02Pow_0]; unfold B_spec_l02Pow_0; simp
  | n + 1, x, h0, h1, h2 => by
    have hp : (1 : Int) ≤ 2 ^ n := by
      have : (0 : Int) < 2 ^ n := Int.pow_pos (by omega)
      omega
    have e : x * 2 ^ (n + 1) = 2 * x * 2 ^ n := by rw [Int.pow_succ, ← Int.mul_assoc, Int.mul_right_comm, Int.mul_comm x 2]
    rw [e] at h1
    have hx : 2 * x ≤ 2 * x * 2 ^ n := by
      have := Int.mul_le_mul_of_nonneg_left hp (show (0 : Int) ≤ 2 * x by omega)
      simpa using this
    have ih := l_spec_l02Pow M n (2 * x) (by omega) h1 (by omega)
    rw [e]
    rw [S_spec_l02Pow_0]; unfold B_spec_l02Pow_0; simp
    rw [wrap_i64 (z := 2 * x) (by omega) (by omega), wrap_i64 (z := n) (by omega) (by omega)]
    exact ih
theorem c_spec_l02Pow (M : Mem) (n : Nat) (h : n ≤ 60) : aCall T0 F_spec_l02Pow [.int .i64 n] M = some (.int .i64 (2 ^ n), M) := by
  obtain ⟨e0, e1, e2, e4, e5, e6, e7, e8, e9, e10, ih⟩ := l_spec_l02Pow M n 1 (by omega) (by
    have : (2 : Int) ^ n ≤ 2 ^ 60 := pow2_le h
    omega) (by omega)
  rw [aCall_eq T_spec_l02Pow]; unfold A_spec_l02Pow C_spec_l02Pow; simp [ih]
def okByte (b : UInt8) : Bool := decide (97 ≤ (b.toNat : Int)) && decide ((b.toNat : Int) ≤ 122)
def wordB (w : List UInt8) : Bool := w.all okByte && (decide (1 ≤ (w.length : Int)) && decide ((w.length : Int) ≤ 32))
theorem wordB_len {w : List UInt8} (h : wordB w = true) : 1 ≤ w.length ∧ w.length ≤ 32 := by
  simp [wordB] at h; omega
theorem all_false {w : List UInt8} {j : Nat} (hj : j < w.length) (h : okByte w[j] = false) : w.all okByte = false := by
  rw [List.all_eq_false]
  exact ⟨w[j], List.getElem_mem hj, by simp [h]⟩
theorem all_true {w : List UInt8} (h : ∀ i (hi : i < w.length), okByte w[i] = true) : w.all okByte = true := by
  rw [List.all_eq_true]
  intro b hb
  obtain ⟨i, hi, rfl⟩ := List.getElem_of_mem hb
  exact h i hi
theorem okByte_t {b : UInt8} (h : okByte b = true) : ¬ ((b.toNat : Int) < 97) ∧ ¬ (122 < (b.toNat : Int)) := by
  simp only [okByte, Bool.and_eq_true, decide_eq_true_eq] at h; omega
theorem okByte_f {b : UInt8} (h : okByte b = false) : (b.toNat : Int) < 97 ∨ (¬ ((b.toNat : Int) < 97) ∧ (122 < (b.toNat : Int))) := by
  simp only [okByte, Bool.and_eq_false_iff, decide_eq_false_iff_not] at h; omega
theorem first_byte (w : List UInt8) : w.all okByte = true ∨ (w.all okByte = false ∧ ∃ j, ∃ hj : j < w.length, (∀ i (hi : i < w.length), i < j → okByte w[i] = true) ∧ okByte w[j] = false) := by
  rcases first_bad (fun i => (w[i]?).any okByte) w.length with h | ⟨j, h1, h2, h3⟩
  · left; exact all_true fun i hi => by have := h i hi; simpa [hi] using this
  · right
    have h3' : okByte w[j] = false := by simpa [h1] using h3
    exact ⟨all_false h1 h3', j, h1, fun i hi hij => by have := h2 i hij; simpa [hi] using this, h3'⟩
theorem r_impl_isWord (M : Mem) (w : List UInt8) (hw : w.length ≤ 9223372036854775807) (i : Nat) (hi : i < w.length) (hb : okByte w[i] = true) :
    lp (aCall T0) K_impl_isWord_0 L_impl_isWord_0 [strV w, und, und, und, und, .int .i64 w.length, .int .i64 i, und, und, und, und, und, und, und, und, und, und, und, und, und, und, und, und] M = lp (aCall T0) K_impl_isWord_0 L_impl_isWord_0 [strV w, und, und, und, und, .int .i64 w.length, .int .i64 (i + 1 : Nat), und, und, und, und, und, und, und, und, und, und, und, und, und, und, und, und] M := by
  obtain ⟨h1, h2⟩ := okByte_t hb
  rw [S_impl_isWord_0]; unfold B_impl_isWord_0; simp [hi, byteV, h1, h2]
  rw [wrap_i64 (by omega) (by omega)]
theorem x_impl_isWord (M : Mem) (w : List UInt8) (hw : w.length ≤ 9223372036854775807) (i : Nat) (hi : i < w.length) (hb : okByte w[i] = false) (k : ACode) :
    thenF M [.tmp 2] (thenS (blockR 0 (lp (aCall T0) K_impl_isWord_0 L_impl_isWord_0 [strV w, und, und, und, und, .int .i64 w.length, .int .i64 i, und, und, und, und, und, und, und, und, und, und, und, und, und, und, und, und] M)) (aCall T0) k) = some (.bool false, M) := by
  rcases okByte_f hb with h1 | ⟨h1, h2⟩
  · rw [S_impl_isWord_0]; unfold B_impl_isWord_0; simp [hi, byteV, h1]
  · rw [S_impl_isWord_0]; unfold B_impl_isWord_0; simp [hi, byteV, h1, h2]
theorem c_impl_isWord (M : Mem) (w : List UInt8) (hw : w.length ≤ 9223372036854775807) : aCall T0 F_impl_isWord [strV w] M = some (.bool (wordB w), M) := by
  unfold wordB
  rcases first_byte w with ha | ⟨ha, j, hj, h1, h2⟩
  · have hl := chain (g := fun i : Nat => lp (aCall T0) K_impl_isWord_0 L_impl_isWord_0 [strV w, und, und, und, und, .int .i64 w.length, .int .i64 i, und, und, und, und, und, und, und, und, und, und, und, und, und, und, und, und] M) (n := w.length) fun i hi => r_impl_isWord M w hw i hi (List.all_eq_true.1 ha _ (List.getElem_mem hi))
    simp only [Int.natCast_zero, Int.ofNat_zero] at hl
    rw [ha]
    rw [aCall_eq T_impl_isWord]; unfold A_impl_isWord C_impl_isWord; simp [hl]
    rw [S_impl_isWord_0]; unfold B_impl_isWord_0; simp [c_impl_within]
  · have hl := chain (g := fun i : Nat => lp (aCall T0) K_impl_isWord_0 L_impl_isWord_0 [strV w, und, und, und, und, .int .i64 w.length, .int .i64 i, und, und, und, und, und, und, und, und, und, und, und, und, und, und, und, und] M) (n := j) fun i hi => r_impl_isWord M w hw i (by omega) (h1 i (by omega) hi)
    simp only [Int.natCast_zero, Int.ofNat_zero] at hl
    rw [ha]
    rw [aCall_eq T_impl_isWord]; unfold A_impl_isWord C_impl_isWord; simp [hl, x_impl_isWord M w hw j hj h2]
theorem r_spec_WordOk (M : Mem) (w : List UInt8) (hw : w.length ≤ 9223372036854775807) (i : Nat) (hi : i < w.length) (hb : okByte w[i] = true) :
    lp (aCall T0) K_spec_WordOk_0 L_spec_WordOk_0 [strV w, und, und, .int .i64 i, und, und, und, und, und, und, und, und, und, und, und, und, und, und, und, und, und, und, und, und, und, und, und, und] M = lp (aCall T0) K_spec_WordOk_0 L_spec_WordOk_0 [strV w, und, und, .int .i64 (i + 1 : Nat), und, und, und, und, und, und, und, und, und, und, und, und, und, und, und, und, und, und, und, und, und, und, und, und] M := by
  obtain ⟨h1, h2⟩ := okByte_t hb
  rw [S_spec_WordOk_0]; unfold B_spec_WordOk_0; simp [hi, byteV, h1, h2]
  rw [wrap_i64 (by omega) (by omega)]
theorem x_spec_WordOk (M : Mem) (w : List UInt8) (hw : w.length ≤ 9223372036854775807) (i : Nat) (hi : i < w.length) (hb : okByte w[i] = false) (k : ACode) :
    thenF M [.tmp 2] (thenS (blockR 0 (lp (aCall T0) K_spec_WordOk_0 L_spec_WordOk_0 [strV w, und, und, .int .i64 i, und, und, und, und, und, und, und, und, und, und, und, und, und, und, und, und, und, und, und, und, und, und, und, und] M)) (aCall T0) k) = some (.bool false, M) := by
  rcases okByte_f hb with h1 | ⟨h1, h2⟩
  · rw [S_spec_WordOk_0]; unfold B_spec_WordOk_0; simp [hi, byteV, h1]
  · rw [S_spec_WordOk_0]; unfold B_spec_WordOk_0; simp [hi, byteV, h1, h2]
theorem c_spec_WordOk (M : Mem) (w : List UInt8) (hw : w.length ≤ 9223372036854775807) : aCall T0 F_spec_WordOk [strV w] M = some (.bool (wordB w), M) := by
  unfold wordB
  by_cases hl1 : (w.length : Int) < 1
  · have : w = [] := List.length_eq_zero_iff.1 (by omega)
    subst this
    rw [aCall_eq T_spec_WordOk]; unfold A_spec_WordOk C_spec_WordOk; simp
  by_cases hl2 : 32 < (w.length : Int)
  · rw [aCall_eq T_spec_WordOk]; unfold A_spec_WordOk C_spec_WordOk; simp [hl1, hl2]
  have e : (decide (1 ≤ (w.length : Int)) && decide ((w.length : Int) ≤ 32)) = true := by simp; omega
  rw [e, Bool.and_true]
  rcases first_byte w with ha | ⟨ha, j, hj, h1, h2⟩
  · have hl := chain (g := fun i : Nat => lp (aCall T0) K_spec_WordOk_0 L_spec_WordOk_0 [strV w, und, und, .int .i64 i, und, und, und, und, und, und, und, und, und, und, und, und, und, und, und, und, und, und, und, und, und, und, und, und] M) (n := w.length) fun i hi => r_spec_WordOk M w hw i hi (List.all_eq_true.1 ha _ (List.getElem_mem hi))
    simp only [Int.natCast_zero, Int.ofNat_zero] at hl
    rw [ha]
    rw [aCall_eq T_spec_WordOk]; unfold A_spec_WordOk C_spec_WordOk; simp [hl, hl1, hl2]
    rw [S_spec_WordOk_0]; unfold B_spec_WordOk_0; simp
  · have hl := chain (g := fun i : Nat => lp (aCall T0) K_spec_WordOk_0 L_spec_WordOk_0 [strV w, und, und, .int .i64 i, und, und, und, und, und, und, und, und, und, und, und, und, und, und, und, und, und, und, und, und, und, und, und, und] M) (n := j) fun i hi => r_spec_WordOk M w hw i (by omega) (h1 i (by omega) hi)
    simp only [Int.natCast_zero, Int.ofNat_zero] at hl
    rw [ha]
    rw [aCall_eq T_spec_WordOk]; unfold A_spec_WordOk C_spec_WordOk; simp [hl, hl1, hl2, x_spec_WordOk M w hw j hj h2]
def padL (w : List UInt8) : List UInt8 := if wordB w = true then UInt8.ofNat w.length :: (w ++ List.replicate (32 - w.length) 0) else List.replicate 33 0
theorem padL_len (w : List UInt8) : (padL w).length = 33 := by
  unfold padL
  split
  · rename_i h; have := wordB_len h; simp; omega
  · simp
abbrev padB (w : List UInt8) : Blk := ⟨(padL w).map byteV, 1, 2⟩
theorem padL_f {w : List UInt8} (h : wordB w = false) : (padL w).map byteV = zc (.int .u8 0) 33 := by
  unfold padL
  rw [h]
  simp only [Bool.false_eq_true, if_false]
  exact map_byte_rep 33
theorem padL_t {w : List UInt8} (h : wordB w = true) : (padL w).map byteV = .int .u8 w.length :: (w.map byteV ++ zc (.int .u8 0) (32 - w.length)) := by
  have := wordB_len h
  unfold padL
  rw [h]
  simp only [if_true]
  rw [List.map_cons, List.map_append, map_byte_rep, byteV_len (by omega)]
theorem c_impl_pad (M : Mem) (w : List UInt8) (hw : w.length ≤ 9223372036854775807) : aCall T0 F_impl_pad [strV w] M = some (.slice (some ⟨M.length, 0, none⟩) 33 33, M ++ [padB w]) := by
  unfold padB
  cases hb : wordB w with
  | false => rw [padL_f hb]; rw [aCall_eq T_impl_pad]; unfold A_impl_pad C_impl_pad; simp [c_impl_isWord _ _ hw, hb]
  | true =>
    obtain ⟨h1, h2⟩ := wordB_len hb
    rw [padL_t hb]
    have e1 : min w.length 32 = w.length := by omega
    have e2 : w ≠ [] := by rintro rfl; simp at h1
    rw [aCall_eq T_impl_pad]; unfold A_impl_pad C_impl_pad; simp [c_impl_isWord _ _ hw, hb, e1, e2]
    (simp (disch := omega) only [wrap_i64, wrap_u64, wrap_u8, wrap_u32, if_pos, if_neg]; try simp)
def hs (h : Nat) (b : UInt8) : Nat := ((h ^^^ b.toNat) * 16777619) % 4294967296
theorem hs_lt (h : Nat) (b : UInt8) : hs h b < 4294967296 := Nat.mod_lt _ (by omega)
def hashN (key : Nat) (w : List UInt8) (n : Nat) : Nat := ((padL w).take n).foldl hs key
theorem hashN_lt {key : Nat} (hk : key < 4294967296) (w : List UInt8) : ∀ n, hashN key w n < 4294967296
  | n => by
    unfold hashN
    induction (padL w).take n generalizing key with
    | nil => exact hk
    | cons a l ih => exact ih (hs_lt _ _)
theorem hashN_succ (key : Nat) (w : List UInt8) (n : Nat) (hn : n < (padL w).length) : hashN key w (n + 1) = hs (hashN key w n) (padL w)[n] := by
  unfold hashN
  rw [List.take_succ_eq_append_getElem hn, List.foldl_append, List.foldl_cons, List.foldl_nil]
def hashV (key : Nat) (w : List UInt8) : Nat := hashN key w 33 ^^^ (hashN key w 33 / 65536)
theorem r_impl_hashWord (M : Mem) (w : List UInt8) (key : Nat) (hk : key < 4294967296) (i : Nat) (hi : i < 33) :
    lp (aCall T0) K_impl_hashWord_0 L_impl_hashWord_0 [und, und, und, und, und, .int .u32 (hashN key w i), und, und, und, und, und, .slice (some ⟨M.length, 0, none⟩) 33 33, .int .i64 33, .int .i64 i, und, und, und, und, und, und, und, und, und, und, und, und, und, und] (M ++ [padB w]) =
    lp (aCall T0) K_impl_hashWord_0 L_impl_hashWord_0 [und, und, und, und, und, .int .u32 (hashN key w (i + 1)), und, und, und, und, und, .slice (some ⟨M.length, 0, none⟩) 33 33, .int .i64 33, .int .i64 (i + 1 : Nat), und, und, und, und, und, und, und, und, und, und, und, und, und, und] (M ++ [padB w]) := by
  have hl := padL_len w
  have h0 : (padL w)[i]? = some (padL w)[i] := by simp [hl, hi]
  have hb := (padL w)[i].toNat_lt
  have hh := hashN_lt hk w i
  have e1 := xor_u32 (a := hashN key w i) (b := (padL w)[i].toNat) hh (by omega)
  have hi2 : (i : Int) < 33 := by omega
  rw [hashN_succ key w i (by omega)]
  rw [S_impl_hashWord_0]; unfold B_impl_hashWord_0; simp [hi2, h0, byteV]
  rw [wrap_u32 (z := (padL w)[i].toNat) (by omega) (by omega), xor_u32 hh (by omega), wrap_i64 (by omega) (by omega)]
  unfold hs
  rw [← wrap_u32_mod]
  simp
theorem hashN_zero (key : Nat) (w : List UInt8) : hashN key w 0 = key := rfl
theorem c_impl_hashWord (M : Mem) (w : List UInt8) (hw : w.length ≤ 9223372036854775807) (key : Nat) (hk : key < 4294967296) : aCall T0 F_impl_hashWord [.int .i64 key, strV w] M = some (.int .i64 (hashV key w), M) := by
  have hl := chain (g := fun i : Nat => lp (aCall T0) K_impl_hashWord_0 L_impl_hashWord_0 [und, und, und, und, und, .int .u32 (hashN key w i), und, und, und, und, und, .slice (some ⟨M.length, 0, none⟩) 33 33, .int .i64 33, .int .i64 i, und, und, und, und, und, und, und, und, und, und, und, und, und, und] (M ++ [padB w])) (n := 33) fun i hi => r_impl_hashWord M w key hk i hi
  simp only [Int.natCast_zero, Int.ofNat_zero, hashN_zero] at hl
  have hp := c_impl_pad M w hw
  have hh := hashN_lt hk w 33
  have hd : hashN key w 33 / 65536 < 4294967296 := by omega
  have e1 : bshr .u32 (hashN key w 33) 16 = ((hashN key w 33 / 65536 : Nat) : Int) := by
    unfold bshr
    show Int.fdiv _ 65536 = _
    rw [Int.fdiv_eq_ediv_of_nonneg _ (by omega)]
    omega
  have hx : hashV key w < 4294967296 := Nat.xor_lt_two_pow (n := 32) (by omega) (by omega)
  rw [aCall_eq T_impl_hashWord]; unfold A_impl_hashWord C_impl_hashWord; simp [hp]
  rw [wrap_u32 (by omega) (by omega), hl]
  rw [S_impl_hashWord_0]; unfold B_impl_hashWord_0; simp [e1]
  have e2 : (hashN key w 33 : Int) / 65536 = ((hashN key w 33 / 65536 : Nat) : Int) := by omega
  rw [e2, xor_u32 hh hd, wrap_i64 (by unfold hashV at hx; omega) (by unfold hashV at hx; omega)]
  rfl
def hashR (key : Int) (w : List UInt8) : Int := if (0 ≤ key ∧ key ≤ 4294967295) ∧ wordB w = true then hashV key.toNat w else -1
def padC (w : List UInt8) (i : Nat) : List V := .int .u8 w.length :: ((w.take i).map byteV ++ zc (.int .u8 0) (32 - i))
theorem padC_set (w : List UInt8) (i : Nat) (hi : i < w.length) (hw : w.length ≤ 32) : (padC w i).set (i + 1) (byteV w[i]) = padC w (i + 1) := by
  unfold padC
  rw [List.set_cons_succ, List.set_append_right _ _ (by simp; omega)]
  have e1 : i - ((w.take i).map byteV).length = 0 := by simp; omega
  have e2 : 32 - i = 32 - (i + 1) + 1 := by omega
  rw [e1, e2, zc_set, List.take_succ_eq_append_getElem hi]
  simp only [List.map_append, List.map_cons, List.map_nil, List.append_assoc, List.cons_append, List.nil_append]
theorem padC_len (w : List UInt8) (i : Nat) (hi : i ≤ w.length) (hw : w.length ≤ 32) : (padC w i).length = 33 := by
  unfold padC; simp; omega
theorem r_spec_Pad (M : Mem) (w : List UInt8) (h2 : w.length ≤ 32) (i : Nat) (hi : i < w.length) :
    lp (aCall T0) K_spec_Pad_0 L_spec_Pad_0 [strV w, und, und, .slice (some ⟨M.length, 0, none⟩) 33 33, .int .i64 i, und, und, und, und, und, und, und, und, und, und, und, und, und, und, und, und, und, und, und, und, und, und, und, und] (M ++ [⟨padC w i, 1, 2⟩]) =
    lp (aCall T0) K_spec_Pad_0 L_spec_Pad_0 [strV w, und, und, .slice (some ⟨M.length, 0, none⟩) 33 33, .int .i64 (i + 1 : Nat), und, und, und, und, und, und, und, und, und, und, und, und, und, und, und, und, und, und, und, und, und, und, und, und] (M ++ [⟨padC w (i + 1), 1, 2⟩]) := by
  have e1 : ((i : Int) + 1).toNat = i + 1 := by omega
  have e2 : (0 : Int) ≤ i + 1 := by omega
  have e3 : (i : Int) + 1 < 33 := by omega
  have e4 := padC_len w i (by omega) h2
  have e5 : i + 1 + 1 ≤ 33 := by omega
  have e6 : splice (padC w i) (i + 1) [byteV w[i]] = padC w (i + 1) := by rw [splice_one (by omega), padC_set w i hi h2]
  have e7 : IntKind.i64.wrap ((i : Int) + 1) = i + 1 := wrap_i64 (by omega) (by omega)
  unfold splice at e6
  simp at e6
  rw [S_spec_Pad_0]; unfold B_spec_Pad_0; simp [hi, e1, e2, e3, e4, e5, e6, e7]
theorem c_spec_Pad (M : Mem) (w : List UInt8) (hw : w.length ≤ 9223372036854775807) : aCall T0 F_spec_Pad [strV w] M = some (.slice (some ⟨M.length, 0, none⟩) 33 33, M ++ [padB w]) := by
  unfold padB
  cases hb : wordB w with
  | false => rw [padL_f hb]; rw [aCall_eq T_spec_Pad]; unfold A_spec_Pad C_spec_Pad; simp [c_spec_WordOk _ _ hw, hb]
  | true =>
    obtain ⟨h1, h2⟩ := wordB_len hb
    rw [padL_t hb]
    have hl := chain (g := fun i : Nat => lp (aCall T0) K_spec_Pad_0 L_spec_Pad_0 [strV w, und, und, .slice (some ⟨M.length, 0, none⟩) 33 33, .int .i64 i, und, und, und, und, und, und, und, und, und, und, und, und, und, und, und, und, und, und, und, und, und, und, und, und] (M ++ [⟨padC w i, 1, 2⟩])) (n := w.length) fun i hi => r_spec_Pad M w h2 i hi
    have e0 : padC w 0 = .int .u8 w.length :: zc (.int .u8 0) 32 := by simp [padC]
    have e1 : padC w w.length = .int .u8 w.length :: (w.map byteV ++ zc (.int .u8 0) (32 - w.length)) := by simp [padC]
    simp only [Int.natCast_zero, Int.ofNat_zero, e0, e1] at hl
    rw [aCall_eq T_spec_Pad]; unfold A_spec_Pad C_spec_Pad; simp [c_spec_WordOk _ _ hw, hb]
    rw [wrap_u8 (by omega) (by omega), hl]
    rw [S_spec_Pad_0]; unfold B_spec_Pad_0; simp
theorem hs_i64 (h : Nat) (b : UInt8) (hh : h < 4294967296) : Int.tmod (IntKind.i64.wrap (bxor .i64 h b.toNat * 16777619)) 4294967296 = hs h b := by
  have hb := b.toNat_lt
  have hx : h ^^^ b.toNat < 4294967296 := Nat.xor_lt_two_pow (n := 32) (by omega) (by omega)
  rw [xor_i64 (by omega) (by omega), wrap_i64 (by omega) (by omega), Int.tmod_eq_emod_of_nonneg (by omega)]
  unfold hs
  omega
theorem r_spec_HashWord (M : Mem) (w : List UInt8) (key : Nat) (hk : key < 4294967296) (i : Nat) (hi : i < 33) :
    lp (aCall T0) K_spec_HashWord_0 L_spec_HashWord_0 [und, und, und, und, und, .int .i64 (hashN key w i), .slice (some ⟨M.length, 0, none⟩) 33 33, .int .i64 i, und, und, und, und, und, und, und, und, und, und, und, und, und, und, und, und, und, und, und, und, und, und, und, und, und, und, und, und, und, und, und, und, und] (M ++ [padB w]) =
    lp (aCall T0) K_spec_HashWord_0 L_spec_HashWord_0 [und, und, und, und, und, .int .i64 (hashN key w (i + 1)), .slice (some ⟨M.length, 0, none⟩) 33 33, .int .i64 (i + 1 : Nat), und, und, und, und, und, und, und, und, und, und, und, und, und, und, und, und, und, und, und, und, und, und, und, und, und, und, und, und, und, und, und, und, und] (M ++ [padB w]) := by
  have hl := padL_len w
  have h0 : (padL w)[i]? = some (padL w)[i] := by simp [hl, hi]
  have hb := (padL w)[i].toNat_lt
  have hh := hashN_lt hk w i
  have hi2 : (i : Int) < 33 := by omega
  rw [hashN_succ key w i (by omega)]
  rw [S_spec_HashWord_0]; unfold B_spec_HashWord_0; simp [hi2, h0, byteV]
  rw [wrap_i64 (z := (padL w)[i].toNat) (by omega) (by omega), hs_i64 _ _ hh, wrap_i64 (by omega) (by omega)]
theorem c_spec_HashWord (M : Mem) (w : List UInt8) (hw : w.length ≤ 9223372036854775807) (key : Int) : aCall T0 F_spec_HashWord [.int .i64 key, strV w] M = some (.int .i64 (hashR key w), M) := by
  unfold hashR
  by_cases h1 : key < 0
  · rw [if_neg (by omega)]
    rw [aCall_eq T_spec_HashWord]; unfold A_spec_HashWord C_spec_HashWord; simp [h1]
  by_cases h2 : 4294967295 < key
  · rw [if_neg (by omega)]
    rw [aCall_eq T_spec_HashWord]; unfold A_spec_HashWord C_spec_HashWord; simp [h1, h2]
  obtain ⟨n, rfl⟩ : ∃ n : Nat, key = n := ⟨key.toNat, by omega⟩
  cases hb : wordB w with
  | false => rw [aCall_eq T_spec_HashWord]; unfold A_spec_HashWord C_spec_HashWord; simp [h1, h2, c_spec_WordOk _ _ hw, hb]
  | true =>
    have hk : n < 4294967296 := by omega
    have hl := chain (g := fun i : Nat => lp (aCall T0) K_spec_HashWord_0 L_spec_HashWord_0 [und, und, und, und, und, .int .i64 (hashN n w i), .slice (some ⟨M.length, 0, none⟩) 33 33, .int .i64 i, und, und, und, und, und, und, und, und, und, und, und, und, und, und, und, und, und, und, und, und, und, und, und, und, und, und, und, und, und, und, und, und, und] (M ++ [padB w])) (n := 33) fun i hi => r_spec_HashWord M w n hk i hi
    simp only [Int.natCast_zero, Int.ofNat_zero, hashN_zero] at hl
    have hp := c_spec_Pad M w hw
    have hh := hashN_lt hk w 33
    have e1 : IntKind.i64.wrap (Int.tdiv (hashN n w 33) 65536) = ((hashN n w 33 / 65536 : Nat) : Int) := by
      rw [Int.tdiv_eq_ediv_of_nonneg (by omega), wrap_i64 (by omega) (by omega)]
      omega
    have h3 : 0 ≤ (n : Int) ∧ (n : Int) ≤ 4294967295 := by omega
    rw [aCall_eq T_spec_HashWord]; unfold A_spec_HashWord C_spec_HashWord; simp [h1, h2, c_spec_WordOk _ _ hw, hb, hp, hl]
    rw [S_spec_HashWord_0]; unfold B_spec_HashWord_0; simp [e1]
    have e2 : IntKind.i64.wrap ((hashN n w 33 : Int) / 65536) = ((hashN n w 33 / 65536 : Nat) : Int) := by
      rw [wrap_i64 (by omega) (by omega)]; omega
    rw [e2, xor_i64 (by omega) (by omega), if_pos h3.2]
    rfl
theorem c_spec_l11Log (M : Mem) (x : Int) : aCall T0 F_spec_l11Log [.int .i64 x] M = some (.bool (decide (0 ≤ x) && decide (x ≤ 6)), M) := by
  rw [aCall_eq T_spec_l11Log]; unfold A_spec_l11Log C_spec_l11Log; simp
  repeat' ((first | rw [selO_some] | rw [condR_bool] | rw [selD_some]); split <;> rename_i hq <;> (have hq2 := hq) <;> (try simp at hq2) <;> (try simp [*]))
theorem c_impl_isLog (M : Mem) (x : Int) : aCall T0 F_impl_isLog [.int .i64 x] M = some (.bool (decide (0 ≤ x) && decide (x ≤ 6)), M) := by
  rw [aCall_eq T_impl_isLog]; unfold A_impl_isLog C_impl_isLog; simp [c_impl_within]
theorem hashV_lt (key : Nat) (hk : key < 4294967296) (w : List UInt8) : hashV key w < 4294967296 := by
  have := hashN_lt hk w 33
  exact Nat.xor_lt_two_pow (n := 32) (by omega) (by omega)
theorem c_impl_shelfFor (M : Mem) (w : List UInt8) (hw : w.length ≤ 9223372036854775807) (key : Nat) (hk : key < 4294967296) (n : Nat) (hn : n ≤ 6) : aCall T0 F_impl_shelfFor [.int .i64 key, strV w, .int .i64 n] M = some (.int .i64 (hashV key w % 2 ^ n : Nat), M) := by
  have hv := hashV_lt key hk w
  have hp : 2 ^ n ≤ 2 ^ 6 := Nat.pow_le_pow_right (by omega) hn
  have hq : 0 < 2 ^ n := Nat.two_pow_pos n
  have e1 : bshl .i64 1 n = ((2 ^ n : Nat) : Int) := by
    unfold bshl
    have hm : min (n : Int).toNat IntKind.i64.bits = n := by show min _ 64 = n; omega
    rw [hm, wrap_i64 (by have := pow2_pos n; omega) (by have := pow2_le hn; omega)]
    simp
  have e2 : IntKind.i64.wrap (((2 ^ n : Nat) : Int) - 1) = ((2 ^ n - 1 : Nat) : Int) := by
    rw [wrap_i64 (by omega) (by omega)]; omega
  have e3 := and_i64 (a := hashV key w) (b := 2 ^ n - 1) (by omega) (by omega)
  rw [Nat.and_two_pow_sub_one_eq_mod] at e3
  have h0 : (0 : Int) ≤ n := by omega
  simp only [Int.natCast_pow] at e1 e2 e3
  rw [aCall_eq T_impl_shelfFor]; unfold A_impl_shelfFor C_impl_shelfFor; simp [c_impl_hashWord _ w hw key hk, e1]
  simp at e1 e2 e3
  rw [e2, e3]
theorem c_impl_ShelfFor (M : Mem) (w : List UInt8) (hw : w.length ≤ 9223372036854775807) (key : Int) (l : Int) : aCall T0 F_impl_ShelfFor [.int .i64 key, strV w, .int .i64 l] M = some (.int .i64 (if ((0 ≤ key ∧ key ≤ 4294967295) ∧ wordB w = true) ∧ (0 ≤ l ∧ l ≤ 6) then (hashV key.toNat w % 2 ^ l.toNat : Nat) else -1), M) := by
  by_cases hk : 0 ≤ key ∧ key ≤ 4294967295
  · obtain ⟨n, rfl⟩ : ∃ n : Nat, key = n := ⟨key.toNat, by omega⟩
    have hk2 : (n : Int) ≤ 4294967295 := hk.2
    cases hb : wordB w with
    | false => rw [aCall_eq T_impl_ShelfFor]; unfold A_impl_ShelfFor C_impl_ShelfFor; simp [c_impl_within, hk2, c_impl_isWord _ _ hw, hb]
    | true =>
      by_cases hl : 0 ≤ l ∧ l ≤ 6
      · obtain ⟨m, rfl⟩ : ∃ n : Nat, l = n := ⟨l.toNat, by omega⟩
        have hl2 : (m : Int) ≤ 6 := hl.2
        rw [aCall_eq T_impl_ShelfFor]; unfold A_impl_ShelfFor C_impl_ShelfFor; simp [c_impl_within, hk2, c_impl_isWord _ _ hw, hb, c_impl_isLog, hl2, c_impl_shelfFor _ w hw n (by omega) m (by omega)]
      · have e : (decide (0 ≤ l) && decide (l ≤ 6)) = false := by simpa using hl
        rw [if_neg (fun h => hl h.2)]
        rw [aCall_eq T_impl_ShelfFor]; unfold A_impl_ShelfFor C_impl_ShelfFor; simp [c_impl_within, hk2, c_impl_isWord _ _ hw, hb, c_impl_isLog, e]
  · have e : (decide (0 ≤ key) && decide (key ≤ 4294967295)) = false := by simpa using hk
    rw [if_neg (fun h => hk h.1.1)]
    rw [aCall_eq T_impl_ShelfFor]; unfold A_impl_ShelfFor C_impl_ShelfFor; simp [c_impl_within, e]
theorem c_spec_ShelfFor (M : Mem) (w : List UInt8) (hw : w.length ≤ 9223372036854775807) (key : Int) (l : Int) : aCall T0 F_spec_ShelfFor [.int .i64 key, strV w, .int .i64 l] M = some (.int .i64 (if ((0 ≤ key ∧ key ≤ 4294967295) ∧ wordB w = true) ∧ (0 ≤ l ∧ l ≤ 6) then (hashV key.toNat w % 2 ^ l.toNat : Nat) else -1), M) := by
  by_cases hk : (0 ≤ key ∧ key ≤ 4294967295) ∧ wordB w = true
  · have e0 : hashR key w = (hashV key.toNat w : Int) := by unfold hashR; rw [if_pos hk]
    have e1 : ¬ (hashV key.toNat w : Int) < 0 := by omega
    by_cases hl : 0 ≤ l ∧ l ≤ 6
    · obtain ⟨m, rfl⟩ : ∃ n : Nat, l = n := ⟨l.toNat, by omega⟩
      have hl2 : (m : Int) ≤ 6 := hl.2
      have hq : (2 : Int) ^ m ≠ 0 := by have := pow2_pos m; omega
      have e2 : Int.tmod (hashV key.toNat w) (2 ^ m) = (hashV key.toNat w % 2 ^ m : Nat) := by
        rw [Int.tmod_eq_emod_of_nonneg (by omega)]; simp
      rw [if_pos ⟨hk, hl⟩]
      rw [aCall_eq T_spec_ShelfFor]; unfold A_spec_ShelfFor C_spec_ShelfFor; simp [c_spec_HashWord _ _ hw, e0, e1, c_spec_l11Log, hl2, c_spec_l02Pow _ m (by omega), hq]
      rw [e2]
      simp
    · have e : (decide (0 ≤ l) && decide (l ≤ 6)) = false := by simpa using hl
      rw [if_neg (fun h => hl h.2)]
      rw [aCall_eq T_spec_ShelfFor]; unfold A_spec_ShelfFor C_spec_ShelfFor; simp [c_spec_HashWord _ _ hw, e0, e1, c_spec_l11Log, e]
  · have e0 : hashR key w = -1 := by unfold hashR; rw [if_neg hk]
    rw [if_neg (fun h => hk h.1)]
    rw [aCall_eq T_spec_ShelfFor]; unfold A_spec_ShelfFor C_spec_ShelfFor; simp [c_spec_HashWord _ _ hw, e0]
theorem law_laws_FnExactShelfFor (M : Mem) (avs : List V) (_ : ∀ b ∈ M, b.st ≠ 2) (h : Ins [(false, (.int .i64)), (false, .str), (false, (.int .i64))] M avs) : ∃ M', aCall T0 F_laws_FnExactShelfFor avs M = some (.bool true, M') := by
  obtain ⟨v, vs, x, rfl, h1, f1, h⟩ := ins_cons h
  obtain ⟨v2, vs2, x2, rfl, h2, f2, h⟩ := ins_cons h
  obtain ⟨v3, vs3, x3, rfl, h3, f3, h⟩ := ins_cons h
  obtain rfl := ins_nil h
  obtain ⟨h1, _⟩ := repv_one h1
  have h2 := repv_one h2
  obtain ⟨h3, _⟩ := repv_one h3
  cases h1
  cases h2
  cases h3
  refine ⟨M, ?_⟩
  have e1 := fun M => c_spec_ShelfFor M x2 f2 x x3
  have e2 := fun M => c_impl_ShelfFor M x2 f2 x x3
  generalize (if ((0 ≤ (x : Int) ∧ (x : Int) ≤ 4294967295) ∧ wordB x2 = true) ∧ (0 ≤ (x3 : Int) ∧ (x3 : Int) ≤ 6) then ((hashV (x : Int).toNat x2 % 2 ^ (x3 : Int).toNat : Nat) : Int) else -1) = r at e1 e2
  rw [aCall_eq T_laws_FnExactShelfFor]; unfold A_laws_FnExactShelfFor C_laws_FnExactShelfFor; simp [e1, e2]
  ((first | rw [selO_some] | rw [condR_bool] | rw [selD_some]); split <;> rename_i hq <;> (have hq2 := hq) <;> (try simp at hq2) <;> (try simp [*, e1, e2]))
end GoAm
