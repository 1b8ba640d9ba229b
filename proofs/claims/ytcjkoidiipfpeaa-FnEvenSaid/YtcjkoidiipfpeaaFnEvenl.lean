/- What the functions do that the law reaches; and the law. -/
import Derived.Test.YtcjkoidiipfpeaaFnEvent
import Derived.Test.YtcjkoidiipfpeaaAmGr
set_option autoImplicit false
set_option linter.unusedVariables false
set_option linter.unusedSimpArgs false
namespace GoAm
open Go
def hs (h : Nat) (b : UInt8) : Nat := ((h ^^^ b.toNat) * 16777619) % 4294967296
abbrev ty_Int : Ty := .int .i64
abbrev enc_Int (x : ty_Int.D) : List V := [.int .i64 x]
theorem at_Int {M : Mem} {a : Option Addr} {n c : Nat} {xs : List ty_Int.D} (h : Rep (.sl ty_Int) M [.slice a n c] xs) {i : Nat} (hi : i < xs.length) : ∃ l o, a = some ⟨l, o, none⟩ ∧ Rep ty_Int M (enc_Int xs[i]) xs[i] ∧ rd1 M l (o + i) = some (.int .i64 xs[i]) := by
  obtain ⟨_, l, o, rfl, cs, hrd, hrep⟩ := rep_at h hi
  have hcs : cs = enc_Int xs[i] := hrep.1
  subst hcs
  have hw1 : ty_Int.w = 1 := rfl
  rw [hw1, Nat.mul_one] at hrd
  exact ⟨l, o, rfl, hrep, rd1_of_one hrd⟩
def idB (n : Int) (x : Int) : Bool := decide (-1 ≤ x) && decide (x ≤ n - 1)
def seqB (n : Int) (xs : List Int) : Bool := (decide (0 ≤ n) && decide (n ≤ 256)) && (decide ((xs.length : Int) ≤ 700) && xs.all (idB n))
def sqOk (n l : Int) (ids : List Int) : Bool := seqB n ids && (decide (0 ≤ l) && decide (l ≤ 2)) && decide (l * (n + ids.length) ≤ 12)
def sqR (n l : Int) (ids : List Int) : List Int := if sqOk n l ids = true then List.replicate (2 ^ (l.toNat * ids.length)) ((2 : Int) ^ (l.toNat * n.toNat)) else []
theorem pow2_cast (q : Nat) : ((2 : Int) ^ q) = ((2 ^ q : Nat) : Int) := by
  induction q with
  | zero => rfl
  | succ q ih => rw [Int.pow_succ, ih, Nat.pow_succ, Int.natCast_mul]; rfl
theorem c_impl_within (M : Mem) (x a b : Int) : aCall T0 F_impl_within [.int .i64 x, .int .i64 a, .int .i64 b] M = some (.bool (decide (a ≤ x) && decide (x ≤ b)), M) := by
  rw [aCall_eq T_impl_within]; unfold A_impl_within C_impl_within; simp
  repeat' ((first | rw [selO_some] | rw [condR_bool] | rw [selD_some]); split <;> rename_i hq <;> (have hq2 := hq) <;> (try simp at hq2) <;> (try simp [*]))
theorem nodup_flat {t : Ty} (hf : ∀ (M : Mem) (cs : List V) (x : t.D) (K : List Nat), Own t M cs x K → K = []) {M : Mem} {v : V} {xs : List t.D} {L : List Nat} (h : Own (.sl t) M [v] xs L) : L.Nodup := by
  rcases own_flat hf h with ⟨_, rfl, _⟩ | ⟨l, _, _, _, _, _, _, _, _, _, rfl⟩ <;> simp
theorem ownf_Int (M : Mem) (cs : List V) (x : ty_Int.D) (K : List Nat) (h : Own ty_Int M cs x K) : K = [] := h.2
theorem band_low (c : Nat) (hc : c ≤ 4096) : band .u64 (c : Int) 4294967295 = c := by
  have h : (BitVec.ofInt 64 (c : Int) &&& BitVec.ofInt 64 4294967295).toNat = c := by
    rw [BitVec.toNat_and, BitVec.toNat_ofInt, BitVec.toNat_ofInt]
    have e1 : ((c : Int) % ((2 ^ 64 : Nat) : Int)).toNat = c := by omega
    have e2 : ((4294967295 : Int) % ((2 ^ 64 : Nat) : Int)).toNat = 2 ^ 32 - 1 := by decide
    rw [e1, e2]
    exact Nat.and_two_pow_sub_one_of_lt_two_pow (by omega)
  unfold band
  show IntKind.u64.wrap ((BitVec.ofInt 64 (c : Int) &&& BitVec.ofInt 64 4294967295).toNat : Int) = c
  rw [h]
  exact wrap_u64 (by omega) (by omega)
theorem bshr_low (c : Nat) (hc : c ≤ 4096) : bshr .u64 (c : Int) 32 = 0 := by
  unfold bshr
  show (c : Int).fdiv (2 ^ (min 32 64)) = 0
  rw [Int.fdiv_eq_ediv_of_nonneg _ (by decide)]
  have : ((2 : Int) ^ (min 32 64)) = 4294967296 := by decide
  rw [this]
  omega
theorem c_math_bits_Mul64 (M : Mem) (c : Nat) (hc : c ≤ 4096) : aCall T0 F_math_bits_Mul64 [.int .u64 1, .int .u64 c] M = some (.tuple #[.int .u64 0, .int .u64 c], M) := by
  have b1 : band .u64 1 4294967295 = 1 := band_low 1 (by decide)
  have b2 := band_low c hc
  have s1 : bshr .u64 1 32 = 0 := bshr_low 1 (by decide)
  have s2 := bshr_low c hc
  have s3 : bshr .u64 0 32 = 0 := bshr_low 0 (by decide)
  have w : IntKind.u64.wrap (c : Int) = c := wrap_u64 (by omega) (by omega)
  have w0 : IntKind.u64.wrap (0 : Int) = 0 := wrap_u64 (by omega) (by omega)
  have b0 : band .u64 0 4294967295 = 0 := band_low 0 (by decide)
  rw [aCall_eq T_math_bits_Mul64]; unfold A_math_bits_Mul64 C_math_bits_Mul64; simp [thenD_pp, sliceCells_sl, sliceCells_z, sliceCells_nil, take_full, appS_sl, appK_ok, appS_none, thenD_ag, agP_nil, agP_cons, b1, b2, s1, s2, s3, w, w0, b0]
theorem c_math_bits_Mul (M : Mem) (c : Nat) (hc : c ≤ 4096) : aCall T0 F_math_bits_Mul [.int .u64 1, .int .u64 c] M = some (.tuple #[.int .u64 0, .int .u64 c], M) := by
  have h := c_math_bits_Mul64 M c hc
  rw [aCall_eq T_math_bits_Mul]; unfold A_math_bits_Mul C_math_bits_Mul; simp [thenD_pp, sliceCells_sl, sliceCells_z, sliceCells_nil, take_full, appS_sl, appK_ok, appS_none, thenD_ag, agP_nil, agP_cons, h]
/-- So many copies, the rest zero. -/
def fillZ (z : Int) (N k : Nat) : List V := List.replicate k (.int .i64 z) ++ List.replicate (N - k) (.int .i64 0)
theorem fillZ_len (z : Int) (N k : Nat) (h : k ≤ N) : (fillZ z N k).length = N := by simp [fillZ]; omega
theorem l_slices_Repeat_int_int_0 (M : Mem) (z : Int) (N l : Nat) (hl : M.length ≤ l) (hN : N ≤ 4096) : ∀ (f k : Nat) (X : Mem), N - k ≤ f → 1 ≤ k → k ≤ N → M <+: X → X[l]? = some ⟨fillZ z N k, 1, 2⟩ →
    ∃ X', M <+: X' ∧ X'[l]? = some ⟨fillZ z N N, 1, 2⟩ ∧ lp (aCall T0) K_slices_Repeat_int_int_0 L_slices_Repeat_int_int_0 [und, und, und, und, und, und, und, .slice (some ⟨l, 0, none⟩) N N, .int .i64 k, und, und, und, und, und, und, und, und, und, und, und, und, und, und, und, und, und, und, und, und, und, und, und, und, und, und, und, und, und, und, und, und, und, und, und, und, und, und, und] X = lp (aCall T0) K_slices_Repeat_int_int_0 L_slices_Repeat_int_int_0 [und, und, und, und, und, und, und, .slice (some ⟨l, 0, none⟩) N N, .int .i64 N, und, und, und, und, und, und, und, und, und, und, und, und, und, und, und, und, und, und, und, und, und, und, und, und, und, und, und, und, und, und, und, und, und, und, und, und, und, und, und] X'
  | 0, k, X, hf, h1, hk, hp, hb => by
    have : k = N := by omega
    subst this
    exact ⟨X, hp, hb, rfl⟩
  | f + 1, k, X, hf, h1, hk, hp, hb => by
    by_cases hkN : k = N
    · subst hkN
      exact ⟨X, hp, hb, rfl⟩
    have hlt : k < N := by omega
    have hki : (k : Int) < N := by omega
    obtain ⟨d, hd⟩ : ∃ d, d = min k (N - k) := ⟨_, rfl⟩
    have hdk : 1 ≤ d ∧ d ≤ k ∧ k + d ≤ N := by omega
    have hX : X.set l ⟨fillZ z N (k + d), 1, 2⟩ = X.set l ⟨fillZ z N (k + d), 1, 2⟩ := rfl
    obtain ⟨X', q1, q2, q3⟩ := l_slices_Repeat_int_int_0 M z N l hl hN f (k + d) (X.set l ⟨fillZ z N (k + d), 1, 2⟩) (by omega) (by omega) (by omega) (pf_set hl hp) (gs_of hb _)
    refine ⟨X', q1, q2, ?_⟩
    rw [← q3]
    have hkl : k ≤ N := hk
    have hlen := fillZ_len z N k hk
    have hmin : min k (N - k) = d := hd.symm
    have htake : (fillZ z N k).take d = List.replicate d (.int .i64 z) := by
      unfold fillZ
      rw [List.take_append_of_le_length (by simp; omega), List.take_replicate]
      congr 1
      omega
    have hsp : splice (fillZ z N k) k (List.replicate d (.int .i64 z)) = fillZ z N (k + d) := by
      unfold splice fillZ
      rw [List.take_left' (by simp), List.drop_append, List.drop_of_length_le (by simp), List.drop_replicate, List.nil_append, List.replicate_append_replicate]
      congr 2
      simp
      omega
    have hsc : sliceCells X 1 (.slice (some ⟨l, 0, none⟩) d 0) = some (d, List.replicate d (.int .i64 z)) := by
      show (if d * 1 = 0 then some (d, []) else Option.map (fun x => (d, x)) (rdn X l 0 (d * 1))) = _
      rw [if_neg (by omega), rdn_K, hb, rnJ_ok, if_pos (by omega), List.drop_zero, Nat.mul_one, htake]
      rfl
    have hne : List.replicate d (.int .i64 z : V) ≠ [] := fun e => by
      have := congrArg List.length e
      simp at this
      omega
    have hwr : wrn X l k (List.replicate d (.int .i64 z)) = some (X.set l ⟨fillZ z N (k + d), 1, 2⟩) := by
      rw [wrn_eq hb rfl (by simp; omega) (by simp [GoAm.one]), ← hsp]
    have w : IntKind.i64.wrap ((k : Int) + d) = ((k + d : Nat) : Int) := by rw [wrap_i64 (by omega) (by omega)]; omega
    rw [S_slices_Repeat_int_int_0]; unfold B_slices_Repeat_int_int_0; simp [thenD_pp, sliceCells_sl, sliceCells_z, sliceCells_nil, take_full, appS_sl, appK_ok, appS_none, thenD_ag, agP_nil, agP_cons, hlt, hki, hkl, hb, hmin, hsc, hne, hwr, w]
theorem c_slices_Repeat (M : Mem) (z : Int) (c : Nat) (l : Nat) (h1 : 1 ≤ c) (hc : c ≤ 4096) (hb : M[l]? = some ⟨[.int .i64 z], 1, 2⟩) :
    ∃ (p : Nat) (X : Mem), aCall T0 F_slices_Repeat_int_int [.slice (some ⟨l, 0, none⟩) 1 1, .int .i64 c] M = some (.slice (some ⟨p, 0, none⟩) c c, X) ∧ M <+: X ∧ M.length ≤ p ∧ X[p]? = some ⟨List.replicate c (.int .i64 z), 1, 2⟩ := by
  have hm := fun N : Mem => c_math_bits_Mul (M ++ N) c hc
  have hm0 := c_math_bits_Mul M c hc
  have w1 : IntKind.u64.wrap (1 : Int) = 1 := wrap_u64 (by omega) (by omega)
  have w2 : IntKind.u64.wrap (c : Int) = c := wrap_u64 (by omega) (by omega)
  have w3 : IntKind.i64.wrap (c : Int) = c := wrap_i64 (by omega) (by omega)
  have hfz : fillZ z c 1 = .int .i64 z :: List.replicate (c - 1) (.int .i64 0) := by simp [fillZ]
  have hpre := List.prefix_append M [(⟨fillZ z c 1, 1, 2⟩ : Blk)]
  obtain ⟨X', q1, q2, q3⟩ := l_slices_Repeat_int_int_0 M z c M.length (Nat.le_refl _) hc c 1 (M ++ [⟨fillZ z c 1, 1, 2⟩]) (by omega) (by omega) h1 hpre (by simp)
  have hf : fillZ z c c = List.replicate c (.int .i64 z) := by simp [fillZ]
  rw [hf] at q2
  have hn0 : ¬ ((c : Int) < 0) := by omega
  have hn1 : ¬ ((9223372036854775807 : Int) < c) := by omega
  have hsc : ∀ N : Mem, sliceCells (M ++ N) 1 (.slice (some ⟨l, 0, none⟩) 1 0) = some (1, [.int .i64 z]) := fun N => by
    show (if 1 * 1 = 0 then some (1, []) else Option.map (fun x => (1, x)) (rdn (M ++ N) l 0 (1 * 1))) = _
    rw [if_neg (by omega), rdn_K, get_pre' hb, rnJ_ok, if_pos (by simp)]
    rfl
  have c1 : (c : Int) * 8 ≤ 281474976710656 := by omega
  have c2 : (c : Int) ≤ 9223372036854775807 := by omega
  have hmin : min 1 c = 1 := by omega
  have hmin2 : min c 1 = 1 := by omega
  have hz : zc (.int .i64 0) c = .int .i64 0 :: List.replicate (c - 1) (.int .i64 0) := by
    obtain ⟨d, rfl⟩ : ∃ d, c = d + 1 := ⟨c - 1, by omega⟩
    simp [zc, List.replicate_succ]
  have hwr : wrn (M ++ [⟨zc (.int .i64 0) c, 1, 2⟩]) M.length 0 [.int .i64 z] = some (M ++ [⟨fillZ z c 1, 1, 2⟩]) := by
    rw [wrn_eq (b := ⟨zc (.int .i64 0) c, 1, 2⟩) (by simp) rfl (by rw [hz]; simp) rfl]
    simp only [splice, hz, hfz]
    simp
  simp only [Int.natCast_one] at q3
  rw [aCall_eq T_slices_Repeat_int_int]; unfold A_slices_Repeat_int_int C_slices_Repeat_int_int; simp [thenD_pp, sliceCells_sl, sliceCells_z, sliceCells_nil, take_full, appS_sl, appK_ok, appS_none, thenD_ag, agP_nil, agP_cons, hm0, w1, w2, w3, hn0, hn1, hsc, c1, c2, hmin, hmin2, hwr, q3]
  rw [S_slices_Repeat_int_int_0]; unfold B_slices_Repeat_int_int_0; simp [thenD_pp, sliceCells_sl, sliceCells_z, sliceCells_nil, take_full, appS_sl, appK_ok, appS_none, thenD_ag, agP_nil, agP_cons]
  exact ⟨_, _, ⟨rfl, rfl⟩, q1, Nat.le_refl _, q2⟩
theorem bshl_pow (q : Nat) (h : q ≤ 12) : bshl .i64 1 (q : Int) = 2 ^ q := by
  unfold bshl
  have e : min ((q : Int)).toNat IntKind.i64.bits = q := by
    show min q 64 = q
    omega
  rw [e, Int.one_mul]
  have hp : (2 : Int) ^ q ≤ 2 ^ 12 := by
    have : 2 ^ q ≤ 2 ^ 12 := Nat.pow_le_pow_right (by decide) h
    exact_mod_cast this
  have hp0 : (0 : Int) ≤ 2 ^ q := Int.pow_nonneg (by decide)
  exact wrap_i64 (by omega) (by omega)
theorem r_idx_Int (M : Mem) (a : Option Addr) (c : Nat) (xs : List ty_Int.D) (h : Rep (.sl ty_Int) M [.slice a xs.length c] xs) (hn : xs.length ≤ 9223372036854775807) (f : FuncId) (cap : List V) (p : Int → Bool)
    (hp : ∀ i (hi : i < xs.length), aCall T0 f (.int .i64 xs[i] :: cap) M = some (.bool (p xs[i]), M)) (i : Nat) (hi : i < xs.length) (hq : p xs[i] = false) :
    lp (aCall T0) K_slices_IndexFunc_int_int_0 L_slices_IndexFunc_int_int_0 [.slice a xs.length c, .func (.func f) #[] cap.toArray, und, und, und, und, und, .int .i64 xs.length, .int .i64 i, und, und, und, und, und, und, und, und, und, und] M =
    lp (aCall T0) K_slices_IndexFunc_int_int_0 L_slices_IndexFunc_int_int_0 [.slice a xs.length c, .func (.func f) #[] cap.toArray, und, und, und, und, und, .int .i64 xs.length, .int .i64 (i + 1 : Nat), und, und, und, und, und, und, und, und, und, und] M := by
  obtain ⟨l, o, rfl, hrep, hrd⟩ := at_Int h hi
  have ec := hp i hi
  have e6 : IntKind.i64.wrap ((i : Int) + 1) = i + 1 := wrap_i64 (by omega) (by omega)
  rw [S_slices_IndexFunc_int_int_0]; unfold B_slices_IndexFunc_int_int_0; simp [hrd, ec, e6, hi, hq]
theorem x_idx_Int (M : Mem) (a : Option Addr) (c : Nat) (xs : List ty_Int.D) (h : Rep (.sl ty_Int) M [.slice a xs.length c] xs) (f : FuncId) (cap : List V) (p : Int → Bool)
    (hp : ∀ i (hi : i < xs.length), aCall T0 f (.int .i64 xs[i] :: cap) M = some (.bool (p xs[i]), M)) (i : Nat) (hi : i < xs.length) (hq : p xs[i] = true) (k : ACode) :
    thenF M [.tmp 4] (thenS (blockR 0 (lp (aCall T0) K_slices_IndexFunc_int_int_0 L_slices_IndexFunc_int_int_0 [.slice a xs.length c, .func (.func f) #[] cap.toArray, und, und, und, und, und, .int .i64 xs.length, .int .i64 i, und, und, und, und, und, und, und, und, und, und] M)) (aCall T0) k) = some (.int .i64 i, M) := by
  obtain ⟨l, o, rfl, hrep, hrd⟩ := at_Int h hi
  have ec := hp i hi
  rw [S_slices_IndexFunc_int_int_0]; unfold B_slices_IndexFunc_int_int_0; simp [hrd, ec, hi, hq]
theorem c_idx_Int (M : Mem) (v : V) (xs : List ty_Int.D) (h : Rep (.sl ty_Int) M [v] xs) (hn : xs.length ≤ 9223372036854775807) (f : FuncId) (cap : List V) (p : Int → Bool)
    (hp : ∀ i (hi : i < xs.length), aCall T0 f (.int .i64 xs[i] :: cap) M = some (.bool (p xs[i]), M)) :
    aCall T0 F_slices_IndexFunc_int_int [v, .func (.func f) #[] cap.toArray] M = some (.int .i64 (idx p xs), M) := by
  obtain ⟨a, c, rfl⟩ := h.slen
  rcases idx_cases p xs with ⟨ha, h1⟩ | ⟨j, hj, ha, h1, h2⟩
  · have hc := chain (g := fun i : Nat => lp (aCall T0) K_slices_IndexFunc_int_int_0 L_slices_IndexFunc_int_int_0 [.slice a xs.length c, .func (.func f) #[] cap.toArray, und, und, und, und, und, .int .i64 xs.length, .int .i64 i, und, und, und, und, und, und, und, und, und, und] M) (n := xs.length) fun i hi => r_idx_Int M a c xs h hn f cap p hp i hi (h1 i hi)
    simp only [Int.natCast_zero, Int.ofNat_zero] at hc
    rw [ha]
    rw [aCall_eq T_slices_IndexFunc_int_int]; unfold A_slices_IndexFunc_int_int C_slices_IndexFunc_int_int; simp [hc]
    rw [S_slices_IndexFunc_int_int_0]; unfold B_slices_IndexFunc_int_int_0; simp
  · have hc := chain (g := fun i : Nat => lp (aCall T0) K_slices_IndexFunc_int_int_0 L_slices_IndexFunc_int_int_0 [.slice a xs.length c, .func (.func f) #[] cap.toArray, und, und, und, und, und, .int .i64 xs.length, .int .i64 i, und, und, und, und, und, und, und, und, und, und] M) (n := j) fun i hi => r_idx_Int M a c xs h hn f cap p hp i (by omega) (h1 i (by omega) hi)
    simp only [Int.natCast_zero, Int.ofNat_zero] at hc
    rw [ha]
    rw [aCall_eq T_slices_IndexFunc_int_int]; unfold A_slices_IndexFunc_int_int C_slices_IndexFunc_int_int; simp [hc, x_idx_Int M a c xs h f cap p hp j hj h2]
theorem c_any_Int (M : Mem) (v : V) (xs : List ty_Int.D) (h : Rep (.sl ty_Int) M [v] xs) (hn : xs.length ≤ 9223372036854775807) (f : FuncId) (cap : List V) (p : Int → Bool)
    (hp : ∀ i (hi : i < xs.length), aCall T0 f (.int .i64 xs[i] :: cap) M = some (.bool (p xs[i]), M)) :
    aCall T0 F_slices_ContainsFunc_int_int [v, .func (.func f) #[] cap.toArray] M = some (.bool (xs.any p), M) := by
  have h1 := c_idx_Int M v xs h hn f cap p hp
  have h2 := idx_any p xs
  rw [← h2]
  rw [aCall_eq T_slices_ContainsFunc_int_int]; unfold A_slices_ContainsFunc_int_int C_slices_ContainsFunc_int_int; simp [h1]
theorem c_impl_isSeq_1 (M : Mem) (x : Int) (p : Nat) (n : Int) (hn : 0 ≤ n ∧ n ≤ 256) (hp : rd1 M p 0 = some (.int .i64 n)) : aCall T0 F_impl_isSeq_1 [.int .i64 x, .pointer (some ⟨p, 0, none⟩)] M = some (.bool (!idB n x), M) := by
  have e : IntKind.i64.wrap (n - 1) = n - 1 := wrap_i64 (by omega) (by omega)
  unfold idB
  rw [aCall_eq T_impl_isSeq_1]; unfold A_impl_isSeq_1 C_impl_isSeq_1; simp [hp, c_impl_within, e]
theorem c_impl_isSeq (M : Mem) (n : Int) (v : V) (xs : List ty_Int.D) (h : Rep (.sl ty_Int) M [v] xs) (hl : xs.length ≤ 9223372036854775807) : aCall T0 F_impl_isSeq [.int .i64 n, v] M = some (.bool (seqB n xs), M) := by
  unfold seqB
  cases hb : (decide (0 ≤ n) && decide (n ≤ 256)) with
  | false => rw [aCall_eq T_impl_isSeq]; unfold A_impl_isSeq C_impl_isSeq; simp [c_impl_within, hb]
  | true =>
    have hn : 0 ≤ n ∧ n ≤ 256 := by simpa using hb
    have e : aCall T0 F_slices_ContainsFunc_int_int [v, .func (.func F_impl_isSeq_1) #[] #[.pointer (some ⟨M.length, 0, none⟩)]] (M ++ [⟨[.int .i64 n], 1, 2⟩]) = _ :=
      c_any_Int _ v xs (h.mono (List.prefix_append _ _)) hl F_impl_isSeq_1 [.pointer (some ⟨M.length, 0, none⟩)] (fun x => !idB n x) (fun i hi => c_impl_isSeq_1 _ xs[i] M.length n hn (by simp))
    obtain ⟨a, c, rfl⟩ := h.slen
    have e2 : xs.all (idB n) = !xs.any (fun x => !idB n x) := by simp [List.any_eq_not_all_not]
    rw [e2]
    by_cases h7 : (xs.length : Int) ≤ 700
    · rw [aCall_eq T_impl_isSeq]; unfold A_impl_isSeq C_impl_isSeq; simp [c_impl_within, hb, h7, e]
    · rw [aCall_eq T_impl_isSeq]; unfold A_impl_isSeq C_impl_isSeq; simp [c_impl_within, hb, h7]
theorem wf_range {z : Int} (h : -9223372036854775808 ≤ z ∧ z ≤ 9223372036854775807) : (Lit.int .i64 z).wf = true := by
  simp [Lit.wf, IntKind.min, IntKind.max, IntKind.signed, IntKind.bits]; omega
theorem seq_lt {n : Int} {xs : List Int} (h : seqB n xs = true) : 0 ≤ n ∧ n ≤ 256 ∧ xs.length ≤ 700 ∧ ∀ i (hi : i < xs.length), xs[i] < n := by
  unfold seqB at h
  simp only [Bool.and_eq_true, decide_eq_true_eq, List.all_eq_true, idB] at h
  obtain ⟨⟨h1, h2⟩, h3, h4⟩ := h
  refine ⟨h1, h2, by omega, fun i hi => ?_⟩
  have := (h4 _ (List.getElem_mem hi)).2
  omega
theorem e_impl_SeqCounts (M : Mem) (n l : Int) (v : V) (ids : List Int) (h : Rep (.sl ty_Int) M [v] ids) (hi : ids.length ≤ 1048576) :
    ∃ M' u L, M <+: M' ∧ aCall T0 F_impl_SeqCounts [.int .i64 n, .int .i64 l, v] M = some (u, M') ∧ Own (.sl ty_Int) M' [u] (sqR n l ids) L ∧ Fresh M M' L := by
  have g1 := c_impl_isSeq M n v ids h (by omega)
  have g2 := fun N : Mem => c_impl_within N l 0 2
  obtain ⟨a, c, rfl⟩ := h.slen
  have nil : ∀ M', M <+: M' → sqOk n l ids = false → ∃ L, M <+: M' ∧ Own (.sl ty_Int) M' [(.slice none 0 0 : V)] (sqR n l ids) L ∧ Fresh M M' L := fun M' hp hs => by
    unfold sqR
    rw [hs]
    exact ⟨[], hp, .inl ⟨rfl, rfl, .inl ⟨rfl, rfl⟩⟩, by simp, by simp⟩
  cases hs : seqB n ids with
  | false =>
    rw [hs] at g1
    obtain ⟨L, n1, n2, n3⟩ := nil M (List.prefix_refl _) (by unfold sqOk; rw [hs]; rfl)
    refine ⟨M, .slice none 0 0, L, n1, ?_, n2, n3⟩
    rw [aCall_eq T_impl_SeqCounts]; unfold A_impl_SeqCounts C_impl_SeqCounts; simp [thenD_pp, sliceCells_sl, sliceCells_z, sliceCells_nil, take_full, appS_sl, appK_ok, appS_none, thenD_ag, agP_nil, agP_cons, g1]
  | true =>
  rw [hs] at g1
  by_cases hw : 0 ≤ l ∧ l ≤ 2
  rotate_left
  · have hwf : (decide (0 ≤ l) && decide (l ≤ 2)) = false := by
      rw [Bool.and_eq_false_iff, decide_eq_false_iff_not, decide_eq_false_iff_not]
      omega
    simp only [hwf] at g2
    obtain ⟨L, n1, n2, n3⟩ := nil M (List.prefix_refl _) (by unfold sqOk; rw [hwf, Bool.and_false]; rfl)
    refine ⟨M, .slice none 0 0, L, n1, ?_, n2, n3⟩
    rw [aCall_eq T_impl_SeqCounts]; unfold A_impl_SeqCounts C_impl_SeqCounts; simp [thenD_pp, sliceCells_sl, sliceCells_z, sliceCells_nil, take_full, appS_sl, appK_ok, appS_none, thenD_ag, agP_nil, agP_cons, g1, g2]
  have hwt : (decide (0 ≤ l) && decide (l ≤ 2)) = true := by simp [hw.1, hw.2]
  simp only [hwt] at g2
  obtain ⟨n0, n1, hm7, _⟩ := seq_lt hs
  obtain ⟨b, rfl⟩ := Int.eq_ofNat_of_zero_le n0
  obtain ⟨q, rfl⟩ := Int.eq_ofNat_of_zero_le hw.1
  have w1 : IntKind.i64.wrap ((b : Int) + ids.length) = b + ids.length := wrap_i64 (by omega) (by omega)
  have hmul : ∀ x : Nat, (x : Int) ≤ 1000 → (q : Int) * x ≤ 2000 ∧ 0 ≤ (q : Int) * x := fun x hx => by
    have : q * x ≤ 2 * 1000 := Nat.mul_le_mul (by omega) (by omega)
    have e : ((q * x : Nat) : Int) = (q : Int) * x := Int.natCast_mul q x
    omega
  have hsum := hmul (b + ids.length) (by omega)
  have w2 : IntKind.i64.wrap ((q : Int) * ((b : Int) + ids.length)) = (q : Int) * ((b : Int) + ids.length) := wrap_i64 (by have := hsum.2; simp at this ⊢; omega) (by have := hsum.1; simp at this ⊢; omega)
  by_cases h12 : 12 < (q : Int) * ((b : Int) + ids.length)
  · obtain ⟨L, m1, m2, m3⟩ := nil M (List.prefix_refl _) (by unfold sqOk; rw [decide_eq_false (show ¬ ((q : Int) * ((b : Int) + ids.length) ≤ 12) by omega), Bool.and_false])
    refine ⟨M, .slice none 0 0, L, m1, ?_, m2, m3⟩
    rw [aCall_eq T_impl_SeqCounts]; unfold A_impl_SeqCounts C_impl_SeqCounts; simp [thenD_pp, sliceCells_sl, sliceCells_z, sliceCells_nil, take_full, appS_sl, appK_ok, appS_none, thenD_ag, agP_nil, agP_cons, g1, g2, w1, w2, h12]
  have h12n : q * (b + ids.length) ≤ 12 := by
    have e : ((q * (b + ids.length) : Nat) : Int) = (q : Int) * ((b : Int) + ids.length) := by simp
    omega
  have hqb : q * b ≤ 12 := Nat.le_trans (Nat.mul_le_mul_left q (by omega)) h12n
  have hqm : q * ids.length ≤ 12 := Nat.le_trans (Nat.mul_le_mul_left q (by omega)) h12n
  have w3 : IntKind.i64.wrap ((q : Int) * b) = (q : Int) * b := by rw [← Int.natCast_mul]; exact wrap_i64 (by omega) (by omega)
  have w4 : IntKind.i64.wrap ((q : Int) * ids.length) = (q : Int) * ids.length := by rw [← Int.natCast_mul]; exact wrap_i64 (by omega) (by omega)
  have shl : ∀ x y : Nat, x * y ≤ 12 → binS .shl (.int .i64 1) (.int .i64 ((x : Int) * y)) = some (.int .i64 (2 ^ (x * y))) := fun x y hxy => by
    rw [← Int.natCast_mul, binS_shl _ _ _ _ (by omega), bshl_pow _ hxy]
  have s1 := shl q b hqb
  have s2 := shl q ids.length hqm
  have hc : 2 ^ (q * ids.length) ≤ 4096 := Nat.pow_le_pow_right (n := 2) (by decide) hqm
  have hc1 : 1 ≤ 2 ^ (q * ids.length) := Nat.one_le_two_pow
  obtain ⟨p, X, e1, p1, hp, hb⟩ := c_slices_Repeat (M ++ [⟨[.int .i64 (2 ^ (q * b))], 1, 2⟩]) (2 ^ (q * b)) (2 ^ (q * ids.length)) M.length hc1 hc (by simp)
  have hok : sqOk b q ids = true := by
    unfold sqOk
    rw [hs, hwt, decide_eq_true (show (q : Int) * ((b : Int) + ids.length) ≤ 12 by omega)]
    rfl
  rw [← pow2_cast] at e1
  have p1' : M <+: X := (List.prefix_append _ _).trans p1
  have hp' : M.length ≤ p := by simp at hp; omega
  have hR : sqR b q ids = List.replicate (2 ^ (q * ids.length)) ((2 : Int) ^ (q * b)) := by
    unfold sqR
    rw [if_pos hok]
    rfl
  have hwf : (Lit.int .i64 ((2 : Int) ^ (q * b))).wf = true := by
    have h1 : (2 : Int) ^ (q * b) ≤ 4096 := by
      rw [pow2_cast]
      have : 2 ^ (q * b) ≤ 2 ^ 12 := Nat.pow_le_pow_right (by decide) hqb
      omega
    have h0 : (0 : Int) ≤ 2 ^ (q * b) := Int.pow_nonneg (by decide)
    exact wf_range (by omega)
  have hfl : ((List.replicate (2 ^ (q * ids.length)) ((2 : Int) ^ (q * b))).map enc_Int).flatten = List.replicate (2 ^ (q * ids.length)) (.int .i64 ((2 : Int) ^ (q * b))) := by
    rw [List.map_replicate]
    generalize 2 ^ (q * ids.length) = k
    induction k with
    | zero => rfl
    | succ k ih => rw [List.replicate_succ, List.flatten_cons, ih, List.replicate_succ]; rfl
  obtain ⟨L, o, hL⟩ := own_blk (t := ty_Int) (M := X) (l := p) (c := 2 ^ (q * ids.length)) (enc := enc_Int) (ys := List.replicate (2 ^ (q * ids.length)) ((2 : Int) ^ (q * b))) (by rw [hfl]; exact hb) (fun y hy => by rw [List.eq_of_mem_replicate hy]; exact ⟨⟨rfl, hwf⟩, rfl⟩)
  rw [List.length_replicate] at o
  refine ⟨X, .slice (some ⟨p, 0, none⟩) (2 ^ (q * ids.length)) (2 ^ (q * ids.length)), L, p1', ?_, by rw [hR]; exact o, nodup_flat ownf_Int o, fun l hl => by have := hL l hl; have := get_lt hb; omega⟩
  rw [aCall_eq T_impl_SeqCounts]; unfold A_impl_SeqCounts C_impl_SeqCounts; simp [thenD_pp, sliceCells_sl, sliceCells_z, sliceCells_nil, take_full, appS_sl, appK_ok, appS_none, thenD_ag, agP_nil, agP_cons, g1, g2, w1, w2, h12, w3, w4, s1, s2, e1, thenD_pre, p1]
theorem d_impl_SeqCounts (M : Mem) (n l : Int) (v : V) (ids : List Int) (h : Rep (.sl ty_Int) M [v] ids) (hb : Bd 1048576 (.sl ty_Int) ids) :
    ∃ M' u L, M <+: M' ∧ aCall T0 F_impl_SeqCounts [.int .i64 n, .int .i64 l, v] M = some (u, M') ∧ Own (.sl ty_Int) M' [u] (sqR n l ids) L ∧ Fresh M M' L := e_impl_SeqCounts M n l v ids h hb.1
theorem pow2_le {n m : Nat} (h : n ≤ m) : (2 : Int) ^ n ≤ 2 ^ m := by
  have := Nat.pow_le_pow_right (show 0 < 2 by omega) h
  exact_mod_cast this
theorem l_spec_l02Pow (M : Mem) : ∀ (n : Nat) (x : Int), 0 ≤ x → x * 2 ^ n ≤ 4611686018427387904 → n ≤ 1000 →
    ∃ e0 e1 e2 e4 e5 e6 e7 e8 e9 e10, lp (aCall T0) K_spec_l02Pow_0 L_spec_l02Pow_0 [.int .i64 n, und, und, .int .i64 x, und, und, und, und, und, und, und] M = some (.exit 0, [e0, e1, e2, .int .i64 (x * 2 ^ n), e4, e5, e6, e7, e8, e9, e10], M)
  | 0, x, _, _, _ => by
    rw [S_spec_l02Pow_0]; unfold B_spec_l02Pow_0; simp
  | n + 1, x, h0, h1, h2 => by
    have hp : (1 : Int) ≤ 2 ^ n := by
      have : (0 : Int) < 2 ^ n := Int.pow_pos (by omega)
      omega
    have e : x * 2 ^ (n + 1) = 2 * x * 2 ^ n := by rw [Int.pow_succ, ← Int.mul_assoc, Int.mul_right_comm, Int.mul_comm x 2]
    rw [e] at h1
    have hx : 2 * x ≤ 2 * x * 2 ^ n := by
      have := Int.mul_le_mul_of_nonneg_left hp (show (0 : Int) ≤ 2 * x by omega)
      simpa using this
    have ih := l_spec_l02Pow M n (2 * x) (by omega) h1 (by omega)
    rw [e]
    rw [S_spec_l02Pow_0]; unfold B_spec_l02Pow_0; simp
    rw [wrap_i64 (z := 2 * x) (by omega) (by omega), wrap_i64 (z := n) (by omega) (by omega)]
    exact ih
theorem c_spec_l02Pow (M : Mem) (n : Nat) (h : n ≤ 60) : aCall T0 F_spec_l02Pow [.int .i64 n] M = some (.int .i64 (2 ^ n), M) := by
  obtain ⟨e0, e1, e2, e4, e5, e6, e7, e8, e9, e10, ih⟩ := l_spec_l02Pow M n 1 (by omega) (by
    have : (2 : Int) ^ n ≤ 2 ^ 60 := pow2_le h
    omega) (by omega)
  rw [aCall_eq T_spec_l02Pow]; unfold A_spec_l02Pow C_spec_l02Pow; simp [ih]
def cn (f : Nat → Bool) : Nat → Nat
  | 0 => 0
  | k + 1 => cn f k + if f k = true then 1 else 0
/-- Digits read as a number. -/
def atF (g : Nat → Nat) (s : Nat) : Nat → Nat
  | 0 => 0
  | j + 1 => s * atF g s j + g j
/-- How many of the first K have come to each number. -/
def tallyC (F : Nat → Nat) (C K : Nat) : List V := (List.range C).map fun t => .int .i64 (cn (fun k => decide (F k = t)) K : Nat)
theorem cn_le (f : Nat → Bool) : ∀ n, cn f n ≤ n
  | 0 => Nat.le_refl _
  | n + 1 => by
    have := cn_le f n
    unfold cn
    split <;> omega
theorem atF_lt {g : Nat → Nat} {s : Nat} (hg : ∀ i, g i < s) : ∀ j, atF g s j < s ^ j
  | 0 => by simp [atF]
  | j + 1 => by
    have h1 := atF_lt hg j
    have h2 := hg j
    unfold atF
    rw [Nat.pow_succ, Nat.mul_comm (s ^ j) s]
    calc s * atF g s j + g j < s * atF g s j + s := by omega
      _ = s * (atF g s j + 1) := by rw [Nat.mul_succ]
      _ ≤ s * s ^ j := Nat.mul_le_mul_left _ h1
def digs (s k i : Nat) : List Int := (List.range i).map fun j => ((k / s ^ j % s : Nat) : Int)
theorem digs_len (s k i : Nat) : (digs s k i).length = i := by simp [digs]
theorem digs_succ (s k i : Nat) : digs s k (i + 1) = digs s k i ++ [((k / s ^ i % s : Nat) : Int)] := by simp [digs, List.range_succ]
def DgI (X : Mem) (s k i : Nat) (v : V) (Y : Mem) : Prop := ∃ L, Gr (.sl ty_Int) Y [v] (digs s k i) L ∧ L.Nodup ∧ (∀ l ∈ L, X.length ≤ l) ∧ X <+: Y
theorem natrem (x s : Nat) (hs : 0 < s) : binS .rem (.int .i64 (x : Int)) (.int .i64 (s : Int)) = some (.int .i64 ((x % s : Nat) : Int)) := by
  rw [binS_rem _ _ _ (by omega), Int.ofNat_tmod]
theorem natquo (x s : Nat) (hs : 0 < s) (hx : x ≤ 1000000) : binS .quo (.int .i64 (x : Int)) (.int .i64 (s : Int)) = some (.int .i64 ((x / s : Nat) : Int)) := by
  have h := Nat.div_le_self x s
  rw [binS_quo _ _ _ (by omega), ← Int.ofNat_tdiv]
  generalize x / s = d at h
  rw [wrap_i64 (by omega) (by omega)]
def inI (x : Int) : Prop := -9223372036854775808 ≤ x ∧ x ≤ 9223372036854775807
theorem gr_Int (M : Mem) {x : Int} (h : inI x) : Gr ty_Int M [.int .i64 x] x [] := ⟨⟨rfl, wf_range h⟩, rfl⟩
theorem l_spec_SeqCounts_1 (X : Mem) (n l idv out kv : V) (s k N b m : Nat) (a : Option Addr) (c : Nat) (hn : n = .int .i64 b) (hid : idv = .slice a m c) (hN : N = b + m) (hs : 0 < s) (hs4 : s ≤ 4) (hk : k ≤ 4096) (hb : b ≤ 256) (hm : m ≤ 700) :
    ∀ i, i ≤ N → ∃ v Y, DgI X s k i v Y ∧ lp (aCall T0) K_spec_SeqCounts_1 L_spec_SeqCounts_1 [n, l, idv, und, und, und, und, .int .i64 (s : Int), out, kv, .slice (some ⟨X.length, 0, none⟩) 0 0, .int .i64 (k : Int), und, und, und, und, und, und, und, und, und, und, und, und, und, und, und, und, und, und, und, und, und, und, und, und, und, und, und, und, und, und, und, und, und, und, und, und, und, und, und, und, und, und, und, und, und, und, und, und, und, und, und, und, und, und, und, und, und, und, und, und, und, und, und, und, und, und, und, und, und, und, und, und, und, und, und, und, und, und, und, und, und, und, und, und, und, und, und, und, und, und, und] (X ++ [⟨[], 1, 2⟩]) = lp (aCall T0) K_spec_SeqCounts_1 L_spec_SeqCounts_1 [n, l, idv, und, und, und, und, .int .i64 (s : Int), out, kv, v, .int .i64 ((k / s ^ i : Nat) : Int), und, und, und, und, und, und, und, und, und, und, und, und, und, und, und, und, und, und, und, und, und, und, und, und, und, und, und, und, und, und, und, und, und, und, und, und, und, und, und, und, und, und, und, und, und, und, und, und, und, und, und, und, und, und, und, und, und, und, und, und, und, und, und, und, und, und, und, und, und, und, und, und, und, und, und, und, und, und, und, und, und, und, und, und, und, und, und, und, und, und, und] Y
  | 0, _ => by
    refine ⟨.slice (some ⟨X.length, 0, none⟩) 0 0, X ++ [⟨[], 1, 2⟩], ⟨[X.length], .inr ⟨X.length, [], [], rfl, by simp [Ty.w], rfl, rfl, fun i ds x K hd => by simp at hd, by simp⟩, by simp, by simp, List.prefix_append _ _⟩, ?_⟩
    simp
  | i + 1, hi => by
    obtain ⟨v, Y, ⟨L, g, nd, hf, hp⟩, e⟩ := l_spec_SeqCounts_1 X n l idv out kv s k N b m a c hn hid hN hs hs4 hk hb hm i (by omega)
    have hl := digs_len s k i
    obtain ⟨av, rfl⟩ := g.shape
    rw [hl] at g e
    have hds := digs_succ s k i
    have hdd : k / s ^ (i + 1) = k / s ^ i / s := by rw [Nat.div_div_eq_div_mul, ← Nat.pow_succ]
    rw [hdd]
    have hdl : k / s ^ i ≤ k := Nat.div_le_self _ _
    generalize k / s ^ i = x at hds hdl e ⊢
    have hml : x % s < s := Nat.mod_lt _ hs
    have hr := natrem x s hs
    have hq := natquo x s hs (by omega)
    generalize x % s = r at hds hml hr
    generalize x / s = y at hq ⊢
    have hpY := List.prefix_append Y [(⟨[.int .i64 (r : Int)], 1, 2⟩ : Blk)]
    obtain ⟨l3, X3, L', hy, g3, ag3, len3, hw3, nd3, sub3, hl3⟩ := g.app (bytes := 8) (x := appS (Y ++ [(⟨[.int .i64 (r : Int)], 1, 2⟩ : Blk)]) 1 8 (.slice av i i) 1 [.int .i64 (r : Int)]) rfl hpY (gr_Int _ (x := (r : Int)) (by unfold inI; omega)) (by simp) nd (by simp) (by rw [hl]; omega) (by rw [hl]; omega)
    rw [hl] at hy g3
    rw [← hds] at g3
    have hYl := hp.length_le
    refine ⟨_, X3, ⟨L', g3, nd3, fun j hj => ?_, ag3.pre (hp.trans hpY) (fun j hj => hf j (hw3 j hj))⟩, ?_⟩
    · rcases sub3 j hj with h | h | h
      · exact hf j h
      · simp at h
      · simp at hl3; omega
    · rw [e]
      subst hn hid
      have w1 : IntKind.i64.wrap ((b : Int) + m) = b + m := wrap_i64 (by omega) (by omega)
      have hlt : (i : Int) < (b : Int) + m := by omega
      rw [S_spec_SeqCounts_1]; unfold B_spec_SeqCounts_1; simp [thenD_pp, sliceCells_sl, sliceCells_z, sliceCells_nil, take_full, appS_sl, appK_ok, appS_none, thenD_ag, agP_nil, agP_cons, w1, hlt, hr, hq, hy]
theorem l_spec_SeqCounts_2 (Y : Mem) (n l idv out kv : V) (v : V) (xs : List Int) (h : Rep (.sl ty_Int) Y [v] xs) (g : Nat → Nat) (s : Nat) (hx : ∀ i (hi : i < xs.length), xs[i] = (g i : Int)) (hg : ∀ i, g i < s) (hs4 : s ≤ 4) (hb : s ^ xs.length ≤ 4096) (hm : xs.length ≤ 700) :
    lp (aCall T0) K_spec_SeqCounts_2 L_spec_SeqCounts_2 [n, l, idv, und, und, und, und, .int .i64 (s : Int), out, kv, und, und, v, und, .int .i64 0, .int .i64 0, und, und, und, und, und, und, und, und, und, und, und, und, und, und, und, und, und, und, und, und, und, und, und, und, und, und, und, und, und, und, und, und, und, und, und, und, und, und, und, und, und, und, und, und, und, und, und, und, und, und, und, und, und, und, und, und, und, und, und, und, und, und, und, und, und, und, und, und, und, und, und, und, und, und, und, und, und, und, und, und, und, und, und, und, und, und, und] Y = lp (aCall T0) K_spec_SeqCounts_2 L_spec_SeqCounts_2 [n, l, idv, und, und, und, und, .int .i64 (s : Int), out, kv, und, und, v, und, .int .i64 (atF g s xs.length : Nat), .int .i64 xs.length, und, und, und, und, und, und, und, und, und, und, und, und, und, und, und, und, und, und, und, und, und, und, und, und, und, und, und, und, und, und, und, und, und, und, und, und, und, und, und, und, und, und, und, und, und, und, und, und, und, und, und, und, und, und, und, und, und, und, und, und, und, und, und, und, und, und, und, und, und, und, und, und, und, und, und, und, und, und, und, und, und, und, und, und, und, und, und] Y := by
  obtain ⟨a, c, rfl⟩ := h.slen
  have hs : 0 < s := by have := hg 0; omega
  have hl := chain (g := fun i => lp (aCall T0) K_spec_SeqCounts_2 L_spec_SeqCounts_2 [n, l, idv, und, und, und, und, .int .i64 (s : Int), out, kv, und, und, .slice a xs.length c, und, .int .i64 (atF g s i : Nat), .int .i64 i, und, und, und, und, und, und, und, und, und, und, und, und, und, und, und, und, und, und, und, und, und, und, und, und, und, und, und, und, und, und, und, und, und, und, und, und, und, und, und, und, und, und, und, und, und, und, und, und, und, und, und, und, und, und, und, und, und, und, und, und, und, und, und, und, und, und, und, und, und, und, und, und, und, und, und, und, und, und, und, und, und, und, und, und, und, und, und] Y) (n := xs.length) fun i hi => by
    have e6 : IntKind.i64.wrap ((i : Int) + 1) = i + 1 := wrap_i64 (by omega) (by omega)
    obtain ⟨l1, o1, rfl, _, q⟩ := at_Int h hi
    rw [hx i hi] at q
    have hA := atF_lt hg i
    have hA2 : s ^ i ≤ 4096 := Nat.le_trans (Nat.pow_le_pow_right hs (by omega)) hb
    have hgi := hg i
    have hmul : s * atF g s i ≤ 4 * 4096 := Nat.mul_le_mul hs4 (by omega)
    have es : atF g s (i + 1) = s * atF g s i + g i := rfl
    rw [es]
    generalize atF g s i = A at hA hmul ⊢
    have hc1 : ((s * A : Nat) : Int) = (s : Int) * A := Int.natCast_mul s A
    have w1 : IntKind.i64.wrap ((s : Int) * A) = (s : Int) * A := by rw [← hc1]; exact wrap_i64 (by omega) (by omega)
    have w2 : IntKind.i64.wrap ((s : Int) * A + (g i : Int)) = (s : Int) * A + g i := by rw [← hc1]; exact wrap_i64 (by omega) (by omega)
    rw [S_spec_SeqCounts_2]; unfold B_spec_SeqCounts_2; simp [thenD_pp, sliceCells_sl, sliceCells_z, sliceCells_nil, take_full, appS_sl, appK_ok, appS_none, thenD_ag, agP_nil, agP_cons, hi, q, w1, w2, e6]
  simpa [atF] using hl
theorem tallyC_len (F : Nat → Nat) (C K : Nat) : (tallyC F C K).length = C := by simp [tallyC]
theorem tallyC_get (F : Nat → Nat) (C K t : Nat) (h : t < C) : (tallyC F C K)[t]? = some (.int .i64 (cn (fun k => decide (F k = t)) K : Nat)) := by simp [tallyC, h]
theorem tallyC_set (F : Nat → Nat) (C K : Nat) (h : F K < C) : splice (tallyC F C K) (F K) [.int .i64 ((cn (fun k => decide (F k = F K)) K + 1 : Nat) : Int)] = tallyC F C (K + 1) := by
  apply List.ext_getElem?
  intro j
  have e : splice (tallyC F C K) (F K) [.int .i64 ((cn (fun k => decide (F k = F K)) K + 1 : Nat) : Int)] = (tallyC F C K).set (F K) (.int .i64 ((cn (fun k => decide (F k = F K)) K + 1 : Nat) : Int)) := by
    rw [List.set_eq_take_append_cons_drop, if_pos (by rw [tallyC_len]; exact h)]
    simp [splice]
  rw [e, List.getElem?_set]
  by_cases hj : F K = j
  · subst hj
    rw [if_pos rfl, if_pos (by rw [tallyC_len]; exact h), tallyC_get _ _ _ _ h]
    simp [cn]
  · rw [if_neg hj]
    by_cases hjC : j < C
    · rw [tallyC_get _ _ _ _ hjC, tallyC_get _ _ _ _ hjC]
      simp [cn, hj]
    · rw [List.getElem?_eq_none (by rw [tallyC_len]; omega), List.getElem?_eq_none (by rw [tallyC_len]; omega)]
def lastAt (n : Int) (xs : List Int) (x : Int) : Nat → Int
  | 0 => x
  | j + 1 => if xs[j]? = some x then n + j else lastAt n xs x j
def coordI (n : Int) (xs : List Int) (i : Nat) : Int := match xs[i]? with
  | some x => if x < 0 then n + i else lastAt n xs x i
  | none => 0
def drB (x : Int) : Bool := decide (0 ≤ x) && decide (x ≤ 65535)
def leafI (d l : Int) : Int := if drB d = true ∧ (0 ≤ l ∧ l ≤ 6) then ((d.toNat % 2 ^ l.toNat : Nat) : Int) else -1
def drsB (k : Int) (ds : List Int) : Bool := decide ((ds.length : Int) = k) && ds.all drB
def drawAt (ds : List Int) (z : Int) : Int := (ds[z.toNat]?).getD 0
def pathI (n : Int) (l : Int) (ids ds : List Int) (i : Nat) : Int := leafI (drawAt ds (coordI n ids i)) l
def logB (l : Int) : Bool := decide (0 ≤ l) && decide (l ≤ 6)
def pathOk (n l : Int) (ids ds : List Int) : Bool := seqB n ids && (logB l && drsB (n + ids.length) ds)
def pathsI (n l : Int) (ids ds : List Int) : List Int := (List.range ids.length).map (pathI n l ids ds)
def pathR (n l : Int) (ids ds : List Int) : List Int := if pathOk n l ids ds = true then pathsI n l ids ds else []
theorem c_spec_l11Log (M : Mem) (x : Int) : aCall T0 F_spec_l11Log [.int .i64 x] M = some (.bool (decide (0 ≤ x) && decide (x ≤ 6)), M) := by
  rw [aCall_eq T_spec_l11Log]; unfold A_spec_l11Log C_spec_l11Log; simp
  repeat' ((first | rw [selO_some] | rw [condR_bool] | rw [selD_some]); split <;> rename_i hq <;> (have hq2 := hq) <;> (try simp at hq2) <;> (try simp [*]))
theorem rep_blk {t : Ty} {M : Mem} {l o n c : Nat} {xs : List t.D} (h : Rep (.sl t) M [.slice (some ⟨l, o, none⟩) n c] xs) : ∃ blk, M[l]? = some blk ∧ blk.w = t.w ∧ n = xs.length := by
  rcases h with ⟨h, _⟩ | ⟨l', o', c', blk, css, e, h2, h3, h4, h5, h6, h7⟩
  · simp at h
  · simp only [List.cons.injEq, Value.slice.injEq, Option.some.injEq, Addr.mk.injEq, and_true, true_and] at e
    obtain ⟨⟨rfl, rfl⟩, rfl, rfl⟩ := e
    exact ⟨blk, h2, h4, rfl⟩
theorem rep_cells {t : Ty} {M : Mem} {enc : t.D → List V} (henc : ∀ (cs : List V) (x : t.D), Rep t M cs x → cs = enc x) {a : Option Addr} {n c : Nat} {xs : List t.D} (h : Rep (.sl t) M [.slice a n c] xs) {k c2 : Nat} (hk : k ≤ xs.length) :
    sliceCells M t.w (.slice a k c2) = some (k, ((xs.take k).map enc).flatten) := by
  rcases h with ⟨h, rfl⟩ | ⟨l', o', c', blk, css, e, h2, h3, h4, h5, h6, h7⟩
  · simp at h hk
    obtain ⟨rfl, rfl, rfl⟩ := h
    subst hk
    simp [sliceCells]
  · simp only [List.cons.injEq, Value.slice.injEq, and_true] at e
    obtain ⟨rfl, rfl, rfl⟩ := e
    by_cases hk0 : k = 0
    · subst hk0
      simp [sliceCells]
    have hw := Rep.css_w h5 h6
    have hcs : css = xs.map enc := by
      apply List.ext_getElem (by simp [h5])
      intro i h1 h2
      rw [List.getElem_map]
      exact henc _ _ (h6 i _ _ (by simp [h1]) (by simp))
    have hlen := flat_len hw
    have hpos := t.w_pos
    have h3' : blk.st = 1 ∨ blk.st = 2 := by
      rcases h3 with h3 | h3 | h3
      · exact .inl h3
      · exact .inr h3
      · subst h3; simp at hk; omega
    obtain ⟨r, hr⟩ := h7
    have hdl : css.flatten.length + r.length = blk.cells.length - o' := by rw [← List.length_drop, ← hr, List.length_append]
    have hle : k * t.w ≤ css.length * t.w := Nat.mul_le_mul_right _ (by omega)
    have hpos2 : 0 < k * t.w := Nat.mul_pos (by omega) hpos
    unfold sliceCells
    simp only
    rw [if_neg (by omega)]
    unfold rdn
    rw [h2]
    simp only
    rw [if_pos ⟨h3', by omega⟩]
    simp only [Option.map_some]
    congr 2
    rw [← hr, List.take_append_of_le_length (by omega)]
    have e2 : css = (xs.take k).map enc ++ (xs.drop k).map enc := by rw [hcs, ← List.map_append, List.take_append_drop]
    have e3 : (((xs.take k).map enc).flatten).length = k * t.w := by
      rw [flat_len (w := t.w) (fun cs hc => hw cs (by rw [e2]; exact List.mem_append_left _ hc))]
      simp [Nat.min_eq_left hk]
    rw [e2, List.flatten_append, ← e3, List.take_left']
    rfl
theorem idB_t {n x : Int} (h : idB n x = true) : ¬ x < -1 ∧ ¬ n ≤ x := by
  simp only [idB, Bool.and_eq_true, decide_eq_true_eq] at h; omega
theorem r_spec_l15Right (M : Mem) (n : Int) (a : Option Addr) (c : Nat) (xs : List ty_Int.D) (h : Rep (.sl ty_Int) M [.slice a xs.length c] xs) (hl : xs.length ≤ 700) (i : Nat) (hi : i < xs.length) (hq : idB n xs[i] = true) :
    lp (aCall T0) K_spec_l15Right_0 L_spec_l15Right_0 [.int .i64 n, .slice a xs.length c, und, und, und, .int .i64 i, und, und, und, und, und, und, und, und, und, und, und, und, und, und, und, und, und, und, und, und, und, und, und, und, und, und, und, und, und, und] M = lp (aCall T0) K_spec_l15Right_0 L_spec_l15Right_0 [.int .i64 n, .slice a xs.length c, und, und, und, .int .i64 (i + 1 : Nat), und, und, und, und, und, und, und, und, und, und, und, und, und, und, und, und, und, und, und, und, und, und, und, und, und, und, und, und, und, und] M := by
  obtain ⟨l, o, rfl, hrep, hrd⟩ := at_Int h hi
  have e6 : IntKind.i64.wrap ((i : Int) + 1) = i + 1 := wrap_i64 (by omega) (by omega)
  obtain ⟨q1, q2⟩ := idB_t hq
  rw [S_spec_l15Right_0]; unfold B_spec_l15Right_0; simp [hrd, e6, hi, q1, q2]
theorem idB_f {n x : Int} (h : idB n x = false) : x < -1 ∨ (¬ x < -1 ∧ n ≤ x) := by
  simp only [idB, Bool.and_eq_false_iff, decide_eq_false_iff_not] at h; omega
theorem x_spec_l15Right (M : Mem) (n : Int) (a : Option Addr) (c : Nat) (xs : List ty_Int.D) (h : Rep (.sl ty_Int) M [.slice a xs.length c] xs) (i : Nat) (hi : i < xs.length) (hq : idB n xs[i] = false) (k : ACode) :
    thenF M [.tmp 4] (thenS (blockR 0 (lp (aCall T0) K_spec_l15Right_0 L_spec_l15Right_0 [.int .i64 n, .slice a xs.length c, und, und, und, .int .i64 i, und, und, und, und, und, und, und, und, und, und, und, und, und, und, und, und, und, und, und, und, und, und, und, und, und, und, und, und, und, und] M)) (aCall T0) k) = some (.bool false, M) := by
  obtain ⟨l, o, rfl, hrep, hrd⟩ := at_Int h hi
  rcases idB_f hq with q1 | ⟨q1, q2⟩
  · rw [S_spec_l15Right_0]; unfold B_spec_l15Right_0; simp [hrd, hi, q1]
  · rw [S_spec_l15Right_0]; unfold B_spec_l15Right_0; simp [hrd, hi, q1, q2]
theorem c_spec_l15Right (M : Mem) (n : Int) (v : V) (xs : List ty_Int.D) (h : Rep (.sl ty_Int) M [v] xs) : aCall T0 F_spec_l15Right [.int .i64 n, v] M = some (.bool (seqB n xs), M) := by
  obtain ⟨a, c, rfl⟩ := h.slen
  unfold seqB
  by_cases h1 : n < 0
  · have : ¬ 0 ≤ n := by omega
    rw [aCall_eq T_spec_l15Right]; unfold A_spec_l15Right C_spec_l15Right; simp [h1, this]
  by_cases h2 : 256 < n
  · have : ¬ n ≤ 256 := by omega
    rw [aCall_eq T_spec_l15Right]; unfold A_spec_l15Right C_spec_l15Right; simp [h1, h2, this]
  by_cases h3 : 700 < (xs.length : Int)
  · have : ¬ (xs.length : Int) ≤ 700 := by omega
    rw [aCall_eq T_spec_l15Right]; unfold A_spec_l15Right C_spec_l15Right; simp [h1, h2, h3, this]
  have hb : (decide (0 ≤ n) && decide (n ≤ 256)) = true := by simp; omega
  have hb2 : decide ((xs.length : Int) ≤ 700) = true := by simp; omega
  rw [hb, hb2, Bool.true_and, Bool.true_and]
  rcases first_all (idB n) xs with ha | ⟨ha, j, hj, q1, q2⟩
  · have hc := chain (g := fun i : Nat => lp (aCall T0) K_spec_l15Right_0 L_spec_l15Right_0 [.int .i64 n, .slice a xs.length c, und, und, und, .int .i64 i, und, und, und, und, und, und, und, und, und, und, und, und, und, und, und, und, und, und, und, und, und, und, und, und, und, und, und, und, und, und] M) (n := xs.length) fun i hi => r_spec_l15Right M n a c xs h (by omega) i hi (all_at ha hi)
    simp only [Int.natCast_zero, Int.ofNat_zero] at hc
    rw [ha]
    rw [aCall_eq T_spec_l15Right]; unfold A_spec_l15Right C_spec_l15Right; simp [h1, h2, h3, hc]
    rw [S_spec_l15Right_0]; unfold B_spec_l15Right_0; simp
  · have hc := chain (g := fun i : Nat => lp (aCall T0) K_spec_l15Right_0 L_spec_l15Right_0 [.int .i64 n, .slice a xs.length c, und, und, und, .int .i64 i, und, und, und, und, und, und, und, und, und, und, und, und, und, und, und, und, und, und, und, und, und, und, und, und, und, und, und, und, und, und] M) (n := j) fun i hi => r_spec_l15Right M n a c xs h (by omega) i (by omega) (q1 i (by omega) hi)
    simp only [Int.natCast_zero, Int.ofNat_zero] at hc
    rw [ha]
    rw [aCall_eq T_spec_l15Right]; unfold A_spec_l15Right C_spec_l15Right; simp [h1, h2, h3, hc, x_spec_l15Right M n a c xs h j hj q2]
theorem flat_Int (xs : List Int) : (xs.map enc_Int).flatten = xs.map (fun m => Value.int .i64 m) := by
  induction xs with
  | nil => rfl
  | cons x xs ih => rw [List.map_cons, List.flatten_cons, ih]; rfl
theorem own_block {M : Mem} {l c : Nat} {ys : List Int} (hb : M[l]? = some ⟨ys.map fun n => .int .i64 n, 1, 2⟩) (hw : ∀ y ∈ ys, (Lit.int .i64 y).wf = true) : ∃ L, Own (.sl ty_Int) M [.slice (some ⟨l, 0, none⟩) ys.length c] ys L ∧ ∀ j ∈ L, j = l := by
  by_cases hy : ys = []
  · subst hy
    exact ⟨[], .inl ⟨rfl, rfl, .inr ⟨l, 0, c, _, [], rfl, hb, .inr (.inr rfl), rfl, rfl, fun i ds x hd => by simp at hd, by simp⟩⟩, by simp⟩
  · refine ⟨[l], .inr ⟨l, 0, c, _, ys.map enc_Int, ys.map (fun _ => []), hy, rfl, hb, rfl, rfl, by simp, by simp, ?_, ?_, ?_⟩, by simp⟩
    · intro i ds x K h1 h2 h3
      rw [List.getElem?_map, h2] at h1
      rw [List.getElem?_map, h2] at h3
      simp only [Option.map_some, Option.some.injEq] at h1 h3
      subst h1; subst h3
      exact ⟨⟨rfl, hw x (List.mem_of_getElem? h2)⟩, rfl⟩
    · rw [flat_Int]; simp
    · have : (ys.map (fun _ => ([] : List Nat))).flatten = [] := by
        rw [List.flatten_eq_nil_iff]
        intro K hK
        obtain ⟨_, _, rfl⟩ := List.mem_map.1 hK
        rfl
      rw [this]
theorem seqB_parts {n : Int} {xs : List Int} (h : seqB n xs = true) : (0 ≤ n ∧ n ≤ 256) ∧ xs.length ≤ 700 ∧ ∀ i (hi : i < xs.length), -1 ≤ xs[i] ∧ xs[i] < n := by
  simp only [seqB, Bool.and_eq_true, decide_eq_true_eq] at h
  obtain ⟨h1, h2, h3⟩ := h
  refine ⟨h1, by omega, fun i hi => ?_⟩
  have := all_at h3 hi
  simp only [idB, Bool.and_eq_true, decide_eq_true_eq] at this
  omega
theorem drB_t {x : Int} (h : drB x = true) : ¬ x < 0 ∧ ¬ 65535 < x := by
  simp only [drB, Bool.and_eq_true, decide_eq_true_eq] at h; omega
theorem r_spec_l15Draws (M : Mem) (a : Option Addr) (c : Nat) (xs : List ty_Int.D) (h : Rep (.sl ty_Int) M [.slice a xs.length c] xs) (hl : xs.length ≤ 1048576) (i : Nat) (hi : i < xs.length) (hq : drB xs[i] = true) :
    lp (aCall T0) K_spec_l15Draws_0 L_spec_l15Draws_0 [und, und, .slice a xs.length c, und, und, und, und, .int .i64 i, und, und, und, und, und, und, und, und, und, und, und, und, und, und, und, und, und, und, und, und, und, und, und, und, und] M = lp (aCall T0) K_spec_l15Draws_0 L_spec_l15Draws_0 [und, und, .slice a xs.length c, und, und, und, und, .int .i64 (i + 1 : Nat), und, und, und, und, und, und, und, und, und, und, und, und, und, und, und, und, und, und, und, und, und, und, und, und, und] M := by
  obtain ⟨l, o, rfl, hrep, hrd⟩ := at_Int h hi
  have e6 : IntKind.i64.wrap ((i : Int) + 1) = i + 1 := wrap_i64 (by omega) (by omega)
  obtain ⟨q1, q2⟩ := drB_t hq
  rw [S_spec_l15Draws_0]; unfold B_spec_l15Draws_0; simp [hrd, e6, hi, q1, q2]
theorem drB_f {x : Int} (h : drB x = false) : x < 0 ∨ (¬ x < 0 ∧ 65535 < x) := by
  simp only [drB, Bool.and_eq_false_iff, decide_eq_false_iff_not] at h; omega
theorem x_spec_l15Draws (M : Mem) (a : Option Addr) (c : Nat) (xs : List ty_Int.D) (h : Rep (.sl ty_Int) M [.slice a xs.length c] xs) (i : Nat) (hi : i < xs.length) (hq : drB xs[i] = false) (k : ACode) :
    thenF M [.tmp 6] (thenS (blockR 0 (lp (aCall T0) K_spec_l15Draws_0 L_spec_l15Draws_0 [und, und, .slice a xs.length c, und, und, und, und, .int .i64 i, und, und, und, und, und, und, und, und, und, und, und, und, und, und, und, und, und, und, und, und, und, und, und, und, und] M)) (aCall T0) k) = some (.bool false, M) := by
  obtain ⟨l, o, rfl, hrep, hrd⟩ := at_Int h hi
  rcases drB_f hq with q1 | ⟨q1, q2⟩
  · rw [S_spec_l15Draws_0]; unfold B_spec_l15Draws_0; simp [hrd, hi, q1]
  · rw [S_spec_l15Draws_0]; unfold B_spec_l15Draws_0; simp [hrd, hi, q1, q2]
theorem c_spec_l15Draws (M : Mem) (n : Int) (hn : 0 ≤ n ∧ n ≤ 256) (vi v : V) (ids ds : List Int) (hi : Rep (.sl ty_Int) M [vi] ids) (h : Rep (.sl ty_Int) M [v] ds) (hl : ds.length ≤ 1048576) (hil : ids.length ≤ 700) : aCall T0 F_spec_l15Draws [.int .i64 n, vi, v] M = some (.bool (drsB (n + ids.length) ds), M) := by
  obtain ⟨a, c, rfl⟩ := h.slen
  obtain ⟨b, d, rfl⟩ := hi.slen
  have e1 : IntKind.i64.wrap (n + (ids.length : Int)) = n + ids.length := wrap_i64 (by omega) (by omega)
  unfold drsB
  by_cases hk : (ds.length : Int) = n + ids.length
  · have hk' : ((ds.length : Int) = n + ids.length) = True := eq_true hk
    rcases first_all drB ds with ha | ⟨ha, j, hj, q1, q2⟩
    · have hc := chain (g := fun i : Nat => lp (aCall T0) K_spec_l15Draws_0 L_spec_l15Draws_0 [und, und, .slice a ds.length c, und, und, und, und, .int .i64 i, und, und, und, und, und, und, und, und, und, und, und, und, und, und, und, und, und, und, und, und, und, und, und, und, und] M) (n := ds.length) fun i hi => r_spec_l15Draws M a c ds h hl i hi (all_at ha hi)
      simp only [Int.natCast_zero, Int.ofNat_zero] at hc
      rw [ha]
      rw [aCall_eq T_spec_l15Draws]; unfold A_spec_l15Draws C_spec_l15Draws; simp [e1, hk', hc]
      rw [S_spec_l15Draws_0]; unfold B_spec_l15Draws_0; simp
    · have hc := chain (g := fun i : Nat => lp (aCall T0) K_spec_l15Draws_0 L_spec_l15Draws_0 [und, und, .slice a ds.length c, und, und, und, und, .int .i64 i, und, und, und, und, und, und, und, und, und, und, und, und, und, und, und, und, und, und, und, und, und, und, und, und, und] M) (n := j) fun i hi => r_spec_l15Draws M a c ds h hl i (by omega) (q1 i (by omega) hi)
      simp only [Int.natCast_zero, Int.ofNat_zero] at hc
      rw [ha]
      rw [aCall_eq T_spec_l15Draws]; unfold A_spec_l15Draws C_spec_l15Draws; simp [e1, hk', hc, x_spec_l15Draws M a c ds h j hj q2]
  · rw [aCall_eq T_spec_l15Draws]; unfold A_spec_l15Draws C_spec_l15Draws; simp [e1, hk]
def posC (n : Nat) (ids ds : List Int) (i : Nat) : List V := (List.range n).map fun (d : Nat) => .int .i64 (drawAt ds (lastAt n ids d i))
theorem posC_len (n : Nat) (ids ds : List Int) (i : Nat) : (posC n ids ds i).length = n := by simp [posC]
theorem app_new {M : Mem} {w bytes m : Nat} {ys : List V} (hm : 0 < m) (h1 : ys.all one = true) (hs : m * bytes ≤ 140737488355328) (hs2 : m ≤ 9223372036854775807) :
    appS (M ++ [⟨[], w, 2⟩]) w bytes (.slice (some ⟨M.length, 0, none⟩) 0 0) m ys = some (.slice (some ⟨M.length + 1, 0, none⟩) m m, M ++ [⟨[], w, 0⟩, ⟨ys, w, 2⟩]) := by
  have h := app_full (M := M ++ [⟨[], w, 2⟩]) (w := w) (bytes := bytes) (l := M.length) (n := 0) (cs := []) (ys := ys) (m := m) (by simp) (by simp) hm h1 (by simpa using hs) (by simpa using hs2)
  simpa using h
def pathC (n l : Int) (ids ds : List Int) (i : Nat) : List V := (List.range i).map fun j => .int .i64 (pathI n l ids ds j)
theorem leafI_range (d l : Int) : -1 ≤ leafI d l ∧ leafI d l ≤ 65535 := by
  unfold leafI
  split
  · rename_i h
    have h1 : 0 ≤ d ∧ d ≤ 65535 := by simpa [drB] using h.1
    have := Nat.mod_le d.toNat (2 ^ l.toNat)
    omega
  · omega
theorem pathsI_wf (n l : Int) (ids ds : List Int) : ∀ y ∈ pathsI n l ids ds, (Lit.int .i64 y).wf = true := by
  intro y hy
  obtain ⟨i, _, rfl⟩ := List.mem_map.1 hy
  have := leafI_range (drawAt ds (coordI n ids i)) l
  exact wf_range (by unfold pathI; omega)
theorem pre_set {M0 M : Mem} {l : Nat} {b : Blk} (h : M0 <+: M) (hl : M0.length ≤ l) : M0 <+: M.set l b := by
  obtain ⟨r, rfl⟩ := h
  rw [set_app hl]
  exact List.prefix_append _ _
theorem pre_app {M0 M N : Mem} (h : M0 <+: M) : M0 <+: M ++ N := h.trans (List.prefix_append _ _)
theorem pow2_pos (n : Nat) : (0 : Int) < 2 ^ n := Int.pow_pos (by omega)
theorem c_spec_LeafOf (M : Mem) (d l : Int) : aCall T0 F_spec_LeafOf [.int .i64 d, .int .i64 l] M = some (.int .i64 (leafI d l), M) := by
  unfold leafI drB
  by_cases h1 : d < 0
  · have : ¬ 0 ≤ d := by omega
    rw [aCall_eq T_spec_LeafOf]; unfold A_spec_LeafOf C_spec_LeafOf; simp [h1, this]
  by_cases h2 : 65535 < d
  · have : ¬ d ≤ 65535 := by omega
    rw [aCall_eq T_spec_LeafOf]; unfold A_spec_LeafOf C_spec_LeafOf; simp [h1, h2, this]
  by_cases h3 : l < 0
  · have : ¬ 0 ≤ l := by omega
    rw [aCall_eq T_spec_LeafOf]; unfold A_spec_LeafOf C_spec_LeafOf; simp [h1, h2, h3, this]
  by_cases h4 : 6 < l
  · have : ¬ l ≤ 6 := by omega
    rw [aCall_eq T_spec_LeafOf]; unfold A_spec_LeafOf C_spec_LeafOf; simp [h1, h2, h3, h4, this]
  obtain ⟨m, rfl⟩ : ∃ m : Nat, l = m := ⟨l.toNat, by omega⟩
  obtain ⟨k, rfl⟩ : ∃ k : Nat, d = k := ⟨d.toNat, by omega⟩
  have hq : (2 : Int) ^ m ≠ 0 := by have := pow2_pos m; omega
  have e2 : Int.tmod (k : Int) (2 ^ m) = (k % 2 ^ m : Nat) := by
    rw [Int.tmod_eq_emod_of_nonneg (by omega)]; simp
  have e7 : (k : Int) ≤ 65535 := by omega
  have e8 : (m : Int) ≤ 6 := by omega
  rw [aCall_eq T_spec_LeafOf]; unfold A_spec_LeafOf C_spec_LeafOf; simp [h1, h2, h3, h4, e7, e8, c_spec_l02Pow _ m (by omega), hq]
  rw [e2]
  simp
theorem posC_get (n : Nat) (ids ds : List Int) (i d : Nat) (h : d < n) : (posC n ids ds i)[d]? = some (.int .i64 (drawAt ds (lastAt n ids d i))) := by simp [posC, h]
theorem lastAt_next (n : Int) (xs : List Int) (i : Nat) (x d : Int) (hx : xs[i]? = some x) : lastAt n xs d (i + 1) = if d = x then n + i else lastAt n xs d i := by
  rw [lastAt, hx]
  by_cases h : d = x
  · subst h; simp
  · rw [if_neg h, if_neg (fun e => h (by simpa using e.symm))]
theorem posC_set (n : Nat) (ids ds : List Int) (i d : Nat) (h : d < n) (hx : ids[i]? = some (d : Int)) : splice (posC n ids ds i) d [.int .i64 (drawAt ds (n + i))] = posC n ids ds (i + 1) := by
  rw [splice_one (by rw [posC_len]; exact h)]
  apply List.ext_getElem?
  intro j
  rw [List.getElem?_set]
  by_cases hj : j < n
  · rw [posC_get n ids ds (i + 1) j hj, lastAt_next n ids i d j hx]
    by_cases e : d = j
    · subst e; simp [posC_len, h]
    · rw [if_neg e, posC_get n ids ds i j hj, if_neg (by omega)]
  · rw [if_neg (by omega), List.getElem?_eq_none (by rw [posC_len]; omega), List.getElem?_eq_none (by rw [posC_len]; omega)]
theorem posC_same (n : Nat) (ids ds : List Int) (i : Nat) (x : Int) (hx : ids[i]? = some x) (h : x < 0) : posC n ids ds (i + 1) = posC n ids ds i := by
  unfold posC
  apply List.map_congr_left
  intro d _
  rw [lastAt_next n ids i x d hx, if_neg (by omega)]
theorem pathC_succ (n l : Int) (ids ds : List Int) (i : Nat) : pathC n l ids ds (i + 1) = pathC n l ids ds i ++ [.int .i64 (pathI n l ids ds i)] := by simp [pathC, List.range_succ]
theorem pathC_len (n l : Int) (ids ds : List Int) (i : Nat) : (pathC n l ids ds i).length = i := by simp [pathC]
theorem drawAt_get {ds : List Int} {z : Int} (h0 : 0 ≤ z) (h : z < ds.length) : drawAt ds z = ds[z.toNat]'(by omega) := by
  unfold drawAt
  rw [List.getElem?_eq_getElem (by omega)]
  rfl
theorem rd_draw {M : Mem} {a : Option Addr} {c : Nat} {ds : List Int} (h : Rep (.sl ty_Int) M [.slice a ds.length c] ds) {z : Int} (h0 : 0 ≤ z) (h1 : z < ds.length) : ∃ l o, a = some ⟨l, o, none⟩ ∧ rd1 M l (o + z.toNat) = some (.int .i64 (drawAt ds z)) := by
  obtain ⟨l, o, rfl, _, hrd⟩ := at_Int h (i := z.toNat) (by omega)
  exact ⟨l, o, rfl, by rw [drawAt_get h0 h1]; exact hrd⟩
theorem r_spec_PathSeq (M0 M : Mem) (hM : M0 <+: M) (n : Nat) (hn : n ≤ 256) (l : Int) (vi vd : V) (ids ds : List Int) (hids : Rep (.sl ty_Int) M0 [vi] ids) (hds : Rep (.sl ty_Int) M0 [vd] ds) (hl : ids.length ≤ 700) (hs : ∀ i (hi : i < ids.length), ids[i] < (n : Int)) (hdl : (ds.length : Int) = n + ids.length)
    (pb lo cp : Nat) (hlp : M0.length ≤ pb) (hlo : M0.length ≤ lo) (hne : pb ≠ lo) (i : Nat) (hi : i < ids.length) (hbp : M[pb]? = some ⟨posC n ids ds i, 1, 2⟩) (hbo : M[lo]? = some ⟨pathC n l ids ds i, 1, 2⟩) :
    ∃ lo' M', M0 <+: M' ∧ M0.length ≤ lo' ∧ pb ≠ lo' ∧ M'[pb]? = some ⟨posC n ids ds (i + 1), 1, 2⟩ ∧ M'[lo']? = some ⟨pathC n l ids ds (i + 1), 1, 2⟩ ∧
      lp (aCall T0) K_spec_PathSeq_0 L_spec_PathSeq_0 [.int .i64 n, .int .i64 l, vi, vd, und, und, und, und, und, und, .slice (some ⟨pb, 0, none⟩) n cp, .slice (some ⟨lo, 0, none⟩) i i, .int .i64 i, und, und, und, und, und, und, und, und, und, und, und, und, und, und, und, und, und, und, und, und, und, und, und, und, und, und, und, und, und, und, und, und, und, und, und, und, und, und, und, und, und, und, und, und, und, und, und, und, und, und, und, und, und, und, und, und, und, und, und, und, und, und, und, und, und, und] M =
      lp (aCall T0) K_spec_PathSeq_0 L_spec_PathSeq_0 [.int .i64 n, .int .i64 l, vi, vd, und, und, und, und, und, und, .slice (some ⟨pb, 0, none⟩) n cp, .slice (some ⟨lo', 0, none⟩) (i + 1) (i + 1), .int .i64 (i + 1 : Nat), und, und, und, und, und, und, und, und, und, und, und, und, und, und, und, und, und, und, und, und, und, und, und, und, und, und, und, und, und, und, und, und, und, und, und, und, und, und, und, und, und, und, und, und, und, und, und, und, und, und, und, und, und, und, und, und, und, und, und, und, und, und, und, und, und, und] M' := by
  obtain ⟨x, hx⟩ : ∃ x : Int, x = ids[i] := ⟨_, rfl⟩
  have hxi : (ids : List Int)[i]? = some x := by rw [hx]; simp [hi]
  have hlt : x < n := by rw [hx]; exact hs i hi
  obtain ⟨A, hA⟩ : ∃ A, A = M ++ [(⟨[.int .i64 (pathI n l ids ds i)], 1, 2⟩ : Blk)] := ⟨_, rfl⟩
  have eap := app_full (M := A) (w := 1) (bytes := 8) (l := lo) (n := i) (cs := pathC n l ids ds i) (ys := [.int .i64 (pathI n l ids ds i)]) (m := 1) (by rw [hA]; exact get_pre (List.prefix_append _ _) hbo) (by rw [pathC_len]; omega) (by omega) rfl (by omega) (by omega)
  rw [← pathC_succ] at eap
  have hAl : A.length = M.length + 1 := by rw [hA]; simp
  rw [hAl] at eap
  have esl := sliceCells_one (M := M) (v := .int .i64 (pathI n l ids ds i)) (w := 1)
  rw [← hA] at esl
  have hlpl := (List.getElem?_eq_some_iff.1 hbp).1
  obtain ⟨B, hB⟩ : ∃ B, B = A.set lo ⟨pathC n l ids ds i, 1, 0⟩ ++ [(⟨pathC n l ids ds (i + 1), 1, 2⟩ : Blk)] := ⟨_, rfl⟩
  have bp : B[pb]? = some ⟨posC n ids ds i, 1, 2⟩ := by
    rw [hB, List.getElem?_append_left (by simp [hAl]; omega), List.getElem?_set_ne (fun e => hne e.symm), hA, List.getElem?_append_left hlpl, hbp]
  have bo : B[M.length + 1]? = some ⟨pathC n l ids ds (i + 1), 1, 2⟩ := by
    rw [hB, List.getElem?_append_right (by simp [hAl])]
    simp [hAl]
  have pB : M0 <+: B := by
    rw [hB, hA]
    exact pre_app (pre_set (pre_app hM) hlo)
  rw [← hB] at eap
  have hMl := hM.length_le
  have hA1 : M ++ [(⟨[.int .i64 (pathI n l ids ds i)], 1, 2⟩ : Blk)] = A := hA.symm
  have e6 : IntKind.i64.wrap ((i : Int) + 1) = i + 1 := wrap_i64 (by omega) (by omega)
  have e7 : IntKind.i64.wrap ((n : Int) + i) = n + i := wrap_i64 (by omega) (by omega)
  have e8 : ((n : Int) + i).toNat = n + i := by omega
  have e9 : (0 : Int) ≤ (n : Int) + i := by omega
  have e10 : (n : Int) + i < ds.length := by omega
  obtain ⟨ai, ci, rfl⟩ := hids.slen
  obtain ⟨ad, cd, rfl⟩ := hds.slen
  obtain ⟨pd, od, rfl, hrd0⟩ := rd_draw (hds.mono hM) e9 e10
  obtain ⟨pi, oi, rfl, _, hri0⟩ := at_Int (hids.mono hM) hi
  obtain ⟨_, _, q, _, hriB⟩ := at_Int (hids.mono pB) hi
  cases q
  rw [← hx] at hri0 hriB
  rw [e8] at hrd0
  by_cases hx0 : x < 0
  · have ec : coordI n ids i = n + i := by unfold coordI; rw [hxi]; exact if_pos hx0
    have e4 : pathI n l ids ds i = leafI (drawAt ds (n + i)) l := by unfold pathI; rw [ec]
    have e11 := fun M => c_spec_LeafOf M (drawAt ds (n + i)) l
    rw [← e4] at e11
    refine ⟨M.length + 1, B, pB, by omega, by omega, ?_, bo, ?_⟩
    · rw [bp, posC_same n ids ds i x hxi hx0]
    · rw [S_spec_PathSeq_0]; unfold B_spec_PathSeq_0; simp [hi, e6, e7, e8, e9, e10, hrd0, hri0, hx0, e11, hA1, esl, eap]
  · obtain ⟨d, rfl⟩ : ∃ d : Nat, x = d := ⟨x.toNat, by omega⟩
    have hd : d < n := by omega
    have ec : coordI n ids i = lastAt n ids d i := by unfold coordI; rw [hxi]; exact if_neg hx0
    have e4 : pathI n l ids ds i = leafI (drawAt ds (lastAt n ids d i)) l := by unfold pathI; rw [ec]
    have e11 := fun M => c_spec_LeafOf M (drawAt ds (lastAt n ids d i)) l
    rw [← e4] at e11
    have r1 : rd1 M pb d = some (.int .i64 (drawAt ds (lastAt n ids d i))) := by
      unfold rd1
      rw [hbp]
      simp only [or_true, if_true]
      exact posC_get n ids ds i d hd
    have w1 : wrn B pb d [.int .i64 (drawAt ds (n + i))] = some (B.set pb ⟨posC n ids ds (i + 1), 1, 2⟩) := by
      unfold wrn
      rw [bp]
      simp only
      rw [if_pos ⟨trivial, by rw [posC_len]; simp; omega, rfl⟩, posC_set n ids ds i d hd hxi]
    have hlpB := (List.getElem?_eq_some_iff.1 bp).1
    refine ⟨M.length + 1, B.set pb ⟨posC n ids ds (i + 1), 1, 2⟩, pre_set pB hlp, by omega, by omega, by simp [hlpB], ?_, ?_⟩
    · rw [List.getElem?_set_ne (by omega), bo]
    · have hx1 : decide ((d : Int) < 0) = false := decide_eq_false hx0
      rw [S_spec_PathSeq_0]; unfold B_spec_PathSeq_0; simp [hi, e6, e7, e8, e9, e10, hrd0, hri0, hriB, hd, hx1, r1, w1, e11, hA1, esl, eap]
theorem l_spec_PathSeq (M0 : Mem) (n : Nat) (hn : n ≤ 256) (l : Int) (vi vd : V) (ids ds : List Int) (hids : Rep (.sl ty_Int) M0 [vi] ids) (hds : Rep (.sl ty_Int) M0 [vd] ds) (hl : ids.length ≤ 700) (hs : ∀ i (hi : i < ids.length), ids[i] < (n : Int)) (hdl : (ds.length : Int) = n + ids.length)
    (pb cp : Nat) (hlp : M0.length ≤ pb) : ∀ (k i lo : Nat) (M : Mem), M0 <+: M → M0.length ≤ lo → pb ≠ lo → i + k = ids.length → M[pb]? = some ⟨posC n ids ds i, 1, 2⟩ → M[lo]? = some ⟨pathC n l ids ds i, 1, 2⟩ →
    ∃ lo' M', M0 <+: M' ∧ M0.length ≤ lo' ∧ M'[lo']? = some ⟨pathC n l ids ds ids.length, 1, 2⟩ ∧
      lp (aCall T0) K_spec_PathSeq_0 L_spec_PathSeq_0 [.int .i64 n, .int .i64 l, vi, vd, und, und, und, und, und, und, .slice (some ⟨pb, 0, none⟩) n cp, .slice (some ⟨lo, 0, none⟩) i i, .int .i64 i, und, und, und, und, und, und, und, und, und, und, und, und, und, und, und, und, und, und, und, und, und, und, und, und, und, und, und, und, und, und, und, und, und, und, und, und, und, und, und, und, und, und, und, und, und, und, und, und, und, und, und, und, und, und, und, und, und, und, und, und, und, und, und, und, und, und] M =
      lp (aCall T0) K_spec_PathSeq_0 L_spec_PathSeq_0 [.int .i64 n, .int .i64 l, vi, vd, und, und, und, und, und, und, .slice (some ⟨pb, 0, none⟩) n cp, .slice (some ⟨lo', 0, none⟩) ids.length ids.length, .int .i64 ids.length, und, und, und, und, und, und, und, und, und, und, und, und, und, und, und, und, und, und, und, und, und, und, und, und, und, und, und, und, und, und, und, und, und, und, und, und, und, und, und, und, und, und, und, und, und, und, und, und, und, und, und, und, und, und, und, und, und, und, und, und, und, und, und, und, und, und] M'
  | 0, i, lo, M, hM, h1, h2, hi, hbp, hbo => by
    have e : i = ids.length := by omega
    subst e
    exact ⟨lo, M, hM, h1, hbo, rfl⟩
  | k + 1, i, lo, M, hM, h1, h2, hi, hbp, hbo => by
    obtain ⟨lo', M', q1, q2, q3, q4, q5, q6⟩ := r_spec_PathSeq M0 M hM n hn l vi vd ids ds hids hds hl hs hdl pb lo cp hlp h1 h2 i (by omega) hbp hbo
    rw [q6]
    exact l_spec_PathSeq M0 n hn l vi vd ids ds hids hds hl hs hdl pb cp hlp k (i + 1) lo' M' q1 q2 q3 (by omega) q4 q5
theorem posC_zero (n : Nat) (ids ds : List Int) (hn : n ≤ ds.length) : ((ds.take n).map enc_Int).flatten = posC n ids ds 0 := by
  rw [flat_Int]
  unfold posC
  apply List.ext_getElem (by simp; omega)
  intro i h1 h2
  simp at h1 h2
  simp [lastAt]
  rw [drawAt_get (by omega) (by omega)]
  rfl
theorem d_spec_PathSeq (M : Mem) (n l : Int) (v_ids : V) (ids : List Int) (h_ids : Rep (.sl ty_Int) M [v_ids] ids) (hn_ids : ids.length ≤ 1048576) (v_ds : V) (ds : List Int) (h_ds : Rep (.sl ty_Int) M [v_ds] ds) (hn_ds : ds.length ≤ 1048576) :
    ∃ M' u, M <+: M' ∧ aCall T0 F_spec_PathSeq [.int .i64 n, .int .i64 l, v_ids, v_ds] M = some (.tuple #[u, .bool (pathOk n l ids ds)], M') ∧ Rep (.sl ty_Int) M' [u] (pathR n l ids ds) := by
  have g1 := c_spec_l15Right M n v_ids ids h_ids
  have g2 := fun M => c_spec_l11Log M l
  unfold pathR
  cases hb : pathOk n l ids ds with
  | false =>
    refine ⟨M, .slice none 0 0, List.prefix_refl _, ?_, .inl ⟨rfl, rfl⟩⟩
    simp only [pathOk] at hb
    cases q1 : seqB n ids with
    | false =>
      obtain ⟨a, c, rfl⟩ := h_ids.slen
      rw [aCall_eq T_spec_PathSeq]; unfold A_spec_PathSeq C_spec_PathSeq; simp [g1, q1]
    | true =>
      have hsq := seqB_parts q1
      have g3 := c_spec_l15Draws M n hsq.1 v_ids v_ds ids ds h_ids h_ds hn_ds hsq.2.1
      rw [q1, Bool.true_and] at hb
      obtain ⟨a, c, rfl⟩ := h_ids.slen
      cases q2 : logB l with
      | false =>
        have q2' : (decide (0 ≤ l) && decide (l ≤ 6)) = false := q2
        rw [aCall_eq T_spec_PathSeq]; unfold A_spec_PathSeq C_spec_PathSeq; simp [g1, g2, q1, q2']
      | true =>
        have q2' : (decide (0 ≤ l) && decide (l ≤ 6)) = true := q2
        rw [q2, Bool.true_and] at hb
        rw [aCall_eq T_spec_PathSeq]; unfold A_spec_PathSeq C_spec_PathSeq; simp [g1, g2, g3, q1, q2', hb]
  | true =>
    simp only [pathOk, Bool.and_eq_true] at hb
    obtain ⟨q1, q2, q3⟩ := hb
    obtain ⟨h1, h2, h3⟩ := seqB_parts q1
    have q2' : (decide (0 ≤ l) && decide (l ≤ 6)) = true := q2
    have hdl : (ds.length : Int) = n + ids.length := by
      simp only [drsB, Bool.and_eq_true, decide_eq_true_eq] at q3
      exact q3.1
    have g3 := c_spec_l15Draws M n h1 v_ids v_ds ids ds h_ids h_ds hn_ds h2
    obtain ⟨m, rfl⟩ : ∃ m : Nat, n = m := ⟨n.toNat, by omega⟩
    have hs : ∀ i (hi : i < ids.length), ids[i] < (m : Int) := fun i hi => (h3 i hi).2
    have hm : pathC m l ids ds ids.length = (pathsI m l ids ds).map fun n => .int .i64 n := by simp [pathC, pathsI]
    have hlen : (pathsI m l ids ds).length = ids.length := by simp [pathsI]
    have hmd : m ≤ ds.length := by omega
    by_cases hm0 : m = 0
    · subst hm0
      obtain ⟨lo', M', p1, p2, p3, p4⟩ := l_spec_PathSeq M 0 (by omega) l v_ids v_ds ids ds h_ids h_ds h2 hs hdl M.length 0 (Nat.le_refl _) ids.length 0 (M.length + 1) (M ++ [⟨[], 1, 2⟩, ⟨[], 1, 2⟩]) (List.prefix_append _ _) (by omega) (by omega) (by omega) (by simp [posC]) (by simp [pathC])
      rw [hm] at p3
      obtain ⟨L, o1, o2⟩ := own_block (c := ids.length) p3 (pathsI_wf _ l ids ds)
      rw [hlen] at o1
      rw [if_pos rfl]
      refine ⟨M', _, p1, ?_, o1.rep⟩
      obtain ⟨ai, ci, rfl⟩ := h_ids.slen
      obtain ⟨ad, cd, rfl⟩ := h_ds.slen
      simp only [Int.natCast_zero, Int.ofNat_zero] at p4 q1 q3 g1 g3 ⊢
      rw [q1] at g1
      rw [q3] at g3
      have g1' := g1
      have e2 : sliceCells (M ++ [⟨[], 1, 2⟩]) 1 (.slice none 0 0) = some (0, []) := rfl
      rcases h_ds.slice with ⟨e, hds⟩ | ⟨b, o, c2, e⟩
      · simp at e
        obtain ⟨rfl, e, rfl⟩ := e
        rw [aCall_eq T_spec_PathSeq]; unfold A_spec_PathSeq C_spec_PathSeq; simp [g1, g2, g3, q1, q2', zeroCells, sliceCells, appS, p4]
        rw [S_spec_PathSeq_0]; unfold B_spec_PathSeq_0; simp
      · simp at e
        obtain ⟨rfl, rfl⟩ := e
        obtain ⟨k, k1, k2, _⟩ := rep_blk (h_ds.mono (List.prefix_append M [⟨[], 1, 2⟩]))
        have k3 : k.w = 1 := k2
        rw [aCall_eq T_spec_PathSeq]; unfold A_spec_PathSeq C_spec_PathSeq; simp [g1, g2, g3, q1, q2', zeroCells, sliceCells, appS, k1, k3, p4]
        rw [S_spec_PathSeq_0]; unfold B_spec_PathSeq_0; simp
    · have hm1 : 0 < m := by omega
      have hz := posC_zero m ids ds hmd
      obtain ⟨lo', M', p1, p2, p3, p4⟩ := l_spec_PathSeq M m (by omega) l v_ids v_ds ids ds h_ids h_ds h2 hs hdl (M.length + 1) m (by omega) ids.length 0 (M.length + 2) (M ++ [⟨[], 1, 0⟩, ⟨posC m ids ds 0, 1, 2⟩, ⟨[], 1, 2⟩]) (List.prefix_append _ _) (by omega) (by omega) (by omega) (by simp) (by simp [pathC])
      rw [hm] at p3
      obtain ⟨L, o1, o2⟩ := own_block (c := ids.length) p3 (pathsI_wf _ l ids ds)
      rw [hlen] at o1
      rw [if_pos rfl]
      refine ⟨M', _, p1, ?_, o1.rep⟩
      obtain ⟨ai, ci, rfl⟩ := h_ids.slen
      rcases h_ds.slice with ⟨e, hds⟩ | ⟨b, o, c2, e⟩
      · rw [hds] at hmd; simp at hmd; omega
      · simp at e
        subst e
        obtain ⟨k, k1, k2, _⟩ := rep_blk (h_ds.mono (List.prefix_append M [⟨[], 1, 2⟩]))
        have k3 : k.w = 1 := k2
        have hsl := fun c => rep_cells (enc := enc_Int) (fun cs x hx => hx.1) (h_ds.mono (List.prefix_append M [⟨[], 1, 2⟩])) (k := m) (c2 := c) hmd
        have hw : ty_Int.w = 1 := rfl
        rw [hw, hz] at hsl
        have hpl := posC_len m ids ds 0
        have hall : (posC m ids ds 0).all one = true := by simp [posC]
        have hap := app_new (M := M) (w := 1) (bytes := 8) (m := m) (ys := posC m ids ds 0) hm1 hall (by omega) (by omega)
        have e1 : (m : Int) ≤ ds.length := by omega
        simp only [Int.natCast_zero, Int.ofNat_zero] at p4
        generalize posC m ids ds 0 = P at hsl hap p4
        rw [aCall_eq T_spec_PathSeq]; unfold A_spec_PathSeq C_spec_PathSeq; simp [g1, g2, g3, q1, q2', q3, zeroCells, k1, k3, hsl, hap, e1, hmd, p4]
        rw [S_spec_PathSeq_0]; unfold B_spec_PathSeq_0; simp
def co (n : Nat) (xs : List Int) (i : Nat) : Nat := (coordI n xs i).toNat
theorem lastAt_lt {n : Int} {xs : List Int} {x : Int} (hx : 0 ≤ x ∧ x < n) : ∀ j, 0 ≤ lastAt n xs x j ∧ lastAt n xs x j < n + j
  | 0 => by unfold lastAt; omega
  | j + 1 => by
    have := lastAt_lt (xs := xs) hx j
    unfold lastAt
    split <;> omega
theorem coordI_lt {n : Int} {xs : List Int} (hn : 0 ≤ n) (hs : ∀ i (hi : i < xs.length), xs[i] < n) {i : Nat} (hi : i < xs.length) : 0 ≤ coordI n xs i ∧ coordI n xs i ≤ n + i := by
  unfold coordI
  rw [List.getElem?_eq_getElem hi]
  simp only
  have h1 := hs i hi
  split
  · omega
  · have := lastAt_lt (n := n) (xs := xs) (x := xs[i]) (by omega) i
    omega
theorem co_val {n : Nat} {xs : List Int} (hs : ∀ i (hi : i < xs.length), xs[i] < (n : Int)) {i : Nat} (hi : i < xs.length) : coordI n xs i = (co n xs i : Nat) ∧ co n xs i < n + xs.length := by
  have := coordI_lt (n := (n : Int)) (by omega) hs hi
  unfold co
  omega
theorem drawAt_nat {ds : List Int} {t : Nat} (h : t < ds.length) : drawAt ds (t : Int) = ds[t] := by
  unfold drawAt
  simp [h]
theorem l_spec_SeqCounts_0 (M : Mem) (q b lo : Nat) (a : Option Addr) (c : Nat) (ids : List Int) (h : Rep (.sl ty_Int) M [.slice a ids.length c] ids) (hs : seqB (b : Int) ids = true) (hq : q ≤ 2) (h12 : q * (b + ids.length) ≤ 12) (hlo : M.length ≤ lo) (hb1 : b ≤ 256) (hm : ids.length ≤ 700)
    (Z : Mem) (hp0 : M <+: Z) (hb0 : Z[lo]? = some ⟨tallyC (fun k => atF (fun i => k / (2 ^ q) ^ co b ids i % 2 ^ q) (2 ^ q) ids.length) ((2 ^ q) ^ ids.length) 0, 1, 2⟩) : ∀ K, K ≤ (2 ^ q) ^ (b + ids.length) →
    ∃ Y, M <+: Y ∧ Y[lo]? = some ⟨tallyC (fun k => atF (fun i => k / (2 ^ q) ^ co b ids i % 2 ^ q) (2 ^ q) ids.length) ((2 ^ q) ^ ids.length) K, 1, 2⟩ ∧ lp (aCall T0) K_spec_SeqCounts_0 L_spec_SeqCounts_0 [.int .i64 (b : Int), .int .i64 (q : Int), .slice a ids.length c, und, und, und, und, .int .i64 ((2 ^ q : Nat) : Int), .slice (some ⟨lo, 0, none⟩) ((2 ^ q) ^ ids.length) ((2 ^ q) ^ ids.length), .int .i64 0, und, und, und, und, und, und, und, und, und, und, und, und, und, und, und, und, und, und, und, und, und, und, und, und, und, und, und, und, und, und, und, und, und, und, und, und, und, und, und, und, und, und, und, und, und, und, und, und, und, und, und, und, und, und, und, und, und, und, und, und, und, und, und, und, und, und, und, und, und, und, und, und, und, und, und, und, und, und, und, und, und, und, und, und, und, und, und, und, und, und, und, und, und] Z = lp (aCall T0) K_spec_SeqCounts_0 L_spec_SeqCounts_0 [.int .i64 (b : Int), .int .i64 (q : Int), .slice a ids.length c, und, und, und, und, .int .i64 ((2 ^ q : Nat) : Int), .slice (some ⟨lo, 0, none⟩) ((2 ^ q) ^ ids.length) ((2 ^ q) ^ ids.length), .int .i64 (K : Int), und, und, und, und, und, und, und, und, und, und, und, und, und, und, und, und, und, und, und, und, und, und, und, und, und, und, und, und, und, und, und, und, und, und, und, und, und, und, und, und, und, und, und, und, und, und, und, und, und, und, und, und, und, und, und, und, und, und, und, und, und, und, und, und, und, und, und, und, und, und, und, und, und, und, und, und, und, und, und, und, und, und, und, und, und, und, und, und, und, und, und, und, und] Y
  | 0, _ => ⟨Z, hp0, hb0, rfl⟩
  | K + 1, hK => by
    obtain ⟨Y, hp, hb, e⟩ := l_spec_SeqCounts_0 M q b lo a c ids h hs hq h12 hlo hb1 hm Z hp0 hb0 K (by omega)
    obtain ⟨n0, n1, _, hlt⟩ := seq_lt hs
    obtain ⟨s, hsd⟩ : ∃ s, s = 2 ^ q := ⟨_, rfl⟩
    have hs0 : 0 < s := by rw [hsd]; exact Nat.pow_pos (by decide)
    have hs4 : s ≤ 4 := by rw [hsd]; exact Nat.pow_le_pow_right (n := 2) (by decide) hq
    have hsN : s ^ (b + ids.length) ≤ 4096 := by rw [hsd, ← Nat.pow_mul]; exact Nat.pow_le_pow_right (n := 2) (by decide) h12
    have hsm : s ^ ids.length ≤ 4096 := Nat.le_trans (Nat.pow_le_pow_right hs0 (by omega)) hsN
    have hpw := c_spec_l02Pow Y (q * (b + ids.length)) (by omega)
    have hp2 : ((2 : Int) ^ (q * (b + ids.length))) = ((s ^ (b + ids.length) : Nat) : Int) := by rw [pow2_cast, hsd, Nat.pow_mul]
    rw [hp2] at hpw
    rw [← hsd] at hb e hK ⊢
    have hK4 : K ≤ 4096 := by omega
    obtain ⟨v1, Y1, ⟨L1, g1, nd1, hf1, hp1⟩, e1⟩ := l_spec_SeqCounts_1 Y (.int .i64 (b : Int)) (.int .i64 (q : Int)) (.slice a ids.length c) (.slice (some ⟨lo, 0, none⟩) (s ^ ids.length) (s ^ ids.length)) (.int .i64 (K : Int)) s K (b + ids.length) b ids.length a c rfl rfl rfl hs0 hs4 hK4 hb1 hm (b + ids.length) (Nat.le_refl _)
    obtain ⟨a1, rfl⟩ := g1.shape
    have hdl := digs_len s K (b + ids.length)
    obtain ⟨Y2, u2, p2, e2, r2⟩ := d_spec_PathSeq Y1 b q _ ids (h.mono (hp.trans hp1)) (by omega) _ (digs s K (b + ids.length)) g1.rep (by rw [hdl]; omega)
    have hdr : ∀ x ∈ digs s K (b + ids.length), 0 ≤ x ∧ x ≤ 65535 := fun x hx => by
      obtain ⟨j, _, rfl⟩ := List.mem_map.1 hx
      have := Nat.mod_lt (K / s ^ j) hs0
      omega
    have hpo : pathOk b q ids (digs s K (b + ids.length)) = true := by
      unfold pathOk logB drsB
      rw [hs, hdl]
      simp only [Bool.true_and, Bool.and_eq_true, decide_eq_true_eq, List.all_eq_true]
      refine ⟨⟨by omega, by omega⟩, by omega, fun x hx => ?_⟩
      have := hdr x hx
      unfold drB
      simp [this.1, this.2]
    rw [hpo] at e2
    unfold pathR at r2
    rw [if_pos hpo] at r2
    have hpl : (pathsI b q ids (digs s K (b + ids.length))).length = ids.length := by simp [pathsI]
    have hxs : ∀ i (hi : i < (pathsI b q ids (digs s K (b + ids.length))).length), (pathsI b q ids (digs s K (b + ids.length)))[i] = ((K / s ^ co b ids i % s : Nat) : Int) := fun i hi => by
      have hi2 : i < ids.length := by omega
      have hcv := co_val hlt hi2
      have hdv : drawAt (digs s K (b + ids.length)) (coordI b ids i) = ((K / s ^ co b ids i % s : Nat) : Int) := by
        rw [hcv.1, drawAt_nat (by rw [hdl]; omega)]
        simp [digs]
      simp only [pathsI, List.getElem_map, List.getElem_range, pathI, hdv]
      have hml := Nat.mod_lt (K / s ^ co b ids i) hs0
      generalize K / s ^ co b ids i % s = r at hml
      unfold leafI
      have hdb : drB (r : Int) = true := by unfold drB; simp; omega
      rw [if_pos ⟨hdb, by omega, by omega⟩]
      simp only [Int.toNat_natCast]
      rw [← hsd, Nat.mod_eq_of_lt hml]
    have e3 := l_spec_SeqCounts_2 Y2 (.int .i64 (b : Int)) (.int .i64 (q : Int)) (.slice a ids.length c) (.slice (some ⟨lo, 0, none⟩) (s ^ ids.length) (s ^ ids.length)) (.int .i64 (K : Int)) u2 _ r2 (fun i => K / s ^ co b ids i % s) s hxs (fun i => Nat.mod_lt _ hs0) hs4 (by rw [hpl]; exact hsm) (by rw [hpl]; exact hm)
    rw [hpl] at e3
    rw [hdl] at e1 e2
    obtain ⟨F, hF⟩ : ∃ F : Nat → Nat, F = fun k => atF (fun i => k / s ^ co b ids i % s) s ids.length := ⟨_, rfl⟩
    obtain ⟨C, hC⟩ : ∃ C, C = s ^ ids.length := ⟨_, rfl⟩
    have hFK : F K < C := by rw [hF, hC]; exact atF_lt (fun i => Nat.mod_lt _ hs0) _
    have hFe : atF (fun i => K / s ^ co b ids i % s) s ids.length = F K := by rw [hF]
    rw [hFe] at e3
    rw [← hF, ← hC] at hb ⊢
    rw [← hC] at e1 e3 e
    have hb2 := get_pre (hp1.trans p2) hb
    have hg := tallyC_get F C K (F K) hFK
    have hst := tallyC_set F C K hFK
    have hle := cn_le (fun k => decide (F k = F K)) K
    have hlen := tallyC_len F C K
    generalize cn (fun k => decide (F k = F K)) K = z at hg hst hle
    generalize F K = t at hFK e3 hg hst
    have wz : IntKind.i64.wrap ((z : Int) + 1) = (z : Int) + 1 := wrap_i64 (by omega) (by omega)
    have wk : IntKind.i64.wrap ((K : Int) + 1) = (K : Int) + 1 := wrap_i64 (by omega) (by omega)
    have hwr : wrn Y2 lo t [.int .i64 ((z : Int) + 1)] = some (Y2.set lo ⟨tallyC F C (K + 1), 1, 2⟩) := by
      rw [show ((z : Int) + 1) = ((z + 1 : Nat) : Int) by omega, wrn_eq hb2 rfl (by show t + 1 ≤ (tallyC F C K).length; omega) rfl, ← hst]
    have hrd : rd1 Y2 lo t = some (.int .i64 (z : Int)) := by rw [rd1_K, hb2, rdJ_ok]; exact hg
    refine ⟨Y2.set lo ⟨tallyC F C (K + 1), 1, 2⟩, pf_set hlo (hp.trans (hp1.trans p2)), gs_of hb2 _, ?_⟩
    rw [e]
    have w1 : IntKind.i64.wrap ((b : Int) + ids.length) = ((b + ids.length : Nat) : Int) := by rw [wrap_i64 (by omega) (by omega)]; omega
    have w2 : IntKind.i64.wrap ((q : Int) * ((b + ids.length : Nat) : Int)) = ((q * (b + ids.length) : Nat) : Int) := by rw [← Int.natCast_mul]; exact wrap_i64 (by omega) (by omega)
    have hKlt : (K : Int) < ((s ^ (b + ids.length) : Nat) : Int) := by omega
    generalize s ^ (b + ids.length) = SN at hpw hKlt
    generalize hqn : q * (b + ids.length) = QN at hpw w2
    have hti : (t : Int) < C := by omega
    generalize hN : b + ids.length = N at *
    generalize K / s ^ N = KX at e1
    have hNN : ¬ ((N : Int) < N) := by omega
    have hNn : ¬ (N < N) := by omega
    rw [S_spec_SeqCounts_0]; unfold B_spec_SeqCounts_0; simp [thenD_pp, sliceCells_sl, sliceCells_z, sliceCells_nil, take_full, appS_sl, appK_ok, appS_none, thenD_ag, agP_nil, agP_cons, w1, w2, hpw, hKlt, zeroCells, e1]
    rw [S_spec_SeqCounts_1]; unfold B_spec_SeqCounts_1; simp [thenD_pp, sliceCells_sl, sliceCells_z, sliceCells_nil, take_full, appS_sl, appK_ok, appS_none, thenD_ag, agP_nil, agP_cons, w1, hNN, hNn]
    simp [thenD_pp, sliceCells_sl, sliceCells_z, sliceCells_nil, take_full, appS_sl, appK_ok, appS_none, thenD_ag, agP_nil, agP_cons, e2, e3]
    obtain ⟨au, cu, rfl⟩ := r2.slen
    rw [hpl]
    rw [S_spec_SeqCounts_2]; unfold B_spec_SeqCounts_2; simp [thenD_pp, sliceCells_sl, sliceCells_z, sliceCells_nil, take_full, appS_sl, appK_ok, appS_none, thenD_ag, agP_nil, agP_cons]
    simp [thenD_pp, sliceCells_sl, sliceCells_z, sliceCells_nil, take_full, appS_sl, appK_ok, appS_none, thenD_ag, agP_nil, agP_cons, hFK, hrd, wz, hwr, wk]
theorem cn_congr {f g : Nat → Bool} : ∀ {n : Nat}, (∀ i, i < n → f i = g i) → cn f n = cn g n
  | 0, _ => rfl
  | n + 1, h => by
    unfold cn
    rw [cn_congr (n := n) (fun i hi => h i (by omega)), h n (by omega)]
/-- The digits that are told. -/
def okD (s : Nat) (con : Nat → Option Nat) : Nat → Nat → Bool
  | 0, _ => true
  | N + 1, k => okD s con N k && match con N with
    | some v => decide (k / s ^ N % s = v)
    | none => true
theorem cn_add (f : Nat → Bool) (a : Nat) : ∀ b, cn f (a + b) = cn f a + cn (fun i => f (a + i)) b
  | 0 => rfl
  | b + 1 => by
    show cn f (a + b) + (if f (a + b) = true then 1 else 0) = cn f a + (cn (fun i => f (a + i)) b + (if f (a + b) = true then 1 else 0))
    rw [cn_add f a b]
    omega
theorem cn_false : ∀ n, cn (fun _ => false) n = 0
  | 0 => rfl
  | n + 1 => by
    unfold cn
    rw [cn_false n]
    rfl
def frN (con : Nat → Option Nat) : Nat → Nat
  | 0 => 0
  | N + 1 => frN con N + if con N = none then 1 else 0
theorem okD_low {s : Nat} (hs : 0 < s) (con : Nat → Option Nat) (M d k : Nat) : ∀ N, N ≤ M → okD s con N (d * s ^ M + k) = okD s con N k
  | 0, _ => rfl
  | N + 1, h => by
    unfold okD
    rw [okD_low hs con M d k N (by omega)]
    congr 1
    have e : d * s ^ M + k = k + (d * s ^ (M - (N + 1))) * s ^ (N + 1) := by
      rw [Nat.mul_assoc, ← Nat.pow_add]
      have : M - (N + 1) + (N + 1) = M := by omega
      rw [this, Nat.add_comm]
    have e2 : (d * s ^ M + k) / s ^ N % s = k / s ^ N % s := by
      rw [e, Nat.pow_succ, ← Nat.mul_assoc, Nat.mul_right_comm, Nat.add_mul_div_right _ _ (Nat.pow_pos hs), Nat.add_mul_mod_self_right]
    rw [e2]
theorem okD_top {s : Nat} (con : Nat → Option Nat) (N d k : Nat) (hd : d < s) (hk : k < s ^ N) : okD s con (N + 1) (d * s ^ N + k) = (okD s con N k && match con N with
    | some v => decide (d = v)
    | none => true) := by
  have hs : 0 < s := by omega
  rw [okD, okD_low hs con N d k N (Nat.le_refl _)]
  have : (d * s ^ N + k) / s ^ N % s = d := by
    rw [Nat.add_comm, Nat.add_mul_div_right _ _ (Nat.pow_pos hs), Nat.div_eq_of_lt hk, Nat.zero_add, Nat.mod_eq_of_lt hd]
  rw [this]
theorem cn_okD {s : Nat} (hs : 0 < s) (con : Nat → Option Nat) (hv : ∀ p v, con p = some v → v < s) : ∀ N, cn (okD s con N) (s ^ N) = s ^ frN con N
  | 0 => by
    show cn (okD s con 0) 1 = 1
    rfl
  | N + 1 => by
    have ih := cn_okD hs con hv N
    have key : ∀ d, d ≤ s → cn (okD s con (N + 1)) (d * s ^ N) = (match con N with
      | some v => if v < d then 1 else 0
      | none => d) * cn (okD s con N) (s ^ N) := by
      intro d
      induction d with
      | zero =>
        intro _
        rw [Nat.zero_mul]
        cases con N <;> simp [cn]
      | succ d ihd =>
        intro hd
        rw [Nat.succ_mul, cn_add, ihd (by omega)]
        have e : cn (fun i => okD s con (N + 1) (d * s ^ N + i)) (s ^ N) = cn (fun i => okD s con N i && match con N with
          | some v => decide (d = v)
          | none => true) (s ^ N) := cn_congr fun i hi => okD_top con N d i (by omega) hi
        rw [e]
        cases hc : con N with
        | none =>
          simp only [Bool.and_true]
          rw [Nat.succ_mul]
        | some v =>
          simp only
          by_cases hdv : d = v
          · subst hdv
            simp
          · have : cn (fun i => okD s con N i && decide (d = v)) (s ^ N) = 0 := by
              rw [show (fun i => okD s con N i && decide (d = v)) = fun _ => false from funext fun i => by rw [decide_eq_false hdv, Bool.and_false]]
              exact cn_false _
            rw [this, Nat.add_zero]
            by_cases h1 : v < d
            · rw [if_pos h1, if_pos (by omega)]
            · rw [if_neg h1, if_neg (by omega)]
    have := key s (Nat.le_refl _)
    have hp : s ^ (N + 1) = s * s ^ N := by rw [Nat.pow_succ, Nat.mul_comm]
    rw [hp, this, ih, frN]
    cases hc : con N with
    | none =>
      simp only [if_true]
      rw [Nat.pow_succ, Nat.mul_comm]
    | some v =>
      simp only
      rw [if_pos (hv N v hc), if_neg (by simp)]
      simp
def conF (c w : Nat → Nat) : Nat → Nat → Option Nat
  | 0, _ => none
  | i + 1, p => if c i = p then some (w i) else conF c w i p
theorem conF_at {c : Nat → Nat} (w : Nat → Nat) : ∀ {m : Nat}, (∀ i j, i < j → j < m → c i ≠ c j) → ∀ i, i < m → conF c w m (c i) = some (w i)
  | 0, _, i, h => by omega
  | m + 1, inj, i, h => by
    unfold conF
    by_cases e : i = m
    · subst e; rw [if_pos rfl]
    · rw [if_neg (fun q => inj i m (by omega) (by omega) q.symm)]
      exact conF_at w (fun a b hab hb => inj a b hab (by omega)) i (by omega)
theorem conF_some {c w : Nat → Nat} : ∀ {m p v : Nat}, conF c w m p = some v → ∃ i, i < m ∧ c i = p ∧ v = w i
  | 0, _, _, h => by simp [conF] at h
  | m + 1, p, v, h => by
    unfold conF at h
    by_cases e : c m = p
    · rw [if_pos e] at h
      exact ⟨m, by omega, e, (Option.some.inj h).symm⟩
    · rw [if_neg e] at h
      obtain ⟨i, h1, h2⟩ := conF_some h
      exact ⟨i, by omega, h2⟩
def upF {α : Type} (f : Nat → α) (d : Nat) (x : α) : Nat → α := fun t => if t = d then x else f t
def usB (us : Nat → Nat) : Nat → Nat → Bool
  | 0 => fun _ => false
  | i + 1 => upF (usB us i) (us i) true
theorem conF_none {c w : Nat → Nat} : ∀ {m p : Nat}, conF c w m p = none ↔ usB c m p = false
  | 0, p => by simp [conF, usB]
  | m + 1, p => by
    unfold conF usB upF
    by_cases e : c m = p
    · subst e; simp
    · rw [if_neg e, if_neg (fun q => e q.symm)]
      exact conF_none
def freeL (us : Nat → Nat) (k N : Nat) : List Nat := (List.range N).filter fun t => !usB us k t
theorem freeL_succ (us : Nat → Nat) (k i : Nat) : (freeL us k (i + 1)).length = (freeL us k i).length + (if usB us k i then 0 else 1) := by
  unfold freeL
  rw [List.range_succ, List.filter_append, List.length_append]
  cases h : usB us k i <;> simp [h]
theorem frN_free {c w : Nat → Nat} {m : Nat} : ∀ N, frN (conF c w m) N = (freeL c m N).length
  | 0 => rfl
  | N + 1 => by
    rw [freeL_succ, frN, frN_free N]
    congr 1
    cases h : usB c m N with
    | true => rw [if_neg (fun q => by rw [conF_none] at q; rw [h] at q; cases q)]; rfl
    | false => rw [if_pos (conF_none.2 h)]; rfl
theorem okD_all {s : Nat} {con : Nat → Option Nat} {k : Nat} : ∀ {N : Nat}, okD s con N k = true ↔ ∀ p v, p < N → con p = some v → k / s ^ p % s = v
  | 0 => by simp [okD]
  | N + 1 => by
    unfold okD
    rw [Bool.and_eq_true, okD_all]
    constructor
    · rintro ⟨h1, h2⟩ p v hp hc
      by_cases e : p = N
      · subst e
        rw [hc] at h2
        exact of_decide_eq_true h2
      · exact h1 p v (by omega) hc
    · intro h
      refine ⟨fun p v hp => h p v (by omega), ?_⟩
      cases hc : con N with
      | none => rfl
      | some v => exact decide_eq_true (h N v (by omega) hc)
theorem atF_iff {g : Nat → Nat} {s : Nat} (hg : ∀ i, g i < s) : ∀ (m t : Nat), t < s ^ m → (atF g s m = t ↔ ∀ i, i < m → g i = t / s ^ (m - 1 - i) % s)
  | 0, t, ht => by
    simp at ht
    subst ht
    simp [atF]
  | m + 1, t, ht => by
    have hs : 0 < s := by have := hg 0; omega
    have ih := atF_iff hg m (t / s) (by rw [Nat.div_lt_iff_lt_mul hs]; rw [← Nat.pow_succ]; exact ht)
    have hd : ∀ i, i < m → t / s / s ^ (m - 1 - i) = t / s ^ (m + 1 - 1 - i) := fun i hi => by
      rw [Nat.div_div_eq_div_mul, Nat.mul_comm, ← Nat.pow_succ]
      congr 2
      omega
    unfold atF
    constructor
    · intro h i hi
      have h1 : t / s = atF g s m := by rw [← h, Nat.mul_add_div hs, Nat.div_eq_of_lt (hg m), Nat.add_zero]
      have h2 : t % s = g m := by rw [← h, Nat.mul_add_mod, Nat.mod_eq_of_lt (hg m)]
      by_cases e : i = m
      · subst e
        rw [← h2]
        simp
      · rw [← hd i (by omega)]
        exact (ih.1 h1.symm) i (by omega)
    · intro h
      have h1 : atF g s m = t / s := ih.2 fun i hi => by rw [hd i hi]; exact h i (by omega)
      have h2 : g m = t % s := by
        have := h m (by omega)
        simpa using this
      rw [h1, h2]
      exact Nat.div_add_mod t s
theorem usB_iff (us : Nat → Nat) (k t : Nat) : usB us k t = true ↔ ∃ i, i < k ∧ us i = t := by
  induction k with
  | zero => simp [usB]
  | succ k ih =>
    simp only [usB, upF]
    by_cases e : t = us k
    · rw [if_pos e]
      exact ⟨fun _ => ⟨k, by omega, e.symm⟩, fun _ => rfl⟩
    · rw [if_neg e, ih]
      constructor
      · rintro ⟨i, h1, h2⟩; exact ⟨i, by omega, h2⟩
      · rintro ⟨i, h1, h2⟩
        refine ⟨i, ?_, h2⟩
        rcases Nat.lt_or_ge i k with h | h
        · exact h
        · exact absurd (by rw [← h2, show i = k by omega]) e
theorem free_count (us : Nat → Nat) (N : Nat) : ∀ k, (∀ i, i < k → us i < N) → (∀ i j, i < j → j < k → us i ≠ us j) → (freeL us k N).length + k = N := by
  intro k
  induction k with
  | zero =>
    intro _ _
    unfold freeL usB
    rw [List.filter_eq_self.2 (by simp)]
    simp
  | succ k ih =>
    intro h1 h2
    have ih := ih (fun i hi => h1 i (by omega)) (fun i j hij hj => h2 i j hij (by omega))
    have hf : usB us k (us k) = false := by
      cases h : usB us k (us k) with
      | false => rfl
      | true =>
        obtain ⟨i, q1, q2⟩ := (usB_iff us k (us k)).1 h
        exact absurd q2 (h2 i k q1 (by omega))
    have hmem : us k ∈ freeL us k N := by
      unfold freeL
      rw [List.mem_filter]
      exact ⟨List.mem_range.2 (h1 k (by omega)), by simp [hf]⟩
    have hnd : (freeL us k N).Nodup := List.Pairwise.filter _ List.nodup_range
    have e : freeL us (k + 1) N = (freeL us k N).erase (us k) := by
      rw [List.Nodup.erase_eq_filter hnd]
      unfold freeL
      rw [List.filter_filter]
      apply List.filter_congr
      intro t _
      simp only [usB, upF]
      by_cases q : t = us k
      · simp [q]
      · simp [q]
    rw [e, List.length_erase_of_mem hmem]
    have := List.length_pos_of_mem hmem
    omega
/-- Each sequence of leaves comes from equally many lists of draws. -/
theorem even_count {s m N : Nat} (hs : 0 < s) (c : Nat → Nat) (hc : ∀ i, i < m → c i < N) (inj : ∀ i j, i < j → j < m → c i ≠ c j) (t : Nat) (ht : t < s ^ m) :
    cn (fun k => decide (atF (fun i => k / s ^ c i % s) s m = t)) (s ^ N) = s ^ (N - m) := by
  have hw : ∀ p v, conF c (fun i => t / s ^ (m - 1 - i) % s) m p = some v → v < s := fun p v h => by
    obtain ⟨i, _, _, rfl⟩ := conF_some h
    exact Nat.mod_lt _ hs
  have e : ∀ k, decide (atF (fun i => k / s ^ c i % s) s m = t) = okD s (conF c (fun i => t / s ^ (m - 1 - i) % s) m) N k := fun k => by
    rw [Bool.eq_iff_iff, decide_eq_true_eq, atF_iff (fun i => Nat.mod_lt _ hs) m t ht, okD_all]
    constructor
    · intro h p v hp hcv
      obtain ⟨i, hi, rfl, rfl⟩ := conF_some hcv
      exact h i hi
    · intro h i hi
      exact h (c i) _ (hc i hi) (conF_at _ inj i hi)
  rw [cn_congr (fun k _ => e k), cn_okD hs _ hw N, frN_free]
  have := free_count c N m hc inj
  congr 1
  omega
theorem lastAt_spec (n : Int) (xs : List Int) (x : Int) : ∀ j, (∃ i, i < j ∧ xs[i]? = some x ∧ (∀ t, i < t → t < j → xs[t]? ≠ some x) ∧ lastAt n xs x j = n + i) ∨ ((∀ t, t < j → xs[t]? ≠ some x) ∧ lastAt n xs x j = x)
  | 0 => .inr ⟨fun t ht => by omega, rfl⟩
  | j + 1 => by
    by_cases h : xs[j]? = some x
    · left
      refine ⟨j, by omega, h, fun t h1 h2 => by omega, ?_⟩
      unfold lastAt
      rw [if_pos h]
    · have e : lastAt n xs x (j + 1) = lastAt n xs x j := by
        rw [lastAt, if_neg h]
      rw [e]
      rcases lastAt_spec n xs x j with ⟨i, h1, h2, h3, h4⟩ | ⟨h1, h2⟩
      · left
        refine ⟨i, by omega, h2, fun t q1 q2 => ?_, h4⟩
        by_cases q : t = j
        · subst q; exact h
        · exact h3 t q1 (by omega)
      · right
        refine ⟨fun t q => ?_, h2⟩
        by_cases q2 : t = j
        · subst q2; exact h
        · exact h1 t (by omega)
theorem coord_inj {n : Nat} {xs : List Int} (hs : ∀ i (hi : i < xs.length), xs[i] < (n : Int)) {i j : Nat} (hij : i < j) (hj : j < xs.length) : coordI n xs i ≠ coordI n xs j := by
  have hi : i < xs.length := by omega
  have h1 := hs i hi
  have h2 := hs j hj
  have ei : coordI n xs i = if xs[i] < 0 then (n : Int) + i else lastAt n xs xs[i] i := by unfold coordI; rw [List.getElem?_eq_getElem hi]
  have ej : coordI n xs j = if xs[j] < 0 then (n : Int) + j else lastAt n xs xs[j] j := by unfold coordI; rw [List.getElem?_eq_getElem hj]
  have gi : xs[i]? = some xs[i] := List.getElem?_eq_getElem hi
  rw [ei, ej]
  by_cases hj0 : xs[j] < 0
  · rw [if_pos hj0]
    split
    · omega
    · have := lastAt_lt (n := (n : Int)) (xs := xs) (x := xs[i]) (by omega) i
      omega
  · rw [if_neg hj0]
    rcases lastAt_spec n xs xs[j] j with ⟨j', q1, q2, q3, q4⟩ | ⟨q1, q2⟩
    · rw [q4]
      split
      · rename_i hi0
        intro e
        have : i = j' := by omega
        subst this
        rw [gi] at q2
        have := Option.some.inj q2
        omega
      · rename_i hi0
        rcases lastAt_spec n xs xs[i] i with ⟨i', p1, p2, p3, p4⟩ | ⟨p1, p2⟩
        · rw [p4]
          intro e
          have : i' = j' := by omega
          subst this
          rw [p2] at q2
          have e2 : xs[i] = xs[j] := Option.some.inj q2
          exact q3 i (by omega) hij (by rw [gi, e2])
        · rw [p2]; omega
    · rw [q2]
      split
      · omega
      · rename_i hi0
        rcases lastAt_spec n xs xs[i] i with ⟨i', p1, p2, p3, p4⟩ | ⟨p1, p2⟩
        · rw [p4]; omega
        · rw [p2]
          intro e
          exact q1 i hij (by rw [gi, e])
theorem tally_end (q b : Nat) (ids : List Int) (hs : seqB (b : Int) ids = true) : tallyC (fun k => atF (fun i => k / (2 ^ q) ^ co b ids i % 2 ^ q) (2 ^ q) ids.length) ((2 ^ q) ^ ids.length) ((2 ^ q) ^ (b + ids.length)) = List.replicate (2 ^ (q * ids.length)) (.int .i64 ((2 : Int) ^ (q * b))) := by
  obtain ⟨_, _, _, hlt⟩ := seq_lt hs
  have hs0 : 0 < 2 ^ q := Nat.pow_pos (by decide)
  have hc : ∀ i, i < ids.length → co b ids i < b + ids.length := fun i hi => (co_val hlt hi).2
  have inj : ∀ i j, i < j → j < ids.length → co b ids i ≠ co b ids j := fun i j hij hj e => coord_inj hlt hij hj (by rw [(co_val hlt (i := i) (by omega)).1, (co_val hlt hj).1, e])
  refine List.ext_getElem (by rw [tallyC_len, List.length_replicate, Nat.pow_mul]) fun t h1 h2 => ?_
  rw [tallyC_len] at h1
  have hc2 := even_count hs0 (co b ids) hc inj t h1
  have e : b + ids.length - ids.length = b := by omega
  rw [e] at hc2
  simp only [tallyC, List.getElem_map, List.getElem_range, List.getElem_replicate]
  rw [hc2, ← Nat.pow_mul, ← pow2_cast]
theorem d_spec_SeqCounts (M : Mem) (n l : Int) (v : V) (ids : List Int) (h : Rep (.sl ty_Int) M [v] ids) (hb : Bd 1048576 (.sl ty_Int) ids) :
    ∃ M' u, M <+: M' ∧ aCall T0 F_spec_SeqCounts [.int .i64 n, .int .i64 l, v] M = some (u, M') ∧ Rep (.sl ty_Int) M' [u] (sqR n l ids) := by
  have g1 := c_spec_l15Right M n v ids h
  obtain ⟨a, c, rfl⟩ := h.slen
  have nil : sqOk n l ids = false → Rep (.sl ty_Int) M [(.slice none 0 0 : V)] (sqR n l ids) := fun hs => by
    unfold sqR
    rw [hs]
    exact .inl ⟨rfl, rfl⟩
  cases hs : seqB n ids with
  | false =>
    rw [hs] at g1
    refine ⟨M, .slice none 0 0, List.prefix_refl _, ?_, nil (by unfold sqOk; rw [hs]; rfl)⟩
    rw [aCall_eq T_spec_SeqCounts]; unfold A_spec_SeqCounts C_spec_SeqCounts; simp [thenD_pp, sliceCells_sl, sliceCells_z, sliceCells_nil, take_full, appS_sl, appK_ok, appS_none, thenD_ag, agP_nil, agP_cons, g1]
  | true =>
  rw [hs] at g1
  by_cases hw0 : l < 0
  · refine ⟨M, .slice none 0 0, List.prefix_refl _, ?_, nil (by unfold sqOk; rw [decide_eq_false (show ¬ (0 ≤ l) by omega)]; simp)⟩
    rw [aCall_eq T_spec_SeqCounts]; unfold A_spec_SeqCounts C_spec_SeqCounts; simp [thenD_pp, sliceCells_sl, sliceCells_z, sliceCells_nil, take_full, appS_sl, appK_ok, appS_none, thenD_ag, agP_nil, agP_cons, g1, hw0]
  by_cases hw1 : 2 < l
  · refine ⟨M, .slice none 0 0, List.prefix_refl _, ?_, nil (by unfold sqOk; rw [decide_eq_false (show ¬ (l ≤ 2) by omega)]; simp)⟩
    rw [aCall_eq T_spec_SeqCounts]; unfold A_spec_SeqCounts C_spec_SeqCounts; simp [thenD_pp, sliceCells_sl, sliceCells_z, sliceCells_nil, take_full, appS_sl, appK_ok, appS_none, thenD_ag, agP_nil, agP_cons, g1, hw0, hw1]
  obtain ⟨n0, n1, hm7, _⟩ := seq_lt hs
  obtain ⟨b, rfl⟩ := Int.eq_ofNat_of_zero_le n0
  obtain ⟨q, rfl⟩ := Int.eq_ofNat_of_zero_le (show 0 ≤ l by omega)
  have hwt : (decide (0 ≤ (q : Int)) && decide ((q : Int) ≤ 2)) = true := by
    rw [decide_eq_true (show 0 ≤ (q : Int) by omega), decide_eq_true (show (q : Int) ≤ 2 by omega)]
    rfl
  have w1 : IntKind.i64.wrap ((b : Int) + ids.length) = b + ids.length := wrap_i64 (by omega) (by omega)
  have hmul : ∀ x : Nat, (x : Int) ≤ 1000 → (q : Int) * x ≤ 2000 ∧ 0 ≤ (q : Int) * x := fun x hx => by
    have : q * x ≤ 2 * 1000 := Nat.mul_le_mul (by omega) (by omega)
    have e : ((q * x : Nat) : Int) = (q : Int) * x := Int.natCast_mul q x
    omega
  have hsum := hmul (b + ids.length) (by omega)
  have w2 : IntKind.i64.wrap ((q : Int) * ((b : Int) + ids.length)) = (q : Int) * ((b : Int) + ids.length) := wrap_i64 (by have := hsum.2; simp at this ⊢; omega) (by have := hsum.1; simp at this ⊢; omega)
  by_cases h12 : 12 < (q : Int) * ((b : Int) + ids.length)
  · refine ⟨M, .slice none 0 0, List.prefix_refl _, ?_, nil (by unfold sqOk; rw [decide_eq_false (show ¬ ((q : Int) * ((b : Int) + ids.length) ≤ 12) by omega), Bool.and_false])⟩
    rw [aCall_eq T_spec_SeqCounts]; unfold A_spec_SeqCounts C_spec_SeqCounts; simp [thenD_pp, sliceCells_sl, sliceCells_z, sliceCells_nil, take_full, appS_sl, appK_ok, appS_none, thenD_ag, agP_nil, agP_cons, g1, hw0, hw1, w1, w2, h12]
  have h12n : q * (b + ids.length) ≤ 12 := by
    have e : ((q * (b + ids.length) : Nat) : Int) = (q : Int) * ((b : Int) + ids.length) := by simp
    omega
  have hqb : q * b ≤ 12 := Nat.le_trans (Nat.mul_le_mul_left q (by omega)) h12n
  have hqm : q * ids.length ≤ 12 := Nat.le_trans (Nat.mul_le_mul_left q (by omega)) h12n
  have hok : sqOk b q ids = true := by
    unfold sqOk
    rw [hs, hwt, decide_eq_true (show (q : Int) * ((b : Int) + ids.length) ≤ 12 by omega)]
    rfl
  have hR : sqR b q ids = List.replicate (2 ^ (q * ids.length)) ((2 : Int) ^ (q * b)) := by
    unfold sqR
    rw [if_pos hok]
    rfl
  have w4 : IntKind.i64.wrap ((q : Int) * ids.length) = (q : Int) * ids.length := by rw [← Int.natCast_mul]; exact wrap_i64 (by omega) (by omega)
  have p1 := c_spec_l02Pow M q (by omega)
  have p2 := c_spec_l02Pow M (q * ids.length) (by omega)
  have p3 : ∀ N : Mem, aCall T0 F_spec_l02Pow [.int .i64 ((q * (b + ids.length) : Nat) : Int)] N = some (.int .i64 (2 ^ (q * (b + ids.length))), N) := fun N => c_spec_l02Pow N (q * (b + ids.length)) (by omega)
  have hz : tallyC (fun k => atF (fun i => k / (2 ^ q) ^ co b ids i % 2 ^ q) (2 ^ q) ids.length) ((2 ^ q) ^ ids.length) 0 = zc (.int .i64 0) ((2 ^ q) ^ ids.length) := by
    unfold tallyC cn
    simp only [zc]
    refine List.ext_getElem (by simp) fun t h1 h2 => by simp
  obtain ⟨Y, hp, hbl, e⟩ := l_spec_SeqCounts_0 M q b M.length a c ids h hs (by omega) h12n (Nat.le_refl _) (by omega) hm7 (M ++ [⟨zc (.int .i64 0) ((2 ^ q) ^ ids.length), 1, 2⟩]) (List.prefix_append _ _) (by rw [hz]; simp) ((2 ^ q) ^ (b + ids.length)) (Nat.le_refl _)
  rw [tally_end q b ids hs] at hbl
  rw [← Nat.pow_mul] at e
  have hc4 : 2 ^ (q * ids.length) ≤ 4096 := Nat.pow_le_pow_right (n := 2) (by decide) hqm
  have hSN : 2 ^ (q * (b + ids.length)) ≤ 4096 := Nat.pow_le_pow_right (n := 2) (by decide) h12n
  rw [pow2_cast] at p1 p2
  simp only [pow2_cast] at p3
  rw [← Nat.pow_mul] at e
  rw [Int.natCast_mul] at p2
  simp only [Int.natCast_mul, Int.natCast_add] at p3
  have hwf : (Lit.int .i64 ((2 : Int) ^ (q * b))).wf = true := by
    have h1 : (2 : Int) ^ (q * b) ≤ 4096 := by
      rw [pow2_cast]
      have : 2 ^ (q * b) ≤ 2 ^ 12 := Nat.pow_le_pow_right (by decide) hqb
      omega
    have h0 : (0 : Int) ≤ 2 ^ (q * b) := Int.pow_nonneg (by decide)
    exact wf_range (by omega)
  have hrep : Rep (.sl ty_Int) Y [.slice (some ⟨M.length, 0, none⟩) (2 ^ (q * ids.length)) (2 ^ (q * ids.length))] (sqR b q ids) := by
    rw [hR]
    have hfl : ((List.replicate (2 ^ (q * ids.length)) ((2 : Int) ^ (q * b))).map enc_Int).flatten = List.replicate (2 ^ (q * ids.length)) (.int .i64 ((2 : Int) ^ (q * b))) := by
      rw [List.map_replicate]
      generalize 2 ^ (q * ids.length) = k
      induction k with
      | zero => rfl
      | succ k ih => rw [List.replicate_succ, List.flatten_cons, ih, List.replicate_succ]; rfl
    obtain ⟨L, o, hL⟩ := own_blk (t := ty_Int) (M := Y) (l := M.length) (c := 2 ^ (q * ids.length)) (enc := enc_Int) (ys := List.replicate (2 ^ (q * ids.length)) ((2 : Int) ^ (q * b))) (by rw [hfl]; exact hbl) (fun y hy => by rw [List.eq_of_mem_replicate hy]; exact ⟨⟨rfl, hwf⟩, rfl⟩)
    rw [List.length_replicate] at o
    exact o.rep
  refine ⟨Y, _, hp, ?_, hrep⟩
  clear hrep hbl hR hz
  generalize 2 ^ (q * ids.length) = C at *
  generalize 2 ^ (q * (b + ids.length)) = SN at *
  generalize 2 ^ q = S at *
  have hx1 : (C : Int) ≤ 9223372036854775807 := by omega
  have hx2 : (C : Int) * 8 ≤ 281474976710656 := by omega
  have hnl : ¬ ((SN : Int) < SN) := by omega
  rw [aCall_eq T_spec_SeqCounts]; unfold A_spec_SeqCounts C_spec_SeqCounts; simp [thenD_pp, sliceCells_sl, sliceCells_z, sliceCells_nil, take_full, appS_sl, appK_ok, appS_none, thenD_ag, agP_nil, agP_cons, g1, hw0, hw1, w1, w2, h12, p1, p2, w4, hx1, hx2, e]
  rw [S_spec_SeqCounts_0]; unfold B_spec_SeqCounts_0; simp [thenD_pp, sliceCells_sl, sliceCells_z, sliceCells_nil, take_full, appS_sl, appK_ok, appS_none, thenD_ag, agP_nil, agP_cons, w1, w2, p3]
abbrev ty_Byte : Ty := .u8
theorem hits_ne {xs ys : List Nat} (h : ∀ x ∈ xs, ∀ y ∈ ys, x ≠ y) : hits xs ys = false := by
  unfold hits
  rw [List.any_eq_false]
  intro x hx
  simp only [Bool.not_eq_true]
  rw [List.any_eq_false]
  intro y hy
  have := h x hx y hy
  simp [this]
/-- The cursor's block, and how far it may have come. -/
def Cur (M0 : Mem) (p : Nat) (cv : V) (B : Int) (X : Mem) : Prop := M0 <+: X ∧ M0.length ≤ p ∧ ∃ at' seed : Int, X[p]? = some ⟨[cv, .int .i64 at', .int .i64 seed], 1, 2⟩ ∧ 0 ≤ at' ∧ at' ≤ B ∧ 0 ≤ seed ∧ seed ≤ 65520
theorem Cur.mono {M0 X : Mem} {p : Nat} {cv : V} {B B' : Int} (h : Cur M0 p cv B X) (hb : B ≤ B') : Cur M0 p cv B' X := by
  obtain ⟨h1, h2, a, s, h3, h4, h5, h6⟩ := h
  exact ⟨h1, h2, a, s, h3, h4, by omega, h6⟩
theorem Cur.lt {M0 X : Mem} {p : Nat} {cv : V} {B : Int} (h : Cur M0 p cv B X) : p < X.length := by
  obtain ⟨_, _, a, s, h3, _⟩ := h
  exact get_lt h3
theorem Cur.grow {M0 X X' : Mem} {p : Nat} {cv : V} {B : Int} (h : Cur M0 p cv B X) (hp : X <+: X') : Cur M0 p cv B X' := by
  obtain ⟨h1, h2, a, s, h3, h4⟩ := h
  exact ⟨h1.trans hp, h2, a, s, get_pre hp h3, h4⟩
/-- How the cursor is used: its code, and room enough. -/
structure CurH (M0 : Mem) (cv : V) : Prop where
  code : ∃ code : List UInt8, Rep (.sl ty_Byte) M0 [cv] code ∧ code.length ≤ 1048576
abbrev enc_Byte (x : ty_Byte.D) : List V := [byteV x]
theorem at_Byte {M : Mem} {a : Option Addr} {n c : Nat} {xs : List ty_Byte.D} (h : Rep (.sl ty_Byte) M [.slice a n c] xs) {i : Nat} (hi : i < xs.length) : ∃ l o, a = some ⟨l, o, none⟩ ∧ Rep ty_Byte M (enc_Byte xs[i]) xs[i] ∧ rd1 M l (o + i) = some (byteV xs[i]) := by
  obtain ⟨_, l, o, rfl, cs, hrd, hrep⟩ := rep_at h hi
  have hcs : cs = enc_Byte xs[i] := hrep
  subst hcs
  have hw1 : ty_Byte.w = 1 := rfl
  rw [hw1, Nat.mul_one] at hrd
  exact ⟨l, o, rfl, hrep, rd1_of_one hrd⟩
theorem gc_np {M M' : Mem} {v : V} (h : ¬ M <+: M') : gc M (some (v, M')) = some (v, M') := by
  simp only [gc]
  rw [if_neg (fun q => h q.2)]
/-- What a draw leaves: a number, the cursor further on. -/
def CurI (M0 : Mem) (p : Nat) (cv : V) (B : Int) (P : Int → Prop) (X : Mem) (r : V × Mem) : Prop := ∃ x : Int, r.1 = .int .i64 x ∧ P x ∧ Cur M0 p cv B r.2 ∧ Agree X r.2 [p]
theorem ag_refl (X : Mem) (w : List Nat) : Agree X X w := ⟨Nat.le_refl _, fun _ _ _ => rfl⟩
theorem agree_set {X : Mem} {p : Nat} (b : Blk) : Agree X (X.set p b) [p] := ⟨by simp, fun j _ hn => gt_set (by simp at hn; omega)⟩
theorem c_spec_l01Cur_pick (M0 X : Mem) (p : Nat) (cv : V) (code : List UInt8) (B n : Int) (hc : Rep (.sl ty_Byte) M0 [cv] code) (h : Cur M0 p cv B X) (hB : B ≤ 1000000000000) (hn : n ≤ 1000000000000) (hl : code.length ≤ 1048576) :
    Sat (aCall T0 F_spec_l01Cur_pick [.pointer (some ⟨p, 0, none⟩), .int .i64 n] X) (CurI M0 p cv (B + 1) (fun x => 0 ≤ x ∧ (x < n ∨ x = 0)) X) := by
  by_cases h2 : n < 2
  · rw [aCall_eq T_spec_l01Cur_pick]; unfold A_spec_l01Cur_pick C_spec_l01Cur_pick; simp [thenD_pp, sliceCells_sl, sliceCells_z, sliceCells_nil, take_full, appS_sl, appK_ok, appS_none, thenD_ag, agP_nil, agP_cons, h2]
    exact sat_some ⟨0, rfl, ⟨Int.le_refl _, .inr rfl⟩, h.mono (by omega), ag_refl _ _⟩
  obtain ⟨hp, hp0, a, s, hb, ha0, ha1, hs0, hs1⟩ := h
  have hcX := hc.mono hp
  obtain ⟨ca, cc, rfl⟩ := hc.slen
  have e1 : IntKind.i64.wrap (a + 1) = a + 1 := wrap_i64 (by omega) (by omega)
  have hn0 : n ≠ 0 := by omega
  have fin : ∀ x seed' : Int, 0 ≤ x → 0 ≤ seed' → seed' ≤ 65520 → ∀ Y : Mem, X[p]? = some ⟨[.slice ca code.length cc, .int .i64 a, .int .i64 s], 1, 2⟩ → Y = X.set p ⟨[.slice ca code.length cc, .int .i64 (a + 1), .int .i64 seed'], 1, 2⟩ → Sat (some ((.int .i64 (x.tmod n) : V), Y)) (CurI M0 p (.slice ca code.length cc) (B + 1) (fun x => 0 ≤ x ∧ (x < n ∨ x = 0)) X) := by
    intro x seed' hx h0 h1 Y hb hY
    subst hY
    have t1 := Int.tmod_nonneg n hx
    have t2 := Int.tmod_lt_of_pos x (show 0 < n by omega)
    refine sat_some ⟨_, rfl, ⟨t1, .inl t2⟩, ⟨pf_set hp0 hp, hp0, a + 1, seed', gs_of hb _, by omega, by omega, h0, h1⟩, agree_set _⟩
  have hnp : ∀ (v : V) (y : Int), gc X (some (v, X.set p ⟨[.slice ca code.length cc, .int .i64 (a + 1), .int .i64 y], 1, 2⟩)) = some (v, X.set p ⟨[.slice ca code.length cc, .int .i64 (a + 1), .int .i64 y], 1, 2⟩) := fun v y => gc_np fun hpre => by
    have := get_pre hpre hb
    rw [gs_of hb] at this
    simp at this
    omega
  have hby : ∀ b : UInt8, ∃ y : Int, byteV b = .int .u8 y ∧ 0 ≤ y ∧ y ≤ 255 ∧ IntKind.i64.wrap y = y := fun b => by
    have : b.toNat < 256 := b.toNat_lt
    exact ⟨b.toNat, rfl, by omega, by omega, wrap_i64 (by omega) (by omega)⟩
  by_cases hlt : a < code.length
  · obtain ⟨k, rfl⟩ := Int.eq_ofNat_of_zero_le ha0
    have hk : k < code.length := by omega
    obtain ⟨l, o, rfl, _, hrd⟩ := at_Byte hcX hk
    obtain ⟨y, hy, hy0, hy1, hy2⟩ := hby code[k]
    rw [hy] at hrd
    rw [aCall_eq T_spec_l01Cur_pick]; unfold A_spec_l01Cur_pick C_spec_l01Cur_pick; simp [thenD_pp, sliceCells_sl, sliceCells_z, sliceCells_nil, take_full, appS_sl, appK_ok, appS_none, thenD_ag, agP_nil, agP_cons, h2, hlt, hk, hb, gs_of hb, hrd, hy2, e1, hn0, hnp, rd1_K, rdJ_ok, wrn_K, wrJ_ok]
    exact fin y s hy0 hs0 hs1 _ hb rfl
  · have w1 : IntKind.i64.wrap (s * 1103) = s * 1103 := wrap_i64 (by omega) (by omega)
    have w2 : IntKind.i64.wrap (s * 1103 + 12345) = s * 1103 + 12345 := wrap_i64 (by omega) (by omega)
    obtain ⟨s', hs', hs2, hs3⟩ : ∃ s' : Int, (s * 1103 + 12345).tmod 65521 = s' ∧ 0 ≤ s' ∧ s' ≤ 65520 := ⟨_, rfl, Int.tmod_nonneg _ (by omega), by have := Int.tmod_lt_of_pos (s * 1103 + 12345) (show (0 : Int) < 65521 by decide); omega⟩
    have e2 : ∀ b : Blk, (X.set p b)[p]? = some b := fun b => gs_of hb b
    by_cases hl0 : 0 < code.length
    · obtain ⟨j, hj, hjl⟩ : ∃ j : Nat, a.tmod (code.length : Int) = j ∧ j < code.length := by
        have t1 := Int.tmod_nonneg (code.length : Int) ha0
        have t2 := Int.tmod_lt_of_pos a (show (0 : Int) < code.length by omega)
        obtain ⟨j, hj⟩ := Int.eq_ofNat_of_zero_le t1
        exact ⟨j, hj, by omega⟩
      obtain ⟨q, hq, hq0, hq1⟩ : ∃ q : Int, s'.tdiv 7 = q ∧ 0 ≤ q ∧ q ≤ 65520 := ⟨_, rfl, Int.tdiv_nonneg hs2 (by decide), by
        rw [Int.tdiv_eq_ediv_of_nonneg hs2]
        omega⟩
      have hln : (code.length : Int) ≠ 0 := by omega
      obtain ⟨l, o, rfl, _, hrd⟩ := at_Byte hcX hjl
      obtain ⟨y, hy, hy0, hy1, hy2⟩ := hby code[j]
      rw [hy] at hrd
      have hlp : l ≠ p := by
        obtain ⟨blk, hbk, _⟩ := rep_blk hc
        have := get_lt hbk
        omega
      have hrd2 : ∀ b : Blk, rd1 (X.set p b) l (o + j) = some (.int .u8 y) := fun b => by rw [rd1_K, gt_set (Ne.symm hlp), ← rd1_K]; exact hrd
      have hrem := binS_rem .i64 a (code.length : Int) hln
      rw [hj] at hrem
      have w5 : IntKind.i64.wrap q = q := wrap_i64 (by omega) (by omega)
      have w3 : IntKind.i64.wrap (q + y) = q + y := wrap_i64 (by omega) (by omega)
      rw [aCall_eq T_spec_l01Cur_pick]; unfold A_spec_l01Cur_pick C_spec_l01Cur_pick; simp [thenD_pp, sliceCells_sl, sliceCells_z, sliceCells_nil, take_full, appS_sl, appK_ok, appS_none, thenD_ag, agP_nil, agP_cons, h2, hlt, hb, e2, w1, w2, hs', hq, hrem, hjl, hrd2, hy2, w5, w3, e1, hl0, hln, hn0, hnp, rd1_K, rdJ_ok, wrn_K, wrJ_ok]
      exact fin (q + y) s' (by omega) hs2 hs3 _ hb rfl
    · rw [aCall_eq T_spec_l01Cur_pick]; unfold A_spec_l01Cur_pick C_spec_l01Cur_pick; simp [thenD_pp, sliceCells_sl, sliceCells_z, sliceCells_nil, take_full, appS_sl, appK_ok, appS_none, thenD_ag, agP_nil, agP_cons, h2, hlt, hb, e2, w1, w2, hs', e1, hl0, hn0, hnp, rd1_K, rdJ_ok, wrn_K, wrJ_ok]
      have := fin 0 s' (by omega) hs2 hs3 _ hb rfl
      rw [Int.zero_tmod] at this
      exact this
theorem p_pick {M0 X : Mem} {p : Nat} {cv : V} {B n : Int} (hc : CurH M0 cv) (h : Cur M0 p cv B X) (hB : B ≤ 1000000000000) (hn : n ≤ 1000000000000) {x : Option (V × Mem)} (hx : aCall T0 F_spec_l01Cur_pick [.pointer (some ⟨p, 0, none⟩), .int .i64 n] X = x) :
    ∃ (y : Int) (X' : Mem), x = some (.int .i64 y, X') ∧ 0 ≤ y ∧ (y < n ∨ y = 0) ∧ Cur M0 p cv (B + 1) X' ∧ Agree X X' [p] := by
  obtain ⟨code, hr, hl⟩ := hc.code
  obtain ⟨v, X', rfl, y, e, hy, h1, h2⟩ := of_call hx (c_spec_l01Cur_pick M0 X p cv code B n hr h hB hn hl)
  simp only at e h1 h2
  subst e
  exact ⟨y, X', rfl, hy.1, hy.2, h1, h2⟩
theorem int_get (xs : List Int) (cells : List V) (he : cells = xs.map (fun x => (.int .i64 x : V))) {k : Nat} (hk : k < xs.length) : cells[k]? = some (.int .i64 xs[k]) := by
  subst he
  simp [hk]
theorem ag_trans {X Y Z : Mem} {w : List Nat} (h : Agree X Y w) (h2 : Agree Y Z w) : Agree X Z w := ⟨Nat.le_trans h.1 h2.1, fun j hj hn => by rw [h2.2 j (Nat.lt_of_lt_of_le hj h.1) hn, h.2 j hj hn]⟩
theorem gc_sat {X X' : Mem} {v : V} {P : V × Mem → Prop} (h1 : P (v, X)) (h2 : P (v, X')) : Sat (gc X (some (v, X'))) P := by
  unfold gc
  simp only
  split
  · exact sat_some h1
  · exact sat_some h2
theorem cur_end {M0 X X' : Mem} {p : Nat} {cv : V} {B B' : Int} {P : Int → Prop} {x : Int} (h : Cur M0 p cv B X) (hB : B ≤ B') (hx : P x) (h2 : Cur M0 p cv B' X') (a : Agree X X' [p]) : Sat (gc X (some (.int .i64 x, X'))) (CurI M0 p cv B' P X) :=
  gc_sat ⟨x, rfl, hx, h.mono hB, ag_refl _ _⟩ ⟨x, rfl, hx, h2, a⟩
theorem agree_app {X : Mem} {N : Mem} {w : List Nat} : Agree X (X ++ N) w := ⟨by simp, fun j hj _ => List.getElem?_append_left hj⟩
theorem c_spec_l01Cur_raw (M0 X : Mem) (p : Nat) (cv : V) (B : Int) (hc : CurH M0 cv) (h : Cur M0 p cv B X) (hB : B ≤ 900000000000) :
    Sat (aCall T0 F_spec_l01Cur_raw [.pointer (some ⟨p, 0, none⟩)] X) (CurI M0 p cv (B + 2) inI X) := by
  rw [aCall_eq T_spec_l01Cur_raw]; unfold A_spec_l01Cur_raw C_spec_l01Cur_raw; simp [thenD_pp, sliceCells_sl, sliceCells_z, sliceCells_nil, take_full, appS_sl, appK_ok, appS_none, thenD_ag, agP_nil, agP_cons]
  generalize hx : aCall T0 F_spec_l01Cur_pick _ _ = xhx
  obtain ⟨y, X1, rfl, y0, y1, c1, a1⟩ := p_pick hc h (by omega) (by decide) hx
  clear hx
  by_cases h0 : y = 0
  · simp [thenD_pp, sliceCells_sl, sliceCells_z, sliceCells_nil, take_full, appS_sl, appK_ok, appS_none, thenD_ag, agP_nil, agP_cons, h0]
    generalize hx : aCall T0 F_spec_l01Cur_pick _ _ = xhx
    obtain ⟨z, X2, rfl, z0, z1, c2, a2⟩ := p_pick hc c1 (by omega) (by decide) hx
    clear hx
    have w : IntKind.i64.wrap (z - 128) = z - 128 := wrap_i64 (by omega) (by omega)
    simp [thenD_pp, sliceCells_sl, sliceCells_z, sliceCells_nil, take_full, appS_sl, appK_ok, appS_none, thenD_ag, agP_nil, agP_cons, w]
    exact cur_end h (by omega) (by unfold inI; omega) (c2.mono (by omega)) (ag_trans a1 a2)
  by_cases h1 : y = 1
  · simp [thenD_pp, sliceCells_sl, sliceCells_z, sliceCells_nil, take_full, appS_sl, appK_ok, appS_none, thenD_ag, agP_nil, agP_cons, h0, h1]
    generalize hx : aCall T0 F_spec_l01Cur_pick _ _ = xhx
    obtain ⟨z, X2, rfl, z0, z1, c2, a2⟩ := p_pick hc (c1.grow (List.prefix_append _ _)) (by omega) (by decide) hx
    clear hx
    obtain ⟨k, rfl⟩ := Int.eq_ofNat_of_zero_le z0
    have hk : k < 8 := by omega
    have hki : (k : Int) < 8 := by omega
    have hpl := c1.lt
    have b2 := a2.get (i := X1.length) (b := ⟨[.int .i64 9223372036854775807, .int .i64 (-9223372036854775808), .int .i64 4611686018427387904, .int .i64 65535, .int .i64 65536, .int .i64 (-1000), .int .i64 2147483648, .int .i64 4294967296], 1, 2⟩) (by simp) (by simp; omega)
    have g := int_get [9223372036854775807, -9223372036854775808, 4611686018427387904, 65535, 65536, -1000, 2147483648, 4294967296] _ rfl (k := k) hk
    simp only [List.map_cons, List.map_nil] at g
    have hin : ∀ x ∈ [9223372036854775807, -9223372036854775808, 4611686018427387904, 65535, 65536, -1000, 2147483648, (4294967296 : Int)], inI x := by
      intro x hx
      unfold inI
      simp only [List.mem_cons, List.not_mem_nil, or_false] at hx
      omega
    have hin2 := hin ([9223372036854775807, -9223372036854775808, 4611686018427387904, 65535, 65536, -1000, 2147483648, (4294967296 : Int)][k]'hk) (List.getElem_mem _)
    generalize ([9223372036854775807, -9223372036854775808, 4611686018427387904, 65535, 65536, -1000, 2147483648, (4294967296 : Int)])[k] = r at g hin2
    simp [thenD_pp, sliceCells_sl, sliceCells_z, sliceCells_nil, take_full, appS_sl, appK_ok, appS_none, thenD_ag, agP_nil, agP_cons, hki, b2, rd1_K, rdJ_ok, g]
    exact cur_end h (by omega) hin2 (c2.mono (by omega)) (ag_trans a1 (ag_trans agree_app a2))
  · simp [thenD_pp, sliceCells_sl, sliceCells_z, sliceCells_nil, take_full, appS_sl, appK_ok, appS_none, thenD_ag, agP_nil, agP_cons, h0, h1]
    generalize hx : aCall T0 F_spec_l01Cur_pick _ _ = xhx
    obtain ⟨z, X2, rfl, z0, z1, c2, a2⟩ := p_pick hc c1 (by omega) (by decide) hx
    clear hx
    have w : IntKind.i64.wrap (z - 3) = z - 3 := wrap_i64 (by omega) (by omega)
    simp [thenD_pp, sliceCells_sl, sliceCells_z, sliceCells_nil, take_full, appS_sl, appK_ok, appS_none, thenD_ag, agP_nil, agP_cons, w]
    exact cur_end h (by omega) (by unfold inI; omega) (c2.mono (by omega)) (ag_trans a1 a2)
theorem p_raw {M0 X : Mem} {p : Nat} {cv : V} {B : Int} (hc : CurH M0 cv) (h : Cur M0 p cv B X) (hB : B ≤ 900000000000) {x : Option (V × Mem)} (hx : aCall T0 F_spec_l01Cur_raw [.pointer (some ⟨p, 0, none⟩)] X = x) :
    ∃ (y : Int) (X' : Mem), x = some (.int .i64 y, X') ∧ inI y ∧ Cur M0 p cv (B + 2) X' ∧ Agree X X' [p] := by
  obtain ⟨v, X', rfl, y, e, hy, h1, h2⟩ := of_call hx (c_spec_l01Cur_raw M0 X p cv B hc h hB)
  simp only at e h1 h2
  subst e
  exact ⟨y, X', rfl, hy, h1, h2⟩
def CurB (M0 : Mem) (p : Nat) (cv : V) (B : Int) (X : Mem) (r : V × Mem) : Prop := ∃ b : Bool, r.1 = .bool b ∧ Cur M0 p cv B r.2 ∧ Agree X r.2 [p]
theorem c_spec_l01Cur_once (M0 X : Mem) (p : Nat) (cv : V) (B n : Int) (hc : CurH M0 cv) (h : Cur M0 p cv B X) (hB : B ≤ 1000000000000) (hn : n ≤ 1000000000000) (hn0 : -1000000000000 ≤ n) :
    Sat (aCall T0 F_spec_l01Cur_once [.pointer (some ⟨p, 0, none⟩), .int .i64 n] X) (CurB M0 p cv (B + 1) X) := by
  have w : IntKind.i64.wrap (n - 1) = n - 1 := wrap_i64 (by omega) (by omega)
  rw [aCall_eq T_spec_l01Cur_once]; unfold A_spec_l01Cur_once C_spec_l01Cur_once; simp [thenD_pp, sliceCells_sl, sliceCells_z, sliceCells_nil, take_full, appS_sl, appK_ok, appS_none, thenD_ag, agP_nil, agP_cons]
  generalize hx : aCall T0 F_spec_l01Cur_pick _ _ = xhx
  obtain ⟨y, X', rfl, y0, y1, c1, a1⟩ := p_pick hc h hB hn hx
  simp [thenD_pp, sliceCells_sl, sliceCells_z, sliceCells_nil, take_full, appS_sl, appK_ok, appS_none, thenD_ag, agP_nil, agP_cons, w]
  exact gc_sat ⟨_, rfl, h.mono (by omega), ag_refl _ _⟩ ⟨_, rfl, c1, a1⟩
theorem p_once {M0 X : Mem} {p : Nat} {cv : V} {B n : Int} (hc : CurH M0 cv) (h : Cur M0 p cv B X) (hB : B ≤ 1000000000000) (hn : n ≤ 1000000000000) (hn0 : -1000000000000 ≤ n) {x : Option (V × Mem)} (hx : aCall T0 F_spec_l01Cur_once [.pointer (some ⟨p, 0, none⟩), .int .i64 n] X = x) :
    ∃ (b : Bool) (X' : Mem), x = some (.bool b, X') ∧ Cur M0 p cv (B + 1) X' ∧ Agree X X' [p] := by
  obtain ⟨v, X', rfl, b, e, h1, h2⟩ := of_call hx (c_spec_l01Cur_once M0 X p cv B n hc h hB hn hn0)
  simp only at e h1 h2
  subst e
  exact ⟨b, X', rfl, h1, h2⟩
/-- The list while it grows: so many elements. -/
def CurE (t : Ty) (M0 : Mem) (p : Nat) (cv : V) (B : Int) (X : Mem) (i : Nat) (v : V) (X' : Mem) : Prop := ∃ (xs : List t.D) (L : List Nat), Gr (.sl t) X' [v] xs L ∧ L.Nodup ∧ (∀ l ∈ L, X.length ≤ l) ∧ xs.length = i ∧ Cur M0 p cv B X' ∧ Agree X X' [p]
/-- A drawn list: fresh blocks of its own. -/
def CurV (t : Ty) (M0 : Mem) (p : Nat) (cv : V) (B : Int) (X : Mem) (N : Nat) (v : V) (X' : Mem) : Prop := ∃ (xs : List t.D) (L : List Nat), Gr (.sl t) X' [v] xs L ∧ L.Nodup ∧ (∀ l ∈ L, X.length ≤ l) ∧ xs.length ≤ N ∧ Cur M0 p cv B X' ∧ Agree X X' [p]
theorem CurV.e {t : Ty} {M0 X X' : Mem} {p N : Nat} {cv v : V} {B : Int} (h : CurV t M0 p cv B X N v X') : ∃ i a, i ≤ N ∧ v = .slice a i i ∧ CurE t M0 p cv B X i v X' := by
  obtain ⟨xs, L, g, nd, hf, hn, c, ag⟩ := h
  obtain ⟨a, rfl⟩ := g.shape
  exact ⟨xs.length, a, hn, rfl, xs, L, g, nd, hf, rfl, c, ag⟩
theorem CurE.v {t : Ty} {M0 X X' : Mem} {p i N : Nat} {cv v : V} {B B' : Int} (h : CurE t M0 p cv B X i v X') (hN : i ≤ N) (hB : B ≤ B') : CurV t M0 p cv B' X N v X' := by
  obtain ⟨xs, L, g, nd, hf, hn, c, a⟩ := h
  exact ⟨xs, L, g, nd, hf, by omega, c.mono hB, a⟩
theorem CurE.mono {t : Ty} {M0 X X' : Mem} {p i : Nat} {cv v : V} {B B' : Int} (h : CurE t M0 p cv B X i v X') (hB : B ≤ B') : CurE t M0 p cv B' X i v X' := by
  obtain ⟨xs, L, g, nd, hf, hn, c, a⟩ := h
  exact ⟨xs, L, g, nd, hf, hn, c.mono hB, a⟩
theorem CurE.c {t : Ty} {M0 X X' : Mem} {p i : Nat} {cv v : V} {B : Int} (h : CurE t M0 p cv B X i v X') : Cur M0 p cv B X' := by
  obtain ⟨xs, L, g, nd, hf, hn, c, ag⟩ := h
  exact c
/-- A drawn list of so many, to be read. -/
def RepN (t : Ty) (X : Mem) (v : V) (i : Nat) : Prop := ∃ xs : List t.D, Rep (.sl t) X [v] xs ∧ xs.length = i
theorem CurE.rep {t : Ty} {M0 X X' : Mem} {p i : Nat} {cv v : V} {B : Int} (h : CurE t M0 p cv B X i v X') : RepN t X' v i := by
  obtain ⟨xs, L, g, nd, hf, hn, c, ag⟩ := h
  exact ⟨xs, g.rep, hn⟩
theorem CurE.ag {t : Ty} {M0 X X' : Mem} {p i : Nat} {cv v : V} {B : Int} (h : CurE t M0 p cv B X i v X') : Agree X X' [p] := by
  obtain ⟨xs, L, g, nd, hf, hn, c, ag⟩ := h
  exact ag
theorem cur_open {M : Mem} {cv : V} {k : Int} (h0 : 0 ≤ k) (h1 : k ≤ 65520) : Cur M M.length cv 0 (M ++ [⟨[cv, .int .i64 0, .int .i64 k], 1, 2⟩]) := ⟨List.prefix_append _ _, Nat.le_refl _, 0, k, by simp, Int.le_refl _, Int.le_refl _, h0, h1⟩
theorem c_spec_l01Open (M : Mem) (cv : V) (code : List UInt8) (h : Rep (.sl ty_Byte) M [cv] code) : ∃ k : Int, 0 ≤ k ∧ k ≤ 65520 ∧ aCall T0 F_spec_l01Open [cv] M = some (.pointer (some ⟨M.length, 0, none⟩), M ++ [⟨[cv, .int .i64 0, .int .i64 k], 1, 2⟩]) := by
  obtain ⟨a, c, rfl⟩ := h.slen
  obtain ⟨r, hr⟩ : ∃ r : Int, r = ((code.length : Int).tmod 1000) := ⟨_, rfl⟩
  have r0 : 0 ≤ r := by rw [hr]; exact Int.tmod_nonneg _ (by omega)
  have r1 : r < 1000 := by rw [hr]; exact Int.tmod_lt_of_pos _ (by decide)
  have w : IntKind.i64.wrap (59 + r) = 59 + r := wrap_i64 (by omega) (by omega)
  refine ⟨59 + r, by omega, by omega, ?_⟩
  have hrem := binS_rem .i64 (code.length : Int) 1000 (by decide)
  rw [← hr] at hrem
  rw [aCall_eq T_spec_l01Open]; unfold A_spec_l01Open C_spec_l01Open; simp [thenD_pp, sliceCells_sl, sliceCells_z, sliceCells_nil, take_full, appS_sl, appK_ok, appS_none, thenD_ag, agP_nil, agP_cons, hrem, w]
  exact gc_not rfl
theorem cure_app {t : Ty} {M0 X Y Z : Mem} {p i bytes : Nat} {cv v : V} {B B' : Int} (h : CurE t M0 p cv B X i v Y) (hc : Cur M0 p cv B' Z) (ha : Agree Y Z [p]) (hpX : p < X.length) (hi : (i + 1) * bytes ≤ 140737488355328) (hi2 : i + 1 ≤ 9223372036854775807) {N : Mem} {ds : List V} {y : t.D} (hy : Gr t (Z ++ N) ds y []) {x : Option (V × Mem)} (hx : appS (Z ++ N) t.w bytes v 1 ds = x) :
    ∃ (l : Nat) (X3 : Mem), x = some (.slice (some ⟨l, 0, none⟩) (i + 1) (i + 1), X3) ∧ CurE t M0 p cv B' X (i + 1) (.slice (some ⟨l, 0, none⟩) (i + 1) (i + 1)) X3 := by
  obtain ⟨xs, L, g, nd, hf, hn, _, hag⟩ := h
  subst hn
  have hpL : p ∉ L := fun hm => by have := hf p hm; omega
  have gZ := g.agree ha (fun l hl e => by simp at e; exact hpL (e ▸ hl))
  have hpN := List.prefix_append Z N
  obtain ⟨l, X3, L', rfl, g3, ag3, len3, hw3, nd3, sub3, hl3⟩ := gZ.app hx hpN hy (by simp) nd (by simp) hi hi2
  have hag2 : Agree Y Z [p] := ha
  have hYl : Y.length ≤ Z.length := ha.1
  have hXl : X.length ≤ Y.length := hag.1
  have hpw : p ∉ wfs v := fun hm => hpL (hw3 _ hm)
  refine ⟨l, X3, rfl, xs ++ [y], L', g3, nd3, fun j hj => ?_, by simp, ?_, ?_⟩
  · rcases sub3 j hj with h | h | h
    · exact hf j h
    · simp at h
    · simp at hl3; omega
  · obtain ⟨c1, c2, a', s', c3, c4⟩ := hc
    refine ⟨?_, c2, a', s', ag3.get (get_pre hpN c3) hpw, c4⟩
    exact ag3.pre (c1.trans hpN) (fun b hb => by have := hf b (hw3 b hb); omega)
  · refine ⟨by have := ag3.1; simp at this; omega, fun j hj hn => ?_⟩
    rw [ag3.2 j (by simp; omega) (fun hm => by have := hf j (hw3 j hm); omega), List.getElem?_append_left (by omega), ha.2 j (by omega) hn]
    exact hag.2 j hj hn
theorem cure_agree {t : Ty} {M0 X Y Z : Mem} {p i : Nat} {cv v : V} {B B' : Int} (h : CurE t M0 p cv B X i v Y) (hc : Cur M0 p cv B' Z) (ha : Agree Y Z [p]) (hpX : p < X.length) : CurE t M0 p cv B' X i v Z := by
  obtain ⟨xs, L, g, nd, hf, hn, _, hag⟩ := h
  have hpL : p ∉ L := fun hm => by have := hf p hm; omega
  exact ⟨xs, L, g.agree ha (fun l hl e => by simp at e; exact hpL (e ▸ hl)), nd, hf, hn, hc, ag_trans hag ha⟩
theorem cure_nil {t : Ty} {M0 X : Mem} {p : Nat} {cv : V} {B : Int} {w : Nat} (hw : t.w = w) (h : Cur M0 p cv B X) : CurE t M0 p cv B X 0 (.slice (some ⟨X.length, 0, none⟩) 0 0) (X ++ [⟨[], w, 2⟩]) := by
  subst hw
  refine ⟨[], [X.length], .inr ⟨X.length, [], [], rfl, by simp, rfl, rfl, fun i ds x K hd => by simp at hd, by simp⟩, by simp, by simp, rfl, h.grow (List.prefix_append _ _), agree_app⟩
theorem l_spec_l01Cur_row_0 (M0 X : Mem) (p : Nat) (cv : V) (B n : Int) (K : Nat) (hc : CurH M0 cv) (hB : B ≤ 800000000000) (hn : n ≤ 100000000) (hK : K ≤ 1000000) (hpX : p < X.length) (v0 : V) (Z : Mem) (h0 : CurE ty_Int M0 p cv B X 0 v0 Z) :
    ∃ v' X', CurE ty_Int M0 p cv (B + 2 * K) X K v' X' ∧ lp (aCall T0) K_spec_l01Cur_row_0 L_spec_l01Cur_row_0 [.pointer (some ⟨p, 0, none⟩), .int .i64 n, und, und, und, und, und, v0, .int .i64 K, und, und, und, und, und, und, und, und, und, und, und, und, und, und, und, und, und, und, und, und, und, und, und, und, und] Z = lp (aCall T0) K_spec_l01Cur_row_0 L_spec_l01Cur_row_0 [.pointer (some ⟨p, 0, none⟩), .int .i64 n, und, und, und, und, und, v', .int .i64 0, und, und, und, und, und, und, und, und, und, und, und, und, und, und, und, und, und, und, und, und, und, und, und, und, und] X' := by
  have key := loop_to (call := aCall T0) (K := K_spec_l01Cur_row_0) (L := L_spec_l01Cur_row_0) (fun i (v : V) Y => CurE ty_Int M0 p cv (B + 2 * i) X i v Y) (fun i v => [.pointer (some ⟨p, 0, none⟩), .int .i64 n, und, und, und, und, und, v, .int .i64 ((K : Int) - i), und, und, und, und, und, und, und, und, und, und, und, und, und, und, und, und, und, und, und, und, und, und, und, und, und]) (n := K) ?_ 0 v0 Z (by omega) (by simpa using h0)
  · obtain ⟨v', X', h1, h2⟩ := key
    refine ⟨v', X', h1, ?_⟩
    simpa using h2
  intro i v Y hi hY
  have hcur : Cur M0 p cv (B + 2 * i) Y := hY.choose_spec.choose_spec.2.2.2.2.1
  have hgt : (0 : Int) < (K : Int) - i := by omega
  have w0 : IntKind.i64.wrap ((K : Int) - i - 1) = (K : Int) - (i + 1 : Nat) := by rw [wrap_i64 (by omega) (by omega)]; omega
  have e8 : (i : Int) + 1 = ((i + 1 : Nat) : Int) := by omega
  by_cases hn0 : (0 : Int) < n
  · rw [S_spec_l01Cur_row_0]; unfold B_spec_l01Cur_row_0; simp [thenD_pp, sliceCells_sl, sliceCells_z, sliceCells_nil, take_full, appS_sl, appK_ok, appS_none, thenD_ag, agP_nil, agP_cons, hi, hgt, hn0]
    generalize hx : aCall T0 F_spec_l01Cur_once _ _ = xhx
    obtain ⟨b, X1, rfl, c1, a1⟩ := p_once (n := 5) hc hcur (by omega) (by decide) (by decide) hx
    clear hx
    cases b with
    | true =>
      simp [thenD_pp, sliceCells_sl, sliceCells_z, sliceCells_nil, take_full, appS_sl, appK_ok, appS_none, thenD_ag, agP_nil, agP_cons]
      generalize hy : appS _ _ _ _ _ _ = xhy
      obtain ⟨l, X3, rfl, h3⟩ := cure_app (bytes := 8) hY c1 a1 hpX (by omega) (by omega) (gr_Int _ (x := -1) (by unfold inI; omega)) hy
      simp [thenD_pp, sliceCells_sl, sliceCells_z, sliceCells_nil, take_full, appS_sl, appK_ok, appS_none, thenD_ag, agP_nil, agP_cons, w0]
      exact ⟨_, X3, CurE.mono h3 (by omega), rfl⟩
    | false =>
      simp [thenD_pp, sliceCells_sl, sliceCells_z, sliceCells_nil, take_full, appS_sl, appK_ok, appS_none, thenD_ag, agP_nil, agP_cons]
      generalize hx : aCall T0 F_spec_l01Cur_pick _ _ = xhx
      obtain ⟨z, X2, rfl, z0, z1, c2, a2⟩ := p_pick hc c1 (by omega) (by omega) hx
      clear hx
      simp [thenD_pp, sliceCells_sl, sliceCells_z, sliceCells_nil, take_full, appS_sl, appK_ok, appS_none, thenD_ag, agP_nil, agP_cons]
      generalize hy : appS _ _ _ _ _ _ = xhy
      obtain ⟨l, X3, rfl, h3⟩ := cure_app (bytes := 8) hY c2 (ag_trans a1 a2) hpX (by omega) (by omega) (gr_Int _ (x := z) (by unfold inI; omega)) hy
      simp [thenD_pp, sliceCells_sl, sliceCells_z, sliceCells_nil, take_full, appS_sl, appK_ok, appS_none, thenD_ag, agP_nil, agP_cons, w0]
      exact ⟨_, X3, CurE.mono h3 (by omega), rfl⟩
  · rw [S_spec_l01Cur_row_0]; unfold B_spec_l01Cur_row_0; simp [thenD_pp, sliceCells_sl, sliceCells_z, sliceCells_nil, take_full, appS_sl, appK_ok, appS_none, thenD_ag, agP_nil, agP_cons, hi, hgt, hn0]
    generalize hy : appS _ _ _ _ _ _ = xhy
    obtain ⟨l, X3, rfl, h3⟩ := cure_app (bytes := 8) hY hcur (ag_refl _ _) hpX (by omega) (by omega) (gr_Int _ (x := -1) (by unfold inI; omega)) hy
    simp [thenD_pp, sliceCells_sl, sliceCells_z, sliceCells_nil, take_full, appS_sl, appK_ok, appS_none, thenD_ag, agP_nil, agP_cons, w0]
    exact ⟨_, X3, CurE.mono h3 (by omega), rfl⟩
theorem c_spec_l01Cur_row (M0 X : Mem) (p : Nat) (cv : V) (B n most : Int) (hc : CurH M0 cv) (h : Cur M0 p cv B X) (hB : B ≤ 700000000000) (hn : n ≤ 100000000) (hm : most ≤ 100000) (hm0 : 0 ≤ most) :
    ∃ v X', aCall T0 F_spec_l01Cur_row [.pointer (some ⟨p, 0, none⟩), .int .i64 n, .int .i64 most] X = some (v, X') ∧ CurV ty_Int M0 p cv (B + 3 + 2 * most) X most.toNat v X' := by
  have w : IntKind.i64.wrap (most + 1) = most + 1 := wrap_i64 (by omega) (by omega)
  rw [aCall_eq T_spec_l01Cur_row]; unfold A_spec_l01Cur_row C_spec_l01Cur_row; simp [thenD_pp, sliceCells_sl, sliceCells_z, sliceCells_nil, take_full, appS_sl, appK_ok, appS_none, thenD_ag, agP_nil, agP_cons, w, zeroCells]
  generalize hx : aCall T0 F_spec_l01Cur_pick _ _ = xhx
  obtain ⟨z, X1, rfl, z0, z1, c1, a1⟩ := p_pick (n := most + 1) hc (h.grow (List.prefix_append _ _)) (by omega) (by omega) hx
  clear hx
  obtain ⟨K, rfl⟩ := Int.eq_ofNat_of_zero_le z0
  have hE := cure_agree (cure_nil (t := ty_Int) rfl h) c1 a1 h.lt
  obtain ⟨v', X', hE', e⟩ := l_spec_l01Cur_row_0 M0 X p cv (B + 1) n K hc (by omega) hn (by omega) h.lt _ _ hE
  have hK : K ≤ most.toNat := by omega
  have hv := CurE.v hE' hK (show B + 1 + 2 * (K : Int) ≤ B + 3 + 2 * most by omega)
  obtain ⟨xs, L, g, _⟩ := id hv
  obtain ⟨a, rfl⟩ := g.shape

  simp [thenD_pp, sliceCells_sl, sliceCells_z, sliceCells_nil, take_full, appS_sl, appK_ok, appS_none, thenD_ag, agP_nil, agP_cons, e]
  rw [S_spec_l01Cur_row_0]; unfold B_spec_l01Cur_row_0; simp [thenD_pp, sliceCells_sl, sliceCells_z, sliceCells_nil, take_full, appS_sl, appK_ok, appS_none, thenD_ag, agP_nil, agP_cons]
  exact ⟨_, _, ⟨rfl, rfl⟩, hv⟩
theorem fl_Int : FlatE ty_Int (fun x => [(.int .i64 x : V)]) inI := ⟨fun M x h => gr_Int M h, fun M cs x h => ⟨h.1, wf_i64 h.2⟩⟩
theorem Gr.appF {t : Ty} {enc : t.D → List V} {P : t.D → Prop} (hf : FlatE t enc P) {X X2 : Mem} {v : V} {xs : List t.D} {L : List Nat} (h : Gr (.sl t) X [v] xs L) {bytes m : Nat} {zs : List t.D} {x : Option (V × Mem)} (hx : appS X2 t.w bytes v m (zs.map enc).flatten = x) (hp : X <+: X2)
    (hm : zs.length = m) (h0 : 0 < m) (hP : ∀ z ∈ zs, P z) (hs : (xs.length + m) * bytes ≤ 140737488355328) (hs2 : xs.length + m ≤ 9223372036854775807) :
    ∃ l X3, x = some (.slice (some ⟨l, 0, none⟩) (xs.length + m) (xs.length + m), X3) ∧ Gr (.sl t) X3 [.slice (some ⟨l, 0, none⟩) (xs.length + m) (xs.length + m)] (xs ++ zs) [l] ∧ Agree X2 X3 (wfs v) ∧ X2.length < X3.length ∧ (∀ b ∈ wfs v, b ∈ L) ∧ X2.length ≤ l := by
  obtain ⟨cs, hg, hw⟩ := h.gr (K := 0) (by simp)
  obtain ⟨_, hc, hPx⟩ := rep_cellsF hf h.rep
  have hcs : cs = (xs.map enc).flatten := by
    have := hg.cells
    rw [hc] at this
    simpa using this.symm
  subst hcs
  have g2 := hg.pre hp
  have hlen : (zs.map enc).flatten.length = m * t.w := by
    rw [flat_len (fun ds hd => by
      obtain ⟨z, hz, rfl⟩ := List.mem_map.1 hd
      exact (hf.1 X z (hP z hz)).len), List.length_map, hm]
  have hone : (zs.map enc).flatten.all GoAm.one = true := by
    rw [List.all_eq_true]
    intro y hy
    obtain ⟨ds, hd, hy⟩ := List.mem_flatten.1 hy
    obtain ⟨z, hz, rfl⟩ := List.mem_map.1 hd
    exact List.all_eq_true.1 (hf.1 X z (hP z hz)).one y hy
  have e := g2.app (m := m) (bytes := bytes) (ys := (zs.map enc).flatten) hlen h0 hone hs hs2
  refine ⟨_, _, hx.symm.trans e, ?_, kill_agree _ _ _, by rw [List.length_append, kill_len]; simp, hw, Nat.le_refl _⟩
  have hb : (kill X2 v ++ [(⟨(xs.map enc).flatten ++ (zs.map enc).flatten, t.w, 2⟩ : Blk)])[X2.length]? = some ⟨((xs ++ zs).map enc).flatten, t.w, 2⟩ := by
    rw [List.getElem?_append_right (by rw [kill_len]; exact Nat.le_refl _), kill_len]; simp
  have := gr_flat hf hb (fun z hz => by
    rcases List.mem_append.1 hz with hz | hz
    · exact hPx z hz
    · exact hP z hz)
  rw [List.length_append, hm] at this
  exact this
theorem cure_appF {t : Ty} {enc : t.D → List V} {P : t.D → Prop} (hf : FlatE t enc P) {M0 X Y Z : Mem} {p i m bytes : Nat} {cv v : V} {B B' : Int} (h : CurE t M0 p cv B X i v Y) (hc : Cur M0 p cv B' Z) (ha : Agree Y Z [p]) (hpX : p < X.length) (h0 : 0 < m) (hi : (i + m) * bytes ≤ 140737488355328) (hi2 : i + m ≤ 9223372036854775807) {N : Mem} {zs : List t.D} (hz : zs.length = m) (hP : ∀ z ∈ zs, P z) {x : Option (V × Mem)} (hx : appS (Z ++ N) t.w bytes v m (zs.map enc).flatten = x) :
    ∃ (l : Nat) (X3 : Mem), x = some (.slice (some ⟨l, 0, none⟩) (i + m) (i + m), X3) ∧ CurE t M0 p cv B' X (i + m) (.slice (some ⟨l, 0, none⟩) (i + m) (i + m)) X3 := by
  obtain ⟨xs, L, g, nd, hfr, hn, _, hag⟩ := h
  subst hn
  have hpL : p ∉ L := fun hm => by have := hfr p hm; omega
  have gZ := g.agree ha (fun l hl e => by simp at e; exact hpL (e ▸ hl))
  have hpN := List.prefix_append Z N
  obtain ⟨l, X3, rfl, g3, ag3, len3, hw3, hl3⟩ := Gr.appF hf gZ hx hpN hz h0 hP hi hi2
  have hYl : Y.length ≤ Z.length := ha.1
  have hXl : X.length ≤ Y.length := hag.1
  have hpw : p ∉ wfs v := fun hm => hpL (hw3 _ hm)
  refine ⟨l, X3, rfl, xs ++ zs, [l], g3, by simp, fun j hj => ?_, by simp [hz], ?_, ?_⟩
  · simp at hj hl3; omega
  · obtain ⟨c1, c2, a', s', c3, c4⟩ := hc
    refine ⟨?_, c2, a', s', ag3.get (get_pre hpN c3) hpw, c4⟩
    exact ag3.pre (c1.trans hpN) (fun b hb => by have := hfr b (hw3 b hb); omega)
  · refine ⟨by have := ag3.1; simp at this; omega, fun j hj hn => ?_⟩
    rw [ag3.2 j (by simp; omega) (fun hm => by have := hfr j (hw3 j hm); omega), List.getElem?_append_left (by omega), ha.2 j (by omega) hn]
    exact hag.2 j hj hn
theorem zero_flat (m : Nat) : zc (.int .i64 0 : V) m = ((List.replicate m (0 : Int)).map (fun x => [(.int .i64 x : V)])).flatten := by
  induction m with
  | zero => rfl
  | succ m ih =>
    have : zc (.int .i64 0 : V) (m + 1) = .int .i64 0 :: zc (.int .i64 0) m := by simp [zc, List.replicate_succ]
    rw [this, ih, List.replicate_succ, List.map_cons, List.flatten_cons]
    rfl
theorem c_spec_l01Cur_badRow (M0 X : Mem) (p : Nat) (cv : V) (B n most : Int) (hc : CurH M0 cv) (h : Cur M0 p cv B X) (hB : B ≤ 600000000000) (hn : n ≤ 100000000) (hnl : inI n) (hm : most ≤ 100) (hm0 : 0 ≤ most) :
    ∃ v X', aCall T0 F_spec_l01Cur_badRow [.pointer (some ⟨p, 0, none⟩), .int .i64 n, .int .i64 most] X = some (v, X') ∧ CurV ty_Int M0 p cv (B + 500) X 1000 v X' := by
  obtain ⟨v1, X1, e1, hv1⟩ := c_spec_l01Cur_row M0 X p cv B n most hc h (by omega) hn (by omega) hm0
  obtain ⟨i, a, hi, rfl, hE⟩ := CurV.e hv1
  have hi2 : i ≤ 100 := by omega
  rw [aCall_eq T_spec_l01Cur_badRow]; unfold A_spec_l01Cur_badRow C_spec_l01Cur_badRow; simp [thenD_pp, sliceCells_sl, sliceCells_z, sliceCells_nil, take_full, appS_sl, appK_ok, appS_none, thenD_ag, agP_nil, agP_cons, e1]
  generalize hx : aCall T0 F_spec_l01Cur_pick _ _ = xhx
  obtain ⟨z, X2, rfl, z0, z1, c2, a2⟩ := p_pick hc (CurE.c hE) (by omega) (by decide) hx
  clear hx
  have hE2 := cure_agree hE c2 a2 h.lt
  by_cases h0 : z = 0
  · simp [thenD_pp, sliceCells_sl, sliceCells_z, sliceCells_nil, take_full, appS_sl, appK_ok, appS_none, thenD_ag, agP_nil, agP_cons, h0]
    generalize hx : aCall T0 F_spec_l01Cur_raw _ _ = xhx
    obtain ⟨r, X3, rfl, r0, c3, a3⟩ := p_raw hc c2 (by omega) hx
    clear hx
    simp [thenD_pp, sliceCells_sl, sliceCells_z, sliceCells_nil, take_full, appS_sl, appK_ok, appS_none, thenD_ag, agP_nil, agP_cons]
    generalize hx : aCall T0 F_spec_l01Cur_pick _ _ = xhx
    obtain ⟨u, X4, rfl, u0, u1, c4, a4⟩ := p_pick hc (c3.grow (List.prefix_append _ _)) (by omega) (by decide) hx
    clear hx
    obtain ⟨k, rfl⟩ := Int.eq_ofNat_of_zero_le u0
    have hk : k < 2 := by omega
    have hki : (k : Int) < 2 := by omega
    have hpl := c3.lt
    have b2 := a4.get (i := X3.length) (b := ⟨[.int .i64 r, .int .i64 n], 1, 2⟩) (by simp) (by simp; omega)
    have g := int_get [r, n] _ rfl (k := k) hk
    simp only [List.map_cons, List.map_nil] at g
    have hin : ∀ x ∈ [r, n], inI x := by
      intro x hx
      simp only [List.mem_cons, List.not_mem_nil, or_false] at hx
      rcases hx with rfl | rfl
      · exact r0
      · exact hnl
    have hin2 := hin ([r, n][k]'hk) (List.getElem_mem _)
    generalize ([r, n])[k]'hk = w at g hin2
    simp [thenD_pp, sliceCells_sl, sliceCells_z, sliceCells_nil, take_full, appS_sl, appK_ok, appS_none, thenD_ag, agP_nil, agP_cons, hki, b2, rd1_K, rdJ_ok, g]
    generalize hy : appS _ _ _ _ _ _ = xhy
    obtain ⟨l, X5, rfl, h5⟩ := cure_app (bytes := 8) (cure_agree hE2 (c3.grow (List.prefix_append X3 [(⟨[.int .i64 r, .int .i64 n], 1, 2⟩ : Blk)])) (ag_trans a3 agree_app) h.lt) c4 a4 h.lt (by omega) (by omega) (gr_Int _ hin2) hy
    simp [thenD_pp, sliceCells_sl, sliceCells_z, sliceCells_nil, take_full, appS_sl, appK_ok, appS_none, thenD_ag, agP_nil, agP_cons]
    exact ⟨_, _, ⟨rfl, rfl⟩, CurE.v h5 (by omega) (by omega)⟩
  by_cases h1 : z = 1
  · simp [thenD_pp, sliceCells_sl, sliceCells_z, sliceCells_nil, take_full, appS_sl, appK_ok, appS_none, thenD_ag, agP_nil, agP_cons, h0, h1]
    generalize hx : aCall T0 F_spec_l01Cur_pick _ _ = xhx
    obtain ⟨r, X3, rfl, r0, r1, c3, a3⟩ := p_pick hc c2 (by omega) (by decide) hx
    clear hx
    obtain ⟨k, rfl⟩ := Int.eq_ofNat_of_zero_le r0
    have w1 : IntKind.i64.wrap (700 + (k : Int)) = 700 + k := wrap_i64 (by omega) (by omega)
    obtain ⟨m, hm1⟩ : ∃ m : Nat, m = 700 + k - i := ⟨_, rfl⟩
    have w2 : IntKind.i64.wrap (700 + (k : Int) - i) = (m : Int) := by rw [wrap_i64 (by omega) (by omega)]; omega
    have w3 : (m : Int) ≤ 9223372036854775807 := by omega
    have w4 : (m : Int) * 8 ≤ 281474976710656 := by omega
    simp [thenD_pp, sliceCells_sl, sliceCells_z, sliceCells_nil, take_full, appS_sl, appK_ok, appS_none, thenD_ag, agP_nil, agP_cons, w1, w2, w3, w4]
    generalize hy : appS _ _ _ _ _ _ = xhy
    rw [zero_flat] at hy
    rw [show X3 = X3 ++ [] by simp] at hy
    obtain ⟨l, X5, rfl, h5⟩ := cure_appF (bytes := 8) (m := m) fl_Int hE2 c3 a3 h.lt (by omega) (by omega) (by omega) (zs := List.replicate m 0) (by simp) (fun z hz => by
      rw [List.eq_of_mem_replicate hz]
      unfold inI
      omega) hy
    simp [thenD_pp, sliceCells_sl, sliceCells_z, sliceCells_nil, take_full, appS_sl, appK_ok, appS_none, thenD_ag, agP_nil, agP_cons]
    exact ⟨_, _, ⟨rfl, rfl⟩, CurE.v h5 (by omega) (by omega)⟩
  · simp [thenD_pp, sliceCells_sl, sliceCells_z, sliceCells_nil, take_full, appS_sl, appK_ok, appS_none, thenD_ag, agP_nil, agP_cons, h0, h1]
    exact ⟨_, _, ⟨rfl, rfl⟩, CurE.v hE2 (by omega) (by omega)⟩
theorem p_badRow {M0 X : Mem} {p : Nat} {cv : V} {B n most : Int} (hc : CurH M0 cv) (h : Cur M0 p cv B X) (hB : B ≤ 600000000000) (hn : n ≤ 100000000) (hnl : inI n) (hm : most ≤ 100) (hm0 : 0 ≤ most) {x : Option (V × Mem)} (hx : aCall T0 F_spec_l01Cur_badRow [.pointer (some ⟨p, 0, none⟩), .int .i64 n, .int .i64 most] X = x) :
    ∃ (a : Option Addr) (i : Nat) (X' : Mem), x = some (.slice a i i, X') ∧ i ≤ 1000 ∧ CurE ty_Int M0 p cv (B + 500) X i (.slice a i i) X' := by
  obtain ⟨v, X', e, hv⟩ := c_spec_l01Cur_badRow M0 X p cv B n most hc h hB hn hnl hm hm0
  obtain ⟨i, a, hi, rfl, hE⟩ := CurV.e hv
  exact ⟨a, i, X', hx.symm.trans e, hi, hE⟩
set_option maxHeartbeats 2000000 in
theorem c_spec_DrawSeqCounts (M : Mem) (cv : V) (code : List UInt8) (h : Rep (.sl ty_Byte) M [cv] code) (hl : code.length ≤ 1048576) :
    ∃ (n l : Int) (a : Option Addr) (i : Nat) (X' : Mem), aCall T0 F_spec_DrawSeqCounts [cv] M = some (.tuple #[.int .i64 n, .int .i64 l, .slice a i i], X') ∧ M <+: X' ∧ i ≤ 1000 ∧ RepN ty_Int X' (.slice a i i) i := by
  have hc : CurH M cv := ⟨code, h, hl⟩
  obtain ⟨k, k0, k1, e0⟩ := c_spec_l01Open M cv code h
  have c0 := cur_open (M := M) (cv := cv) k0 k1
  rw [aCall_eq T_spec_DrawSeqCounts]; unfold A_spec_DrawSeqCounts C_spec_DrawSeqCounts; simp [thenD_pp, sliceCells_sl, sliceCells_z, sliceCells_nil, take_full, appS_sl, appK_ok, appS_none, thenD_ag, agP_nil, agP_cons, e0]
  generalize hx : aCall T0 F_spec_l01Cur_pick _ _ = xhx
  obtain ⟨y, X1, rfl, y0, y1, c1, a1⟩ := p_pick hc c0 (by omega) (by decide) hx
  clear hx
  simp [thenD_pp, sliceCells_sl, sliceCells_z, sliceCells_nil, take_full, appS_sl, appK_ok, appS_none, thenD_ag, agP_nil, agP_cons]
  generalize hx : aCall T0 F_spec_l01Cur_once _ _ = xhx
  obtain ⟨b, X2, rfl, c2, a2⟩ := p_once (n := 12) hc c1 (by omega) (by decide) (by decide) hx
  clear hx
  obtain ⟨n, X3, c3, hn, hcase⟩ : ∃ (n : Int) (X3 : Mem), Cur M M.length cv 1000 X3 ∧ inI n ∧ ((b = true ∧ aCall T0 F_spec_l01Cur_raw [.pointer (some ⟨M.length, 0, none⟩)] X2 = some (.int .i64 n, X3)) ∨ (b = false ∧ n = y ∧ X3 = X2)) := by
    cases b with
    | true =>
      obtain ⟨r, X3, e, r0, c3, a3⟩ := p_raw hc c2 (by omega) rfl
      exact ⟨r, X3, c3.mono (by omega), r0, .inl ⟨rfl, e⟩⟩
    | false => exact ⟨y, X2, c2.mono (by omega), by unfold inI; omega, .inr ⟨rfl, rfl, rfl⟩⟩
  have hn' := hn
  unfold inI at hn'
  obtain ⟨m, hm⟩ : ∃ m : Int, m = if n < 300 then n else 300 := ⟨_, rfl⟩
  have hm1 : inI m ∧ m ≤ 300 := by unfold inI; rw [hm]; split <;> omega
  have hh0 : hits [M.length] [] = false := rfl
  have fin : ∀ x : Option (V × Mem), True := fun _ => trivial
  obtain ⟨r, X4, e4, r0, c4, a4⟩ := p_raw hc c3 (by omega) rfl
  obtain ⟨z, X5, e5, z0, z1, c5, a5⟩ := p_pick (n := 5) hc c4 (by omega) (by decide) rfl
  obtain ⟨a, i, X6, e6, hi, hE⟩ := p_badRow (n := m) (most := 4) hc c5 (by omega) (by omega) hm1.1 (by decide) (by decide) rfl
  have a6 := CurE.ag hE
  have hpl := (CurE.c hE).lt
  obtain ⟨j, rfl⟩ := Int.eq_ofNat_of_zero_le z0
  have hj : j < 5 := by omega
  have hji : (j : Int) < 5 := by omega
  have g := int_get [0, 1, 2, 3, r] _ rfl (k := j) hj
  simp only [List.map_cons, List.map_nil] at g
  generalize ([0, 1, 2, 3, r])[j]'hj = l at g
  have hh1 : hits [X6.length] [M.length] = false := hits_ne fun x hx y hy e => by
    simp at hx hy
    omega
  have hh2 : hits [X6.length] [M.length, M.length] = false := hits_ne fun x hx y hy e => by
    simp at hx hy
    omega
  have hh3 : hits [X6.length] [M.length, M.length, M.length] = false := hits_ne fun x hx y hy e => by
    simp at hx hy
    omega
  have hne : ¬ X6.length = M.length := by omega
  have hrep : RepN ty_Int X6 (.slice a i i) i := CurE.rep hE
  have hpM : M <+: X6 := (CurE.c hE).1
  rw [hm] at e6
  by_cases q4 : X3 <+: X4
  all_goals by_cases q5 : X4 <+: X5
  all_goals by_cases q6 : X5 <+: X6
  all_goals
    rcases hcase with ⟨rfl, er⟩ | ⟨rfl, rfl, rfl⟩
    · simp [thenD_pp, sliceCells_sl, sliceCells_z, sliceCells_nil, take_full, appS_sl, appK_ok, appS_none, thenD_ag, agP_nil, agP_cons, er, thenD_pre, thenD_call, q4, q5, q6, e4, e5, e6, a4, a5, a6, hh0, hh1, hh2, hh3, hne, hji, g]
      exact ⟨n, l, a, i, _, ⟨⟨rfl, rfl, rfl, rfl⟩, rfl⟩, hpM, hi, hrep⟩
    · simp [thenD_pp, sliceCells_sl, sliceCells_z, sliceCells_nil, take_full, appS_sl, appK_ok, appS_none, thenD_ag, agP_nil, agP_cons, thenD_pre, thenD_call, q4, q5, q6, e4, e5, e6, a4, a5, a6, hh0, hh1, hh2, hh3, hne, hji, g]
      exact ⟨_, l, a, i, _, ⟨⟨rfl, rfl, rfl, rfl⟩, rfl⟩, hpM, hi, hrep⟩
theorem l_laws_FnEven_1 (M : Mem) (n want got iv : V) (q e0 : Nat) (hq : q ≤ 12) (he : e0 * 2 ^ q ≤ 100000) :
    lp (aCall T0) K_laws_FnEven_1 L_laws_FnEven_1 [und, und, und, n, .int .i64 (q : Int), und, want, got, .int .i64 (e0 : Int), iv, .int .i64 0, und, und, und, und, und, und, und, und, und, und, und, und, und, und, und, und, und, und, und, und, und, und, und, und, und, und, und, und, und, und, und, und, und, und, und, und, und, und, und, und, und, und, und, und, und, und, und, und, und, und, und] M = lp (aCall T0) K_laws_FnEven_1 L_laws_FnEven_1 [und, und, und, n, .int .i64 (q : Int), und, want, got, .int .i64 ((e0 * 2 ^ q : Nat) : Int), iv, .int .i64 (q : Int), und, und, und, und, und, und, und, und, und, und, und, und, und, und, und, und, und, und, und, und, und, und, und, und, und, und, und, und, und, und, und, und, und, und, und, und, und, und, und, und, und, und, und, und, und, und, und, und, und, und, und] M := by
  have hl := chain (g := fun i => lp (aCall T0) K_laws_FnEven_1 L_laws_FnEven_1 [und, und, und, n, .int .i64 (q : Int), und, want, got, .int .i64 ((e0 * 2 ^ i : Nat) : Int), iv, .int .i64 (i : Int), und, und, und, und, und, und, und, und, und, und, und, und, und, und, und, und, und, und, und, und, und, und, und, und, und, und, und, und, und, und, und, und, und, und, und, und, und, und, und, und, und, und, und, und, und, und, und, und, und, und, und] M) (n := q) fun i hi => by
    have e6 : IntKind.i64.wrap ((i : Int) + 1) = i + 1 := wrap_i64 (by omega) (by omega)
    have hle : e0 * 2 ^ i ≤ e0 * 2 ^ q := Nat.mul_le_mul_left _ (Nat.pow_le_pow_right (by decide) (by omega))
    have es : e0 * 2 ^ (i + 1) = 2 * (e0 * 2 ^ i) := by rw [Nat.pow_succ, ← Nat.mul_assoc, Nat.mul_comm]
    rw [es]
    generalize e0 * 2 ^ i = x at hle ⊢
    have w1 : IntKind.i64.wrap (2 * (x : Int)) = 2 * (x : Int) := wrap_i64 (by omega) (by omega)
    have hii : (i : Int) < q := by omega
    rw [S_laws_FnEven_1]; unfold B_laws_FnEven_1; simp [thenD_pp, sliceCells_sl, sliceCells_z, sliceCells_nil, take_full, appS_sl, appK_ok, appS_none, thenD_ag, agP_nil, agP_cons, hi, hii, w1, e6]
  simpa using hl
theorem l_laws_FnEven_0 (M : Mem) (got : V) (q b : Nat) (a : Option Addr) (w c : Nat) (hw : 0 < w) (hq : q ≤ 12) (hb : b ≤ 256) (h12 : q * b ≤ 12) :
    lp (aCall T0) K_laws_FnEven_0 L_laws_FnEven_0 [und, und, und, .int .i64 (b : Int), .int .i64 (q : Int), und, .slice a w c, got, .int .i64 1, .int .i64 0, und, und, und, und, und, und, und, und, und, und, und, und, und, und, und, und, und, und, und, und, und, und, und, und, und, und, und, und, und, und, und, und, und, und, und, und, und, und, und, und, und, und, und, und, und, und, und, und, und, und, und, und] M = lp (aCall T0) K_laws_FnEven_0 L_laws_FnEven_0 [und, und, und, .int .i64 (b : Int), .int .i64 (q : Int), und, .slice a w c, got, .int .i64 ((2 ^ (q * b) : Nat) : Int), .int .i64 (b : Int), und, und, und, und, und, und, und, und, und, und, und, und, und, und, und, und, und, und, und, und, und, und, und, und, und, und, und, und, und, und, und, und, und, und, und, und, und, und, und, und, und, und, und, und, und, und, und, und, und, und, und, und] M := by
  have hl := chain (g := fun i => lp (aCall T0) K_laws_FnEven_0 L_laws_FnEven_0 [und, und, und, .int .i64 (b : Int), .int .i64 (q : Int), und, .slice a w c, got, .int .i64 ((2 ^ (q * i) : Nat) : Int), .int .i64 (i : Int), und, und, und, und, und, und, und, und, und, und, und, und, und, und, und, und, und, und, und, und, und, und, und, und, und, und, und, und, und, und, und, und, und, und, und, und, und, und, und, und, und, und, und, und, und, und, und, und, und, und, und, und] M) (n := b) fun i hi => by
    have e6 : IntKind.i64.wrap ((i : Int) + 1) = i + 1 := wrap_i64 (by omega) (by omega)
    have es : 2 ^ (q * (i + 1)) = 2 ^ (q * i) * 2 ^ q := by rw [Nat.mul_succ, Nat.pow_add]
    have hle : 2 ^ (q * (i + 1)) ≤ 4096 := Nat.pow_le_pow_right (n := 2) (by decide) (Nat.le_trans (Nat.mul_le_mul_left q (by omega)) h12)
    have h1 := l_laws_FnEven_1 M (.int .i64 (b : Int)) (.slice a w c) got (.int .i64 (i : Int)) q (2 ^ (q * i)) hq (by rw [← es]; omega)
    rw [← es] at h1
    generalize 2 ^ (q * i) = x at h1 ⊢
    generalize 2 ^ (q * (i + 1)) = y at h1 ⊢
    have hii : (i : Int) < b := by omega
    have hqq : ¬ ((q : Int) < q) := by omega
    have hwi : (0 : Int) < w := by omega
    rw [S_laws_FnEven_0]; unfold B_laws_FnEven_0; simp [thenD_pp, sliceCells_sl, sliceCells_z, sliceCells_nil, take_full, appS_sl, appK_ok, appS_none, thenD_ag, agP_nil, agP_cons, hi, hii, hw, hwi, h1]
    rw [S_laws_FnEven_1]; unfold B_laws_FnEven_1; simp [thenD_pp, sliceCells_sl, sliceCells_z, sliceCells_nil, take_full, appS_sl, appK_ok, appS_none, thenD_ag, agP_nil, agP_cons, e6]
  simpa using hl
theorem gc_ex (M M' : Mem) (v : V) : ∃ X, gc M (some (v, M')) = some (v, X) := by
  simp only [gc]
  split
  · exact ⟨_, rfl⟩
  · exact ⟨_, rfl⟩
theorem c_laws_big (M : Mem) (a : Option Addr) (n c : Nat) : aCall T0 F_laws_big [.slice a n c] M = some (.bool (decide (1048576 < n)), M) := by
  by_cases h : 1048576 < n
  · have h' : (1048576 : Int) < n := by omega
    rw [decide_eq_true h]
    rw [aCall_eq T_laws_big]; unfold A_laws_big C_laws_big; simp [thenD_pp, sliceCells_sl, sliceCells_z, sliceCells_nil, take_full, appS_sl, appK_ok, appS_none, thenD_ag, agP_nil, agP_cons, h']
  · have h' : ¬ (1048576 : Int) < n := by omega
    rw [decide_eq_false h]
    rw [aCall_eq T_laws_big]; unfold A_laws_big C_laws_big; simp [thenD_pp, sliceCells_sl, sliceCells_z, sliceCells_nil, take_full, appS_sl, appK_ok, appS_none, thenD_ag, agP_nil, agP_cons, h']
set_option maxHeartbeats 4000000 in
set_option maxRecDepth 20000 in
theorem law_laws_FnEven (M : Mem) (avs : List V) (_ : ∀ b ∈ M, b.st ≠ 2) (h : Ins [(false, (.sl .u8))] M avs) : ∃ M', aCall T0 F_laws_FnEven avs M = some (.bool true, M') := by
  obtain ⟨v, _, code, rfl, h1, f1, h⟩ := ins_cons h
  obtain rfl := ins_nil h
  have hr := repv_one h1
  obtain ⟨a0, c0, rfl⟩ := hr.slen
  have hb := c_laws_big M a0 code.length c0
  by_cases hg : 1048576 < code.length
  · rw [decide_eq_true hg] at hb
    refine ⟨M, ?_⟩
    rw [aCall_eq T_laws_FnEven]; unfold A_laws_FnEven C_laws_FnEven; simp [thenD_pp, sliceCells_sl, sliceCells_z, sliceCells_nil, take_full, appS_sl, appK_ok, appS_none, thenD_ag, agP_nil, agP_cons, hb]
  rw [decide_eq_false hg] at hb
  obtain ⟨n, l, a, i, X1, e1, p1, hi, hri⟩ := c_spec_DrawSeqCounts M _ code hr (by omega)
  obtain ⟨ids, r1, l1⟩ : ∃ ids : List Int, Rep (.sl ty_Int) X1 [.slice a i i] ids ∧ ids.length = i := hri
  subst l1
  have hbd : Bd 1048576 (.sl ty_Int) ids := ⟨by omega, fun _ _ => trivial⟩
  obtain ⟨X2, u2, p2, e2, r2⟩ := d_spec_SeqCounts X1 n l _ ids r1 hbd
  obtain ⟨X3, u3, L3, p3, e3, o3, _⟩ := d_impl_SeqCounts X2 n l _ ids (r1.mono p2) hbd
  have r3 := o3.rep
  obtain ⟨a2, c2, rfl⟩ := r2.slen
  obtain ⟨a3, c3, rfl⟩ := r3.slen
  cases hok : sqOk n l ids with
  | false =>
    have hR : sqR n l ids = [] := by unfold sqR; rw [hok]; rfl
    rw [hR] at e2 e3
    have hz : ¬ ((0 : Int) < 0) := by omega
    rw [aCall_eq T_laws_FnEven]; unfold A_laws_FnEven C_laws_FnEven; simp [thenD_pp, sliceCells_sl, sliceCells_z, sliceCells_nil, take_full, appS_sl, appK_ok, appS_none, thenD_ag, agP_nil, agP_cons, hb, e1, e2, e3]
    by_cases hn : 0 < n
    all_goals
      rw [S_laws_FnEven_0]; unfold B_laws_FnEven_0; simp [thenD_pp, sliceCells_sl, sliceCells_z, sliceCells_nil, take_full, appS_sl, appK_ok, appS_none, thenD_ag, agP_nil, agP_cons, hn]
      rw [S_laws_FnEven_2]; unfold B_laws_FnEven_2; simp [thenD_pp, sliceCells_sl, sliceCells_z, sliceCells_nil, take_full, appS_sl, appK_ok, appS_none, thenD_ag, agP_nil, agP_cons]
      exact gc_ex _ _ _
  | true =>
    have hq0 := hok
    unfold sqOk at hq0
    simp only [Bool.and_eq_true, decide_eq_true_eq] at hq0
    obtain ⟨⟨hs, hl0, hl2⟩, h12⟩ := hq0
    obtain ⟨n0, n1, hm7, _⟩ := seq_lt hs
    obtain ⟨b, rfl⟩ := Int.eq_ofNat_of_zero_le n0
    obtain ⟨q, rfl⟩ := Int.eq_ofNat_of_zero_le hl0
    have h12n : q * (b + ids.length) ≤ 12 := by
      have e : ((q * (b + ids.length) : Nat) : Int) = (q : Int) * ((b : Int) + ids.length) := by simp
      omega
    have hqb : q * b ≤ 12 := Nat.le_trans (Nat.mul_le_mul_left q (by omega)) h12n
    have hqm : q * ids.length ≤ 12 := Nat.le_trans (Nat.mul_le_mul_left q (by omega)) h12n
    have hR : sqR b q ids = List.replicate (2 ^ (q * ids.length)) (((2 ^ (q * b) : Nat) : Int)) := by
      unfold sqR
      rw [if_pos hok, ← pow2_cast]
      rfl
    rw [hR] at e2 e3 r3
    rw [List.length_replicate] at e2 e3 r3
    have hC4 : 2 ^ (q * ids.length) ≤ 4096 := Nat.pow_le_pow_right (n := 2) (by decide) hqm
    have hC1 : 0 < 2 ^ (q * ids.length) := Nat.pow_pos (by decide)
    have e4 := l_laws_FnEven_0 X3 (.slice a3 (2 ^ (q * ids.length)) c3) q b a2 (2 ^ (q * ids.length)) c2 hC1 (by omega) (by omega) hqb
    generalize 2 ^ (q * ids.length) = C at *
    generalize 2 ^ (q * b) = Z at *
    have e5 := chain (g := fun i => lp (aCall T0) K_laws_FnEven_2 L_laws_FnEven_2 [und, und, und, und, und, und, und, .slice a3 C c3, .int .i64 (Z : Int), und, und, .int .i64 (i : Int), und, und, und, und, und, und, und, und, und, und, und, und, und, und, und, und, und, und, und, und, und, und, und, und, und, und, und, und, und, und, und, und, und, und, und, und, und, und, und, und, und, und, und, und, und, und, und, und, und, und] X3) (n := C) fun i hi => by
      have e6 : IntKind.i64.wrap ((i : Int) + 1) = i + 1 := wrap_i64 (by omega) (by omega)
      obtain ⟨l1, o1, rfl, _, rd⟩ := at_Int r3 (i := i) (by simpa using hi)
      rw [List.getElem_replicate] at rd
      rw [S_laws_FnEven_2]; unfold B_laws_FnEven_2; simp [thenD_pp, sliceCells_sl, sliceCells_z, sliceCells_nil, take_full, appS_sl, appK_ok, appS_none, thenD_ag, agP_nil, agP_cons, hi, rd, e6]
    simp only [Int.natCast_zero, Int.ofNat_zero] at e5
    rw [aCall_eq T_laws_FnEven]; unfold A_laws_FnEven C_laws_FnEven; simp [thenD_pp, sliceCells_sl, sliceCells_z, sliceCells_nil, take_full, appS_sl, appK_ok, appS_none, thenD_ag, agP_nil, agP_cons, hb, e1, e2, e3, e4]
    rw [S_laws_FnEven_0]; unfold B_laws_FnEven_0; simp [thenD_pp, sliceCells_sl, sliceCells_z, sliceCells_nil, take_full, appS_sl, appK_ok, appS_none, thenD_ag, agP_nil, agP_cons]
    simp [thenD_pp, sliceCells_sl, sliceCells_z, sliceCells_nil, take_full, appS_sl, appK_ok, appS_none, thenD_ag, agP_nil, agP_cons, e5]
    rw [S_laws_FnEven_2]; unfold B_laws_FnEven_2; simp [thenD_pp, sliceCells_sl, sliceCells_z, sliceCells_nil, take_full, appS_sl, appK_ok, appS_none, thenD_ag, agP_nil, agP_cons]
    exact gc_ex _ _ _
end GoAm
