/- What the functions do that the law reaches; and the law. -/
import Derived.Test.YtambjdldjgehkaaShelfFindt
import Derived.Test.YtambjdldjgehkaaAmOwn
set_option autoImplicit false
set_option linter.unusedVariables false
set_option linter.unusedSimpArgs false
namespace GoAm
open Go
theorem c_impl_within (M : Mem) (x a b : Int) : aCall T0 F_impl_within [.int .i64 x, .int .i64 a, .int .i64 b] M = some (.bool (decide (a ≤ x) && decide (x ≤ b)), M) := by
  rw [aCall_eq T_impl_within]; unfold A_impl_within C_impl_within; simp
  repeat' ((first | rw [selO_some] | rw [condR_bool] | rw [selD_some]); split <;> rename_i hq <;> (have hq2 := hq) <;> (try simp at hq2) <;> (try simp [*]))
def okByte (b : UInt8) : Bool := decide (97 ≤ (b.toNat : Int)) && decide ((b.toNat : Int) ≤ 122)
def wordB (w : List UInt8) : Bool := w.all okByte && (decide (1 ≤ (w.length : Int)) && decide ((w.length : Int) ≤ 32))
theorem all_false {w : List UInt8} {j : Nat} (hj : j < w.length) (h : okByte w[j] = false) : w.all okByte = false := by
  rw [List.all_eq_false]
  exact ⟨w[j], List.getElem_mem hj, by simp [h]⟩
theorem all_true {w : List UInt8} (h : ∀ i (hi : i < w.length), okByte w[i] = true) : w.all okByte = true := by
  rw [List.all_eq_true]
  intro b hb
  obtain ⟨i, hi, rfl⟩ := List.getElem_of_mem hb
  exact h i hi
theorem okByte_t {b : UInt8} (h : okByte b = true) : ¬ ((b.toNat : Int) < 97) ∧ ¬ (122 < (b.toNat : Int)) := by
  simp only [okByte, Bool.and_eq_true, decide_eq_true_eq] at h; omega
theorem okByte_f {b : UInt8} (h : okByte b = false) : (b.toNat : Int) < 97 ∨ (¬ ((b.toNat : Int) < 97) ∧ (122 < (b.toNat : Int))) := by
  simp only [okByte, Bool.and_eq_false_iff, decide_eq_false_iff_not] at h; omega
theorem first_byte (w : List UInt8) : w.all okByte = true ∨ (w.all okByte = false ∧ ∃ j, ∃ hj : j < w.length, (∀ i (hi : i < w.length), i < j → okByte w[i] = true) ∧ okByte w[j] = false) := by
  rcases first_bad (fun i => (w[i]?).any okByte) w.length with h | ⟨j, h1, h2, h3⟩
  · left; exact all_true fun i hi => by have := h i hi; simpa [hi] using this
  · right
    have h3' : okByte w[j] = false := by simpa [h1] using h3
    exact ⟨all_false h1 h3', j, h1, fun i hi hij => by have := h2 i hij; simpa [hi] using this, h3'⟩
theorem r_impl_isWord (M : Mem) (w : List UInt8) (hw : w.length ≤ 9223372036854775807) (i : Nat) (hi : i < w.length) (hb : okByte w[i] = true) :
    lp (aCall T0) K_impl_isWord_0 L_impl_isWord_0 [strV w, und, und, und, und, .int .i64 w.length, .int .i64 i, und, und, und, und, und, und, und, und, und, und, und, und, und, und, und, und] M = lp (aCall T0) K_impl_isWord_0 L_impl_isWord_0 [strV w, und, und, und, und, .int .i64 w.length, .int .i64 (i + 1 : Nat), und, und, und, und, und, und, und, und, und, und, und, und, und, und, und, und] M := by
  obtain ⟨h1, h2⟩ := okByte_t hb
  rw [S_impl_isWord_0]; unfold B_impl_isWord_0; simp [hi, byteV, h1, h2]
  rw [wrap_i64 (by omega) (by omega)]
theorem x_impl_isWord (M : Mem) (w : List UInt8) (hw : w.length ≤ 9223372036854775807) (i : Nat) (hi : i < w.length) (hb : okByte w[i] = false) (k : ACode) :
    thenF M [.tmp 2] (thenS (blockR 0 (lp (aCall T0) K_impl_isWord_0 L_impl_isWord_0 [strV w, und, und, und, und, .int .i64 w.length, .int .i64 i, und, und, und, und, und, und, und, und, und, und, und, und, und, und, und, und] M)) (aCall T0) k) = some (.bool false, M) := by
  rcases okByte_f hb with h1 | ⟨h1, h2⟩
  · rw [S_impl_isWord_0]; unfold B_impl_isWord_0; simp [hi, byteV, h1]
  · rw [S_impl_isWord_0]; unfold B_impl_isWord_0; simp [hi, byteV, h1, h2]
theorem c_impl_isWord (M : Mem) (w : List UInt8) (hw : w.length ≤ 9223372036854775807) : aCall T0 F_impl_isWord [strV w] M = some (.bool (wordB w), M) := by
  unfold wordB
  rcases first_byte w with ha | ⟨ha, j, hj, h1, h2⟩
  · have hl := chain (g := fun i : Nat => lp (aCall T0) K_impl_isWord_0 L_impl_isWord_0 [strV w, und, und, und, und, .int .i64 w.length, .int .i64 i, und, und, und, und, und, und, und, und, und, und, und, und, und, und, und, und] M) (n := w.length) fun i hi => r_impl_isWord M w hw i hi (List.all_eq_true.1 ha _ (List.getElem_mem hi))
    simp only [Int.natCast_zero, Int.ofNat_zero] at hl
    rw [ha]
    rw [aCall_eq T_impl_isWord]; unfold A_impl_isWord C_impl_isWord; simp [hl]
    rw [S_impl_isWord_0]; unfold B_impl_isWord_0; simp [c_impl_within]
  · have hl := chain (g := fun i : Nat => lp (aCall T0) K_impl_isWord_0 L_impl_isWord_0 [strV w, und, und, und, und, .int .i64 w.length, .int .i64 i, und, und, und, und, und, und, und, und, und, und, und, und, und, und, und, und] M) (n := j) fun i hi => r_impl_isWord M w hw i (by omega) (h1 i (by omega) hi)
    simp only [Int.natCast_zero, Int.ofNat_zero] at hl
    rw [ha]
    rw [aCall_eq T_impl_isWord]; unfold A_impl_isWord C_impl_isWord; simp [hl, x_impl_isWord M w hw j hj h2]
theorem r_spec_WordOk (M : Mem) (w : List UInt8) (hw : w.length ≤ 9223372036854775807) (i : Nat) (hi : i < w.length) (hb : okByte w[i] = true) :
    lp (aCall T0) K_spec_WordOk_0 L_spec_WordOk_0 [strV w, und, und, .int .i64 i, und, und, und, und, und, und, und, und, und, und, und, und, und, und, und, und, und, und, und, und, und, und, und, und] M = lp (aCall T0) K_spec_WordOk_0 L_spec_WordOk_0 [strV w, und, und, .int .i64 (i + 1 : Nat), und, und, und, und, und, und, und, und, und, und, und, und, und, und, und, und, und, und, und, und, und, und, und, und] M := by
  obtain ⟨h1, h2⟩ := okByte_t hb
  rw [S_spec_WordOk_0]; unfold B_spec_WordOk_0; simp [hi, byteV, h1, h2]
  rw [wrap_i64 (by omega) (by omega)]
theorem x_spec_WordOk (M : Mem) (w : List UInt8) (hw : w.length ≤ 9223372036854775807) (i : Nat) (hi : i < w.length) (hb : okByte w[i] = false) (k : ACode) :
    thenF M [.tmp 2] (thenS (blockR 0 (lp (aCall T0) K_spec_WordOk_0 L_spec_WordOk_0 [strV w, und, und, .int .i64 i, und, und, und, und, und, und, und, und, und, und, und, und, und, und, und, und, und, und, und, und, und, und, und, und] M)) (aCall T0) k) = some (.bool false, M) := by
  rcases okByte_f hb with h1 | ⟨h1, h2⟩
  · rw [S_spec_WordOk_0]; unfold B_spec_WordOk_0; simp [hi, byteV, h1]
  · rw [S_spec_WordOk_0]; unfold B_spec_WordOk_0; simp [hi, byteV, h1, h2]
theorem c_spec_WordOk (M : Mem) (w : List UInt8) (hw : w.length ≤ 9223372036854775807) : aCall T0 F_spec_WordOk [strV w] M = some (.bool (wordB w), M) := by
  unfold wordB
  by_cases hl1 : (w.length : Int) < 1
  · have : w = [] := List.length_eq_zero_iff.1 (by omega)
    subst this
    rw [aCall_eq T_spec_WordOk]; unfold A_spec_WordOk C_spec_WordOk; simp
  by_cases hl2 : 32 < (w.length : Int)
  · rw [aCall_eq T_spec_WordOk]; unfold A_spec_WordOk C_spec_WordOk; simp [hl1, hl2]
  have e : (decide (1 ≤ (w.length : Int)) && decide ((w.length : Int) ≤ 32)) = true := by simp; omega
  rw [e, Bool.and_true]
  rcases first_byte w with ha | ⟨ha, j, hj, h1, h2⟩
  · have hl := chain (g := fun i : Nat => lp (aCall T0) K_spec_WordOk_0 L_spec_WordOk_0 [strV w, und, und, .int .i64 i, und, und, und, und, und, und, und, und, und, und, und, und, und, und, und, und, und, und, und, und, und, und, und, und] M) (n := w.length) fun i hi => r_spec_WordOk M w hw i hi (List.all_eq_true.1 ha _ (List.getElem_mem hi))
    simp only [Int.natCast_zero, Int.ofNat_zero] at hl
    rw [ha]
    rw [aCall_eq T_spec_WordOk]; unfold A_spec_WordOk C_spec_WordOk; simp [hl, hl1, hl2]
    rw [S_spec_WordOk_0]; unfold B_spec_WordOk_0; simp
  · have hl := chain (g := fun i : Nat => lp (aCall T0) K_spec_WordOk_0 L_spec_WordOk_0 [strV w, und, und, .int .i64 i, und, und, und, und, und, und, und, und, und, und, und, und, und, und, und, und, und, und, und, und, und, und, und, und] M) (n := j) fun i hi => r_spec_WordOk M w hw i (by omega) (h1 i (by omega) hi)
    simp only [Int.natCast_zero, Int.ofNat_zero] at hl
    rw [ha]
    rw [aCall_eq T_spec_WordOk]; unfold A_spec_WordOk C_spec_WordOk; simp [hl, hl1, hl2, x_spec_WordOk M w hw j hj h2]
abbrev ty_Entry : Ty := .pr .str (.int .i64)
abbrev enc_Entry (x : ty_Entry.D) : List V := [strV x.1, .int .i64 x.2]
theorem rep_Entry {M : Mem} {cs : List V} {x : ty_Entry.D} (h : Rep ty_Entry M cs x) : cs = enc_Entry x := by
  obtain ⟨_, _, rfl, rfl, ⟨rfl, _⟩⟩ := h
  rfl
theorem repi_Entry {M M2 : Mem} {cs : List V} {x : ty_Entry.D} (h : Rep ty_Entry M cs x) : Rep ty_Entry M2 (enc_Entry x) x := by
  obtain ⟨_, _, rfl, rfl, ⟨rfl, w1⟩⟩ := h
  exact ⟨[strV x.1], [.int .i64 x.2], rfl, rfl, ⟨rfl, w1⟩⟩
instance d_Entry : DecidableEq ty_Entry.D := Ty.deq ty_Entry
theorem deq_Entry (x y : ty_Entry.D) : decide (x = y) = (decide (x.1 = y.1) && (decide (x.2 = y.2))) := by
  obtain ⟨x0, x1⟩ := x
  obtain ⟨y0, y1⟩ := y
  simp
theorem c_laws_eqEntry (M : Mem) (x y : ty_Entry.D) : aCall T0 F_laws_eqEntry [.agg (enc_Entry x).toArray, .agg (enc_Entry y).toArray] M = some (.bool (decide (x = y)), M) := by
  rw [deq_Entry]
  rw [aCall_eq T_laws_eqEntry]; unfold A_laws_eqEntry C_laws_eqEntry; simp
  repeat' ((first | rw [selO_some] | rw [condR_bool] | rw [selD_some]); split <;> rename_i hq <;> (have hq2 := hq) <;> (try simp at hq2) <;> (try simp [*]))
theorem c_laws_toEntry_f (M : Mem) (x : ty_Entry.D) : aCall T0 F_laws_toEntry [.agg (enc_Entry x).toArray] M = some (.agg (enc_Entry x).toArray, M) := by
  rw [aCall_eq T_laws_toEntry]; unfold A_laws_toEntry C_laws_toEntry; simp
theorem at_Entry {M : Mem} {a : Option Addr} {n c : Nat} {xs : List ty_Entry.D} (h : Rep (.sl ty_Entry) M [.slice a n c] xs) {i : Nat} (hi : i < xs.length) : ∃ l o, a = some ⟨l, o, none⟩ ∧ Rep ty_Entry M (enc_Entry xs[i]) xs[i] ∧ rdn M l (o + i * 2) 2 = some (enc_Entry xs[i]) ∧ rd1 M l (o + i * 2) = some (strV xs[i].1) ∧ rd1 M l (o + i * 2 + 1) = some (.int .i64 xs[i].2) := by
  obtain ⟨_, l, o, rfl, cs, hrd, hrep⟩ := rep_at h hi
  have hcs := rep_Entry hrep
  subst hcs
  have hw : ty_Entry.w = 2 := rfl
  rw [hw] at hrd
  exact ⟨l, o, rfl, hrep, hrd, rd1_of_rdn hrd (k := 0) rfl, rd1_of_rdn hrd (k := 1) rfl⟩
def z_Entry : List V := [(.string ⟨#[]⟩), (.int .i64 0)]
theorem r_laws_toEntryS (M : Mem) (a : Option Addr) (c : Nat) (xs : List ty_Entry.D) (h : Rep (.sl ty_Entry) M [.slice a xs.length c] xs) (hn : xs.length ≤ 1048576) (i : Nat) (hi : i < xs.length) :
    lp (aCall T0) K_laws_toEntryS_0 L_laws_toEntryS_0 [.slice a xs.length c, und, und, .slice (some ⟨M.length, 0, none⟩) xs.length xs.length, .int .i64 i, und, und, und, und, und, und, und, und, und, und, und, und, und, und, und, und, und, und] (M ++ [⟨tcells enc_Entry z_Entry xs i, 2, 2⟩]) =
    lp (aCall T0) K_laws_toEntryS_0 L_laws_toEntryS_0 [.slice a xs.length c, und, und, .slice (some ⟨M.length, 0, none⟩) xs.length xs.length, .int .i64 (i + 1 : Nat), und, und, und, und, und, und, und, und, und, und, und, und, und, und, und, und, und, und] (M ++ [⟨tcells enc_Entry z_Entry xs (i + 1), 2, 2⟩]) := by
  obtain ⟨_, l, o, rfl, cs, hrd, hrep⟩ := rep_at h hi
  have hcs := rep_Entry hrep
  subst hcs
  have hrd2 : rdn (M ++ [⟨tcells enc_Entry z_Entry xs i, 2, 2⟩]) l (o + i * 2) 2 = some (enc_Entry xs[i]) := rdn_old hrd
  have e2 := tcells_len (enc := enc_Entry) (z := z_Entry) (xs := xs) (fun x _ => rfl) (i := i) (by omega)
  have e3 := tcells_step (enc := enc_Entry) (z := z_Entry) (xs := xs) (fun x _ => rfl) hi
  have e4 : z_Entry.length = 2 := rfl
  rw [e4] at e2 e3
  have e5 : i * 2 + 2 ≤ xs.length * 2 := by omega
  have e6 : IntKind.i64.wrap ((i : Int) + 1) = i + 1 := wrap_i64 (by omega) (by omega)
  have e7 : (i : Int) < xs.length := by omega
  unfold splice at e3
  simp at e3
  have ec := fun M => c_laws_toEntry_f M xs[i]
  rw [S_laws_toEntryS_0]; unfold B_laws_toEntryS_0; simp [hrd2, ec, e2, e3, e5, e6, hi]
theorem c_laws_toEntryS (M : Mem) (v : V) (xs : List ty_Entry.D) (h : Rep (.sl ty_Entry) M [v] xs) (hn : xs.length ≤ 1048576) :
    aCall T0 F_laws_toEntryS [v] M = some (.slice (some ⟨M.length, 0, none⟩) xs.length xs.length, M ++ [⟨(xs.map enc_Entry).flatten, 2, 2⟩]) := by
  obtain ⟨a, c, rfl⟩ := h.slen
  have hl := chain (g := fun i : Nat => lp (aCall T0) K_laws_toEntryS_0 L_laws_toEntryS_0 [.slice a xs.length c, und, und, .slice (some ⟨M.length, 0, none⟩) xs.length xs.length, .int .i64 i, und, und, und, und, und, und, und, und, und, und, und, und, und, und, und, und, und, und] (M ++ [⟨tcells enc_Entry z_Entry xs i, 2, 2⟩])) (n := xs.length) fun i hi => r_laws_toEntryS M a c xs h hn i hi
  simp only [Int.natCast_zero, Int.ofNat_zero, tcells_zero, tcells_full] at hl
  unfold z_Entry at hl
  have e1 : (xs.length : Int) * 24 ≤ 281474976710656 := by omega
  have e2 : (xs.length : Int) ≤ 9223372036854775807 := by omega
  rw [aCall_eq T_laws_toEntryS]; unfold A_laws_toEntryS C_laws_toEntryS; simp [e1, e2]
  rw [hl]
  rw [S_laws_toEntryS_0]; unfold B_laws_toEntryS_0; simp
theorem rep_toEntryS {M M2 : Mem} {v : V} {xs : List ty_Entry.D} (h : Rep (.sl ty_Entry) M [v] xs) : Rep (.sl ty_Entry) (M2 ++ [⟨(xs.map enc_Entry).flatten, 2, 2⟩]) [.slice (some ⟨M2.length, 0, none⟩) xs.length xs.length] xs := by
  refine rep_made fun x hx => ?_
  obtain ⟨i, hi, rfl⟩ := List.getElem_of_mem hx
  obtain ⟨a, c, rfl⟩ := h.slen
  obtain ⟨_, l, o, rfl, cs, hrd, hrep⟩ := rep_at h hi
  exact repi_Entry hrep
theorem r_laws_eqEntryS (M : Mem) (a b : Option Addr) (c d : Nat) (xs ys : List ty_Entry.D) (h : Rep (.sl ty_Entry) M [.slice a xs.length c] xs) (h2 : Rep (.sl ty_Entry) M [.slice b ys.length d] ys) (hn : xs.length ≤ 9223372036854775807) (i : Nat) (hi : i < xs.length) (hj : i < ys.length) (he : xs[i] = ys[i]) :
    lp (aCall T0) K_laws_eqEntryS_0 L_laws_eqEntryS_0 [.slice a xs.length c, .slice b ys.length d, und, und, und, .int .i64 i, und, und, und, und, und, und, und, und, und, und, und, und, und, und, und, und, und, und, und, und, und] M = lp (aCall T0) K_laws_eqEntryS_0 L_laws_eqEntryS_0 [.slice a xs.length c, .slice b ys.length d, und, und, und, .int .i64 (i + 1 : Nat), und, und, und, und, und, und, und, und, und, und, und, und, und, und, und, und, und, und, und, und, und] M := by
  obtain ⟨_, l, o, rfl, cs, hrd, hrep⟩ := rep_at h hi
  obtain ⟨_, l2, o2, rfl, ds, hrd2, hrep2⟩ := rep_at h2 hj
  have hcs := rep_Entry hrep
  subst hcs
  have hds := rep_Entry hrep2
  subst hds
  have hw : ty_Entry.w = 2 := rfl
  rw [hw] at hrd hrd2
  have e6 : IntKind.i64.wrap ((i : Int) + 1) = i + 1 := wrap_i64 (by omega) (by omega)
  have ec := fun M => c_laws_eqEntry M ys[i] ys[i]
  rw [S_laws_eqEntryS_0]; unfold B_laws_eqEntryS_0; simp [hrd, hrd2, ec, e6, hi, hj, he]
theorem x_laws_eqEntryS (M : Mem) (a b : Option Addr) (c d : Nat) (xs ys : List ty_Entry.D) (h : Rep (.sl ty_Entry) M [.slice a xs.length c] xs) (h2 : Rep (.sl ty_Entry) M [.slice b ys.length d] ys) (hn : xs.length ≤ 9223372036854775807) (i : Nat) (hi : i < xs.length) (hj : i < ys.length) (he : xs[i] ≠ ys[i]) (k : ACode) :
    thenF M [.tmp 4] (thenS (blockR 0 (lp (aCall T0) K_laws_eqEntryS_0 L_laws_eqEntryS_0 [.slice a xs.length c, .slice b ys.length d, und, und, und, .int .i64 i, und, und, und, und, und, und, und, und, und, und, und, und, und, und, und, und, und, und, und, und, und] M)) (aCall T0) k) = some (.bool false, M) := by
  obtain ⟨_, l, o, rfl, cs, hrd, hrep⟩ := rep_at h hi
  obtain ⟨_, l2, o2, rfl, ds, hrd2, hrep2⟩ := rep_at h2 hj
  have hcs := rep_Entry hrep
  subst hcs
  have hds := rep_Entry hrep2
  subst hds
  have hw : ty_Entry.w = 2 := rfl
  rw [hw] at hrd hrd2
  have ec := fun M => c_laws_eqEntry M xs[i] ys[i]
  rw [S_laws_eqEntryS_0]; unfold B_laws_eqEntryS_0; simp [hrd, hrd2, ec, hi, hj, he]
theorem c_laws_eqEntryS (M : Mem) (v u : V) (xs ys : List ty_Entry.D) (h : Rep (.sl ty_Entry) M [v] xs) (h2 : Rep (.sl ty_Entry) M [u] ys) (hn : xs.length ≤ 9223372036854775807) : aCall T0 F_laws_eqEntryS [v, u] M = some (.bool (decide (xs = ys)), M) := by
  obtain ⟨a, c, rfl⟩ := h.slen
  obtain ⟨b, d, rfl⟩ := h2.slen
  by_cases hl : xs.length = ys.length
  · rcases list_eq_iff hl with he | ⟨j, hj, h3, h4⟩
    · subst he
      have hc := chain (g := fun i : Nat => lp (aCall T0) K_laws_eqEntryS_0 L_laws_eqEntryS_0 [.slice a xs.length c, .slice b xs.length d, und, und, und, .int .i64 i, und, und, und, und, und, und, und, und, und, und, und, und, und, und, und, und, und, und, und, und, und] M) (n := xs.length) fun i hi => r_laws_eqEntryS M a b c d xs xs h h2 hn i hi hi rfl
      simp only [Int.natCast_zero, Int.ofNat_zero] at hc
      rw [aCall_eq T_laws_eqEntryS]; unfold A_laws_eqEntryS C_laws_eqEntryS; simp [hc]
      rw [S_laws_eqEntryS_0]; unfold B_laws_eqEntryS_0; simp
    · have hc := chain (g := fun i : Nat => lp (aCall T0) K_laws_eqEntryS_0 L_laws_eqEntryS_0 [.slice a xs.length c, .slice b ys.length d, und, und, und, .int .i64 i, und, und, und, und, und, und, und, und, und, und, und, und, und, und, und, und, und, und, und, und, und] M) (n := j) fun i hi => r_laws_eqEntryS M a b c d xs ys h h2 hn i (by omega) (by omega) (h3 i (by omega) hi)
      simp only [Int.natCast_zero, Int.ofNat_zero] at hc
      have hx := x_laws_eqEntryS M a b c d xs ys h h2 hn j hj (by omega) h4
      have hne : xs ≠ ys := fun e => h4 (by simp [e])
      simp only [← hl] at hc hx
      simp only [← hl]
      rw [aCall_eq T_laws_eqEntryS]; unfold A_laws_eqEntryS C_laws_eqEntryS; simp [hc, hx, hne]
  · have hne : xs ≠ ys := fun e => hl (by rw [e])
    have hl2 : ¬ ((xs.length : Int) = ys.length) := by omega
    rw [aCall_eq T_laws_eqEntryS]; unfold A_laws_eqEntryS C_laws_eqEntryS; simp [hl2, hl, hne]
theorem r_idx_Entry (M : Mem) (a : Option Addr) (c : Nat) (xs : List ty_Entry.D) (h : Rep (.sl ty_Entry) M [.slice a xs.length c] xs) (hn : xs.length ≤ 9223372036854775807) (f : FuncId) (cap : List V) (p : ty_Entry.D → Bool)
    (hp : ∀ i (hi : i < xs.length), aCall T0 f (.agg (enc_Entry xs[i]).toArray :: cap) M = some (.bool (p xs[i]), M)) (i : Nat) (hi : i < xs.length) (hq : p xs[i] = false) :
    lp (aCall T0) K_slices_IndexFunc_impl_Entry_impl_Entry_0 L_slices_IndexFunc_impl_Entry_impl_Entry_0 [.slice a xs.length c, .func (.func f) #[] cap.toArray, und, und, und, und, und, .int .i64 xs.length, .int .i64 i, und, und, und, und, und, und, und, und, und, und] M =
    lp (aCall T0) K_slices_IndexFunc_impl_Entry_impl_Entry_0 L_slices_IndexFunc_impl_Entry_impl_Entry_0 [.slice a xs.length c, .func (.func f) #[] cap.toArray, und, und, und, und, und, .int .i64 xs.length, .int .i64 (i + 1 : Nat), und, und, und, und, und, und, und, und, und, und] M := by
  obtain ⟨l, o, rfl, hrep, hrd, _⟩ := at_Entry h hi
  have ec := hp i hi
  have e6 : IntKind.i64.wrap ((i : Int) + 1) = i + 1 := wrap_i64 (by omega) (by omega)
  rw [S_slices_IndexFunc_impl_Entry_impl_Entry_0]; unfold B_slices_IndexFunc_impl_Entry_impl_Entry_0; simp [hrd, ec, e6, hi, hq]
theorem x_idx_Entry (M : Mem) (a : Option Addr) (c : Nat) (xs : List ty_Entry.D) (h : Rep (.sl ty_Entry) M [.slice a xs.length c] xs) (f : FuncId) (cap : List V) (p : ty_Entry.D → Bool)
    (hp : ∀ i (hi : i < xs.length), aCall T0 f (.agg (enc_Entry xs[i]).toArray :: cap) M = some (.bool (p xs[i]), M)) (i : Nat) (hi : i < xs.length) (hq : p xs[i] = true) (k : ACode) :
    thenF M [.tmp 4] (thenS (blockR 0 (lp (aCall T0) K_slices_IndexFunc_impl_Entry_impl_Entry_0 L_slices_IndexFunc_impl_Entry_impl_Entry_0 [.slice a xs.length c, .func (.func f) #[] cap.toArray, und, und, und, und, und, .int .i64 xs.length, .int .i64 i, und, und, und, und, und, und, und, und, und, und] M)) (aCall T0) k) = some (.int .i64 i, M) := by
  obtain ⟨l, o, rfl, hrep, hrd, _⟩ := at_Entry h hi
  have ec := hp i hi
  rw [S_slices_IndexFunc_impl_Entry_impl_Entry_0]; unfold B_slices_IndexFunc_impl_Entry_impl_Entry_0; simp [hrd, ec, hi, hq]
theorem c_idx_Entry (M : Mem) (v : V) (xs : List ty_Entry.D) (h : Rep (.sl ty_Entry) M [v] xs) (hn : xs.length ≤ 9223372036854775807) (f : FuncId) (cap : List V) (p : ty_Entry.D → Bool)
    (hp : ∀ i (hi : i < xs.length), aCall T0 f (.agg (enc_Entry xs[i]).toArray :: cap) M = some (.bool (p xs[i]), M)) :
    aCall T0 F_slices_IndexFunc_impl_Entry_impl_Entry [v, .func (.func f) #[] cap.toArray] M = some (.int .i64 (idx p xs), M) := by
  obtain ⟨a, c, rfl⟩ := h.slen
  rcases idx_cases p xs with ⟨ha, h1⟩ | ⟨j, hj, ha, h1, h2⟩
  · have hc := chain (g := fun i : Nat => lp (aCall T0) K_slices_IndexFunc_impl_Entry_impl_Entry_0 L_slices_IndexFunc_impl_Entry_impl_Entry_0 [.slice a xs.length c, .func (.func f) #[] cap.toArray, und, und, und, und, und, .int .i64 xs.length, .int .i64 i, und, und, und, und, und, und, und, und, und, und] M) (n := xs.length) fun i hi => r_idx_Entry M a c xs h hn f cap p hp i hi (h1 i hi)
    simp only [Int.natCast_zero, Int.ofNat_zero] at hc
    rw [ha]
    rw [aCall_eq T_slices_IndexFunc_impl_Entry_impl_Entry]; unfold A_slices_IndexFunc_impl_Entry_impl_Entry C_slices_IndexFunc_impl_Entry_impl_Entry; simp [hc]
    rw [S_slices_IndexFunc_impl_Entry_impl_Entry_0]; unfold B_slices_IndexFunc_impl_Entry_impl_Entry_0; simp
  · have hc := chain (g := fun i : Nat => lp (aCall T0) K_slices_IndexFunc_impl_Entry_impl_Entry_0 L_slices_IndexFunc_impl_Entry_impl_Entry_0 [.slice a xs.length c, .func (.func f) #[] cap.toArray, und, und, und, und, und, .int .i64 xs.length, .int .i64 i, und, und, und, und, und, und, und, und, und, und] M) (n := j) fun i hi => r_idx_Entry M a c xs h hn f cap p hp i (by omega) (h1 i (by omega) hi)
    simp only [Int.natCast_zero, Int.ofNat_zero] at hc
    rw [ha]
    rw [aCall_eq T_slices_IndexFunc_impl_Entry_impl_Entry]; unfold A_slices_IndexFunc_impl_Entry_impl_Entry C_slices_IndexFunc_impl_Entry_impl_Entry; simp [hc, x_idx_Entry M a c xs h f cap p hp j hj h2]
def sz_Entry (x : ty_Entry.D) : Int := (x.1.length : Int)
def szs_Entry : List ty_Entry.D → Int
  | [] => 0
  | x :: xs => sz_Entry x + szs_Entry xs
theorem szs_pos_Entry : ∀ xs, 0 ≤ szs_Entry xs
  | [] => by simp [szs_Entry]
  | x :: xs => by have := szs_pos_Entry xs; unfold szs_Entry sz_Entry; omega
theorem z_laws_szEntry (M : Mem) (x : ty_Entry.D) (left : Int) (h0 : 0 ≤ left) (h1 : left ≤ 1048576) (f0 : x.1.length ≤ 9223372036854775807) : ∃ l : Int, aCall T0 F_laws_szEntry [.agg (enc_Entry x).toArray, .int .i64 left] M = some (.int .i64 l, M) ∧ (0 ≤ l → sz_Entry x + l ≤ left) := by
  unfold sz_Entry
  have w0 : -9223372036854775808 ≤ left - (x.1.length : Int) ∧ left - (x.1.length : Int) ≤ 9223372036854775807 := by omega
  have e0 : IntKind.i64.wrap (left - (x.1.length : Int)) = left - (x.1.length : Int) := wrap_i64 w0.1 w0.2
  by_cases c0 : left - (x.1.length : Int) < 0
  · refine ⟨-1, ?_, by omega⟩
    rw [aCall_eq T_laws_szEntry]; unfold A_laws_szEntry C_laws_szEntry; simp [e0, c0]
  refine ⟨left - (x.1.length : Int), ?_, by omega⟩
  rw [aCall_eq T_laws_szEntry]; unfold A_laws_szEntry C_laws_szEntry; simp [e0, c0]
theorem l_laws_szEntryS (M : Mem) (a : Option Addr) (c : Nat) (xs : List ty_Entry.D) (h : Rep (.sl ty_Entry) M [.slice a xs.length c] xs) (hn : xs.length ≤ 1048576) (f0 : ∀ x ∈ xs, x.1.length ≤ 9223372036854775807) : ∀ (k i : Nat) (left : Int), i + k = xs.length → 0 ≤ left → left ≤ 1048576 →
    (∃ (l l2 : Int) (j : Nat), ∃ hj : j < xs.length, aCall T0 F_laws_szEntry [.agg (enc_Entry xs[j]).toArray, .int .i64 l] M = some (.int .i64 l2, M) ∧ l2 < 0 ∧ lp (aCall T0) K_laws_szEntryS_0 L_laws_szEntryS_0 [.slice a xs.length c, .int .i64 left, und, und, und, .int .i64 i, und, und, und, und, und, und, und, und, und, und, und, und, und, und, und, und, und, und, und, und, und] M = lp (aCall T0) K_laws_szEntryS_0 L_laws_szEntryS_0 [.slice a xs.length c, .int .i64 l, und, und, und, .int .i64 j, und, und, und, und, und, und, und, und, und, und, und, und, und, und, und, und, und, und, und, und, und] M) ∨
    (∃ l : Int, 0 ≤ l ∧ szs_Entry (xs.drop i) + l ≤ left ∧ lp (aCall T0) K_laws_szEntryS_0 L_laws_szEntryS_0 [.slice a xs.length c, .int .i64 left, und, und, und, .int .i64 i, und, und, und, und, und, und, und, und, und, und, und, und, und, und, und, und, und, und, und, und, und] M = lp (aCall T0) K_laws_szEntryS_0 L_laws_szEntryS_0 [.slice a xs.length c, .int .i64 l, und, und, und, .int .i64 xs.length, und, und, und, und, und, und, und, und, und, und, und, und, und, und, und, und, und, und, und, und, und] M)
  | 0, i, left, hi, h0, h1 => by
    right
    have e : xs.drop i = [] := List.drop_eq_nil_of_le (by omega)
    have e2 : i = xs.length := by omega
    refine ⟨left, h0, by rw [e]; simp [szs_Entry], ?_⟩
    rw [e2]
  | k + 1, i, left, hi', h0, h1 => by
    have hi : i < xs.length := by omega
    obtain ⟨l', hl1, hl2⟩ := z_laws_szEntry M xs[i] left h0 h1 (f0 xs[i] (List.getElem_mem hi))
    by_cases hl0 : l' < 0
    · exact .inl ⟨left, l', i, hi, hl1, hl0, rfl⟩
    · obtain ⟨_, l, o, rfl, cs, hrd, hrep⟩ := rep_at h hi
      have hcs := rep_Entry hrep
      subst hcs
      have hw : ty_Entry.w = 2 := rfl
      rw [hw] at hrd
      have e6 : IntKind.i64.wrap ((i : Int) + 1) = i + 1 := wrap_i64 (by omega) (by omega)
      have hd : xs.drop i = xs[i] :: xs.drop (i + 1) := (List.drop_eq_getElem_cons hi)
      have hz : 0 ≤ sz_Entry xs[i] := by unfold sz_Entry; omega
      have ih := l_laws_szEntryS M (some ⟨l, o, none⟩) c xs h hn f0 k (i + 1) l' (by omega) (by omega) (by have := hl2 (by omega); omega)
      have e7 : lp (aCall T0) K_laws_szEntryS_0 L_laws_szEntryS_0 [.slice (some ⟨l, o, none⟩) xs.length c, .int .i64 left, und, und, und, .int .i64 i, und, und, und, und, und, und, und, und, und, und, und, und, und, und, und, und, und, und, und, und, und] M = lp (aCall T0) K_laws_szEntryS_0 L_laws_szEntryS_0 [.slice (some ⟨l, o, none⟩) xs.length c, .int .i64 l', und, und, und, .int .i64 (i + 1 : Nat), und, und, und, und, und, und, und, und, und, und, und, und, und, und, und, und, und, und, und, und, und] M := by
        rw [S_laws_szEntryS_0]; unfold B_laws_szEntryS_0; simp [hrd, hl1, hl0, hi, e6]
      rw [e7, hd]
      rcases ih with ih | ⟨l3, h3, h4, h5⟩
      · exact .inl ih
      · refine .inr ⟨l3, h3, ?_, h5⟩
        have := hl2 (by omega)
        simp only [szs_Entry]
        omega
theorem c_laws_szEntryS (M : Mem) (v : V) (xs : List ty_Entry.D) (h : Rep (.sl ty_Entry) M [v] xs) (left : Int) (h0 : 0 ≤ left) (h1 : left ≤ 1048576) (hx : xs.length ≤ 9223372036854775807) (f0 : ∀ x ∈ xs, x.1.length ≤ 9223372036854775807) :
    ∃ l : Int, aCall T0 F_laws_szEntryS [v, .int .i64 left] M = some (.int .i64 l, M) ∧ (0 ≤ l → xs.length + szs_Entry xs + l ≤ left) := by
  obtain ⟨a, c, rfl⟩ := h.slen
  have e0 : IntKind.i64.wrap (left - xs.length) = left - xs.length := wrap_i64 (by omega) (by omega)
  by_cases hc : left - (xs.length : Int) < 0
  · refine ⟨-1, ?_, by omega⟩
    rw [aCall_eq T_laws_szEntryS]; unfold A_laws_szEntryS C_laws_szEntryS; simp [e0, hc]
  · rcases l_laws_szEntryS M a c xs h (by omega) f0 xs.length 0 (left - xs.length) (by omega) (by omega) (by omega) with ⟨l, l2, j, hj, h3, h4, hl⟩ | ⟨l, h3, h4, hl⟩
    · simp only [Int.natCast_zero, Int.ofNat_zero] at hl
      obtain ⟨_, p, o, rfl, cs, hrd, hrep⟩ := rep_at h hj
      have hcs := rep_Entry hrep
      subst hcs
      have hw : ty_Entry.w = 2 := rfl
      rw [hw] at hrd
      refine ⟨-1, ?_, by omega⟩
      rw [aCall_eq T_laws_szEntryS]; unfold A_laws_szEntryS C_laws_szEntryS; simp [e0, hc, hl]
      rw [S_laws_szEntryS_0]; unfold B_laws_szEntryS_0; simp [hrd, hj, h3, h4]
    · simp only [Int.natCast_zero, Int.ofNat_zero, List.drop_zero] at hl h4
      refine ⟨l, ?_, by omega⟩
      rw [aCall_eq T_laws_szEntryS]; unfold A_laws_szEntryS C_laws_szEntryS; simp [e0, hc, hl]
      rw [S_laws_szEntryS_0]; unfold B_laws_szEntryS_0; simp
def noneB (e : ty_Entry.D) : Bool := decide (e.1 = []) && decide (e.2 = 0)
def entB (e : ty_Entry.D) : Bool := wordB e.1 && (decide (0 ≤ (e.2 : Int)) && decide ((e.2 : Int) ≤ 65535))
def isW (w : List UInt8) (e : ty_Entry.D) : Bool := decide (e.1 = w)
theorem c_spec_l17None (M : Mem) (e : ty_Entry.D) : aCall T0 F_spec_l17None [.agg (enc_Entry e).toArray] M = some (.bool (noneB e), M) := by
  unfold noneB
  rw [aCall_eq T_spec_l17None]; unfold A_spec_l17None C_spec_l17None; simp
theorem c_spec_l17Full (M : Mem) (e : ty_Entry.D) (he : e.1.length ≤ 9223372036854775807) : aCall T0 F_spec_l17Full [.agg (enc_Entry e).toArray] M = some (.bool (entB e), M) := by
  unfold entB
  have h := fun M => c_spec_WordOk M e.1 he
  rw [aCall_eq T_spec_l17Full]; unfold A_spec_l17Full C_spec_l17Full; simp [h]
  repeat' ((first | rw [selO_some] | rw [condR_bool] | rw [selD_some]); split <;> rename_i hq <;> (have hq2 := hq) <;> (try simp at hq2) <;> (try simp [*, h]))
theorem c_impl_isEntry (M : Mem) (e : ty_Entry.D) (he : e.1.length ≤ 9223372036854775807) : aCall T0 F_impl_isEntry [.agg (enc_Entry e).toArray] M = some (.bool (entB e), M) := by
  unfold entB
  have h := fun M => c_impl_isWord M e.1 he
  rw [aCall_eq T_impl_isEntry]; unfold A_impl_isEntry C_impl_isEntry; simp [h, c_impl_within]
  repeat' ((first | rw [selO_some] | rw [condR_bool] | rw [selD_some]); split <;> rename_i hq <;> (have hq2 := hq) <;> (try simp at hq2) <;> (try simp [*, h, c_impl_within]))
theorem c_impl_shelfFind_1 (M : Mem) (e : ty_Entry.D) (p : Nat) (w : List UInt8) (hp : rd1 M p 0 = some (strV w)) : aCall T0 F_impl_shelfFind_1 [.agg (enc_Entry e).toArray, .pointer (some ⟨p, 0, none⟩)] M = some (.bool (isW w e), M) := by
  have h2 : ∀ N, rd1 (M ++ N) p 0 = some (strV w) := fun N => rd1_old hp
  unfold isW
  rw [aCall_eq T_impl_shelfFind_1]; unfold A_impl_shelfFind_1 C_impl_shelfFind_1; simp [h2]
theorem c_impl_shelfFind (M : Mem) (v : V) (xs : List ty_Entry.D) (h : Rep (.sl ty_Entry) M [v] xs) (hn : xs.length ≤ 9223372036854775807) (w : List UInt8) :
    aCall T0 F_impl_shelfFind [.agg #[v], strV w] M = some (.int .i64 (idx (isW w) xs), M) := by
  have h' : Rep (.sl ty_Entry) (M ++ [⟨[v], 1, 2⟩, ⟨[strV w], 1, 2⟩]) [v] xs := h.mono (List.prefix_append _ _)
  have hp : rd1 (M ++ [⟨[v], 1, 2⟩, ⟨[strV w], 1, 2⟩]) (M.length + 1) 0 = some (strV w) := by simp
  have e : aCall T0 F_slices_IndexFunc_impl_Entry_impl_Entry [v, .func (.func F_impl_shelfFind_1) #[] #[.pointer (some ⟨M.length + 1, 0, none⟩)]] _ = _ :=
    c_idx_Entry _ v xs h' hn F_impl_shelfFind_1 [.pointer (some ⟨M.length + 1, 0, none⟩)] (isW w) (fun i hi => c_impl_shelfFind_1 _ xs[i] (M.length + 1) w hp)
  obtain ⟨a, c, rfl⟩ := h.slen
  rw [aCall_eq T_impl_shelfFind]; unfold A_impl_shelfFind C_impl_shelfFind; simp [e]
theorem r_spec_l17At (M : Mem) (a : Option Addr) (c : Nat) (xs : List ty_Entry.D) (h : Rep (.sl ty_Entry) M [.slice a xs.length c] xs) (hn : xs.length ≤ 9223372036854775807) (w : List UInt8) (p : Nat) (hp : rd1 M p 0 = some (.slice a xs.length c)) (i : Nat) (hi : i < xs.length) (hq : isW w xs[i] = false) :
    lp (aCall T0) K_spec_l17At_0 L_spec_l17At_0 [und, strV w, .pointer (some ⟨p, 0, none⟩), und, und, .int .i64 i, und, und, und, und, und, und, und, und, und, und, und, und, und, und, und, und] M = lp (aCall T0) K_spec_l17At_0 L_spec_l17At_0 [und, strV w, .pointer (some ⟨p, 0, none⟩), und, und, .int .i64 (i + 1 : Nat), und, und, und, und, und, und, und, und, und, und, und, und, und, und, und, und] M := by
  obtain ⟨l, o, rfl, hrep, hrd, hf0, hf1⟩ := at_Entry h hi
  have e6 : IntKind.i64.wrap ((i : Int) + 1) = i + 1 := wrap_i64 (by omega) (by omega)
  have hq' : ¬ xs[i].1 = w := by simpa [isW] using hq
  rw [S_spec_l17At_0]; unfold B_spec_l17At_0; simp [hp, hf0, e6, hi, hq']
theorem x_spec_l17At (M0 N : Mem) (a : Option Addr) (c : Nat) (xs : List ty_Entry.D) (h : Rep (.sl ty_Entry) (M0 ++ N) [.slice a xs.length c] xs) (w : List UInt8) (p : Nat) (hp : rd1 (M0 ++ N) p 0 = some (.slice a xs.length c)) (i : Nat) (hi : i < xs.length) (hq : isW w xs[i] = true) (k : ACode) :
    thenF M0 [.tmp 4] (thenS (blockR 0 (lp (aCall T0) K_spec_l17At_0 L_spec_l17At_0 [und, strV w, .pointer (some ⟨p, 0, none⟩), und, und, .int .i64 i, und, und, und, und, und, und, und, und, und, und, und, und, und, und, und, und] (M0 ++ N))) (aCall T0) k) = some (.int .i64 i, M0) := by
  obtain ⟨l, o, rfl, hrep, hrd, hf0, hf1⟩ := at_Entry h hi
  have hq' : xs[i].1 = w := by simpa [isW] using hq
  rw [S_spec_l17At_0]; unfold B_spec_l17At_0; simp [hp, hf0, hi, hq']
theorem c_spec_l17At (M : Mem) (v : V) (xs : List ty_Entry.D) (h : Rep (.sl ty_Entry) M [v] xs) (hn : xs.length ≤ 9223372036854775807) (w : List UInt8) :
    aCall T0 F_spec_l17At [.agg #[v], strV w] M = some (.int .i64 (idx (isW w) xs), M) := by
  have h' : Rep (.sl ty_Entry) (M ++ [⟨[v], 1, 2⟩]) [v] xs := h.mono (List.prefix_append _ _)
  obtain ⟨a, c, rfl⟩ := h.slen
  have hp : rd1 (M ++ [⟨[.slice a xs.length c], 1, 2⟩]) M.length 0 = some (.slice a xs.length c) := by simp
  rcases idx_cases (isW w) xs with ⟨ha, h1⟩ | ⟨j, hj, ha, h1, h2⟩
  · have hc := chain (g := fun i : Nat => lp (aCall T0) K_spec_l17At_0 L_spec_l17At_0 [und, strV w, .pointer (some ⟨M.length, 0, none⟩), und, und, .int .i64 i, und, und, und, und, und, und, und, und, und, und, und, und, und, und, und, und] (M ++ [⟨[.slice a xs.length c], 1, 2⟩])) (n := xs.length) fun i hi => r_spec_l17At _ a c xs h' hn w M.length hp i hi (h1 i hi)
    simp only [Int.natCast_zero, Int.ofNat_zero] at hc
    rw [ha]
    rw [aCall_eq T_spec_l17At]; unfold A_spec_l17At C_spec_l17At; simp [hc]
    rw [S_spec_l17At_0]; unfold B_spec_l17At_0; simp
  · have hc := chain (g := fun i : Nat => lp (aCall T0) K_spec_l17At_0 L_spec_l17At_0 [und, strV w, .pointer (some ⟨M.length, 0, none⟩), und, und, .int .i64 i, und, und, und, und, und, und, und, und, und, und, und, und, und, und, und, und] (M ++ [⟨[.slice a xs.length c], 1, 2⟩])) (n := j) fun i hi => r_spec_l17At _ a c xs h' hn w M.length hp i (by omega) (h1 i (by omega) hi)
    simp only [Int.natCast_zero, Int.ofNat_zero] at hc
    rw [ha]
    rw [aCall_eq T_spec_l17At]; unfold A_spec_l17At C_spec_l17At; simp [hc, x_spec_l17At M [⟨[.slice a xs.length c], 1, 2⟩] a c xs h' w M.length hp j hj h2]
def slotB (xs : List ty_Entry.D) (i : Nat) : Bool := match xs[i]? with
  | some e => noneB e || (entB e && decide (idx (isW e.1) xs = i))
  | none => true
def shelfB (xs : List ty_Entry.D) : Bool := decide (xs.length = 4) && (List.range xs.length).all (slotB xs)
theorem r_spec_ShelfOk (M : Mem) (a : Option Addr) (c : Nat) (xs : List ty_Entry.D) (h : Rep (.sl ty_Entry) M [.slice a xs.length c] xs) (hn : xs.length ≤ 9223372036854775807) (hf : ∀ e ∈ xs, e.1.length ≤ 9223372036854775807) (p : Nat) (hp : rd1 M p 0 = some (.slice a xs.length c)) (hp2 : rdn M p 0 1 = some [.slice a xs.length c]) (i : Nat) (hi : i < xs.length) (hq : slotB xs i = true) :
    lp (aCall T0) K_spec_ShelfOk_0 L_spec_ShelfOk_0 [und, .pointer (some ⟨p, 0, none⟩), und, .int .i64 i, und, und, und, und, und, und, und, und, und, und, und, und, und, und, und, und, und, und, und, und, und, und, und, und, und, und, und, und, und, und, und, und, und, und, und, und, und, und, und] M = lp (aCall T0) K_spec_ShelfOk_0 L_spec_ShelfOk_0 [und, .pointer (some ⟨p, 0, none⟩), und, .int .i64 (i + 1 : Nat), und, und, und, und, und, und, und, und, und, und, und, und, und, und, und, und, und, und, und, und, und, und, und, und, und, und, und, und, und, und, und, und, und, und, und, und, und, und, und] M := by
  obtain ⟨l, o, rfl, hrep, hrd, hf0, hf1⟩ := at_Entry h hi
  have e6 : IntKind.i64.wrap ((i : Int) + 1) = i + 1 := wrap_i64 (by omega) (by omega)
  have g1 := fun M => c_spec_l17None M xs[i]
  have g2 := fun M => c_spec_l17Full M xs[i] (hf _ (List.getElem_mem hi))
  have g3 := c_spec_l17At M _ xs h hn xs[i].1
  simp only [slotB, List.getElem?_eq_getElem hi, Bool.or_eq_true, Bool.and_eq_true, decide_eq_true_eq] at hq
  cases hnone : noneB xs[i] with
  | true => rw [S_spec_ShelfOk_0]; unfold B_spec_ShelfOk_0; simp [hp, hp2, hrd, hf0, e6, hi, g1, g2, g3, hnone]
  | false =>
    obtain ⟨q1, q2⟩ := hq.resolve_left (by simp [hnone])
    rw [S_spec_ShelfOk_0]; unfold B_spec_ShelfOk_0; simp [hp, hp2, hrd, hf0, e6, hi, g1, g2, g3, hnone, q1, q2]
theorem x_spec_ShelfOk (M0 N : Mem) (a : Option Addr) (c : Nat) (xs : List ty_Entry.D) (h : Rep (.sl ty_Entry) (M0 ++ N) [.slice a xs.length c] xs) (hn : xs.length ≤ 9223372036854775807) (hf : ∀ e ∈ xs, e.1.length ≤ 9223372036854775807) (p : Nat) (hp : rd1 (M0 ++ N) p 0 = some (.slice a xs.length c)) (hp2 : rdn (M0 ++ N) p 0 1 = some [.slice a xs.length c]) (i : Nat) (hi : i < xs.length) (hq : slotB xs i = false) (k : ACode) :
    thenF M0 [.tmp 2] (thenS (blockR 0 (lp (aCall T0) K_spec_ShelfOk_0 L_spec_ShelfOk_0 [und, .pointer (some ⟨p, 0, none⟩), und, .int .i64 i, und, und, und, und, und, und, und, und, und, und, und, und, und, und, und, und, und, und, und, und, und, und, und, und, und, und, und, und, und, und, und, und, und, und, und, und, und, und, und] (M0 ++ N))) (aCall T0) k) = some (.bool false, M0) := by
  obtain ⟨l, o, rfl, hrep, hrd, hf0, hf1⟩ := at_Entry h hi
  have g1 := fun M => c_spec_l17None M xs[i]
  have g2 := fun M => c_spec_l17Full M xs[i] (hf _ (List.getElem_mem hi))
  have g3 := c_spec_l17At (M0 ++ N) _ xs h hn xs[i].1
  simp only [slotB, List.getElem?_eq_getElem hi, Bool.or_eq_false_iff, Bool.and_eq_false_iff, decide_eq_false_iff_not] at hq
  obtain ⟨hnone, hq⟩ := hq
  cases hent : entB xs[i] with
  | false => rw [S_spec_ShelfOk_0]; unfold B_spec_ShelfOk_0; simp [hp, hp2, hrd, hf0, hi, g1, g2, g3, hnone, hent]
  | true =>
    have q2 := hq.resolve_left (by simp [hent])
    rw [S_spec_ShelfOk_0]; unfold B_spec_ShelfOk_0; simp [hp, hp2, hrd, hf0, hi, g1, g2, g3, hnone, hent, q2]
theorem slots_cases (xs : List ty_Entry.D) : ((List.range xs.length).all (slotB xs) = true ∧ ∀ i, i < xs.length → slotB xs i = true) ∨ ((List.range xs.length).all (slotB xs) = false ∧ ∃ j, j < xs.length ∧ (∀ i, i < j → slotB xs i = true) ∧ slotB xs j = false) := by
  rcases first_bad (slotB xs) xs.length with h | ⟨j, h1, h2, h3⟩
  · left
    exact ⟨by rw [List.all_eq_true]; intro i hi; exact h i (by simpa using hi), h⟩
  · right
    refine ⟨?_, j, h1, h2, h3⟩
    rw [List.all_eq_false]
    exact ⟨j, by simpa using h1, by simp [h3]⟩
theorem c_spec_ShelfOk (M : Mem) (v : V) (xs : List ty_Entry.D) (h : Rep (.sl ty_Entry) M [v] xs) (hn : xs.length ≤ 9223372036854775807) (hf : ∀ e ∈ xs, e.1.length ≤ 9223372036854775807) :
    aCall T0 F_spec_ShelfOk [.agg #[v]] M = some (.bool (shelfB xs), M) := by
  have h' : Rep (.sl ty_Entry) (M ++ [⟨[v], 1, 2⟩]) [v] xs := h.mono (List.prefix_append _ _)
  obtain ⟨a, c, rfl⟩ := h.slen
  have hp : rd1 (M ++ [⟨[.slice a xs.length c], 1, 2⟩]) M.length 0 = some (.slice a xs.length c) := by simp
  have hp2 : rdn (M ++ [⟨[.slice a xs.length c], 1, 2⟩]) M.length 0 1 = some [.slice a xs.length c] := by simp
  unfold shelfB
  by_cases h4 : xs.length = 4
  · have h4' : ((xs.length : Int) = 4) = True := eq_true (by omega)
    rcases slots_cases xs with ⟨ha, h1⟩ | ⟨ha, j, hj, h1, h2⟩
    · have hc := chain (g := fun i : Nat => lp (aCall T0) K_spec_ShelfOk_0 L_spec_ShelfOk_0 [und, .pointer (some ⟨M.length, 0, none⟩), und, .int .i64 i, und, und, und, und, und, und, und, und, und, und, und, und, und, und, und, und, und, und, und, und, und, und, und, und, und, und, und, und, und, und, und, und, und, und, und, und, und, und, und] (M ++ [⟨[.slice a xs.length c], 1, 2⟩])) (n := xs.length) fun i hi => r_spec_ShelfOk _ a c xs h' hn hf M.length hp hp2 i hi (h1 i hi)
      simp only [Int.natCast_zero, Int.ofNat_zero] at hc
      rw [ha]
      rw [aCall_eq T_spec_ShelfOk]; unfold A_spec_ShelfOk C_spec_ShelfOk; simp [hc, h4']
      rw [S_spec_ShelfOk_0]; unfold B_spec_ShelfOk_0; simp
      exact h4
    · have hc := chain (g := fun i : Nat => lp (aCall T0) K_spec_ShelfOk_0 L_spec_ShelfOk_0 [und, .pointer (some ⟨M.length, 0, none⟩), und, .int .i64 i, und, und, und, und, und, und, und, und, und, und, und, und, und, und, und, und, und, und, und, und, und, und, und, und, und, und, und, und, und, und, und, und, und, und, und, und, und, und, und] (M ++ [⟨[.slice a xs.length c], 1, 2⟩])) (n := j) fun i hi => r_spec_ShelfOk _ a c xs h' hn hf M.length hp hp2 i (by omega) (h1 i hi)
      simp only [Int.natCast_zero, Int.ofNat_zero] at hc
      rw [ha]
      rw [aCall_eq T_spec_ShelfOk]; unfold A_spec_ShelfOk C_spec_ShelfOk; simp [hc, h4', x_spec_ShelfOk M [⟨[.slice a xs.length c], 1, 2⟩] a c xs h' hn hf M.length hp hp2 j hj h2]
  · have h4' : ¬ (xs.length : Int) = 4 := by omega
    rw [aCall_eq T_spec_ShelfOk]; unfold A_spec_ShelfOk C_spec_ShelfOk; simp [h4', h4]
theorem r_impl_isShelf (M : Mem) (a : Option Addr) (c : Nat) (xs : List ty_Entry.D) (h : Rep (.sl ty_Entry) M [.slice a xs.length c] xs) (hn : xs.length ≤ 9223372036854775807) (hf : ∀ e ∈ xs, e.1.length ≤ 9223372036854775807) (p : Nat) (hp2 : rdn M p 0 1 = some [.slice a xs.length c]) (i : Nat) (hi : i < xs.length) (hq : slotB xs i = true) :
    lp (aCall T0) K_impl_isShelf_0 L_impl_isShelf_0 [und, .pointer (some ⟨p, 0, none⟩), und, und, und, und, .slice a xs.length c, .int .i64 xs.length, .int .i64 i, und, und, und, und, und, und, und, und, und, und, und, und, und, und, und, und, und, und, und, und, und, und, und] M = lp (aCall T0) K_impl_isShelf_0 L_impl_isShelf_0 [und, .pointer (some ⟨p, 0, none⟩), und, und, und, und, .slice a xs.length c, .int .i64 xs.length, .int .i64 (i + 1 : Nat), und, und, und, und, und, und, und, und, und, und, und, und, und, und, und, und, und, und, und, und, und, und, und] (M ++ [⟨enc_Entry xs[i], 1, 2⟩]) := by
  obtain ⟨l, o, rfl, hrep, hrd, hf0, hf1⟩ := at_Entry h hi
  have e6 : IntKind.i64.wrap ((i : Int) + 1) = i + 1 := wrap_i64 (by omega) (by omega)
  have g2 := fun M => c_impl_isEntry M xs[i] (hf _ (List.getElem_mem hi))
  have hp3 : ∀ N, rdn (M ++ N) p 0 1 = some [.slice (some ⟨l, o, none⟩) xs.length c] := fun N => rdn_old hp2
  have g3 := c_impl_shelfFind (M ++ [⟨enc_Entry xs[i], 1, 2⟩]) _ xs (h.mono (List.prefix_append _ _)) hn xs[i].1
  simp only [slotB, List.getElem?_eq_getElem hi, Bool.or_eq_true, Bool.and_eq_true, decide_eq_true_eq] at hq
  cases hnone : noneB xs[i] with
  | true =>
    simp only [noneB, Bool.and_eq_true, decide_eq_true_eq] at hnone
    obtain ⟨n1, n2⟩ := hnone
    rw [S_impl_isShelf_0]; unfold B_impl_isShelf_0; simp [hrd, e6, hi, n1, n2]
  | false =>
    obtain ⟨q1, q2⟩ := hq.resolve_left (by simp [hnone])
    have hnn : ¬ (xs[i].1 = [] ∧ xs[i].2 = 0) := by
      intro hh
      simp [noneB, hh.1, hh.2] at hnone
    have hnn2 : (decide (xs[i].1 = []) && decide (xs[i].2 = 0)) = false := by
      rw [← hnone]; rfl
    rw [S_impl_isShelf_0]; unfold B_impl_isShelf_0; simp [hrd, e6, hi, hnn2, g2, q1, hp3, g3, q2]
theorem idx_at {α : Type} {p : α → Bool} {xs : List α} {i : Nat} (hi : i < xs.length) (h : p xs[i] = true) : 0 ≤ idx p xs ∧ idx p xs ≤ i := by
  rcases idx_cases p xs with ⟨ha, h1⟩ | ⟨j, hj, ha, h1, h2⟩
  · rw [h1 i hi] at h; cases h
  · rw [ha]
    by_cases hij : i < j
    · rw [h1 i hi hij] at h; cases h
    · omega
theorem x_impl_isShelf (M0 N : Mem) (a : Option Addr) (c : Nat) (xs : List ty_Entry.D) (h : Rep (.sl ty_Entry) (M0 ++ N) [.slice a xs.length c] xs) (hn : xs.length ≤ 9223372036854775807) (hf : ∀ e ∈ xs, e.1.length ≤ 9223372036854775807) (p : Nat) (hp2 : rdn (M0 ++ N) p 0 1 = some [.slice a xs.length c]) (i : Nat) (hi : i < xs.length) (hq : slotB xs i = false) (k : ACode) :
    thenF M0 [.tmp 2] (thenS (blockR 0 (lp (aCall T0) K_impl_isShelf_0 L_impl_isShelf_0 [und, .pointer (some ⟨p, 0, none⟩), und, und, und, und, .slice a xs.length c, .int .i64 xs.length, .int .i64 i, und, und, und, und, und, und, und, und, und, und, und, und, und, und, und, und, und, und, und, und, und, und, und] (M0 ++ N))) (aCall T0) k) = some (.bool false, M0) := by
  obtain ⟨M, hM⟩ : ∃ M, M = M0 ++ N := ⟨_, rfl⟩
  rw [← hM] at h hp2 ⊢
  obtain ⟨l, o, rfl, hrep, hrd, hf0, hf1⟩ := at_Entry h hi
  have g2 := fun M => c_impl_isEntry M xs[i] (hf _ (List.getElem_mem hi))
  have hp3 : ∀ N, rdn (M ++ N) p 0 1 = some [.slice (some ⟨l, o, none⟩) xs.length c] := fun N => rdn_old hp2
  have g3 := c_impl_shelfFind (M ++ [⟨enc_Entry xs[i], 1, 2⟩]) _ xs (h.mono (List.prefix_append _ _)) hn xs[i].1
  simp only [slotB, List.getElem?_eq_getElem hi, Bool.or_eq_false_iff, Bool.and_eq_false_iff, decide_eq_false_iff_not] at hq
  obtain ⟨hnone, hq⟩ := hq
  have hnn2 : (decide (xs[i].1 = []) && decide (xs[i].2 = 0)) = false := by
    rw [← hnone]; rfl
  have fin : gc M0 (some (.bool false, M ++ [⟨enc_Entry xs[i], 1, 2⟩])) = some (.bool false, M0) := by
    rw [hM, List.append_assoc]; simp
  cases hent : entB xs[i] with
  | false => rw [S_impl_isShelf_0]; unfold B_impl_isShelf_0; simp [hrd, hi, hnn2, g2, hent, fin]
  | true =>
    have q2 := hq.resolve_left (by simp [hent])
    have q3 := idx_at (p := isW xs[i].1) hi (by simp [isW])
    have q4 : idx (isW xs[i].1) xs < (i : Int) := by omega
    rw [S_impl_isShelf_0]; unfold B_impl_isShelf_0; simp [hrd, hi, hnn2, g2, hent, hp3, g3, q4, fin]
def entM (M : Mem) (xs : List ty_Entry.D) (i : Nat) : Mem := M ++ (xs.take i).map fun e => ⟨enc_Entry e, 1, 2⟩
theorem entM_succ (M : Mem) (xs : List ty_Entry.D) (i : Nat) (hi : i < xs.length) : entM M xs (i + 1) = entM M xs i ++ [⟨enc_Entry xs[i], 1, 2⟩] := by
  unfold entM
  rw [List.take_succ_eq_append_getElem hi, List.map_append, ← List.append_assoc]
  rfl
theorem c_impl_isShelf (M : Mem) (v : V) (xs : List ty_Entry.D) (h : Rep (.sl ty_Entry) M [v] xs) (hn : xs.length ≤ 9223372036854775807) (hf : ∀ e ∈ xs, e.1.length ≤ 9223372036854775807) :
    aCall T0 F_impl_isShelf [.agg #[v]] M = some (.bool (shelfB xs), M) := by
  obtain ⟨a, c, rfl⟩ := h.slen
  have hR : ∀ i, Rep (.sl ty_Entry) (entM (M ++ [⟨[.slice a xs.length c], 1, 2⟩]) xs i) [.slice a xs.length c] xs := fun i => h.mono ((List.prefix_append _ _).trans (List.prefix_append _ _))
  have hp2 : ∀ i, rdn (entM (M ++ [⟨[.slice a xs.length c], 1, 2⟩]) xs i) M.length 0 1 = some [.slice a xs.length c] := fun i => rdn_old (by simp)
  have hp1 : ∀ i, rd1 (entM (M ++ [⟨[.slice a xs.length c], 1, 2⟩]) xs i) M.length 0 = some (.slice a xs.length c) := fun i => rd1_old (by simp)
  have e0 : entM (M ++ [⟨[.slice a xs.length c], 1, 2⟩]) xs 0 = M ++ [⟨[.slice a xs.length c], 1, 2⟩] := by simp [entM]
  have hE : ∀ i, ∃ N, entM (M ++ [⟨[.slice a xs.length c], 1, 2⟩]) xs i = M ++ N := fun i => ⟨_, by unfold entM; rw [List.append_assoc]⟩
  unfold shelfB
  rcases slots_cases xs with ⟨ha, h1⟩ | ⟨ha, j, hj, h1, h2⟩
  · have hc := chain (g := fun i : Nat => lp (aCall T0) K_impl_isShelf_0 L_impl_isShelf_0 [und, .pointer (some ⟨M.length, 0, none⟩), und, und, und, und, .slice a xs.length c, .int .i64 xs.length, .int .i64 i, und, und, und, und, und, und, und, und, und, und, und, und, und, und, und, und, und, und, und, und, und, und, und] (entM (M ++ [⟨[.slice a xs.length c], 1, 2⟩]) xs i)) (n := xs.length) fun i hi => by
      rw [entM_succ _ xs i hi]
      exact r_impl_isShelf _ a c xs (hR i) hn hf M.length (hp2 i) i hi (h1 i hi)
    simp only [Int.natCast_zero, Int.ofNat_zero, e0] at hc
    obtain ⟨N, hN⟩ := hE xs.length
    have hp1' := hp1 xs.length
    rw [hN] at hc hp1'
    rw [ha, Bool.and_true]
    rw [aCall_eq T_impl_isShelf]; unfold A_impl_isShelf C_impl_isShelf; simp [hc]
    rw [S_impl_isShelf_0]; unfold B_impl_isShelf_0; simp [hp1']
    by_cases h4 : xs.length = 4
    · have : ((xs.length : Int) = 4) = True := eq_true (by omega)
      simp [h4]
    · have : ¬ ((xs.length : Int) = 4) := by omega
      simp [h4, this]
  · have hc := chain (g := fun i : Nat => lp (aCall T0) K_impl_isShelf_0 L_impl_isShelf_0 [und, .pointer (some ⟨M.length, 0, none⟩), und, und, und, und, .slice a xs.length c, .int .i64 xs.length, .int .i64 i, und, und, und, und, und, und, und, und, und, und, und, und, und, und, und, und, und, und, und, und, und, und, und] (entM (M ++ [⟨[.slice a xs.length c], 1, 2⟩]) xs i)) (n := j) fun i hi => by
      rw [entM_succ _ xs i (by omega)]
      exact r_impl_isShelf _ a c xs (hR i) hn hf M.length (hp2 i) i (by omega) (h1 i hi)
    simp only [Int.natCast_zero, Int.ofNat_zero, e0] at hc
    obtain ⟨N, hN⟩ := hE j
    have hR' := hR j
    have hp2' := hp2 j
    rw [hN] at hc hR' hp2'
    rw [ha, Bool.and_false]
    rw [aCall_eq T_impl_isShelf]; unfold A_impl_isShelf C_impl_isShelf; simp [hc, x_impl_isShelf M N a c xs hR' hn hf M.length hp2' j hj h2]
theorem c_laws_toShelf (M : Mem) (v : V) (xs : List ty_Entry.D) (h : Rep (.sl ty_Entry) M [v] xs) (hn : xs.length ≤ 1048576) : ∃ N u, aCall T0 F_laws_toShelf [.agg #[v]] M = some (.agg #[u], M ++ N) ∧ Rep (.sl ty_Entry) (M ++ N) [u] xs := by
  obtain ⟨B, hB⟩ : ∃ B : Blk, B = ⟨(xs.map enc_Entry).flatten, 2, 2⟩ := ⟨_, rfl⟩
  have t := c_laws_toEntryS (M ++ [⟨[v], 1, 2⟩, ⟨[.slice none 0 0], 1, 2⟩, ⟨[.slice none 0 0], 1, 2⟩]) v xs (h.mono (List.prefix_append _ _)) hn
  have r := rep_toEntryS (M2 := M ++ [⟨[v], 1, 2⟩, ⟨[.slice (some ⟨M.length + 3, 0, none⟩) xs.length xs.length], 1, 2⟩, ⟨[.slice (some ⟨M.length + 3, 0, none⟩) xs.length xs.length], 1, 2⟩]) h
  rw [← hB] at t r
  refine ⟨[⟨[v], 1, 2⟩, ⟨[.slice (some ⟨M.length + 3, 0, none⟩) xs.length xs.length], 1, 2⟩, ⟨[.slice (some ⟨M.length + 3, 0, none⟩) xs.length xs.length], 1, 2⟩, B], .slice (some ⟨M.length + 3, 0, none⟩) xs.length xs.length, ?_, ?_⟩
  · simp at t
    obtain ⟨a, c, rfl⟩ := h.slen
    rw [aCall_eq T_laws_toShelf]; unfold A_laws_toShelf C_laws_toShelf; simp [t]
  · simpa using r
theorem c_laws_eqShelf (M : Mem) (v u : V) (xs ys : List ty_Entry.D) (h : Rep (.sl ty_Entry) M [v] xs) (h2 : Rep (.sl ty_Entry) M [u] ys) (hn : xs.length ≤ 9223372036854775807) : aCall T0 F_laws_eqShelf [.agg #[v], .agg #[u]] M = some (.bool (decide (xs = ys)), M) := by
  have e := c_laws_eqEntryS (M ++ [⟨[v], 1, 2⟩, ⟨[u], 1, 2⟩]) v u xs ys (h.mono (List.prefix_append _ _)) (h2.mono (List.prefix_append _ _)) hn
  obtain ⟨a, c, rfl⟩ := h.slen
  obtain ⟨b, d, rfl⟩ := h2.slen
  rw [aCall_eq T_laws_eqShelf]; unfold A_laws_eqShelf C_laws_eqShelf; simp [e]
  by_cases hxy : xs = ys
  · simp [hxy]
  · simp [hxy]
theorem c_laws_szShelf (M : Mem) (v : V) (xs : List ty_Entry.D) (h : Rep (.sl ty_Entry) M [v] xs) (left : Int) (h0 : 0 ≤ left) (h1 : left ≤ 1048576) (hx : xs.length ≤ 9223372036854775807) (f0 : ∀ x ∈ xs, x.1.length ≤ 9223372036854775807) :
    ∃ l : Int, aCall T0 F_laws_szShelf [.agg #[v], .int .i64 left] M = some (.int .i64 l, M) ∧ (0 ≤ l → xs.length + szs_Entry xs + l ≤ left) := by
  obtain ⟨l, e1, e2⟩ := c_laws_szEntryS (M ++ [⟨[v], 1, 2⟩]) v xs (h.mono (List.prefix_append _ _)) left h0 h1 hx f0
  obtain ⟨a, c, rfl⟩ := h.slen
  by_cases hl : l < 0
  · refine ⟨-1, ?_, by omega⟩
    rw [aCall_eq T_laws_szShelf]; unfold A_laws_szShelf C_laws_szShelf; simp [e1, hl]
  · refine ⟨l, ?_, e2⟩
    rw [aCall_eq T_laws_szShelf]; unfold A_laws_szShelf C_laws_szShelf; simp [e1, hl]
def findI (xs : List ty_Entry.D) (w : List UInt8) : Int := if shelfB xs = true ∧ wordB w = true then idx (isW w) xs else -1
theorem c_impl_ShelfFind (M : Mem) (v : V) (xs : List ty_Entry.D) (h : Rep (.sl ty_Entry) M [v] xs) (hn : xs.length ≤ 9223372036854775807) (hf : ∀ e ∈ xs, e.1.length ≤ 9223372036854775807) (w : List UInt8) (hw : w.length ≤ 9223372036854775807) :
    aCall T0 F_impl_ShelfFind [.agg #[v], strV w] M = some (.int .i64 (findI xs w), M) := by
  have h' : Rep (.sl ty_Entry) (M ++ [⟨[v], 1, 2⟩]) [v] xs := h.mono (List.prefix_append _ _)
  have e1 := c_impl_isShelf _ v xs h' hn hf
  have e2 := fun M => c_impl_isWord M w hw
  have e3 := c_impl_shelfFind _ v xs h' hn w
  obtain ⟨a, c, rfl⟩ := h.slen
  unfold findI
  cases hb : shelfB xs with
  | false => rw [aCall_eq T_impl_ShelfFind]; unfold A_impl_ShelfFind C_impl_ShelfFind; simp [e1, hb]
  | true =>
    cases hw : wordB w with
    | false => rw [aCall_eq T_impl_ShelfFind]; unfold A_impl_ShelfFind C_impl_ShelfFind; simp [e1, e2, hb, hw]
    | true => rw [aCall_eq T_impl_ShelfFind]; unfold A_impl_ShelfFind C_impl_ShelfFind; simp [e1, e2, e3, hb, hw]
theorem c_spec_ShelfFind (M : Mem) (v : V) (xs : List ty_Entry.D) (h : Rep (.sl ty_Entry) M [v] xs) (hn : xs.length ≤ 9223372036854775807) (hf : ∀ e ∈ xs, e.1.length ≤ 9223372036854775807) (w : List UInt8) (hw : w.length ≤ 9223372036854775807) :
    aCall T0 F_spec_ShelfFind [.agg #[v], strV w] M = some (.int .i64 (findI xs w), M) := by
  have h' : Rep (.sl ty_Entry) (M ++ [⟨[v], 1, 2⟩]) [v] xs := h.mono (List.prefix_append _ _)
  have e1 := c_spec_ShelfOk _ v xs h' hn hf
  have e2 := fun M => c_spec_WordOk M w hw
  have e3 := c_spec_l17At _ v xs h' hn w
  obtain ⟨a, c, rfl⟩ := h.slen
  unfold findI
  cases hb : shelfB xs with
  | false => rw [aCall_eq T_spec_ShelfFind]; unfold A_spec_ShelfFind C_spec_ShelfFind; simp [e1, hb]
  | true =>
    cases hw : wordB w with
    | false => rw [aCall_eq T_spec_ShelfFind]; unfold A_spec_ShelfFind C_spec_ShelfFind; simp [e1, e2, hb, hw]
    | true => rw [aCall_eq T_spec_ShelfFind]; unfold A_spec_ShelfFind C_spec_ShelfFind; simp [e1, e2, e3, hb, hw]
theorem c_laws_FnExactShelfFind (M : Mem) (v : V) (xs : List ty_Entry.D) (h : Rep (.sl ty_Entry) M [v] xs) (hlen : xs.length ≤ 9223372036854775807) (hf : ∀ e ∈ xs, e.1.length ≤ 9223372036854775807) (w : List UInt8) (hw : w.length ≤ 9223372036854775807) : ∃ M', aCall T0 F_laws_FnExactShelfFind [.agg #[v], strV w] M = some (.bool true, M') := by
  have h0 : Rep (.sl ty_Entry) (M ++ [⟨[v], 1, 2⟩]) [v] xs := h.mono (List.prefix_append _ _)
  obtain ⟨l, e1, e2⟩ := c_laws_szShelf _ v xs h0 1048576 (by omega) (by omega) hlen hf
  have hpos := szs_pos_Entry xs
  refine ⟨M, ?_⟩
  by_cases hw1 : 1048576 < (w.length : Int)
  · obtain ⟨a, c, rfl⟩ := h.slen
    rw [aCall_eq T_laws_FnExactShelfFind]; unfold A_laws_FnExactShelfFind C_laws_FnExactShelfFind; simp [hw1]
  by_cases hl : l < 0
  · obtain ⟨a, c, rfl⟩ := h.slen
    rw [aCall_eq T_laws_FnExactShelfFind]; unfold A_laws_FnExactShelfFind C_laws_FnExactShelfFind; simp [hw1, e1, hl]
  have hn : xs.length ≤ 1048576 := by have := e2 (by omega); omega
  obtain ⟨N1, u1, t1, r1⟩ := c_laws_toShelf _ v xs h0 hn
  have q1 := c_spec_ShelfFind _ u1 xs r1 hlen hf w hw
  obtain ⟨N2, u2, t2, r2⟩ := c_laws_toShelf _ v xs (h0.mono (List.prefix_append _ N1)) hn
  have q2 := c_impl_ShelfFind _ u2 xs (r2.mono (List.prefix_append _ [⟨[u2], 1, 2⟩])) hlen hf w hw
  obtain ⟨N3, u3, t3, r3⟩ := c_laws_toShelf (M ++ [⟨[v], 1, 2⟩] ++ N1 ++ N2 ++ [⟨[u2], 1, 2⟩]) v xs (h0.mono (((List.prefix_append _ N1).trans (List.prefix_append _ N2)).trans (List.prefix_append _ _))) hn
  have q3 := c_laws_eqShelf _ u2 u3 xs xs (r2.mono ((List.prefix_append _ _).trans (List.prefix_append _ _))) r3 hlen
  obtain ⟨a, c, rfl⟩ := h.slen
  obtain ⟨a1, c1, rfl⟩ := r1.slen
  obtain ⟨a2, c2, rfl⟩ := r2.slen
  obtain ⟨a3, c3, rfl⟩ := r3.slen
  simp at t1 t2 t3 q1 q2 q3
  rw [aCall_eq T_laws_FnExactShelfFind]; unfold A_laws_FnExactShelfFind C_laws_FnExactShelfFind; simp [hw1, e1, hl, t1, t2, t3, q1, q2, q3, thenD_pre]
theorem law_laws_FnExactShelfFind (M : Mem) (avs : List V) (_ : ∀ b ∈ M, b.st ≠ 2) (h : Ins [(true, (.sl (.pr .str (.int .i64)))), (false, .str)] M avs) : ∃ M', aCall T0 F_laws_FnExactShelfFind avs M = some (.bool true, M') := by
  obtain ⟨v, vs, xs, rfl, h1, f1, h⟩ := ins_cons h
  obtain ⟨v2, vs2, w, rfl, h2, f2, h⟩ := ins_cons h
  obtain rfl := ins_nil h
  obtain ⟨cs, rfl, r1⟩ := repv_agg h1
  have r1 : Rep (.sl ty_Entry) M cs xs := r1
  have h2 := repv_one h2
  cases h2
  obtain ⟨hlen, hfit⟩ := f1
  have hl1 := r1.len
  match cs, hl1, r1 with
  | [u], _, r1 => exact c_laws_FnExactShelfFind M u xs r1 hlen (fun e he => (hfit e he).1) w f2
end GoAm
