/- What the functions do that the law reaches; and the law. -/
import Derived.Test.YtcjkoidiipfpeaaFnShelfBookt
import Derived.Test.YtcjkoidiipfpeaaAmGr
set_option autoImplicit false
set_option linter.unusedVariables false
set_option linter.unusedSimpArgs false
namespace GoAm
open Go
abbrev ty_Entry : Ty := .pr .str (.int .i64)
instance d_Entry : DecidableEq ty_Entry.D := Ty.deq ty_Entry
abbrev enc_Entry (x : ty_Entry.D) : List V := [strV x.1, .int .i64 x.2]
theorem rep_Entry {M : Mem} {cs : List V} {x : ty_Entry.D} (h : Rep ty_Entry M cs x) : cs = enc_Entry x := by
  obtain ⟨_, _, rfl, rfl, ⟨rfl, _⟩⟩ := h
  rfl
theorem at_Entry {M : Mem} {a : Option Addr} {n c : Nat} {xs : List ty_Entry.D} (h : Rep (.sl ty_Entry) M [.slice a n c] xs) {i : Nat} (hi : i < xs.length) : ∃ l o, a = some ⟨l, o, none⟩ ∧ Rep ty_Entry M (enc_Entry xs[i]) xs[i] ∧ rdn M l (o + i * 2) 2 = some (enc_Entry xs[i]) ∧ rd1 M l (o + i * 2) = some (strV xs[i].1) ∧ rd1 M l (o + i * 2 + 1) = some (.int .i64 xs[i].2) := by
  obtain ⟨_, l, o, rfl, cs, hrd, hrep⟩ := rep_at h hi
  have hcs := rep_Entry hrep
  subst hcs
  have hw : ty_Entry.w = 2 := rfl
  rw [hw] at hrd
  exact ⟨l, o, rfl, hrep, hrd, rd1_of_rdn hrd (k := 0) rfl, rd1_of_rdn hrd (k := 1) rfl⟩
def okByte (b : UInt8) : Bool := decide (97 ≤ (b.toNat : Int)) && decide ((b.toNat : Int) ≤ 122)
def wordB (w : List UInt8) : Bool := w.all okByte && (decide (1 ≤ (w.length : Int)) && decide ((w.length : Int) ≤ 32))
def entB (e : ty_Entry.D) : Bool := wordB e.1 && (decide (0 ≤ (e.2 : Int)) && decide ((e.2 : Int) ≤ 65535))
def noneB (e : ty_Entry.D) : Bool := decide (e.1 = []) && decide (e.2 = 0)
def isW (w : List UInt8) (e : ty_Entry.D) : Bool := decide (e.1 = w)
def slotB (xs : List ty_Entry.D) (i : Nat) : Bool := match xs[i]? with
  | some e => noneB e || (entB e && decide (idx (isW e.1) xs = i))
  | none => true
def shelfB (xs : List ty_Entry.D) : Bool := decide (xs.length = 4) && (List.range xs.length).all (slotB xs)
theorem c_spec_l17None (M : Mem) (e : ty_Entry.D) : aCall T0 F_spec_l17None [.agg (enc_Entry e).toArray] M = some (.bool (noneB e), M) := by
  unfold noneB
  rw [aCall_eq T_spec_l17None]; unfold A_spec_l17None C_spec_l17None; simp
theorem all_false {w : List UInt8} {j : Nat} (hj : j < w.length) (h : okByte w[j] = false) : w.all okByte = false := by
  rw [List.all_eq_false]
  exact ⟨w[j], List.getElem_mem hj, by simp [h]⟩
theorem all_true {w : List UInt8} (h : ∀ i (hi : i < w.length), okByte w[i] = true) : w.all okByte = true := by
  rw [List.all_eq_true]
  intro b hb
  obtain ⟨i, hi, rfl⟩ := List.getElem_of_mem hb
  exact h i hi
theorem first_byte (w : List UInt8) : w.all okByte = true ∨ (w.all okByte = false ∧ ∃ j, ∃ hj : j < w.length, (∀ i (hi : i < w.length), i < j → okByte w[i] = true) ∧ okByte w[j] = false) := by
  rcases first_bad (fun i => (w[i]?).any okByte) w.length with h | ⟨j, h1, h2, h3⟩
  · left; exact all_true fun i hi => by have := h i hi; simpa [hi] using this
  · right
    have h3' : okByte w[j] = false := by simpa [h1] using h3
    exact ⟨all_false h1 h3', j, h1, fun i hi hij => by have := h2 i hij; simpa [hi] using this, h3'⟩
theorem okByte_t {b : UInt8} (h : okByte b = true) : ¬ ((b.toNat : Int) < 97) ∧ ¬ (122 < (b.toNat : Int)) := by
  simp only [okByte, Bool.and_eq_true, decide_eq_true_eq] at h; omega
theorem r_spec_WordOk (M : Mem) (w : List UInt8) (hw : w.length ≤ 9223372036854775807) (i : Nat) (hi : i < w.length) (hb : okByte w[i] = true) :
    lp (aCall T0) K_spec_WordOk_0 L_spec_WordOk_0 [strV w, und, und, .int .i64 i, und, und, und, und, und, und, und, und, und, und, und, und, und, und, und, und, und, und, und, und, und, und, und, und] M = lp (aCall T0) K_spec_WordOk_0 L_spec_WordOk_0 [strV w, und, und, .int .i64 (i + 1 : Nat), und, und, und, und, und, und, und, und, und, und, und, und, und, und, und, und, und, und, und, und, und, und, und, und] M := by
  obtain ⟨h1, h2⟩ := okByte_t hb
  rw [S_spec_WordOk_0]; unfold B_spec_WordOk_0; simp [hi, byteV, h1, h2]
  rw [wrap_i64 (by omega) (by omega)]
theorem okByte_f {b : UInt8} (h : okByte b = false) : (b.toNat : Int) < 97 ∨ (¬ ((b.toNat : Int) < 97) ∧ (122 < (b.toNat : Int))) := by
  simp only [okByte, Bool.and_eq_false_iff, decide_eq_false_iff_not] at h; omega
theorem x_spec_WordOk (M : Mem) (w : List UInt8) (hw : w.length ≤ 9223372036854775807) (i : Nat) (hi : i < w.length) (hb : okByte w[i] = false) (k : ACode) :
    thenF M [.tmp 2] (thenS (blockR 0 (lp (aCall T0) K_spec_WordOk_0 L_spec_WordOk_0 [strV w, und, und, .int .i64 i, und, und, und, und, und, und, und, und, und, und, und, und, und, und, und, und, und, und, und, und, und, und, und, und] M)) (aCall T0) k) = some (.bool false, M) := by
  rcases okByte_f hb with h1 | ⟨h1, h2⟩
  · rw [S_spec_WordOk_0]; unfold B_spec_WordOk_0; simp [hi, byteV, h1]
  · rw [S_spec_WordOk_0]; unfold B_spec_WordOk_0; simp [hi, byteV, h1, h2]
theorem c_spec_WordOk (M : Mem) (w : List UInt8) (hw : w.length ≤ 9223372036854775807) : aCall T0 F_spec_WordOk [strV w] M = some (.bool (wordB w), M) := by
  unfold wordB
  by_cases hl1 : (w.length : Int) < 1
  · have : w = [] := List.length_eq_zero_iff.1 (by omega)
    subst this
    rw [aCall_eq T_spec_WordOk]; unfold A_spec_WordOk C_spec_WordOk; simp
  by_cases hl2 : 32 < (w.length : Int)
  · rw [aCall_eq T_spec_WordOk]; unfold A_spec_WordOk C_spec_WordOk; simp [hl1, hl2]
  have e : (decide (1 ≤ (w.length : Int)) && decide ((w.length : Int) ≤ 32)) = true := by simp; omega
  rw [e, Bool.and_true]
  rcases first_byte w with ha | ⟨ha, j, hj, h1, h2⟩
  · have hl := chain (g := fun i : Nat => lp (aCall T0) K_spec_WordOk_0 L_spec_WordOk_0 [strV w, und, und, .int .i64 i, und, und, und, und, und, und, und, und, und, und, und, und, und, und, und, und, und, und, und, und, und, und, und, und] M) (n := w.length) fun i hi => r_spec_WordOk M w hw i hi (List.all_eq_true.1 ha _ (List.getElem_mem hi))
    simp only [Int.natCast_zero, Int.ofNat_zero] at hl
    rw [ha]
    rw [aCall_eq T_spec_WordOk]; unfold A_spec_WordOk C_spec_WordOk; simp [hl, hl1, hl2]
    rw [S_spec_WordOk_0]; unfold B_spec_WordOk_0; simp
  · have hl := chain (g := fun i : Nat => lp (aCall T0) K_spec_WordOk_0 L_spec_WordOk_0 [strV w, und, und, .int .i64 i, und, und, und, und, und, und, und, und, und, und, und, und, und, und, und, und, und, und, und, und, und, und, und, und] M) (n := j) fun i hi => r_spec_WordOk M w hw i (by omega) (h1 i (by omega) hi)
    simp only [Int.natCast_zero, Int.ofNat_zero] at hl
    rw [ha]
    rw [aCall_eq T_spec_WordOk]; unfold A_spec_WordOk C_spec_WordOk; simp [hl, hl1, hl2, x_spec_WordOk M w hw j hj h2]
theorem c_spec_l17Full (M : Mem) (e : ty_Entry.D) (he : e.1.length ≤ 9223372036854775807) : aCall T0 F_spec_l17Full [.agg (enc_Entry e).toArray] M = some (.bool (entB e), M) := by
  unfold entB
  have h := fun M => c_spec_WordOk M e.1 he
  rw [aCall_eq T_spec_l17Full]; unfold A_spec_l17Full C_spec_l17Full; simp [h]
  repeat' ((first | rw [selO_some] | rw [condR_bool] | rw [selD_some]); split <;> rename_i hq <;> (have hq2 := hq) <;> (try simp at hq2) <;> (try simp [*, h]))
theorem r_spec_l17At (M : Mem) (a : Option Addr) (c : Nat) (xs : List ty_Entry.D) (h : Rep (.sl ty_Entry) M [.slice a xs.length c] xs) (hn : xs.length ≤ 9223372036854775807) (w : List UInt8) (p : Nat) (hp : rd1 M p 0 = some (.slice a xs.length c)) (i : Nat) (hi : i < xs.length) (hq : isW w xs[i] = false) :
    lp (aCall T0) K_spec_l17At_0 L_spec_l17At_0 [und, strV w, .pointer (some ⟨p, 0, none⟩), und, und, .int .i64 i, und, und, und, und, und, und, und, und, und, und, und, und, und, und, und, und] M = lp (aCall T0) K_spec_l17At_0 L_spec_l17At_0 [und, strV w, .pointer (some ⟨p, 0, none⟩), und, und, .int .i64 (i + 1 : Nat), und, und, und, und, und, und, und, und, und, und, und, und, und, und, und, und] M := by
  obtain ⟨l, o, rfl, hrep, hrd, hf0, hf1⟩ := at_Entry h hi
  have e6 : IntKind.i64.wrap ((i : Int) + 1) = i + 1 := wrap_i64 (by omega) (by omega)
  have hq' : ¬ xs[i].1 = w := by simpa [isW] using hq
  rw [S_spec_l17At_0]; unfold B_spec_l17At_0; simp [hp, hf0, e6, hi, hq']
theorem x_spec_l17At (M0 N : Mem) (a : Option Addr) (c : Nat) (xs : List ty_Entry.D) (h : Rep (.sl ty_Entry) (M0 ++ N) [.slice a xs.length c] xs) (w : List UInt8) (p : Nat) (hp : rd1 (M0 ++ N) p 0 = some (.slice a xs.length c)) (i : Nat) (hi : i < xs.length) (hq : isW w xs[i] = true) (k : ACode) :
    thenF M0 [.tmp 4] (thenS (blockR 0 (lp (aCall T0) K_spec_l17At_0 L_spec_l17At_0 [und, strV w, .pointer (some ⟨p, 0, none⟩), und, und, .int .i64 i, und, und, und, und, und, und, und, und, und, und, und, und, und, und, und, und] (M0 ++ N))) (aCall T0) k) = some (.int .i64 i, M0) := by
  obtain ⟨l, o, rfl, hrep, hrd, hf0, hf1⟩ := at_Entry h hi
  have hq' : xs[i].1 = w := by simpa [isW] using hq
  rw [S_spec_l17At_0]; unfold B_spec_l17At_0; simp [hp, hf0, hi, hq']
theorem c_spec_l17At (M : Mem) (v : V) (xs : List ty_Entry.D) (h : Rep (.sl ty_Entry) M [v] xs) (hn : xs.length ≤ 9223372036854775807) (w : List UInt8) :
    aCall T0 F_spec_l17At [.agg #[v], strV w] M = some (.int .i64 (idx (isW w) xs), M) := by
  have h' : Rep (.sl ty_Entry) (M ++ [⟨[v], 1, 2⟩]) [v] xs := h.mono (List.prefix_append _ _)
  obtain ⟨a, c, rfl⟩ := h.slen
  have hp : rd1 (M ++ [⟨[.slice a xs.length c], 1, 2⟩]) M.length 0 = some (.slice a xs.length c) := by simp
  rcases idx_cases (isW w) xs with ⟨ha, h1⟩ | ⟨j, hj, ha, h1, h2⟩
  · have hc := chain (g := fun i : Nat => lp (aCall T0) K_spec_l17At_0 L_spec_l17At_0 [und, strV w, .pointer (some ⟨M.length, 0, none⟩), und, und, .int .i64 i, und, und, und, und, und, und, und, und, und, und, und, und, und, und, und, und] (M ++ [⟨[.slice a xs.length c], 1, 2⟩])) (n := xs.length) fun i hi => r_spec_l17At _ a c xs h' hn w M.length hp i hi (h1 i hi)
    simp only [Int.natCast_zero, Int.ofNat_zero] at hc
    rw [ha]
    rw [aCall_eq T_spec_l17At]; unfold A_spec_l17At C_spec_l17At; simp [hc]
    rw [S_spec_l17At_0]; unfold B_spec_l17At_0; simp
  · have hc := chain (g := fun i : Nat => lp (aCall T0) K_spec_l17At_0 L_spec_l17At_0 [und, strV w, .pointer (some ⟨M.length, 0, none⟩), und, und, .int .i64 i, und, und, und, und, und, und, und, und, und, und, und, und, und, und, und, und] (M ++ [⟨[.slice a xs.length c], 1, 2⟩])) (n := j) fun i hi => r_spec_l17At _ a c xs h' hn w M.length hp i (by omega) (h1 i (by omega) hi)
    simp only [Int.natCast_zero, Int.ofNat_zero] at hc
    rw [ha]
    rw [aCall_eq T_spec_l17At]; unfold A_spec_l17At C_spec_l17At; simp [hc, x_spec_l17At M [⟨[.slice a xs.length c], 1, 2⟩] a c xs h' w M.length hp j hj h2]
theorem r_spec_ShelfOk (M : Mem) (a : Option Addr) (c : Nat) (xs : List ty_Entry.D) (h : Rep (.sl ty_Entry) M [.slice a xs.length c] xs) (hn : xs.length ≤ 9223372036854775807) (hf : ∀ e ∈ xs, e.1.length ≤ 9223372036854775807) (p : Nat) (hp : rd1 M p 0 = some (.slice a xs.length c)) (hp2 : rdn M p 0 1 = some [.slice a xs.length c]) (i : Nat) (hi : i < xs.length) (hq : slotB xs i = true) :
    lp (aCall T0) K_spec_ShelfOk_0 L_spec_ShelfOk_0 [und, .pointer (some ⟨p, 0, none⟩), und, .int .i64 i, und, und, und, und, und, und, und, und, und, und, und, und, und, und, und, und, und, und, und, und, und, und, und, und, und, und, und, und, und, und, und, und, und, und, und, und, und, und, und] M = lp (aCall T0) K_spec_ShelfOk_0 L_spec_ShelfOk_0 [und, .pointer (some ⟨p, 0, none⟩), und, .int .i64 (i + 1 : Nat), und, und, und, und, und, und, und, und, und, und, und, und, und, und, und, und, und, und, und, und, und, und, und, und, und, und, und, und, und, und, und, und, und, und, und, und, und, und, und] M := by
  obtain ⟨l, o, rfl, hrep, hrd, hf0, hf1⟩ := at_Entry h hi
  have e6 : IntKind.i64.wrap ((i : Int) + 1) = i + 1 := wrap_i64 (by omega) (by omega)
  have g1 := fun M => c_spec_l17None M xs[i]
  have g2 := fun M => c_spec_l17Full M xs[i] (hf _ (List.getElem_mem hi))
  have g3 := c_spec_l17At M _ xs h hn xs[i].1
  simp only [slotB, List.getElem?_eq_getElem hi, Bool.or_eq_true, Bool.and_eq_true, decide_eq_true_eq] at hq
  cases hnone : noneB xs[i] with
  | true => rw [S_spec_ShelfOk_0]; unfold B_spec_ShelfOk_0; simp [hp, hp2, hrd, hf0, e6, hi, g1, g2, g3, hnone]
  | false =>
    obtain ⟨q1, q2⟩ := hq.resolve_left (by simp [hnone])
    rw [S_spec_ShelfOk_0]; unfold B_spec_ShelfOk_0; simp [hp, hp2, hrd, hf0, e6, hi, g1, g2, g3, hnone, q1, q2]
theorem x_spec_ShelfOk (M0 N : Mem) (a : Option Addr) (c : Nat) (xs : List ty_Entry.D) (h : Rep (.sl ty_Entry) (M0 ++ N) [.slice a xs.length c] xs) (hn : xs.length ≤ 9223372036854775807) (hf : ∀ e ∈ xs, e.1.length ≤ 9223372036854775807) (p : Nat) (hp : rd1 (M0 ++ N) p 0 = some (.slice a xs.length c)) (hp2 : rdn (M0 ++ N) p 0 1 = some [.slice a xs.length c]) (i : Nat) (hi : i < xs.length) (hq : slotB xs i = false) (k : ACode) :
    thenF M0 [.tmp 2] (thenS (blockR 0 (lp (aCall T0) K_spec_ShelfOk_0 L_spec_ShelfOk_0 [und, .pointer (some ⟨p, 0, none⟩), und, .int .i64 i, und, und, und, und, und, und, und, und, und, und, und, und, und, und, und, und, und, und, und, und, und, und, und, und, und, und, und, und, und, und, und, und, und, und, und, und, und, und, und] (M0 ++ N))) (aCall T0) k) = some (.bool false, M0) := by
  obtain ⟨l, o, rfl, hrep, hrd, hf0, hf1⟩ := at_Entry h hi
  have g1 := fun M => c_spec_l17None M xs[i]
  have g2 := fun M => c_spec_l17Full M xs[i] (hf _ (List.getElem_mem hi))
  have g3 := c_spec_l17At (M0 ++ N) _ xs h hn xs[i].1
  simp only [slotB, List.getElem?_eq_getElem hi, Bool.or_eq_false_iff, Bool.and_eq_false_iff, decide_eq_false_iff_not] at hq
  obtain ⟨hnone, hq⟩ := hq
  cases hent : entB xs[i] with
  | false => rw [S_spec_ShelfOk_0]; unfold B_spec_ShelfOk_0; simp [hp, hp2, hrd, hf0, hi, g1, g2, g3, hnone, hent]
  | true =>
    have q2 := hq.resolve_left (by simp [hent])
    rw [S_spec_ShelfOk_0]; unfold B_spec_ShelfOk_0; simp [hp, hp2, hrd, hf0, hi, g1, g2, g3, hnone, hent, q2]
theorem slots_cases (xs : List ty_Entry.D) : ((List.range xs.length).all (slotB xs) = true ∧ ∀ i, i < xs.length → slotB xs i = true) ∨ ((List.range xs.length).all (slotB xs) = false ∧ ∃ j, j < xs.length ∧ (∀ i, i < j → slotB xs i = true) ∧ slotB xs j = false) := by
  rcases first_bad (slotB xs) xs.length with h | ⟨j, h1, h2, h3⟩
  · left
    exact ⟨by rw [List.all_eq_true]; intro i hi; exact h i (by simpa using hi), h⟩
  · right
    refine ⟨?_, j, h1, h2, h3⟩
    rw [List.all_eq_false]
    exact ⟨j, by simpa using h1, by simp [h3]⟩
theorem c_spec_ShelfOk (M : Mem) (v : V) (xs : List ty_Entry.D) (h : Rep (.sl ty_Entry) M [v] xs) (hn : xs.length ≤ 9223372036854775807) (hf : ∀ e ∈ xs, e.1.length ≤ 9223372036854775807) :
    aCall T0 F_spec_ShelfOk [.agg #[v]] M = some (.bool (shelfB xs), M) := by
  have h' : Rep (.sl ty_Entry) (M ++ [⟨[v], 1, 2⟩]) [v] xs := h.mono (List.prefix_append _ _)
  obtain ⟨a, c, rfl⟩ := h.slen
  have hp : rd1 (M ++ [⟨[.slice a xs.length c], 1, 2⟩]) M.length 0 = some (.slice a xs.length c) := by simp
  have hp2 : rdn (M ++ [⟨[.slice a xs.length c], 1, 2⟩]) M.length 0 1 = some [.slice a xs.length c] := by simp
  unfold shelfB
  by_cases h4 : xs.length = 4
  · have h4' : ((xs.length : Int) = 4) = True := eq_true (by omega)
    rcases slots_cases xs with ⟨ha, h1⟩ | ⟨ha, j, hj, h1, h2⟩
    · have hc := chain (g := fun i : Nat => lp (aCall T0) K_spec_ShelfOk_0 L_spec_ShelfOk_0 [und, .pointer (some ⟨M.length, 0, none⟩), und, .int .i64 i, und, und, und, und, und, und, und, und, und, und, und, und, und, und, und, und, und, und, und, und, und, und, und, und, und, und, und, und, und, und, und, und, und, und, und, und, und, und, und] (M ++ [⟨[.slice a xs.length c], 1, 2⟩])) (n := xs.length) fun i hi => r_spec_ShelfOk _ a c xs h' hn hf M.length hp hp2 i hi (h1 i hi)
      simp only [Int.natCast_zero, Int.ofNat_zero] at hc
      rw [ha]
      rw [aCall_eq T_spec_ShelfOk]; unfold A_spec_ShelfOk C_spec_ShelfOk; simp [hc, h4']
      rw [S_spec_ShelfOk_0]; unfold B_spec_ShelfOk_0; simp
      exact h4
    · have hc := chain (g := fun i : Nat => lp (aCall T0) K_spec_ShelfOk_0 L_spec_ShelfOk_0 [und, .pointer (some ⟨M.length, 0, none⟩), und, .int .i64 i, und, und, und, und, und, und, und, und, und, und, und, und, und, und, und, und, und, und, und, und, und, und, und, und, und, und, und, und, und, und, und, und, und, und, und, und, und, und, und] (M ++ [⟨[.slice a xs.length c], 1, 2⟩])) (n := j) fun i hi => r_spec_ShelfOk _ a c xs h' hn hf M.length hp hp2 i (by omega) (h1 i hi)
      simp only [Int.natCast_zero, Int.ofNat_zero] at hc
      rw [ha]
      rw [aCall_eq T_spec_ShelfOk]; unfold A_spec_ShelfOk C_spec_ShelfOk; simp [hc, h4', x_spec_ShelfOk M [⟨[.slice a xs.length c], 1, 2⟩] a c xs h' hn hf M.length hp hp2 j hj h2]
  · have h4' : ¬ (xs.length : Int) = 4 := by omega
    rw [aCall_eq T_spec_ShelfOk]; unfold A_spec_ShelfOk C_spec_ShelfOk; simp [h4', h4]
theorem gc_ex (M M' : Mem) (v : V) : ∃ X, gc M (some (v, M')) = some (v, X) := by
  simp only [gc]
  split
  · exact ⟨_, rfl⟩
  · exact ⟨_, rfl⟩
theorem c_impl_within (M : Mem) (x a b : Int) : aCall T0 F_impl_within [.int .i64 x, .int .i64 a, .int .i64 b] M = some (.bool (decide (a ≤ x) && decide (x ≤ b)), M) := by
  rw [aCall_eq T_impl_within]; unfold A_impl_within C_impl_within; simp
  repeat' ((first | rw [selO_some] | rw [condR_bool] | rw [selD_some]); split <;> rename_i hq <;> (have hq2 := hq) <;> (try simp at hq2) <;> (try simp [*]))
theorem r_impl_isWord (M : Mem) (w : List UInt8) (hw : w.length ≤ 9223372036854775807) (i : Nat) (hi : i < w.length) (hb : okByte w[i] = true) :
    lp (aCall T0) K_impl_isWord_0 L_impl_isWord_0 [strV w, und, und, und, und, .int .i64 w.length, .int .i64 i, und, und, und, und, und, und, und, und, und, und, und, und, und, und, und, und] M = lp (aCall T0) K_impl_isWord_0 L_impl_isWord_0 [strV w, und, und, und, und, .int .i64 w.length, .int .i64 (i + 1 : Nat), und, und, und, und, und, und, und, und, und, und, und, und, und, und, und, und] M := by
  obtain ⟨h1, h2⟩ := okByte_t hb
  rw [S_impl_isWord_0]; unfold B_impl_isWord_0; simp [hi, byteV, h1, h2]
  rw [wrap_i64 (by omega) (by omega)]
theorem x_impl_isWord (M : Mem) (w : List UInt8) (hw : w.length ≤ 9223372036854775807) (i : Nat) (hi : i < w.length) (hb : okByte w[i] = false) (k : ACode) :
    thenF M [.tmp 2] (thenS (blockR 0 (lp (aCall T0) K_impl_isWord_0 L_impl_isWord_0 [strV w, und, und, und, und, .int .i64 w.length, .int .i64 i, und, und, und, und, und, und, und, und, und, und, und, und, und, und, und, und] M)) (aCall T0) k) = some (.bool false, M) := by
  rcases okByte_f hb with h1 | ⟨h1, h2⟩
  · rw [S_impl_isWord_0]; unfold B_impl_isWord_0; simp [hi, byteV, h1]
  · rw [S_impl_isWord_0]; unfold B_impl_isWord_0; simp [hi, byteV, h1, h2]
theorem c_impl_isWord (M : Mem) (w : List UInt8) (hw : w.length ≤ 9223372036854775807) : aCall T0 F_impl_isWord [strV w] M = some (.bool (wordB w), M) := by
  unfold wordB
  rcases first_byte w with ha | ⟨ha, j, hj, h1, h2⟩
  · have hl := chain (g := fun i : Nat => lp (aCall T0) K_impl_isWord_0 L_impl_isWord_0 [strV w, und, und, und, und, .int .i64 w.length, .int .i64 i, und, und, und, und, und, und, und, und, und, und, und, und, und, und, und, und] M) (n := w.length) fun i hi => r_impl_isWord M w hw i hi (List.all_eq_true.1 ha _ (List.getElem_mem hi))
    simp only [Int.natCast_zero, Int.ofNat_zero] at hl
    rw [ha]
    rw [aCall_eq T_impl_isWord]; unfold A_impl_isWord C_impl_isWord; simp [hl]
    rw [S_impl_isWord_0]; unfold B_impl_isWord_0; simp [c_impl_within]
  · have hl := chain (g := fun i : Nat => lp (aCall T0) K_impl_isWord_0 L_impl_isWord_0 [strV w, und, und, und, und, .int .i64 w.length, .int .i64 i, und, und, und, und, und, und, und, und, und, und, und, und, und, und, und, und] M) (n := j) fun i hi => r_impl_isWord M w hw i (by omega) (h1 i (by omega) hi)
    simp only [Int.natCast_zero, Int.ofNat_zero] at hl
    rw [ha]
    rw [aCall_eq T_impl_isWord]; unfold A_impl_isWord C_impl_isWord; simp [hl, x_impl_isWord M w hw j hj h2]
theorem r_idx_Entry (M : Mem) (a : Option Addr) (c : Nat) (xs : List ty_Entry.D) (h : Rep (.sl ty_Entry) M [.slice a xs.length c] xs) (hn : xs.length ≤ 9223372036854775807) (f : FuncId) (cap : List V) (p : ty_Entry.D → Bool)
    (hp : ∀ i (hi : i < xs.length), aCall T0 f (.agg (enc_Entry xs[i]).toArray :: cap) M = some (.bool (p xs[i]), M)) (i : Nat) (hi : i < xs.length) (hq : p xs[i] = false) :
    lp (aCall T0) K_slices_IndexFunc_impl_Entry_impl_Entry_0 L_slices_IndexFunc_impl_Entry_impl_Entry_0 [.slice a xs.length c, .func (.func f) #[] cap.toArray, und, und, und, und, und, .int .i64 xs.length, .int .i64 i, und, und, und, und, und, und, und, und, und, und] M =
    lp (aCall T0) K_slices_IndexFunc_impl_Entry_impl_Entry_0 L_slices_IndexFunc_impl_Entry_impl_Entry_0 [.slice a xs.length c, .func (.func f) #[] cap.toArray, und, und, und, und, und, .int .i64 xs.length, .int .i64 (i + 1 : Nat), und, und, und, und, und, und, und, und, und, und] M := by
  obtain ⟨l, o, rfl, hrep, hrd, _⟩ := at_Entry h hi
  have ec := hp i hi
  have e6 : IntKind.i64.wrap ((i : Int) + 1) = i + 1 := wrap_i64 (by omega) (by omega)
  rw [S_slices_IndexFunc_impl_Entry_impl_Entry_0]; unfold B_slices_IndexFunc_impl_Entry_impl_Entry_0; simp [hrd, ec, e6, hi, hq]
theorem x_idx_Entry (M : Mem) (a : Option Addr) (c : Nat) (xs : List ty_Entry.D) (h : Rep (.sl ty_Entry) M [.slice a xs.length c] xs) (f : FuncId) (cap : List V) (p : ty_Entry.D → Bool)
    (hp : ∀ i (hi : i < xs.length), aCall T0 f (.agg (enc_Entry xs[i]).toArray :: cap) M = some (.bool (p xs[i]), M)) (i : Nat) (hi : i < xs.length) (hq : p xs[i] = true) (k : ACode) :
    thenF M [.tmp 4] (thenS (blockR 0 (lp (aCall T0) K_slices_IndexFunc_impl_Entry_impl_Entry_0 L_slices_IndexFunc_impl_Entry_impl_Entry_0 [.slice a xs.length c, .func (.func f) #[] cap.toArray, und, und, und, und, und, .int .i64 xs.length, .int .i64 i, und, und, und, und, und, und, und, und, und, und] M)) (aCall T0) k) = some (.int .i64 i, M) := by
  obtain ⟨l, o, rfl, hrep, hrd, _⟩ := at_Entry h hi
  have ec := hp i hi
  rw [S_slices_IndexFunc_impl_Entry_impl_Entry_0]; unfold B_slices_IndexFunc_impl_Entry_impl_Entry_0; simp [hrd, ec, hi, hq]
theorem c_idx_Entry (M : Mem) (v : V) (xs : List ty_Entry.D) (h : Rep (.sl ty_Entry) M [v] xs) (hn : xs.length ≤ 9223372036854775807) (f : FuncId) (cap : List V) (p : ty_Entry.D → Bool)
    (hp : ∀ i (hi : i < xs.length), aCall T0 f (.agg (enc_Entry xs[i]).toArray :: cap) M = some (.bool (p xs[i]), M)) :
    aCall T0 F_slices_IndexFunc_impl_Entry_impl_Entry [v, .func (.func f) #[] cap.toArray] M = some (.int .i64 (idx p xs), M) := by
  obtain ⟨a, c, rfl⟩ := h.slen
  rcases idx_cases p xs with ⟨ha, h1⟩ | ⟨j, hj, ha, h1, h2⟩
  · have hc := chain (g := fun i : Nat => lp (aCall T0) K_slices_IndexFunc_impl_Entry_impl_Entry_0 L_slices_IndexFunc_impl_Entry_impl_Entry_0 [.slice a xs.length c, .func (.func f) #[] cap.toArray, und, und, und, und, und, .int .i64 xs.length, .int .i64 i, und, und, und, und, und, und, und, und, und, und] M) (n := xs.length) fun i hi => r_idx_Entry M a c xs h hn f cap p hp i hi (h1 i hi)
    simp only [Int.natCast_zero, Int.ofNat_zero] at hc
    rw [ha]
    rw [aCall_eq T_slices_IndexFunc_impl_Entry_impl_Entry]; unfold A_slices_IndexFunc_impl_Entry_impl_Entry C_slices_IndexFunc_impl_Entry_impl_Entry; simp [hc]
    rw [S_slices_IndexFunc_impl_Entry_impl_Entry_0]; unfold B_slices_IndexFunc_impl_Entry_impl_Entry_0; simp
  · have hc := chain (g := fun i : Nat => lp (aCall T0) K_slices_IndexFunc_impl_Entry_impl_Entry_0 L_slices_IndexFunc_impl_Entry_impl_Entry_0 [.slice a xs.length c, .func (.func f) #[] cap.toArray, und, und, und, und, und, .int .i64 xs.length, .int .i64 i, und, und, und, und, und, und, und, und, und, und] M) (n := j) fun i hi => r_idx_Entry M a c xs h hn f cap p hp i (by omega) (h1 i (by omega) hi)
    simp only [Int.natCast_zero, Int.ofNat_zero] at hc
    rw [ha]
    rw [aCall_eq T_slices_IndexFunc_impl_Entry_impl_Entry]; unfold A_slices_IndexFunc_impl_Entry_impl_Entry C_slices_IndexFunc_impl_Entry_impl_Entry; simp [hc, x_idx_Entry M a c xs h f cap p hp j hj h2]
theorem c_impl_shelfFind_1 (M : Mem) (e : ty_Entry.D) (p : Nat) (w : List UInt8) (hp : rd1 M p 0 = some (strV w)) : aCall T0 F_impl_shelfFind_1 [.agg (enc_Entry e).toArray, .pointer (some ⟨p, 0, none⟩)] M = some (.bool (isW w e), M) := by
  have h2 : ∀ N, rd1 (M ++ N) p 0 = some (strV w) := fun N => rd1_old hp
  unfold isW
  rw [aCall_eq T_impl_shelfFind_1]; unfold A_impl_shelfFind_1 C_impl_shelfFind_1; simp [h2]
theorem c_impl_shelfFind (M : Mem) (v : V) (xs : List ty_Entry.D) (h : Rep (.sl ty_Entry) M [v] xs) (hn : xs.length ≤ 9223372036854775807) (w : List UInt8) :
    aCall T0 F_impl_shelfFind [.agg #[v], strV w] M = some (.int .i64 (idx (isW w) xs), M) := by
  have h' : Rep (.sl ty_Entry) (M ++ [⟨[v], 1, 2⟩, ⟨[strV w], 1, 2⟩]) [v] xs := h.mono (List.prefix_append _ _)
  have hp : rd1 (M ++ [⟨[v], 1, 2⟩, ⟨[strV w], 1, 2⟩]) (M.length + 1) 0 = some (strV w) := by simp
  have e : aCall T0 F_slices_IndexFunc_impl_Entry_impl_Entry [v, .func (.func F_impl_shelfFind_1) #[] #[.pointer (some ⟨M.length + 1, 0, none⟩)]] _ = _ :=
    c_idx_Entry _ v xs h' hn F_impl_shelfFind_1 [.pointer (some ⟨M.length + 1, 0, none⟩)] (isW w) (fun i hi => c_impl_shelfFind_1 _ xs[i] (M.length + 1) w hp)
  obtain ⟨a, c, rfl⟩ := h.slen
  rw [aCall_eq T_impl_shelfFind]; unfold A_impl_shelfFind C_impl_shelfFind; simp [e]
theorem c_impl_isEntry (M : Mem) (e : ty_Entry.D) (he : e.1.length ≤ 9223372036854775807) : aCall T0 F_impl_isEntry [.agg (enc_Entry e).toArray] M = some (.bool (entB e), M) := by
  unfold entB
  have h := fun M => c_impl_isWord M e.1 he
  rw [aCall_eq T_impl_isEntry]; unfold A_impl_isEntry C_impl_isEntry; simp [h, c_impl_within]
  repeat' ((first | rw [selO_some] | rw [condR_bool] | rw [selD_some]); split <;> rename_i hq <;> (have hq2 := hq) <;> (try simp at hq2) <;> (try simp [*, h, c_impl_within]))
theorem r_impl_isShelf (M : Mem) (a : Option Addr) (c : Nat) (xs : List ty_Entry.D) (h : Rep (.sl ty_Entry) M [.slice a xs.length c] xs) (hn : xs.length ≤ 9223372036854775807) (hf : ∀ e ∈ xs, e.1.length ≤ 9223372036854775807) (p : Nat) (hp2 : rdn M p 0 1 = some [.slice a xs.length c]) (i : Nat) (hi : i < xs.length) (hq : slotB xs i = true) :
    lp (aCall T0) K_impl_isShelf_0 L_impl_isShelf_0 [und, .pointer (some ⟨p, 0, none⟩), und, und, und, und, .slice a xs.length c, .int .i64 xs.length, .int .i64 i, und, und, und, und, und, und, und, und, und, und, und, und, und, und, und, und, und, und, und, und, und, und, und] M = lp (aCall T0) K_impl_isShelf_0 L_impl_isShelf_0 [und, .pointer (some ⟨p, 0, none⟩), und, und, und, und, .slice a xs.length c, .int .i64 xs.length, .int .i64 (i + 1 : Nat), und, und, und, und, und, und, und, und, und, und, und, und, und, und, und, und, und, und, und, und, und, und, und] (M ++ [⟨enc_Entry xs[i], 1, 2⟩]) := by
  obtain ⟨l, o, rfl, hrep, hrd, hf0, hf1⟩ := at_Entry h hi
  have e6 : IntKind.i64.wrap ((i : Int) + 1) = i + 1 := wrap_i64 (by omega) (by omega)
  have g2 := fun M => c_impl_isEntry M xs[i] (hf _ (List.getElem_mem hi))
  have hp3 : ∀ N, rdn (M ++ N) p 0 1 = some [.slice (some ⟨l, o, none⟩) xs.length c] := fun N => rdn_old hp2
  have g3 := c_impl_shelfFind (M ++ [⟨enc_Entry xs[i], 1, 2⟩]) _ xs (h.mono (List.prefix_append _ _)) hn xs[i].1
  simp only [slotB, List.getElem?_eq_getElem hi, Bool.or_eq_true, Bool.and_eq_true, decide_eq_true_eq] at hq
  cases hnone : noneB xs[i] with
  | true =>
    simp only [noneB, Bool.and_eq_true, decide_eq_true_eq] at hnone
    obtain ⟨n1, n2⟩ := hnone
    rw [S_impl_isShelf_0]; unfold B_impl_isShelf_0; simp [hrd, e6, hi, n1, n2]
  | false =>
    obtain ⟨q1, q2⟩ := hq.resolve_left (by simp [hnone])
    have hnn : ¬ (xs[i].1 = [] ∧ xs[i].2 = 0) := by
      intro hh
      simp [noneB, hh.1, hh.2] at hnone
    have hnn2 : (decide (xs[i].1 = []) && decide (xs[i].2 = 0)) = false := by
      rw [← hnone]; rfl
    rw [S_impl_isShelf_0]; unfold B_impl_isShelf_0; simp [hrd, e6, hi, hnn2, g2, q1, hp3, g3, q2]
theorem idx_at {α : Type} {p : α → Bool} {xs : List α} {i : Nat} (hi : i < xs.length) (h : p xs[i] = true) : 0 ≤ idx p xs ∧ idx p xs ≤ i := by
  rcases idx_cases p xs with ⟨ha, h1⟩ | ⟨j, hj, ha, h1, h2⟩
  · rw [h1 i hi] at h; cases h
  · rw [ha]
    by_cases hij : i < j
    · rw [h1 i hi hij] at h; cases h
    · omega
theorem x_impl_isShelf (M0 N : Mem) (a : Option Addr) (c : Nat) (xs : List ty_Entry.D) (h : Rep (.sl ty_Entry) (M0 ++ N) [.slice a xs.length c] xs) (hn : xs.length ≤ 9223372036854775807) (hf : ∀ e ∈ xs, e.1.length ≤ 9223372036854775807) (p : Nat) (hp2 : rdn (M0 ++ N) p 0 1 = some [.slice a xs.length c]) (i : Nat) (hi : i < xs.length) (hq : slotB xs i = false) (k : ACode) :
    thenF M0 [.tmp 2] (thenS (blockR 0 (lp (aCall T0) K_impl_isShelf_0 L_impl_isShelf_0 [und, .pointer (some ⟨p, 0, none⟩), und, und, und, und, .slice a xs.length c, .int .i64 xs.length, .int .i64 i, und, und, und, und, und, und, und, und, und, und, und, und, und, und, und, und, und, und, und, und, und, und, und] (M0 ++ N))) (aCall T0) k) = some (.bool false, M0) := by
  obtain ⟨M, hM⟩ : ∃ M, M = M0 ++ N := ⟨_, rfl⟩
  rw [← hM] at h hp2 ⊢
  obtain ⟨l, o, rfl, hrep, hrd, hf0, hf1⟩ := at_Entry h hi
  have g2 := fun M => c_impl_isEntry M xs[i] (hf _ (List.getElem_mem hi))
  have hp3 : ∀ N, rdn (M ++ N) p 0 1 = some [.slice (some ⟨l, o, none⟩) xs.length c] := fun N => rdn_old hp2
  have g3 := c_impl_shelfFind (M ++ [⟨enc_Entry xs[i], 1, 2⟩]) _ xs (h.mono (List.prefix_append _ _)) hn xs[i].1
  simp only [slotB, List.getElem?_eq_getElem hi, Bool.or_eq_false_iff, Bool.and_eq_false_iff, decide_eq_false_iff_not] at hq
  obtain ⟨hnone, hq⟩ := hq
  have hnn2 : (decide (xs[i].1 = []) && decide (xs[i].2 = 0)) = false := by
    rw [← hnone]; rfl
  have fin : gc M0 (some (.bool false, M ++ [⟨enc_Entry xs[i], 1, 2⟩])) = some (.bool false, M0) := by
    rw [hM, List.append_assoc]; simp
  cases hent : entB xs[i] with
  | false => rw [S_impl_isShelf_0]; unfold B_impl_isShelf_0; simp [hrd, hi, hnn2, g2, hent, fin]
  | true =>
    have q2 := hq.resolve_left (by simp [hent])
    have q3 := idx_at (p := isW xs[i].1) hi (by simp [isW])
    have q4 : idx (isW xs[i].1) xs < (i : Int) := by omega
    rw [S_impl_isShelf_0]; unfold B_impl_isShelf_0; simp [hrd, hi, hnn2, g2, hent, hp3, g3, q4, fin]
def entM (M : Mem) (xs : List ty_Entry.D) (i : Nat) : Mem := M ++ (xs.take i).map fun e => ⟨enc_Entry e, 1, 2⟩
theorem entM_succ (M : Mem) (xs : List ty_Entry.D) (i : Nat) (hi : i < xs.length) : entM M xs (i + 1) = entM M xs i ++ [⟨enc_Entry xs[i], 1, 2⟩] := by
  unfold entM
  rw [List.take_succ_eq_append_getElem hi, List.map_append, ← List.append_assoc]
  rfl
theorem c_impl_isShelf (M : Mem) (v : V) (xs : List ty_Entry.D) (h : Rep (.sl ty_Entry) M [v] xs) (hn : xs.length ≤ 9223372036854775807) (hf : ∀ e ∈ xs, e.1.length ≤ 9223372036854775807) :
    aCall T0 F_impl_isShelf [.agg #[v]] M = some (.bool (shelfB xs), M) := by
  obtain ⟨a, c, rfl⟩ := h.slen
  have hR : ∀ i, Rep (.sl ty_Entry) (entM (M ++ [⟨[.slice a xs.length c], 1, 2⟩]) xs i) [.slice a xs.length c] xs := fun i => h.mono ((List.prefix_append _ _).trans (List.prefix_append _ _))
  have hp2 : ∀ i, rdn (entM (M ++ [⟨[.slice a xs.length c], 1, 2⟩]) xs i) M.length 0 1 = some [.slice a xs.length c] := fun i => rdn_old (by simp)
  have hp1 : ∀ i, rd1 (entM (M ++ [⟨[.slice a xs.length c], 1, 2⟩]) xs i) M.length 0 = some (.slice a xs.length c) := fun i => rd1_old (by simp)
  have e0 : entM (M ++ [⟨[.slice a xs.length c], 1, 2⟩]) xs 0 = M ++ [⟨[.slice a xs.length c], 1, 2⟩] := by simp [entM]
  have hE : ∀ i, ∃ N, entM (M ++ [⟨[.slice a xs.length c], 1, 2⟩]) xs i = M ++ N := fun i => ⟨_, by unfold entM; rw [List.append_assoc]⟩
  unfold shelfB
  rcases slots_cases xs with ⟨ha, h1⟩ | ⟨ha, j, hj, h1, h2⟩
  · have hc := chain (g := fun i : Nat => lp (aCall T0) K_impl_isShelf_0 L_impl_isShelf_0 [und, .pointer (some ⟨M.length, 0, none⟩), und, und, und, und, .slice a xs.length c, .int .i64 xs.length, .int .i64 i, und, und, und, und, und, und, und, und, und, und, und, und, und, und, und, und, und, und, und, und, und, und, und] (entM (M ++ [⟨[.slice a xs.length c], 1, 2⟩]) xs i)) (n := xs.length) fun i hi => by
      rw [entM_succ _ xs i hi]
      exact r_impl_isShelf _ a c xs (hR i) hn hf M.length (hp2 i) i hi (h1 i hi)
    simp only [Int.natCast_zero, Int.ofNat_zero, e0] at hc
    obtain ⟨N, hN⟩ := hE xs.length
    have hp1' := hp1 xs.length
    rw [hN] at hc hp1'
    rw [ha, Bool.and_true]
    rw [aCall_eq T_impl_isShelf]; unfold A_impl_isShelf C_impl_isShelf; simp [hc]
    rw [S_impl_isShelf_0]; unfold B_impl_isShelf_0; simp [hp1']
    by_cases h4 : xs.length = 4
    · have : ((xs.length : Int) = 4) = True := eq_true (by omega)
      simp [h4]
    · have : ¬ ((xs.length : Int) = 4) := by omega
      simp [h4, this]
  · have hc := chain (g := fun i : Nat => lp (aCall T0) K_impl_isShelf_0 L_impl_isShelf_0 [und, .pointer (some ⟨M.length, 0, none⟩), und, und, und, und, .slice a xs.length c, .int .i64 xs.length, .int .i64 i, und, und, und, und, und, und, und, und, und, und, und, und, und, und, und, und, und, und, und, und, und, und, und] (entM (M ++ [⟨[.slice a xs.length c], 1, 2⟩]) xs i)) (n := j) fun i hi => by
      rw [entM_succ _ xs i (by omega)]
      exact r_impl_isShelf _ a c xs (hR i) hn hf M.length (hp2 i) i (by omega) (h1 i hi)
    simp only [Int.natCast_zero, Int.ofNat_zero, e0] at hc
    obtain ⟨N, hN⟩ := hE j
    have hR' := hR j
    have hp2' := hp2 j
    rw [hN] at hc hR' hp2'
    rw [ha, Bool.and_false]
    rw [aCall_eq T_impl_isShelf]; unfold A_impl_isShelf C_impl_isShelf; simp [hc, x_impl_isShelf M N a c xs hR' hn hf M.length hp2' j hj h2]
def findI (xs : List ty_Entry.D) (w : List UInt8) : Int := if shelfB xs = true ∧ wordB w = true then idx (isW w) xs else -1
theorem c_impl_ShelfFind (M : Mem) (v : V) (xs : List ty_Entry.D) (h : Rep (.sl ty_Entry) M [v] xs) (hn : xs.length ≤ 9223372036854775807) (hf : ∀ e ∈ xs, e.1.length ≤ 9223372036854775807) (w : List UInt8) (hw : w.length ≤ 9223372036854775807) :
    aCall T0 F_impl_ShelfFind [.agg #[v], strV w] M = some (.int .i64 (findI xs w), M) := by
  have h' : Rep (.sl ty_Entry) (M ++ [⟨[v], 1, 2⟩]) [v] xs := h.mono (List.prefix_append _ _)
  have e1 := c_impl_isShelf _ v xs h' hn hf
  have e2 := fun M => c_impl_isWord M w hw
  have e3 := c_impl_shelfFind _ v xs h' hn w
  obtain ⟨a, c, rfl⟩ := h.slen
  unfold findI
  cases hb : shelfB xs with
  | false => rw [aCall_eq T_impl_ShelfFind]; unfold A_impl_ShelfFind C_impl_ShelfFind; simp [e1, hb]
  | true =>
    cases hw : wordB w with
    | false => rw [aCall_eq T_impl_ShelfFind]; unfold A_impl_ShelfFind C_impl_ShelfFind; simp [e1, e2, hb, hw]
    | true => rw [aCall_eq T_impl_ShelfFind]; unfold A_impl_ShelfFind C_impl_ShelfFind; simp [e1, e2, e3, hb, hw]
theorem pre_set {M0 M : Mem} {l : Nat} {b : Blk} (h : M0 <+: M) (hl : M0.length ≤ l) : M0 <+: M.set l b := by
  obtain ⟨r, rfl⟩ := h
  rw [set_app hl]
  exact List.prefix_append _ _
def hs (h : Nat) (b : UInt8) : Nat := ((h ^^^ b.toNat) * 16777619) % 4294967296
theorem rep_cells {t : Ty} {M : Mem} {enc : t.D → List V} (henc : ∀ (cs : List V) (x : t.D), Rep t M cs x → cs = enc x) {a : Option Addr} {n c : Nat} {xs : List t.D} (h : Rep (.sl t) M [.slice a n c] xs) {k c2 : Nat} (hk : k ≤ xs.length) :
    sliceCells M t.w (.slice a k c2) = some (k, ((xs.take k).map enc).flatten) := by
  rcases h with ⟨h, rfl⟩ | ⟨l', o', c', blk, css, e, h2, h3, h4, h5, h6, h7⟩
  · simp at h hk
    obtain ⟨rfl, rfl, rfl⟩ := h
    subst hk
    simp [sliceCells]
  · simp only [List.cons.injEq, Value.slice.injEq, and_true] at e
    obtain ⟨rfl, rfl, rfl⟩ := e
    by_cases hk0 : k = 0
    · subst hk0
      simp [sliceCells]
    have hw := Rep.css_w h5 h6
    have hcs : css = xs.map enc := by
      apply List.ext_getElem (by simp [h5])
      intro i h1 h2
      rw [List.getElem_map]
      exact henc _ _ (h6 i _ _ (by simp [h1]) (by simp))
    have hlen := flat_len hw
    have hpos := t.w_pos
    have h3' : blk.st = 1 ∨ blk.st = 2 := by
      rcases h3 with h3 | h3 | h3
      · exact .inl h3
      · exact .inr h3
      · subst h3; simp at hk; omega
    obtain ⟨r, hr⟩ := h7
    have hdl : css.flatten.length + r.length = blk.cells.length - o' := by rw [← List.length_drop, ← hr, List.length_append]
    have hle : k * t.w ≤ css.length * t.w := Nat.mul_le_mul_right _ (by omega)
    have hpos2 : 0 < k * t.w := Nat.mul_pos (by omega) hpos
    unfold sliceCells
    simp only
    rw [if_neg (by omega)]
    unfold rdn
    rw [h2]
    simp only
    rw [if_pos ⟨h3', by omega⟩]
    simp only [Option.map_some]
    congr 2
    rw [← hr, List.take_append_of_le_length (by omega)]
    have e2 : css = (xs.take k).map enc ++ (xs.drop k).map enc := by rw [hcs, ← List.map_append, List.take_append_drop]
    have e3 : (((xs.take k).map enc).flatten).length = k * t.w := by
      rw [flat_len (w := t.w) (fun cs hc => hw cs (by rw [e2]; exact List.mem_append_left _ hc))]
      simp [Nat.min_eq_left hk]
    rw [e2, List.flatten_append, ← e3, List.take_left']
    rfl
theorem own_Entry (M : Mem) (x : ty_Entry.D) (h : (Lit.int .i64 x.2).wf = true) : Own ty_Entry M (enc_Entry x) x [] := ⟨[strV x.1], [.int .i64 x.2], [], [], rfl, ⟨rfl, rfl⟩, ⟨⟨rfl, h⟩, rfl⟩, rfl⟩
theorem flat_set {α : Type} {enc : α → List V} {w : Nat} (hw : ∀ x, (enc x).length = w) : ∀ (xs : List α) (i : Nat), i < xs.length → ∀ e : α, splice ((xs.map enc).flatten) (i * w) (enc e) = ((xs.set i e).map enc).flatten
  | [], i, h, _ => by simp at h
  | x :: xs, 0, _, e => by
    unfold splice
    simp only [List.map_cons, List.flatten_cons, Nat.zero_mul, List.take_zero, List.nil_append, Nat.zero_add, List.set_cons_zero]
    rw [hw e, ← hw x, List.drop_left]
  | x :: xs, i + 1, h, e => by
    have ih := flat_set hw xs i (by simpa using h) e
    unfold splice at ih ⊢
    simp only [List.map_cons, List.flatten_cons, List.set_cons_succ]
    rw [← ih, Nat.add_mul, Nat.one_mul, Nat.add_comm (i * w) w, ← hw x, Nat.add_assoc, List.take_append, List.drop_append]
    simp [List.take_of_length_le, List.drop_eq_nil_of_le]
theorem app_new {M : Mem} {w bytes m : Nat} {ys : List V} (hm : 0 < m) (h1 : ys.all one = true) (hs : m * bytes ≤ 140737488355328) (hs2 : m ≤ 9223372036854775807) :
    appS (M ++ [⟨[], w, 2⟩]) w bytes (.slice (some ⟨M.length, 0, none⟩) 0 0) m ys = some (.slice (some ⟨M.length + 1, 0, none⟩) m m, M ++ [⟨[], w, 0⟩, ⟨ys, w, 2⟩]) := by
  have h := app_full (M := M ++ [⟨[], w, 2⟩]) (w := w) (bytes := bytes) (l := M.length) (n := 0) (cs := []) (ys := ys) (m := m) (by simp) (by simp) hm h1 (by simpa using hs) (by simpa using hs2)
  simpa using h
theorem one_Entry (x : ty_Entry.D) : (enc_Entry x).all one = true := rfl
theorem all_Entry (xs : List ty_Entry.D) : (xs.map enc_Entry).flatten.all one = true := by
  rw [List.all_eq_true]
  intro y hy
  obtain ⟨l, hl, hy⟩ := List.mem_flatten.1 hy
  obtain ⟨x, _, rfl⟩ := List.mem_map.1 hl
  exact List.all_eq_true.1 (one_Entry x) y hy
theorem c_clone_Entry (M : Mem) (a : Option Addr) (c : Nat) (xs : List ty_Entry.D) (h : Rep (.sl ty_Entry) M [.slice a xs.length c] xs) (hp : 0 < xs.length) (hn : xs.length ≤ 1048576) :
    aCall T0 F_slices_Clone_impl_Entry_impl_Entry [.slice a xs.length c] M = some (.slice (some ⟨M.length + 1, 0, none⟩) xs.length xs.length, M ++ [⟨[], 2, 0⟩, ⟨(xs.map enc_Entry).flatten, 2, 2⟩]) := by
  have hc := rep_cells (enc := enc_Entry) (fun cs x hx => rep_Entry hx) (h.mono (List.prefix_append M [⟨[], 2, 2⟩])) (k := xs.length) (c2 := c) (Nat.le_refl _)
  have hw : ty_Entry.w = 2 := rfl
  rw [hw, List.take_length] at hc
  have ha := app_new (M := M) (w := 2) (bytes := 24) (m := xs.length) hp (all_Entry xs) (by omega) (by omega)
  cases a with
  | none =>
    rcases h.slice with ⟨_, rfl⟩ | ⟨_, _, _, e⟩
    · simp at hp
    · simp at e
  | some a =>
    generalize (xs.map enc_Entry).flatten = C at hc ha ⊢
    rw [aCall_eq T_slices_Clone_impl_Entry_impl_Entry]; unfold A_slices_Clone_impl_Entry_impl_Entry C_slices_Clone_impl_Entry_impl_Entry; simp [hc, ha, zeroCells]
theorem d_impl_shelfWith (M : Mem) (v : V) (xs : List ty_Entry.D) (h : Rep (.sl ty_Entry) M [v] xs) (hn : xs.length ≤ 1048576) (i : Nat) (hi : i < xs.length) (e : ty_Entry.D) (he : (Lit.int .i64 e.2).wf = true) :
    ∃ M' u L, M <+: M' ∧ aCall T0 F_impl_shelfWith [.agg #[v], .int .i64 i, .agg (enc_Entry e).toArray] M = some (.agg #[u], M') ∧ Own (.sl ty_Entry) M' [u] (xs.set i e) L ∧ ∀ l ∈ L, M.length ≤ l ∧ l < M'.length := by
  obtain ⟨a, c, rfl⟩ := h.slen
  have hc := fun N => rep_cells (enc := enc_Entry) (fun cs x hx => rep_Entry hx) (h.mono (List.prefix_append M N)) (k := xs.length) (c2 := c) (Nat.le_refl _)
  have hw : ty_Entry.w = 2 := rfl
  rw [hw, List.take_length] at hc
  have hlen := flat_enc_len (enc := enc_Entry) (w := 2) (xs := xs) (fun x _ => rfl)
  have hs := flat_set (enc := enc_Entry) (w := 2) (fun x => rfl) xs i hi e
  have hall := all_Entry xs
  have hnil : a ≠ none := by
    rintro rfl
    rcases h.slice with ⟨_, rfl⟩ | ⟨_, _, _, e⟩
    · simp at hi
    · simp at e
  obtain ⟨C, hC⟩ : ∃ C, C = (xs.map enc_Entry).flatten := ⟨_, rfl⟩
  rw [← hC] at hc hlen hs hall
  obtain ⟨D, hD⟩ : ∃ D, D = ((xs.set i e).map enc_Entry).flatten := ⟨_, rfl⟩
  rw [← hD] at hs
  have hb1 : (xs.length : Int) * 24 ≤ 140737488355328 := by omega
  have hpos : 0 < xs.length := by omega
  have ha := fun (M : Mem) => app_new (M := M) (w := 2) (bytes := 24) (m := xs.length) (ys := C) hpos hall (by omega) (by omega)
  refine ⟨M ++ [⟨[.slice a xs.length c], 1, 2⟩, ⟨enc_Entry e, 1, 2⟩, ⟨[.slice (some ⟨M.length + 4, 0, none⟩) xs.length xs.length], 1, 2⟩, ⟨[], 2, 0⟩, ⟨D, 2, 2⟩, ⟨[.slice (some ⟨M.length + 4, 0, none⟩) xs.length xs.length], 1, 2⟩], .slice (some ⟨M.length + 4, 0, none⟩) xs.length xs.length, [M.length + 4], List.prefix_append _ _, ?_, ?_, by simp⟩
  · have e3 : i * 2 + 2 ≤ xs.length * 2 := by omega
    unfold splice at hs
    simp at hs
    have hcl := c_clone_Entry (M ++ [⟨[.slice a xs.length c], 1, 2⟩, ⟨enc_Entry e, 1, 2⟩, ⟨[.slice none 0 0], 1, 2⟩]) a c xs (h.mono (List.prefix_append _ _)) hpos hn
    rw [← hC] at hcl
    simp [Nat.add_assoc] at hcl
    rw [aCall_eq T_impl_shelfWith]; unfold A_impl_shelfWith C_impl_shelfWith; simp [hcl, hlen, hs, e3, hi]
  · refine .inr ⟨M.length + 4, 0, xs.length, ⟨D, 2, 2⟩, (xs.set i e).map enc_Entry, (xs.set i e).map (fun _ => []), ?_, by simp, by simp, rfl, rfl, by simp, by simp, own_encs ?_, by simp [hD], by rw [nils_flat]⟩
    · intro q; have := congrArg List.length q; rw [List.length_set, List.length_nil] at this; omega
    · intro y hy
      apply own_Entry
      rcases List.mem_or_eq_of_mem_set hy with hy | rfl
      · obtain ⟨j, hj, rfl⟩ := List.getElem_of_mem hy
        obtain ⟨_, _, rfl, hr, _⟩ := at_Entry h hj
        obtain ⟨_, _, _, _, w⟩ := hr
        exact w.2
      · exact he
theorem box_set {M : Mem} {l : Nat} {cs ds : List V} (hb : M[l]? = some ⟨cs, 1, 2⟩) (hl : ds.length = cs.length) (h1 : ds.all one = true) : wrn M l 0 ds = some (M.set l ⟨ds, 1, 2⟩) := by
  unfold wrn
  rw [hb]
  simp only
  rw [if_pos ⟨trivial, by omega, h1⟩]
  congr 2
  unfold splice
  simp [hl]
theorem rdn_box {M : Mem} {l n : Nat} {cs : List V} (h : M[l]? = some ⟨cs, 1, 2⟩) (hn : n = cs.length) : rdn M l 0 n = some cs := by
  unfold rdn
  rw [h]
  simp [hn]
theorem box_get {M : Mem} {l n : Nat} {cs ds : List V} (hb : M[l]? = some ⟨cs, 1, 2⟩) (hn : n = ds.length) : rdn (M.set l ⟨ds, 1, 2⟩) l 0 n = some ds := by
  have hlt := (List.getElem?_eq_some_iff.1 hb).1
  exact rdn_box (by simp [hlt]) hn
def dropOk (xs : List ty_Entry.D) (w : List UInt8) : Bool := !decide (findI xs w < 0)
def dropR (xs : List ty_Entry.D) (w : List UInt8) : List ty_Entry.D := if dropOk xs w = true then xs.set (findI xs w).toNat ([], 0) else []
theorem find_ok {xs : List ty_Entry.D} {w : List UInt8} (h : (!decide (findI xs w < 0)) = true) : ∃ j, ∃ hj : j < xs.length, findI xs w = j ∧ idx (isW w) xs = j ∧ shelfB xs = true ∧ wordB w = true := by
  simp only [Bool.not_eq_true', decide_eq_false_iff_not] at h
  by_cases hb : shelfB xs = true ∧ wordB w = true
  · have e : findI xs w = idx (isW w) xs := if_pos hb
    rcases idx_cases (isW w) xs with ⟨ha, h1⟩ | ⟨j, hj, ha, h1, h2⟩
    · rw [e, ha] at h; omega
    · exact ⟨j, hj, by rw [e, ha], ha, hb.1, hb.2⟩
  · have e : findI xs w = -1 := if_neg hb
    rw [e] at h; omega
theorem d_impl_ShelfDrop (M : Mem) (v : V) (xs : List ty_Entry.D) (h : Rep (.sl ty_Entry) M [v] xs) (hn : xs.length ≤ 1048576) (hf : ∀ e ∈ xs, e.1.length ≤ 9223372036854775807) (w : List UInt8) (hw : w.length ≤ 9223372036854775807) :
    ∃ M' u L, M <+: M' ∧ aCall T0 F_impl_ShelfDrop [.agg #[v], strV w] M = some (.tuple #[.agg #[u], .bool (dropOk xs w)], M') ∧ Own (.sl ty_Entry) M' [u] (dropR xs w) L ∧ ∀ l ∈ L, M.length ≤ l ∧ l < M'.length := by
  have h' : Rep (.sl ty_Entry) (M ++ [⟨[v], 1, 2⟩, ⟨[.slice none 0 0], 1, 2⟩]) [v] xs := h.mono (List.prefix_append _ _)
  have g1 := c_impl_isShelf _ v xs h' (by omega) hf
  have g2 := fun M => c_impl_isWord M w hw
  have g3 := c_impl_shelfFind _ v xs h' (by omega) w
  unfold dropR
  cases hb : dropOk xs w with
  | false =>
    refine ⟨M ++ [⟨[v], 1, 2⟩, ⟨[.slice none 0 0], 1, 2⟩], .slice none 0 0, [], List.prefix_append _ _, ?_, .inl ⟨rfl, rfl, .inl ⟨rfl, rfl⟩⟩, by simp⟩
    have hb2 : (shelfB xs = false) ∨ (shelfB xs = true ∧ wordB w = false) ∨ (shelfB xs = true ∧ wordB w = true ∧ idx (isW w) xs < 0) := by
      cases h1 : shelfB xs with
      | false => exact .inl rfl
      | true =>
        cases h2 : wordB w with
        | false => exact .inr (.inl ⟨rfl, rfl⟩)
        | true =>
          refine .inr (.inr ⟨rfl, rfl, ?_⟩)
          have e : findI xs w = idx (isW w) xs := if_pos ⟨h1, h2⟩
          simpa [dropOk, e] using hb
    obtain ⟨a, c, rfl⟩ := h.slen
    rcases hb2 with q | ⟨q, q2⟩ | ⟨q, q2, q3⟩
    · rw [aCall_eq T_impl_ShelfDrop]; unfold A_impl_ShelfDrop C_impl_ShelfDrop; simp [g1, g2, g3, q, prim]
    · rw [aCall_eq T_impl_ShelfDrop]; unfold A_impl_ShelfDrop C_impl_ShelfDrop; simp [g1, g2, g3, q, q2, prim]
    · rw [aCall_eq T_impl_ShelfDrop]; unfold A_impl_ShelfDrop C_impl_ShelfDrop; simp [g1, g2, g3, q, q2, q3, prim]
  | true =>
    obtain ⟨j, hj, e1, e2, e3, e4⟩ := find_ok hb
    obtain ⟨M1, u, L, p1, s1, o1, f1⟩ := d_impl_shelfWith (M ++ [⟨[v], 1, 2⟩, ⟨[.slice none 0 0], 1, 2⟩]) v xs h' hn j hj ([], 0) rfl
    have hb1 : M1[M.length + 1]? = some ⟨[.slice none 0 0], 1, 2⟩ := get_pre p1 (by simp)
    obtain ⟨a, c, rfl⟩ := h.slen
    obtain ⟨a2, c2, rfl⟩ := o1.rep.slen
    have w1 := box_set hb1 (ds := [.slice a2 (xs.set j ([], 0)).length c2]) rfl rfl
    have r1 := box_get hb1 (ds := [.slice a2 (xs.set j ([], 0)).length c2]) (n := 1) rfl
    have o2 := Own.upd (upd_set hb1 (b2 := ⟨[.slice a2 (xs.set j ([], 0)).length c2], 1, 2⟩) rfl) o1 (fun l hl hk => by have := f1 l hl; simp at this hk; omega)
    have e5 : (findI xs w).toNat = j := by omega
    simp at s1 w1 r1
    simp only [if_true, e5]
    refine ⟨_, .slice a2 (xs.set j ([], 0)).length c2, L, pre_set ((List.prefix_append _ _).trans p1) (by omega), ?_, o2, fun l hl => by have := f1 l hl; simp at this ⊢; omega⟩
    have e6 : ¬ ((j : Int) < 0) := by omega
    rw [aCall_eq T_impl_ShelfDrop]; unfold A_impl_ShelfDrop C_impl_ShelfDrop; simp [g1, g2, g3, e2, e3, e4, e6, s1, w1, r1, p1, thenD_pre, prim]
def setOk (xs : List ty_Entry.D) (e : ty_Entry.D) : Bool := entB e && !decide (findI xs e.1 < 0)
def setR (xs : List ty_Entry.D) (e : ty_Entry.D) : List ty_Entry.D := if setOk xs e = true then xs.set (findI xs e.1).toNat e else []
theorem entB_word {e : ty_Entry.D} (h : entB e = true) : wordB e.1 = true := by
  simp only [entB, Bool.and_eq_true] at h
  exact h.1
theorem wf_range {z : Int} (h : -9223372036854775808 ≤ z ∧ z ≤ 9223372036854775807) : (Lit.int .i64 z).wf = true := by
  simp [Lit.wf, IntKind.min, IntKind.max, IntKind.signed, IntKind.bits]; omega
theorem entB_wf {e : ty_Entry.D} (h : entB e = true) : (Lit.int .i64 e.2).wf = true := by
  simp only [entB, Bool.and_eq_true, decide_eq_true_eq] at h
  exact wf_range ⟨Int.le_trans (by decide) h.2.1, Int.le_trans h.2.2 (by decide)⟩
theorem d_impl_ShelfSet (M : Mem) (v : V) (xs : List ty_Entry.D) (h : Rep (.sl ty_Entry) M [v] xs) (hn : xs.length ≤ 1048576) (hf : ∀ e ∈ xs, e.1.length ≤ 9223372036854775807) (e : ty_Entry.D) (he : e.1.length ≤ 9223372036854775807) :
    ∃ M' u L, M <+: M' ∧ aCall T0 F_impl_ShelfSet [.agg #[v], .agg (enc_Entry e).toArray] M = some (.tuple #[.agg #[u], .bool (setOk xs e)], M') ∧ Own (.sl ty_Entry) M' [u] (setR xs e) L ∧ ∀ l ∈ L, M.length ≤ l ∧ l < M'.length := by
  have h' : Rep (.sl ty_Entry) (M ++ [⟨[v], 1, 2⟩, ⟨enc_Entry e, 1, 2⟩, ⟨[.slice none 0 0], 1, 2⟩]) [v] xs := h.mono (List.prefix_append _ _)
  have g1 := c_impl_isShelf _ v xs h' (by omega) hf
  have g2 := fun M => c_impl_isEntry M e he
  have g3 := c_impl_shelfFind _ v xs h' (by omega) e.1
  unfold setR
  cases hb : setOk xs e with
  | false =>
    refine ⟨M ++ [⟨[v], 1, 2⟩, ⟨enc_Entry e, 1, 2⟩, ⟨[.slice none 0 0], 1, 2⟩], .slice none 0 0, [], List.prefix_append _ _, ?_, .inl ⟨rfl, rfl, .inl ⟨rfl, rfl⟩⟩, by simp⟩
    have hb2 : (shelfB xs = false) ∨ (shelfB xs = true ∧ entB e = false) ∨ (shelfB xs = true ∧ entB e = true ∧ idx (isW e.1) xs < 0) := by
      cases h1 : shelfB xs with
      | false => exact .inl rfl
      | true =>
        cases h2 : entB e with
        | false => exact .inr (.inl ⟨rfl, rfl⟩)
        | true =>
          refine .inr (.inr ⟨rfl, rfl, ?_⟩)
          have e : findI xs e.1 = idx (isW e.1) xs := if_pos ⟨h1, entB_word h2⟩
          simpa [setOk, h2, e] using hb
    obtain ⟨a, c, rfl⟩ := h.slen
    rcases hb2 with q | ⟨q, q2⟩ | ⟨q, q2, q3⟩
    · rw [aCall_eq T_impl_ShelfSet]; unfold A_impl_ShelfSet C_impl_ShelfSet; simp [g1, g2, g3, q, prim]
    · rw [aCall_eq T_impl_ShelfSet]; unfold A_impl_ShelfSet C_impl_ShelfSet; simp [g1, g2, g3, q, q2, prim]
    · rw [aCall_eq T_impl_ShelfSet]; unfold A_impl_ShelfSet C_impl_ShelfSet; simp [g1, g2, g3, q, q2, q3, prim]
  | true =>
    obtain ⟨hb1, hb2⟩ : entB e = true ∧ (!decide (findI xs e.1 < 0)) = true := by simpa only [setOk, Bool.and_eq_true] using hb
    obtain ⟨j, hj, e1, e2, e3, e4⟩ := find_ok hb2
    obtain ⟨M1, u, L, p1, s1, o1, f1⟩ := d_impl_shelfWith (M ++ [⟨[v], 1, 2⟩, ⟨enc_Entry e, 1, 2⟩, ⟨[.slice none 0 0], 1, 2⟩]) v xs h' hn j hj e (entB_wf hb1)
    have hb1' : M1[M.length + 2]? = some ⟨[.slice none 0 0], 1, 2⟩ := get_pre p1 (by simp)
    obtain ⟨a, c, rfl⟩ := h.slen
    obtain ⟨a2, c2, rfl⟩ := o1.rep.slen
    have w1 := box_set hb1' (ds := [.slice a2 (xs.set j e).length c2]) rfl rfl
    have r1 := box_get hb1' (ds := [.slice a2 (xs.set j e).length c2]) (n := 1) rfl
    have o2 := Own.upd (upd_set hb1' (b2 := ⟨[.slice a2 (xs.set j e).length c2], 1, 2⟩) rfl) o1 (fun l hl hk => by have := f1 l hl; simp at this hk; omega)
    have e5 : (findI xs e.1).toNat = j := by omega
    simp at s1 w1 r1
    simp only [if_true, e5]
    refine ⟨_, .slice a2 (xs.set j e).length c2, L, pre_set ((List.prefix_append _ _).trans p1) (by omega), ?_, o2, fun l hl => by have := f1 l hl; simp at this ⊢; omega⟩
    have e6 : ¬ ((j : Int) < 0) := by omega
    rw [aCall_eq T_impl_ShelfSet]; unfold A_impl_ShelfSet C_impl_ShelfSet; simp [g1, g2, g3, e2, e3, e4, hb1, e6, s1, w1, r1, p1, thenD_pre, prim]
def addC (xs : List ty_Entry.D) (e : ty_Entry.D) : Int := if shelfB xs = true ∧ entB e = true then (if 0 ≤ idx (isW e.1) xs then 2 else if idx (isW []) xs < 0 then 3 else 0) else 1
def isE (v x : ty_Entry.D) : Bool := decide (v.1 = x.1) && decide (v.2 = x.2)
theorem idx_congr {α : Type} {p q : α → Bool} {xs : List α} (h : ∀ i (hi : i < xs.length), p xs[i] = q xs[i]) : idx p xs = idx q xs := by
  rcases idx_cases p xs with ⟨ha, h1⟩ | ⟨j, hj, ha, h1, h2⟩
  · rw [ha, idx_none (fun i hi => by rw [← h i hi]; exact h1 i hi)]
  · rw [ha, idx_some hj (fun i hi hij => by rw [← h i hi]; exact h1 i hi hij) (by rw [← h j hj]; exact h2)]
theorem shelf_slot {xs : List ty_Entry.D} (h : shelfB xs = true) {i : Nat} (hi : i < xs.length) : slotB xs i = true := by
  simp only [shelfB, Bool.and_eq_true] at h
  exact List.all_eq_true.1 h.2 i (by simpa using hi)
theorem shelf_none {xs : List ty_Entry.D} (h : shelfB xs = true) {i : Nat} (hi : i < xs.length) : noneB xs[i] = true ∨ (entB xs[i] = true ∧ xs[i].1 ≠ []) := by
  have hs := shelf_slot h hi
  simp only [slotB, List.getElem?_eq_getElem hi, Bool.or_eq_true, Bool.and_eq_true] at hs
  rcases hs with h1 | ⟨h1, _⟩
  · exact .inl h1
  · refine .inr ⟨h1, fun he => ?_⟩
    have := entB_word h1
    rw [he] at this
    exact absurd this (by decide)
theorem idx_empty {xs : List ty_Entry.D} (h : shelfB xs = true) : idx (isW []) xs = idx (isE ([], 0)) xs := by
  apply idx_congr
  intro i hi
  unfold isW isE
  rcases shelf_none h hi with h1 | ⟨_, h1⟩
  · simp only [noneB, Bool.and_eq_true, decide_eq_true_eq] at h1
    simp [h1.1, h1.2]
  · have h2 : ¬ [] = xs[i].1 := fun e => h1 e.symm
    simp [h1, h2]
theorem c_index_Entry (M : Mem) (v : V) (xs : List ty_Entry.D) (h : Rep (.sl ty_Entry) M [v] xs) (hn : xs.length ≤ 9223372036854775807) (e : ty_Entry.D) :
    aCall T0 F_slices_Index_impl_Entry_impl_Entry [v, .agg (enc_Entry e).toArray] M = some (.int .i64 (idx (isE e) xs), M) := by
  have h' : Rep (.sl ty_Entry) (M ++ [⟨enc_Entry e, 1, 2⟩]) [v] xs := h.mono (List.prefix_append _ _)
  obtain ⟨a, c, rfl⟩ := h.slen
  have hr : ∀ i, (hi : i < xs.length) → isE e xs[i] = false → lp (aCall T0) K_slices_Index_impl_Entry_impl_Entry_0 L_slices_Index_impl_Entry_impl_Entry_0 [.slice a xs.length c, und, und, .pointer (some ⟨M.length, 0, none⟩), und, und, und, .int .i64 xs.length, .int .i64 i, und, und, und, und, und, und, und, und, und, und] (M ++ [⟨enc_Entry e, 1, 2⟩]) =
      lp (aCall T0) K_slices_Index_impl_Entry_impl_Entry_0 L_slices_Index_impl_Entry_impl_Entry_0 [.slice a xs.length c, und, und, .pointer (some ⟨M.length, 0, none⟩), und, und, und, .int .i64 xs.length, .int .i64 (i + 1 : Nat), und, und, und, und, und, und, und, und, und, und] (M ++ [⟨enc_Entry e, 1, 2⟩]) := by
    intro i hi hq
    obtain ⟨l, o, rfl, hrep, hrd, _⟩ := at_Entry h' hi
    have e6 : IntKind.i64.wrap ((i : Int) + 1) = i + 1 := wrap_i64 (by omega) (by omega)
    have hq' : (decide (e.1 = xs[i].1) && decide (e.2 = xs[i].2)) = false := hq
    rw [S_slices_Index_impl_Entry_impl_Entry_0]; unfold B_slices_Index_impl_Entry_impl_Entry_0; simp [hrd, e6, hi, hq']
  rcases idx_cases (isE e) xs with ⟨ha, h1⟩ | ⟨j, hj, ha, h1, h2⟩
  · have hc := chain (n := xs.length) fun i hi => hr i hi (h1 i hi)
    simp only [Int.natCast_zero, Int.ofNat_zero] at hc
    rw [ha]
    rw [aCall_eq T_slices_Index_impl_Entry_impl_Entry]; unfold A_slices_Index_impl_Entry_impl_Entry C_slices_Index_impl_Entry_impl_Entry; simp [hc]
    rw [S_slices_Index_impl_Entry_impl_Entry_0]; unfold B_slices_Index_impl_Entry_impl_Entry_0; simp
  · have hc := chain (n := j) fun i hi => hr i (by omega) (h1 i (by omega) hi)
    simp only [Int.natCast_zero, Int.ofNat_zero] at hc
    rw [ha]
    rw [aCall_eq T_slices_Index_impl_Entry_impl_Entry]; unfold A_slices_Index_impl_Entry_impl_Entry C_slices_Index_impl_Entry_impl_Entry; simp [hc]
    obtain ⟨l, o, rfl, hrep, hrd, _⟩ := at_Entry h' hj
    have hq' : (decide (e.1 = xs[j].1) && decide (e.2 = xs[j].2)) = true := h2
    rw [S_slices_Index_impl_Entry_impl_Entry_0]; unfold B_slices_Index_impl_Entry_impl_Entry_0; simp [hrd, hj, hq']
def addR (xs : List ty_Entry.D) (e : ty_Entry.D) : List ty_Entry.D := if addC xs e = 0 then xs.set (idx (isW []) xs).toNat e else []
theorem add_cases (xs : List ty_Entry.D) (e : ty_Entry.D) : (addC xs e = 1 ∧ (shelfB xs = false ∨ (shelfB xs = true ∧ entB e = false))) ∨ (addC xs e = 2 ∧ shelfB xs = true ∧ entB e = true ∧ 0 ≤ idx (isW e.1) xs) ∨
    (addC xs e = 3 ∧ shelfB xs = true ∧ entB e = true ∧ idx (isW e.1) xs < 0 ∧ idx (isW []) xs < 0) ∨ (addC xs e = 0 ∧ shelfB xs = true ∧ entB e = true ∧ idx (isW e.1) xs < 0 ∧ ∃ j, ∃ _ : j < xs.length, idx (isW []) xs = j) := by
  unfold addC
  cases h1 : shelfB xs with
  | false => left; simp
  | true =>
    cases h2 : entB e with
    | false => left; simp
    | true =>
      right
      by_cases h3 : 0 ≤ idx (isW e.1) xs
      · left; simp [h3]
      · right
        have h3' : idx (isW e.1) xs < 0 := by omega
        rcases idx_cases (isW []) xs with ⟨ha, _⟩ | ⟨j, hj, ha, _⟩
        · left; rw [ha]; simp [h3, h3']
        · right
          refine ⟨?_, rfl, rfl, h3', j, hj, ha⟩
          have : ¬ ((j : Int) < 0) := by omega
          rw [ha]; simp [h3, this]
theorem d_impl_ShelfAdd (M : Mem) (v : V) (xs : List ty_Entry.D) (h : Rep (.sl ty_Entry) M [v] xs) (hn : xs.length ≤ 1048576) (hf : ∀ e ∈ xs, e.1.length ≤ 9223372036854775807) (e : ty_Entry.D) (he : e.1.length ≤ 9223372036854775807) :
    ∃ M' u L, M <+: M' ∧ aCall T0 F_impl_ShelfAdd [.agg #[v], .agg (enc_Entry e).toArray] M = some (.tuple #[.agg #[u], .int .i64 (addC xs e)], M') ∧ Own (.sl ty_Entry) M' [u] (addR xs e) L ∧ ∀ l ∈ L, M.length ≤ l ∧ l < M'.length := by
  have h' : Rep (.sl ty_Entry) (M ++ [⟨[v], 1, 2⟩, ⟨enc_Entry e, 1, 2⟩, ⟨[.slice none 0 0], 1, 2⟩]) [v] xs := h.mono (List.prefix_append _ _)
  have g1 := c_impl_isShelf _ v xs h' (by omega) hf
  have g2 := fun M => c_impl_isEntry M e he
  have g3 := c_impl_shelfFind _ v xs h' (by omega) e.1
  have g4 := c_index_Entry _ v xs h' (by omega) ([], 0)
  unfold addR
  rcases add_cases xs e with ⟨ha, hb⟩ | ⟨ha, h1, h2, h3⟩ | ⟨ha, h1, h2, h3, h4⟩ | ⟨ha, h1, h2, h3, j, hj, e2⟩
  · refine ⟨M ++ [⟨[v], 1, 2⟩, ⟨enc_Entry e, 1, 2⟩, ⟨[.slice none 0 0], 1, 2⟩], .slice none 0 0, [], List.prefix_append _ _, ?_, by rw [ha]; exact .inl ⟨rfl, rfl, .inl ⟨rfl, rfl⟩⟩, by simp⟩
    obtain ⟨a, c, rfl⟩ := h.slen
    rcases hb with q | ⟨q, q2⟩
    · rw [aCall_eq T_impl_ShelfAdd]; unfold A_impl_ShelfAdd C_impl_ShelfAdd; simp [g1, g2, ha, q, prim]
    · rw [aCall_eq T_impl_ShelfAdd]; unfold A_impl_ShelfAdd C_impl_ShelfAdd; simp [g1, g2, ha, q, q2, prim]
  · refine ⟨M ++ [⟨[v], 1, 2⟩, ⟨enc_Entry e, 1, 2⟩, ⟨[.slice none 0 0], 1, 2⟩], .slice none 0 0, [], List.prefix_append _ _, ?_, by rw [ha]; exact .inl ⟨rfl, rfl, .inl ⟨rfl, rfl⟩⟩, by simp⟩
    obtain ⟨a, c, rfl⟩ := h.slen
    rw [aCall_eq T_impl_ShelfAdd]; unfold A_impl_ShelfAdd C_impl_ShelfAdd; simp [g1, g2, g3, ha, h1, h2, h3, prim]
  · refine ⟨M ++ [⟨[v], 1, 2⟩, ⟨enc_Entry e, 1, 2⟩, ⟨[.slice none 0 0], 1, 2⟩], .slice none 0 0, [], List.prefix_append _ _, ?_, by rw [ha]; exact .inl ⟨rfl, rfl, .inl ⟨rfl, rfl⟩⟩, by simp⟩
    have h3' : ¬ 0 ≤ idx (isW e.1) xs := by omega
    rw [← idx_empty h1] at g4
    obtain ⟨a, c, rfl⟩ := h.slen
    rw [aCall_eq T_impl_ShelfAdd]; unfold A_impl_ShelfAdd C_impl_ShelfAdd; simp [g1, g2, g3, g4, ha, h1, h2, h3', h4, prim]
  · obtain ⟨M1, u, L, p1, s1, o1, f1⟩ := d_impl_shelfWith (M ++ [⟨[v], 1, 2⟩, ⟨enc_Entry e, 1, 2⟩, ⟨[.slice none 0 0], 1, 2⟩]) v xs h' hn j hj e (entB_wf h2)
    have hb1' : M1[M.length + 2]? = some ⟨[.slice none 0 0], 1, 2⟩ := get_pre p1 (by simp)
    rw [← idx_empty h1] at g4
    obtain ⟨a, c, rfl⟩ := h.slen
    obtain ⟨a2, c2, rfl⟩ := o1.rep.slen
    have w1 := box_set hb1' (ds := [.slice a2 (xs.set j e).length c2]) rfl rfl
    have r1 := box_get hb1' (ds := [.slice a2 (xs.set j e).length c2]) (n := 1) rfl
    have o2 := Own.upd (upd_set hb1' (b2 := ⟨[.slice a2 (xs.set j e).length c2], 1, 2⟩) rfl) o1 (fun l hl hk => by have := f1 l hl; simp at this hk; omega)
    have e5 : (idx (isW []) xs).toNat = j := by omega
    have e6 : ¬ ((j : Int) < 0) := by omega
    have h3' : ¬ 0 ≤ idx (isW e.1) xs := by omega
    simp at s1 w1 r1
    simp only [ha, if_true, e5]
    refine ⟨_, .slice a2 (xs.set j e).length c2, L, pre_set ((List.prefix_append _ _).trans p1) (by omega), ?_, o2, fun l hl => by have := f1 l hl; simp at this ⊢; omega⟩
    rw [aCall_eq T_impl_ShelfAdd]; unfold A_impl_ShelfAdd C_impl_ShelfAdd; simp [g1, g2, g3, g4, h1, h2, h3', e2, e6, s1, w1, r1, prim]
theorem d_spec_l17With (M : Mem) (v : V) (xs : List ty_Entry.D) (h : Rep (.sl ty_Entry) M [v] xs) (hn : xs.length ≤ 1048576) (i : Nat) (hi : i < xs.length) (e : ty_Entry.D) (he : (Lit.int .i64 e.2).wf = true) :
    ∃ M' u L, M <+: M' ∧ aCall T0 F_spec_l17With [.agg #[v], .int .i64 i, .agg (enc_Entry e).toArray] M = some (.agg #[u], M') ∧ Own (.sl ty_Entry) M' [u] (xs.set i e) L ∧ ∀ l ∈ L, M.length ≤ l ∧ l < M'.length := by
  obtain ⟨a, c, rfl⟩ := h.slen
  have hc := fun N => rep_cells (enc := enc_Entry) (fun cs x hx => rep_Entry hx) (h.mono (List.prefix_append M N)) (k := xs.length) (c2 := c) (Nat.le_refl _)
  have hw : ty_Entry.w = 2 := rfl
  rw [hw, List.take_length] at hc
  have hlen := flat_enc_len (enc := enc_Entry) (w := 2) (xs := xs) (fun x _ => rfl)
  have hs := flat_set (enc := enc_Entry) (w := 2) (fun x => rfl) xs i hi e
  have hall := all_Entry xs
  have hnil : a ≠ none := by
    rintro rfl
    rcases h.slice with ⟨_, rfl⟩ | ⟨_, _, _, e⟩
    · simp at hi
    · simp at e
  obtain ⟨C, hC⟩ : ∃ C, C = (xs.map enc_Entry).flatten := ⟨_, rfl⟩
  rw [← hC] at hc hlen hs hall
  obtain ⟨D, hD⟩ : ∃ D, D = ((xs.set i e).map enc_Entry).flatten := ⟨_, rfl⟩
  rw [← hD] at hs
  have hb1 : (xs.length : Int) * 24 ≤ 140737488355328 := by omega
  have hpos : 0 < xs.length := by omega
  have ha := fun (M : Mem) => app_new (M := M) (w := 2) (bytes := 24) (m := xs.length) (ys := C) hpos hall (by omega) (by omega)
  refine ⟨M ++ [⟨[.slice a xs.length c], 1, 2⟩, ⟨enc_Entry e, 1, 2⟩, ⟨[.slice (some ⟨M.length + 4, 0, none⟩) xs.length xs.length], 1, 2⟩, ⟨[], 2, 0⟩, ⟨D, 2, 2⟩, ⟨[.slice (some ⟨M.length + 4, 0, none⟩) xs.length xs.length], 1, 2⟩], .slice (some ⟨M.length + 4, 0, none⟩) xs.length xs.length, [M.length + 4], List.prefix_append _ _, ?_, ?_, by simp⟩
  · have e3 : i * 2 + 2 ≤ xs.length * 2 := by omega
    unfold splice at hs
    simp at hs
    have ha1 := ha (M ++ [⟨[.slice a xs.length c], 1, 2⟩, ⟨enc_Entry e, 1, 2⟩, ⟨[.slice none 0 0], 1, 2⟩])
    have hc1 := hc [⟨[.slice a xs.length c], 1, 2⟩, ⟨enc_Entry e, 1, 2⟩, ⟨[.slice none 0 0], 1, 2⟩, ⟨[], 2, 2⟩]
    simp [Nat.add_assoc] at ha1 hc1
    rw [aCall_eq T_spec_l17With]; unfold A_spec_l17With C_spec_l17With; simp [hc1, ha1, zeroCells, hlen, hs, e3, hi]
  · refine .inr ⟨M.length + 4, 0, xs.length, ⟨D, 2, 2⟩, (xs.set i e).map enc_Entry, (xs.set i e).map (fun _ => []), ?_, by simp, by simp, rfl, rfl, by simp, by simp, own_encs ?_, by simp [hD], by rw [nils_flat]⟩
    · intro q; have := congrArg List.length q; rw [List.length_set, List.length_nil] at this; omega
    · intro y hy
      apply own_Entry
      rcases List.mem_or_eq_of_mem_set hy with hy | rfl
      · obtain ⟨j, hj, rfl⟩ := List.getElem_of_mem hy
        obtain ⟨_, _, rfl, hr, _⟩ := at_Entry h hj
        obtain ⟨_, _, _, _, w⟩ := hr
        exact w.2
      · exact he
theorem d_spec_ShelfAdd (M : Mem) (v : V) (xs : List ty_Entry.D) (h : Rep (.sl ty_Entry) M [v] xs) (hn : xs.length ≤ 1048576) (hf : ∀ e ∈ xs, e.1.length ≤ 9223372036854775807) (e : ty_Entry.D) (he : e.1.length ≤ 9223372036854775807) :
    ∃ M' u, M <+: M' ∧ aCall T0 F_spec_ShelfAdd [.agg #[v], .agg (enc_Entry e).toArray] M = some (.tuple #[.agg #[u], .int .i64 (addC xs e)], M') ∧ Rep (.sl ty_Entry) M' [u] (addR xs e) := by
  have h' : Rep (.sl ty_Entry) (M ++ [⟨[v], 1, 2⟩, ⟨enc_Entry e, 1, 2⟩, ⟨[.slice none 0 0], 1, 2⟩]) [v] xs := h.mono (List.prefix_append _ _)
  have g1 := c_spec_ShelfOk _ v xs h' (by omega) hf
  have g2 := fun M => c_spec_l17Full M e he
  have g3 := c_spec_l17At _ v xs h' (by omega) e.1
  have g4 := c_spec_l17At _ v xs h' (by omega) []
  unfold addR
  rcases add_cases xs e with ⟨ha, hb⟩ | ⟨ha, h1, h2, h3⟩ | ⟨ha, h1, h2, h3, h4⟩ | ⟨ha, h1, h2, h3, j, hj, e2⟩
  · refine ⟨M ++ [⟨[v], 1, 2⟩, ⟨enc_Entry e, 1, 2⟩, ⟨[.slice none 0 0], 1, 2⟩], .slice none 0 0, List.prefix_append _ _, ?_, by rw [ha]; exact .inl ⟨rfl, rfl⟩⟩
    obtain ⟨a, c, rfl⟩ := h.slen
    rcases hb with q | ⟨q, q2⟩
    · rw [aCall_eq T_spec_ShelfAdd]; unfold A_spec_ShelfAdd C_spec_ShelfAdd; simp [g1, g2, ha, q, prim]
    · rw [aCall_eq T_spec_ShelfAdd]; unfold A_spec_ShelfAdd C_spec_ShelfAdd; simp [g1, g2, ha, q, q2, prim]
  · refine ⟨M ++ [⟨[v], 1, 2⟩, ⟨enc_Entry e, 1, 2⟩, ⟨[.slice none 0 0], 1, 2⟩], .slice none 0 0, List.prefix_append _ _, ?_, by rw [ha]; exact .inl ⟨rfl, rfl⟩⟩
    obtain ⟨a, c, rfl⟩ := h.slen
    rw [aCall_eq T_spec_ShelfAdd]; unfold A_spec_ShelfAdd C_spec_ShelfAdd; simp [g1, g2, g3, ha, h1, h2, h3, prim]
  · refine ⟨M ++ [⟨[v], 1, 2⟩, ⟨enc_Entry e, 1, 2⟩, ⟨[.slice none 0 0], 1, 2⟩], .slice none 0 0, List.prefix_append _ _, ?_, by rw [ha]; exact .inl ⟨rfl, rfl⟩⟩
    have h3' : ¬ 0 ≤ idx (isW e.1) xs := by omega
    obtain ⟨a, c, rfl⟩ := h.slen
    rw [aCall_eq T_spec_ShelfAdd]; unfold A_spec_ShelfAdd C_spec_ShelfAdd; simp [g1, g2, g3, g4, ha, h1, h2, h3', h4, prim]
  · obtain ⟨M1, u, L, p1, s1, o1, f1⟩ := d_spec_l17With (M ++ [⟨[v], 1, 2⟩, ⟨enc_Entry e, 1, 2⟩, ⟨[.slice none 0 0], 1, 2⟩]) v xs h' hn j hj e (entB_wf h2)
    have hb1' : M1[M.length + 2]? = some ⟨[.slice none 0 0], 1, 2⟩ := get_pre p1 (by simp)
    obtain ⟨a, c, rfl⟩ := h.slen
    obtain ⟨a2, c2, rfl⟩ := o1.rep.slen
    have w1 := box_set hb1' (ds := [.slice a2 (xs.set j e).length c2]) rfl rfl
    have r1 := box_get hb1' (ds := [.slice a2 (xs.set j e).length c2]) (n := 1) rfl
    have o2 := Own.upd (upd_set hb1' (b2 := ⟨[.slice a2 (xs.set j e).length c2], 1, 2⟩) rfl) o1 (fun l hl hk => by have := f1 l hl; simp at this hk; omega)
    have e5 : (idx (isW []) xs).toNat = j := by omega
    have e6 : ¬ ((j : Int) < 0) := by omega
    have h3' : ¬ 0 ≤ idx (isW e.1) xs := by omega
    simp at s1 w1 r1
    simp only [ha, if_true, e5]
    refine ⟨_, .slice a2 (xs.set j e).length c2, pre_set ((List.prefix_append _ _).trans p1) (by omega), ?_, o2.rep⟩
    rw [aCall_eq T_spec_ShelfAdd]; unfold A_spec_ShelfAdd C_spec_ShelfAdd; simp [g1, g2, g3, g4, h1, h2, h3', e2, e6, s1, w1, r1, prim]
theorem c_laws_big (M : Mem) (a : Option Addr) (n c : Nat) : aCall T0 F_laws_big [.slice a n c] M = some (.bool (decide (1048576 < n)), M) := by
  by_cases h : 1048576 < n
  · have h' : (1048576 : Int) < n := by omega
    rw [decide_eq_true h]
    rw [aCall_eq T_laws_big]; unfold A_laws_big C_laws_big; simp [thenD_pp, sliceCells_sl, sliceCells_z, sliceCells_nil, take_full, appS_sl, appK_ok, appS_none, thenD_ag, agP_nil, agP_cons, h']
  · have h' : ¬ (1048576 : Int) < n := by omega
    rw [decide_eq_false h]
    rw [aCall_eq T_laws_big]; unfold A_laws_big C_laws_big; simp [thenD_pp, sliceCells_sl, sliceCells_z, sliceCells_nil, take_full, appS_sl, appK_ok, appS_none, thenD_ag, agP_nil, agP_cons, h']
theorem c_laws_sameEntries (M : Mem) (v u : V) (xs : List ty_Entry.D) (h : Rep (.sl ty_Entry) M [v] xs) (h2 : Rep (.sl ty_Entry) M [u] xs) (hn : xs.length ≤ 1048576) : aCall T0 F_laws_sameEntries [v, u] M = some (.bool true, M) := by
  obtain ⟨a, c, rfl⟩ := h.slen
  obtain ⟨b, d, rfl⟩ := h2.slen
  have hl := chain (g := fun i => lp (aCall T0) K_laws_sameEntries_0 L_laws_sameEntries_0 [.slice a xs.length c, .slice b xs.length d, und, und, und, .int .i64 i, und, und, und, und, und, und, und, und, und, und, und, und, und, und, und, und, und, und, und, und] M) (n := xs.length) fun i hi => by
    have e6 : IntKind.i64.wrap ((i : Int) + 1) = i + 1 := wrap_i64 (by omega) (by omega)
    obtain ⟨l, o, rfl, _, q, _⟩ := at_Entry h hi
    obtain ⟨l2, o2, rfl, _, q2, _⟩ := at_Entry h2 hi
    rw [S_laws_sameEntries_0]; unfold B_laws_sameEntries_0; simp [thenD_pp, sliceCells_sl, sliceCells_z, sliceCells_nil, take_full, appS_sl, appK_ok, appS_none, thenD_ag, agP_nil, agP_cons, hi, q, q2, e6]
  simp only [Int.natCast_zero, Int.ofNat_zero] at hl
  rw [aCall_eq T_laws_sameEntries]; unfold A_laws_sameEntries C_laws_sameEntries; simp [thenD_pp, sliceCells_sl, sliceCells_z, sliceCells_nil, take_full, appS_sl, appK_ok, appS_none, thenD_ag, agP_nil, agP_cons, hl]
  rw [S_laws_sameEntries_0]; unfold B_laws_sameEntries_0; simp [thenD_pp, sliceCells_sl, sliceCells_z, sliceCells_nil, take_full, appS_sl, appK_ok, appS_none, thenD_ag, agP_nil, agP_cons]
abbrev ty_Byte : Ty := .u8
theorem hits_ne {xs ys : List Nat} (h : ∀ x ∈ xs, ∀ y ∈ ys, x ≠ y) : hits xs ys = false := by
  unfold hits
  rw [List.any_eq_false]
  intro x hx
  simp only [Bool.not_eq_true]
  rw [List.any_eq_false]
  intro y hy
  have := h x hx y hy
  simp [this]
/-- The cursor's block, and how far it may have come. -/
def Cur (M0 : Mem) (p : Nat) (cv : V) (B : Int) (X : Mem) : Prop := M0 <+: X ∧ M0.length ≤ p ∧ ∃ at' seed : Int, X[p]? = some ⟨[cv, .int .i64 at', .int .i64 seed], 1, 2⟩ ∧ 0 ≤ at' ∧ at' ≤ B ∧ 0 ≤ seed ∧ seed ≤ 65520
theorem Cur.mono {M0 X : Mem} {p : Nat} {cv : V} {B B' : Int} (h : Cur M0 p cv B X) (hb : B ≤ B') : Cur M0 p cv B' X := by
  obtain ⟨h1, h2, a, s, h3, h4, h5, h6⟩ := h
  exact ⟨h1, h2, a, s, h3, h4, by omega, h6⟩
theorem Cur.lt {M0 X : Mem} {p : Nat} {cv : V} {B : Int} (h : Cur M0 p cv B X) : p < X.length := by
  obtain ⟨_, _, a, s, h3, _⟩ := h
  exact get_lt h3
theorem Cur.grow {M0 X X' : Mem} {p : Nat} {cv : V} {B : Int} (h : Cur M0 p cv B X) (hp : X <+: X') : Cur M0 p cv B X' := by
  obtain ⟨h1, h2, a, s, h3, h4⟩ := h
  exact ⟨h1.trans hp, h2, a, s, get_pre hp h3, h4⟩
def inI (x : Int) : Prop := -9223372036854775808 ≤ x ∧ x ≤ 9223372036854775807
theorem agree_set {X : Mem} {p : Nat} (b : Blk) : Agree X (X.set p b) [p] := ⟨by simp, fun j _ hn => gt_set (by simp at hn; omega)⟩
theorem ag_trans {X Y Z : Mem} {w : List Nat} (h : Agree X Y w) (h2 : Agree Y Z w) : Agree X Z w := ⟨Nat.le_trans h.1 h2.1, fun j hj hn => by rw [h2.2 j (Nat.lt_of_lt_of_le hj h.1) hn, h.2 j hj hn]⟩
/-- How the cursor is used: its code, and room enough. -/
structure CurH (M0 : Mem) (cv : V) : Prop where
  code : ∃ code : List UInt8, Rep (.sl ty_Byte) M0 [cv] code ∧ code.length ≤ 1048576
abbrev enc_Byte (x : ty_Byte.D) : List V := [byteV x]
theorem at_Byte {M : Mem} {a : Option Addr} {n c : Nat} {xs : List ty_Byte.D} (h : Rep (.sl ty_Byte) M [.slice a n c] xs) {i : Nat} (hi : i < xs.length) : ∃ l o, a = some ⟨l, o, none⟩ ∧ Rep ty_Byte M (enc_Byte xs[i]) xs[i] ∧ rd1 M l (o + i) = some (byteV xs[i]) := by
  obtain ⟨_, l, o, rfl, cs, hrd, hrep⟩ := rep_at h hi
  have hcs : cs = enc_Byte xs[i] := hrep
  subst hcs
  have hw1 : ty_Byte.w = 1 := rfl
  rw [hw1, Nat.mul_one] at hrd
  exact ⟨l, o, rfl, hrep, rd1_of_one hrd⟩
theorem rep_blk {t : Ty} {M : Mem} {l o n c : Nat} {xs : List t.D} (h : Rep (.sl t) M [.slice (some ⟨l, o, none⟩) n c] xs) : ∃ blk, M[l]? = some blk ∧ blk.w = t.w ∧ n = xs.length := by
  rcases h with ⟨h, _⟩ | ⟨l', o', c', blk, css, e, h2, h3, h4, h5, h6, h7⟩
  · simp at h
  · simp only [List.cons.injEq, Value.slice.injEq, Option.some.injEq, Addr.mk.injEq, and_true, true_and] at e
    obtain ⟨⟨rfl, rfl⟩, rfl, rfl⟩ := e
    exact ⟨blk, h2, h4, rfl⟩
theorem gc_np {M M' : Mem} {v : V} (h : ¬ M <+: M') : gc M (some (v, M')) = some (v, M') := by
  simp only [gc]
  rw [if_neg (fun q => h q.2)]
/-- What a draw leaves: a number, the cursor further on. -/
def CurI (M0 : Mem) (p : Nat) (cv : V) (B : Int) (P : Int → Prop) (X : Mem) (r : V × Mem) : Prop := ∃ x : Int, r.1 = .int .i64 x ∧ P x ∧ Cur M0 p cv B r.2 ∧ Agree X r.2 [p]
theorem ag_refl (X : Mem) (w : List Nat) : Agree X X w := ⟨Nat.le_refl _, fun _ _ _ => rfl⟩
theorem c_spec_l01Cur_pick (M0 X : Mem) (p : Nat) (cv : V) (code : List UInt8) (B n : Int) (hc : Rep (.sl ty_Byte) M0 [cv] code) (h : Cur M0 p cv B X) (hB : B ≤ 1000000000000) (hn : n ≤ 1000000000000) (hl : code.length ≤ 1048576) :
    Sat (aCall T0 F_spec_l01Cur_pick [.pointer (some ⟨p, 0, none⟩), .int .i64 n] X) (CurI M0 p cv (B + 1) (fun x => 0 ≤ x ∧ (x < n ∨ x = 0)) X) := by
  by_cases h2 : n < 2
  · rw [aCall_eq T_spec_l01Cur_pick]; unfold A_spec_l01Cur_pick C_spec_l01Cur_pick; simp [thenD_pp, sliceCells_sl, sliceCells_z, sliceCells_nil, take_full, appS_sl, appK_ok, appS_none, thenD_ag, agP_nil, agP_cons, h2]
    exact sat_some ⟨0, rfl, ⟨Int.le_refl _, .inr rfl⟩, h.mono (by omega), ag_refl _ _⟩
  obtain ⟨hp, hp0, a, s, hb, ha0, ha1, hs0, hs1⟩ := h
  have hcX := hc.mono hp
  obtain ⟨ca, cc, rfl⟩ := hc.slen
  have e1 : IntKind.i64.wrap (a + 1) = a + 1 := wrap_i64 (by omega) (by omega)
  have hn0 : n ≠ 0 := by omega
  have fin : ∀ x seed' : Int, 0 ≤ x → 0 ≤ seed' → seed' ≤ 65520 → ∀ Y : Mem, X[p]? = some ⟨[.slice ca code.length cc, .int .i64 a, .int .i64 s], 1, 2⟩ → Y = X.set p ⟨[.slice ca code.length cc, .int .i64 (a + 1), .int .i64 seed'], 1, 2⟩ → Sat (some ((.int .i64 (x.tmod n) : V), Y)) (CurI M0 p (.slice ca code.length cc) (B + 1) (fun x => 0 ≤ x ∧ (x < n ∨ x = 0)) X) := by
    intro x seed' hx h0 h1 Y hb hY
    subst hY
    have t1 := Int.tmod_nonneg n hx
    have t2 := Int.tmod_lt_of_pos x (show 0 < n by omega)
    refine sat_some ⟨_, rfl, ⟨t1, .inl t2⟩, ⟨pf_set hp0 hp, hp0, a + 1, seed', gs_of hb _, by omega, by omega, h0, h1⟩, agree_set _⟩
  have hnp : ∀ (v : V) (y : Int), gc X (some (v, X.set p ⟨[.slice ca code.length cc, .int .i64 (a + 1), .int .i64 y], 1, 2⟩)) = some (v, X.set p ⟨[.slice ca code.length cc, .int .i64 (a + 1), .int .i64 y], 1, 2⟩) := fun v y => gc_np fun hpre => by
    have := get_pre hpre hb
    rw [gs_of hb] at this
    simp at this
    omega
  have hby : ∀ b : UInt8, ∃ y : Int, byteV b = .int .u8 y ∧ 0 ≤ y ∧ y ≤ 255 ∧ IntKind.i64.wrap y = y := fun b => by
    have : b.toNat < 256 := b.toNat_lt
    exact ⟨b.toNat, rfl, by omega, by omega, wrap_i64 (by omega) (by omega)⟩
  by_cases hlt : a < code.length
  · obtain ⟨k, rfl⟩ := Int.eq_ofNat_of_zero_le ha0
    have hk : k < code.length := by omega
    obtain ⟨l, o, rfl, _, hrd⟩ := at_Byte hcX hk
    obtain ⟨y, hy, hy0, hy1, hy2⟩ := hby code[k]
    rw [hy] at hrd
    rw [aCall_eq T_spec_l01Cur_pick]; unfold A_spec_l01Cur_pick C_spec_l01Cur_pick; simp [thenD_pp, sliceCells_sl, sliceCells_z, sliceCells_nil, take_full, appS_sl, appK_ok, appS_none, thenD_ag, agP_nil, agP_cons, h2, hlt, hk, hb, gs_of hb, hrd, hy2, e1, hn0, hnp, rd1_K, rdJ_ok, wrn_K, wrJ_ok]
    exact fin y s hy0 hs0 hs1 _ hb rfl
  · have w1 : IntKind.i64.wrap (s * 1103) = s * 1103 := wrap_i64 (by omega) (by omega)
    have w2 : IntKind.i64.wrap (s * 1103 + 12345) = s * 1103 + 12345 := wrap_i64 (by omega) (by omega)
    obtain ⟨s', hs', hs2, hs3⟩ : ∃ s' : Int, (s * 1103 + 12345).tmod 65521 = s' ∧ 0 ≤ s' ∧ s' ≤ 65520 := ⟨_, rfl, Int.tmod_nonneg _ (by omega), by have := Int.tmod_lt_of_pos (s * 1103 + 12345) (show (0 : Int) < 65521 by decide); omega⟩
    have e2 : ∀ b : Blk, (X.set p b)[p]? = some b := fun b => gs_of hb b
    by_cases hl0 : 0 < code.length
    · obtain ⟨j, hj, hjl⟩ : ∃ j : Nat, a.tmod (code.length : Int) = j ∧ j < code.length := by
        have t1 := Int.tmod_nonneg (code.length : Int) ha0
        have t2 := Int.tmod_lt_of_pos a (show (0 : Int) < code.length by omega)
        obtain ⟨j, hj⟩ := Int.eq_ofNat_of_zero_le t1
        exact ⟨j, hj, by omega⟩
      obtain ⟨q, hq, hq0, hq1⟩ : ∃ q : Int, s'.tdiv 7 = q ∧ 0 ≤ q ∧ q ≤ 65520 := ⟨_, rfl, Int.tdiv_nonneg hs2 (by decide), by
        rw [Int.tdiv_eq_ediv_of_nonneg hs2]
        omega⟩
      have hln : (code.length : Int) ≠ 0 := by omega
      obtain ⟨l, o, rfl, _, hrd⟩ := at_Byte hcX hjl
      obtain ⟨y, hy, hy0, hy1, hy2⟩ := hby code[j]
      rw [hy] at hrd
      have hlp : l ≠ p := by
        obtain ⟨blk, hbk, _⟩ := rep_blk hc
        have := get_lt hbk
        omega
      have hrd2 : ∀ b : Blk, rd1 (X.set p b) l (o + j) = some (.int .u8 y) := fun b => by rw [rd1_K, gt_set (Ne.symm hlp), ← rd1_K]; exact hrd
      have hrem := binS_rem .i64 a (code.length : Int) hln
      rw [hj] at hrem
      have w5 : IntKind.i64.wrap q = q := wrap_i64 (by omega) (by omega)
      have w3 : IntKind.i64.wrap (q + y) = q + y := wrap_i64 (by omega) (by omega)
      rw [aCall_eq T_spec_l01Cur_pick]; unfold A_spec_l01Cur_pick C_spec_l01Cur_pick; simp [thenD_pp, sliceCells_sl, sliceCells_z, sliceCells_nil, take_full, appS_sl, appK_ok, appS_none, thenD_ag, agP_nil, agP_cons, h2, hlt, hb, e2, w1, w2, hs', hq, hrem, hjl, hrd2, hy2, w5, w3, e1, hl0, hln, hn0, hnp, rd1_K, rdJ_ok, wrn_K, wrJ_ok]
      exact fin (q + y) s' (by omega) hs2 hs3 _ hb rfl
    · rw [aCall_eq T_spec_l01Cur_pick]; unfold A_spec_l01Cur_pick C_spec_l01Cur_pick; simp [thenD_pp, sliceCells_sl, sliceCells_z, sliceCells_nil, take_full, appS_sl, appK_ok, appS_none, thenD_ag, agP_nil, agP_cons, h2, hlt, hb, e2, w1, w2, hs', e1, hl0, hn0, hnp, rd1_K, rdJ_ok, wrn_K, wrJ_ok]
      have := fin 0 s' (by omega) hs2 hs3 _ hb rfl
      rw [Int.zero_tmod] at this
      exact this
theorem p_pick {M0 X : Mem} {p : Nat} {cv : V} {B n : Int} (hc : CurH M0 cv) (h : Cur M0 p cv B X) (hB : B ≤ 1000000000000) (hn : n ≤ 1000000000000) {x : Option (V × Mem)} (hx : aCall T0 F_spec_l01Cur_pick [.pointer (some ⟨p, 0, none⟩), .int .i64 n] X = x) :
    ∃ (y : Int) (X' : Mem), x = some (.int .i64 y, X') ∧ 0 ≤ y ∧ (y < n ∨ y = 0) ∧ Cur M0 p cv (B + 1) X' ∧ Agree X X' [p] := by
  obtain ⟨code, hr, hl⟩ := hc.code
  obtain ⟨v, X', rfl, y, e, hy, h1, h2⟩ := of_call hx (c_spec_l01Cur_pick M0 X p cv code B n hr h hB hn hl)
  simp only at e h1 h2
  subst e
  exact ⟨y, X', rfl, hy.1, hy.2, h1, h2⟩
theorem int_get (xs : List Int) (cells : List V) (he : cells = xs.map (fun x => (.int .i64 x : V))) {k : Nat} (hk : k < xs.length) : cells[k]? = some (.int .i64 xs[k]) := by
  subst he
  simp [hk]
theorem agree_app {X : Mem} {N : Mem} {w : List Nat} : Agree X (X ++ N) w := ⟨by simp, fun j hj _ => List.getElem?_append_left hj⟩
theorem gc_sat {X X' : Mem} {v : V} {P : V × Mem → Prop} (h1 : P (v, X)) (h2 : P (v, X')) : Sat (gc X (some (v, X'))) P := by
  unfold gc
  simp only
  split
  · exact sat_some h1
  · exact sat_some h2
theorem cur_end {M0 X X' : Mem} {p : Nat} {cv : V} {B B' : Int} {P : Int → Prop} {x : Int} (h : Cur M0 p cv B X) (hB : B ≤ B') (hx : P x) (h2 : Cur M0 p cv B' X') (a : Agree X X' [p]) : Sat (gc X (some (.int .i64 x, X'))) (CurI M0 p cv B' P X) :=
  gc_sat ⟨x, rfl, hx, h.mono hB, ag_refl _ _⟩ ⟨x, rfl, hx, h2, a⟩
theorem c_spec_l01Cur_raw (M0 X : Mem) (p : Nat) (cv : V) (B : Int) (hc : CurH M0 cv) (h : Cur M0 p cv B X) (hB : B ≤ 900000000000) :
    Sat (aCall T0 F_spec_l01Cur_raw [.pointer (some ⟨p, 0, none⟩)] X) (CurI M0 p cv (B + 2) inI X) := by
  rw [aCall_eq T_spec_l01Cur_raw]; unfold A_spec_l01Cur_raw C_spec_l01Cur_raw; simp [thenD_pp, sliceCells_sl, sliceCells_z, sliceCells_nil, take_full, appS_sl, appK_ok, appS_none, thenD_ag, agP_nil, agP_cons]
  generalize hx : aCall T0 F_spec_l01Cur_pick _ _ = xhx
  obtain ⟨y, X1, rfl, y0, y1, c1, a1⟩ := p_pick hc h (by omega) (by decide) hx
  clear hx
  by_cases h0 : y = 0
  · simp [thenD_pp, sliceCells_sl, sliceCells_z, sliceCells_nil, take_full, appS_sl, appK_ok, appS_none, thenD_ag, agP_nil, agP_cons, h0]
    generalize hx : aCall T0 F_spec_l01Cur_pick _ _ = xhx
    obtain ⟨z, X2, rfl, z0, z1, c2, a2⟩ := p_pick hc c1 (by omega) (by decide) hx
    clear hx
    have w : IntKind.i64.wrap (z - 128) = z - 128 := wrap_i64 (by omega) (by omega)
    simp [thenD_pp, sliceCells_sl, sliceCells_z, sliceCells_nil, take_full, appS_sl, appK_ok, appS_none, thenD_ag, agP_nil, agP_cons, w]
    exact cur_end h (by omega) (by unfold inI; omega) (c2.mono (by omega)) (ag_trans a1 a2)
  by_cases h1 : y = 1
  · simp [thenD_pp, sliceCells_sl, sliceCells_z, sliceCells_nil, take_full, appS_sl, appK_ok, appS_none, thenD_ag, agP_nil, agP_cons, h0, h1]
    generalize hx : aCall T0 F_spec_l01Cur_pick _ _ = xhx
    obtain ⟨z, X2, rfl, z0, z1, c2, a2⟩ := p_pick hc (c1.grow (List.prefix_append _ _)) (by omega) (by decide) hx
    clear hx
    obtain ⟨k, rfl⟩ := Int.eq_ofNat_of_zero_le z0
    have hk : k < 8 := by omega
    have hki : (k : Int) < 8 := by omega
    have hpl := c1.lt
    have b2 := a2.get (i := X1.length) (b := ⟨[.int .i64 9223372036854775807, .int .i64 (-9223372036854775808), .int .i64 4611686018427387904, .int .i64 65535, .int .i64 65536, .int .i64 (-1000), .int .i64 2147483648, .int .i64 4294967296], 1, 2⟩) (by simp) (by simp; omega)
    have g := int_get [9223372036854775807, -9223372036854775808, 4611686018427387904, 65535, 65536, -1000, 2147483648, 4294967296] _ rfl (k := k) hk
    simp only [List.map_cons, List.map_nil] at g
    have hin : ∀ x ∈ [9223372036854775807, -9223372036854775808, 4611686018427387904, 65535, 65536, -1000, 2147483648, (4294967296 : Int)], inI x := by
      intro x hx
      unfold inI
      simp only [List.mem_cons, List.not_mem_nil, or_false] at hx
      omega
    have hin2 := hin ([9223372036854775807, -9223372036854775808, 4611686018427387904, 65535, 65536, -1000, 2147483648, (4294967296 : Int)][k]'hk) (List.getElem_mem _)
    generalize ([9223372036854775807, -9223372036854775808, 4611686018427387904, 65535, 65536, -1000, 2147483648, (4294967296 : Int)])[k] = r at g hin2
    simp [thenD_pp, sliceCells_sl, sliceCells_z, sliceCells_nil, take_full, appS_sl, appK_ok, appS_none, thenD_ag, agP_nil, agP_cons, hki, b2, rd1_K, rdJ_ok, g]
    exact cur_end h (by omega) hin2 (c2.mono (by omega)) (ag_trans a1 (ag_trans agree_app a2))
  · simp [thenD_pp, sliceCells_sl, sliceCells_z, sliceCells_nil, take_full, appS_sl, appK_ok, appS_none, thenD_ag, agP_nil, agP_cons, h0, h1]
    generalize hx : aCall T0 F_spec_l01Cur_pick _ _ = xhx
    obtain ⟨z, X2, rfl, z0, z1, c2, a2⟩ := p_pick hc c1 (by omega) (by decide) hx
    clear hx
    have w : IntKind.i64.wrap (z - 3) = z - 3 := wrap_i64 (by omega) (by omega)
    simp [thenD_pp, sliceCells_sl, sliceCells_z, sliceCells_nil, take_full, appS_sl, appK_ok, appS_none, thenD_ag, agP_nil, agP_cons, w]
    exact cur_end h (by omega) (by unfold inI; omega) (c2.mono (by omega)) (ag_trans a1 a2)
theorem p_raw {M0 X : Mem} {p : Nat} {cv : V} {B : Int} (hc : CurH M0 cv) (h : Cur M0 p cv B X) (hB : B ≤ 900000000000) {x : Option (V × Mem)} (hx : aCall T0 F_spec_l01Cur_raw [.pointer (some ⟨p, 0, none⟩)] X = x) :
    ∃ (y : Int) (X' : Mem), x = some (.int .i64 y, X') ∧ inI y ∧ Cur M0 p cv (B + 2) X' ∧ Agree X X' [p] := by
  obtain ⟨v, X', rfl, y, e, hy, h1, h2⟩ := of_call hx (c_spec_l01Cur_raw M0 X p cv B hc h hB)
  simp only at e h1 h2
  subst e
  exact ⟨y, X', rfl, hy, h1, h2⟩
theorem cur_open {M : Mem} {cv : V} {k : Int} (h0 : 0 ≤ k) (h1 : k ≤ 65520) : Cur M M.length cv 0 (M ++ [⟨[cv, .int .i64 0, .int .i64 k], 1, 2⟩]) := ⟨List.prefix_append _ _, Nat.le_refl _, 0, k, by simp, Int.le_refl _, Int.le_refl _, h0, h1⟩
theorem c_spec_l01Open (M : Mem) (cv : V) (code : List UInt8) (h : Rep (.sl ty_Byte) M [cv] code) : ∃ k : Int, 0 ≤ k ∧ k ≤ 65520 ∧ aCall T0 F_spec_l01Open [cv] M = some (.pointer (some ⟨M.length, 0, none⟩), M ++ [⟨[cv, .int .i64 0, .int .i64 k], 1, 2⟩]) := by
  obtain ⟨a, c, rfl⟩ := h.slen
  obtain ⟨r, hr⟩ : ∃ r : Int, r = ((code.length : Int).tmod 1000) := ⟨_, rfl⟩
  have r0 : 0 ≤ r := by rw [hr]; exact Int.tmod_nonneg _ (by omega)
  have r1 : r < 1000 := by rw [hr]; exact Int.tmod_lt_of_pos _ (by decide)
  have w : IntKind.i64.wrap (59 + r) = 59 + r := wrap_i64 (by omega) (by omega)
  refine ⟨59 + r, by omega, by omega, ?_⟩
  have hrem := binS_rem .i64 (code.length : Int) 1000 (by decide)
  rw [← hr] at hrem
  rw [aCall_eq T_spec_l01Open]; unfold A_spec_l01Open C_spec_l01Open; simp [thenD_pp, sliceCells_sl, sliceCells_z, sliceCells_nil, take_full, appS_sl, appK_ok, appS_none, thenD_ag, agP_nil, agP_cons, hrem, w]
  exact gc_not rfl
/-- A drawn entry. -/
def entI (e : ty_Entry.D) : Prop := List.length (α := UInt8) e.1 ≤ 200 ∧ inI e.2
theorem toBytes_map : ∀ ys : List UInt8, toBytes (ys.map byteV) = some ys
  | [] => rfl
  | y :: ys => by
    simp [toBytes, byteV, toBytes_map ys]
/-- The list while it grows: so many elements. -/
def CurE (t : Ty) (M0 : Mem) (p : Nat) (cv : V) (B : Int) (X : Mem) (i : Nat) (v : V) (X' : Mem) : Prop := ∃ (xs : List t.D) (L : List Nat), Gr (.sl t) X' [v] xs L ∧ L.Nodup ∧ (∀ l ∈ L, X.length ≤ l) ∧ xs.length = i ∧ Cur M0 p cv B X' ∧ Agree X X' [p]
/-- A drawn list: fresh blocks of its own. -/
def CurV (t : Ty) (M0 : Mem) (p : Nat) (cv : V) (B : Int) (X : Mem) (N : Nat) (v : V) (X' : Mem) : Prop := ∃ (xs : List t.D) (L : List Nat), Gr (.sl t) X' [v] xs L ∧ L.Nodup ∧ (∀ l ∈ L, X.length ≤ l) ∧ xs.length ≤ N ∧ Cur M0 p cv B X' ∧ Agree X X' [p]
theorem CurV.e {t : Ty} {M0 X X' : Mem} {p N : Nat} {cv v : V} {B : Int} (h : CurV t M0 p cv B X N v X') : ∃ i a, i ≤ N ∧ v = .slice a i i ∧ CurE t M0 p cv B X i v X' := by
  obtain ⟨xs, L, g, nd, hf, hn, c, ag⟩ := h
  obtain ⟨a, rfl⟩ := g.shape
  exact ⟨xs.length, a, hn, rfl, xs, L, g, nd, hf, rfl, c, ag⟩
theorem CurE.v {t : Ty} {M0 X X' : Mem} {p i N : Nat} {cv v : V} {B B' : Int} (h : CurE t M0 p cv B X i v X') (hN : i ≤ N) (hB : B ≤ B') : CurV t M0 p cv B' X N v X' := by
  obtain ⟨xs, L, g, nd, hf, hn, c, a⟩ := h
  exact ⟨xs, L, g, nd, hf, by omega, c.mono hB, a⟩
theorem CurE.mono {t : Ty} {M0 X X' : Mem} {p i : Nat} {cv v : V} {B B' : Int} (h : CurE t M0 p cv B X i v X') (hB : B ≤ B') : CurE t M0 p cv B' X i v X' := by
  obtain ⟨xs, L, g, nd, hf, hn, c, a⟩ := h
  exact ⟨xs, L, g, nd, hf, hn, c.mono hB, a⟩
theorem CurE.c {t : Ty} {M0 X X' : Mem} {p i : Nat} {cv v : V} {B : Int} (h : CurE t M0 p cv B X i v X') : Cur M0 p cv B X' := by
  obtain ⟨xs, L, g, nd, hf, hn, c, ag⟩ := h
  exact c
/-- A drawn list of so many, to be read. -/
def RepN (t : Ty) (X : Mem) (v : V) (i : Nat) : Prop := ∃ xs : List t.D, Rep (.sl t) X [v] xs ∧ xs.length = i
theorem CurE.rep {t : Ty} {M0 X X' : Mem} {p i : Nat} {cv v : V} {B : Int} (h : CurE t M0 p cv B X i v X') : RepN t X' v i := by
  obtain ⟨xs, L, g, nd, hf, hn, c, ag⟩ := h
  exact ⟨xs, g.rep, hn⟩
theorem CurE.ag {t : Ty} {M0 X X' : Mem} {p i : Nat} {cv v : V} {B : Int} (h : CurE t M0 p cv B X i v X') : Agree X X' [p] := by
  obtain ⟨xs, L, g, nd, hf, hn, c, ag⟩ := h
  exact ag
theorem cure_nil {t : Ty} {M0 X : Mem} {p : Nat} {cv : V} {B : Int} {w : Nat} (hw : t.w = w) (h : Cur M0 p cv B X) : CurE t M0 p cv B X 0 (.slice (some ⟨X.length, 0, none⟩) 0 0) (X ++ [⟨[], w, 2⟩]) := by
  subst hw
  refine ⟨[], [X.length], .inr ⟨X.length, [], [], rfl, by simp, rfl, rfl, fun i ds x K hd => by simp at hd, by simp⟩, by simp, by simp, rfl, h.grow (List.prefix_append _ _), agree_app⟩
def CurW (M0 : Mem) (p : Nat) (cv : V) (B : Int) (N : Nat) (X : Mem) (r : V × Mem) : Prop := ∃ w : List UInt8, r.1 = strV w ∧ w.length ≤ N ∧ Cur M0 p cv B r.2 ∧ Agree X r.2 [p]
theorem flat_Byte (xs : List ty_Byte.D) : (xs.map enc_Byte).flatten = xs.map byteV := by
  induction xs with
  | nil => rfl
  | cons x xs ih => simp [ih]
theorem fl_Byte : FlatE .u8 enc_Byte (fun _ => True) := ⟨fun M x _ => ⟨rfl, rfl⟩, fun M cs x h => ⟨h, trivial⟩⟩
theorem cell_bytes {M : Mem} {v : V} {ys : List UInt8} (h : Rep (.sl ty_Byte) M [v] ys) : sliceCells M 1 v = some (ys.length, ys.map byteV) := by
  obtain ⟨_, hc, _⟩ := rep_cellsF fl_Byte h
  rw [flat_Byte] at hc
  exact hc
theorem cure_app {t : Ty} {M0 X Y Z : Mem} {p i bytes : Nat} {cv v : V} {B B' : Int} (h : CurE t M0 p cv B X i v Y) (hc : Cur M0 p cv B' Z) (ha : Agree Y Z [p]) (hpX : p < X.length) (hi : (i + 1) * bytes ≤ 140737488355328) (hi2 : i + 1 ≤ 9223372036854775807) {N : Mem} {ds : List V} {y : t.D} (hy : Gr t (Z ++ N) ds y []) {x : Option (V × Mem)} (hx : appS (Z ++ N) t.w bytes v 1 ds = x) :
    ∃ (l : Nat) (X3 : Mem), x = some (.slice (some ⟨l, 0, none⟩) (i + 1) (i + 1), X3) ∧ CurE t M0 p cv B' X (i + 1) (.slice (some ⟨l, 0, none⟩) (i + 1) (i + 1)) X3 := by
  obtain ⟨xs, L, g, nd, hf, hn, _, hag⟩ := h
  subst hn
  have hpL : p ∉ L := fun hm => by have := hf p hm; omega
  have gZ := g.agree ha (fun l hl e => by simp at e; exact hpL (e ▸ hl))
  have hpN := List.prefix_append Z N
  obtain ⟨l, X3, L', rfl, g3, ag3, len3, hw3, nd3, sub3, hl3⟩ := gZ.app hx hpN hy (by simp) nd (by simp) hi hi2
  have hag2 : Agree Y Z [p] := ha
  have hYl : Y.length ≤ Z.length := ha.1
  have hXl : X.length ≤ Y.length := hag.1
  have hpw : p ∉ wfs v := fun hm => hpL (hw3 _ hm)
  refine ⟨l, X3, rfl, xs ++ [y], L', g3, nd3, fun j hj => ?_, by simp, ?_, ?_⟩
  · rcases sub3 j hj with h | h | h
    · exact hf j h
    · simp at h
    · simp at hl3; omega
  · obtain ⟨c1, c2, a', s', c3, c4⟩ := hc
    refine ⟨?_, c2, a', s', ag3.get (get_pre hpN c3) hpw, c4⟩
    exact ag3.pre (c1.trans hpN) (fun b hb => by have := hf b (hw3 b hb); omega)
  · refine ⟨by have := ag3.1; simp at this; omega, fun j hj hn => ?_⟩
    rw [ag3.2 j (by simp; omega) (fun hm => by have := hf j (hw3 j hm); omega), List.getElem?_append_left (by omega), ha.2 j (by omega) hn]
    exact hag.2 j hj hn
theorem cure_agree {t : Ty} {M0 X Y Z : Mem} {p i : Nat} {cv v : V} {B B' : Int} (h : CurE t M0 p cv B X i v Y) (hc : Cur M0 p cv B' Z) (ha : Agree Y Z [p]) (hpX : p < X.length) : CurE t M0 p cv B' X i v Z := by
  obtain ⟨xs, L, g, nd, hf, hn, _, hag⟩ := h
  have hpL : p ∉ L := fun hm => by have := hf p hm; omega
  exact ⟨xs, L, g.agree ha (fun l hl e => by simp at e; exact hpL (e ▸ hl)), nd, hf, hn, hc, ag_trans hag ha⟩
theorem gr_u8 (M : Mem) (b : UInt8) : Gr (.u8) M [byteV b] b [] := ⟨rfl, rfl⟩
theorem l_spec_l01Cur_word_0 (M0 X : Mem) (p : Nat) (cv : V) (B : Int) (n : Int) (hc : CurH M0 cv) (hB : B ≤ 700000000000) (hn : n ≤ 100) (hpX : p < X.length) (v0 : V) (Z : Mem) (h0 : CurE .u8 M0 p cv B X 0 v0 Z) : ∀ K : Nat, (K : Int) ≤ n →
    ∃ v' X', CurE .u8 M0 p cv (B + 2 * K) X K v' X' ∧ lp (aCall T0) K_spec_l01Cur_word_0 L_spec_l01Cur_word_0 [.pointer (some ⟨p, 0, none⟩), und, und, .int .i64 n, v0, und, und, und, und, und, und, und, und, und, und, und, und, und, und, und, und, und, und, und, und, und, und, und, und, und, und, und] Z = lp (aCall T0) K_spec_l01Cur_word_0 L_spec_l01Cur_word_0 [.pointer (some ⟨p, 0, none⟩), und, und, .int .i64 n, v', und, und, und, und, und, und, und, und, und, und, und, und, und, und, und, und, und, und, und, und, und, und, und, und, und, und, und] X'
  | 0, _ => ⟨v0, Z, by simpa using h0, rfl⟩
  | i + 1, hi => by
    obtain ⟨v, Y, hY, e⟩ := l_spec_l01Cur_word_0 M0 X p cv B n hc hB hn hpX v0 Z h0 i (by omega)
    have hcur : Cur M0 p cv (B + 2 * i) Y := CurE.c hY
    obtain ⟨a, rfl⟩ : ∃ a, v = .slice a i i := by
      obtain ⟨xs, L, g, nd, hf, hn, _⟩ := id hY
      obtain ⟨a, rfl⟩ := g.shape
      exact ⟨a, by rw [hn]⟩
    have hin : (i : Int) < n := by omega
    rw [e]
    rw [S_spec_l01Cur_word_0]; unfold B_spec_l01Cur_word_0; simp [thenD_pp, sliceCells_sl, sliceCells_z, sliceCells_nil, take_full, appS_sl, appK_ok, appS_none, thenD_ag, agP_nil, agP_cons, hin]
    generalize hx : aCall T0 F_spec_l01Cur_pick _ _ = xhx
    obtain ⟨u, X1, rfl, u0, u1, c1, a1⟩ := p_pick hc (hcur.grow (List.prefix_append _ _)) (by omega) (by decide) hx
    clear hx
    obtain ⟨k, rfl⟩ := Int.eq_ofNat_of_zero_le u0
    have hk : k < 3 := by omega
    have hki : (k : Int) < 3 := by omega
    have hpl := hcur.lt
    have b2 := a1.get (i := Y.length) (b := ⟨[.int .i64 2, .int .i64 3, .int .i64 26], 1, 2⟩) (by simp) (by simp; omega)
    have g := int_get [2, 3, 26] _ rfl (k := k) hk
    simp only [List.map_cons, List.map_nil] at g
    have hin2 : ∀ x ∈ [2, 3, (26 : Int)], 2 ≤ x ∧ x ≤ 26 := by
      intro x hx
      simp only [List.mem_cons, List.not_mem_nil, or_false] at hx
      omega
    have hin3 := hin2 ([2, 3, (26 : Int)][k]'hk) (List.getElem_mem _)
    generalize ([2, 3, (26 : Int)])[k]'hk = r at g hin3
    simp [thenD_pp, sliceCells_sl, sliceCells_z, sliceCells_nil, take_full, appS_sl, appK_ok, appS_none, thenD_ag, agP_nil, agP_cons, hki, b2, rd1_K, rdJ_ok, g]
    generalize hx : aCall T0 F_spec_l01Cur_pick _ _ = xhx
    obtain ⟨z, X2, rfl, z0, z1, c2, a2⟩ := p_pick (n := r) hc c1 (by omega) (by omega) hx
    clear hx
    have w1 : IntKind.i64.wrap (97 + z) = 97 + z := wrap_i64 (by omega) (by omega)
    obtain ⟨d, rfl⟩ := Int.eq_ofNat_of_zero_le z0
    have hd : 97 + d < 256 := by omega
    have w2 : IntKind.u8.wrap (97 + (d : Int)) = ((UInt8.ofNat (97 + d)).toNat : Nat) := by
      have : (UInt8.ofNat (97 + d)).toNat = 97 + d := by simp; omega
      rw [this, wrap_u8 (by omega) (by omega)]
      omega
    generalize hb8 : UInt8.ofNat (97 + d) = b8 at w2
    simp [thenD_pp, sliceCells_sl, sliceCells_z, sliceCells_nil, take_full, appS_sl, appK_ok, appS_none, thenD_ag, agP_nil, agP_cons, w1, w2]
    generalize hy : appS _ _ _ _ _ _ = xhy
    obtain ⟨l, X3, rfl, h3⟩ := cure_app (bytes := 1) (cure_agree hY (hcur.grow (List.prefix_append Y [(⟨[.int .i64 2, .int .i64 3, .int .i64 26], 1, 2⟩ : Blk)])) agree_app hpX) c2 (ag_trans a1 a2) hpX (by omega) (by omega) (gr_u8 _ b8) hy
    simp [thenD_pp, sliceCells_sl, sliceCells_z, sliceCells_nil, take_full, appS_sl, appK_ok, appS_none, thenD_ag, agP_nil, agP_cons]
    exact ⟨_, X3, CurE.mono h3 (by omega), rfl⟩
theorem c_spec_l01Cur_word (M0 X : Mem) (p : Nat) (cv : V) (B : Int) (hc : CurH M0 cv) (h : Cur M0 p cv B X) (hB : B ≤ 600000000000) :
    Sat (aCall T0 F_spec_l01Cur_word [.pointer (some ⟨p, 0, none⟩)] X) (CurW M0 p cv (B + 100) 33 X) := by
  rw [aCall_eq T_spec_l01Cur_word]; unfold A_spec_l01Cur_word C_spec_l01Cur_word; simp [thenD_pp, sliceCells_sl, sliceCells_z, sliceCells_nil, take_full, appS_sl, appK_ok, appS_none, thenD_ag, agP_nil, agP_cons]
  generalize hx : aCall T0 F_spec_l01Cur_pick _ _ = xhx
  obtain ⟨u, X1, rfl, u0, u1, c1, a1⟩ := p_pick hc (h.grow (List.prefix_append _ _)) (by omega) (by decide) hx
  clear hx
  obtain ⟨k, rfl⟩ := Int.eq_ofNat_of_zero_le u0
  have hk : k < 4 := by omega
  have hki : (k : Int) < 4 := by omega
  have hpl := h.lt
  have b2 := a1.get (i := X.length) (b := ⟨[.int .i64 3, .int .i64 5, .int .i64 8, .int .i64 32], 1, 2⟩) (by simp) (by simp; omega)
  have g := int_get [3, 5, 8, 32] _ rfl (k := k) hk
  simp only [List.map_cons, List.map_nil] at g
  have hin2 : ∀ x ∈ [3, 5, 8, (32 : Int)], 2 ≤ x ∧ x ≤ 32 := by
    intro x hx
    simp only [List.mem_cons, List.not_mem_nil, or_false] at hx
    omega
  have hin3 := hin2 ([3, 5, 8, (32 : Int)][k]'hk) (List.getElem_mem _)
  generalize ([3, 5, 8, (32 : Int)])[k]'hk = r at g hin3
  simp [thenD_pp, sliceCells_sl, sliceCells_z, sliceCells_nil, take_full, appS_sl, appK_ok, appS_none, thenD_ag, agP_nil, agP_cons, hki, b2, rd1_K, rdJ_ok, g]
  generalize hx : aCall T0 F_spec_l01Cur_pick _ _ = xhx
  obtain ⟨z, X2, rfl, z0, z1, c2, a2⟩ := p_pick (n := r) hc c1 (by omega) (by omega) hx
  clear hx
  obtain ⟨n, hn⟩ : ∃ n : Nat, (n : Int) = 1 + z := ⟨(1 + z).toNat, by omega⟩
  have w1 : IntKind.i64.wrap (1 + z) = n := by rw [hn]; exact wrap_i64 (by omega) (by omega)
  have aX : Agree X X2 [p] := ag_trans agree_app (ag_trans a1 a2)
  obtain ⟨v', X', hE, e⟩ := l_spec_l01Cur_word_0 M0 X2 p cv (B + 1 + 1) n hc (by omega) (by omega) c2.lt _ _ (cure_nil (t := .u8) (w := 1) rfl c2) n (by omega)
  obtain ⟨a, rfl⟩ : ∃ a, v' = .slice a n n := by
    obtain ⟨xs, L, g, nd, hf, hn, _⟩ := id hE
    obtain ⟨a, rfl⟩ := g.shape
    exact ⟨a, by rw [hn]⟩
  obtain ⟨ys, hr, hl⟩ : ∃ ys : List UInt8, Rep (.sl ty_Byte) X' [.slice a n n] ys ∧ ys.length = n := CurE.rep hE
  have hcb := cell_bytes hr
  have hend : ¬ n < n := by omega
  simp [thenD_pp, sliceCells_sl, sliceCells_z, sliceCells_nil, take_full, appS_sl, appK_ok, appS_none, thenD_ag, agP_nil, agP_cons, w1, zeroCells, e]
  rw [S_spec_l01Cur_word_0]; unfold B_spec_l01Cur_word_0; simp [thenD_pp, sliceCells_sl, sliceCells_z, sliceCells_nil, take_full, appS_sl, appK_ok, appS_none, thenD_ag, agP_nil, agP_cons, hend]
  simp [thenD_pp, sliceCells_sl, sliceCells_z, sliceCells_nil, take_full, appS_sl, appK_ok, appS_none, thenD_ag, agP_nil, agP_cons, hcb, toBytes_map]
  have hB' : CurE .u8 M0 p cv (B + 100) X2 n (.slice a n n) X' := CurE.mono hE (by omega)
  exact gc_sat ⟨ys, rfl, by omega, h.mono (by omega), ag_refl _ _⟩ ⟨ys, rfl, by omega, CurE.c hB', ag_trans aX (CurE.ag hE)⟩
theorem p_word {M0 X : Mem} {p : Nat} {cv : V} {B : Int} (hc : CurH M0 cv) (h : Cur M0 p cv B X) (hB : B ≤ 600000000000) {x : Option (V × Mem)} (hx : aCall T0 F_spec_l01Cur_word [.pointer (some ⟨p, 0, none⟩)] X = x) :
    ∃ (w : List UInt8) (X' : Mem), x = some (strV w, X') ∧ w.length ≤ 33 ∧ Cur M0 p cv (B + 100) X' ∧ Agree X X' [p] := by
  obtain ⟨v, X', rfl, w, e, hw, h1, h2⟩ := of_call hx (c_spec_l01Cur_word M0 X p cv B hc h hB)
  simp only at e h1 h2
  subst e
  exact ⟨w, X', rfl, hw, h1, h2⟩
theorem c_spec_l01Cur_wide (M0 X : Mem) (p : Nat) (cv : V) (B n : Int) (hc : CurH M0 cv) (h : Cur M0 p cv B X) (hB : B ≤ 800000000000) (hn : 0 < n) :
    Sat (aCall T0 F_spec_l01Cur_wide [.pointer (some ⟨p, 0, none⟩), .int .i64 n] X) (CurI M0 p cv (B + 3) (fun x => 0 ≤ x ∧ x < n) X) := by
  rw [aCall_eq T_spec_l01Cur_wide]; unfold A_spec_l01Cur_wide C_spec_l01Cur_wide; simp [thenD_pp, sliceCells_sl, sliceCells_z, sliceCells_nil, take_full, appS_sl, appK_ok, appS_none, thenD_ag, agP_nil, agP_cons]
  generalize hx : aCall T0 F_spec_l01Cur_pick _ _ = xhx
  obtain ⟨y, X1, rfl, y0, y1, c1, a1⟩ := p_pick hc h (by omega) (by decide) hx
  clear hx
  have w1 : IntKind.i64.wrap (65536 * y) = 65536 * y := wrap_i64 (by omega) (by omega)
  simp [thenD_pp, sliceCells_sl, sliceCells_z, sliceCells_nil, take_full, appS_sl, appK_ok, appS_none, thenD_ag, agP_nil, agP_cons, w1]
  generalize hx : aCall T0 F_spec_l01Cur_pick _ _ = xhx
  obtain ⟨z, X2, rfl, z0, z1, c2, a2⟩ := p_pick hc c1 (by omega) (by decide) hx
  clear hx
  have w2 : IntKind.i64.wrap (256 * z) = 256 * z := wrap_i64 (by omega) (by omega)
  have w3 : IntKind.i64.wrap (65536 * y + 256 * z) = 65536 * y + 256 * z := wrap_i64 (by omega) (by omega)
  simp [thenD_pp, sliceCells_sl, sliceCells_z, sliceCells_nil, take_full, appS_sl, appK_ok, appS_none, thenD_ag, agP_nil, agP_cons, w2, w3]
  generalize hx : aCall T0 F_spec_l01Cur_pick _ _ = xhx
  obtain ⟨s, X3, rfl, s0, s1, c3, a3⟩ := p_pick hc c2 (by omega) (by decide) hx
  clear hx
  have w4 : IntKind.i64.wrap (65536 * y + 256 * z + s) = 65536 * y + 256 * z + s := wrap_i64 (by omega) (by omega)
  have hn0 : n ≠ 0 := by omega
  simp [thenD_pp, sliceCells_sl, sliceCells_z, sliceCells_nil, take_full, appS_sl, appK_ok, appS_none, thenD_ag, agP_nil, agP_cons, w4, hn0]
  exact cur_end h (by omega) ⟨Int.tmod_nonneg _ (by omega), Int.tmod_lt_of_pos _ hn⟩ (c3.mono (by omega)) (ag_trans a1 (ag_trans a2 a3))
theorem p_wide {M0 X : Mem} {p : Nat} {cv : V} {B n : Int} (hc : CurH M0 cv) (h : Cur M0 p cv B X) (hB : B ≤ 800000000000) (hn : 0 < n) {x : Option (V × Mem)} (hx : aCall T0 F_spec_l01Cur_wide [.pointer (some ⟨p, 0, none⟩), .int .i64 n] X = x) :
    ∃ (y : Int) (X' : Mem), x = some (.int .i64 y, X') ∧ 0 ≤ y ∧ y < n ∧ Cur M0 p cv (B + 3) X' ∧ Agree X X' [p] := by
  obtain ⟨v, X', rfl, y, e, hy, h1, h2⟩ := of_call hx (c_spec_l01Cur_wide M0 X p cv B n hc h hB hn)
  simp only at e h1 h2
  subst e
  exact ⟨y, X', rfl, hy.1, hy.2, h1, h2⟩
def CurEn (M0 : Mem) (p : Nat) (cv : V) (B : Int) (X : Mem) (r : V × Mem) : Prop := ∃ e : ty_Entry.D, r.1 = .agg (enc_Entry e).toArray ∧ entI e ∧ Cur M0 p cv B r.2 ∧ Agree X r.2 [p]
theorem c_spec_l01Cur_entry (M0 X : Mem) (p : Nat) (cv : V) (B : Int) (hc : CurH M0 cv) (h : Cur M0 p cv B X) (hB : B ≤ 500000000000) :
    Sat (aCall T0 F_spec_l01Cur_entry [.pointer (some ⟨p, 0, none⟩)] X) (CurEn M0 p cv (B + 200) X) := by
  rw [aCall_eq T_spec_l01Cur_entry]; unfold A_spec_l01Cur_entry C_spec_l01Cur_entry; simp [thenD_pp, sliceCells_sl, sliceCells_z, sliceCells_nil, take_full, appS_sl, appK_ok, appS_none, thenD_ag, agP_nil, agP_cons]
  generalize hx : aCall T0 F_spec_l01Cur_word _ _ = xhx
  obtain ⟨w, X1, rfl, hw, c1, a1⟩ := p_word hc (h.grow (List.prefix_append _ _)) (by omega) hx
  clear hx
  simp [thenD_pp, sliceCells_sl, sliceCells_z, sliceCells_nil, take_full, appS_sl, appK_ok, appS_none, thenD_ag, agP_nil, agP_cons]
  generalize hx : aCall T0 F_spec_l01Cur_pick _ _ = xhx
  obtain ⟨y, X2, rfl, y0, y1, c2, a2⟩ := p_pick hc c1 (by omega) (by decide) hx
  clear hx
  simp [thenD_pp, sliceCells_sl, sliceCells_z, sliceCells_nil, take_full, appS_sl, appK_ok, appS_none, thenD_ag, agP_nil, agP_cons]
  generalize hx : aCall T0 F_spec_l01Cur_wide _ _ = xhx
  obtain ⟨z, X3, rfl, z0, z1, c3, a3⟩ := p_wide (n := 65536) hc c2 (by omega) (by decide) hx
  clear hx
  simp [thenD_pp, sliceCells_sl, sliceCells_z, sliceCells_nil, take_full, appS_sl, appK_ok, appS_none, thenD_ag, agP_nil, agP_cons]
  generalize hx : aCall T0 F_spec_l01Cur_pick _ _ = xhx
  obtain ⟨u, X4, rfl, u0, u1, c4, a4⟩ := p_pick hc (c3.grow (List.prefix_append _ _)) (by omega) (by decide) hx
  clear hx
  obtain ⟨k, rfl⟩ := Int.eq_ofNat_of_zero_le u0
  have hk : k < 3 := by omega
  have hki : (k : Int) < 3 := by omega
  have hpl := c3.lt
  have hpX := h.lt
  have b2 := a4.get (i := X3.length) (b := ⟨[.int .i64 y, .int .i64 z, .int .i64 65535], 1, 2⟩) (by simp) (by simp; omega)
  have g := int_get [y, z, 65535] _ rfl (k := k) hk
  simp only [List.map_cons, List.map_nil] at g
  have hin : ∀ x ∈ [y, z, (65535 : Int)], inI x := by
    intro x hx
    unfold inI
    simp only [List.mem_cons, List.not_mem_nil, or_false] at hx
    omega
  have hin2 := hin ([y, z, (65535 : Int)][k]'hk) (List.getElem_mem _)
  generalize ([y, z, (65535 : Int)])[k]'hk = r at g hin2
  have aX : Agree (X ++ [(⟨[.string ⟨#[]⟩, .int .i64 0], 1, 2⟩ : Blk)]) X4 [p] := ag_trans a1 (ag_trans a2 (ag_trans a3 (ag_trans agree_app a4)))
  have bo := aX.get (i := X.length) (b := ⟨[.string ⟨#[]⟩, .int .i64 0], 1, 2⟩) (by simp) (by simp; omega)
  simp [thenD_pp, sliceCells_sl, sliceCells_z, sliceCells_nil, take_full, appS_sl, appK_ok, appS_none, thenD_ag, agP_nil, agP_cons, hki, b2, rd1_K, rdJ_ok, g, bo, gs_of bo, rdn_K, rnJ_ok, wrn_K, wrJ_ok]
  have c4' : Cur M0 p cv (B + 200) (X4.set X.length ⟨[strV w, .int .i64 r], 1, 2⟩) := by
    obtain ⟨q1, q2, a', s', q3, q4, q5, q6⟩ := c4
    exact ⟨pf_set h.1.length_le q1, q2, a', s', by rw [gt_set (by omega)]; exact q3, q4, by omega, q6⟩
  have aX' : Agree X (X4.set X.length ⟨[strV w, .int .i64 r], 1, 2⟩) [p] := by
    refine ⟨by rw [List.length_set]; have := aX.1; simp at this; omega, fun j hj hn => ?_⟩
    rw [gt_set (by omega), aX.2 j (by simp; omega) hn, List.getElem?_append_left hj]
  have hE : entI ((w, r) : ty_Entry.D) := ⟨show w.length ≤ 200 by omega, hin2⟩
  exact gc_sat ⟨(w, r), rfl, hE, h.mono (by omega), ag_refl _ _⟩ ⟨(w, r), rfl, hE, c4', aX'⟩
theorem p_entry {M0 X : Mem} {p : Nat} {cv : V} {B : Int} (hc : CurH M0 cv) (h : Cur M0 p cv B X) (hB : B ≤ 500000000000) {x : Option (V × Mem)} (hx : aCall T0 F_spec_l01Cur_entry [.pointer (some ⟨p, 0, none⟩)] X = x) :
    ∃ (e : ty_Entry.D) (X' : Mem), x = some (.agg (enc_Entry e).toArray, X') ∧ entI e ∧ Cur M0 p cv (B + 200) X' ∧ Agree X X' [p] := by
  obtain ⟨v, X', rfl, w, e, hw, h1, h2⟩ := of_call hx (c_spec_l01Cur_entry M0 X p cv B hc h hB)
  simp only at e h1 h2
  subst e
  exact ⟨w, X', rfl, hw, h1, h2⟩
/-- A drawn shelf, good or bad. -/
def ShR (v : V) (X : Mem) : Prop := ∃ xs : List ty_Entry.D, Rep (.sl ty_Entry) X [v] xs ∧ xs.length ≤ 4 ∧ ∀ e ∈ xs, entI e
theorem rep_take {t : Ty} {M : Mem} {l o n c : Nat} {xs : List t.D} (h : Rep (.sl t) M [.slice (some ⟨l, o, none⟩) n c] xs) (k : Nat) (hk : k ≤ xs.length) (c2 : Nat) : Rep (.sl t) M [.slice (some ⟨l, o, none⟩) k c2] (xs.take k) := by
  rcases h with ⟨e, rfl⟩ | ⟨l', o', c', blk, css, e, h2, h3, h4, h5, h6, h7⟩
  · simp at e
  · simp only [List.cons.injEq, Value.slice.injEq, Option.some.injEq, Addr.mk.injEq, and_true] at e
    obtain ⟨⟨rfl, rfl⟩, rfl, rfl⟩ := e
    refine .inr ⟨l, o, c2, blk, css.take k, ?_, h2, ?_, h4, ?_, ?_, ?_⟩
    · rw [List.length_take, Nat.min_eq_left hk]
    · rcases h3 with h3 | h3 | h3
      · exact .inl h3
      · exact .inr (.inl h3)
      · exact .inr (.inr (by subst h3; simp))
    · rw [List.length_take, List.length_take, h5]
    · intro i ds x hd hx
      rw [List.getElem?_take] at hd hx
      split at hd
      · rename_i hik
        rw [if_pos hik] at hx
        exact h6 _ _ _ hd hx
      · cases hd
    · have : (css.take k).flatten <+: css.flatten := by
        conv => rhs; rw [← List.take_append_drop k css, List.flatten_append]
        exact List.prefix_append _ _
      exact this.trans h7
theorem rep_flat_keep {t : Ty} {enc : t.D → List V} {P : t.D → Prop} (hf : FlatE t enc P) {X Z : Mem} {v : V} {xs : List t.D} (h : Rep (.sl t) X [v] xs) (hk : ∀ l o n c, v = .slice (some ⟨l, o, none⟩) n c → Z[l]? = X[l]?) : Rep (.sl t) Z [v] xs := by
  rcases h with h | ⟨l, o, c, blk, css, e, h2, h3, h4, h5, h6, h7⟩
  · exact .inl h
  · have e2 := e
    simp only [List.cons.injEq, and_true] at e2
    refine .inr ⟨l, o, c, blk, css, e, by rw [hk l o _ c e2, h2], h3, h4, h5, fun i ds x hd hx => ?_, h7⟩
    obtain ⟨q1, q2⟩ := hf.2 X ds x (h6 i ds x hd hx)
    rw [q1]
    exact (hf.1 Z x q2).rep
theorem splice_more (cs ys : List V) (p : Nat) (v : V) (h : cs[p + ys.length]? = some v) : splice cs p ys = splice cs p (ys ++ [v]) := by
  obtain ⟨hl, hv⟩ := List.getElem?_eq_some_iff.1 h
  unfold splice
  rw [List.drop_eq_getElem_cons hl, hv]
  simp [List.append_assoc, Nat.add_assoc]
theorem str_get (xs : List (List UInt8)) (cells : List V) (he : cells = xs.map (fun x => (strV x : V))) {k : Nat} (hk : k < xs.length) : cells[k]? = some (strV xs[k]) := by
  subst he
  simp [hk]
theorem c_spec_l01Cur_badWord (M0 X : Mem) (p : Nat) (cv : V) (B : Int) (hc : CurH M0 cv) (h : Cur M0 p cv B X) (hB : B ≤ 500000000000) :
    Sat (aCall T0 F_spec_l01Cur_badWord [.pointer (some ⟨p, 0, none⟩)] X) (CurW M0 p cv (B + 200) 200 X) := by
  rw [aCall_eq T_spec_l01Cur_badWord]; unfold A_spec_l01Cur_badWord C_spec_l01Cur_badWord; simp [thenD_pp, sliceCells_sl, sliceCells_z, sliceCells_nil, take_full, appS_sl, appK_ok, appS_none, thenD_ag, agP_nil, agP_cons]
  generalize hx : aCall T0 F_spec_l01Cur_word _ _ = xhx
  obtain ⟨w, X1, rfl, hw, c1, a1⟩ := p_word hc h (by omega) hx
  clear hx
  simp [thenD_pp, sliceCells_sl, sliceCells_z, sliceCells_nil, take_full, appS_sl, appK_ok, appS_none, thenD_ag, agP_nil, agP_cons]
  generalize hx : aCall T0 F_spec_l01Cur_pick _ _ = xhx
  obtain ⟨u, X2, rfl, u0, u1, c2, a2⟩ := p_pick hc c1 (by omega) (by decide) hx
  clear hx
  have a02 := ag_trans a1 a2
  by_cases h0 : u = 0
  · have w1 : IntKind.i64.wrap ((w.length : Int) + 1) = w.length + 1 := wrap_i64 (by omega) (by omega)
    simp [thenD_pp, sliceCells_sl, sliceCells_z, sliceCells_nil, take_full, appS_sl, appK_ok, appS_none, thenD_ag, agP_nil, agP_cons, h0, w1]
    generalize hx : aCall T0 F_spec_l01Cur_pick _ _ = xhx
    obtain ⟨z, X3, rfl, z0, z1, c3, a3⟩ := p_pick (n := (w.length : Int) + 1) hc c2 (by omega) (by omega) hx
    clear hx
    obtain ⟨d, rfl⟩ := Int.eq_ofNat_of_zero_le z0
    have hd : d ≤ w.length := by omega
    have hdi : (d : Int) ≤ w.length := by omega
    simp [thenD_pp, sliceCells_sl, sliceCells_z, sliceCells_nil, take_full, appS_sl, appK_ok, appS_none, thenD_ag, agP_nil, agP_cons, hd, hdi]
    generalize hx : aCall T0 F_spec_l01Cur_pick _ _ = xhx
    obtain ⟨y, X4, rfl, y0, y1, c4, a4⟩ := p_pick hc c3 (by omega) (by decide) hx
    clear hx
    obtain ⟨k, rfl⟩ := Int.eq_ofNat_of_zero_le y0
    have hk : k < 6 := by omega
    have hki : (k : Int) < 6 := by omega
    have g := str_get [[], [65], [45], [0], [122, 122], [123]] _ rfl (k := k) hk
    simp only [List.map_cons, List.map_nil] at g
    have hin2 : ∀ x ∈ [[], [65], [45], [0], [122, 122], [(123 : UInt8)]], x.length ≤ 2 := by
      intro x hx
      simp only [List.mem_cons, List.not_mem_nil, or_false] at hx
      rcases hx with rfl | rfl | rfl | rfl | rfl | rfl <;> simp
    have hin3 := hin2 ([[], [65], [45], [0], [122, 122], [(123 : UInt8)]][k]'hk) (List.getElem_mem _)
    generalize ([[], [65], [45], [0], [122, 122], [(123 : UInt8)]])[k]'hk = r at g hin3
    have q1 : (w.take d).length + r.length ≤ 9223372036854775807 := by rw [List.length_take]; omega
    have q2 : (w.take d ++ r).length + (w.drop d).length ≤ 9223372036854775807 := by rw [List.length_append, List.length_take, List.length_drop]; omega
    have q3 : (w.take d ++ (r ++ w.drop d)).length ≤ 200 := by rw [List.length_append, List.length_append, List.length_take, List.length_drop]; omega
    have hh0 : hits [p] [] = false := rfl
    have hpl := c4.lt
    have hh1 : hits [X4.length] [p] = false := hits_ne fun x hx y hy e => by
      simp at hx hy
      omega
    have q4 : d + r.length ≤ 9223372036854775807 := by omega
    have q5 : d + (r.length + (w.length - d)) ≤ 9223372036854775807 := by omega
    have q6 : d + r.length + (w.length - d) ≤ 9223372036854775807 := by omega
    by_cases hpre : X3 <+: X4
    · simp [thenD_pp, sliceCells_sl, sliceCells_z, sliceCells_nil, take_full, appS_sl, appK_ok, appS_none, thenD_ag, agP_nil, agP_cons, thenD_pre, hpre, hd, hdi, hki, g, q4, q5, q6]
      exact gc_sat ⟨_, rfl, q3, h.mono (by omega), ag_refl _ _⟩ ⟨_, rfl, q3, (c4.grow (List.prefix_append _ _)).mono (by omega), ag_trans a02 (ag_trans a3 (ag_trans a4 agree_app))⟩
    simp [thenD_pp, sliceCells_sl, sliceCells_z, sliceCells_nil, take_full, appS_sl, appK_ok, appS_none, thenD_ag, agP_nil, agP_cons, thenD_call, hpre, a4, hh0, hh1, hd, hdi, hki, g, q4, q5, q6]
    exact gc_sat ⟨_, rfl, q3, h.mono (by omega), ag_refl _ _⟩ ⟨_, rfl, q3, (c4.grow (List.prefix_append _ _)).mono (by omega), ag_trans a02 (ag_trans a3 (ag_trans a4 agree_app))⟩
  by_cases h1 : u = 1
  · simp [thenD_pp, sliceCells_sl, sliceCells_z, sliceCells_nil, take_full, appS_sl, appK_ok, appS_none, thenD_ag, agP_nil, agP_cons, h0, h1]
    exact gc_sat ⟨[], rfl, by simp, h.mono (by omega), ag_refl _ _⟩ ⟨[], rfl, by simp, c2.mono (by omega), a02⟩
  by_cases h2 : u = 2
  · have q0 : w.length + w.length ≤ 9223372036854775807 := by omega
    simp [thenD_pp, sliceCells_sl, sliceCells_z, sliceCells_nil, take_full, appS_sl, appK_ok, appS_none, thenD_ag, agP_nil, agP_cons, h0, h1, h2, q0]
    generalize hx : aCall T0 F_spec_l01Cur_pick _ _ = xhx
    obtain ⟨y, X4, rfl, y0, y1, c4, a4⟩ := p_pick hc c2 (by omega) (by decide) hx
    clear hx
    obtain ⟨k, rfl⟩ := Int.eq_ofNat_of_zero_le y0
    have hk : k ≤ 32 := by omega
    have hki : (k : Int) ≤ 32 := by omega
    have q1 : w.length + w.length + k ≤ 9223372036854775807 := by omega
    simp [thenD_pp, sliceCells_sl, sliceCells_z, sliceCells_nil, take_full, appS_sl, appK_ok, appS_none, thenD_ag, agP_nil, agP_cons, hk, hki, q1]
    exact gc_sat ⟨_, rfl, by simp; omega, h.mono (by omega), ag_refl _ _⟩ ⟨_, rfl, by simp; omega, c4.mono (by omega), ag_trans a02 a4⟩
  · simp [thenD_pp, sliceCells_sl, sliceCells_z, sliceCells_nil, take_full, appS_sl, appK_ok, appS_none, thenD_ag, agP_nil, agP_cons, h0, h1, h2]
    exact gc_sat ⟨w, rfl, by omega, h.mono (by omega), ag_refl _ _⟩ ⟨w, rfl, by omega, c2.mono (by omega), a02⟩
theorem p_badWord {M0 X : Mem} {p : Nat} {cv : V} {B : Int} (hc : CurH M0 cv) (h : Cur M0 p cv B X) (hB : B ≤ 500000000000) {x : Option (V × Mem)} (hx : aCall T0 F_spec_l01Cur_badWord [.pointer (some ⟨p, 0, none⟩)] X = x) :
    ∃ (w : List UInt8) (X' : Mem), x = some (strV w, X') ∧ w.length ≤ 200 ∧ Cur M0 p cv (B + 200) X' ∧ Agree X X' [p] := by
  obtain ⟨v, X', rfl, w, e, hw, h1, h2⟩ := of_call hx (c_spec_l01Cur_badWord M0 X p cv B hc h hB)
  simp only at e h1 h2
  subst e
  exact ⟨w, X', rfl, hw, h1, h2⟩
theorem cur_w {M0 X Y : Mem} {p : Nat} {cv : V} {B B' : Int} (h : Cur M0 p cv B X) (h2 : Cur M0 p cv B' Y) : ∀ b, X[p]? = some b → ∃ b', Y[p]? = some b' ∧ b'.w = b.w := by
  intro b hb
  obtain ⟨_, _, a, s, q, _⟩ := h
  obtain ⟨_, _, a', s', q', _⟩ := h2
  rw [q] at hb
  cases hb
  exact ⟨_, q', rfl⟩
/-- A drawn shelf: four slots in a block of its own. -/
def Shf (P : Nat → Prop) (v : V) (X : Mem) : Prop := ∃ (xs : List ty_Entry.D) (L : List Nat), Own (.sl ty_Entry) X [v] xs L ∧ L.Nodup ∧ (∀ l ∈ L, P l) ∧ xs.length = 4 ∧ ∀ e ∈ xs, entI e
theorem Shf.agree {P : Nat → Prop} {p : Nat} {v : V} {X Y : Mem} (h : Shf P v X) (ha : Agree X Y [p]) (hp : ¬ P p) (hw : ∀ b, X[p]? = some b → ∃ b', Y[p]? = some b' ∧ b'.w = b.w) : Shf P v Y := by
  obtain ⟨xs, L, o, nd, hk, hl, he⟩ := h
  refine ⟨xs, L, Own.updg (K := fun j => j = p) ⟨ha.1, fun l hn hlt => ha.2 l hlt (by simpa using hn), fun l b hb => ?_⟩ o (fun l hl2 e => hp (e ▸ hk l hl2)), nd, hk, hl, he⟩
  by_cases e : l = p
  · subst e; exact hw b hb
  · exact ⟨b, ha.get hb (by simpa using e), rfl⟩
theorem Shf.grow {P : Nat → Prop} {v : V} {X Y : Mem} (h : Shf P v X) (hp : X <+: Y) : Shf P v Y := by
  obtain ⟨xs, L, o, r⟩ := h
  exact ⟨xs, L, Own.grow hp o, r⟩
theorem Shf.set {P : Nat → Prop} {l : Nat} {v : V} {X : Mem} {b b2 : Blk} (h : Shf P v X) (hb : X[l]? = some b) (hw : b2.w = b.w) (hl : ¬ P l) : Shf P v (X.set l b2) := by
  obtain ⟨xs, L, o, nd, hk, r⟩ := h
  exact ⟨xs, L, Own.set hb hw o (fun hm => hl (hk l hm)), nd, hk, r⟩
theorem ownf_Entry (M : Mem) (cs : List V) (x : ty_Entry.D) (K : List Nat) (h : Own ty_Entry M cs x K) : K = [] := by
  obtain ⟨_, _, _, _, _, ⟨_, rfl⟩, ⟨_, rfl⟩, rfl⟩ := h
  rfl
theorem splice_drop (cs ys : List V) (o p : Nat) (ho : o ≤ cs.length) : (splice cs (o + p) ys).drop o = splice (cs.drop o) p ys := by
  unfold splice
  have h1 : (cs.take (o + p)).drop o = (cs.drop o).take p := by rw [List.drop_take]; congr 1; omega
  rw [List.append_assoc, List.append_assoc, List.drop_append, h1, List.drop_drop]
  have h2 : o - (cs.take (o + p)).length = 0 := by simp; omega
  rw [h2, List.drop_zero]
  congr 3
  omega
theorem splice_app (xs r ys : List V) (p : Nat) (hp : p + ys.length ≤ xs.length) : splice (xs ++ r) p ys = splice xs p ys ++ r := by
  unfold splice
  rw [List.take_append_of_le_length (by omega), List.drop_append_of_le_length hp]
  simp [List.append_assoc]
theorem flat_atr {w : Nat} : ∀ (css : List (List V)) (i : Nat) (hi : i < css.length) (r : List V), (∀ c ∈ css, c.length = w) → ((css.flatten ++ r).drop (i * w)).take w = css[i] := by
  intro css
  induction css with
  | nil => intro i hi; simp at hi
  | cons c cs ih =>
    intro i hi r hc
    cases i with
    | zero =>
      rw [Nat.zero_mul, List.drop_zero, List.flatten_cons, List.append_assoc, List.take_left' (hc c (by simp))]
      rfl
    | succ i =>
      rw [List.flatten_cons, Nat.add_mul, Nat.one_mul, Nat.add_comm, ← List.drop_drop, List.append_assoc, List.drop_left' (hc c (by simp))]
      exact ih i (by simpa using hi) r (fun d hd => hc d (by simp [hd]))
theorem Own.elem {t : Ty} {X : Mem} {v : V} {xs : List t.D} {L : List Nat} (h : Own (.sl t) X [v] xs L) (nd : L.Nodup) {i : Nat} (hi : i < xs.length) :
    ∃ (l o c : Nat) (blk : Blk) (cs : List V) (K : List Nat), v = .slice (some ⟨l, o, none⟩) xs.length c ∧ X[l]? = some blk ∧ blk.st = 2 ∧ blk.w = t.w ∧ o + i * t.w + t.w ≤ blk.cells.length ∧ (blk.cells.drop (o + i * t.w)).take t.w = cs ∧ cs.length = t.w ∧ Own t X cs xs[i] K ∧ K.Nodup ∧ l ∉ K ∧ (∀ j ∈ K, j ∈ L) ∧ l ∈ L ∧
    ∀ (X' : Mem) (cs' : List V) (y : t.D), UpdG X X' (fun j => j = l ∨ j ∈ K) → X'[l]? = some (spB blk (o + i * t.w) cs') → cs'.length = t.w → Own t X' cs' y K → Own (.sl t) X' [v] (xs.set i y) L := by
  rcases h with ⟨rfl, _, _⟩ | ⟨l, o, c, blk, css, Ls, hne, e, hb, h2, hw, hc, hLs, hel, hp, rfl⟩
  · simp at hi
  cases e
  have hone : ∀ cs ∈ css, cs.length = t.w := by
    intro cs hcs
    obtain ⟨i, hi, rfl⟩ := List.getElem_of_mem hcs
    exact (hel i css[i] (xs[i]'(by omega)) (Ls[i]'(by omega)) (by simp) (by simp) (by simp)).rep.len
  have hfl := flat_len hone
  obtain ⟨r, hr⟩ := hp
  have hle : i * t.w + t.w ≤ css.length * t.w := by
    rw [← Nat.succ_mul]
    exact Nat.mul_le_mul_right _ (by omega)
  have hlen : css.flatten.length + r.length = blk.cells.length - o := by rw [← List.length_append, hr, List.length_drop]
  have hw0 := t.w_pos
  have hcs := flat_atr css i (by omega) r hone
  obtain ⟨hln, hnf⟩ := List.nodup_cons.1 nd
  have hmem : ∀ (k : Nat) (hk : k < Ls.length), ∀ j ∈ Ls[k], j ∈ Ls.flatten := fun k hk j hj => List.mem_flatten.2 ⟨_, List.getElem_mem hk, hj⟩
  have hndK : ∀ (Ls : List (List Nat)), Ls.flatten.Nodup → (∀ K ∈ Ls, K.Nodup) ∧ ∀ (a b : Nat) (K J : List Nat), Ls[a]? = some K → Ls[b]? = some J → a ≠ b → ∀ j ∈ K, j ∉ J := by
    intro Ls
    induction Ls with
    | nil => intro _; exact ⟨by simp, fun a b K J h => by simp at h⟩
    | cons A As ih =>
      intro hn
      rw [List.flatten_cons] at hn
      obtain ⟨n1, n2, n3⟩ := List.nodup_append.1 hn
      obtain ⟨i1, i2⟩ := ih n2
      refine ⟨fun K hK => ?_, fun a b K J ha hb hab j hj hj2 => ?_⟩
      · rcases List.mem_cons.1 hK with rfl | hK
        · exact n1
        · exact i1 K hK
      · cases a with
        | zero =>
          cases b with
          | zero => exact hab rfl
          | succ b =>
            simp at ha hb
            subst ha
            exact n3 j hj j (List.mem_flatten.2 ⟨J, List.mem_of_getElem? hb, hj2⟩) rfl
        | succ a =>
          cases b with
          | zero =>
            simp at ha hb
            subst hb
            exact n3 j hj2 j (List.mem_flatten.2 ⟨K, List.mem_of_getElem? ha, hj⟩) rfl
          | succ b =>
            simp at ha hb
            exact i2 a b K J ha hb (by omega) j hj hj2
  obtain ⟨hk1, hk2⟩ := hndK Ls hnf
  refine ⟨l, o, c, blk, css[i]'(by omega), Ls[i]'(by omega), rfl, hb, h2, hw, by omega, ?_, hone _ (List.getElem_mem _), hel i _ xs[i] _ (by simp) (by simp) (by simp), hk1 _ (List.getElem_mem _), fun hm => hln (hmem _ _ _ hm), fun j hj => List.mem_cons_of_mem _ (hmem _ _ _ hj), by simp, ?_⟩
  · rw [← List.drop_drop, ← hr]
    exact hcs
  · intro X' cs' y hu hb' hl' hy
    refine .inr ⟨l, o, c, spB blk (o + i * t.w) cs', css.set i cs', Ls, ?_, by simp, hb', h2, hw, by simp [hc], by simp [hLs], fun k ds x K hds hx hK => ?_, ?_, rfl⟩
    · intro e
      have := congrArg List.length e
      simp at this
      exact hne this
    · by_cases hk : i = k
      · subst hk
        rw [List.getElem?_set_self (by omega)] at hds hx
        rw [List.getElem?_eq_getElem (by omega)] at hK
        cases hds; cases hx; cases hK
        exact hy
      · rw [List.getElem?_set_ne hk] at hds hx
        refine (hel k ds x K hds hx hK).updg hu (fun j hj hm => ?_)
        rcases hm with rfl | hm
        · exact hln (List.mem_flatten.2 ⟨K, List.mem_of_getElem? hK, hj⟩)
        · exact hk2 i k (Ls[i]'(by omega)) K (by simp) hK hk j hm hj
    · unfold spB
      simp only
      rw [splice_drop _ _ _ _ (by omega), ← hr, splice_app _ _ _ _ (by omega), splice_el css i t.w cs' (by omega) hone hl']
      exact List.prefix_append _ _
/-- The shelf's block. -/
theorem Shf.blk {P : Nat → Prop} {v : V} {X : Mem} (h : Shf P v X) : ∃ (xs : List ty_Entry.D) (l o c : Nat) (cs : List V), v = .slice (some ⟨l, o, none⟩) 4 c ∧ X[l]? = some ⟨cs, 2, 2⟩ ∧ o + 8 ≤ cs.length ∧ P l ∧ Rep (.sl ty_Entry) X [v] xs ∧ xs.length = 4 ∧ (∀ e ∈ xs, entI e) ∧
    ∀ (i : Nat) (e : ty_Entry.D), i < 4 → entI e → Shf P v (X.set l ⟨splice cs (o + i * 2) (enc_Entry e), 2, 2⟩) := by
  obtain ⟨xs, L, ow, nd, hk, hl, he⟩ := h
  rcases own_flat ownf_Entry ow with ⟨rfl, _, _⟩ | ⟨l, o, c, blk, hne, e, hb, hst, hw, hle, hL⟩
  · simp at hl
  · obtain ⟨cs, bw, bst⟩ := blk
    simp only at hst hw hle
    subst hst hw
    rw [hl] at e hle
    have hw2 : ty_Entry.w = 2 := rfl
    rw [hw2] at hb hle
    refine ⟨xs, l, o, c, cs, e, hb, by omega, hk l (by rw [hL]; simp), ow.rep, hl, he, fun i e2 hi he2 => ?_⟩
    obtain ⟨l', o', c', blk', cs', K', ev', hb', _, _, _, _, _, hoe, _, hlK, _, _, hre⟩ := Own.elem ow nd (i := i) (by omega)
    have hev := e.symm.trans ev'
    rw [hl] at hev
    cases hev
    rw [hb] at hb'
    cases hb'
    have hK0 := ownf_Entry _ _ _ _ hoe
    subst hK0
    have hwf : (Lit.int .i64 e2.2).wf = true := wf_range he2.2
    have := hre (X.set l ⟨splice cs (o + i * 2) (enc_Entry e2), 2, 2⟩) (enc_Entry e2) e2 ((upd_set hb (b2 := ⟨splice cs (o + i * 2) (enc_Entry e2), 2, 2⟩) rfl).g.weak (fun j hj => .inl (by simpa using hj))) (gs_of hb _) rfl (own_Entry _ e2 hwf)
    refine ⟨xs.set i e2, L, this, nd, hk, by simp [hl], fun e3 he3 => ?_⟩
    rcases List.mem_or_eq_of_mem_set he3 with h | rfl
    · exact he e3 h
    · exact he2
theorem Shf.weak {P Q : Nat → Prop} {v : V} {X : Mem} (h : Shf P v X) (hpq : ∀ l, P l → Q l) : Shf Q v X := by
  obtain ⟨xs, L, o, nd, hk, r⟩ := h
  exact ⟨xs, L, o, nd, fun l hl => hpq l (hk l hl), r⟩
theorem nodup_flat {t : Ty} (hf : ∀ (M : Mem) (cs : List V) (x : t.D) (K : List Nat), Own t M cs x K → K = []) {M : Mem} {v : V} {xs : List t.D} {L : List Nat} (h : Own (.sl t) M [v] xs L) : L.Nodup := by
  rcases own_flat hf h with ⟨_, rfl, _⟩ | ⟨l, _, _, _, _, _, _, _, _, _, rfl⟩ <;> simp
def CurB (M0 : Mem) (p : Nat) (cv : V) (B : Int) (X : Mem) (r : V × Mem) : Prop := ∃ b : Bool, r.1 = .bool b ∧ Cur M0 p cv B r.2 ∧ Agree X r.2 [p]
theorem c_spec_l01Cur_once (M0 X : Mem) (p : Nat) (cv : V) (B n : Int) (hc : CurH M0 cv) (h : Cur M0 p cv B X) (hB : B ≤ 1000000000000) (hn : n ≤ 1000000000000) (hn0 : -1000000000000 ≤ n) :
    Sat (aCall T0 F_spec_l01Cur_once [.pointer (some ⟨p, 0, none⟩), .int .i64 n] X) (CurB M0 p cv (B + 1) X) := by
  have w : IntKind.i64.wrap (n - 1) = n - 1 := wrap_i64 (by omega) (by omega)
  rw [aCall_eq T_spec_l01Cur_once]; unfold A_spec_l01Cur_once C_spec_l01Cur_once; simp [thenD_pp, sliceCells_sl, sliceCells_z, sliceCells_nil, take_full, appS_sl, appK_ok, appS_none, thenD_ag, agP_nil, agP_cons]
  generalize hx : aCall T0 F_spec_l01Cur_pick _ _ = xhx
  obtain ⟨y, X', rfl, y0, y1, c1, a1⟩ := p_pick hc h hB hn hx
  simp [thenD_pp, sliceCells_sl, sliceCells_z, sliceCells_nil, take_full, appS_sl, appK_ok, appS_none, thenD_ag, agP_nil, agP_cons, w]
  exact gc_sat ⟨_, rfl, h.mono (by omega), ag_refl _ _⟩ ⟨_, rfl, c1, a1⟩
theorem p_once {M0 X : Mem} {p : Nat} {cv : V} {B n : Int} (hc : CurH M0 cv) (h : Cur M0 p cv B X) (hB : B ≤ 1000000000000) (hn : n ≤ 1000000000000) (hn0 : -1000000000000 ≤ n) {x : Option (V × Mem)} (hx : aCall T0 F_spec_l01Cur_once [.pointer (some ⟨p, 0, none⟩), .int .i64 n] X = x) :
    ∃ (b : Bool) (X' : Mem), x = some (.bool b, X') ∧ Cur M0 p cv (B + 1) X' ∧ Agree X X' [p] := by
  obtain ⟨v, X', rfl, b, e, h1, h2⟩ := of_call hx (c_spec_l01Cur_once M0 X p cv B n hc h hB hn hn0)
  simp only at e h1 h2
  subst e
  exact ⟨b, X', rfl, h1, h2⟩
theorem e_spec_ShelfAdd (M : Mem) (v : V) (xs : List ty_Entry.D) (h : Rep (.sl ty_Entry) M [v] xs) (hn : xs.length ≤ 1048576) (hf : ∀ e ∈ xs, e.1.length ≤ 9223372036854775807) (e : ty_Entry.D) (he : e.1.length ≤ 9223372036854775807) :
    ∃ M' u L, M <+: M' ∧ aCall T0 F_spec_ShelfAdd [.agg #[v], .agg (enc_Entry e).toArray] M = some (.tuple #[.agg #[u], .int .i64 (addC xs e)], M') ∧ Own (.sl ty_Entry) M' [u] (addR xs e) L ∧ ∀ l ∈ L, M.length ≤ l ∧ l < M'.length := by
  have h' : Rep (.sl ty_Entry) (M ++ [⟨[v], 1, 2⟩, ⟨enc_Entry e, 1, 2⟩, ⟨[.slice none 0 0], 1, 2⟩]) [v] xs := h.mono (List.prefix_append _ _)
  have g1 := c_spec_ShelfOk _ v xs h' (by omega) hf
  have g2 := fun M => c_spec_l17Full M e he
  have g3 := c_spec_l17At _ v xs h' (by omega) e.1
  have g4 := c_spec_l17At _ v xs h' (by omega) []
  unfold addR
  rcases add_cases xs e with ⟨ha, hb⟩ | ⟨ha, h1, h2, h3⟩ | ⟨ha, h1, h2, h3, h4⟩ | ⟨ha, h1, h2, h3, j, hj, e2⟩
  · refine ⟨M ++ [⟨[v], 1, 2⟩, ⟨enc_Entry e, 1, 2⟩, ⟨[.slice none 0 0], 1, 2⟩], .slice none 0 0, [], List.prefix_append _ _, ?_, by rw [ha]; exact .inl ⟨rfl, rfl, .inl ⟨rfl, rfl⟩⟩, by simp⟩
    obtain ⟨a, c, rfl⟩ := h.slen
    rcases hb with q | ⟨q, q2⟩
    · rw [aCall_eq T_spec_ShelfAdd]; unfold A_spec_ShelfAdd C_spec_ShelfAdd; simp [g1, g2, ha, q, prim]
    · rw [aCall_eq T_spec_ShelfAdd]; unfold A_spec_ShelfAdd C_spec_ShelfAdd; simp [g1, g2, ha, q, q2, prim]
  · refine ⟨M ++ [⟨[v], 1, 2⟩, ⟨enc_Entry e, 1, 2⟩, ⟨[.slice none 0 0], 1, 2⟩], .slice none 0 0, [], List.prefix_append _ _, ?_, by rw [ha]; exact .inl ⟨rfl, rfl, .inl ⟨rfl, rfl⟩⟩, by simp⟩
    obtain ⟨a, c, rfl⟩ := h.slen
    rw [aCall_eq T_spec_ShelfAdd]; unfold A_spec_ShelfAdd C_spec_ShelfAdd; simp [g1, g2, g3, ha, h1, h2, h3, prim]
  · refine ⟨M ++ [⟨[v], 1, 2⟩, ⟨enc_Entry e, 1, 2⟩, ⟨[.slice none 0 0], 1, 2⟩], .slice none 0 0, [], List.prefix_append _ _, ?_, by rw [ha]; exact .inl ⟨rfl, rfl, .inl ⟨rfl, rfl⟩⟩, by simp⟩
    have h3' : ¬ 0 ≤ idx (isW e.1) xs := by omega
    obtain ⟨a, c, rfl⟩ := h.slen
    rw [aCall_eq T_spec_ShelfAdd]; unfold A_spec_ShelfAdd C_spec_ShelfAdd; simp [g1, g2, g3, g4, ha, h1, h2, h3', h4, prim]
  · obtain ⟨M1, u, L, p1, s1, o1, f1⟩ := d_spec_l17With (M ++ [⟨[v], 1, 2⟩, ⟨enc_Entry e, 1, 2⟩, ⟨[.slice none 0 0], 1, 2⟩]) v xs h' hn j hj e (entB_wf h2)
    have hb1' : M1[M.length + 2]? = some ⟨[.slice none 0 0], 1, 2⟩ := get_pre p1 (by simp)
    obtain ⟨a, c, rfl⟩ := h.slen
    obtain ⟨a2, c2, rfl⟩ := o1.rep.slen
    have w1 := box_set hb1' (ds := [.slice a2 (xs.set j e).length c2]) rfl rfl
    have r1 := box_get hb1' (ds := [.slice a2 (xs.set j e).length c2]) (n := 1) rfl
    have o2 := Own.upd (upd_set hb1' (b2 := ⟨[.slice a2 (xs.set j e).length c2], 1, 2⟩) rfl) o1 (fun l hl hk => by have := f1 l hl; simp at this hk; omega)
    have e5 : (idx (isW []) xs).toNat = j := by omega
    have e6 : ¬ ((j : Int) < 0) := by omega
    have h3' : ¬ 0 ≤ idx (isW e.1) xs := by omega
    simp at s1 w1 r1
    simp only [ha, if_true, e5]
    refine ⟨_, .slice a2 (xs.set j e).length c2, L, pre_set ((List.prefix_append _ _).trans p1) (by omega), ?_, o2, fun l hl => by have := f1 l hl; simp at this ⊢; omega⟩
    rw [aCall_eq T_spec_ShelfAdd]; unfold A_spec_ShelfAdd C_spec_ShelfAdd; simp [g1, g2, g3, g4, h1, h2, h3', e2, e6, s1, w1, r1, prim]
theorem addR_entI {xs : List ty_Entry.D} {e : ty_Entry.D} (h : ∀ x ∈ xs, entI x) (he : entI e) (h0 : addC xs e = 0) : (addR xs e).length = xs.length ∧ ∀ x ∈ addR xs e, entI x := by
  unfold addR
  rw [if_pos h0]
  refine ⟨by simp, fun x hx => ?_⟩
  rcases List.mem_or_eq_of_mem_set hx with hx | rfl
  · exact h x hx
  · exact he
def ShI (M0 X : Mem) (p : Nat) (cv : V) (B : Int) (v : V) (Y : Mem) : Prop := Cur M0 p cv B Y ∧ Y[X.length]? = some ⟨[.slice none 0 0], 1, 2⟩ ∧ Y[X.length + 2]? = some ⟨[v], 1, 2⟩ ∧ Shf (fun l => X.length < l ∧ l ≠ X.length + 2) v Y ∧ Agree X Y [p]
set_option maxHeartbeats 1000000 in
theorem l_spec_l01Cur_shelf_0 (M0 X : Mem) (p : Nat) (cv : V) (B : Int) (hc : CurH M0 cv) (hB : B ≤ 400000000000) (hpX : p < X.length) (K : Nat) (hK : K ≤ 10) (v0 : V) (Z : Mem) (h0 : ShI M0 X p cv B v0 Z) :
    ∃ v' X', ShI M0 X p cv (B + 300 * K) v' X' ∧ lp (aCall T0) K_spec_l01Cur_shelf_0 L_spec_l01Cur_shelf_0 [.pointer (some ⟨p, 0, none⟩), und, .pointer (some ⟨X.length, 0, none⟩), .pointer (some ⟨X.length + 2, 0, none⟩), .int .i64 K, und, und, und, und, und, und, und, und, und, und, und, und, und, und, und, und, und, und, und, und, und, und, und, und, und, und, und, und, und] Z = lp (aCall T0) K_spec_l01Cur_shelf_0 L_spec_l01Cur_shelf_0 [.pointer (some ⟨p, 0, none⟩), und, .pointer (some ⟨X.length, 0, none⟩), .pointer (some ⟨X.length + 2, 0, none⟩), .int .i64 0, und, und, und, und, und, und, und, und, und, und, und, und, und, und, und, und, und, und, und, und, und, und, und, und, und, und, und, und, und] X' := by
  have key := loop_to (call := aCall T0) (K := K_spec_l01Cur_shelf_0) (L := L_spec_l01Cur_shelf_0) (fun i (v : V) Y => ShI M0 X p cv (B + 300 * i) v Y) (fun i v => [.pointer (some ⟨p, 0, none⟩), und, .pointer (some ⟨X.length, 0, none⟩), .pointer (some ⟨X.length + 2, 0, none⟩), .int .i64 ((K : Int) - i), und, und, und, und, und, und, und, und, und, und, und, und, und, und, und, und, und, und, und, und, und, und, und, und, und, und, und, und, und]) (n := K) ?_ 0 v0 Z (by omega) (by simpa using h0)
  · obtain ⟨v', X', h1, h2⟩ := key
    refine ⟨v', X', h1, ?_⟩
    simpa using h2
  intro i v Y hi hY
  obtain ⟨hcur, ho, hs, hsh, hag⟩ := hY
  have hgt : (0 : Int) < (K : Int) - i := by omega
  have w0 : IntKind.i64.wrap ((K : Int) - i - 1) = (K : Int) - (i + 1 : Nat) := by rw [wrap_i64 (by omega) (by omega)]; omega
  have iv : one v = true := by
    obtain ⟨xs, L, o, _⟩ := hsh
    exact one_head o.rep.one
  rw [S_spec_l01Cur_shelf_0]; unfold B_spec_l01Cur_shelf_0; simp [thenD_pp, sliceCells_sl, sliceCells_z, sliceCells_nil, take_full, appS_sl, appK_ok, appS_none, thenD_ag, agP_nil, agP_cons, hi, hgt, hs, rdn_K, rnJ_ok, iv]
  generalize hx : aCall T0 F_spec_l01Cur_entry _ _ = xhx
  obtain ⟨e, Y1, rfl, he, c1, a1⟩ := p_entry hc hcur (by omega) hx
  clear hx
  have hYl := hag.1
  have hsl := get_lt hs
  have hh : hits [p] [X.length + 2] = false := hits_ne fun x hx y hy e => by
    simp at hx hy
    omega
  have hsh1 := hsh.agree a1 (by omega) (cur_w hcur c1)
  have ho1 := a1.get ho (by simp; omega)
  have hs1 := a1.get hs (by simp; omega)
  obtain ⟨xs, L, ow, nd, hP, hl4, hee⟩ := hsh1
  obtain ⟨Y2, u, L2, p2, s2, o2, f2⟩ := e_spec_ShelfAdd Y1 v xs ow.rep (by omega) (fun x hx => by have := (hee x hx).1; have h : List.length (α := UInt8) x.1 ≤ 200 := this; omega) e (by have h : List.length (α := UInt8) e.1 ≤ 200 := he.1; omega)
  have iu := one_head o2.rep.one
  have hs2 := get_pre p2 hs1
  have ho2 := get_pre p2 ho1
  have c2' := (c1.grow p2).grow (List.prefix_append Y2 [(⟨[u], 1, 2⟩ : Blk)])
  have hag2 : Agree X (Y2 ++ [(⟨[u], 1, 2⟩ : Blk)]) [p] := ag_trans hag (ag_trans a1 ⟨by have := p2.length_le; simp; omega, fun j hj hn => by rw [List.getElem?_append_left (by have := p2.length_le; omega)]; obtain ⟨r, rfl⟩ := p2; exact List.getElem?_append_left hj⟩)
  have hY2 := p2.length_le
  have hY1 := a1.1
  have hsX := fun N : Mem => get_pre' (N := N) hs2
  have bx : (Y2 ++ [(⟨[u], 1, 2⟩ : Blk)])[Y2.length]? = some ⟨[u], 1, 2⟩ := by simp
  by_cases hpre : Y <+: Y1
  all_goals
    simp [thenD_pp, sliceCells_sl, sliceCells_z, sliceCells_nil, take_full, appS_sl, appK_ok, appS_none, thenD_ag, agP_nil, agP_cons, thenD_pre, thenD_call, hpre, a1, hh, s2, p2, iu]
    by_cases h0 : addC xs e = 0
    · obtain ⟨q1, q2⟩ := addR_entI hee he h0
      simp [thenD_pp, sliceCells_sl, sliceCells_z, sliceCells_nil, take_full, appS_sl, appK_ok, appS_none, thenD_ag, agP_nil, agP_cons, h0, iu, hsX, gs_of (hsX _), rdn_K, rnJ_ok, wrn_K, wrJ_ok]
      have hZ : ShI M0 X p cv (B + 300 * i + 200) u ((Y2 ++ [(⟨[u], 1, 2⟩ : Blk)]).set (X.length + 2) ⟨[u], 1, 2⟩) := by
        obtain ⟨t1, t2, a', s', t3, t4⟩ := c2'
        have hM0 := hcur.1.length_le
        refine ⟨⟨pf_set (by omega) t1, t2, a', s', by rw [gt_set (by omega)]; exact t3, t4⟩, by rw [gt_set (by omega)]; exact get_pre' ho2, gs_of (hsX _) _, ?_, ?_⟩
        · have h1 : Shf (fun l => X.length < l ∧ l ≠ X.length + 2) u Y2 := ⟨addR xs e, L2, o2, nodup_flat ownf_Entry o2, fun l hl => by have := f2 l hl; omega, by omega, q2⟩
          exact Shf.set (Shf.grow h1 (List.prefix_append _ _)) (hsX _) rfl (fun h => h.2 rfl)
        · refine ⟨by rw [List.length_set]; exact hag2.1, fun j hj hn => ?_⟩
          rw [gt_set (by omega)]
          exact hag2.2 j hj hn
      obtain ⟨hcur', hoZ, hsZ, hshZ, hagZ⟩ := hZ
      generalize hx : aCall T0 F_spec_l01Cur_once _ _ = xhx
      obtain ⟨b, Z2, rfl, c2, a2⟩ := p_once (n := 5) hc hcur' (by omega) (by decide) (by decide) hx
      clear hx
      have hZl := hagZ.1
      have hsh2 := hshZ.agree a2 (by omega) (cur_w hcur' c2)
      have hs2' := a2.get hsZ (by simp; omega)
      have ho2' := a2.get hoZ (by simp; omega)
      cases b with
      | false =>
        simp [thenD_pp, sliceCells_sl, sliceCells_z, sliceCells_nil, take_full, appS_sl, appK_ok, appS_none, thenD_ag, agP_nil, agP_cons, w0]
        exact ⟨_, Z2, ⟨c2.mono (by omega), ho2', hs2', hsh2, ag_trans hagZ a2⟩, rfl⟩
      | true =>
        simp [thenD_pp, sliceCells_sl, sliceCells_z, sliceCells_nil, take_full, appS_sl, appK_ok, appS_none, thenD_ag, agP_nil, agP_cons, hs2', rd1_K, rdJ_ok]
        generalize hx : aCall T0 F_spec_l01Cur_pick _ _ = xhx
        obtain ⟨z, Z3, rfl, z0, z1, c3, a3⟩ := p_pick hc c2 (by omega) (by decide) hx
        clear hx
        obtain ⟨k, rfl⟩ := Int.eq_ofNat_of_zero_le z0
        have hk : k < 4 := by omega
        have hki : (k : Int) < 4 := by omega
        have hsh3 := hsh2.agree a3 (by omega) (cur_w c2 c3)
        have hs3 := a3.get hs2' (by simp; omega)
        have ho3 := a3.get ho2' (by simp; omega)
        obtain ⟨xs3, l3, o3, cc3, cs3, rfl, hb3, hle3, hP3, _, _, _, hput⟩ := hsh3.blk
        have hfit : o3 + k * 2 + 2 ≤ cs3.length := by omega
        have hput' := hput k ([], 0) hk ⟨by simp, by unfold inI; omega⟩
        have hl3p : l3 ≠ p := by omega
        have a3l := a3.1
        by_cases hpre2 : Z2 <+: Z3
        all_goals
          simp [thenD_pp, sliceCells_sl, sliceCells_z, sliceCells_nil, take_full, appS_sl, appK_ok, appS_none, thenD_ag, agP_nil, agP_cons, thenD_pre, thenD_call, hpre2, a3, hh, hki, hb3, hfit, wrn_K, wrJ_ok]
          simp [thenD_pp, sliceCells_sl, sliceCells_z, sliceCells_nil, take_full, appS_sl, appK_ok, appS_none, thenD_ag, agP_nil, agP_cons, w0]
          have e10 : splice cs3 (o3 + k * 2) (enc_Entry (([], 0) : ty_Entry.D)) = List.take (o3 + k * 2) cs3 ++ Value.string ⟨#[]⟩ :: Value.int .i64 0 :: List.drop (o3 + k * 2 + 2) cs3 := by simp [splice, enc_Entry]
          rw [e10] at hput'
          have hM0 := hcur.1.length_le
          refine ⟨_, _, ⟨?_, by rw [gt_set (by omega)]; exact ho3, by rw [gt_set (by omega)]; exact hs3, hput', ?_⟩, rfl⟩
          · obtain ⟨t1, t2, a', s', t3, t4, t5, t6⟩ := c3
            exact ⟨pf_set (by omega) t1, t2, a', s', by rw [gt_set (by omega)]; exact t3, t4, by omega, t6⟩
          · have ag3 := ag_trans hagZ (ag_trans a2 a3)
            refine ⟨by rw [List.length_set]; exact ag3.1, fun j hj hn => ?_⟩
            rw [gt_set (by omega)]
            exact ag3.2 j hj hn
    · simp [thenD_pp, sliceCells_sl, sliceCells_z, sliceCells_nil, take_full, appS_sl, appK_ok, appS_none, thenD_ag, agP_nil, agP_cons, h0]
      have hZ : ShI M0 X p cv (B + 300 * i + 200) v (Y2 ++ [(⟨[u], 1, 2⟩ : Blk)]) :=
        ⟨c2', get_pre' ho2, hsX _, Shf.grow (Shf.grow (⟨xs, L, ow, nd, hP, hl4, hee⟩ : Shf (fun l => X.length < l ∧ l ≠ X.length + 2) v Y1) p2) (List.prefix_append _ _), hag2⟩
      obtain ⟨hcur', hoZ, hsZ, hshZ, hagZ⟩ := hZ
      generalize hx : aCall T0 F_spec_l01Cur_once _ _ = xhx
      obtain ⟨b, Z2, rfl, c2, a2⟩ := p_once (n := 5) hc hcur' (by omega) (by decide) (by decide) hx
      clear hx
      have hZl := hagZ.1
      have hsh2 := hshZ.agree a2 (by omega) (cur_w hcur' c2)
      have hs2' := a2.get hsZ (by simp; omega)
      have ho2' := a2.get hoZ (by simp; omega)
      cases b with
      | false =>
        simp [thenD_pp, sliceCells_sl, sliceCells_z, sliceCells_nil, take_full, appS_sl, appK_ok, appS_none, thenD_ag, agP_nil, agP_cons, w0]
        exact ⟨_, Z2, ⟨c2.mono (by omega), ho2', hs2', hsh2, ag_trans hagZ a2⟩, rfl⟩
      | true =>
        simp [thenD_pp, sliceCells_sl, sliceCells_z, sliceCells_nil, take_full, appS_sl, appK_ok, appS_none, thenD_ag, agP_nil, agP_cons, hs2', rd1_K, rdJ_ok]
        generalize hx : aCall T0 F_spec_l01Cur_pick _ _ = xhx
        obtain ⟨z, Z3, rfl, z0, z1, c3, a3⟩ := p_pick hc c2 (by omega) (by decide) hx
        clear hx
        obtain ⟨k, rfl⟩ := Int.eq_ofNat_of_zero_le z0
        have hk : k < 4 := by omega
        have hki : (k : Int) < 4 := by omega
        have hsh3 := hsh2.agree a3 (by omega) (cur_w c2 c3)
        have hs3 := a3.get hs2' (by simp; omega)
        have ho3 := a3.get ho2' (by simp; omega)
        obtain ⟨xs3, l3, o3, cc3, cs3, rfl, hb3, hle3, hP3, _, _, _, hput⟩ := hsh3.blk
        have hfit : o3 + k * 2 + 2 ≤ cs3.length := by omega
        have hput' := hput k ([], 0) hk ⟨by simp, by unfold inI; omega⟩
        have hl3p : l3 ≠ p := by omega
        have a3l := a3.1
        by_cases hpre2 : Z2 <+: Z3
        all_goals
          simp [thenD_pp, sliceCells_sl, sliceCells_z, sliceCells_nil, take_full, appS_sl, appK_ok, appS_none, thenD_ag, agP_nil, agP_cons, thenD_pre, thenD_call, hpre2, a3, hh, hki, hb3, hfit, wrn_K, wrJ_ok]
          simp [thenD_pp, sliceCells_sl, sliceCells_z, sliceCells_nil, take_full, appS_sl, appK_ok, appS_none, thenD_ag, agP_nil, agP_cons, w0]
          have e10 : splice cs3 (o3 + k * 2) (enc_Entry (([], 0) : ty_Entry.D)) = List.take (o3 + k * 2) cs3 ++ Value.string ⟨#[]⟩ :: Value.int .i64 0 :: List.drop (o3 + k * 2 + 2) cs3 := by simp [splice, enc_Entry]
          rw [e10] at hput'
          have hM0 := hcur.1.length_le
          refine ⟨_, _, ⟨?_, by rw [gt_set (by omega)]; exact ho3, by rw [gt_set (by omega)]; exact hs3, hput', ?_⟩, rfl⟩
          · obtain ⟨t1, t2, a', s', t3, t4, t5, t6⟩ := c3
            exact ⟨pf_set (by omega) t1, t2, a', s', by rw [gt_set (by omega)]; exact t3, t4, by omega, t6⟩
          · have ag3 := ag_trans hagZ (ag_trans a2 a3)
            refine ⟨by rw [List.length_set]; exact ag3.1, fun j hj hn => ?_⟩
            rw [gt_set (by omega)]
            exact ag3.2 j hj hn
def CurSh (M0 : Mem) (p : Nat) (cv : V) (B : Int) (X : Mem) (r : V × Mem) : Prop := ∃ v, r.1 = .agg #[v] ∧ Shf (fun l => X.length ≤ l) v r.2 ∧ Cur M0 p cv B r.2 ∧ Agree X r.2 [p]
theorem c_spec_l01Cur_shelf (M0 X : Mem) (p : Nat) (cv : V) (B : Int) (hc : CurH M0 cv) (h : Cur M0 p cv B X) (hB : B ≤ 300000000000) :
    Sat (aCall T0 F_spec_l01Cur_shelf [.pointer (some ⟨p, 0, none⟩)] X) (CurSh M0 p cv (B + 3000) X) := by
  have hpX := h.lt
  rw [aCall_eq T_spec_l01Cur_shelf]; unfold A_spec_l01Cur_shelf C_spec_l01Cur_shelf; simp [thenD_pp, sliceCells_sl, sliceCells_z, sliceCells_nil, take_full, appS_sl, appK_ok, appS_none, thenD_ag, agP_nil, agP_cons, zeroCells]
  generalize hx : aCall T0 F_spec_l01Cur_pick _ _ = xhx
  generalize hN : X ++ _ = N at hx
  have hXN : X <+: N := hN ▸ List.prefix_append _ _
  obtain ⟨z, X1, rfl, z0, z1, c1, a1⟩ := p_pick hc (h.grow hXN) (by omega) (by decide) hx
  clear hx
  obtain ⟨K, rfl⟩ := Int.eq_ofNat_of_zero_le z0
  have bo := a1.get (i := X.length) (b := ⟨[.slice none 0 0], 1, 2⟩) (by rw [← hN]; simp) (by simp; omega)
  have bm := a1.get (i := X.length + 1) (b := ⟨[.string ⟨#[]⟩, .int .i64 0, .string ⟨#[]⟩, .int .i64 0, .string ⟨#[]⟩, .int .i64 0, .string ⟨#[]⟩, .int .i64 0], 2, 2⟩) (by rw [← hN]; simp) (by simp; omega)
  have bs := a1.get (i := X.length + 2) (b := ⟨[.slice (some ⟨X.length + 1, 0, none⟩) 4 4], 1, 2⟩) (by rw [← hN]; simp) (by simp; omega)
  have hag : Agree X X1 [p] := by
    refine ⟨Nat.le_trans hXN.length_le a1.1, fun j hj hn => ?_⟩
    rw [a1.2 j (Nat.lt_of_lt_of_le hj hXN.length_le) hn]
    obtain ⟨r, rfl⟩ := hXN
    exact List.getElem?_append_left hj
  have hsh : Shf (fun l => X.length < l ∧ l ≠ X.length + 2) (.slice (some ⟨X.length + 1, 0, none⟩) 4 4) X1 := by
    obtain ⟨L, o, hL⟩ := own_blk (t := ty_Entry) (enc := enc_Entry) (ys := List.replicate 4 ([], 0)) (c := 4) (l := X.length + 1) (M := X1) bm (fun y hy => by rw [List.eq_of_mem_replicate hy]; exact own_Entry _ _ (by decide))
    refine ⟨_, L, o, nodup_flat ownf_Entry o, fun l hl => by have := hL l hl; omega, rfl, fun e he => ?_⟩
    rw [List.eq_of_mem_replicate he]
    exact ⟨by simp, by unfold inI; decide⟩
  obtain ⟨v', X2, ⟨hcur, ho, hs, hsh2, hag2⟩, e⟩ := l_spec_l01Cur_shelf_0 M0 X p cv (B + 1) hc (by omega) hpX K (by omega) _ X1 ⟨c1, bo, bs, hsh, hag⟩
  have iv : one v' = true := by
    obtain ⟨xs, L, o, _⟩ := hsh2
    exact one_head o.rep.one
  simp [thenD_pp, sliceCells_sl, sliceCells_z, sliceCells_nil, take_full, appS_sl, appK_ok, appS_none, thenD_ag, agP_nil, agP_cons, e]
  rw [S_spec_l01Cur_shelf_0]; unfold B_spec_l01Cur_shelf_0; simp [thenD_pp, sliceCells_sl, sliceCells_z, sliceCells_nil, take_full, appS_sl, appK_ok, appS_none, thenD_ag, agP_nil, agP_cons]
  simp [thenD_pp, sliceCells_sl, sliceCells_z, sliceCells_nil, take_full, appS_sl, appK_ok, appS_none, thenD_ag, agP_nil, agP_cons, hs, ho, gs_of ho, iv, rdn_K, rnJ_ok, wrn_K, wrJ_ok]
  obtain ⟨xs, l, o, c, cs, rfl, _⟩ := id hsh2.blk
  rw [gc_not (by rfl)]
  refine sat_some ⟨_, rfl, Shf.weak (Shf.set (b2 := ⟨[.slice (some ⟨l, o, none⟩) 4 c], 1, 2⟩) hsh2 ho rfl (fun h => by omega)) (fun l h => Nat.le_of_lt h.1), ?_, ?_⟩
  · obtain ⟨t1, t2, a', s', t3, t4, t5, t6⟩ := hcur
    exact ⟨pf_set (by have := h.1.length_le; omega) t1, t2, a', s', by rw [gt_set (by omega)]; exact t3, t4, by omega, t6⟩
  · refine ⟨by rw [List.length_set]; exact hag2.1, fun j hj hn => ?_⟩
    rw [gt_set (by omega)]
    exact hag2.2 j hj hn
theorem p_shelf {M0 X : Mem} {p : Nat} {cv : V} {B : Int} (hc : CurH M0 cv) (h : Cur M0 p cv B X) (hB : B ≤ 300000000000) {x : Option (V × Mem)} (hx : aCall T0 F_spec_l01Cur_shelf [.pointer (some ⟨p, 0, none⟩)] X = x) :
    ∃ (v : V) (X' : Mem), x = some (.agg #[v], X') ∧ Shf (fun l => X.length ≤ l) v X' ∧ Cur M0 p cv (B + 3000) X' ∧ Agree X X' [p] := by
  obtain ⟨v, X', rfl, w, e, hw, h1, h2⟩ := of_call hx (c_spec_l01Cur_shelf M0 X p cv B hc h hB)
  simp only at e h1 h2
  subst e
  exact ⟨w, X', rfl, hw, h1, h2⟩
theorem fl_Entry : FlatE ty_Entry enc_Entry (fun e => (Lit.int .i64 e.2).wf = true) := ⟨fun M x h => ⟨[strV x.1], [.int .i64 x.2], [], [], rfl, ⟨rfl, rfl⟩, ⟨⟨rfl, h⟩, rfl⟩, rfl⟩, fun M cs x h => by
  obtain ⟨_, _, rfl, rfl, ⟨rfl, w1⟩⟩ := h
  exact ⟨rfl, w1⟩⟩
theorem splice_self {cs ys : List V} {p : Nat} (h : (cs.drop p).take ys.length = ys) : splice cs p ys = cs := by
  unfold splice
  conv => rhs; rw [← List.take_append_drop p cs, ← List.take_append_drop ys.length (cs.drop p), h, List.drop_drop]
  rw [List.append_assoc]
theorem splice_pre {cs : List V} {p : Nat} {a b : V} (h : cs[p]? = some a) (hp : p + 2 ≤ cs.length) : splice cs (p + 1) [b] = splice cs p [a, b] := by
  have e1 : splice cs p [a] = cs := by
    obtain ⟨hl, hv⟩ := List.getElem?_eq_some_iff.1 h
    refine splice_self ?_
    rw [List.drop_eq_getElem_cons hl, hv]
    rfl
  have := splice_snoc cs [a] p b (by simpa using hp)
  rw [e1] at this
  exact this
theorem bad_fin {M0 X W : Mem} {p : Nat} {cv : V} {B : Int} {v : V} (hpX : p < X.length) (h0 : M0.length ≤ X.length) (hw : Cur M0 p cv B W) (ha : Agree X W [p]) (hs : ∃ xs : List ty_Entry.D, Rep (.sl ty_Entry) W [v] xs ∧ xs.length ≤ 4 ∧ ∀ e ∈ xs, entI e) (hv : ∀ l o n c, v = .slice (some ⟨l, o, none⟩) n c → X.length < l) :
    ShR v (W.set X.length ⟨[v], 1, 2⟩) ∧ Cur M0 p cv B (W.set X.length ⟨[v], 1, 2⟩) ∧ Agree X (W.set X.length ⟨[v], 1, 2⟩) [p] := by
  obtain ⟨xs, hr, hl, he⟩ := hs
  refine ⟨⟨xs, ?_, hl, he⟩, ?_, ?_⟩
  · exact rep_flat_keep fl_Entry hr fun l o n c e => gt_set (by have := hv l o n c e; omega)
  · obtain ⟨t1, t2, a', s', t3, t4⟩ := hw
    exact ⟨pf_set h0 t1, t2, a', s', by rw [gt_set (by omega)]; exact t3, t4⟩
  · refine ⟨by rw [List.length_set]; exact ha.1, fun j hj hn => ?_⟩
    rw [gt_set (by omega)]
    exact ha.2 j hj hn
set_option maxHeartbeats 1000000 in
theorem c_spec_l01Cur_badShelf (M0 X : Mem) (p : Nat) (cv : V) (B : Int) (hc : CurH M0 cv) (h : Cur M0 p cv B X) (hB : B ≤ 200000000000) :
    ∃ v X', aCall T0 F_spec_l01Cur_badShelf [.pointer (some ⟨p, 0, none⟩)] X = some (.agg #[v], X') ∧ ShR v X' ∧ Cur M0 p cv (B + 5000) X' ∧ Agree X X' [p] := by
  have hpX := h.lt
  rw [aCall_eq T_spec_l01Cur_badShelf]; unfold A_spec_l01Cur_badShelf C_spec_l01Cur_badShelf; simp [thenD_pp, sliceCells_sl, sliceCells_z, sliceCells_nil, take_full, appS_sl, appK_ok, appS_none, thenD_ag, agP_nil, agP_cons]
  generalize hx : aCall T0 F_spec_l01Cur_shelf _ _ = xhx
  obtain ⟨v, X1, rfl, hsh, c1, a1⟩ := p_shelf hc (h.grow (List.prefix_append _ _)) (by omega) hx
  clear hx
  have iv : one v = true := by
    obtain ⟨xs, L, o, _⟩ := hsh
    exact one_head o.rep.one
  have bo := a1.get (i := X.length) (b := ⟨[.slice none 0 0], 1, 2⟩) (by simp) (by simp; omega)
  have hX1 := a1.1
  simp at hX1
  have c2 := c1.grow (List.prefix_append X1 [(⟨[v], 1, 2⟩ : Blk)])
  simp [thenD_pp, sliceCells_sl, sliceCells_z, sliceCells_nil, take_full, appS_sl, appK_ok, appS_none, thenD_ag, agP_nil, agP_cons, iv]
  generalize hx : aCall T0 F_spec_l01Cur_pick _ _ = xhx
  obtain ⟨z, X2, rfl, z0, z1, c3, a3⟩ := p_pick hc c2 (by omega) (by decide) hx
  clear hx
  obtain ⟨i, rfl⟩ := Int.eq_ofNat_of_zero_le z0
  have hi : i < 4 := by omega
  have hii : (i : Int) < 4 := by omega
  simp [thenD_pp, sliceCells_sl, sliceCells_z, sliceCells_nil, take_full, appS_sl, appK_ok, appS_none, thenD_ag, agP_nil, agP_cons]
  generalize hx : aCall T0 F_spec_l01Cur_pick _ _ = xhx
  obtain ⟨u, X3, rfl, u0, u1, c4, a4⟩ := p_pick hc c3 (by omega) (by decide) hx
  clear hx
  have a34 := ag_trans a3 a4
  have hX3 := a34.1
  simp at hX3
  have bo3 := a34.get (get_pre' (N := [(⟨[v], 1, 2⟩ : Blk)]) bo) (by simp; omega)
  have bs3 := a34.get (i := X1.length) (b := ⟨[v], 1, 2⟩) (by simp) (by simp; omega)
  have hsh3 := (hsh.grow (List.prefix_append X1 [(⟨[v], 1, 2⟩ : Blk)])).agree a34 (by simp; omega) (cur_w c2 c4)
  have hag3 : Agree X X3 [p] := by
    refine ⟨by omega, fun j hj hn => ?_⟩
    rw [a34.2 j (by simp; omega) hn, List.getElem?_append_left (by omega), a1.2 j (by simp; omega) hn, List.getElem?_append_left hj]
  have h00 := h.1.length_le
  have hh : hits [p] [X1.length] = false := hits_ne fun x hx y hy e => by
    simp at hx hy
    omega
  have iN : ∀ l, (X ++ [(⟨[.slice none 0 0], 1, 2⟩ : Blk)]).length ≤ l → X.length < l := fun l h => by simp at h; omega
  by_cases h0 : u = 0
  · simp [thenD_pp, sliceCells_sl, sliceCells_z, sliceCells_nil, take_full, appS_sl, appK_ok, appS_none, thenD_ag, agP_nil, agP_cons, h0, bs3, rd1_K, rdJ_ok]
    generalize hx : aCall T0 F_spec_l01Cur_badWord _ _ = xhx
    obtain ⟨w, X4, rfl, hw, c5, a5⟩ := p_badWord hc c4 (by omega) hx
    clear hx
    have hsh4 := hsh3.agree a5 (by simp; omega) (cur_w c4 c5)
    have bs4 := a5.get bs3 (by simp; omega)
    have bo4 := a5.get bo3 (by simp; omega)
    have hag4 := ag_trans hag3 a5
    obtain ⟨xs, l, o, c, cs, rfl, hb, hle, hP, hr, hl4, he, hput⟩ := hsh4.blk
    obtain ⟨l', o', ev, _, _, q0, q1⟩ := at_Entry hr (i := i) (by omega)
    cases ev
    rw [rd1_K, hb, rdJ_ok] at q0 q1
    have hxi := he _ (List.getElem_mem (l := xs) (n := i) (by omega))
    have hfit : o + i * 2 + 1 ≤ cs.length := by omega
    have e10 : List.take (o + i * 2) cs ++ strV w :: List.drop (o + i * 2 + 1) cs = splice cs (o + i * 2) (enc_Entry (w, xs[i].2)) := by
      have := splice_more cs [strV w] (o + i * 2) (.int .i64 xs[i].2) q1
      rw [show [strV w] ++ [(.int .i64 xs[i].2 : V)] = enc_Entry (w, xs[i].2) from rfl] at this
      rw [← this]
      simp [splice]
    have hP' := iN _ hP
    have hX4 := a5.1
    have hne : l ≠ X1.length := fun e => by
      subst e
      rw [bs4] at hb
      cases hb
    have hsW := hput i (w, xs[i].2) hi ⟨hw, hxi.2⟩
    rw [← e10] at hsW
    have bsW : (X4.set l ⟨List.take (o + i * 2) cs ++ strV w :: List.drop (o + i * 2 + 1) cs, 2, 2⟩)[X1.length]? = some ⟨[.slice (some ⟨l, o, none⟩) 4 c], 1, 2⟩ := by rw [gt_set hne]; exact bs4
    have boW : (X4.set l ⟨List.take (o + i * 2) cs ++ strV w :: List.drop (o + i * 2 + 1) cs, 2, 2⟩)[X.length]? = some ⟨[.slice none 0 0], 1, 2⟩ := by rw [gt_set (by omega)]; exact bo4
    have ivW : one (.slice (some ⟨l, o, none⟩) 4 c : V) = true := iv
    have cW : Cur M0 p cv (B + 5000) (X4.set l ⟨List.take (o + i * 2) cs ++ strV w :: List.drop (o + i * 2 + 1) cs, 2, 2⟩) := by
      obtain ⟨t1, t2, a', s', t3, t4, t5, t6⟩ := c5
      exact ⟨pf_set (by omega) t1, t2, a', s', by rw [gt_set (by omega)]; exact t3, t4, by omega, t6⟩
    have agW : Agree X (X4.set l ⟨List.take (o + i * 2) cs ++ strV w :: List.drop (o + i * 2 + 1) cs, 2, 2⟩) [p] := by
      refine ⟨by rw [List.length_set]; exact hag4.1, fun j hj hn => ?_⟩
      rw [gt_set (by omega)]
      exact hag4.2 j hj hn
    obtain ⟨xs', L', o2', nd', hk', hl', he'⟩ := hsW
    by_cases hpre : X3 <+: X4
    all_goals
      simp [thenD_pp, sliceCells_sl, sliceCells_z, sliceCells_nil, take_full, appS_sl, appK_ok, appS_none, thenD_ag, agP_nil, agP_cons, thenD_pre, thenD_call, hpre, a5, hh, hii, hb, hfit, wrn_K, wrJ_ok]
      simp [thenD_pp, sliceCells_sl, sliceCells_z, sliceCells_nil, take_full, appS_sl, appK_ok, appS_none, thenD_ag, agP_nil, agP_cons, bsW, boW, gs_of boW, ivW, rdn_K, rnJ_ok, wrn_K, wrJ_ok]
      obtain ⟨r1, r2, r3⟩ := bad_fin hpX h00 cW agW ⟨xs', o2'.rep, by omega, he'⟩ (fun l' o' n' c' e => by cases e; exact iN _ hP)
      exact ⟨_, _, ⟨rfl, rfl⟩, r1, r2.mono (by omega), r3⟩
  by_cases h1 : u = 1
  · simp [thenD_pp, sliceCells_sl, sliceCells_z, sliceCells_nil, take_full, appS_sl, appK_ok, appS_none, thenD_ag, agP_nil, agP_cons, h0, h1, bs3, rd1_K, rdJ_ok]
    generalize hx : aCall T0 F_spec_l01Cur_raw _ _ = xhx
    obtain ⟨r, X4, rfl, hr4, c5, a5⟩ := p_raw hc c4 (by omega) hx
    clear hx
    have hX4 := a5.1
    by_cases hpre : X3 <+: X4
    all_goals
      simp [thenD_pp, sliceCells_sl, sliceCells_z, sliceCells_nil, take_full, appS_sl, appK_ok, appS_none, thenD_ag, agP_nil, agP_cons, thenD_pre, thenD_call, hpre, a5, hh]
      generalize hx : aCall T0 F_spec_l01Cur_pick _ _ = xhx
      obtain ⟨y, X5, rfl, y0, y1, c6, a6⟩ := p_pick hc c5 (by omega) (by decide) hx
      clear hx
      obtain ⟨k, rfl⟩ := Int.eq_ofNat_of_zero_le y0
      have hk : k < 2 := by omega
      have hki : (k : Int) < 2 := by omega
      have g := int_get [r, 65536] _ rfl (k := k) hk
      simp only [List.map_cons, List.map_nil] at g
      have hin : ∀ x ∈ [r, (65536 : Int)], inI x := by
        intro x hx
        unfold inI at *
        simp only [List.mem_cons, List.not_mem_nil, or_false] at hx
        omega
      have hin2 := hin ([r, (65536 : Int)][k]'hk) (List.getElem_mem _)
      generalize ([r, (65536 : Int)])[k]'hk = wt at g hin2
      have hX5 := a6.1
      have a56 := ag_trans a5 a6
      have hsh4 := hsh3.agree a56 (by simp; omega) (cur_w c4 c6)
      have bs4 := a56.get bs3 (by simp; omega)
      have bo4 := a56.get bo3 (by simp; omega)
      have hag4 := ag_trans hag3 a56
      obtain ⟨xs, l, o, c, cs, rfl, hb, hle, hP, hr, hl4, he, hput⟩ := hsh4.blk
      obtain ⟨l', o', ev, _, _, q0, q1⟩ := at_Entry hr (i := i) (by omega)
      cases ev
      rw [rd1_K, hb, rdJ_ok] at q0 q1
      have hxi := he _ (List.getElem_mem (l := xs) (n := i) (by omega))
      have hfit : o + i * 2 + 1 + 1 ≤ cs.length := by omega
      have hh5 : hits [X5.length] [p] = false := hits_ne fun x hx y hy e => by
        simp at hx hy
        omega
      have hh6 : hits [X5.length] [p, p] = false := hits_ne fun x hx y hy e => by
        simp at hx hy
        omega
      have hXp : ¬ X5.length = p := by omega
      have hbX := fun N : Mem => get_pre' (N := N) hb
      have e10 : List.take (o + i * 2 + 1) cs ++ .int .i64 wt :: List.drop (o + i * 2 + 1 + 1) cs = splice cs (o + i * 2) (enc_Entry (xs[i].1, wt)) := by
        rw [show enc_Entry (xs[i].1, wt) = [strV xs[i].1, (.int .i64 wt : V)] from rfl, ← splice_pre q0 (by omega)]
        simp [splice]
      have hP' := iN _ hP
      have hlX := get_lt hb
      have hne : l ≠ X1.length := fun e => by
        subst e
        rw [bs4] at hb
        cases hb
      have hsh5 := hsh4.grow (List.prefix_append X5 [(⟨[.int .i64 r, .int .i64 65536], 1, 2⟩ : Blk)])
      obtain ⟨xs5, l5, o5, cc5, cs5, ev5, hb5, _, _, hr5, hl5, he5, hput5⟩ := hsh5.blk
      cases ev5
      rw [hbX] at hb5
      cases hb5
      have hsW := hput5 i (xs[i].1, wt) hi ⟨hxi.1, hin2⟩
      rw [← e10] at hsW
      obtain ⟨xs', L', o2', nd', hk', hl', he'⟩ := hsW
      have bsW : ((X5 ++ [(⟨[.int .i64 r, .int .i64 65536], 1, 2⟩ : Blk)]).set l ⟨List.take (o + i * 2 + 1) cs ++ .int .i64 wt :: List.drop (o + i * 2 + 1 + 1) cs, 2, 2⟩)[X1.length]? = some ⟨[.slice (some ⟨l, o, none⟩) 4 c], 1, 2⟩ := by rw [gt_set hne]; exact get_pre' bs4
      have boW : ((X5 ++ [(⟨[.int .i64 r, .int .i64 65536], 1, 2⟩ : Blk)]).set l ⟨List.take (o + i * 2 + 1) cs ++ .int .i64 wt :: List.drop (o + i * 2 + 1 + 1) cs, 2, 2⟩)[X.length]? = some ⟨[.slice none 0 0], 1, 2⟩ := by rw [gt_set (by omega)]; exact get_pre' bo4
      have ivW : one (.slice (some ⟨l, o, none⟩) 4 c : V) = true := iv
      have cW : Cur M0 p cv (B + 5000) ((X5 ++ [(⟨[.int .i64 r, .int .i64 65536], 1, 2⟩ : Blk)]).set l ⟨List.take (o + i * 2 + 1) cs ++ .int .i64 wt :: List.drop (o + i * 2 + 1 + 1) cs, 2, 2⟩) := by
        obtain ⟨t1, t2, a', s', t3, t4, t5, t6⟩ := c6.grow (List.prefix_append X5 [(⟨[.int .i64 r, .int .i64 65536], 1, 2⟩ : Blk)])
        exact ⟨pf_set (by omega) t1, t2, a', s', by rw [gt_set (by omega)]; exact t3, t4, by omega, t6⟩
      have agW : Agree X ((X5 ++ [(⟨[.int .i64 r, .int .i64 65536], 1, 2⟩ : Blk)]).set l ⟨List.take (o + i * 2 + 1) cs ++ .int .i64 wt :: List.drop (o + i * 2 + 1 + 1) cs, 2, 2⟩) [p] := by
        have h7 := ag_trans hag4 (agree_app (N := [(⟨[.int .i64 r, .int .i64 65536], 1, 2⟩ : Blk)]))
        refine ⟨by rw [List.length_set]; exact h7.1, fun j hj hn => ?_⟩
        rw [gt_set (by omega)]
        exact h7.2 j hj hn
      by_cases hpre3 : X4 <+: X5
      all_goals
        simp [thenD_pp, sliceCells_sl, sliceCells_z, sliceCells_nil, take_full, appS_sl, appK_ok, appS_none, thenD_ag, agP_nil, agP_cons, thenD_pre, thenD_call, hpre3, a6, hh, hh5, hh6, hXp, hki, g, hii, hbX, hfit, wrn_K, wrJ_ok]
        simp [thenD_pp, sliceCells_sl, sliceCells_z, sliceCells_nil, take_full, appS_sl, appK_ok, appS_none, thenD_ag, agP_nil, agP_cons, bsW, boW, gs_of boW, ivW, rdn_K, rnJ_ok, wrn_K, wrJ_ok]
        obtain ⟨r1, r2, r3⟩ := bad_fin hpX h00 cW agW ⟨xs', o2'.rep, by omega, he'⟩ (fun l' o' n' c' e => by cases e; exact iN _ hP)
        exact ⟨_, _, ⟨rfl, rfl⟩, r1, r2.mono (by omega), r3⟩
  by_cases h2 : u = 2
  · obtain ⟨xs, l, o, c, cs, rfl, hb, hle, hP, hr, hl4, he, hput⟩ := hsh3.blk
    obtain ⟨l', o', ev, _, q2, _, _⟩ := at_Entry hr (i := 0) (by omega)
    cases ev
    have hx0 := he _ (List.getElem_mem (l := xs) (n := 0) (by omega))
    have hfit : o + i * 2 + 2 ≤ cs.length := by omega
    have q2' : rdn X3 l o 2 = some (enc_Entry xs[0]) := by simpa using q2
    rw [rdn_K, hb] at q2'
    have e10 : List.take (o + i * 2) cs ++ strV xs[0].1 :: .int .i64 xs[0].2 :: List.drop (o + i * 2 + 2) cs = splice cs (o + i * 2) (enc_Entry xs[0]) := by simp [splice, enc_Entry]
    have hP' := iN _ hP
    have hsW := hput i (xs[0]) hi hx0
    rw [← e10] at hsW
    have hne : l ≠ X1.length := fun e => by
      subst e
      rw [bs3] at hb
      cases hb
    have bsW : (X3.set l ⟨List.take (o + i * 2) cs ++ strV xs[0].1 :: .int .i64 xs[0].2 :: List.drop (o + i * 2 + 2) cs, 2, 2⟩)[X1.length]? = some ⟨[.slice (some ⟨l, o, none⟩) 4 c], 1, 2⟩ := by rw [gt_set hne]; exact bs3
    have boW : (X3.set l ⟨List.take (o + i * 2) cs ++ strV xs[0].1 :: .int .i64 xs[0].2 :: List.drop (o + i * 2 + 2) cs, 2, 2⟩)[X.length]? = some ⟨[.slice none 0 0], 1, 2⟩ := by rw [gt_set (by omega)]; exact bo3
    have ivW : one (.slice (some ⟨l, o, none⟩) 4 c : V) = true := iv
    have cW : Cur M0 p cv (B + 5000) (X3.set l ⟨List.take (o + i * 2) cs ++ strV xs[0].1 :: .int .i64 xs[0].2 :: List.drop (o + i * 2 + 2) cs, 2, 2⟩) := by
      obtain ⟨t1, t2, a', s', t3, t4, t5, t6⟩ := c4
      exact ⟨pf_set (by omega) t1, t2, a', s', by rw [gt_set (by omega)]; exact t3, t4, by omega, t6⟩
    have agW : Agree X (X3.set l ⟨List.take (o + i * 2) cs ++ strV xs[0].1 :: .int .i64 xs[0].2 :: List.drop (o + i * 2 + 2) cs, 2, 2⟩) [p] := by
      refine ⟨by rw [List.length_set]; exact hag3.1, fun j hj hn => ?_⟩
      rw [gt_set (by omega)]
      exact hag3.2 j hj hn
    obtain ⟨xs', L', o2', nd', hk', hl', he'⟩ := hsW
    simp [thenD_pp, sliceCells_sl, sliceCells_z, sliceCells_nil, take_full, appS_sl, appK_ok, appS_none, thenD_ag, agP_nil, agP_cons, h0, h1, h2, bs3, rd1_K, rdJ_ok, rdn_K, q2', hii, hb, hfit, wrn_K, wrJ_ok]
    simp [thenD_pp, sliceCells_sl, sliceCells_z, sliceCells_nil, take_full, appS_sl, appK_ok, appS_none, thenD_ag, agP_nil, agP_cons, bsW, boW, gs_of boW, ivW, rdn_K, rnJ_ok, wrn_K, wrJ_ok]
    obtain ⟨r1, r2, r3⟩ := bad_fin hpX h00 cW agW ⟨xs', o2'.rep, by omega, he'⟩ (fun l' o' n' c' e => by cases e; exact iN _ hP)
    exact ⟨_, _, ⟨rfl, rfl⟩, r1, r2.mono (by omega), r3⟩
  by_cases h3 : u = 3
  · obtain ⟨xs, l, o, c, cs, rfl, hb, hle, hP, hr, hl4, he, hput⟩ := hsh3.blk
    have hP' := iN _ hP
    have hi' : (i : Int) ≤ 4 := by omega
    have ivW : ∀ c' : Nat, one (.slice (some ⟨l, o, none⟩) i c' : V) = true := fun _ => rfl
    have rt := rep_take hr i (by omega) (max 4 c)
    have boW : (X3.set X1.length ⟨[.slice (some ⟨l, o, none⟩) i (max 4 c)], 1, 2⟩)[X.length]? = some ⟨[.slice none 0 0], 1, 2⟩ := by rw [gt_set (by omega)]; exact bo3
    have hne : l ≠ X1.length := fun e => by
      subst e
      rw [bs3] at hb
      cases hb
    have cW : Cur M0 p cv (B + 5000) (X3.set X1.length ⟨[.slice (some ⟨l, o, none⟩) i (max 4 c)], 1, 2⟩) := by
      obtain ⟨t1, t2, a', s', t3, t4, t5, t6⟩ := c4
      exact ⟨pf_set (by omega) t1, t2, a', s', by rw [gt_set (by omega)]; exact t3, t4, by omega, t6⟩
    have agW : Agree X (X3.set X1.length ⟨[.slice (some ⟨l, o, none⟩) i (max 4 c)], 1, 2⟩) [p] := by
      refine ⟨by rw [List.length_set]; exact hag3.1, fun j hj hn => ?_⟩
      rw [gt_set (by omega)]
      exact hag3.2 j hj hn
    have rt' := rep_flat_keep fl_Entry rt (Z := X3.set X1.length ⟨[.slice (some ⟨l, o, none⟩) i (max 4 c)], 1, 2⟩) (fun l' o' n' c' e => by cases e; exact gt_set (Ne.symm hne))
    simp [thenD_pp, sliceCells_sl, sliceCells_z, sliceCells_nil, take_full, appS_sl, appK_ok, appS_none, thenD_ag, agP_nil, agP_cons, h0, h1, h2, h3, bs3, gs_of bs3, hi', hb, rd1_K, rdJ_ok, rdn_K, rnJ_ok, wrn_K, wrJ_ok, ivW, boW, gs_of boW]
    obtain ⟨r1, r2, r3⟩ := bad_fin hpX h00 cW agW ⟨_, rt', by simp; omega, fun e he2 => he e (List.mem_of_mem_take he2)⟩ (fun l' o' n' c' e => by cases e; exact hP')
    exact ⟨_, _, ⟨rfl, rfl⟩, r1, r2.mono (by omega), r3⟩
  · obtain ⟨xs, l, o, c, cs, rfl, hb, hle, hP, hr, hl4, he, hput⟩ := hsh3.blk
    simp [thenD_pp, sliceCells_sl, sliceCells_z, sliceCells_nil, take_full, appS_sl, appK_ok, appS_none, thenD_ag, agP_nil, agP_cons, h0, h1, h2, h3, bs3, bo3, gs_of bo3, iv, rdn_K, rnJ_ok, wrn_K, wrJ_ok]
    obtain ⟨r1, r2, r3⟩ := bad_fin hpX h00 c4 hag3 ⟨xs, hr, by omega, he⟩ (fun l' o' n' c' e => by cases e; exact iN _ hP)
    exact ⟨_, _, ⟨rfl, rfl⟩, r1, r2.mono (by omega), r3⟩
theorem cur_pre {M M0 X : Mem} {p : Nat} {cv : V} {B : Int} (hp : M <+: M0) (h : Cur M0 p cv B X) : Cur M p cv B X := by
  obtain ⟨h1, h2, r⟩ := h
  exact ⟨hp.trans h1, Nat.le_trans hp.length_le h2, r⟩
set_option maxHeartbeats 1000000 in
theorem c_spec_l01Cur_wordIn (M0 X : Mem) (p : Nat) (cv : V) (B : Int) (hc : CurH M0 cv) (h : Cur M0 p cv B X) (hB : B ≤ 100000000000) (v : V) (hs : ShR v X) :
    Sat (aCall T0 F_spec_l01Cur_wordIn [.pointer (some ⟨p, 0, none⟩), .agg #[v]] X) (CurW M0 p cv (B + 300) 200 X) := by
  obtain ⟨xs, hr, hl4, he⟩ := hs
  have iv := one_head hr.one
  obtain ⟨a, c, rfl⟩ := hr.slen
  have hpX := h.lt
  have hq := List.prefix_append X [(⟨[.slice a xs.length c], 1, 2⟩ : Blk)]
  have bX : (X ++ [(⟨[.slice a xs.length c], 1, 2⟩ : Blk)])[X.length]? = some ⟨[.slice a xs.length c], 1, 2⟩ := by simp
  by_cases h0 : 0 < xs.length
  · rw [aCall_eq T_spec_l01Cur_wordIn]; unfold A_spec_l01Cur_wordIn C_spec_l01Cur_wordIn; simp [thenD_pp, sliceCells_sl, sliceCells_z, sliceCells_nil, take_full, appS_sl, appK_ok, appS_none, thenD_ag, agP_nil, agP_cons, iv, h0, bX, rd1_K, rdJ_ok]
    generalize hx : aCall T0 F_spec_l01Cur_once _ _ = xhx
    obtain ⟨b, X1, rfl, c1, a1⟩ := p_once (n := 3) hc (h.grow hq) (by omega) (by decide) (by decide) hx
    clear hx
    have b1 := a1.get bX (by simp; omega)
    have hr1 : Rep (.sl ty_Entry) X1 [.slice a xs.length c] xs := rep_flat_keep fl_Entry (hr.mono hq) (fun l o n c' e => a1.2 l (by
      cases e
      obtain ⟨bk, q, _⟩ := rep_blk (hr.mono hq)
      exact get_lt q) (fun hm => by
      simp at hm
      subst hm
      cases e
      obtain ⟨bk, q1, q2, _⟩ := rep_blk (hr.mono hq)
      obtain ⟨_, _, a', s', t3, _⟩ := h.grow hq
      rw [t3] at q1
      cases q1
      exact absurd (show (1 : Nat) = 2 from q2) (by decide)))
    have ag1 : Agree X X1 [p] := ag_trans agree_app a1
    cases b with
    | true =>
      simp [thenD_pp, sliceCells_sl, sliceCells_z, sliceCells_nil, take_full, appS_sl, appK_ok, appS_none, thenD_ag, agP_nil, agP_cons]
      generalize hx : aCall T0 F_spec_l01Cur_badWord _ _ = xhx
      obtain ⟨w, X2, rfl, hw, c2, a2⟩ := p_badWord hc c1 (by omega) hx
      clear hx
      simp [thenD_pp, sliceCells_sl, sliceCells_z, sliceCells_nil, take_full, appS_sl, appK_ok, appS_none, thenD_ag, agP_nil, agP_cons]
      exact gc_sat ⟨w, rfl, hw, h.mono (by omega), ag_refl _ _⟩ ⟨w, rfl, hw, c2.mono (by omega), ag_trans ag1 a2⟩
    | false =>
      simp [thenD_pp, sliceCells_sl, sliceCells_z, sliceCells_nil, take_full, appS_sl, appK_ok, appS_none, thenD_ag, agP_nil, agP_cons, b1, rd1_K, rdJ_ok]
      generalize hx : aCall T0 F_spec_l01Cur_pick _ _ = xhx
      obtain ⟨y, X2, rfl, y0, y1, c2, a2⟩ := p_pick (n := (xs.length : Int)) hc c1 (by omega) (by omega) hx
      clear hx
      obtain ⟨k, rfl⟩ := Int.eq_ofNat_of_zero_le y0
      have hk : k < xs.length := by omega
      have hki : (k : Int) < xs.length := by omega
      have hr2 : Rep (.sl ty_Entry) X2 [.slice a xs.length c] xs := rep_flat_keep fl_Entry hr1 (fun l o n c' e => a2.2 l (by
        cases e
        obtain ⟨bk, q, _⟩ := rep_blk hr1
        exact get_lt q) (fun hm => by
        simp at hm
        subst hm
        cases e
        obtain ⟨bk, q1, q2, _⟩ := rep_blk hr1
        obtain ⟨_, _, a', s', t3, _⟩ := c1
        rw [t3] at q1
        cases q1
        exact absurd (show (1 : Nat) = 2 from q2) (by decide)))
      obtain ⟨l, o, rfl, _, _, q1, _⟩ := at_Entry hr2 (i := k) hk
      have hlp : l ≠ p := fun e => by
        subst e
        obtain ⟨bk, q1, q2, _⟩ := rep_blk hr2
        obtain ⟨_, _, a', s', t3, _⟩ := c2
        rw [t3] at q1
        cases q1
        exact absurd (show (1 : Nat) = 2 from q2) (by decide)
      have hh1 : hits [p] [X.length, X.length] = false := hits_ne fun x hx y hy e => by
        simp at hx hy
        omega
      have hh2 : hits [l] [p] = false := hits_ne fun x hx y hy e => by
        simp at hx hy
        omega
      have hwl : List.length (α := UInt8) xs[k].1 ≤ 200 := (he _ (List.getElem_mem hk)).1
      have hk' : k < xs.length := hk
      by_cases hpre : X1 <+: X2
      all_goals
        simp [thenD_pp, sliceCells_sl, sliceCells_z, sliceCells_nil, take_full, appS_sl, appK_ok, appS_none, thenD_ag, agP_nil, agP_cons, thenD_pre, thenD_call, hpre, a2, hh1, hh2, hlp, hk', hki, q1]
        exact gc_sat ⟨_, rfl, hwl, h.mono (by omega), ag_refl _ _⟩ ⟨_, rfl, hwl, c2.mono (by omega), ag_trans ag1 a2⟩
  · rw [aCall_eq T_spec_l01Cur_wordIn]; unfold A_spec_l01Cur_wordIn C_spec_l01Cur_wordIn; simp [thenD_pp, sliceCells_sl, sliceCells_z, sliceCells_nil, take_full, appS_sl, appK_ok, appS_none, thenD_ag, agP_nil, agP_cons, iv, h0, bX, rd1_K, rdJ_ok]
    generalize hx : aCall T0 F_spec_l01Cur_badWord _ _ = xhx
    obtain ⟨w, X2, rfl, hw, c2, a2⟩ := p_badWord hc (h.grow hq) (by omega) hx
    clear hx
    simp [thenD_pp, sliceCells_sl, sliceCells_z, sliceCells_nil, take_full, appS_sl, appK_ok, appS_none, thenD_ag, agP_nil, agP_cons]
    exact gc_sat ⟨w, rfl, hw, h.mono (by omega), ag_refl _ _⟩ ⟨w, rfl, hw, c2.mono (by omega), ag_trans agree_app a2⟩
theorem p_wordIn {M0 X : Mem} {p : Nat} {cv : V} {B : Int} (hc : CurH M0 cv) (h : Cur M0 p cv B X) (hB : B ≤ 100000000000) {v : V} (hs : ShR v X) {x : Option (V × Mem)} (hx : aCall T0 F_spec_l01Cur_wordIn [.pointer (some ⟨p, 0, none⟩), .agg #[v]] X = x) :
    ∃ (w : List UInt8) (X' : Mem), x = some (strV w, X') ∧ w.length ≤ 200 ∧ Cur M0 p cv (B + 300) X' ∧ Agree X X' [p] := by
  obtain ⟨v, X', rfl, w, e, hw, h1, h2⟩ := of_call hx (c_spec_l01Cur_wordIn M0 X p cv B hc h hB v hs)
  simp only at e h1 h2
  subst e
  exact ⟨w, X', rfl, hw, h1, h2⟩
theorem shr_agree {M0 X Y : Mem} {p : Nat} {cv : V} {B : Int} {v : V} (h : ShR v X) (hc : Cur M0 p cv B X) (a : Agree X Y [p]) : ShR v Y := by
  obtain ⟨xs, hr, hl, he⟩ := h
  refine ⟨xs, rep_flat_keep fl_Entry hr (fun l o n c e => ?_), hl, he⟩
  subst e
  obtain ⟨bk, q1, q2, _⟩ := rep_blk hr
  refine a.2 l (get_lt q1) (fun hm => ?_)
  simp at hm
  subst hm
  obtain ⟨_, _, a', s', t3, _⟩ := hc
  rw [t3] at q1
  cases q1
  exact absurd (show (1 : Nat) = 2 from q2) (by decide)
theorem shr_set {X : Mem} {l : Nat} {b b2 : Blk} {v : V} (h : ShR v X) (hb : X[l]? = some b) (hw : b.w = 1) : ShR v (X.set l b2) := by
  obtain ⟨xs, hr, hl, he⟩ := h
  refine ⟨xs, rep_flat_keep fl_Entry hr (fun j o n c e => gt_set fun hh => ?_), hl, he⟩
  subst e
  obtain ⟨bk, q1, q2, _⟩ := rep_blk hr
  rw [← hh, hb] at q1
  cases q1
  rw [hw] at q2
  exact absurd (show (1 : Nat) = 2 from q2) (by decide)
theorem shr_grow {X Y : Mem} {v : V} (h : ShR v X) (hp : X <+: Y) : ShR v Y := by
  obtain ⟨xs, hr, r⟩ := h
  exact ⟨xs, hr.mono hp, r⟩
set_option maxHeartbeats 4000000 in
theorem c_spec_DrawShelfAdd (M : Mem) (cv : V) (code : List UInt8) (h : Rep (.sl ty_Byte) M [cv] code) (hl : code.length ≤ 1048576) :
    ∃ (v : V) (e : ty_Entry.D) (X' : Mem), aCall T0 F_spec_DrawShelfAdd [cv] M = some (.tuple #[.agg #[v], .agg (enc_Entry e).toArray], X') ∧ M <+: X' ∧ ShR v X' ∧ entI e := by
  have hc : CurH M cv := ⟨code, h, hl⟩
  have hp0 := List.prefix_append M [(⟨[.slice none 0 0], 1, 2⟩ : Blk), ⟨[.string ⟨#[]⟩, .int .i64 0], 1, 2⟩]
  obtain ⟨k, k0, k1, e0⟩ := c_spec_l01Open (M ++ [(⟨[.slice none 0 0], 1, 2⟩ : Blk), ⟨[.string ⟨#[]⟩, .int .i64 0], 1, 2⟩]) cv code (h.mono hp0)
  have c0 := cur_pre hp0 (cur_open (M := M ++ [(⟨[.slice none 0 0], 1, 2⟩ : Blk), ⟨[.string ⟨#[]⟩, .int .i64 0], 1, 2⟩]) (cv := cv) k0 k1)
  obtain ⟨v, X1, e1, hs1, c1, a1⟩ := c_spec_l01Cur_badShelf M _ _ cv 0 hc c0 (by omega)
  have bo0 := a1.get (i := M.length) (b := ⟨[.slice none 0 0], 1, 2⟩) (by simp) (by simp)
  have bo1 := a1.get (i := M.length + 1) (b := ⟨[.string ⟨#[]⟩, .int .i64 0], 1, 2⟩) (by simp) (by simp)
  have hX1 := a1.1
  simp only [List.length_append, List.length_cons, List.length_nil, List.append_assoc, List.cons_append, List.nil_append, Nat.zero_add] at e0 e1 c0 c1 a1 hX1
  have iv1 : one v = true := by
    obtain ⟨xs, hr, _⟩ := hs1
    exact one_head hr.one
  obtain ⟨ca, cc, rfl⟩ := h.slen
  rw [aCall_eq T_spec_DrawShelfAdd]; unfold A_spec_DrawShelfAdd C_spec_DrawShelfAdd; simp [thenD_pp, sliceCells_sl, sliceCells_z, sliceCells_nil, take_full, appS_sl, appK_ok, appS_none, thenD_ag, agP_nil, agP_cons, e0, e1, iv1]
  generalize hx : aCall T0 F_spec_l01Cur_entry _ _ = xhx
  obtain ⟨e, X2, rfl, hee, c2, a2⟩ := p_entry hc (c1.grow (List.prefix_append X1 [(⟨[v], 1, 2⟩ : Blk)])) (by omega) hx
  clear hx
  have hX2 := a2.1
  simp at hX2
  have bs2 := a2.get (i := X1.length) (b := ⟨[v], 1, 2⟩) (by simp) (by simp; omega)
  have bo02 := a2.get (get_pre' (N := [(⟨[v], 1, 2⟩ : Blk)]) bo0) (by simp)
  have bo12 := a2.get (get_pre' (N := [(⟨[v], 1, 2⟩ : Blk)]) bo1) (by simp)
  have hs2 := shr_agree (shr_grow hs1 (List.prefix_append X1 [(⟨[v], 1, 2⟩ : Blk)])) (c1.grow (List.prefix_append X1 [(⟨[v], 1, 2⟩ : Blk)])) a2
  simp [thenD_pp, sliceCells_sl, sliceCells_z, sliceCells_nil, take_full, appS_sl, appK_ok, appS_none, thenD_ag, agP_nil, agP_cons]
  generalize hx : aCall T0 F_spec_l01Cur_pick _ _ = xhx
  obtain ⟨u, X3, rfl, u0, u1, c3, a3⟩ := p_pick hc (c2.grow (List.prefix_append X2 [(⟨enc_Entry e, 1, 2⟩ : Blk)])) (by omega) (by decide) hx
  clear hx
  have hX3 := a3.1
  simp at hX3
  have bs3 := a3.get (get_pre' (N := [(⟨enc_Entry e, 1, 2⟩ : Blk)]) bs2) (by simp; omega)
  have bo03 := a3.get (get_pre' (N := [(⟨enc_Entry e, 1, 2⟩ : Blk)]) bo02) (by simp)
  have bo13 := a3.get (get_pre' (N := [(⟨enc_Entry e, 1, 2⟩ : Blk)]) bo12) (by simp)
  have be3 := a3.get (i := X2.length) (b := ⟨enc_Entry e, 1, 2⟩) (by simp) (by simp; omega)
  have hs3 := shr_agree (shr_grow hs2 (List.prefix_append X2 [(⟨enc_Entry e, 1, 2⟩ : Blk)])) (c2.grow (List.prefix_append X2 [(⟨enc_Entry e, 1, 2⟩ : Blk)])) a3
  clear bo0 bo1
  have hhA : hits [M.length] [X1.length] = false := hits_ne fun x hx y hy e => by
    simp at hx hy
    omega
  have hhB : hits [X2.length] [M.length] = false := hits_ne fun x hx y hy e => by
    simp at hx hy
    omega
  by_cases h0 : u = 0
  · simp [thenD_pp, sliceCells_sl, sliceCells_z, sliceCells_nil, take_full, appS_sl, appK_ok, appS_none, thenD_ag, agP_nil, agP_cons, h0, bs3, iv1, rdn_K, rnJ_ok]
    generalize hx : aCall T0 F_spec_l01Cur_wordIn _ _ = xhx
    obtain ⟨w, X4, rfl, hw, c4, a4⟩ := p_wordIn hc c3 (by omega) hs3 hx
    clear hx
    have hX4 := a4.1
    have bs4 := a4.get bs3 (by simp; omega)
    have bo04 := a4.get bo03 (by simp)
    have bo14 := a4.get bo13 (by simp)
    have be4 := a4.get be3 (by simp; omega)
    have hs4 := shr_agree hs3 c3 a4
    simp [thenD_pp, sliceCells_sl, sliceCells_z, sliceCells_nil, take_full, appS_sl, appK_ok, appS_none, thenD_ag, agP_nil, agP_cons, be4, gs_of be4, wrn_K, wrJ_ok]
    obtain ⟨e2, hee2⟩ : ∃ e2 : ty_Entry.D, e2 = (w, e.2) := ⟨_, rfl⟩
    have he2 : entI e2 := by rw [hee2]; exact ⟨hw, hee.2⟩
    generalize hW : (X4.set X2.length ⟨[strV w, .int .i64 e.2], 1, 2⟩ : Mem) = W
    have be : W[X2.length]? = some ⟨enc_Entry e2, 1, 2⟩ := by rw [← hW, hee2]; exact gs_of be4 _
    have bs : W[X1.length]? = some ⟨[v], 1, 2⟩ := by rw [← hW, gt_set (by omega)]; exact bs4
    have bo0 : W[M.length]? = some ⟨[.slice none 0 0], 1, 2⟩ := by rw [← hW, gt_set (by omega)]; exact bo04
    have bo1 : W[M.length + 1]? = some ⟨[.string ⟨#[]⟩, .int .i64 0], 1, 2⟩ := by rw [← hW, gt_set (by omega)]; exact bo14
    have hsW : ShR v W := hW ▸ shr_set hs4 be4 rfl
    have cW : Cur M (M.length + 1 + 1) (.slice ca code.length cc) 1000000 W := by
      obtain ⟨t1, t2, a', s', t3, t4, t5, t6⟩ := c4
      exact ⟨hW ▸ pf_set (by omega) t1, by omega, a', s', by rw [← hW, gt_set (by omega)]; exact t3, t4, by omega, t6⟩
    obtain ⟨xs, hr, hl4, he4⟩ := id hsW
    have iv := one_head hr.one
    obtain ⟨av, ac, rfl⟩ := hr.slen
    have b0' : ∀ b : Blk, (W.set M.length b)[X2.length]? = W[X2.length]? := fun b => gt_set (by omega)
    have b1' : ∀ b : Blk, (W.set M.length b)[M.length + 1]? = W[M.length + 1]? := fun b => gt_set (by omega)
    have b2' : ∀ b b' : Blk, ((W.set M.length b).set (M.length + 1) b')[M.length]? = some b := fun b b' => by rw [gt_set (by omega)]; exact gs_of bo0 b
    have b3' : ∀ b b' : Blk, ((W.set M.length b).set (M.length + 1) b')[M.length + 1]? = some b' := fun b b' => List.getElem?_set_self (by rw [List.length_set]; exact get_lt bo1)
    simp [thenD_pp, sliceCells_sl, sliceCells_z, sliceCells_nil, take_full, appS_sl, appK_ok, appS_none, thenD_ag, agP_nil, agP_cons, bs, be, bo0, bo1, gs_of bo0, iv, b0', b1', b2', b3', thenD_agree, agree_set, hhA, hhB, rdn_K, rnJ_ok, wrn_K, wrJ_ok]
    exact ⟨_, e2.1, e2.2, _, rfl, pf_set (by omega) (pf_set (Nat.le_refl _) cW.1), shr_set (shr_set hsW bo0 rfl) (by rw [b1']; exact bo1) rfl, he2⟩
  by_cases h1 : u = 1
  · simp [thenD_pp, sliceCells_sl, sliceCells_z, sliceCells_nil, take_full, appS_sl, appK_ok, appS_none, thenD_ag, agP_nil, agP_cons, h0, h1]
    generalize hx : aCall T0 F_spec_l01Cur_raw _ _ = xhx
    obtain ⟨r, X4, rfl, hr4, c4, a4⟩ := p_raw hc c3 (by omega) hx
    clear hx
    have hX4 := a4.1
    simp [thenD_pp, sliceCells_sl, sliceCells_z, sliceCells_nil, take_full, appS_sl, appK_ok, appS_none, thenD_ag, agP_nil, agP_cons]
    generalize hx : aCall T0 F_spec_l01Cur_pick _ _ = xhx
    obtain ⟨y, X5, rfl, y0, y1, c5, a5⟩ := p_pick hc (c4.grow (List.prefix_append X4 [(⟨[.int .i64 r, .int .i64 65535, .int .i64 65536], 1, 2⟩ : Blk)])) (by omega) (by decide) hx
    clear hx
    obtain ⟨k, rfl⟩ := Int.eq_ofNat_of_zero_le y0
    have hk : k < 3 := by omega
    have hki : (k : Int) < 3 := by omega
    have g := int_get [r, 65535, 65536] _ rfl (k := k) hk
    simp only [List.map_cons, List.map_nil] at g
    have hin : ∀ x ∈ [r, 65535, (65536 : Int)], inI x := by
      intro x hx
      unfold inI at *
      simp only [List.mem_cons, List.not_mem_nil, or_false] at hx
      omega
    have hin2 := hin ([r, 65535, (65536 : Int)][k]'hk) (List.getElem_mem _)
    generalize ([r, 65535, (65536 : Int)])[k]'hk = wt at g hin2
    have hX5 := a5.1
    simp at hX5
    have bl := a5.get (i := X4.length) (b := ⟨[.int .i64 r, .int .i64 65535, .int .i64 65536], 1, 2⟩) (by simp) (by simp; omega)
    have a45 : Agree X3 X5 [M.length + 1 + 1] := ag_trans a4 (ag_trans agree_app a5)
    have bs4 := a45.get bs3 (by simp; omega)
    have bo04 := a45.get bo03 (by simp only [List.mem_singleton]; omega)
    have bo14 := a45.get bo13 (by simp only [List.mem_singleton]; omega)
    have be4 := a45.get be3 (by simp; omega)
    have hs4 := shr_agree hs3 c3 a45
    simp [thenD_pp, sliceCells_sl, sliceCells_z, sliceCells_nil, take_full, appS_sl, appK_ok, appS_none, thenD_ag, agP_nil, agP_cons, hki, bl, g, be4, gs_of be4, rd1_K, rdJ_ok, wrn_K, wrJ_ok]
    obtain ⟨e2, hee2⟩ : ∃ e2 : ty_Entry.D, e2 = (e.1, wt) := ⟨_, rfl⟩
    have he2 : entI e2 := by rw [hee2]; exact ⟨hee.1, hin2⟩
    generalize hW : (X5.set X2.length ⟨[strV e.1, .int .i64 wt], 1, 2⟩ : Mem) = W
    have be : W[X2.length]? = some ⟨enc_Entry e2, 1, 2⟩ := by rw [← hW, hee2]; exact gs_of be4 _
    have bs : W[X1.length]? = some ⟨[v], 1, 2⟩ := by rw [← hW, gt_set (by omega)]; exact bs4
    have bo0 : W[M.length]? = some ⟨[.slice none 0 0], 1, 2⟩ := by rw [← hW, gt_set (by omega)]; exact bo04
    have bo1 : W[M.length + 1]? = some ⟨[.string ⟨#[]⟩, .int .i64 0], 1, 2⟩ := by rw [← hW, gt_set (by omega)]; exact bo14
    have hsW : ShR v W := hW ▸ shr_set hs4 be4 rfl
    have cW : Cur M (M.length + 1 + 1) (.slice ca code.length cc) 1000000 W := by
      obtain ⟨t1, t2, a', s', t3, t4, t5, t6⟩ := c5
      exact ⟨hW ▸ pf_set (by omega) t1, by omega, a', s', by rw [← hW, gt_set (by omega)]; exact t3, t4, by omega, t6⟩
    obtain ⟨xs, hr, hl4, he4⟩ := id hsW
    have iv := one_head hr.one
    obtain ⟨av, ac, rfl⟩ := hr.slen
    have b0' : ∀ b : Blk, (W.set M.length b)[X2.length]? = W[X2.length]? := fun b => gt_set (by omega)
    have b1' : ∀ b : Blk, (W.set M.length b)[M.length + 1]? = W[M.length + 1]? := fun b => gt_set (by omega)
    have b2' : ∀ b b' : Blk, ((W.set M.length b).set (M.length + 1) b')[M.length]? = some b := fun b b' => by rw [gt_set (by omega)]; exact gs_of bo0 b
    have b3' : ∀ b b' : Blk, ((W.set M.length b).set (M.length + 1) b')[M.length + 1]? = some b' := fun b b' => List.getElem?_set_self (by rw [List.length_set]; exact get_lt bo1)
    simp [thenD_pp, sliceCells_sl, sliceCells_z, sliceCells_nil, take_full, appS_sl, appK_ok, appS_none, thenD_ag, agP_nil, agP_cons, bs, be, bo0, bo1, gs_of bo0, iv, b0', b1', b2', b3', thenD_agree, agree_set, hhA, hhB, rdn_K, rnJ_ok, wrn_K, wrJ_ok]
    exact ⟨_, e2.1, e2.2, _, rfl, pf_set (by omega) (pf_set (Nat.le_refl _) cW.1), shr_set (shr_set hsW bo0 rfl) (by rw [b1']; exact bo1) rfl, he2⟩
  · simp [thenD_pp, sliceCells_sl, sliceCells_z, sliceCells_nil, take_full, appS_sl, appK_ok, appS_none, thenD_ag, agP_nil, agP_cons, h0, h1]
    obtain ⟨W, hW⟩ : ∃ W, W = X3 := ⟨_, rfl⟩
    subst hW
    have be := be3
    have bs := bs3
    have bo0 := bo03
    have bo1 := bo13
    have hsW := hs3
    have cW := c3
    obtain ⟨e2, hee2⟩ : ∃ e2 : ty_Entry.D, e2 = e := ⟨_, rfl⟩
    have he2 : entI e2 := hee2 ▸ hee
    rw [← hee2] at be
    obtain ⟨xs, hr, hl4, he4⟩ := id hsW
    have iv := one_head hr.one
    obtain ⟨av, ac, rfl⟩ := hr.slen
    have b0' : ∀ b : Blk, (W.set M.length b)[X2.length]? = W[X2.length]? := fun b => gt_set (by omega)
    have b1' : ∀ b : Blk, (W.set M.length b)[M.length + 1]? = W[M.length + 1]? := fun b => gt_set (by omega)
    have b2' : ∀ b b' : Blk, ((W.set M.length b).set (M.length + 1) b')[M.length]? = some b := fun b b' => by rw [gt_set (by omega)]; exact gs_of bo0 b
    have b3' : ∀ b b' : Blk, ((W.set M.length b).set (M.length + 1) b')[M.length + 1]? = some b' := fun b b' => List.getElem?_set_self (by rw [List.length_set]; exact get_lt bo1)
    simp [thenD_pp, sliceCells_sl, sliceCells_z, sliceCells_nil, take_full, appS_sl, appK_ok, appS_none, thenD_ag, agP_nil, agP_cons, bs, be, bo0, bo1, gs_of bo0, iv, b0', b1', b2', b3', thenD_agree, agree_set, hhA, hhB, rdn_K, rnJ_ok, wrn_K, wrJ_ok]
    exact ⟨_, e2.1, e2.2, _, rfl, pf_set (by omega) (pf_set (Nat.le_refl _) cW.1), shr_set (shr_set hsW bo0 rfl) (by rw [b1']; exact bo1) rfl, he2⟩

def nextE (e : ty_Entry.D) : ty_Entry.D := (e.1, ((e.2 : Int) + 1).tmod 65536)
theorem entB_next {e : ty_Entry.D} (h : entB e = true) : entB (nextE e) = true := by
  unfold entB at h ⊢
  simp only [Bool.and_eq_true, decide_eq_true_eq] at h ⊢
  obtain ⟨h1, h2, h3⟩ := h
  have key : ∀ z : Int, 0 ≤ z → 0 ≤ (z + 1).tmod 65536 ∧ (z + 1).tmod 65536 ≤ 65535 := fun z hz => by
    have t1 := Int.tmod_nonneg (65536 : Int) (show 0 ≤ z + 1 by omega)
    have t2 := Int.tmod_lt_of_pos (z + 1) (show (0 : Int) < 65536 by decide)
    omega
  exact ⟨h1, key _ h2⟩
theorem idx_inv {α : Type} {p : α → Bool} {xs : List α} {i : Nat} (hi : i < xs.length) (h : idx p xs = i) : p xs[i] = true ∧ ∀ k (hk : k < xs.length), k < i → p xs[k] = false := by
  rcases idx_cases p xs with ⟨h1, _⟩ | ⟨j, hj, h1, h2, h3⟩
  · omega
  · have : j = i := by omega
    subst this
    exact ⟨h3, h2⟩
theorem isW_t {w : List UInt8} {e : ty_Entry.D} : isW w e = true ↔ e.1 = w := by unfold isW; simp
theorem shelf_len {xs : List ty_Entry.D} (h : shelfB xs = true) : xs.length = 4 := by
  simp only [shelfB, Bool.and_eq_true, decide_eq_true_eq] at h
  exact h.1
theorem isW_f {w : List UInt8} {e : ty_Entry.D} : isW w e = false ↔ e.1 ≠ w := by unfold isW; simp
theorem shelf_set {xs : List ty_Entry.D} {g : ty_Entry.D} {j : Nat} (h : shelfB xs = true) (hg : entB g = true) (hn : idx (isW g.1) xs < 0) (hj : j < xs.length) : shelfB (xs.set j g) = true ∧ idx (isW g.1) (xs.set j g) = j := by
  have hl := shelf_len h
  have hno : ∀ i (hi : i < xs.length), isW g.1 xs[i] = false := by
    rcases idx_cases (isW g.1) xs with ⟨_, h1⟩ | ⟨i, _, h1, _⟩
    · exact h1
    · omega
  have hidx : idx (isW g.1) (xs.set j g) = j := by
    refine idx_some (by simpa using hj) (fun i hi hij => ?_) ?_
    · rw [List.getElem_set_ne (by omega)]
      exact hno i (by simpa using hi)
    · rw [List.getElem_set_self]
      exact isW_t.2 rfl
  refine ⟨?_, hidx⟩
  unfold shelfB
  rw [List.length_set, hl]
  simp only [decide_true, Bool.true_and, List.all_eq_true, List.mem_range]
  intro i hi
  have hix : i < xs.length := by omega
  unfold slotB
  rw [List.getElem?_eq_getElem (by simpa using hix)]
  simp only
  by_cases hij : j = i
  · subst hij
    rw [List.getElem_set_self, hg, hidx]
    simp
  · rw [List.getElem_set_ne hij]
    have hs := shelf_slot h hix
    simp only [slotB, List.getElem?_eq_getElem hix, Bool.or_eq_true, Bool.and_eq_true, decide_eq_true_eq] at hs
    rcases hs with hs | ⟨hs, hs2⟩
    · rw [hs]; rfl
    · obtain ⟨q1, q2⟩ := idx_inv hix hs2
      have : idx (isW xs[i].1) (xs.set j g) = i := by
        refine idx_some (by simpa using hix) (fun k hk hki => ?_) ?_
        · by_cases hjk : j = k
          · subst hjk
            rw [List.getElem_set_self]
            exact isW_f.2 (fun e => isW_f.1 (hno i hix) e.symm)
          · rw [List.getElem_set_ne hjk]
            exact q2 k (by simpa using hk) hki
        · rw [List.getElem_set_ne hij]
          exact isW_t.2 rfl
      rw [hs, this]
      simp
theorem shelf_book {xs : List ty_Entry.D} {e : ty_Entry.D} (h0 : addC xs e = 0) : ∃ j : Nat, j < 4 ∧ xs.length = 4 ∧ addR xs e = xs.set j e ∧ findI (xs.set j e) e.1 = j ∧ findI xs e.1 = -1 ∧ setOk (xs.set j e) (nextE e) = true ∧ setR (xs.set j e) (nextE e) = xs.set j (nextE e) ∧ shelfB (xs.set j (nextE e)) = true ∧ dropOk (xs.set j (nextE e)) e.1 = true ∧ dropR (xs.set j (nextE e)) e.1 = xs ∧ entB e = true ∧ wordB e.1 = true := by
  rcases add_cases xs e with ⟨ha, _⟩ | ⟨ha, _⟩ | ⟨ha, _⟩ | ⟨_, h1, h2, h3, j, hj, h4⟩
  · omega
  · omega
  · omega
  have hl := shelf_len h1
  have hw : wordB e.1 = true := by
    unfold entB at h2
    simp only [Bool.and_eq_true] at h2
    exact h2.1
  obtain ⟨m1, m2⟩ := shelf_set h1 h2 h3 hj
  have h2n := entB_next h2
  obtain ⟨n1, n2⟩ := shelf_set (g := nextE e) h1 h2n h3 hj
  have f1 : findI (xs.set j e) e.1 = j := by unfold findI; rw [if_pos ⟨m1, hw⟩]; exact m2
  have f2 : findI xs e.1 = -1 := by
    unfold findI
    rw [if_pos ⟨h1, hw⟩]
    rcases idx_cases (isW e.1) xs with ⟨q, _⟩ | ⟨i, _, q, _⟩
    · exact q
    · omega
  have f3 : findI (xs.set j e) (nextE e).1 = j := f1
  have s1 : setOk (xs.set j e) (nextE e) = true := by
    unfold setOk
    rw [h2n, f3]
    simp
  have s2 : setR (xs.set j e) (nextE e) = xs.set j (nextE e) := by
    unfold setR
    rw [if_pos s1, f3]
    simp
  have f4 : findI (xs.set j (nextE e)) e.1 = j := by unfold findI; rw [if_pos ⟨n1, hw⟩]; exact n2
  have d1 : dropOk (xs.set j (nextE e)) e.1 = true := by
    unfold dropOk
    rw [f4]
    simp
  have hxj : xs[j] = (([], 0) : ty_Entry.D) := by
    have q := (idx_inv hj h4).1
    have q := isW_t.1 q
    rcases shelf_none h1 hj with hh | ⟨_, hh⟩
    · simp only [noneB, Bool.and_eq_true, decide_eq_true_eq] at hh
      exact Prod.ext hh.1 hh.2
    · exact absurd q hh
  have d2 : dropR (xs.set j (nextE e)) e.1 = xs := by
    unfold dropR
    rw [if_pos d1, f4]
    simp only [Int.toNat_natCast, List.set_set]
    rw [← hxj]
    exact List.set_getElem_self hj
  refine ⟨j, by omega, hl, ?_, f1, f2, s1, s2, n1, d1, d2, h2, hw⟩
  unfold addR
  rw [if_pos h0, h4]
  rfl
set_option maxHeartbeats 8000000 in
set_option maxRecDepth 20000 in
theorem law_laws_FnShelfBook (M : Mem) (avs : List V) (_ : ∀ b ∈ M, b.st ≠ 2) (h : Ins [(false, (.sl .u8))] M avs) : ∃ M', aCall T0 F_laws_FnShelfBook avs M = some (.bool true, M') := by
  obtain ⟨v, _, code, rfl, h1, f1, h⟩ := ins_cons h
  obtain rfl := ins_nil h
  have hr := repv_one h1
  obtain ⟨a0, c0, rfl⟩ := hr.slen
  have hb := c_laws_big M a0 code.length c0
  by_cases hg : 1048576 < code.length
  · rw [decide_eq_true hg] at hb
    refine ⟨M, ?_⟩
    rw [aCall_eq T_laws_FnShelfBook]; unfold A_laws_FnShelfBook C_laws_FnShelfBook; simp [thenD_pp, sliceCells_sl, sliceCells_z, sliceCells_nil, take_full, appS_sl, appK_ok, appS_none, thenD_ag, agP_nil, agP_cons, hb]
  rw [decide_eq_false hg] at hb
  obtain ⟨v, e, X1, e1, p1, ⟨xs, r1, l4, he⟩, hee⟩ := c_spec_DrawShelfAdd M _ code hr (by omega)
  have hf : ∀ e ∈ xs, List.length (α := UInt8) e.1 ≤ 9223372036854775807 := fun e h => by
    have : List.length (α := UInt8) e.1 ≤ 200 := (he e h).1
    omega
  have hel : List.length (α := UInt8) e.1 ≤ 200 := hee.1
  have hef : List.length (α := UInt8) e.1 ≤ 9223372036854775807 := by omega
  have iv := one_head r1.one
  obtain ⟨av, ac, rfl⟩ := r1.slen
  have q1 := List.prefix_append X1 [(⟨[.slice av xs.length ac], 1, 2⟩ : Blk), ⟨enc_Entry e, 1, 2⟩]
  have b1 : (X1 ++ [(⟨[.slice av xs.length ac], 1, 2⟩ : Blk), ⟨enc_Entry e, 1, 2⟩])[X1.length]? = some ⟨[.slice av xs.length ac], 1, 2⟩ := by simp
  have b1' : (X1 ++ [(⟨[.slice av xs.length ac], 1, 2⟩ : Blk), ⟨enc_Entry e, 1, 2⟩])[X1.length + 1]? = some ⟨enc_Entry e, 1, 2⟩ := by simp
  obtain ⟨X2, u2, p2, e2, r2⟩ := d_spec_ShelfAdd _ _ xs (r1.mono q1) (by omega) hf e hef
  have i2 := one_head r2.one
  have q2 := List.prefix_append X2 [(⟨[u2], 1, 2⟩ : Blk)]
  have b2 := get_pre (p2.trans q2) b1
  have b2' := get_pre (p2.trans q2) b1'
  obtain ⟨X3, u3, L3, p3, e3, o3, _⟩ := d_impl_ShelfAdd _ _ xs ((r1.mono q1).mono (p2.trans q2)) (by omega) hf e hef
  have r3 := o3.rep
  have i3 := one_head r3.one
  by_cases ha : addC xs e = 0
  rotate_left
  · rw [aCall_eq T_laws_FnShelfBook]; unfold A_laws_FnShelfBook C_laws_FnShelfBook; simp [thenD_pp, sliceCells_sl, sliceCells_z, sliceCells_nil, take_full, appS_sl, appK_ok, appS_none, thenD_ag, agP_nil, agP_cons, hb, e1, iv, e2, i2, b2, b2', e3, i3, ha, rdn_K, rnJ_ok, wrn_K, wrJ_ok]
    exact gc_ex _ _ _
  obtain ⟨j, hj4, hxl, t1, t2, t3, t4, t5, t6, t7, t8, t9, t10⟩ := shelf_book ha
  rw [ha] at e2 e3
  rw [t1] at r3
  have hml : (xs.set j e).length = 4 := by simp [hxl]
  have hmf : ∀ x ∈ xs.set j e, List.length (α := UInt8) x.1 ≤ 9223372036854775807 := fun x hx => by
    rcases List.mem_or_eq_of_mem_set hx with h | rfl
    · exact hf x h
    · exact hef
  have q3 := List.prefix_append X3 [(⟨[u3], 1, 2⟩ : Blk)]
  have b3 : (X3 ++ [(⟨[u3], 1, 2⟩ : Blk)])[X3.length]? = some ⟨[u3], 1, 2⟩ := by simp
  have b31 := get_pre (p3.trans q3) b2
  have b32 := get_pre (p3.trans q3) b2'
  have r3' := r3.mono q3
  have rx3 := ((r1.mono q1).mono (p2.trans q2)).mono (p3.trans q3)
  have e4 := c_impl_ShelfFind _ _ _ r3' (by omega) hmf e.1 hef
  have e5 := c_impl_ShelfFind _ _ xs rx3 (by omega) hf e.1 hef
  rw [t2] at e4
  rw [t3] at e5
  obtain ⟨a3, c3, rfl⟩ := r3.slen
  rw [hml] at r3' r3 e3 e4 i3 b3 b31 b32 q3 rx3 e5
  obtain ⟨l3, o3', rfl, _, g3, _⟩ := at_Entry r3' (i := j) (by omega)
  rw [List.getElem_set_self] at g3
  have hj : (j : Int) < 4 := by omega
  have hj0 : ¬ ((j : Int) < 0) := by omega
  have hj1 : ¬ (4 ≤ j) := by omega
  have ez : ∀ x : ty_Entry.D, eqCells [2, 1] (enc_Entry x) (enc_Entry x) = some true := fun x => by simp [eqCells, enc_Entry]
  have hj2 : ¬ ((4 : Int) ≤ j) := by omega
  have hn := entB_next t9
  obtain ⟨hw0, hw1⟩ : 0 ≤ (e.2 : Int) ∧ (e.2 : Int) ≤ 65535 := by
    unfold entB at t9
    simp only [Bool.and_eq_true, decide_eq_true_eq] at t9
    exact t9.2
  have w1 : ∀ z : Int, 0 ≤ z → z ≤ 65535 → IntKind.i64.wrap (z + 1) = z + 1 := fun z h0 h1 => wrap_i64 (by omega) (by omega)
  have w1 := w1 e.2 hw0 hw1
  have hnl : List.length (α := UInt8) (nextE e).1 ≤ 9223372036854775807 := hef
  have q4 := List.prefix_append X3 [(⟨[.slice (some ⟨l3, o3', none⟩) 4 c3], 1, 2⟩ : Blk), ⟨enc_Entry (nextE e), 1, 2⟩]
  obtain ⟨X5, u5, L5, p5, e6, o5, _⟩ := d_impl_ShelfSet (X3 ++ [(⟨[.slice (some ⟨l3, o3', none⟩) 4 c3], 1, 2⟩ : Blk), ⟨enc_Entry (nextE e), 1, 2⟩]) _ _ (r3.mono q4) (by omega) hmf (nextE e) hnl
  rw [t4] at e6
  rw [t5] at o5
  have r5 := o5.rep
  have i5 := one_head r5.one
  have q5 := List.prefix_append X5 [(⟨[u5], 1, 2⟩ : Blk)]
  have hol : (xs.set j (nextE e)).length = 4 := by simp [hxl]
  have hof : ∀ x ∈ xs.set j (nextE e), List.length (α := UInt8) x.1 ≤ 9223372036854775807 := fun x hx => by
    rcases List.mem_or_eq_of_mem_set hx with h | rfl
    · exact hf x h
    · exact hnl
  obtain ⟨X6, u6, L6, p6, e7, o6, _⟩ := d_impl_ShelfDrop (X5 ++ [(⟨[u5], 1, 2⟩ : Blk)]) _ _ (r5.mono q5) (by omega) hof e.1 hef
  rw [t7] at e7
  rw [t8] at o6
  have r6 := o6.rep
  have i6 := one_head r6.one
  have q6 := List.prefix_append X6 [(⟨[u6], 1, 2⟩ : Blk)]
  have bf5 : X5[X3.length + 1]? = some ⟨enc_Entry (nextE e), 1, 2⟩ := get_pre p5 (by simp)
  have b35 : X5[X3.length]? = some ⟨[.slice (some ⟨l3, o3', none⟩) 4 c3], 1, 2⟩ := get_pre p5 (by simp)
  have b315 : X5[X1.length]? = some ⟨[.slice av 4 ac], 1, 2⟩ := get_pre p5 (get_pre q4 (by have := get_pre p3 b2; rw [hxl] at this; exact this))
  have b325 : X5[X1.length + 1]? = some ⟨enc_Entry e, 1, 2⟩ := get_pre p5 (get_pre q4 (get_pre p3 b2'))
  have s6 := c_spec_ShelfOk X6 _ _ ((r5.mono q5).mono p6) (by omega) hof
  have s6 := c_spec_ShelfOk (X6 ++ [(⟨[u6], 1, 2⟩ : Blk)]) _ _ (((r5.mono q5).mono p6).mono q6) (by omega) hof
  rw [t6] at s6
  have rx6 := ((((r1.mono q1).mono (p2.trans q2)).mono (p3.trans q4)).mono (p5.trans q5)).mono (p6.trans q6)
  have s7 := c_laws_sameEntries _ _ _ xs (r6.mono q6) rx6 (by omega)
  obtain ⟨a5, c5, rfl⟩ := r5.slen
  have r5' := ((r5.mono q5).mono p6).mono q6
  obtain ⟨l5, o5', rfl, _, g5, _⟩ := at_Entry r5' (i := j) (by omega)
  rw [List.getElem_set_self] at g5
  rw [hol] at e6 e7 i5 s6
  have fx : ∀ (N : Mem) (l : Nat) (b : Blk), X5[l]? = some b → (X5 ++ N)[l]? = some b := fun N l b hb => get_pre' hb
  have f35 := fun N : Mem => get_pre' (N := N) b35
  have f315 := fun N : Mem => get_pre' (N := N) b315
  have f325 := fun N : Mem => get_pre' (N := N) b325
  have ff5 := fun N : Mem => get_pre' (N := N) bf5
  have b6o : (X6 ++ [(⟨[u6], 1, 2⟩ : Blk)])[X5.length]? = some ⟨[.slice (some ⟨l5, o5', none⟩) 4 c5], 1, 2⟩ := get_pre' (get_pre p6 (by rw [← hol]; simp))
  have b6f : (X6 ++ [(⟨[u6], 1, 2⟩ : Blk)])[X3.length + 1]? = some ⟨enc_Entry (nextE e), 1, 2⟩ := get_pre' (get_pre p6 (ff5 _))
  have b6s : (X6 ++ [(⟨[u6], 1, 2⟩ : Blk)])[X1.length]? = some ⟨[.slice av 4 ac], 1, 2⟩ := get_pre' (get_pre p6 (f315 _))
  have hnx : enc_Entry (nextE e) = [strV e.1, .int .i64 (((e.2 : Int) + 1).tmod 65536)] := rfl
  rw [hxl] at e1 iv e2 e3 b1 b2
  rw [hnx] at e6 g5 b6f
  rw [hxl] at s7
  rw [aCall_eq T_laws_FnShelfBook]; unfold A_laws_FnShelfBook C_laws_FnShelfBook; simp [thenD_pp, sliceCells_sl, sliceCells_z, sliceCells_nil, take_full, appS_sl, appK_ok, appS_none, thenD_ag, agP_nil, agP_cons, hb, e1, iv, e2, i2, b2, b2', e3, i3, b3, b31, b32, e4, e5, hj, hj0, hj1, hj2, g3, ez, w1, e6, i5, f35, f315, f325, ff5, e7, i6, b6o, b6f, b6s, s6, g5, s7, rd1_K, rdJ_ok, rdn_K, rnJ_ok, wrn_K, wrJ_ok]
  exact gc_ex _ _ _
end GoAm
