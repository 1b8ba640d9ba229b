/- What the functions do that the law reaches; and the law. -/
import Derived.Test.YtcikkbcneeakiaaBookOkt
import Derived.Test.YtcikkbcneeakiaaAmOwn
set_option autoImplicit false
set_option linter.unusedVariables false
set_option linter.unusedSimpArgs false
namespace GoAm
open Go
abbrev ty_Entry : Ty := .pr .str (.int .i64)
instance d_Entry : DecidableEq ty_Entry.D := Ty.deq ty_Entry
abbrev ty_Book : Ty := .pr (.pr (.int .i64) (.pr (.int .i64) (.pr (.int .i64) (.int .i64)))) (.sl ty_Entry)
abbrev cB (x : Int × Int × Int × Int) (u : V) : List V := [.int .i64 x.1, .int .i64 x.2.1, .int .i64 x.2.2.1, .int .i64 x.2.2.2, u]
theorem rep_Book {M : Mem} {cs : List V} {x : ty_Book.D} (h : Rep ty_Book M cs x) : ∃ u, cs = cB x.1 u ∧ Rep (.sl ty_Entry) M [u] x.2 := by
  obtain ⟨c1, c2, rfl, ⟨d1, d2, rfl, ⟨rfl, _⟩, ⟨d3, d4, rfl, ⟨rfl, _⟩, ⟨d5, d6, rfl, ⟨rfl, _⟩, ⟨rfl, _⟩⟩⟩⟩, h2⟩ := h
  have l2 := h2.len
  match c2, l2, h2 with
  | [u], _, h2 => exact ⟨u, rfl, h2⟩
def sz_Entry (x : ty_Entry.D) : Int := (x.1.length : Int)
def szs_Entry : List ty_Entry.D → Int
  | [] => 0
  | x :: xs => sz_Entry x + szs_Entry xs
theorem szs_pos_Entry : ∀ xs, 0 ≤ szs_Entry xs
  | [] => by simp [szs_Entry]
  | x :: xs => by have := szs_pos_Entry xs; unfold szs_Entry sz_Entry; omega
theorem c_laws_toConf (M : Mem) (k l b c : Int) : aCall T0 F_laws_toConf [.agg #[.int .i64 k, .int .i64 l, .int .i64 b, .int .i64 c]] M = some (.agg #[.int .i64 k, .int .i64 l, .int .i64 b, .int .i64 c], M) := by
  rw [aCall_eq T_laws_toConf]; unfold A_laws_toConf C_laws_toConf; simp
abbrev enc_Entry (x : ty_Entry.D) : List V := [strV x.1, .int .i64 x.2]
def z_Entry : List V := [(.string ⟨#[]⟩), (.int .i64 0)]
theorem rep_Entry {M : Mem} {cs : List V} {x : ty_Entry.D} (h : Rep ty_Entry M cs x) : cs = enc_Entry x := by
  obtain ⟨_, _, rfl, rfl, ⟨rfl, _⟩⟩ := h
  rfl
theorem c_laws_toEntry_f (M : Mem) (x : ty_Entry.D) : aCall T0 F_laws_toEntry [.agg (enc_Entry x).toArray] M = some (.agg (enc_Entry x).toArray, M) := by
  rw [aCall_eq T_laws_toEntry]; unfold A_laws_toEntry C_laws_toEntry; simp
theorem r_laws_toEntryS (M : Mem) (a : Option Addr) (c : Nat) (xs : List ty_Entry.D) (h : Rep (.sl ty_Entry) M [.slice a xs.length c] xs) (hn : xs.length ≤ 1048576) (i : Nat) (hi : i < xs.length) :
    lp (aCall T0) K_laws_toEntryS_0 L_laws_toEntryS_0 [.slice a xs.length c, und, und, .slice (some ⟨M.length, 0, none⟩) xs.length xs.length, .int .i64 i, und, und, und, und, und, und, und, und, und, und, und, und, und, und, und, und, und, und] (M ++ [⟨tcells enc_Entry z_Entry xs i, 2, 2⟩]) =
    lp (aCall T0) K_laws_toEntryS_0 L_laws_toEntryS_0 [.slice a xs.length c, und, und, .slice (some ⟨M.length, 0, none⟩) xs.length xs.length, .int .i64 (i + 1 : Nat), und, und, und, und, und, und, und, und, und, und, und, und, und, und, und, und, und, und] (M ++ [⟨tcells enc_Entry z_Entry xs (i + 1), 2, 2⟩]) := by
  obtain ⟨_, l, o, rfl, cs, hrd, hrep⟩ := rep_at h hi
  have hcs := rep_Entry hrep
  subst hcs
  have hrd2 : rdn (M ++ [⟨tcells enc_Entry z_Entry xs i, 2, 2⟩]) l (o + i * 2) 2 = some (enc_Entry xs[i]) := rdn_old hrd
  have e2 := tcells_len (enc := enc_Entry) (z := z_Entry) (xs := xs) (fun x _ => rfl) (i := i) (by omega)
  have e3 := tcells_step (enc := enc_Entry) (z := z_Entry) (xs := xs) (fun x _ => rfl) hi
  have e4 : z_Entry.length = 2 := rfl
  rw [e4] at e2 e3
  have e5 : i * 2 + 2 ≤ xs.length * 2 := by omega
  have e6 : IntKind.i64.wrap ((i : Int) + 1) = i + 1 := wrap_i64 (by omega) (by omega)
  have e7 : (i : Int) < xs.length := by omega
  unfold splice at e3
  simp at e3
  have ec := fun M => c_laws_toEntry_f M xs[i]
  rw [S_laws_toEntryS_0]; unfold B_laws_toEntryS_0; simp [hrd2, ec, e2, e3, e5, e6, hi]
theorem c_laws_toEntryS (M : Mem) (v : V) (xs : List ty_Entry.D) (h : Rep (.sl ty_Entry) M [v] xs) (hn : xs.length ≤ 1048576) :
    aCall T0 F_laws_toEntryS [v] M = some (.slice (some ⟨M.length, 0, none⟩) xs.length xs.length, M ++ [⟨(xs.map enc_Entry).flatten, 2, 2⟩]) := by
  obtain ⟨a, c, rfl⟩ := h.slen
  have hl := chain (g := fun i : Nat => lp (aCall T0) K_laws_toEntryS_0 L_laws_toEntryS_0 [.slice a xs.length c, und, und, .slice (some ⟨M.length, 0, none⟩) xs.length xs.length, .int .i64 i, und, und, und, und, und, und, und, und, und, und, und, und, und, und, und, und, und, und] (M ++ [⟨tcells enc_Entry z_Entry xs i, 2, 2⟩])) (n := xs.length) fun i hi => r_laws_toEntryS M a c xs h hn i hi
  simp only [Int.natCast_zero, Int.ofNat_zero, tcells_zero, tcells_full] at hl
  unfold z_Entry at hl
  have e1 : (xs.length : Int) * 24 ≤ 281474976710656 := by omega
  have e2 : (xs.length : Int) ≤ 9223372036854775807 := by omega
  rw [aCall_eq T_laws_toEntryS]; unfold A_laws_toEntryS C_laws_toEntryS; simp [e1, e2]
  rw [hl]
  rw [S_laws_toEntryS_0]; unfold B_laws_toEntryS_0; simp
theorem repi_Entry {M M2 : Mem} {cs : List V} {x : ty_Entry.D} (h : Rep ty_Entry M cs x) : Rep ty_Entry M2 (enc_Entry x) x := by
  obtain ⟨_, _, rfl, rfl, ⟨rfl, w1⟩⟩ := h
  exact ⟨[strV x.1], [.int .i64 x.2], rfl, rfl, ⟨rfl, w1⟩⟩
theorem rep_toEntryS {M M2 : Mem} {v : V} {xs : List ty_Entry.D} (h : Rep (.sl ty_Entry) M [v] xs) : Rep (.sl ty_Entry) (M2 ++ [⟨(xs.map enc_Entry).flatten, 2, 2⟩]) [.slice (some ⟨M2.length, 0, none⟩) xs.length xs.length] xs := by
  refine rep_made fun x hx => ?_
  obtain ⟨i, hi, rfl⟩ := List.getElem_of_mem hx
  obtain ⟨a, c, rfl⟩ := h.slen
  obtain ⟨_, l, o, rfl, cs, hrd, hrep⟩ := rep_at h hi
  exact repi_Entry hrep
theorem c_laws_toBook (M : Mem) (v : V) (k : Int × Int × Int × Int) (xs : List ty_Entry.D) (h : Rep (.sl ty_Entry) M [v] xs) (hn : xs.length ≤ 1048576) : ∃ M' u, M <+: M' ∧ aCall T0 F_laws_toBook [.agg (cB k v).toArray] M = some (.agg (cB k u).toArray, M') ∧ Rep (.sl ty_Entry) M' [u] xs := by
  obtain ⟨B, hB⟩ : ∃ B : Blk, B = ⟨(xs.map enc_Entry).flatten, 2, 2⟩ := ⟨_, rfl⟩
  have t := c_laws_toEntryS (M ++ [⟨cB k v, 1, 2⟩, ⟨[.int .i64 0, .int .i64 0, .int .i64 0, .int .i64 0, .slice none 0 0], 1, 2⟩, ⟨cB k (.slice none 0 0), 1, 2⟩]) v xs (h.mono (List.prefix_append _ _)) hn
  have r := rep_toEntryS (M2 := M ++ [⟨cB k v, 1, 2⟩, ⟨cB k (.slice (some ⟨M.length + 3, 0, none⟩) xs.length xs.length), 1, 2⟩, ⟨cB k (.slice (some ⟨M.length + 3, 0, none⟩) xs.length xs.length), 1, 2⟩]) h
  rw [← hB] at t r
  refine ⟨M ++ [⟨cB k v, 1, 2⟩, ⟨cB k (.slice (some ⟨M.length + 3, 0, none⟩) xs.length xs.length), 1, 2⟩, ⟨cB k (.slice (some ⟨M.length + 3, 0, none⟩) xs.length xs.length), 1, 2⟩, B], .slice (some ⟨M.length + 3, 0, none⟩) xs.length xs.length, List.prefix_append _ _, ?_, ?_⟩
  · simp at t
    obtain ⟨a, c, rfl⟩ := h.slen
    rw [aCall_eq T_laws_toBook]; unfold A_laws_toBook C_laws_toBook; simp [c_laws_toConf, t]
  · simpa using r
theorem deq_Entry (x y : ty_Entry.D) : decide (x = y) = (decide (x.1 = y.1) && (decide (x.2 = y.2))) := by
  obtain ⟨x0, x1⟩ := x
  obtain ⟨y0, y1⟩ := y
  simp
theorem c_laws_eqEntry (M : Mem) (x y : ty_Entry.D) : aCall T0 F_laws_eqEntry [.agg (enc_Entry x).toArray, .agg (enc_Entry y).toArray] M = some (.bool (decide (x = y)), M) := by
  rw [deq_Entry]
  rw [aCall_eq T_laws_eqEntry]; unfold A_laws_eqEntry C_laws_eqEntry; simp
  repeat' ((first | rw [selO_some] | rw [condR_bool] | rw [selD_some]); split <;> rename_i hq <;> (have hq2 := hq) <;> (try simp at hq2) <;> (try simp [*]))
theorem r_laws_eqEntryS (M : Mem) (a b : Option Addr) (c d : Nat) (xs ys : List ty_Entry.D) (h : Rep (.sl ty_Entry) M [.slice a xs.length c] xs) (h2 : Rep (.sl ty_Entry) M [.slice b ys.length d] ys) (hn : xs.length ≤ 9223372036854775807) (i : Nat) (hi : i < xs.length) (hj : i < ys.length) (he : xs[i] = ys[i]) :
    lp (aCall T0) K_laws_eqEntryS_0 L_laws_eqEntryS_0 [.slice a xs.length c, .slice b ys.length d, und, und, und, .int .i64 i, und, und, und, und, und, und, und, und, und, und, und, und, und, und, und, und, und, und, und, und, und] M = lp (aCall T0) K_laws_eqEntryS_0 L_laws_eqEntryS_0 [.slice a xs.length c, .slice b ys.length d, und, und, und, .int .i64 (i + 1 : Nat), und, und, und, und, und, und, und, und, und, und, und, und, und, und, und, und, und, und, und, und, und] M := by
  obtain ⟨_, l, o, rfl, cs, hrd, hrep⟩ := rep_at h hi
  obtain ⟨_, l2, o2, rfl, ds, hrd2, hrep2⟩ := rep_at h2 hj
  have hcs := rep_Entry hrep
  subst hcs
  have hds := rep_Entry hrep2
  subst hds
  have hw : ty_Entry.w = 2 := rfl
  rw [hw] at hrd hrd2
  have e6 : IntKind.i64.wrap ((i : Int) + 1) = i + 1 := wrap_i64 (by omega) (by omega)
  have ec := fun M => c_laws_eqEntry M ys[i] ys[i]
  rw [S_laws_eqEntryS_0]; unfold B_laws_eqEntryS_0; simp [hrd, hrd2, ec, e6, hi, hj, he]
theorem x_laws_eqEntryS (M : Mem) (a b : Option Addr) (c d : Nat) (xs ys : List ty_Entry.D) (h : Rep (.sl ty_Entry) M [.slice a xs.length c] xs) (h2 : Rep (.sl ty_Entry) M [.slice b ys.length d] ys) (hn : xs.length ≤ 9223372036854775807) (i : Nat) (hi : i < xs.length) (hj : i < ys.length) (he : xs[i] ≠ ys[i]) (k : ACode) :
    thenF M [.tmp 4] (thenS (blockR 0 (lp (aCall T0) K_laws_eqEntryS_0 L_laws_eqEntryS_0 [.slice a xs.length c, .slice b ys.length d, und, und, und, .int .i64 i, und, und, und, und, und, und, und, und, und, und, und, und, und, und, und, und, und, und, und, und, und] M)) (aCall T0) k) = some (.bool false, M) := by
  obtain ⟨_, l, o, rfl, cs, hrd, hrep⟩ := rep_at h hi
  obtain ⟨_, l2, o2, rfl, ds, hrd2, hrep2⟩ := rep_at h2 hj
  have hcs := rep_Entry hrep
  subst hcs
  have hds := rep_Entry hrep2
  subst hds
  have hw : ty_Entry.w = 2 := rfl
  rw [hw] at hrd hrd2
  have ec := fun M => c_laws_eqEntry M xs[i] ys[i]
  rw [S_laws_eqEntryS_0]; unfold B_laws_eqEntryS_0; simp [hrd, hrd2, ec, hi, hj, he]
theorem c_laws_eqEntryS (M : Mem) (v u : V) (xs ys : List ty_Entry.D) (h : Rep (.sl ty_Entry) M [v] xs) (h2 : Rep (.sl ty_Entry) M [u] ys) (hn : xs.length ≤ 9223372036854775807) : aCall T0 F_laws_eqEntryS [v, u] M = some (.bool (decide (xs = ys)), M) := by
  obtain ⟨a, c, rfl⟩ := h.slen
  obtain ⟨b, d, rfl⟩ := h2.slen
  by_cases hl : xs.length = ys.length
  · rcases list_eq_iff hl with he | ⟨j, hj, h3, h4⟩
    · subst he
      have hc := chain (g := fun i : Nat => lp (aCall T0) K_laws_eqEntryS_0 L_laws_eqEntryS_0 [.slice a xs.length c, .slice b xs.length d, und, und, und, .int .i64 i, und, und, und, und, und, und, und, und, und, und, und, und, und, und, und, und, und, und, und, und, und] M) (n := xs.length) fun i hi => r_laws_eqEntryS M a b c d xs xs h h2 hn i hi hi rfl
      simp only [Int.natCast_zero, Int.ofNat_zero] at hc
      rw [aCall_eq T_laws_eqEntryS]; unfold A_laws_eqEntryS C_laws_eqEntryS; simp [hc]
      rw [S_laws_eqEntryS_0]; unfold B_laws_eqEntryS_0; simp
    · have hc := chain (g := fun i : Nat => lp (aCall T0) K_laws_eqEntryS_0 L_laws_eqEntryS_0 [.slice a xs.length c, .slice b ys.length d, und, und, und, .int .i64 i, und, und, und, und, und, und, und, und, und, und, und, und, und, und, und, und, und, und, und, und, und] M) (n := j) fun i hi => r_laws_eqEntryS M a b c d xs ys h h2 hn i (by omega) (by omega) (h3 i (by omega) hi)
      simp only [Int.natCast_zero, Int.ofNat_zero] at hc
      have hx := x_laws_eqEntryS M a b c d xs ys h h2 hn j hj (by omega) h4
      have hne : xs ≠ ys := fun e => h4 (by simp [e])
      simp only [← hl] at hc hx
      simp only [← hl]
      rw [aCall_eq T_laws_eqEntryS]; unfold A_laws_eqEntryS C_laws_eqEntryS; simp [hc, hx, hne]
  · have hne : xs ≠ ys := fun e => hl (by rw [e])
    have hl2 : ¬ ((xs.length : Int) = ys.length) := by omega
    rw [aCall_eq T_laws_eqEntryS]; unfold A_laws_eqEntryS C_laws_eqEntryS; simp [hl2, hl, hne]
abbrev cK (x : Int × Int × Int × Int) : List V := [.int .i64 x.1, .int .i64 x.2.1, .int .i64 x.2.2.1, .int .i64 x.2.2.2]
theorem c_laws_eqConf (M : Mem) (k l : Int × Int × Int × Int) : aCall T0 F_laws_eqConf [.agg (cK k).toArray, .agg (cK l).toArray] M = some (.bool (decide (k = l)), M) := by
  obtain ⟨a, b, c, d⟩ := k
  obtain ⟨a2, b2, c2, d2⟩ := l
  by_cases h1 : a = a2
  · by_cases h2 : b = b2
    · by_cases h3 : c = c2
      · by_cases h4 : d = d2
        · rw [aCall_eq T_laws_eqConf]; unfold A_laws_eqConf C_laws_eqConf; simp [h1, h2, h3, h4]
        · rw [aCall_eq T_laws_eqConf]; unfold A_laws_eqConf C_laws_eqConf; simp [h1, h2, h3, h4]
      · rw [aCall_eq T_laws_eqConf]; unfold A_laws_eqConf C_laws_eqConf; simp [h1, h2, h3]
    · rw [aCall_eq T_laws_eqConf]; unfold A_laws_eqConf C_laws_eqConf; simp [h1, h2]
  · rw [aCall_eq T_laws_eqConf]; unfold A_laws_eqConf C_laws_eqConf; simp [h1]
theorem c_laws_eqBook (M : Mem) (v u : V) (x y : ty_Book.D) (h : Rep (.sl ty_Entry) M [v] x.2) (h2 : Rep (.sl ty_Entry) M [u] y.2) (hn : x.2.length ≤ 9223372036854775807) : aCall T0 F_laws_eqBook [.agg (cB x.1 v).toArray, .agg (cB y.1 u).toArray] M = some (.bool (decide (x = y)), M) := by
  have e := c_laws_eqEntryS (M ++ [⟨cB x.1 v, 1, 2⟩, ⟨cB y.1 u, 1, 2⟩]) v u x.2 y.2 (h.mono (List.prefix_append _ _)) (h2.mono (List.prefix_append _ _)) hn
  have e0 := fun M => c_laws_eqConf M x.1 y.1
  have hd : decide (x = y) = (decide (x.1 = y.1) && decide (x.2 = y.2)) := by
    obtain ⟨x1, x2⟩ := x
    obtain ⟨y1, y2⟩ := y
    simp
  rw [hd]
  generalize decide (x.1 = y.1) = p1 at e0
  generalize decide (x.2 = y.2) = p2 at e
  obtain ⟨a, c, rfl⟩ := h.slen
  obtain ⟨b, d, rfl⟩ := h2.slen
  cases p1 with
  | false => rw [aCall_eq T_laws_eqBook]; unfold A_laws_eqBook C_laws_eqBook; simp [e0]
  | true => cases p2 with
    | false => rw [aCall_eq T_laws_eqBook]; unfold A_laws_eqBook C_laws_eqBook; simp [e0, e]
    | true => rw [aCall_eq T_laws_eqBook]; unfold A_laws_eqBook C_laws_eqBook; simp [e0, e]
theorem z_laws_szEntry (M : Mem) (x : ty_Entry.D) (left : Int) (h0 : 0 ≤ left) (h1 : left ≤ 1048576) (f0 : x.1.length ≤ 9223372036854775807) : ∃ l : Int, aCall T0 F_laws_szEntry [.agg (enc_Entry x).toArray, .int .i64 left] M = some (.int .i64 l, M) ∧ (0 ≤ l → sz_Entry x + l ≤ left) := by
  unfold sz_Entry
  have w0 : -9223372036854775808 ≤ left - (x.1.length : Int) ∧ left - (x.1.length : Int) ≤ 9223372036854775807 := by omega
  have e0 : IntKind.i64.wrap (left - (x.1.length : Int)) = left - (x.1.length : Int) := wrap_i64 w0.1 w0.2
  by_cases c0 : left - (x.1.length : Int) < 0
  · refine ⟨-1, ?_, by omega⟩
    rw [aCall_eq T_laws_szEntry]; unfold A_laws_szEntry C_laws_szEntry; simp [e0, c0]
  refine ⟨left - (x.1.length : Int), ?_, by omega⟩
  rw [aCall_eq T_laws_szEntry]; unfold A_laws_szEntry C_laws_szEntry; simp [e0, c0]
theorem l_laws_szEntryS (M : Mem) (a : Option Addr) (c : Nat) (xs : List ty_Entry.D) (h : Rep (.sl ty_Entry) M [.slice a xs.length c] xs) (hn : xs.length ≤ 1048576) (f0 : ∀ x ∈ xs, x.1.length ≤ 9223372036854775807) : ∀ (k i : Nat) (left : Int), i + k = xs.length → 0 ≤ left → left ≤ 1048576 →
    (∃ (l l2 : Int) (j : Nat), ∃ hj : j < xs.length, aCall T0 F_laws_szEntry [.agg (enc_Entry xs[j]).toArray, .int .i64 l] M = some (.int .i64 l2, M) ∧ l2 < 0 ∧ lp (aCall T0) K_laws_szEntryS_0 L_laws_szEntryS_0 [.slice a xs.length c, .int .i64 left, und, und, und, .int .i64 i, und, und, und, und, und, und, und, und, und, und, und, und, und, und, und, und, und, und, und, und, und] M = lp (aCall T0) K_laws_szEntryS_0 L_laws_szEntryS_0 [.slice a xs.length c, .int .i64 l, und, und, und, .int .i64 j, und, und, und, und, und, und, und, und, und, und, und, und, und, und, und, und, und, und, und, und, und] M) ∨
    (∃ l : Int, 0 ≤ l ∧ szs_Entry (xs.drop i) + l ≤ left ∧ lp (aCall T0) K_laws_szEntryS_0 L_laws_szEntryS_0 [.slice a xs.length c, .int .i64 left, und, und, und, .int .i64 i, und, und, und, und, und, und, und, und, und, und, und, und, und, und, und, und, und, und, und, und, und] M = lp (aCall T0) K_laws_szEntryS_0 L_laws_szEntryS_0 [.slice a xs.length c, .int .i64 l, und, und, und, .int .i64 xs.length, und, und, und, und, und, und, und, und, und, und, und, und, und, und, und, und, und, und, und, und, und] M)
  | 0, i, left, hi, h0, h1 => by
    right
    have e : xs.drop i = [] := List.drop_eq_nil_of_le (by omega)
    have e2 : i = xs.length := by omega
    refine ⟨left, h0, by rw [e]; simp [szs_Entry], ?_⟩
    rw [e2]
  | k + 1, i, left, hi', h0, h1 => by
    have hi : i < xs.length := by omega
    obtain ⟨l', hl1, hl2⟩ := z_laws_szEntry M xs[i] left h0 h1 (f0 xs[i] (List.getElem_mem hi))
    by_cases hl0 : l' < 0
    · exact .inl ⟨left, l', i, hi, hl1, hl0, rfl⟩
    · obtain ⟨_, l, o, rfl, cs, hrd, hrep⟩ := rep_at h hi
      have hcs := rep_Entry hrep
      subst hcs
      have hw : ty_Entry.w = 2 := rfl
      rw [hw] at hrd
      have e6 : IntKind.i64.wrap ((i : Int) + 1) = i + 1 := wrap_i64 (by omega) (by omega)
      have hd : xs.drop i = xs[i] :: xs.drop (i + 1) := (List.drop_eq_getElem_cons hi)
      have hz : 0 ≤ sz_Entry xs[i] := by unfold sz_Entry; omega
      have ih := l_laws_szEntryS M (some ⟨l, o, none⟩) c xs h hn f0 k (i + 1) l' (by omega) (by omega) (by have := hl2 (by omega); omega)
      have e7 : lp (aCall T0) K_laws_szEntryS_0 L_laws_szEntryS_0 [.slice (some ⟨l, o, none⟩) xs.length c, .int .i64 left, und, und, und, .int .i64 i, und, und, und, und, und, und, und, und, und, und, und, und, und, und, und, und, und, und, und, und, und] M = lp (aCall T0) K_laws_szEntryS_0 L_laws_szEntryS_0 [.slice (some ⟨l, o, none⟩) xs.length c, .int .i64 l', und, und, und, .int .i64 (i + 1 : Nat), und, und, und, und, und, und, und, und, und, und, und, und, und, und, und, und, und, und, und, und, und] M := by
        rw [S_laws_szEntryS_0]; unfold B_laws_szEntryS_0; simp [hrd, hl1, hl0, hi, e6]
      rw [e7, hd]
      rcases ih with ih | ⟨l3, h3, h4, h5⟩
      · exact .inl ih
      · refine .inr ⟨l3, h3, ?_, h5⟩
        have := hl2 (by omega)
        simp only [szs_Entry]
        omega
theorem c_laws_szEntryS (M : Mem) (v : V) (xs : List ty_Entry.D) (h : Rep (.sl ty_Entry) M [v] xs) (left : Int) (h0 : 0 ≤ left) (h1 : left ≤ 1048576) (hx : xs.length ≤ 9223372036854775807) (f0 : ∀ x ∈ xs, x.1.length ≤ 9223372036854775807) :
    ∃ l : Int, aCall T0 F_laws_szEntryS [v, .int .i64 left] M = some (.int .i64 l, M) ∧ (0 ≤ l → xs.length + szs_Entry xs + l ≤ left) := by
  obtain ⟨a, c, rfl⟩ := h.slen
  have e0 : IntKind.i64.wrap (left - xs.length) = left - xs.length := wrap_i64 (by omega) (by omega)
  by_cases hc : left - (xs.length : Int) < 0
  · refine ⟨-1, ?_, by omega⟩
    rw [aCall_eq T_laws_szEntryS]; unfold A_laws_szEntryS C_laws_szEntryS; simp [e0, hc]
  · rcases l_laws_szEntryS M a c xs h (by omega) f0 xs.length 0 (left - xs.length) (by omega) (by omega) (by omega) with ⟨l, l2, j, hj, h3, h4, hl⟩ | ⟨l, h3, h4, hl⟩
    · simp only [Int.natCast_zero, Int.ofNat_zero] at hl
      obtain ⟨_, p, o, rfl, cs, hrd, hrep⟩ := rep_at h hj
      have hcs := rep_Entry hrep
      subst hcs
      have hw : ty_Entry.w = 2 := rfl
      rw [hw] at hrd
      refine ⟨-1, ?_, by omega⟩
      rw [aCall_eq T_laws_szEntryS]; unfold A_laws_szEntryS C_laws_szEntryS; simp [e0, hc, hl]
      rw [S_laws_szEntryS_0]; unfold B_laws_szEntryS_0; simp [hrd, hj, h3, h4]
    · simp only [Int.natCast_zero, Int.ofNat_zero, List.drop_zero] at hl h4
      refine ⟨l, ?_, by omega⟩
      rw [aCall_eq T_laws_szEntryS]; unfold A_laws_szEntryS C_laws_szEntryS; simp [e0, hc, hl]
      rw [S_laws_szEntryS_0]; unfold B_laws_szEntryS_0; simp
theorem c_laws_szBook (M : Mem) (v : V) (k : Int × Int × Int × Int) (xs : List ty_Entry.D) (h : Rep (.sl ty_Entry) M [v] xs) (left : Int) (h0 : 0 ≤ left) (h1 : left ≤ 1048576) (hx : xs.length ≤ 9223372036854775807) (f0 : ∀ x ∈ xs, x.1.length ≤ 9223372036854775807) :
    ∃ l : Int, aCall T0 F_laws_szBook [.agg (cB k v).toArray, .int .i64 left] M = some (.int .i64 l, M) ∧ (0 ≤ l → xs.length + szs_Entry xs + l ≤ left) := by
  obtain ⟨l, e1, e2⟩ := c_laws_szEntryS (M ++ [⟨cB k v, 1, 2⟩]) v xs (h.mono (List.prefix_append _ _)) left h0 h1 hx f0
  obtain ⟨a, c, rfl⟩ := h.slen
  by_cases hl : l < 0
  · refine ⟨-1, ?_, by omega⟩
    rw [aCall_eq T_laws_szBook]; unfold A_laws_szBook C_laws_szBook; simp [e1, hl]
  · refine ⟨l, ?_, e2⟩
    rw [aCall_eq T_laws_szBook]; unfold A_laws_szBook C_laws_szBook; simp [e1, hl]
theorem rd_book {M : Mem} {p : Nat} {k : Int × Int × Int × Int} {v : V} (hb : M[p]? = some ⟨cB k v, 1, 2⟩) : rd1 M p 0 = some (.int .i64 k.1) ∧ rd1 M p 1 = some (.int .i64 k.2.1) ∧ rd1 M p 3 = some (.int .i64 k.2.2.2) ∧ rd1 M p 4 = some v ∧ rdn M p 0 4 = some (cK k) ∧ rdn M p 0 5 = some (cB k v) := by
  unfold rd1 rdn
  rw [hb]
  exact ⟨rfl, rfl, rfl, rfl, rfl, rfl⟩
def confOk (k l b c : Int) : Bool := (decide (0 ≤ k) && decide (k ≤ 4294967295)) && (decide (2 ≤ l) && decide (l ≤ 6)) && (decide (0 ≤ b) && decide (b ≤ 64)) && (decide (1 ≤ c) && decide (c ≤ 64))
theorem c_spec_l16Log (M : Mem) (x : Int) : aCall T0 F_spec_l16Log [.int .i64 x] M = some (.bool (decide (2 ≤ x) && decide (x ≤ 6)), M) := by
  rw [aCall_eq T_spec_l16Log]; unfold A_spec_l16Log C_spec_l16Log; simp
  repeat' ((first | rw [selO_some] | rw [condR_bool] | rw [selD_some]); split <;> rename_i hq <;> (have hq2 := hq) <;> (try simp at hq2) <;> (try simp [*]))
theorem c_spec_ConfOk (M : Mem) (k l b c : Int) : aCall T0 F_spec_ConfOk [.agg #[.int .i64 k, .int .i64 l, .int .i64 b, .int .i64 c]] M = some (.bool (confOk k l b c), M) := by
  unfold confOk
  rw [aCall_eq T_spec_ConfOk]; unfold A_spec_ConfOk C_spec_ConfOk; simp [c_spec_l16Log]
  repeat' ((first | rw [selO_some] | rw [condR_bool] | rw [selD_some]); split <;> rename_i hq <;> (have hq2 := hq) <;> (try simp at hq2) <;> (try simp [*, c_spec_l16Log]))
def confK (k : Int × Int × Int × Int) : Bool := confOk k.1 k.2.1 k.2.2.1 k.2.2.2
def okByte (b : UInt8) : Bool := decide (97 ≤ (b.toNat : Int)) && decide ((b.toNat : Int) ≤ 122)
def wordB (w : List UInt8) : Bool := w.all okByte && (decide (1 ≤ (w.length : Int)) && decide ((w.length : Int) ≤ 32))
def entB (e : ty_Entry.D) : Bool := wordB e.1 && (decide (0 ≤ (e.2 : Int)) && decide ((e.2 : Int) ≤ 65535))
def goodB (xs : List ty_Entry.D) (i : Nat) : Bool := match xs[i]?, xs[i - 1]? with
  | some e, some d => entB e && (decide (i = 0) || Op.bytesLess d.1 e.1)
  | _, _ => true
def padL (w : List UInt8) : List UInt8 := if wordB w = true then UInt8.ofNat w.length :: (w ++ List.replicate (32 - w.length) 0) else List.replicate 33 0
def hs (h : Nat) (b : UInt8) : Nat := ((h ^^^ b.toNat) * 16777619) % 4294967296
def hashN (key : Nat) (w : List UInt8) (n : Nat) : Nat := ((padL w).take n).foldl hs key
def hashV (key : Nat) (w : List UInt8) : Nat := hashN key w 33 ^^^ (hashN key w 33 / 65536)
def sh (k : Int × Int × Int × Int) (w : List UInt8) : Nat := hashV k.1.toNat w % 2 ^ k.2.1.toNat
def cnt (k : Int × Int × Int × Int) (xs : List ty_Entry.D) (s : Nat) : Nat := xs.countP fun e => decide (sh k e.1 = s)
def fewB (k : Int × Int × Int × Int) (xs : List ty_Entry.D) (i : Nat) : Bool := match xs[i]? with
  | some e => decide (cnt k xs (sh k e.1) ≤ 4)
  | none => true
def bookB (k : Int × Int × Int × Int) (xs : List ty_Entry.D) : Bool := confK k && decide ((xs.length : Int) ≤ k.2.2.2) && (List.range xs.length).all (goodB xs) && (List.range xs.length).all (fewB k xs)
theorem at_Entry {M : Mem} {a : Option Addr} {n c : Nat} {xs : List ty_Entry.D} (h : Rep (.sl ty_Entry) M [.slice a n c] xs) {i : Nat} (hi : i < xs.length) : ∃ l o, a = some ⟨l, o, none⟩ ∧ Rep ty_Entry M (enc_Entry xs[i]) xs[i] ∧ rdn M l (o + i * 2) 2 = some (enc_Entry xs[i]) ∧ rd1 M l (o + i * 2) = some (strV xs[i].1) ∧ rd1 M l (o + i * 2 + 1) = some (.int .i64 xs[i].2) := by
  obtain ⟨_, l, o, rfl, cs, hrd, hrep⟩ := rep_at h hi
  have hcs := rep_Entry hrep
  subst hcs
  have hw : ty_Entry.w = 2 := rfl
  rw [hw] at hrd
  exact ⟨l, o, rfl, hrep, hrd, rd1_of_rdn hrd (k := 0) rfl, rd1_of_rdn hrd (k := 1) rfl⟩
theorem all_false {w : List UInt8} {j : Nat} (hj : j < w.length) (h : okByte w[j] = false) : w.all okByte = false := by
  rw [List.all_eq_false]
  exact ⟨w[j], List.getElem_mem hj, by simp [h]⟩
theorem all_true {w : List UInt8} (h : ∀ i (hi : i < w.length), okByte w[i] = true) : w.all okByte = true := by
  rw [List.all_eq_true]
  intro b hb
  obtain ⟨i, hi, rfl⟩ := List.getElem_of_mem hb
  exact h i hi
theorem first_byte (w : List UInt8) : w.all okByte = true ∨ (w.all okByte = false ∧ ∃ j, ∃ hj : j < w.length, (∀ i (hi : i < w.length), i < j → okByte w[i] = true) ∧ okByte w[j] = false) := by
  rcases first_bad (fun i => (w[i]?).any okByte) w.length with h | ⟨j, h1, h2, h3⟩
  · left; exact all_true fun i hi => by have := h i hi; simpa [hi] using this
  · right
    have h3' : okByte w[j] = false := by simpa [h1] using h3
    exact ⟨all_false h1 h3', j, h1, fun i hi hij => by have := h2 i hij; simpa [hi] using this, h3'⟩
theorem okByte_t {b : UInt8} (h : okByte b = true) : ¬ ((b.toNat : Int) < 97) ∧ ¬ (122 < (b.toNat : Int)) := by
  simp only [okByte, Bool.and_eq_true, decide_eq_true_eq] at h; omega
theorem r_spec_WordOk (M : Mem) (w : List UInt8) (hw : w.length ≤ 9223372036854775807) (i : Nat) (hi : i < w.length) (hb : okByte w[i] = true) :
    lp (aCall T0) K_spec_WordOk_0 L_spec_WordOk_0 [strV w, und, und, .int .i64 i, und, und, und, und, und, und, und, und, und, und, und, und, und, und, und, und, und, und, und, und, und, und, und, und] M = lp (aCall T0) K_spec_WordOk_0 L_spec_WordOk_0 [strV w, und, und, .int .i64 (i + 1 : Nat), und, und, und, und, und, und, und, und, und, und, und, und, und, und, und, und, und, und, und, und, und, und, und, und] M := by
  obtain ⟨h1, h2⟩ := okByte_t hb
  rw [S_spec_WordOk_0]; unfold B_spec_WordOk_0; simp [hi, byteV, h1, h2]
  rw [wrap_i64 (by omega) (by omega)]
theorem okByte_f {b : UInt8} (h : okByte b = false) : (b.toNat : Int) < 97 ∨ (¬ ((b.toNat : Int) < 97) ∧ (122 < (b.toNat : Int))) := by
  simp only [okByte, Bool.and_eq_false_iff, decide_eq_false_iff_not] at h; omega
theorem x_spec_WordOk (M : Mem) (w : List UInt8) (hw : w.length ≤ 9223372036854775807) (i : Nat) (hi : i < w.length) (hb : okByte w[i] = false) (k : ACode) :
    thenF M [.tmp 2] (thenS (blockR 0 (lp (aCall T0) K_spec_WordOk_0 L_spec_WordOk_0 [strV w, und, und, .int .i64 i, und, und, und, und, und, und, und, und, und, und, und, und, und, und, und, und, und, und, und, und, und, und, und, und] M)) (aCall T0) k) = some (.bool false, M) := by
  rcases okByte_f hb with h1 | ⟨h1, h2⟩
  · rw [S_spec_WordOk_0]; unfold B_spec_WordOk_0; simp [hi, byteV, h1]
  · rw [S_spec_WordOk_0]; unfold B_spec_WordOk_0; simp [hi, byteV, h1, h2]
theorem c_spec_WordOk (M : Mem) (w : List UInt8) (hw : w.length ≤ 9223372036854775807) : aCall T0 F_spec_WordOk [strV w] M = some (.bool (wordB w), M) := by
  unfold wordB
  by_cases hl1 : (w.length : Int) < 1
  · have : w = [] := List.length_eq_zero_iff.1 (by omega)
    subst this
    rw [aCall_eq T_spec_WordOk]; unfold A_spec_WordOk C_spec_WordOk; simp
  by_cases hl2 : 32 < (w.length : Int)
  · rw [aCall_eq T_spec_WordOk]; unfold A_spec_WordOk C_spec_WordOk; simp [hl1, hl2]
  have e : (decide (1 ≤ (w.length : Int)) && decide ((w.length : Int) ≤ 32)) = true := by simp; omega
  rw [e, Bool.and_true]
  rcases first_byte w with ha | ⟨ha, j, hj, h1, h2⟩
  · have hl := chain (g := fun i : Nat => lp (aCall T0) K_spec_WordOk_0 L_spec_WordOk_0 [strV w, und, und, .int .i64 i, und, und, und, und, und, und, und, und, und, und, und, und, und, und, und, und, und, und, und, und, und, und, und, und] M) (n := w.length) fun i hi => r_spec_WordOk M w hw i hi (List.all_eq_true.1 ha _ (List.getElem_mem hi))
    simp only [Int.natCast_zero, Int.ofNat_zero] at hl
    rw [ha]
    rw [aCall_eq T_spec_WordOk]; unfold A_spec_WordOk C_spec_WordOk; simp [hl, hl1, hl2]
    rw [S_spec_WordOk_0]; unfold B_spec_WordOk_0; simp
  · have hl := chain (g := fun i : Nat => lp (aCall T0) K_spec_WordOk_0 L_spec_WordOk_0 [strV w, und, und, .int .i64 i, und, und, und, und, und, und, und, und, und, und, und, und, und, und, und, und, und, und, und, und, und, und, und, und] M) (n := j) fun i hi => r_spec_WordOk M w hw i (by omega) (h1 i (by omega) hi)
    simp only [Int.natCast_zero, Int.ofNat_zero] at hl
    rw [ha]
    rw [aCall_eq T_spec_WordOk]; unfold A_spec_WordOk C_spec_WordOk; simp [hl, hl1, hl2, x_spec_WordOk M w hw j hj h2]
theorem c_spec_l17Full (M : Mem) (e : ty_Entry.D) (he : e.1.length ≤ 9223372036854775807) : aCall T0 F_spec_l17Full [.agg (enc_Entry e).toArray] M = some (.bool (entB e), M) := by
  unfold entB
  have h := fun M => c_spec_WordOk M e.1 he
  rw [aCall_eq T_spec_l17Full]; unfold A_spec_l17Full C_spec_l17Full; simp [h]
  repeat' ((first | rw [selO_some] | rw [condR_bool] | rw [selD_some]); split <;> rename_i hq <;> (have hq2 := hq) <;> (try simp at hq2) <;> (try simp [*, h]))
def cmpW (a b : List UInt8) : Int := if Op.bytesLess a b = true then -1 else if Op.bytesLess b a = true then 1 else 0
theorem cmpW_nil (b : List UInt8) : cmpW [] b = if 0 < b.length then -1 else 0 := by
  cases b <;> simp [cmpW, Op.bytesLess]
theorem cmpW_nil2 (a : List UInt8) : cmpW a [] = if 0 < a.length then 1 else 0 := by
  cases a <;> simp [cmpW, Op.bytesLess]
theorem cmpW_lt {x y : UInt8} (a b : List UInt8) (h : x < y) : cmpW (x :: a) (y :: b) = -1 := by
  unfold cmpW
  rw [Op.bytesLess]
  simp [h]
theorem cmpW_gt {x y : UInt8} (a b : List UInt8) (h : y < x) : cmpW (x :: a) (y :: b) = 1 := by
  unfold cmpW
  rw [Op.bytesLess, Op.bytesLess]
  have h1 : ¬ x < y := fun q => by
    have := UInt8.lt_iff_toNat_lt.1 h
    have := UInt8.lt_iff_toNat_lt.1 q
    omega
  have h2 : ¬ x = y := fun q => by
    subst q
    have := UInt8.lt_iff_toNat_lt.1 h
    omega
  simp [h1, h2, h]
theorem cmpW_eq (x : UInt8) (a b : List UInt8) : cmpW (x :: a) (x :: b) = cmpW a b := by
  unfold cmpW
  rw [Op.bytesLess, Op.bytesLess]
  have h1 : ¬ x < x := fun q => by
    have := UInt8.lt_iff_toNat_lt.1 q
    omega
  simp
theorem lcp : ∀ a b : List UInt8, ∃ j, j ≤ a.length ∧ j ≤ b.length ∧ (∀ i, i < j → ∀ (h : i < a.length) (h2 : i < b.length), a[i] = b[i]) ∧
    ((j = a.length ∧ j = b.length ∧ cmpW a b = 0) ∨ (j = a.length ∧ j < b.length ∧ cmpW a b = -1) ∨ (j < a.length ∧ j = b.length ∧ cmpW a b = 1) ∨
     ∃ (h : j < a.length) (h2 : j < b.length), (a[j] < b[j] ∧ cmpW a b = -1) ∨ (¬ a[j] < b[j] ∧ b[j] < a[j] ∧ cmpW a b = 1))
  | [], [] => ⟨0, by simp, by simp, by simp, .inl ⟨rfl, rfl, rfl⟩⟩
  | [], b :: bs => ⟨0, by simp, by simp, by simp, .inr (.inl ⟨rfl, by simp, by simp [cmpW_nil]⟩)⟩
  | a :: as, [] => ⟨0, by simp, by simp, by simp, .inr (.inr (.inl ⟨by simp, rfl, by simp [cmpW_nil2]⟩))⟩
  | a :: as, b :: bs => by
    by_cases h : a < b
    · exact ⟨0, by simp, by simp, by simp, .inr (.inr (.inr ⟨by simp, by simp, .inl ⟨h, cmpW_lt _ _ h⟩⟩))⟩
    by_cases h2 : b < a
    · exact ⟨0, by simp, by simp, by simp, .inr (.inr (.inr ⟨by simp, by simp, .inr ⟨h, h2, cmpW_gt _ _ h2⟩⟩))⟩
    have e : a = b := by
      apply UInt8.toNat_inj.1
      have q1 : ¬ a.toNat < b.toNat := fun q => h (UInt8.lt_iff_toNat_lt.2 q)
      have q2 : ¬ b.toNat < a.toNat := fun q => h2 (UInt8.lt_iff_toNat_lt.2 q)
      omega
    subst e
    obtain ⟨j, h1, h3, h4, h5⟩ := lcp as bs
    refine ⟨j + 1, by simp; omega, by simp; omega, fun i hi p q => ?_, ?_⟩
    · cases i with
      | zero => rfl
      | succ i => exact h4 i (by omega) (by simpa using p) (by simpa using q)
    · rw [cmpW_eq]
      simpa using h5
theorem r_spec_WordCmp (M : Mem) (a b : List UInt8) (ha : a.length ≤ 9223372036854775807) (hb : b.length ≤ 9223372036854775807) (i : Nat) (hi : i < a.length) (hj : i < b.length) (he : a[i] = b[i]) :
    lp (aCall T0) K_spec_WordCmp_0 L_spec_WordCmp_0 [strV a, strV b, und, und, und, .int .i64 i, und, und, und, und, und, und, und, und, und, und, und, und, und, und, und, und, und, und, und, und, und, und, und, und, und, und, und, und, und, und, und, und, und, und, und, und] M = lp (aCall T0) K_spec_WordCmp_0 L_spec_WordCmp_0 [strV a, strV b, und, und, und, .int .i64 (i + 1 : Nat), und, und, und, und, und, und, und, und, und, und, und, und, und, und, und, und, und, und, und, und, und, und, und, und, und, und, und, und, und, und, und, und, und, und, und, und] M := by
  rw [S_spec_WordCmp_0]; unfold B_spec_WordCmp_0; simp [hi, hj, byteV, he]
  rw [wrap_i64 (by omega) (by omega)]
theorem c_spec_WordCmp (M : Mem) (a b : List UInt8) (ha : a.length ≤ 9223372036854775807) (hb : b.length ≤ 9223372036854775807) : aCall T0 F_spec_WordCmp [strV a, strV b] M = some (.int .i64 (cmpW a b), M) := by
  obtain ⟨j, h1, h2, h3, h4⟩ := lcp a b
  have hl := chain (g := fun i : Nat => lp (aCall T0) K_spec_WordCmp_0 L_spec_WordCmp_0 [strV a, strV b, und, und, und, .int .i64 i, und, und, und, und, und, und, und, und, und, und, und, und, und, und, und, und, und, und, und, und, und, und, und, und, und, und, und, und, und, und, und, und, und, und, und, und] M) (n := j) fun i hi => r_spec_WordCmp M a b ha hb i (by omega) (by omega) (h3 i hi (by omega) (by omega))
  simp only [Int.natCast_zero, Int.ofNat_zero] at hl
  rcases h4 with ⟨e1, e2, e⟩ | ⟨e1, e2, e⟩ | ⟨e1, e2, e⟩ | ⟨e1, e2, ⟨e3, e⟩ | ⟨e3, e4, e⟩⟩
  · rw [e]
    have q1 : ¬ j < a.length := by omega
    have q3 : ¬ (a.length : Int) < b.length := by omega
    have q4 : ¬ (b.length : Int) < a.length := by omega
    rw [aCall_eq T_spec_WordCmp]; unfold A_spec_WordCmp C_spec_WordCmp; simp [hl]
    rw [S_spec_WordCmp_0]; unfold B_spec_WordCmp_0; simp [q1, q3, q4]
  · rw [e]
    have q1 : ¬ j < a.length := by omega
    have q3 : (a.length : Int) < b.length := by omega
    rw [aCall_eq T_spec_WordCmp]; unfold A_spec_WordCmp C_spec_WordCmp; simp [hl]
    rw [S_spec_WordCmp_0]; unfold B_spec_WordCmp_0; simp [q1, q3]
  · rw [e]
    have q1 : j < a.length := by omega
    have q2 : ¬ j < b.length := by omega
    have q3 : ¬ (a.length : Int) < b.length := by omega
    have q4 : (b.length : Int) < a.length := by omega
    rw [aCall_eq T_spec_WordCmp]; unfold A_spec_WordCmp C_spec_WordCmp; simp [hl]
    rw [S_spec_WordCmp_0]; unfold B_spec_WordCmp_0; simp [q1, q2, q3, q4]
  · rw [e]
    have q : (a[j].toNat : Int) < b[j].toNat := by have := UInt8.lt_iff_toNat_lt.1 e3; omega
    rw [aCall_eq T_spec_WordCmp]; unfold A_spec_WordCmp C_spec_WordCmp; simp [hl]
    rw [S_spec_WordCmp_0]; unfold B_spec_WordCmp_0; simp [e1, e2, byteV, q]
  · rw [e]
    have q : ¬ (a[j].toNat : Int) < b[j].toNat := by have : ¬ a[j].toNat < b[j].toNat := fun q => e3 (UInt8.lt_iff_toNat_lt.2 q); omega
    have q2 : (b[j].toNat : Int) < a[j].toNat := by have := UInt8.lt_iff_toNat_lt.1 e4; omega
    rw [aCall_eq T_spec_WordCmp]; unfold A_spec_WordCmp C_spec_WordCmp; simp [hl]
    rw [S_spec_WordCmp_0]; unfold B_spec_WordCmp_0; simp [e1, e2, byteV, q, q2]
theorem goodB_get (xs : List ty_Entry.D) (i : Nat) (hi : i < xs.length) : goodB xs i = (entB xs[i] && (decide (i = 0) || Op.bytesLess (xs[i - 1]'(by omega)).1 xs[i].1)) := by
  unfold goodB
  rw [List.getElem?_eq_getElem hi, List.getElem?_eq_getElem (show i - 1 < xs.length by omega)]
theorem cmp_ge (a b : List UInt8) : decide (0 ≤ cmpW a b) = !Op.bytesLess a b := by
  unfold cmpW
  cases Op.bytesLess a b
  · cases Op.bytesLess b a <;> simp
  · simp
theorem r_spec_BookOk (M : Mem) (a : Option Addr) (c : Nat) (k : Int × Int × Int × Int) (xs : List ty_Entry.D) (h : Rep (.sl ty_Entry) M [.slice a xs.length c] xs) (hn : xs.length ≤ 9223372036854775807) (hf : ∀ e ∈ xs, e.1.length ≤ 9223372036854775807) (p : Nat)
    (hb : M[p]? = some ⟨cB k (.slice a xs.length c), 1, 2⟩) (i : Nat) (hi : i < xs.length) (hq : goodB xs i = true) :
    lp (aCall T0) K_spec_BookOk_0 L_spec_BookOk_0 [und, .pointer (some ⟨p, 0, none⟩), und, .int .i64 i, und, und, und, und, und, und, und, und, und, und, und, und, und, und, und, und, und, und, und, und, und, und, und, und, und, und, und, und, und, und, und, und, und, und, und, und, und, und, und, und, und, und, und, und, und, und, und, und, und, und, und, und, und, und, und, und, und, und, und, und, und, und, und, und, und] M = lp (aCall T0) K_spec_BookOk_0 L_spec_BookOk_0 [und, .pointer (some ⟨p, 0, none⟩), und, .int .i64 (i + 1 : Nat), und, und, und, und, und, und, und, und, und, und, und, und, und, und, und, und, und, und, und, und, und, und, und, und, und, und, und, und, und, und, und, und, und, und, und, und, und, und, und, und, und, und, und, und, und, und, und, und, und, und, und, und, und, und, und, und, und, und, und, und, und, und, und, und, und] M := by
  obtain ⟨l, o, rfl, hrep, hrd, hf0, hf1⟩ := at_Entry h hi
  have e6 : IntKind.i64.wrap ((i : Int) + 1) = i + 1 := wrap_i64 (by omega) (by omega)
  obtain ⟨_, _, _, b4, _, _⟩ := rd_book hb
  have s1 := c_spec_l17Full M xs[i] (hf _ (List.getElem_mem hi))
  rw [goodB_get xs i hi, Bool.and_eq_true] at hq
  rw [hq.1] at s1
  by_cases h0 : i = 0
  · have g0 : ¬ 0 < (i : Int) := by omega
    have g1 : ¬ 0 < i := by omega
    rw [S_spec_BookOk_0]; unfold B_spec_BookOk_0; simp [b4, hrd, hi, s1, e6, g0, g1]
  · obtain ⟨l2, o2, e2, _, _, hf2, _⟩ := at_Entry h (show i - 1 < xs.length by omega)
    simp at e2
    obtain ⟨rfl, rfl⟩ := e2
    have g0 : 0 < (i : Int) := by omega
    have g2 : 0 < i := by omega
    have g1 : IntKind.i64.wrap ((i : Int) - 1) = ((i - 1 : Nat) : Int) := by rw [wrap_i64 (by omega) (by omega)]; omega
    have hi1 : i - 1 < xs.length := by omega
    have s2 := c_spec_WordCmp M (xs[i - 1]'hi1).1 xs[i].1 (hf _ (List.getElem_mem _)) (hf _ (List.getElem_mem _))
    have h3 : decide (0 ≤ cmpW (xs[i - 1]'hi1).1 xs[i].1) = false := by
      rw [cmp_ge]
      have := hq.2
      simp [h0] at this
      simp [this]
    have h4 : ¬ (0 ≤ cmpW (xs[i - 1]'hi1).1 xs[i].1) := of_decide_eq_false h3
    rw [S_spec_BookOk_0]; unfold B_spec_BookOk_0; simp [b4, hrd, hi, s1, e6, g0, g2, g1, hi1, hf2, hf0, s2, h4]
theorem x_spec_BookOk (M0 N : Mem) (a : Option Addr) (c : Nat) (k : Int × Int × Int × Int) (xs : List ty_Entry.D) (h : Rep (.sl ty_Entry) (M0 ++ N) [.slice a xs.length c] xs) (hn : xs.length ≤ 9223372036854775807) (hf : ∀ e ∈ xs, e.1.length ≤ 9223372036854775807) (p : Nat)
    (hb : (M0 ++ N)[p]? = some ⟨cB k (.slice a xs.length c), 1, 2⟩) (i : Nat) (hi : i < xs.length) (hq : goodB xs i = false) (K : ACode) :
    thenF M0 [.tmp 2] (thenS (blockR 0 (lp (aCall T0) K_spec_BookOk_0 L_spec_BookOk_0 [und, .pointer (some ⟨p, 0, none⟩), und, .int .i64 i, und, und, und, und, und, und, und, und, und, und, und, und, und, und, und, und, und, und, und, und, und, und, und, und, und, und, und, und, und, und, und, und, und, und, und, und, und, und, und, und, und, und, und, und, und, und, und, und, und, und, und, und, und, und, und, und, und, und, und, und, und, und, und, und, und] (M0 ++ N))) (aCall T0) K) = some (.bool false, M0) := by
  obtain ⟨l, o, rfl, hrep, hrd, hf0, hf1⟩ := at_Entry h hi
  obtain ⟨_, _, _, b4, _, _⟩ := rd_book hb
  have s1 := c_spec_l17Full (M0 ++ N) xs[i] (hf _ (List.getElem_mem hi))
  rw [goodB_get xs i hi] at hq
  cases he : entB xs[i] with
  | false =>
    rw [he] at s1
    rw [S_spec_BookOk_0]; unfold B_spec_BookOk_0; simp [b4, hrd, hi, s1]
  | true =>
    rw [he] at s1 hq
    have h0 : ¬ i = 0 := by
      intro e
      simp [e] at hq
    obtain ⟨l2, o2, e2, _, _, hf2, _⟩ := at_Entry h (show i - 1 < xs.length by omega)
    simp at e2
    obtain ⟨rfl, rfl⟩ := e2
    have g0 : 0 < (i : Int) := by omega
    have g2 : 0 < i := by omega
    have g1 : IntKind.i64.wrap ((i : Int) - 1) = ((i - 1 : Nat) : Int) := by rw [wrap_i64 (by omega) (by omega)]; omega
    have hi1 : i - 1 < xs.length := by omega
    have s2 := c_spec_WordCmp (M0 ++ N) (xs[i - 1]'hi1).1 xs[i].1 (hf _ (List.getElem_mem _)) (hf _ (List.getElem_mem _))
    have h3 : decide (0 ≤ cmpW (xs[i - 1]'hi1).1 xs[i].1) = true := by
      rw [cmp_ge]
      simp [h0] at hq
      simp [hq]
    have h4 : (0 ≤ cmpW (xs[i - 1]'hi1).1 xs[i].1) := of_decide_eq_true h3
    rw [S_spec_BookOk_0]; unfold B_spec_BookOk_0; simp [b4, hrd, hi, s1, g0, g2, g1, hi1, hf2, hf0, s2, h4]
theorem good_word {xs : List ty_Entry.D} (h : ∀ i, i < xs.length → goodB xs i = true) {i : Nat} (hi : i < xs.length) : wordB xs[i].1 = true := by
  have := h i hi
  rw [goodB_get xs i hi] at this
  simp only [entB, Bool.and_eq_true] at this
  exact this.1.1
theorem wordB_len {w : List UInt8} (h : wordB w = true) : 1 ≤ w.length ∧ w.length ≤ 32 := by
  simp [wordB] at h; omega
theorem pow2_pos (n : Nat) : (0 : Int) < 2 ^ n := Int.pow_pos (by omega)
theorem pow2_le {n m : Nat} (h : n ≤ m) : (2 : Int) ^ n ≤ 2 ^ m := by
  have := Nat.pow_le_pow_right (show 0 < 2 by omega) h
  exact_mod_cast this
theorem l_spec_l02Pow (M : Mem) : ∀ (n : Nat) (x : Int), 0 ≤ x → x * 2 ^ n ≤ 4611686018427387904 → n ≤ 1000 →
    ∃ e0 e1 e2 e4 e5 e6 e7 e8 e9 e10, lp (aCall T0) K_spec_l02Pow_0 L_spec_l02Pow_0 [.int .i64 n, und, und, .int .i64 x, und, und, und, und, und, und, und] M = some (.exit 0, [e0, e1, e2, .int .i64 (x * 2 ^ n), e4, e5, e6, e7, e8, e9, e10], M)
  | 0, x, _, _, _ => by
    rw [S_spec_l02Pow_0]; unfold B_spec_l02Pow_0; simp
  | n + 1, x, h0, h1, h2 => by
    have hp : (1 : Int) ≤ 2 ^ n := by
      have : (0 : Int) < 2 ^ n := Int.pow_pos (by omega)
      omega
    have e : x * 2 ^ (n + 1) = 2 * x * 2 ^ n := by rw [Int.pow_succ, ← Int.mul_assoc, Int.mul_right_comm, Int.mul_comm x 2]
    rw [e] at h1
    have hx : 2 * x ≤ 2 * x * 2 ^ n := by
      have := Int.mul_le_mul_of_nonneg_left hp (show (0 : Int) ≤ 2 * x by omega)
      simpa using this
    have ih := l_spec_l02Pow M n (2 * x) (by omega) h1 (by omega)
    rw [e]
    rw [S_spec_l02Pow_0]; unfold B_spec_l02Pow_0; simp
    rw [wrap_i64 (z := 2 * x) (by omega) (by omega), wrap_i64 (z := n) (by omega) (by omega)]
    exact ih
theorem c_spec_l02Pow (M : Mem) (n : Nat) (h : n ≤ 60) : aCall T0 F_spec_l02Pow [.int .i64 n] M = some (.int .i64 (2 ^ n), M) := by
  obtain ⟨e0, e1, e2, e4, e5, e6, e7, e8, e9, e10, ih⟩ := l_spec_l02Pow M n 1 (by omega) (by
    have : (2 : Int) ^ n ≤ 2 ^ 60 := pow2_le h
    omega) (by omega)
  rw [aCall_eq T_spec_l02Pow]; unfold A_spec_l02Pow C_spec_l02Pow; simp [ih]
def hashR (key : Int) (w : List UInt8) : Int := if (0 ≤ key ∧ key ≤ 4294967295) ∧ wordB w = true then hashV key.toNat w else -1
abbrev padB (w : List UInt8) : Blk := ⟨(padL w).map byteV, 1, 2⟩
theorem hs_lt (h : Nat) (b : UInt8) : hs h b < 4294967296 := Nat.mod_lt _ (by omega)
theorem hashN_lt {key : Nat} (hk : key < 4294967296) (w : List UInt8) : ∀ n, hashN key w n < 4294967296
  | n => by
    unfold hashN
    induction (padL w).take n generalizing key with
    | nil => exact hk
    | cons a l ih => exact ih (hs_lt _ _)
theorem hashN_zero (key : Nat) (w : List UInt8) : hashN key w 0 = key := rfl
theorem padL_f {w : List UInt8} (h : wordB w = false) : (padL w).map byteV = zc (.int .u8 0) 33 := by
  unfold padL
  rw [h]
  simp only [Bool.false_eq_true, if_false]
  exact map_byte_rep 33
theorem padL_t {w : List UInt8} (h : wordB w = true) : (padL w).map byteV = .int .u8 w.length :: (w.map byteV ++ zc (.int .u8 0) (32 - w.length)) := by
  have := wordB_len h
  unfold padL
  rw [h]
  simp only [if_true]
  rw [List.map_cons, List.map_append, map_byte_rep, byteV_len (by omega)]
def padC (w : List UInt8) (i : Nat) : List V := .int .u8 w.length :: ((w.take i).map byteV ++ zc (.int .u8 0) (32 - i))
theorem padC_set (w : List UInt8) (i : Nat) (hi : i < w.length) (hw : w.length ≤ 32) : (padC w i).set (i + 1) (byteV w[i]) = padC w (i + 1) := by
  unfold padC
  rw [List.set_cons_succ, List.set_append_right _ _ (by simp; omega)]
  have e1 : i - ((w.take i).map byteV).length = 0 := by simp; omega
  have e2 : 32 - i = 32 - (i + 1) + 1 := by omega
  rw [e1, e2, zc_set, List.take_succ_eq_append_getElem hi]
  simp only [List.map_append, List.map_cons, List.map_nil, List.append_assoc, List.cons_append, List.nil_append]
theorem padC_len (w : List UInt8) (i : Nat) (hi : i ≤ w.length) (hw : w.length ≤ 32) : (padC w i).length = 33 := by
  unfold padC; simp; omega
theorem r_spec_Pad (M : Mem) (w : List UInt8) (h2 : w.length ≤ 32) (i : Nat) (hi : i < w.length) :
    lp (aCall T0) K_spec_Pad_0 L_spec_Pad_0 [strV w, und, und, .slice (some ⟨M.length, 0, none⟩) 33 33, .int .i64 i, und, und, und, und, und, und, und, und, und, und, und, und, und, und, und, und, und, und, und, und, und, und, und, und] (M ++ [⟨padC w i, 1, 2⟩]) =
    lp (aCall T0) K_spec_Pad_0 L_spec_Pad_0 [strV w, und, und, .slice (some ⟨M.length, 0, none⟩) 33 33, .int .i64 (i + 1 : Nat), und, und, und, und, und, und, und, und, und, und, und, und, und, und, und, und, und, und, und, und, und, und, und, und] (M ++ [⟨padC w (i + 1), 1, 2⟩]) := by
  have e1 : ((i : Int) + 1).toNat = i + 1 := by omega
  have e2 : (0 : Int) ≤ i + 1 := by omega
  have e3 : (i : Int) + 1 < 33 := by omega
  have e4 := padC_len w i (by omega) h2
  have e5 : i + 1 + 1 ≤ 33 := by omega
  have e6 : splice (padC w i) (i + 1) [byteV w[i]] = padC w (i + 1) := by rw [splice_one (by omega), padC_set w i hi h2]
  have e7 : IntKind.i64.wrap ((i : Int) + 1) = i + 1 := wrap_i64 (by omega) (by omega)
  unfold splice at e6
  simp at e6
  rw [S_spec_Pad_0]; unfold B_spec_Pad_0; simp [hi, e1, e2, e3, e4, e5, e6, e7]
theorem c_spec_Pad (M : Mem) (w : List UInt8) (hw : w.length ≤ 9223372036854775807) : aCall T0 F_spec_Pad [strV w] M = some (.slice (some ⟨M.length, 0, none⟩) 33 33, M ++ [padB w]) := by
  unfold padB
  cases hb : wordB w with
  | false => rw [padL_f hb]; rw [aCall_eq T_spec_Pad]; unfold A_spec_Pad C_spec_Pad; simp [c_spec_WordOk _ _ hw, hb]
  | true =>
    obtain ⟨h1, h2⟩ := wordB_len hb
    rw [padL_t hb]
    have hl := chain (g := fun i : Nat => lp (aCall T0) K_spec_Pad_0 L_spec_Pad_0 [strV w, und, und, .slice (some ⟨M.length, 0, none⟩) 33 33, .int .i64 i, und, und, und, und, und, und, und, und, und, und, und, und, und, und, und, und, und, und, und, und, und, und, und, und] (M ++ [⟨padC w i, 1, 2⟩])) (n := w.length) fun i hi => r_spec_Pad M w h2 i hi
    have e0 : padC w 0 = .int .u8 w.length :: zc (.int .u8 0) 32 := by simp [padC]
    have e1 : padC w w.length = .int .u8 w.length :: (w.map byteV ++ zc (.int .u8 0) (32 - w.length)) := by simp [padC]
    simp only [Int.natCast_zero, Int.ofNat_zero, e0, e1] at hl
    rw [aCall_eq T_spec_Pad]; unfold A_spec_Pad C_spec_Pad; simp [c_spec_WordOk _ _ hw, hb]
    rw [wrap_u8 (by omega) (by omega), hl]
    rw [S_spec_Pad_0]; unfold B_spec_Pad_0; simp
theorem padL_len (w : List UInt8) : (padL w).length = 33 := by
  unfold padL
  split
  · rename_i h; have := wordB_len h; simp; omega
  · simp
theorem hashN_succ (key : Nat) (w : List UInt8) (n : Nat) (hn : n < (padL w).length) : hashN key w (n + 1) = hs (hashN key w n) (padL w)[n] := by
  unfold hashN
  rw [List.take_succ_eq_append_getElem hn, List.foldl_append, List.foldl_cons, List.foldl_nil]
theorem hs_i64 (h : Nat) (b : UInt8) (hh : h < 4294967296) : Int.tmod (IntKind.i64.wrap (bxor .i64 h b.toNat * 16777619)) 4294967296 = hs h b := by
  have hb := b.toNat_lt
  have hx : h ^^^ b.toNat < 4294967296 := Nat.xor_lt_two_pow (n := 32) (by omega) (by omega)
  rw [xor_i64 (by omega) (by omega), wrap_i64 (by omega) (by omega), Int.tmod_eq_emod_of_nonneg (by omega)]
  unfold hs
  omega
theorem r_spec_HashWord (M : Mem) (w : List UInt8) (key : Nat) (hk : key < 4294967296) (i : Nat) (hi : i < 33) :
    lp (aCall T0) K_spec_HashWord_0 L_spec_HashWord_0 [und, und, und, und, und, .int .i64 (hashN key w i), .slice (some ⟨M.length, 0, none⟩) 33 33, .int .i64 i, und, und, und, und, und, und, und, und, und, und, und, und, und, und, und, und, und, und, und, und, und, und, und, und, und, und, und, und, und, und, und, und, und] (M ++ [padB w]) =
    lp (aCall T0) K_spec_HashWord_0 L_spec_HashWord_0 [und, und, und, und, und, .int .i64 (hashN key w (i + 1)), .slice (some ⟨M.length, 0, none⟩) 33 33, .int .i64 (i + 1 : Nat), und, und, und, und, und, und, und, und, und, und, und, und, und, und, und, und, und, und, und, und, und, und, und, und, und, und, und, und, und, und, und, und, und] (M ++ [padB w]) := by
  have hl := padL_len w
  have h0 : (padL w)[i]? = some (padL w)[i] := by simp [hl, hi]
  have hb := (padL w)[i].toNat_lt
  have hh := hashN_lt hk w i
  have hi2 : (i : Int) < 33 := by omega
  rw [hashN_succ key w i (by omega)]
  rw [S_spec_HashWord_0]; unfold B_spec_HashWord_0; simp [hi2, h0, byteV]
  rw [wrap_i64 (z := (padL w)[i].toNat) (by omega) (by omega), hs_i64 _ _ hh, wrap_i64 (by omega) (by omega)]
theorem c_spec_HashWord (M : Mem) (w : List UInt8) (hw : w.length ≤ 9223372036854775807) (key : Int) : aCall T0 F_spec_HashWord [.int .i64 key, strV w] M = some (.int .i64 (hashR key w), M) := by
  unfold hashR
  by_cases h1 : key < 0
  · rw [if_neg (by omega)]
    rw [aCall_eq T_spec_HashWord]; unfold A_spec_HashWord C_spec_HashWord; simp [h1]
  by_cases h2 : 4294967295 < key
  · rw [if_neg (by omega)]
    rw [aCall_eq T_spec_HashWord]; unfold A_spec_HashWord C_spec_HashWord; simp [h1, h2]
  obtain ⟨n, rfl⟩ : ∃ n : Nat, key = n := ⟨key.toNat, by omega⟩
  cases hb : wordB w with
  | false => rw [aCall_eq T_spec_HashWord]; unfold A_spec_HashWord C_spec_HashWord; simp [h1, h2, c_spec_WordOk _ _ hw, hb]
  | true =>
    have hk : n < 4294967296 := by omega
    have hl := chain (g := fun i : Nat => lp (aCall T0) K_spec_HashWord_0 L_spec_HashWord_0 [und, und, und, und, und, .int .i64 (hashN n w i), .slice (some ⟨M.length, 0, none⟩) 33 33, .int .i64 i, und, und, und, und, und, und, und, und, und, und, und, und, und, und, und, und, und, und, und, und, und, und, und, und, und, und, und, und, und, und, und, und, und] (M ++ [padB w])) (n := 33) fun i hi => r_spec_HashWord M w n hk i hi
    simp only [Int.natCast_zero, Int.ofNat_zero, hashN_zero] at hl
    have hp := c_spec_Pad M w hw
    have hh := hashN_lt hk w 33
    have e1 : IntKind.i64.wrap (Int.tdiv (hashN n w 33) 65536) = ((hashN n w 33 / 65536 : Nat) : Int) := by
      rw [Int.tdiv_eq_ediv_of_nonneg (by omega), wrap_i64 (by omega) (by omega)]
      omega
    have h3 : 0 ≤ (n : Int) ∧ (n : Int) ≤ 4294967295 := by omega
    rw [aCall_eq T_spec_HashWord]; unfold A_spec_HashWord C_spec_HashWord; simp [h1, h2, c_spec_WordOk _ _ hw, hb, hp, hl]
    rw [S_spec_HashWord_0]; unfold B_spec_HashWord_0; simp [e1]
    have e2 : IntKind.i64.wrap ((hashN n w 33 : Int) / 65536) = ((hashN n w 33 / 65536 : Nat) : Int) := by
      rw [wrap_i64 (by omega) (by omega)]; omega
    rw [e2, xor_i64 (by omega) (by omega), if_pos h3.2]
    rfl
theorem c_spec_l11Log (M : Mem) (x : Int) : aCall T0 F_spec_l11Log [.int .i64 x] M = some (.bool (decide (0 ≤ x) && decide (x ≤ 6)), M) := by
  rw [aCall_eq T_spec_l11Log]; unfold A_spec_l11Log C_spec_l11Log; simp
  repeat' ((first | rw [selO_some] | rw [condR_bool] | rw [selD_some]); split <;> rename_i hq <;> (have hq2 := hq) <;> (try simp at hq2) <;> (try simp [*]))
theorem c_spec_ShelfFor (M : Mem) (w : List UInt8) (hw : w.length ≤ 9223372036854775807) (key : Int) (l : Int) : aCall T0 F_spec_ShelfFor [.int .i64 key, strV w, .int .i64 l] M = some (.int .i64 (if ((0 ≤ key ∧ key ≤ 4294967295) ∧ wordB w = true) ∧ (0 ≤ l ∧ l ≤ 6) then (hashV key.toNat w % 2 ^ l.toNat : Nat) else -1), M) := by
  by_cases hk : (0 ≤ key ∧ key ≤ 4294967295) ∧ wordB w = true
  · have e0 : hashR key w = (hashV key.toNat w : Int) := by unfold hashR; rw [if_pos hk]
    have e1 : ¬ (hashV key.toNat w : Int) < 0 := by omega
    by_cases hl : 0 ≤ l ∧ l ≤ 6
    · obtain ⟨m, rfl⟩ : ∃ n : Nat, l = n := ⟨l.toNat, by omega⟩
      have hl2 : (m : Int) ≤ 6 := hl.2
      have hq : (2 : Int) ^ m ≠ 0 := by have := pow2_pos m; omega
      have e2 : Int.tmod (hashV key.toNat w) (2 ^ m) = (hashV key.toNat w % 2 ^ m : Nat) := by
        rw [Int.tmod_eq_emod_of_nonneg (by omega)]; simp
      rw [if_pos ⟨hk, hl⟩]
      rw [aCall_eq T_spec_ShelfFor]; unfold A_spec_ShelfFor C_spec_ShelfFor; simp [c_spec_HashWord _ _ hw, e0, e1, c_spec_l11Log, hl2, c_spec_l02Pow _ m (by omega), hq]
      rw [e2]
      simp
    · have e : (decide (0 ≤ l) && decide (l ≤ 6)) = false := by simpa using hl
      rw [if_neg (fun h => hl h.2)]
      rw [aCall_eq T_spec_ShelfFor]; unfold A_spec_ShelfFor C_spec_ShelfFor; simp [c_spec_HashWord _ _ hw, e0, e1, c_spec_l11Log, e]
  · have e0 : hashR key w = -1 := by unfold hashR; rw [if_neg hk]
    rw [if_neg (fun h => hk h.1)]
    rw [aCall_eq T_spec_ShelfFor]; unfold A_spec_ShelfFor C_spec_ShelfFor; simp [c_spec_HashWord _ _ hw, e0]
theorem confK_r {k : Int × Int × Int × Int} (h : confK k = true) : (0 ≤ k.1 ∧ k.1 ≤ 4294967295) ∧ (2 ≤ k.2.1 ∧ k.2.1 ≤ 6) ∧ (0 ≤ k.2.2.1 ∧ k.2.2.1 ≤ 64) ∧ (1 ≤ k.2.2.2 ∧ k.2.2.2 ≤ 64) := by
  simp only [confK, confOk, Bool.and_eq_true, decide_eq_true_eq] at h
  omega
theorem c_spec_ShelfFor2 (M : Mem) (k : Int × Int × Int × Int) (hk : confK k = true) (w : List UInt8) (hw : wordB w = true) : aCall T0 F_spec_ShelfFor [.int .i64 k.1, strV w, .int .i64 k.2.1] M = some (.int .i64 (sh k w : Nat), M) := by
  have h := confK_r hk
  have hl := wordB_len hw
  rw [c_spec_ShelfFor M w (by omega), if_pos ⟨⟨h.1, hw⟩, by omega, by omega⟩]
  rfl
theorem cnt_take (k : Int × Int × Int × Int) (xs : List ty_Entry.D) (s i : Nat) (hi : i < xs.length) : cnt k (xs.take (i + 1)) s = cnt k (xs.take i) s + if sh k xs[i].1 = s then 1 else 0 := by
  unfold cnt
  rw [List.take_succ_eq_append_getElem hi, List.countP_append, List.countP_singleton]
  by_cases h : sh k xs[i].1 = s <;> simp [h]
theorem cnt_le (k : Int × Int × Int × Int) (xs : List ty_Entry.D) (s : Nat) : cnt k xs s ≤ xs.length := List.countP_le_length
theorem r_spec_l19Shelf (M : Mem) (a : Option Addr) (c : Nat) (k : Int × Int × Int × Int) (hk : confK k = true) (xs : List ty_Entry.D) (h : Rep (.sl ty_Entry) M [.slice a xs.length c] xs) (hn : xs.length ≤ 9223372036854775807) (hg : ∀ i, i < xs.length → goodB xs i = true) (w : List UInt8) (hw : wordB w = true) (p : Nat)
    (hb : M[p]? = some ⟨cB k (.slice a xs.length c), 1, 2⟩) (i : Nat) (hi : i < xs.length) :
    lp (aCall T0) K_spec_l19Shelf_0 L_spec_l19Shelf_0 [und, strV w, .pointer (some ⟨p, 0, none⟩), und, und, .int .i64 (cnt k (xs.take i) (sh k w) : Nat), .int .i64 i, und, und, und, und, und, und, und, und, und, und, und, und, und, und, und, und, und, und, und, und, und, und, und, und, und, und, und, und, und, und, und, und] M = lp (aCall T0) K_spec_l19Shelf_0 L_spec_l19Shelf_0 [und, strV w, .pointer (some ⟨p, 0, none⟩), und, und, .int .i64 (cnt k (xs.take (i + 1)) (sh k w) : Nat), .int .i64 (i + 1 : Nat), und, und, und, und, und, und, und, und, und, und, und, und, und, und, und, und, und, und, und, und, und, und, und, und, und, und, und, und, und, und, und, und] M := by
  obtain ⟨l, o, rfl, hrep, hrd, hf0, hf1⟩ := at_Entry h hi
  have e6 : IntKind.i64.wrap ((i : Int) + 1) = i + 1 := wrap_i64 (by omega) (by omega)
  have b0 : rd1 M p 0 = some (.int .i64 k.1) := by unfold rd1; rw [hb]; rfl
  have b1 : rd1 M p 1 = some (.int .i64 k.2.1) := by unfold rd1; rw [hb]; rfl
  have b4 : rd1 M p 4 = some (.slice (some ⟨l, o, none⟩) xs.length c) := by unfold rd1; rw [hb]; rfl
  have s1 := c_spec_ShelfFor2 M k hk xs[i].1 (good_word hg hi)
  have s2 := c_spec_ShelfFor2 M k hk w hw
  have hc := cnt_le k (xs.take i) (sh k w)
  have e7 : IntKind.i64.wrap ((cnt k (xs.take i) (sh k w) : Int) + 1) = cnt k (xs.take i) (sh k w) + 1 := by
    rw [List.length_take] at hc
    exact wrap_i64 (by omega) (by omega)
  rw [cnt_take k xs (sh k w) i hi]
  generalize cnt k (xs.take i) (sh k w) = q at e7
  by_cases hq : sh k xs[i].1 = sh k w
  · rw [if_pos hq]
    rw [hq] at s1
    rw [S_spec_l19Shelf_0]; unfold B_spec_l19Shelf_0; simp [b0, b1, b4, hf0, e6, hi, s1, s2, e7]
  · rw [if_neg hq]
    have hq2 : ¬ ((sh k xs[i].1 : Int) = sh k w) := by omega
    rw [S_spec_l19Shelf_0]; unfold B_spec_l19Shelf_0; simp [b0, b1, b4, hf0, e6, hi, s1, s2, hq, hq2]
theorem c_spec_l19Shelf (M : Mem) (v : V) (k : Int × Int × Int × Int) (hk : confK k = true) (xs : List ty_Entry.D) (h : Rep (.sl ty_Entry) M [v] xs) (hn : xs.length ≤ 9223372036854775807) (hg : ∀ i, i < xs.length → goodB xs i = true) (w : List UInt8) (hw : wordB w = true) :
    aCall T0 F_spec_l19Shelf [.agg (cB k v).toArray, strV w] M = some (.int .i64 (cnt k xs (sh k w) : Nat), M) := by
  obtain ⟨a, c, rfl⟩ := h.slen
  have hb : (M ++ [(⟨cB k (.slice a xs.length c), 1, 2⟩ : Blk)])[M.length]? = some ⟨cB k (.slice a xs.length c), 1, 2⟩ := by simp
  have b4 : rd1 (M ++ [(⟨cB k (.slice a xs.length c), 1, 2⟩ : Blk)]) M.length 4 = some (.slice a xs.length c) := by unfold rd1; rw [hb]; rfl
  have hl := chain (g := fun i : Nat => lp (aCall T0) K_spec_l19Shelf_0 L_spec_l19Shelf_0 [und, strV w, .pointer (some ⟨M.length, 0, none⟩), und, und, .int .i64 (cnt k (xs.take i) (sh k w) : Nat), .int .i64 i, und, und, und, und, und, und, und, und, und, und, und, und, und, und, und, und, und, und, und, und, und, und, und, und, und, und, und, und, und, und, und, und] (M ++ [⟨cB k (.slice a xs.length c), 1, 2⟩])) (n := xs.length) fun i hi => r_spec_l19Shelf _ a c k hk xs (h.mono (List.prefix_append _ _)) hn hg w hw M.length hb i hi
  have e0 : cnt k (xs.take 0) (sh k w) = 0 := by simp [cnt]
  simp only [e0, List.take_length, Int.natCast_zero, Int.ofNat_zero] at hl
  rw [aCall_eq T_spec_l19Shelf]; unfold A_spec_l19Shelf C_spec_l19Shelf; simp [hl]
  rw [S_spec_l19Shelf_0]; unfold B_spec_l19Shelf_0; simp [b4]
theorem few_get {k : Int × Int × Int × Int} {xs : List ty_Entry.D} {i : Nat} (hi : i < xs.length) : fewB k xs i = decide (cnt k xs (sh k xs[i].1) ≤ 4) := by
  unfold fewB
  rw [List.getElem?_eq_getElem hi]
theorem r2_spec_BookOk (M : Mem) (a : Option Addr) (c : Nat) (k : Int × Int × Int × Int) (hk : confK k = true) (xs : List ty_Entry.D) (h : Rep (.sl ty_Entry) M [.slice a xs.length c] xs) (hn : xs.length ≤ 9223372036854775807) (hg : ∀ i, i < xs.length → goodB xs i = true) (p : Nat)
    (hb : M[p]? = some ⟨cB k (.slice a xs.length c), 1, 2⟩) (i : Nat) (hi : i < xs.length) (hq : fewB k xs i = true) :
    lp (aCall T0) K_spec_BookOk_1 L_spec_BookOk_1 [und, .pointer (some ⟨p, 0, none⟩), und, und, .int .i64 i, und, und, und, und, und, und, und, und, und, und, und, und, und, und, und, und, und, und, und, und, und, und, und, und, und, und, und, und, und, und, und, und, und, und, und, und, und, und, und, und, und, und, und, und, und, und, und, und, und, und, und, und, und, und, und, und, und, und, und, und, und, und, und, und] M = lp (aCall T0) K_spec_BookOk_1 L_spec_BookOk_1 [und, .pointer (some ⟨p, 0, none⟩), und, und, .int .i64 (i + 1 : Nat), und, und, und, und, und, und, und, und, und, und, und, und, und, und, und, und, und, und, und, und, und, und, und, und, und, und, und, und, und, und, und, und, und, und, und, und, und, und, und, und, und, und, und, und, und, und, und, und, und, und, und, und, und, und, und, und, und, und, und, und, und, und, und, und] M := by
  have s1 := c_spec_l19Shelf M _ k hk xs h hn hg xs[i].1 (good_word hg hi)
  obtain ⟨l, o, rfl, hrep, hrd, hf0, hf1⟩ := at_Entry h hi
  have e6 : IntKind.i64.wrap ((i : Int) + 1) = i + 1 := wrap_i64 (by omega) (by omega)
  obtain ⟨_, _, _, b4, _, b5⟩ := rd_book hb
  rw [few_get hi, decide_eq_true_eq] at hq
  have h4 : ¬ 4 < (cnt k xs (sh k xs[i].1) : Int) := by omega
  rw [S_spec_BookOk_1]; unfold B_spec_BookOk_1; simp [b4, b5, hf0, hi, s1, e6, h4]
theorem x2_spec_BookOk (M0 N : Mem) (a : Option Addr) (c : Nat) (k : Int × Int × Int × Int) (hk : confK k = true) (xs : List ty_Entry.D) (h : Rep (.sl ty_Entry) (M0 ++ N) [.slice a xs.length c] xs) (hn : xs.length ≤ 9223372036854775807) (hg : ∀ i, i < xs.length → goodB xs i = true) (p : Nat)
    (hb : (M0 ++ N)[p]? = some ⟨cB k (.slice a xs.length c), 1, 2⟩) (i : Nat) (hi : i < xs.length) (hq : fewB k xs i = false) (K : ACode) :
    thenF M0 [.tmp 2] (thenS (blockR 2 (lp (aCall T0) K_spec_BookOk_1 L_spec_BookOk_1 [und, .pointer (some ⟨p, 0, none⟩), und, und, .int .i64 i, und, und, und, und, und, und, und, und, und, und, und, und, und, und, und, und, und, und, und, und, und, und, und, und, und, und, und, und, und, und, und, und, und, und, und, und, und, und, und, und, und, und, und, und, und, und, und, und, und, und, und, und, und, und, und, und, und, und, und, und, und, und, und, und] (M0 ++ N))) (aCall T0) K) = some (.bool false, M0) := by
  have s1 := c_spec_l19Shelf (M0 ++ N) _ k hk xs h hn hg xs[i].1 (good_word hg hi)
  obtain ⟨l, o, rfl, hrep, hrd, hf0, hf1⟩ := at_Entry h hi
  obtain ⟨_, _, _, b4, _, b5⟩ := rd_book hb
  rw [few_get hi, decide_eq_false_iff_not] at hq
  have h4 : 4 < (cnt k xs (sh k xs[i].1) : Int) := by omega
  rw [S_spec_BookOk_1]; unfold B_spec_BookOk_1; simp [b4, b5, hf0, hi, s1, h4]
theorem range_all {n : Nat} {p : Nat → Bool} (h : ∀ i, i < n → p i = true) : (List.range n).all p = true := by
  rw [List.all_eq_true]
  intro i hi
  exact h i (List.mem_range.1 hi)
theorem range_not {n j : Nat} {p : Nat → Bool} (hj : j < n) (h : p j = false) : (List.range n).all p = false := by
  rw [List.all_eq_false]
  exact ⟨j, List.mem_range.2 hj, by simp [h]⟩
theorem c_spec_BookOk (M : Mem) (v : V) (k : Int × Int × Int × Int) (xs : List ty_Entry.D) (h : Rep (.sl ty_Entry) M [v] xs) (hn : xs.length ≤ 9223372036854775807) (hf : ∀ e ∈ xs, e.1.length ≤ 9223372036854775807) :
    aCall T0 F_spec_BookOk [.agg (cB k v).toArray] M = some (.bool (bookB k xs), M) := by
  have s0 := fun M => c_spec_ConfOk M k.1 k.2.1 k.2.2.1 k.2.2.2
  have h' : Rep (.sl ty_Entry) (M ++ [⟨cB k v, 1, 2⟩]) [v] xs := h.mono (List.prefix_append _ _)
  obtain ⟨a, c, rfl⟩ := h.slen
  have hb : (M ++ [(⟨cB k (.slice a xs.length c), 1, 2⟩ : Blk)])[M.length]? = some ⟨cB k (.slice a xs.length c), 1, 2⟩ := by simp
  unfold bookB
  cases hk : confK k with
  | false =>
    have hk' : confOk k.1 k.2.1 k.2.2.1 k.2.2.2 = false := hk
    rw [hk'] at s0
    rw [aCall_eq T_spec_BookOk]; unfold A_spec_BookOk C_spec_BookOk; simp [s0]
  | true =>
  have hk' : confOk k.1 k.2.1 k.2.2.1 k.2.2.2 = true := hk
  rw [hk'] at s0
  by_cases hc : (xs.length : Int) ≤ k.2.2.2
  rotate_left
  · have hc2 : k.2.2.2 < (xs.length : Int) := by omega
    rw [decide_eq_false hc]
    rw [aCall_eq T_spec_BookOk]; unfold A_spec_BookOk C_spec_BookOk; simp [s0, hc2]
  have hc2 : ¬ k.2.2.2 < (xs.length : Int) := by omega
  rw [decide_eq_true hc]
  rcases first_bad (goodB xs) xs.length with hg | ⟨j, hj, h1, h2⟩
  rotate_left
  · have hl := chain (g := fun i : Nat => lp (aCall T0) K_spec_BookOk_0 L_spec_BookOk_0 [und, .pointer (some ⟨M.length, 0, none⟩), und, .int .i64 i, und, und, und, und, und, und, und, und, und, und, und, und, und, und, und, und, und, und, und, und, und, und, und, und, und, und, und, und, und, und, und, und, und, und, und, und, und, und, und, und, und, und, und, und, und, und, und, und, und, und, und, und, und, und, und, und, und, und, und, und, und, und, und, und, und] (M ++ [⟨cB k (.slice a xs.length c), 1, 2⟩])) (n := j) fun i hi => r_spec_BookOk _ a c k xs h' hn hf M.length hb i (by omega) (h1 i hi)
    simp only [Int.natCast_zero, Int.ofNat_zero] at hl
    rw [range_not hj h2]
    rw [aCall_eq T_spec_BookOk]; unfold A_spec_BookOk C_spec_BookOk; simp [s0, hc2, hl, x_spec_BookOk M [⟨cB k (.slice a xs.length c), 1, 2⟩] a c k xs h' hn hf M.length hb j hj h2]
  have hl := chain (g := fun i : Nat => lp (aCall T0) K_spec_BookOk_0 L_spec_BookOk_0 [und, .pointer (some ⟨M.length, 0, none⟩), und, .int .i64 i, und, und, und, und, und, und, und, und, und, und, und, und, und, und, und, und, und, und, und, und, und, und, und, und, und, und, und, und, und, und, und, und, und, und, und, und, und, und, und, und, und, und, und, und, und, und, und, und, und, und, und, und, und, und, und, und, und, und, und, und, und, und, und, und, und] (M ++ [⟨cB k (.slice a xs.length c), 1, 2⟩])) (n := xs.length) fun i hi => r_spec_BookOk _ a c k xs h' hn hf M.length hb i hi (hg i hi)
  simp only [Int.natCast_zero, Int.ofNat_zero] at hl
  rw [range_all hg]
  obtain ⟨_, _, _, b4, _, b5⟩ := rd_book hb
  rcases first_bad (fewB k xs) xs.length with hw | ⟨j, hj, h1, h2⟩
  · have hl2 := chain (g := fun i : Nat => lp (aCall T0) K_spec_BookOk_1 L_spec_BookOk_1 [und, .pointer (some ⟨M.length, 0, none⟩), und, und, .int .i64 i, und, und, und, und, und, und, und, und, und, und, und, und, und, und, und, und, und, und, und, und, und, und, und, und, und, und, und, und, und, und, und, und, und, und, und, und, und, und, und, und, und, und, und, und, und, und, und, und, und, und, und, und, und, und, und, und, und, und, und, und, und, und, und, und] (M ++ [⟨cB k (.slice a xs.length c), 1, 2⟩])) (n := xs.length) fun i hi => r2_spec_BookOk _ a c k hk xs h' hn hg M.length hb i hi (hw i hi)
    simp only [Int.natCast_zero, Int.ofNat_zero] at hl2
    rw [range_all hw]
    rw [aCall_eq T_spec_BookOk]; unfold A_spec_BookOk C_spec_BookOk; simp [s0, hc2, hl]
    rw [S_spec_BookOk_0]; unfold B_spec_BookOk_0; simp [b4, hl2]
    rw [S_spec_BookOk_1]; unfold B_spec_BookOk_1; simp [b4]
  · have hl2 := chain (g := fun i : Nat => lp (aCall T0) K_spec_BookOk_1 L_spec_BookOk_1 [und, .pointer (some ⟨M.length, 0, none⟩), und, und, .int .i64 i, und, und, und, und, und, und, und, und, und, und, und, und, und, und, und, und, und, und, und, und, und, und, und, und, und, und, und, und, und, und, und, und, und, und, und, und, und, und, und, und, und, und, und, und, und, und, und, und, und, und, und, und, und, und, und, und, und, und, und, und, und, und, und, und] (M ++ [⟨cB k (.slice a xs.length c), 1, 2⟩])) (n := j) fun i hi => r2_spec_BookOk _ a c k hk xs h' hn hg M.length hb i (by omega) (h1 i hi)
    simp only [Int.natCast_zero, Int.ofNat_zero] at hl2
    rw [range_not hj h2]
    rw [aCall_eq T_spec_BookOk]; unfold A_spec_BookOk C_spec_BookOk; simp [s0, hc2, hl]
    rw [S_spec_BookOk_0]; unfold B_spec_BookOk_0; simp [b4, hl2, x2_spec_BookOk M [⟨cB k (.slice a xs.length c), 1, 2⟩] a c k hk xs h' hn hg M.length hb j hj h2]
theorem gc_boolp {M M' : Mem} (hp : M <+: M') (b : Bool) : gc M (some (.bool b, M')) = some (.bool b, M) := by
  obtain ⟨N, rfl⟩ := hp
  exact gc_bool M N b
theorem c_impl_within (M : Mem) (x a b : Int) : aCall T0 F_impl_within [.int .i64 x, .int .i64 a, .int .i64 b] M = some (.bool (decide (a ≤ x) && decide (x ≤ b)), M) := by
  rw [aCall_eq T_impl_within]; unfold A_impl_within C_impl_within; simp
  repeat' ((first | rw [selO_some] | rw [condR_bool] | rw [selD_some]); split <;> rename_i hq <;> (have hq2 := hq) <;> (try simp at hq2) <;> (try simp [*]))
theorem c_impl_isDeepLog (M : Mem) (x : Int) : aCall T0 F_impl_isDeepLog [.int .i64 x] M = some (.bool (decide (2 ≤ x) && decide (x ≤ 6)), M) := by
  rw [aCall_eq T_impl_isDeepLog]; unfold A_impl_isDeepLog C_impl_isDeepLog; simp [c_impl_within]
theorem c_impl_isConf (M : Mem) (k l b c : Int) : aCall T0 F_impl_isConf [.agg #[.int .i64 k, .int .i64 l, .int .i64 b, .int .i64 c]] M = some (.bool (confOk k l b c), M) := by
  unfold confOk
  rw [aCall_eq T_impl_isConf]; unfold A_impl_isConf C_impl_isConf; simp [c_impl_within, c_impl_isDeepLog]
  repeat' ((first | rw [selO_some] | rw [condR_bool] | rw [selD_some]); split <;> rename_i hq <;> (have hq2 := hq) <;> (try simp at hq2) <;> (try simp [*, c_impl_within, c_impl_isDeepLog]))
abbrev ty_Int : Ty := .int .i64
abbrev enc_Int (x : ty_Int.D) : List V := [.int .i64 x]
theorem flat_Int (xs : List Int) : (xs.map enc_Int).flatten = xs.map fun n => Value.int .i64 n := by
  induction xs with
  | nil => rfl
  | cons x xs ih => simp [enc_Int, ih]
theorem own_encs {t : Ty} {M : Mem} {enc : t.D → List V} {ys : List t.D} (he : ∀ y ∈ ys, Own t M (enc y) y []) : ∀ (i : Nat) (ds : List V) (x : t.D) (K : List Nat), (ys.map enc)[i]? = some ds → ys[i]? = some x → (ys.map (fun _ => ([] : List Nat)))[i]? = some K → Own t M ds x K := by
  intro i ds x K h1 h2 h3
  rw [List.getElem?_map, h2] at h1
  rw [List.getElem?_map, h2] at h3
  simp only [Option.map_some, Option.some.injEq] at h1 h3
  subst h1; subst h3
  exact he x (List.mem_of_getElem? h2)
theorem nils_flat {α : Type} (ys : List α) : (ys.map (fun _ => ([] : List Nat))).flatten = [] := by
  rw [List.flatten_eq_nil_iff]
  intro K hK
  obtain ⟨_, _, rfl⟩ := List.mem_map.1 hK
  rfl
theorem own_blk {t : Ty} {M : Mem} {l c : Nat} {enc : t.D → List V} {ys : List t.D} (hb : M[l]? = some ⟨(ys.map enc).flatten, t.w, 2⟩) (he : ∀ y ∈ ys, Own t M (enc y) y []) : ∃ L, Own (.sl t) M [.slice (some ⟨l, 0, none⟩) ys.length c] ys L ∧ ∀ j ∈ L, j = l := by
  by_cases hy : ys = []
  · subst hy
    exact ⟨[], .inl ⟨rfl, rfl, .inr ⟨l, 0, c, _, [], rfl, hb, .inr (.inr rfl), rfl, rfl, fun i ds x hd => by simp at hd, by simp⟩⟩, by simp⟩
  · exact ⟨[l], .inr ⟨l, 0, c, _, ys.map enc, ys.map (fun _ => []), hy, rfl, hb, rfl, rfl, by simp, by simp, own_encs he, by simp, by rw [nils_flat]⟩, by simp⟩
theorem wf_range {z : Int} (h : -9223372036854775808 ≤ z ∧ z ≤ 9223372036854775807) : (Lit.int .i64 z).wf = true := by
  simp [Lit.wf, IntKind.min, IntKind.max, IntKind.signed, IntKind.bits]; omega
theorem at_Int {M : Mem} {a : Option Addr} {n c : Nat} {xs : List ty_Int.D} (h : Rep (.sl ty_Int) M [.slice a n c] xs) {i : Nat} (hi : i < xs.length) : ∃ l o, a = some ⟨l, o, none⟩ ∧ Rep ty_Int M (enc_Int xs[i]) xs[i] ∧ rd1 M l (o + i) = some (.int .i64 xs[i]) := by
  obtain ⟨_, l, o, rfl, cs, hrd, hrep⟩ := rep_at h hi
  have hcs : cs = enc_Int xs[i] := hrep.1
  subst hcs
  have hw1 : ty_Int.w = 1 := rfl
  rw [hw1, Nat.mul_one] at hrd
  exact ⟨l, o, rfl, hrep, rd1_of_one hrd⟩
theorem r_slices_Max_int_int (M : Mem) (a : Option Addr) (c : Nat) (xs : List Int) (h : Rep (.sl ty_Int) M [.slice a xs.length c] xs) (hn : xs.length ≤ 1048576) (i : Nat) (hi : i < xs.length) (m : Int) :
    lp (aCall T0) K_slices_Max_int_int_0 L_slices_Max_int_int_0 [.slice a xs.length c, und, und, .int .i64 m, .int .i64 i, und, und, und, und, und, und, und, und, und, und, und, und, und, und, und, und, und, und, und, und] M = lp (aCall T0) K_slices_Max_int_int_0 L_slices_Max_int_int_0 [.slice a xs.length c, und, und, .int .i64 (if m < xs[i] then xs[i] else m), .int .i64 (i + 1 : Nat), und, und, und, und, und, und, und, und, und, und, und, und, und, und, und, und, und, und, und, und] M := by
  obtain ⟨l, o, rfl, hrep, hrd⟩ := at_Int h hi
  have e6 : IntKind.i64.wrap ((i : Int) + 1) = i + 1 := wrap_i64 (by omega) (by omega)
  by_cases hq : m < xs[i]
  · rw [S_slices_Max_int_int_0]; unfold B_slices_Max_int_int_0; simp [hi, hrd, e6, hq]
  · rw [S_slices_Max_int_int_0]; unfold B_slices_Max_int_int_0; simp [hi, hrd, e6, hq]
theorem l_slices_Max_int_int (M : Mem) (a : Option Addr) (c : Nat) (xs : List Int) (h : Rep (.sl ty_Int) M [.slice a xs.length c] xs) (hn : xs.length ≤ 1048576) : ∀ (k i : Nat) (m : Int), i + k = xs.length → (∀ j (hj : j < xs.length), j < i → xs[j] ≤ m) → m ∈ xs →
    ∃ m', (∀ x ∈ xs, x ≤ m') ∧ m' ∈ xs ∧ lp (aCall T0) K_slices_Max_int_int_0 L_slices_Max_int_int_0 [.slice a xs.length c, und, und, .int .i64 m, .int .i64 i, und, und, und, und, und, und, und, und, und, und, und, und, und, und, und, und, und, und, und, und] M = lp (aCall T0) K_slices_Max_int_int_0 L_slices_Max_int_int_0 [.slice a xs.length c, und, und, .int .i64 m', .int .i64 xs.length, und, und, und, und, und, und, und, und, und, und, und, und, und, und, und, und, und, und, und, und] M
  | 0, i, m, hi, h1, h2 => by
    have e : i = xs.length := by omega
    subst e
    refine ⟨m, fun x hx => ?_, h2, rfl⟩
    obtain ⟨j, hj, rfl⟩ := List.getElem_of_mem hx
    exact h1 j hj hj
  | k + 1, i, m, hi, h1, h2 => by
    rw [r_slices_Max_int_int M a c xs h hn i (by omega) m]
    refine l_slices_Max_int_int M a c xs h hn k (i + 1) _ (by omega) (fun j hj hji => ?_) ?_
    · by_cases hq : m < xs[i]
      · rw [if_pos hq]
        by_cases e : j = i
        · subst e; exact Int.le_refl _
        · have := h1 j hj (by omega); omega
      · rw [if_neg hq]
        by_cases e : j = i
        · subst e; omega
        · exact h1 j hj (by omega)
    · split
      · exact List.getElem_mem _
      · exact h2
theorem c_slices_Max_int_int (M : Mem) (v : V) (xs : List Int) (h : Rep (.sl ty_Int) M [v] xs) (hn : xs.length ≤ 1048576) (h0 : 0 < xs.length) : ∃ m, (∀ x ∈ xs, x ≤ m) ∧ m ∈ xs ∧ aCall T0 F_slices_Max_int_int [v] M = some (.int .i64 m, M) := by
  obtain ⟨a, c, rfl⟩ := h.slen
  obtain ⟨m, h1, h2, h3⟩ := l_slices_Max_int_int M a c xs h hn (xs.length - 1) 1 xs[0] (by omega) (fun j hj hji => by
    have : j = 0 := by omega
    subst this
    exact Int.le_refl _) (List.getElem_mem _)
  refine ⟨m, h1, h2, ?_⟩
  obtain ⟨l, o, rfl, hrep, hrd⟩ := at_Int h h0
  have g1 : ¬ (xs.length : Int) < 1 := by omega
  simp only [Int.natCast_one, Int.ofNat_one, Nat.add_zero] at h3 hrd
  rw [aCall_eq T_slices_Max_int_int]; unfold A_slices_Max_int_int C_slices_Max_int_int; simp [g1, h0, hrd, h3]
  rw [S_slices_Max_int_int_0]; unfold B_slices_Max_int_int_0; simp
def cntL (k : Int × Int × Int × Int) (xs : List ty_Entry.D) (i : Nat) : List Int := (List.range (2 ^ k.2.1.toNat)).map fun s => ((cnt k (xs.take i) s : Nat) : Int)
def cntC (k : Int × Int × Int × Int) (xs : List ty_Entry.D) (i : Nat) : List V := (cntL k xs i).map fun n => Value.int .i64 n
def IB (M0 : Mem) (k : Int × Int × Int × Int) (v : V) (cs : List V) (M : Mem) : Prop := M0 <+: M ∧ M[M0.length]? = some ⟨cB k v, 1, 2⟩ ∧ M[M0.length + 1]? = some ⟨cs, 1, 2⟩
theorem r_impl_isWord (M : Mem) (w : List UInt8) (hw : w.length ≤ 9223372036854775807) (i : Nat) (hi : i < w.length) (hb : okByte w[i] = true) :
    lp (aCall T0) K_impl_isWord_0 L_impl_isWord_0 [strV w, und, und, und, und, .int .i64 w.length, .int .i64 i, und, und, und, und, und, und, und, und, und, und, und, und, und, und, und, und] M = lp (aCall T0) K_impl_isWord_0 L_impl_isWord_0 [strV w, und, und, und, und, .int .i64 w.length, .int .i64 (i + 1 : Nat), und, und, und, und, und, und, und, und, und, und, und, und, und, und, und, und] M := by
  obtain ⟨h1, h2⟩ := okByte_t hb
  rw [S_impl_isWord_0]; unfold B_impl_isWord_0; simp [hi, byteV, h1, h2]
  rw [wrap_i64 (by omega) (by omega)]
theorem x_impl_isWord (M : Mem) (w : List UInt8) (hw : w.length ≤ 9223372036854775807) (i : Nat) (hi : i < w.length) (hb : okByte w[i] = false) (k : ACode) :
    thenF M [.tmp 2] (thenS (blockR 0 (lp (aCall T0) K_impl_isWord_0 L_impl_isWord_0 [strV w, und, und, und, und, .int .i64 w.length, .int .i64 i, und, und, und, und, und, und, und, und, und, und, und, und, und, und, und, und] M)) (aCall T0) k) = some (.bool false, M) := by
  rcases okByte_f hb with h1 | ⟨h1, h2⟩
  · rw [S_impl_isWord_0]; unfold B_impl_isWord_0; simp [hi, byteV, h1]
  · rw [S_impl_isWord_0]; unfold B_impl_isWord_0; simp [hi, byteV, h1, h2]
theorem c_impl_isWord (M : Mem) (w : List UInt8) (hw : w.length ≤ 9223372036854775807) : aCall T0 F_impl_isWord [strV w] M = some (.bool (wordB w), M) := by
  unfold wordB
  rcases first_byte w with ha | ⟨ha, j, hj, h1, h2⟩
  · have hl := chain (g := fun i : Nat => lp (aCall T0) K_impl_isWord_0 L_impl_isWord_0 [strV w, und, und, und, und, .int .i64 w.length, .int .i64 i, und, und, und, und, und, und, und, und, und, und, und, und, und, und, und, und] M) (n := w.length) fun i hi => r_impl_isWord M w hw i hi (List.all_eq_true.1 ha _ (List.getElem_mem hi))
    simp only [Int.natCast_zero, Int.ofNat_zero] at hl
    rw [ha]
    rw [aCall_eq T_impl_isWord]; unfold A_impl_isWord C_impl_isWord; simp [hl]
    rw [S_impl_isWord_0]; unfold B_impl_isWord_0; simp [c_impl_within]
  · have hl := chain (g := fun i : Nat => lp (aCall T0) K_impl_isWord_0 L_impl_isWord_0 [strV w, und, und, und, und, .int .i64 w.length, .int .i64 i, und, und, und, und, und, und, und, und, und, und, und, und, und, und, und, und] M) (n := j) fun i hi => r_impl_isWord M w hw i (by omega) (h1 i (by omega) hi)
    simp only [Int.natCast_zero, Int.ofNat_zero] at hl
    rw [ha]
    rw [aCall_eq T_impl_isWord]; unfold A_impl_isWord C_impl_isWord; simp [hl, x_impl_isWord M w hw j hj h2]
theorem c_impl_isEntry (M : Mem) (e : ty_Entry.D) (he : e.1.length ≤ 9223372036854775807) : aCall T0 F_impl_isEntry [.agg (enc_Entry e).toArray] M = some (.bool (entB e), M) := by
  unfold entB
  have h := fun M => c_impl_isWord M e.1 he
  rw [aCall_eq T_impl_isEntry]; unfold A_impl_isEntry C_impl_isEntry; simp [h, c_impl_within]
  repeat' ((first | rw [selO_some] | rw [condR_bool] | rw [selD_some]); split <;> rename_i hq <;> (have hq2 := hq) <;> (try simp at hq2) <;> (try simp [*, h, c_impl_within]))
theorem binS_sgeq (x y : ByteArray) : binS .geq (.string x) (.string y) = some (.bool (!Op.bytesLess x.data.toList y.data.toList)) := id rfl
theorem x_impl_isBook (M0 M : Mem) (a : Option Addr) (c : Nat) (k : Int × Int × Int × Int) (xs : List ty_Entry.D) (h : Rep (.sl ty_Entry) M0 [.slice a xs.length c] xs) (hn : xs.length ≤ 9223372036854775807) (hf : ∀ e ∈ xs, e.1.length ≤ 9223372036854775807)
    (i : Nat) (hi : i < xs.length) (hq : goodB xs i = false) (cs : List V) (hI : IB M0 k (.slice a xs.length c) cs M) (w : V) (K : ACode) :
    thenF M0 [.tmp 2] (thenS (blockR 0 (lp (aCall T0) K_impl_isBook_0 L_impl_isBook_0 [und, .pointer (some ⟨M0.length, 0, none⟩), und, w, und, und, und, und, und, und, und, und, und, und, und, und, und, und, und, und, und, und, und, und, und, .slice a xs.length c, .int .i64 xs.length, .int .i64 i, und, und, und, und, und, und, und, und, und, und, und, und, und, und, und, und, und, und, und, und, und, und, und, und, und, und, und, und, und, und, und, und, und, und, und, und, und, und, und, und, und] M)) (aCall T0) K) = some (.bool false, M0) := by
  obtain ⟨i1, i2, i3⟩ := hI
  have hA : M <+: M ++ [(⟨enc_Entry xs[i], 1, 2⟩ : Blk)] := List.prefix_append _ _
  obtain ⟨b0, b1, _, b4, _, _⟩ := rd_book (get_pre hA i2)
  have h1 := h.mono (i1.trans hA)
  have h2 := h.mono i1
  obtain ⟨l, o, e1, hrep, hrd, hf0, hf1⟩ := at_Entry h1 hi
  obtain ⟨l2, o2, e2, _, hrd2, _, _⟩ := at_Entry h2 hi
  subst e1
  simp at e2
  obtain ⟨rfl, rfl⟩ := e2
  have gb := fun b => gc_boolp (i1.trans hA) b
  have s1 := c_impl_isEntry (M ++ [(⟨enc_Entry xs[i], 1, 2⟩ : Blk)]) xs[i] (hf _ (List.getElem_mem hi))
  rw [goodB_get xs i hi] at hq
  cases he : entB xs[i] with
  | false =>
    rw [he] at s1
    rw [S_impl_isBook_0]; unfold B_impl_isBook_0; simp [hi, hrd2, s1, gb]
  | true =>
    rw [he] at s1 hq
    have h0 : ¬ i = 0 := by
      intro e
      simp [e] at hq
    obtain ⟨l3, o3, e3, _, _, hf2, _⟩ := at_Entry h1 (show i - 1 < xs.length by omega)
    simp at e3
    obtain ⟨rfl, rfl⟩ := e3
    have g0 : 0 < (i : Int) := by omega
    have g2 : 0 < i := by omega
    have g1 : IntKind.i64.wrap ((i : Int) - 1) = ((i - 1 : Nat) : Int) := by rw [wrap_i64 (by omega) (by omega)]; omega
    have hi1 : i - 1 < xs.length := by omega
    have h3 : Op.bytesLess (xs[i - 1]'hi1).1 xs[i].1 = false := by
      simp [h0] at hq
      exact hq
    rw [S_impl_isBook_0]; unfold B_impl_isBook_0; simp [hi, hrd2, s1, g0, g2, g1, hi1, hf2, b4, binS_sgeq, h3, gb]
theorem pre_set {M0 M : Mem} {l : Nat} {b : Blk} (h : M0 <+: M) (hl : M0.length ≤ l) : M0 <+: M.set l b := by
  obtain ⟨r, rfl⟩ := h
  rw [set_app hl]
  exact List.prefix_append _ _
theorem c_impl_pad (M : Mem) (w : List UInt8) (hw : w.length ≤ 9223372036854775807) : aCall T0 F_impl_pad [strV w] M = some (.slice (some ⟨M.length, 0, none⟩) 33 33, M ++ [padB w]) := by
  unfold padB
  cases hb : wordB w with
  | false => rw [padL_f hb]; rw [aCall_eq T_impl_pad]; unfold A_impl_pad C_impl_pad; simp [c_impl_isWord _ _ hw, hb]
  | true =>
    obtain ⟨h1, h2⟩ := wordB_len hb
    rw [padL_t hb]
    have e1 : min w.length 32 = w.length := by omega
    have e2 : w ≠ [] := by rintro rfl; simp at h1
    rw [aCall_eq T_impl_pad]; unfold A_impl_pad C_impl_pad; simp [c_impl_isWord _ _ hw, hb, e1, e2]
    (simp (disch := omega) only [wrap_i64, wrap_u64, wrap_u8, wrap_u32, if_pos, if_neg]; try simp)
theorem r_impl_hashWord (M : Mem) (w : List UInt8) (key : Nat) (hk : key < 4294967296) (i : Nat) (hi : i < 33) :
    lp (aCall T0) K_impl_hashWord_0 L_impl_hashWord_0 [und, und, und, und, und, .int .u32 (hashN key w i), und, und, und, und, und, .slice (some ⟨M.length, 0, none⟩) 33 33, .int .i64 33, .int .i64 i, und, und, und, und, und, und, und, und, und, und, und, und, und, und] (M ++ [padB w]) =
    lp (aCall T0) K_impl_hashWord_0 L_impl_hashWord_0 [und, und, und, und, und, .int .u32 (hashN key w (i + 1)), und, und, und, und, und, .slice (some ⟨M.length, 0, none⟩) 33 33, .int .i64 33, .int .i64 (i + 1 : Nat), und, und, und, und, und, und, und, und, und, und, und, und, und, und] (M ++ [padB w]) := by
  have hl := padL_len w
  have h0 : (padL w)[i]? = some (padL w)[i] := by simp [hl, hi]
  have hb := (padL w)[i].toNat_lt
  have hh := hashN_lt hk w i
  have e1 := xor_u32 (a := hashN key w i) (b := (padL w)[i].toNat) hh (by omega)
  have hi2 : (i : Int) < 33 := by omega
  rw [hashN_succ key w i (by omega)]
  rw [S_impl_hashWord_0]; unfold B_impl_hashWord_0; simp [hi2, h0, byteV]
  rw [wrap_u32 (z := (padL w)[i].toNat) (by omega) (by omega), xor_u32 hh (by omega), wrap_i64 (by omega) (by omega)]
  unfold hs
  rw [← wrap_u32_mod]
  simp
theorem c_impl_hashWord (M : Mem) (w : List UInt8) (hw : w.length ≤ 9223372036854775807) (key : Nat) (hk : key < 4294967296) : aCall T0 F_impl_hashWord [.int .i64 key, strV w] M = some (.int .i64 (hashV key w), M) := by
  have hl := chain (g := fun i : Nat => lp (aCall T0) K_impl_hashWord_0 L_impl_hashWord_0 [und, und, und, und, und, .int .u32 (hashN key w i), und, und, und, und, und, .slice (some ⟨M.length, 0, none⟩) 33 33, .int .i64 33, .int .i64 i, und, und, und, und, und, und, und, und, und, und, und, und, und, und] (M ++ [padB w])) (n := 33) fun i hi => r_impl_hashWord M w key hk i hi
  simp only [Int.natCast_zero, Int.ofNat_zero, hashN_zero] at hl
  have hp := c_impl_pad M w hw
  have hh := hashN_lt hk w 33
  have hd : hashN key w 33 / 65536 < 4294967296 := by omega
  have e1 : bshr .u32 (hashN key w 33) 16 = ((hashN key w 33 / 65536 : Nat) : Int) := by
    unfold bshr
    show Int.fdiv _ 65536 = _
    rw [Int.fdiv_eq_ediv_of_nonneg _ (by omega)]
    omega
  have hx : hashV key w < 4294967296 := Nat.xor_lt_two_pow (n := 32) (by omega) (by omega)
  rw [aCall_eq T_impl_hashWord]; unfold A_impl_hashWord C_impl_hashWord; simp [hp]
  rw [wrap_u32 (by omega) (by omega), hl]
  rw [S_impl_hashWord_0]; unfold B_impl_hashWord_0; simp [e1]
  have e2 : (hashN key w 33 : Int) / 65536 = ((hashN key w 33 / 65536 : Nat) : Int) := by omega
  rw [e2, xor_u32 hh hd, wrap_i64 (by unfold hashV at hx; omega) (by unfold hashV at hx; omega)]
  rfl
theorem hashV_lt (key : Nat) (hk : key < 4294967296) (w : List UInt8) : hashV key w < 4294967296 := by
  have := hashN_lt hk w 33
  exact Nat.xor_lt_two_pow (n := 32) (by omega) (by omega)
theorem c_impl_shelfFor (M : Mem) (w : List UInt8) (hw : w.length ≤ 9223372036854775807) (key : Nat) (hk : key < 4294967296) (n : Nat) (hn : n ≤ 6) : aCall T0 F_impl_shelfFor [.int .i64 key, strV w, .int .i64 n] M = some (.int .i64 (hashV key w % 2 ^ n : Nat), M) := by
  have hv := hashV_lt key hk w
  have hp : 2 ^ n ≤ 2 ^ 6 := Nat.pow_le_pow_right (by omega) hn
  have hq : 0 < 2 ^ n := Nat.two_pow_pos n
  have e1 : bshl .i64 1 n = ((2 ^ n : Nat) : Int) := by
    unfold bshl
    have hm : min (n : Int).toNat IntKind.i64.bits = n := by show min _ 64 = n; omega
    rw [hm, wrap_i64 (by have := pow2_pos n; omega) (by have := pow2_le hn; omega)]
    simp
  have e2 : IntKind.i64.wrap (((2 ^ n : Nat) : Int) - 1) = ((2 ^ n - 1 : Nat) : Int) := by
    rw [wrap_i64 (by omega) (by omega)]; omega
  have e3 := and_i64 (a := hashV key w) (b := 2 ^ n - 1) (by omega) (by omega)
  rw [Nat.and_two_pow_sub_one_eq_mod] at e3
  have h0 : (0 : Int) ≤ n := by omega
  simp only [Int.natCast_pow] at e1 e2 e3
  rw [aCall_eq T_impl_shelfFor]; unfold A_impl_shelfFor C_impl_shelfFor; simp [c_impl_hashWord _ w hw key hk, e1]
  simp at e1 e2 e3
  rw [e2, e3]
theorem c_impl_shelfFor2 (M : Mem) (k : Int × Int × Int × Int) (hk : confK k = true) (w : List UInt8) (hw : wordB w = true) : aCall T0 F_impl_shelfFor [.int .i64 k.1, strV w, .int .i64 k.2.1] M = some (.int .i64 (sh k w : Nat), M) := by
  have h := confK_r hk
  have hl := wordB_len hw
  obtain ⟨k1, k2, k3, k4⟩ := k
  obtain ⟨m, rfl⟩ : ∃ m : Nat, k1 = m := ⟨k1.toNat, by simp only at h; omega⟩
  obtain ⟨n, rfl⟩ : ∃ m : Nat, k2 = m := ⟨k2.toNat, by simp only at h; omega⟩
  simp only at h
  have := c_impl_shelfFor M w (by omega) m (by omega) n (by omega)
  simpa [sh] using this
theorem sh_lt (k : Int × Int × Int × Int) (w : List UInt8) : sh k w < 2 ^ k.2.1.toNat := Nat.mod_lt _ (Nat.two_pow_pos _)
theorem cntC_step (k : Int × Int × Int × Int) (xs : List ty_Entry.D) (i : Nat) (hi : i < xs.length) : cntC k xs (i + 1) = (cntC k xs i).set (sh k xs[i].1) (.int .i64 ((cnt k (xs.take i) (sh k xs[i].1) : Nat) + 1)) := by
  apply List.ext_getElem
  · simp [cntC, cntL]
  · intro j h1 h2
    simp only [cntC, cntL, List.length_map, List.length_range] at h1
    rw [List.getElem_set]
    simp only [cntC, cntL, List.getElem_map, List.getElem_range]
    rw [cnt_take k xs j i hi]
    by_cases e : sh k xs[i].1 = j
    · rw [if_pos e, if_pos e, ← e]
      simp
    · rw [if_neg e, if_neg e]
      simp
theorem r_impl_isBook (M0 M : Mem) (a : Option Addr) (c : Nat) (k : Int × Int × Int × Int) (hk : confK k = true) (xs : List ty_Entry.D) (h : Rep (.sl ty_Entry) M0 [.slice a xs.length c] xs) (hn : xs.length ≤ 9223372036854775807) (hf : ∀ e ∈ xs, e.1.length ≤ 9223372036854775807)
    (i : Nat) (hi : i < xs.length) (hq : goodB xs i = true) (hI : IB M0 k (.slice a xs.length c) (cntC k xs i) M) :
    ∃ M', IB M0 k (.slice a xs.length c) (cntC k xs (i + 1)) M' ∧
    lp (aCall T0) K_impl_isBook_0 L_impl_isBook_0 [und, .pointer (some ⟨M0.length, 0, none⟩), und, .slice (some ⟨M0.length + 1, 0, none⟩) (2 ^ k.2.1.toNat) (2 ^ k.2.1.toNat), und, und, und, und, und, und, und, und, und, und, und, und, und, und, und, und, und, und, und, und, und, .slice a xs.length c, .int .i64 xs.length, .int .i64 i, und, und, und, und, und, und, und, und, und, und, und, und, und, und, und, und, und, und, und, und, und, und, und, und, und, und, und, und, und, und, und, und, und, und, und, und, und, und, und, und, und] M =
    lp (aCall T0) K_impl_isBook_0 L_impl_isBook_0 [und, .pointer (some ⟨M0.length, 0, none⟩), und, .slice (some ⟨M0.length + 1, 0, none⟩) (2 ^ k.2.1.toNat) (2 ^ k.2.1.toNat), und, und, und, und, und, und, und, und, und, und, und, und, und, und, und, und, und, und, und, und, und, .slice a xs.length c, .int .i64 xs.length, .int .i64 (i + 1 : Nat), und, und, und, und, und, und, und, und, und, und, und, und, und, und, und, und, und, und, und, und, und, und, und, und, und, und, und, und, und, und, und, und, und, und, und, und, und, und, und, und, und] M' := by
  obtain ⟨i1, i2, i3⟩ := hI
  obtain ⟨q, hq0⟩ : ∃ q, q = 2 ^ k.2.1.toNat := ⟨_, rfl⟩
  have hs : sh k xs[i].1 < q := by rw [hq0]; exact sh_lt k _
  have hlt := (List.getElem?_eq_some_iff.1 i3).1
  have hA : M <+: M ++ [(⟨enc_Entry xs[i], 1, 2⟩ : Blk)] := List.prefix_append _ _
  have hcl : (cntC k xs i).length = q := by simp [cntC, cntL, hq0]
  have hget : (cntC k xs i)[sh k xs[i].1]? = some (.int .i64 (cnt k (xs.take i) (sh k xs[i].1) : Nat)) := by
    rw [hq0] at hs
    simp [cntC, cntL, hs]
  have hst := cntC_step k xs i hi
  refine ⟨(M ++ [(⟨enc_Entry xs[i], 1, 2⟩ : Blk)]).set (M0.length + 1) ⟨cntC k xs (i + 1), 1, 2⟩, ⟨pre_set (i1.trans hA) (by omega), ?_, ?_⟩, ?_⟩
  · rw [List.getElem?_set_ne (by omega)]
    exact get_pre hA i2
  · rw [List.getElem?_set_self (by rw [List.length_append]; omega)]
  obtain ⟨b0, b1, _, b4, _, _⟩ := rd_book (get_pre hA i2)
  have h1 := h.mono (i1.trans hA)
  have h2 := h.mono i1
  obtain ⟨l, o, e1, hrep, hrd, hf0, hf1⟩ := at_Entry h1 hi
  obtain ⟨l2, o2, e2, _, hrd2, _, _⟩ := at_Entry h2 hi
  subst e1
  simp at e2
  obtain ⟨rfl, rfl⟩ := e2
  have e6 : IntKind.i64.wrap ((i : Int) + 1) = i + 1 := wrap_i64 (by omega) (by omega)
  have hgd := hq
  rw [goodB_get xs i hi, Bool.and_eq_true] at hq
  have s1 := c_impl_isEntry (M ++ [(⟨enc_Entry xs[i], 1, 2⟩ : Blk)]) xs[i] (hf _ (List.getElem_mem hi))
  rw [hq.1] at s1
  have hw : wordB xs[i].1 = true := by
    have := hq.1
    simp only [entB, Bool.and_eq_true] at this
    exact this.1
  have s2 := c_impl_shelfFor2 (M ++ [(⟨enc_Entry xs[i], 1, 2⟩ : Blk)]) k hk xs[i].1 hw
  have hc5 : (M ++ [(⟨enc_Entry xs[i], 1, 2⟩ : Blk)])[M0.length + 1]? = some ⟨cntC k xs i, 1, 2⟩ := get_pre hA i3
  have c1 : rd1 (M ++ [(⟨enc_Entry xs[i], 1, 2⟩ : Blk)]) (M0.length + 1) (sh k xs[i].1) = some (.int .i64 (cnt k (xs.take i) (sh k xs[i].1) : Nat)) := by
    unfold rd1
    rw [hc5]
    exact hget
  have hcn := cnt_le k (xs.take i) (sh k xs[i].1)
  rw [List.length_take] at hcn
  have e7 : IntKind.i64.wrap ((cnt k (xs.take i) (sh k xs[i].1) : Int) + 1) = cnt k (xs.take i) (sh k xs[i].1) + 1 := wrap_i64 (by omega) (by omega)
  have c2 : wrn (M ++ [(⟨enc_Entry xs[i], 1, 2⟩ : Blk)]) (M0.length + 1) (sh k xs[i].1) [.int .i64 ((cnt k (xs.take i) (sh k xs[i].1) : Int) + 1)] = some ((M ++ [(⟨enc_Entry xs[i], 1, 2⟩ : Blk)]).set (M0.length + 1) ⟨cntC k xs (i + 1), 1, 2⟩) := by
    unfold wrn
    rw [hc5]
    simp only
    rw [if_pos ⟨trivial, by simp; omega, rfl⟩, hst, splice_one (by omega)]
  rw [← hq0]
  generalize cnt k (xs.take i) (sh k xs[i].1) = z at e7 c1 c2
  generalize (M ++ [(⟨enc_Entry xs[i], 1, 2⟩ : Blk)]).set (M0.length + 1) ⟨cntC k xs (i + 1), 1, 2⟩ = M9 at c2
  by_cases h0 : i = 0
  · have g0 : ¬ 0 < (i : Int) := by omega
    have g1 : ¬ 0 < i := by omega
    rw [S_impl_isBook_0]; unfold B_impl_isBook_0; simp [hi, hrd2, s1, g0, g1, b0, b1, s2, hs, c1, c2, e6, e7]
  · obtain ⟨l3, o3, e3, _, _, hf2, _⟩ := at_Entry h1 (show i - 1 < xs.length by omega)
    simp at e3
    obtain ⟨rfl, rfl⟩ := e3
    have g0 : 0 < (i : Int) := by omega
    have g2 : 0 < i := by omega
    have g1 : IntKind.i64.wrap ((i : Int) - 1) = ((i - 1 : Nat) : Int) := by rw [wrap_i64 (by omega) (by omega)]; omega
    have hi1 : i - 1 < xs.length := by omega
    have h3 : Op.bytesLess (xs[i - 1]'hi1).1 xs[i].1 = true := by
      have := hq.2
      simpa [h0] using this
    rw [S_impl_isBook_0]; unfold B_impl_isBook_0; simp [hi, hrd2, s1, g0, g2, g1, hi1, hf2, b4, binS_sgeq, h3, b0, b1, s2, hs, c1, c2, e6, e7]
theorem l_impl_isBook (M0 : Mem) (a : Option Addr) (c : Nat) (k : Int × Int × Int × Int) (hk : confK k = true) (xs : List ty_Entry.D) (h : Rep (.sl ty_Entry) M0 [.slice a xs.length c] xs) (hn : xs.length ≤ 9223372036854775807) (hf : ∀ e ∈ xs, e.1.length ≤ 9223372036854775807) (n : Nat) (hnx : n ≤ xs.length) (hg : ∀ i, i < n → goodB xs i = true) :
    ∀ (j i : Nat) (M : Mem), i + j = n → IB M0 k (.slice a xs.length c) (cntC k xs i) M → ∃ M', IB M0 k (.slice a xs.length c) (cntC k xs n) M' ∧
    lp (aCall T0) K_impl_isBook_0 L_impl_isBook_0 [und, .pointer (some ⟨M0.length, 0, none⟩), und, .slice (some ⟨M0.length + 1, 0, none⟩) (2 ^ k.2.1.toNat) (2 ^ k.2.1.toNat), und, und, und, und, und, und, und, und, und, und, und, und, und, und, und, und, und, und, und, und, und, .slice a xs.length c, .int .i64 xs.length, .int .i64 i, und, und, und, und, und, und, und, und, und, und, und, und, und, und, und, und, und, und, und, und, und, und, und, und, und, und, und, und, und, und, und, und, und, und, und, und, und, und, und, und, und] M =
    lp (aCall T0) K_impl_isBook_0 L_impl_isBook_0 [und, .pointer (some ⟨M0.length, 0, none⟩), und, .slice (some ⟨M0.length + 1, 0, none⟩) (2 ^ k.2.1.toNat) (2 ^ k.2.1.toNat), und, und, und, und, und, und, und, und, und, und, und, und, und, und, und, und, und, und, und, und, und, .slice a xs.length c, .int .i64 xs.length, .int .i64 n, und, und, und, und, und, und, und, und, und, und, und, und, und, und, und, und, und, und, und, und, und, und, und, und, und, und, und, und, und, und, und, und, und, und, und, und, und, und, und, und, und] M'
  | 0, i, M, hi, hI => by
    have e : i = n := by omega
    subst e
    exact ⟨M, hI, rfl⟩
  | j + 1, i, M, hi, hI => by
    obtain ⟨M', q1, q2⟩ := r_impl_isBook M0 M a c k hk xs h hn hf i (by omega) (hg i (by omega)) hI
    rw [q2]
    exact l_impl_isBook M0 a c k hk xs h hn hf n hnx hg j (i + 1) M' (by omega) q1
theorem few_all (k : Int × Int × Int × Int) (xs : List ty_Entry.D) (m : Int) (h1 : ∀ x ∈ cntL k xs xs.length, x ≤ m) (h2 : m ∈ cntL k xs xs.length) : (List.range xs.length).all (fewB k xs) = decide (m ≤ 4) := by
  unfold cntL at h1 h2
  rw [List.take_length] at h1 h2
  by_cases hm : m ≤ 4
  · rw [decide_eq_true hm]
    refine range_all fun i hi => ?_
    rw [few_get hi, decide_eq_true_eq]
    have := h1 _ (List.mem_map.2 ⟨sh k xs[i].1, List.mem_range.2 (sh_lt k _), rfl⟩)
    omega
  · rw [decide_eq_false hm]
    obtain ⟨s, hs, rfl⟩ := List.mem_map.1 h2
    have hp : 0 < cnt k xs s := by omega
    obtain ⟨e, he, hes⟩ := List.countP_pos_iff.1 hp
    obtain ⟨i, hi, rfl⟩ := List.getElem_of_mem he
    refine range_not hi ?_
    rw [few_get hi, decide_eq_false_iff_not]
    have : sh k xs[i].1 = s := by simpa using hes
    rw [this]
    omega
theorem cntC_zero (k : Int × Int × Int × Int) (xs : List ty_Entry.D) : cntC k xs 0 = zc (.int .i64 0) (2 ^ k.2.1.toNat) := by
  apply List.ext_getElem
  · simp [cntC, cntL, zc]
  · intro j h1 h2
    simp [cntC, cntL, zc, cnt]
theorem c_impl_isBook (M : Mem) (v : V) (k : Int × Int × Int × Int) (xs : List ty_Entry.D) (h : Rep (.sl ty_Entry) M [v] xs) (hn : xs.length ≤ 9223372036854775807) (hf : ∀ e ∈ xs, e.1.length ≤ 9223372036854775807) :
    aCall T0 F_impl_isBook [.agg (cB k v).toArray] M = some (.bool (bookB k xs), M) := by
  have s0 := fun M => c_impl_isConf M k.1 k.2.1 k.2.2.1 k.2.2.2
  obtain ⟨a, c, rfl⟩ := h.slen
  unfold bookB
  cases hk : confK k with
  | false =>
    have hk' : confOk k.1 k.2.1 k.2.2.1 k.2.2.2 = false := hk
    rw [hk'] at s0
    rw [aCall_eq T_impl_isBook]; unfold A_impl_isBook C_impl_isBook; simp [s0]
  | true =>
  have hk' : confOk k.1 k.2.1 k.2.2.1 k.2.2.2 = true := hk
  rw [hk'] at s0
  by_cases hc : (xs.length : Int) ≤ k.2.2.2
  rotate_left
  · have hc2 : k.2.2.2 < (xs.length : Int) := by omega
    rw [decide_eq_false hc]
    rw [aCall_eq T_impl_isBook]; unfold A_impl_isBook C_impl_isBook; simp [s0, hc2]
  have hc2 : ¬ k.2.2.2 < (xs.length : Int) := by omega
  rw [decide_eq_true hc]
  have hr := confK_r hk
  have z0 : 0 ≤ k.2.1 := by omega
  have e1 : bshl .i64 1 k.2.1 = ((2 ^ k.2.1.toNat : Nat) : Int) := by
    obtain ⟨n, hn⟩ : ∃ n : Nat, k.2.1 = n := ⟨k.2.1.toNat, by omega⟩
    rw [hn]
    unfold bshl
    have hm : min (n : Int).toNat IntKind.i64.bits = n := by show min _ 64 = n; omega
    rw [hm, wrap_i64 (by have := pow2_pos n; omega) (by have := pow2_le (show n ≤ 6 by omega); omega)]
    simp
  have hp : 2 ^ k.2.1.toNat ≤ 2 ^ 6 := Nat.pow_le_pow_right (by omega) (show k.2.1.toNat ≤ 6 by omega)
  have hp0 : 0 < 2 ^ k.2.1.toNat := Nat.two_pow_pos _
  have hI : IB M k (.slice a xs.length c) (cntC k xs 0) (M ++ [⟨cB k (.slice a xs.length c), 1, 2⟩, ⟨zc (.int .i64 0) (2 ^ k.2.1.toNat), 1, 2⟩]) :=
    ⟨List.prefix_append _ _, by simp, by rw [cntC_zero]; simp⟩
  rcases first_bad (goodB xs) xs.length with hg | ⟨j, hj, h1, h2⟩
  · obtain ⟨M', q1, q2⟩ := l_impl_isBook M a c k hk xs h hn hf xs.length (Nat.le_refl _) hg xs.length 0 _ (by omega) hI
    simp only [Int.natCast_zero, Int.ofNat_zero] at q2
    obtain ⟨i1, i2, i3⟩ := q1
    have hcl : (cntL k xs xs.length).length = 2 ^ k.2.1.toNat := by simp [cntL]
    have hown := own_blk (t := ty_Int) (M := M') (l := M.length + 1) (c := 2 ^ k.2.1.toNat) (enc := enc_Int) (ys := cntL k xs xs.length) (by rw [flat_Int]; exact i3) (fun y hy => by
      obtain ⟨s, hs, rfl⟩ := List.mem_map.1 hy
      have := cnt_le k (xs.take xs.length) s
      rw [List.length_take] at this
      exact ⟨⟨rfl, wf_range (show -9223372036854775808 ≤ ((cnt k (xs.take xs.length) s : Nat) : Int) ∧ ((cnt k (xs.take xs.length) s : Nat) : Int) ≤ 9223372036854775807 by omega)⟩, rfl⟩)
    obtain ⟨L, hL, _⟩ := hown
    have hrep := hL.rep
    rw [hcl] at hrep
    obtain ⟨m, m1, m2, m3⟩ := c_slices_Max_int_int M' _ (cntL k xs xs.length) hrep (by omega) (by omega)
    rw [range_all hg, few_all k xs m m1 m2]
    obtain ⟨q, hq⟩ : ∃ q, q = 2 ^ k.2.1.toNat := ⟨_, rfl⟩
    rw [← hq] at e1 hp hp0 q2 m3
    have b1 : (q : Int) * 8 ≤ 281474976710656 := by omega
    have b2 : (q : Int) ≤ 9223372036854775807 := by omega
    have gb := fun b => gc_boolp i1 b
    rw [aCall_eq T_impl_isBook]; unfold A_impl_isBook C_impl_isBook; simp [s0, hc2, z0, e1, b1, b2, q2]
    rw [S_impl_isBook_0]; unfold B_impl_isBook_0; simp [m3, gb]
  · obtain ⟨M', q1, q2⟩ := l_impl_isBook M a c k hk xs h hn hf j (by omega) h1 j 0 _ (by omega) hI
    simp only [Int.natCast_zero, Int.ofNat_zero] at q2
    rw [range_not hj h2]
    have x := x_impl_isBook M M' a c k xs h hn hf j hj h2 _ q1
    obtain ⟨q, hq⟩ : ∃ q, q = 2 ^ k.2.1.toNat := ⟨_, rfl⟩
    rw [← hq] at e1 hp hp0 q2
    have b1 : (q : Int) * 8 ≤ 281474976710656 := by omega
    have b2 : (q : Int) ≤ 9223372036854775807 := by omega
    rw [aCall_eq T_impl_isBook]; unfold A_impl_isBook C_impl_isBook; simp [s0, hc2, z0, e1, b1, b2, q2, x]
theorem c_impl_BookOk (M : Mem) (v : V) (k : Int × Int × Int × Int) (xs : List ty_Entry.D) (h : Rep (.sl ty_Entry) M [v] xs) (hn : xs.length ≤ 9223372036854775807) (hf : ∀ e ∈ xs, e.1.length ≤ 9223372036854775807) :
    aCall T0 F_impl_BookOk [.agg (cB k v).toArray] M = some (.bool (bookB k xs), M) := by
  have e := c_impl_isBook (M ++ [(⟨cB k v, 1, 2⟩ : Blk)]) v k xs (h.mono (List.prefix_append _ _)) hn hf
  obtain ⟨a, c, rfl⟩ := h.slen
  rw [aCall_eq T_impl_BookOk]; unfold A_impl_BookOk C_impl_BookOk; simp [e]
theorem c_laws_FnExactBookOk (M : Mem) (v : V) (k : Int × Int × Int × Int) (xs : List ty_Entry.D) (h : Rep (.sl ty_Entry) M [v] xs) (hlen : xs.length ≤ 9223372036854775807) (hf : ∀ e ∈ xs, e.1.length ≤ 9223372036854775807) : ∃ M', aCall T0 F_laws_FnExactBookOk [.agg (cB k v).toArray] M = some (.bool true, M') := by
  have h0 : Rep (.sl ty_Entry) (M ++ [(⟨cB k v, 1, 2⟩ : Blk)]) [v] xs := h.mono (List.prefix_append _ _)
  obtain ⟨l, e1, e2⟩ := c_laws_szBook _ v k xs h0 1048576 (by omega) (by omega) hlen hf
  have hpos := szs_pos_Entry xs
  by_cases hl : l < 0
  · obtain ⟨a, c, rfl⟩ := h.slen
    refine ⟨M, ?_⟩
    rw [aCall_eq T_laws_FnExactBookOk]; unfold A_laws_FnExactBookOk C_laws_FnExactBookOk; simp [e1, hl]
  have hn : xs.length ≤ 1048576 := by have := e2 (by omega); omega
  have hb : (M ++ [(⟨cB k v, 1, 2⟩ : Blk)])[M.length]? = some ⟨cB k v, 1, 2⟩ := by simp
  obtain ⟨M1, u1, p1, t1, r1⟩ := c_laws_toBook _ v k xs h0 hn
  have q1 := c_spec_BookOk _ u1 k xs r1 hlen hf
  obtain ⟨M2, u2, p2, t2, r2⟩ := c_laws_toBook _ v k xs (h0.mono p1) hn
  have q2 := c_impl_BookOk (M2 ++ [(⟨cB k u2, 1, 2⟩ : Blk)]) u2 k xs (r2.mono (List.prefix_append _ [(⟨cB k u2, 1, 2⟩ : Blk)])) hlen hf
  obtain ⟨M3, u3, p3, t3, r3⟩ := c_laws_toBook (M2 ++ [(⟨cB k u2, 1, 2⟩ : Blk)]) v k xs (h0.mono ((p1.trans p2).trans (List.prefix_append _ _))) hn
  have q3 := c_laws_eqBook M3 u2 u3 (k, xs) (k, xs) (r2.mono ((List.prefix_append _ _).trans p3)) r3 hlen
  have w0 := (rd_book hb).2.2.2.2.2
  have w1 := (rd_book (get_pre p1 hb)).2.2.2.2.2
  have w2 := (rd_book (get_pre ((p1.trans p2).trans (List.prefix_append _ [(⟨cB k u2, 1, 2⟩ : Blk)])) hb)).2.2.2.2.2
  have gb := fun b => gc_boolp (((List.prefix_append M [(⟨cB k v, 1, 2⟩ : Blk)]).trans (p1.trans p2)).trans ((List.prefix_append _ _).trans p3)) b
  refine ⟨M, ?_⟩
  simp only [decide_true] at q3
  obtain ⟨a, c, rfl⟩ := h.slen
  obtain ⟨a1, c1, rfl⟩ := r1.slen
  obtain ⟨a2, c2, rfl⟩ := r2.slen
  obtain ⟨a3, c3, rfl⟩ := r3.slen
  rw [aCall_eq T_laws_FnExactBookOk]; unfold A_laws_FnExactBookOk C_laws_FnExactBookOk; simp [e1, hl, t1, t2, t3, q1, q2, q3, w1, w2, p1, p2, p3, thenD_pre, gb]
theorem law_laws_FnExactBookOk (M : Mem) (avs : List V) (_ : ∀ b ∈ M, b.st ≠ 2) (h : Ins [(true, (.pr (.pr (.int .i64) (.pr (.int .i64) (.pr (.int .i64) (.int .i64)))) (.sl (.pr .str (.int .i64)))))] M avs) : ∃ M', aCall T0 F_laws_FnExactBookOk avs M = some (.bool true, M') := by
  obtain ⟨v, vs, x, rfl, h1, f1, h⟩ := ins_cons h
  obtain rfl := ins_nil h
  obtain ⟨cs, rfl, r1⟩ := repv_agg h1
  have r1 : Rep ty_Book M cs x := r1
  obtain ⟨u, rfl, r2⟩ := rep_Book r1
  obtain ⟨_, hlen, hfit⟩ := f1
  exact c_laws_FnExactBookOk M u x.1 x.2 r2 hlen (fun e he => (hfit e he).1)
end GoAm
