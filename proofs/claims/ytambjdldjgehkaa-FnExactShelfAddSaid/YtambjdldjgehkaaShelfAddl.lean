/- What the functions do that the law reaches; and the law. -/
import Derived.Test.YtambjdldjgehkaaShelfAddt
import Derived.Test.YtambjdldjgehkaaAmOwn
set_option autoImplicit false
set_option linter.unusedVariables false
set_option linter.unusedSimpArgs false
namespace GoAm
open Go
abbrev ty_Entry : Ty := .pr .str (.int .i64)
instance d_Entry : DecidableEq ty_Entry.D := Ty.deq ty_Entry
abbrev enc_Entry (x : ty_Entry.D) : List V := [strV x.1, .int .i64 x.2]
theorem rep_Entry {M : Mem} {cs : List V} {x : ty_Entry.D} (h : Rep ty_Entry M cs x) : cs = enc_Entry x := by
  obtain ⟨_, _, rfl, rfl, ⟨rfl, _⟩⟩ := h
  rfl
theorem c_laws_toEntry_f (M : Mem) (x : ty_Entry.D) : aCall T0 F_laws_toEntry [.agg (enc_Entry x).toArray] M = some (.agg (enc_Entry x).toArray, M) := by
  rw [aCall_eq T_laws_toEntry]; unfold A_laws_toEntry C_laws_toEntry; simp
def sz_Entry (x : ty_Entry.D) : Int := (x.1.length : Int)
def szs_Entry : List ty_Entry.D → Int
  | [] => 0
  | x :: xs => sz_Entry x + szs_Entry xs
theorem szs_pos_Entry : ∀ xs, 0 ≤ szs_Entry xs
  | [] => by simp [szs_Entry]
  | x :: xs => by have := szs_pos_Entry xs; unfold szs_Entry sz_Entry; omega
theorem z_laws_szEntry (M : Mem) (x : ty_Entry.D) (left : Int) (h0 : 0 ≤ left) (h1 : left ≤ 1048576) (f0 : x.1.length ≤ 9223372036854775807) : ∃ l : Int, aCall T0 F_laws_szEntry [.agg (enc_Entry x).toArray, .int .i64 left] M = some (.int .i64 l, M) ∧ (0 ≤ l → sz_Entry x + l ≤ left) := by
  unfold sz_Entry
  have w0 : -9223372036854775808 ≤ left - (x.1.length : Int) ∧ left - (x.1.length : Int) ≤ 9223372036854775807 := by omega
  have e0 : IntKind.i64.wrap (left - (x.1.length : Int)) = left - (x.1.length : Int) := wrap_i64 w0.1 w0.2
  by_cases c0 : left - (x.1.length : Int) < 0
  · refine ⟨-1, ?_, by omega⟩
    rw [aCall_eq T_laws_szEntry]; unfold A_laws_szEntry C_laws_szEntry; simp [e0, c0]
  refine ⟨left - (x.1.length : Int), ?_, by omega⟩
  rw [aCall_eq T_laws_szEntry]; unfold A_laws_szEntry C_laws_szEntry; simp [e0, c0]
theorem at_Entry {M : Mem} {a : Option Addr} {n c : Nat} {xs : List ty_Entry.D} (h : Rep (.sl ty_Entry) M [.slice a n c] xs) {i : Nat} (hi : i < xs.length) : ∃ l o, a = some ⟨l, o, none⟩ ∧ Rep ty_Entry M (enc_Entry xs[i]) xs[i] ∧ rdn M l (o + i * 2) 2 = some (enc_Entry xs[i]) ∧ rd1 M l (o + i * 2) = some (strV xs[i].1) ∧ rd1 M l (o + i * 2 + 1) = some (.int .i64 xs[i].2) := by
  obtain ⟨_, l, o, rfl, cs, hrd, hrep⟩ := rep_at h hi
  have hcs := rep_Entry hrep
  subst hcs
  have hw : ty_Entry.w = 2 := rfl
  rw [hw] at hrd
  exact ⟨l, o, rfl, hrep, hrd, rd1_of_rdn hrd (k := 0) rfl, rd1_of_rdn hrd (k := 1) rfl⟩
def z_Entry : List V := [(.string ⟨#[]⟩), (.int .i64 0)]
theorem r_laws_toEntryS (M : Mem) (a : Option Addr) (c : Nat) (xs : List ty_Entry.D) (h : Rep (.sl ty_Entry) M [.slice a xs.length c] xs) (hn : xs.length ≤ 1048576) (i : Nat) (hi : i < xs.length) :
    lp (aCall T0) K_laws_toEntryS_0 L_laws_toEntryS_0 [.slice a xs.length c, und, und, .slice (some ⟨M.length, 0, none⟩) xs.length xs.length, .int .i64 i, und, und, und, und, und, und, und, und, und, und, und, und, und, und, und, und, und, und] (M ++ [⟨tcells enc_Entry z_Entry xs i, 2, 2⟩]) =
    lp (aCall T0) K_laws_toEntryS_0 L_laws_toEntryS_0 [.slice a xs.length c, und, und, .slice (some ⟨M.length, 0, none⟩) xs.length xs.length, .int .i64 (i + 1 : Nat), und, und, und, und, und, und, und, und, und, und, und, und, und, und, und, und, und, und] (M ++ [⟨tcells enc_Entry z_Entry xs (i + 1), 2, 2⟩]) := by
  obtain ⟨_, l, o, rfl, cs, hrd, hrep⟩ := rep_at h hi
  have hcs := rep_Entry hrep
  subst hcs
  have hrd2 : rdn (M ++ [⟨tcells enc_Entry z_Entry xs i, 2, 2⟩]) l (o + i * 2) 2 = some (enc_Entry xs[i]) := rdn_old hrd
  have e2 := tcells_len (enc := enc_Entry) (z := z_Entry) (xs := xs) (fun x _ => rfl) (i := i) (by omega)
  have e3 := tcells_step (enc := enc_Entry) (z := z_Entry) (xs := xs) (fun x _ => rfl) hi
  have e4 : z_Entry.length = 2 := rfl
  rw [e4] at e2 e3
  have e5 : i * 2 + 2 ≤ xs.length * 2 := by omega
  have e6 : IntKind.i64.wrap ((i : Int) + 1) = i + 1 := wrap_i64 (by omega) (by omega)
  have e7 : (i : Int) < xs.length := by omega
  unfold splice at e3
  simp at e3
  have ec := fun M => c_laws_toEntry_f M xs[i]
  rw [S_laws_toEntryS_0]; unfold B_laws_toEntryS_0; simp [hrd2, ec, e2, e3, e5, e6, hi]
theorem c_laws_toEntryS (M : Mem) (v : V) (xs : List ty_Entry.D) (h : Rep (.sl ty_Entry) M [v] xs) (hn : xs.length ≤ 1048576) :
    aCall T0 F_laws_toEntryS [v] M = some (.slice (some ⟨M.length, 0, none⟩) xs.length xs.length, M ++ [⟨(xs.map enc_Entry).flatten, 2, 2⟩]) := by
  obtain ⟨a, c, rfl⟩ := h.slen
  have hl := chain (g := fun i : Nat => lp (aCall T0) K_laws_toEntryS_0 L_laws_toEntryS_0 [.slice a xs.length c, und, und, .slice (some ⟨M.length, 0, none⟩) xs.length xs.length, .int .i64 i, und, und, und, und, und, und, und, und, und, und, und, und, und, und, und, und, und, und] (M ++ [⟨tcells enc_Entry z_Entry xs i, 2, 2⟩])) (n := xs.length) fun i hi => r_laws_toEntryS M a c xs h hn i hi
  simp only [Int.natCast_zero, Int.ofNat_zero, tcells_zero, tcells_full] at hl
  unfold z_Entry at hl
  have e1 : (xs.length : Int) * 24 ≤ 281474976710656 := by omega
  have e2 : (xs.length : Int) ≤ 9223372036854775807 := by omega
  rw [aCall_eq T_laws_toEntryS]; unfold A_laws_toEntryS C_laws_toEntryS; simp [e1, e2]
  rw [hl]
  rw [S_laws_toEntryS_0]; unfold B_laws_toEntryS_0; simp
theorem own_Entry (M : Mem) (x : ty_Entry.D) (h : (Lit.int .i64 x.2).wf = true) : Own ty_Entry M (enc_Entry x) x [] := ⟨[strV x.1], [.int .i64 x.2], [], [], rfl, ⟨rfl, rfl⟩, ⟨⟨rfl, h⟩, rfl⟩, rfl⟩
theorem own_encs {t : Ty} {M : Mem} {enc : t.D → List V} {ys : List t.D} (he : ∀ y ∈ ys, Own t M (enc y) y []) : ∀ (i : Nat) (ds : List V) (x : t.D) (K : List Nat), (ys.map enc)[i]? = some ds → ys[i]? = some x → (ys.map (fun _ => ([] : List Nat)))[i]? = some K → Own t M ds x K := by
  intro i ds x K h1 h2 h3
  rw [List.getElem?_map, h2] at h1
  rw [List.getElem?_map, h2] at h3
  simp only [Option.map_some, Option.some.injEq] at h1 h3
  subst h1; subst h3
  exact he x (List.mem_of_getElem? h2)
theorem nils_flat {α : Type} (ys : List α) : (ys.map (fun _ => ([] : List Nat))).flatten = [] := by
  rw [List.flatten_eq_nil_iff]
  intro K hK
  obtain ⟨_, _, rfl⟩ := List.mem_map.1 hK
  rfl
theorem own_blk {t : Ty} {M : Mem} {l c : Nat} {enc : t.D → List V} {ys : List t.D} (hb : M[l]? = some ⟨(ys.map enc).flatten, t.w, 2⟩) (he : ∀ y ∈ ys, Own t M (enc y) y []) : ∃ L, Own (.sl t) M [.slice (some ⟨l, 0, none⟩) ys.length c] ys L ∧ ∀ j ∈ L, j = l := by
  by_cases hy : ys = []
  · subst hy
    exact ⟨[], .inl ⟨rfl, rfl, .inr ⟨l, 0, c, _, [], rfl, hb, .inr (.inr rfl), rfl, rfl, fun i ds x hd => by simp at hd, by simp⟩⟩, by simp⟩
  · exact ⟨[l], .inr ⟨l, 0, c, _, ys.map enc, ys.map (fun _ => []), hy, rfl, hb, rfl, rfl, by simp, by simp, own_encs he, by simp, by rw [nils_flat]⟩, by simp⟩
theorem d_laws_toShelf (M : Mem) (v : V) (xs : List ty_Entry.D) (h : Rep (.sl ty_Entry) M [v] xs) (hn : xs.length ≤ 1048576) : ∃ M' u L, M <+: M' ∧ aCall T0 F_laws_toShelf [.agg #[v]] M = some (.agg #[u], M') ∧ Own (.sl ty_Entry) M' [u] xs L ∧ ∀ l ∈ L, M.length ≤ l ∧ l < M'.length := by
  obtain ⟨B, hB⟩ : ∃ B : Blk, B = ⟨(xs.map enc_Entry).flatten, 2, 2⟩ := ⟨_, rfl⟩
  have t := c_laws_toEntryS (M ++ [⟨[v], 1, 2⟩, ⟨[.slice none 0 0], 1, 2⟩, ⟨[.slice none 0 0], 1, 2⟩]) v xs (h.mono (List.prefix_append _ _)) hn
  rw [← hB] at t
  have hw : ∀ y ∈ xs, ∀ M, Own ty_Entry M (enc_Entry y) y [] := by
    intro y hy M2
    obtain ⟨i, hi, rfl⟩ := List.getElem_of_mem hy
    obtain ⟨a, c, rfl⟩ := h.slen
    obtain ⟨l, o, rfl, hr, _⟩ := at_Entry h hi
    obtain ⟨_, _, _, _, w⟩ := hr
    obtain ⟨_, w⟩ := w
    exact own_Entry _ _ w
  obtain ⟨L, o1, o2⟩ := own_blk (t := ty_Entry) (M := M ++ [⟨[v], 1, 2⟩, ⟨[.slice (some ⟨M.length + 3, 0, none⟩) xs.length xs.length], 1, 2⟩, ⟨[.slice (some ⟨M.length + 3, 0, none⟩) xs.length xs.length], 1, 2⟩, B]) (l := M.length + 3) (c := xs.length) (enc := enc_Entry) (ys := xs) (by rw [hB]; simp; rfl) (fun y hy => hw y hy _)
  refine ⟨M ++ [⟨[v], 1, 2⟩, ⟨[.slice (some ⟨M.length + 3, 0, none⟩) xs.length xs.length], 1, 2⟩, ⟨[.slice (some ⟨M.length + 3, 0, none⟩) xs.length xs.length], 1, 2⟩, B], .slice (some ⟨M.length + 3, 0, none⟩) xs.length xs.length, L, List.prefix_append _ _, ?_, o1, ?_⟩
  · simp at t
    obtain ⟨a, c, rfl⟩ := h.slen
    rw [aCall_eq T_laws_toShelf]; unfold A_laws_toShelf C_laws_toShelf; simp [t]
  · intro l hl
    rw [o2 l hl]
    simp
def dig (n : Nat) : List UInt8 := if h : n = 0 then [] else dig (n / 10) ++ [UInt8.ofNat (48 + n % 10)]
  termination_by n
  decreasing_by omega
def mt (k : Int) : List UInt8 := 109 :: dig k.toNat
def mk_Entry (k : Int) : ty_Entry.D := (mt k, k + 1)
def marks_Entry (k : Int) (n : Nat) : List ty_Entry.D := (List.range n).map fun (j : Nat) => mk_Entry (k + 2 * (j : Int))
theorem marks_Entry_len (k : Int) (n : Nat) : (marks_Entry k n).length = n := by simp [marks_Entry]
theorem marks_Entry_get (k : Int) (n i : Nat) (hi : i < (marks_Entry k n).length) : (marks_Entry k n)[i] = mk_Entry (k + 2 * (i : Int)) := by simp [marks_Entry]
def mcs_Entry (k : Int) (i : Nat) : List V := ((marks_Entry k i).map enc_Entry).flatten
theorem ownf_Entry (M : Mem) (cs : List V) (x : ty_Entry.D) (K : List Nat) (h : Own ty_Entry M cs x K) : K = [] := by
  obtain ⟨_, _, _, _, _, ⟨_, rfl⟩, ⟨_, rfl⟩, rfl⟩ := h
  rfl
theorem mcs_Entry_len (k : Int) (i : Nat) : (mcs_Entry k i).length = i * 2 := by
  unfold mcs_Entry
  rw [flat_enc_len (w := 2) (fun x _ => rfl), marks_Entry_len]
theorem mcs_Entry_succ (k : Int) (i : Nat) : mcs_Entry k (i + 1) = mcs_Entry k i ++ [strV (mt (k + 2 * (i : Int)))] ++ [.int .i64 (k + 2 * (i : Int) + 1)] := by
  unfold mcs_Entry marks_Entry
  rw [List.range_succ]
  simp [mk_Entry]
def spB (blk : Blk) (o : Nat) (ys : List V) : Blk := { blk with cells := splice blk.cells o ys }
theorem splice_snoc (cs ys : List V) (o : Nat) (y : V) (h : o + ys.length + 1 ≤ cs.length) : splice (splice cs o ys) (o + ys.length) [y] = splice cs o (ys ++ [y]) := by
  have e1 : (cs.take o ++ ys).length = o + ys.length := by simp; omega
  unfold splice
  rw [← e1, List.take_left', List.append_assoc (cs.take o) ys]
  · simp only [List.length_append, List.length_cons, List.length_nil, List.append_assoc]
    congr 2
    rw [← List.append_assoc, List.drop_append, List.drop_eq_nil_of_le (by simp)]
    simp
    congr 1
    omega
  · rfl
theorem splice_len (cs ys : List V) (o : Nat) (h : o + ys.length ≤ cs.length) : (splice cs o ys).length = cs.length := by
  unfold splice; simp; omega
theorem wrn_sp (M : Mem) (l o : Nat) (blk : Blk) (hb : M[l]? = some blk) (h2 : blk.st = 2) (ys : List V) (y : V) (hy : one y = true) (ho : o + ys.length + 1 ≤ blk.cells.length) : wrn (M.set l (spB blk o ys)) l (o + ys.length) [y] = some (M.set l (spB blk o (ys ++ [y]))) := by
  have hl := (List.getElem?_eq_some_iff.1 hb).1
  have e0 : (M.set l (spB blk o ys))[l]? = some (spB blk o ys) := by simp [hl]
  unfold wrn
  rw [e0]
  simp only
  have e2 : (spB blk o ys).cells.length = blk.cells.length := splice_len _ _ _ (by omega)
  rw [if_pos ⟨h2, by rw [e2]; simp; omega, by simp [hy]⟩, List.set_set]
  congr 2
  unfold spB
  simp only
  congr 1
  exact splice_snoc blk.cells ys o y (by omega)
theorem dig_len (n : Nat) : (dig n).length ≤ n := by
  induction n using Nat.strongRecOn with
  | _ n ih =>
    rw [dig]
    split
    · simp
    · have := ih (n / 10) (by omega)
      simp; omega
theorem l_laws_markText (M0 : Mem) : ∀ (n : Nat) (out : List UInt8) (N : Mem), n ≤ 4611686018427387904 → out.length + n ≤ 9223372036854775000 →
    ∃ N', lp (aCall T0) K_laws_markText_0 L_laws_markText_0 [.int .i64 n, und, und, strV out, und, und, und, und, und, und, und, und, und, und, und, und, und, und, und, und] (M0 ++ N) = lp (aCall T0) K_laws_markText_0 L_laws_markText_0 [.int .i64 (0 : Nat), und, und, strV (dig n ++ out), und, und, und, und, und, und, und, und, und, und, und, und, und, und, und, und] (M0 ++ N') := by
  intro n
  induction n using Nat.strongRecOn with
  | _ n ih =>
    intro out N hn hl
    by_cases h0 : n = 0
    · subst h0
      exact ⟨N, by simp [dig]⟩
    · obtain ⟨d, hd⟩ : ∃ d, d = n % 10 := ⟨_, rfl⟩
      obtain ⟨m, hm⟩ : ∃ m, m = n / 10 := ⟨_, rfl⟩
      obtain ⟨N', h⟩ := ih m (by omega) (UInt8.ofNat (48 + d) :: out) (N ++ [⟨[.int .u8 (48 + (d : Int))], 1, 2⟩]) (by omega) (by simp; omega)
      refine ⟨N', ?_⟩
      rw [dig, dif_neg h0, List.append_assoc, ← hd, ← hm]
      simp only [List.singleton_append]
      rw [← h, ← List.append_assoc]
      have q1 : ¬ ((n : Int) ≤ 0) := by omega
      have q2 : 0 < n := by omega
      have q3 : (n : Int).tmod 10 = d := by rw [Int.tmod_eq_emod_of_nonneg (by omega), hd]; simp
      have q4 : IntKind.i64.wrap (48 + (d : Int)) = 48 + d := wrap_i64 (by omega) (by omega)
      have q5 : IntKind.u8.wrap (48 + (d : Int)) = 48 + d := wrap_u8 (by omega) (by omega)
      have q6 : (n : Int).tdiv 10 = m := by rw [Int.tdiv_eq_ediv_of_nonneg (by omega), hm]; simp
      have q7 : IntKind.i64.wrap (m : Int) = m := wrap_i64 (by omega) (by omega)
      have q8 : 1 + out.length ≤ 9223372036854775807 := by omega
      have q9 := sliceCells_one (M := M0 ++ N) (v := .int .u8 (48 + (d : Int))) (w := 1)
      have q10 : (48 + (d : Int)).toNat = 48 + d := by omega
      clear h ih
      generalize M0 ++ N = Q at *
      rw [S_laws_markText_0]; unfold B_laws_markText_0; simp [q1, q2, q3, q4, q5, q6, q7, q8, q9, q10, toBytes]
theorem c_laws_markText (M : Mem) (k : Int) (hk : 0 < k) (hk2 : k ≤ 4611686018427387904) : aCall T0 F_laws_markText [.int .i64 k] M = some (strV (mt k), M) := by
  obtain ⟨n, rfl⟩ : ∃ n : Nat, k = n := ⟨k.toNat, by omega⟩
  obtain ⟨N, h⟩ := l_laws_markText M n [] [] (by omega) (by simp; omega)
  have q1 : ¬ n = 0 := by omega
  have q2 := dig_len n
  have q3 : 1 + (dig n).length ≤ 9223372036854775807 := by omega
  simp only [List.append_nil, Int.natCast_zero, Int.ofNat_zero] at h
  have e0 : strV [] = .string ⟨#[]⟩ := rfl
  rw [e0] at h
  unfold mt
  have e : (n : Int).toNat = n := by omega
  rw [e]
  rw [aCall_eq T_laws_markText]; unfold A_laws_markText C_laws_markText; simp [q1, h]
  rw [S_laws_markText_0]; unfold B_laws_markText_0; simp [q3]
theorem r_laws_markEntryS (M : Mem) (l o n c : Nat) (blk : Blk) (hb : M[l]? = some blk) (h2 : blk.st = 2) (k : Int) (hk : 0 < k) (hk2 : k + 2 * n ≤ 4611686018427387904) (ho : o + n * 2 ≤ blk.cells.length) (i : Nat) (hi : i < n) :
    lp (aCall T0) K_laws_markEntryS_0 L_laws_markEntryS_0 [.slice (some ⟨l, o, none⟩) n c, .int .i64 (k + 2 * (i : Int)), und, und, und, .int .i64 i, und, und, und, und, und, und, und, und, und, und, und, und, und, und, und, und, und, und, und, und, und, und] (M.set l (spB blk o (mcs_Entry k i))) =
    lp (aCall T0) K_laws_markEntryS_0 L_laws_markEntryS_0 [.slice (some ⟨l, o, none⟩) n c, .int .i64 (k + 2 * ((i + 1 : Nat) : Int)), und, und, und, .int .i64 (i + 1 : Nat), und, und, und, und, und, und, und, und, und, und, und, und, und, und, und, und, und, und, und, und, und, und] (M.set l (spB blk o (mcs_Entry k (i + 1)))) := by
  have el := mcs_Entry_len k i
  have e1 := wrn_sp M l o blk hb h2 (mcs_Entry k i) (strV (mt (k + 2 * (i : Int)))) rfl (by omega)
  have e2 := wrn_sp M l o blk hb h2 (mcs_Entry k i ++ [strV (mt (k + 2 * (i : Int)))]) (.int .i64 (k + 2 * (i : Int) + 1)) rfl (by simp; omega)
  rw [← mcs_Entry_succ, List.length_append, el] at e2
  rw [el] at e1
  have e3 : o + (i * 2 + [strV (mt (k + 2 * (i : Int)))].length) = o + i * 2 + 1 := by simp; omega
  rw [e3] at e2
  have e6 : IntKind.i64.wrap ((i : Int) + 1) = i + 1 := wrap_i64 (by omega) (by omega)
  have e7 : IntKind.i64.wrap (k + 2 * (i : Int) + 1) = k + 2 * (i : Int) + 1 := wrap_i64 (by omega) (by omega)
  have e8 : IntKind.i64.wrap (k + 2 * (i : Int) + 1 + 1) = k + 2 * ((i : Int) + 1) := by rw [wrap_i64 (by omega) (by omega)]; omega
  have e9 := fun M => c_laws_markText M (k + 2 * (i : Int)) (by omega) (by omega)
  rw [S_laws_markEntryS_0]; unfold B_laws_markEntryS_0; simp [e1, e2, e6, e7, e8, e9, hi]
theorem spB_nil (blk : Blk) (o : Nat) : spB blk o [] = blk := by simp [spB, splice]
theorem set_same {M : Mem} {l : Nat} {blk : Blk} (hb : M[l]? = some blk) : M.set l blk = M := by
  exact List.ext_getElem? fun j => by
    rw [List.getElem?_set]
    split
    · rename_i e; subst e; split
      · exact hb.symm
      · rename_i hlt; rw [List.getElem?_eq_none (by omega)]
    · rfl
theorem upd_set {M : Mem} {l : Nat} {blk b2 : Blk} (hb : M[l]? = some blk) (hw : b2.w = blk.w) : Upd M (M.set l b2) (· ∈ [l]) := by
  have hlt := (List.getElem?_eq_some_iff.1 hb).1
  refine ⟨by simp, fun j hj => ?_, fun j b' hj => ?_⟩
  · rw [List.getElem?_set_ne (fun e => hj (by simp [e]))]
  · by_cases e : l = j
    · subst e
      rw [hb] at hj
      cases hj
      exact ⟨b2, by simp [hlt], hw⟩
    · exact ⟨b', by rw [List.getElem?_set_ne e, hj], rfl⟩
theorem own_flat {t : Ty} (hf : ∀ (M : Mem) (cs : List V) (x : t.D) (K : List Nat), Own t M cs x K → K = []) {M : Mem} {v : V} {xs : List t.D} {L : List Nat} (h : Own (.sl t) M [v] xs L) : (xs = [] ∧ L = [] ∧ Rep (.sl t) M [v] []) ∨ ∃ l o c blk, xs ≠ [] ∧ v = .slice (some ⟨l, o, none⟩) xs.length c ∧ M[l]? = some blk ∧ blk.st = 2 ∧ blk.w = t.w ∧ o + xs.length * t.w ≤ blk.cells.length ∧ L = [l] := by
  rcases h with ⟨rfl, hL, hr⟩ | ⟨l, o, c, blk, css, Ls, hne, e, hb, h2, hw, hc, hLs, hel, hp, rfl⟩
  · exact .inl ⟨rfl, hL, hr⟩
  · right
    simp only [List.cons.injEq, and_true] at e
    refine ⟨l, o, c, blk, hne, e, hb, h2, hw, ?_, ?_⟩
    · have hone : ∀ cs ∈ css, cs.length = t.w := by
        intro cs hcs
        obtain ⟨i, hi, rfl⟩ := List.getElem_of_mem hcs
        exact (hel i css[i] (xs[i]'(by omega)) (Ls[i]'(by omega)) (by simp) (by simp) (by simp)).rep.len
      have := flat_len hone
      have hl := hp.length_le
      rw [this, List.length_drop, hc] at hl
      have h0 := List.length_pos_iff.2 hne
      have h1 : 0 < xs.length * t.w := Nat.mul_pos h0 t.w_pos
      omega
    · have : Ls.flatten = [] := by
        rw [List.flatten_eq_nil_iff]
        intro K hK
        obtain ⟨i, hi, rfl⟩ := List.getElem_of_mem hK
        exact hf _ _ _ _ (hel i (css[i]'(by omega)) (xs[i]'(by omega)) Ls[i] (by simp) (by simp) (by simp))
      rw [this]
theorem own_sp {t : Ty} {M : Mem} {l o n c : Nat} {blk : Blk} {enc : t.D → List V} {ys : List t.D} (hy : ys ≠ []) (hn : ys.length = n) (hb : M[l]? = some (spB blk o (ys.map enc).flatten)) (h2 : blk.st = 2) (hw : blk.w = t.w) (ho : o ≤ blk.cells.length) (he : ∀ y ∈ ys, Own t M (enc y) y []) :
    Own (.sl t) M [.slice (some ⟨l, o, none⟩) n c] ys [l] := by
  refine .inr ⟨l, o, c, spB blk o (ys.map enc).flatten, ys.map enc, ys.map (fun _ => []), hy, by rw [hn], hb, h2, hw, by simp, by simp, own_encs he, ?_, by rw [nils_flat]⟩
  unfold spB splice
  simp only
  rw [List.append_assoc, List.drop_append, List.drop_eq_nil_of_le (by simp; omega)]
  have : o - (List.take o blk.cells).length = 0 := by simp; omega
  rw [this]
  exact List.prefix_append _ _
theorem wf_range {z : Int} (h : -9223372036854775808 ≤ z ∧ z ≤ 9223372036854775807) : (Lit.int .i64 z).wf = true := by
  simp [Lit.wf, IntKind.min, IntKind.max, IntKind.signed, IntKind.bits]; omega
theorem c_laws_markEntryS (M : Mem) (v : V) (xs : List ty_Entry.D) (L : List Nat) (h : Own (.sl ty_Entry) M [v] xs L) (k : Int) (hk : 0 < k) (hk2 : k + 2 * xs.length ≤ 4611686018427387904) :
    ∃ M', aCall T0 F_laws_markEntryS [v, .int .i64 k] M = some (.int .i64 (k + 2 * xs.length), M') ∧ Upd M M' (· ∈ L) ∧ Own (.sl ty_Entry) M' [v] (marks_Entry k xs.length) L := by
  rcases own_flat ownf_Entry h with ⟨rfl, rfl, hr⟩ | ⟨l, o, c, blk, hx, rfl, hb, h2, hw, ho, rfl⟩
  · refine ⟨M, ?_, ⟨rfl, fun _ _ => rfl, fun l b hb => ⟨b, hb, rfl⟩⟩, .inl ⟨rfl, rfl, hr⟩⟩
    obtain ⟨a, c, rfl⟩ := hr.slen
    rw [aCall_eq T_laws_markEntryS]; unfold A_laws_markEntryS C_laws_markEntryS; simp
    rw [S_laws_markEntryS_0]; unfold B_laws_markEntryS_0; simp
  · have hw2 : ty_Entry.w = 2 := rfl
    rw [hw2] at ho
    have hl := chain (g := fun i : Nat => lp (aCall T0) K_laws_markEntryS_0 L_laws_markEntryS_0 [.slice (some ⟨l, o, none⟩) xs.length c, .int .i64 (k + 2 * (i : Int)), und, und, und, .int .i64 i, und, und, und, und, und, und, und, und, und, und, und, und, und, und, und, und, und, und, und, und, und, und] (M.set l (spB blk o (mcs_Entry k i)))) (n := xs.length) fun i hi => r_laws_markEntryS M l o xs.length c blk hb h2 k hk hk2 ho i hi
    have e0 : mcs_Entry k 0 = [] := rfl
    simp only [Int.natCast_zero, Int.ofNat_zero, e0, spB_nil, set_same hb, Int.mul_zero, Int.add_zero] at hl
    have hlt := (List.getElem?_eq_some_iff.1 hb).1
    refine ⟨M.set l (spB blk o (mcs_Entry k xs.length)), ?_, upd_set hb rfl, ?_⟩
    · rw [aCall_eq T_laws_markEntryS]; unfold A_laws_markEntryS C_laws_markEntryS; simp [hl]
      rw [S_laws_markEntryS_0]; unfold B_laws_markEntryS_0; simp
      exact gc_len (by simp)
    · refine own_sp (blk := blk) (enc := enc_Entry) ?_ (marks_Entry_len _ _) (by simp [hlt, mcs_Entry]) h2 hw (by omega) ?_
      · intro e; have := congrArg List.length e; rw [marks_Entry_len] at this; exact hx (List.length_eq_zero_iff.1 this)
      · intro y hy
        obtain ⟨i, hi, rfl⟩ := List.getElem_of_mem hy
        rw [marks_Entry_get]
        have hi2 : i < xs.length := by rw [marks_Entry_len] at hi; exact hi
        apply own_Entry
        apply wf_range
        show -9223372036854775808 ≤ k + 2 * (i : Int) + 1 ∧ k + 2 * (i : Int) + 1 ≤ 9223372036854775807
        omega
/-- Memory that has grown, and changed in the blocks of L alone. -/
def UpdG (M M' : Mem) (L : Nat → Prop) : Prop := M.length ≤ M'.length ∧ (∀ l, ¬ L l → l < M.length → M'[l]? = M[l]?) ∧ ∀ (l : Nat) (b : Blk), M[l]? = some b → ∃ b' : Blk, M'[l]? = some b' ∧ b'.w = b.w
theorem Upd.g {M M' : Mem} {L : Nat → Prop} (h : Upd M M' L) : UpdG M M' L := ⟨Nat.le_of_eq h.1.symm, fun l hl _ => h.2.1 l hl, h.2.2⟩
theorem UpdG.grow {M M1 M' : Mem} {L : Nat → Prop} (h : UpdG M1 M' L) (hp : M <+: M1) : UpdG M M' L := by
  refine ⟨Nat.le_trans hp.length_le h.1, fun l hl hlt => ?_, fun l b hb => h.2.2 l b (get_pre hp hb)⟩
  rw [h.2.1 l hl (Nat.lt_of_lt_of_le hlt hp.length_le)]
  obtain ⟨r, rfl⟩ := hp
  rw [List.getElem?_append_left hlt]
def hs (h : Nat) (b : UInt8) : Nat := ((h ^^^ b.toNat) * 16777619) % 4294967296
theorem pre_g {M M' : Mem} (hp : M <+: M') (L : Nat → Prop) : UpdG M M' L := by
  refine ⟨hp.length_le, fun l _ hlt => ?_, fun l b hb => ⟨b, get_pre hp hb, rfl⟩⟩
  obtain ⟨r, rfl⟩ := hp
  rw [List.getElem?_append_left hlt]
theorem Rep.inj : ∀ {t : Ty} {M : Mem} {cs : List V} {x y : t.D}, Rep t M cs x → Rep t M cs y → x = y
  | .int _, _, _, _, _, h, h2 => by
    have e := h.1.symm.trans h2.1
    simpa using e
  | .u8, _, _, x, y, h, h2 => by
    have e := h.symm.trans h2
    simp [byteV] at e
    exact UInt8.toNat_inj.1 (by omega)
  | .bool, _, _, _, _, h, h2 => by
    have e := h.symm.trans h2
    simpa using e
  | .str, _, _, _, _, h, h2 => by
    have e := h.symm.trans h2
    simpa using e
  | .sl t, M, cs, x, y, h, h2 => by
    rcases h.slice with ⟨e, hx⟩ | ⟨l, o, c, e⟩
    · rcases h2.slice with ⟨e2, hy⟩ | ⟨l2, o2, c2, e2⟩
      · rw [hx, hy]
      · rw [e] at e2; simp at e2
    · rcases h2.slice with ⟨e2, hy⟩ | ⟨l2, o2, c2, e2⟩
      · rw [e] at e2; simp at e2
      · rw [e] at e2 h
        simp only [List.cons.injEq, Value.slice.injEq, Option.some.injEq, Addr.mk.injEq, and_true] at e2
        obtain ⟨⟨rfl, rfl⟩, hl, rfl⟩ := e2
        rw [e] at h2
        apply List.ext_getElem hl
        intro i h3 h4
        obtain ⟨d1, r1, q1⟩ := h.elem (i := i) (x := x[i]) (by simp [h3])
        obtain ⟨d2, r2, q2⟩ := h2.elem (i := i) (x := y[i]) (by simp [h4])
        rw [r1] at r2
        cases r2
        exact q1.inj q2
  | .pr a b, _, _, x, y, h, h2 => by
    obtain ⟨c1, c2, e, p1, p2⟩ := h
    obtain ⟨d1, d2, e2, q1, q2⟩ := h2
    rw [e] at e2
    obtain ⟨rfl, rfl⟩ := List.append_inj e2 (by rw [p1.len, q1.len])
    exact Prod.ext (p1.inj q1) (p2.inj q2)
theorem gc_mark {M M' : Mem} {K : Nat → Prop} (hu : UpdG M M' K) {t : Ty} {cs : List V} {x y : t.D} {L : List Nat} (h : Own t M cs x L) (o : Own t M' cs y L) (v : V) : ∃ M2, gc M (some (v, M')) = some (v, M2) ∧ UpdG M M2 K ∧ Own t M2 cs y L := by
  by_cases hp : M <+: M'
  · by_cases hs : scal v = true
    · refine ⟨M, ?_, pre_g (List.prefix_refl _) _, ?_⟩
      · simp only [gc]
        exact if_pos ⟨hs, hp⟩
      · have e := Rep.inj (h.rep.mono hp) o.rep
        rw [← e]
        exact h
    · exact ⟨M', by simp only [gc]; exact if_neg (fun q => hs q.1), hu, o⟩
  · exact ⟨M', by simp only [gc]; exact if_neg (fun q => hp q.2), hu, o⟩
theorem d_laws_markShelf (M : Mem) (v : V) (xs : List ty_Entry.D) (L : List Nat) (h : Own (.sl ty_Entry) M [v] xs L) (k : Int) (hk : 0 < k) (hk2 : k + 2 * xs.length ≤ 4611686018427387904) :
    ∃ M', aCall T0 F_laws_markShelf [.agg #[v], .int .i64 k] M = some (.int .i64 (k + 2 * xs.length), M') ∧ UpdG M M' (· ∈ L) ∧ Own (.sl ty_Entry) M' [v] (marks_Entry k xs.length) L := by
  obtain ⟨M', e, u, o⟩ := c_laws_markEntryS (M ++ [⟨[v], 1, 2⟩]) v xs L (h.grow (List.prefix_append _ _)) k hk hk2
  have hu := UpdG.grow (Upd.g u) (List.prefix_append M [⟨[v], 1, 2⟩])
  obtain ⟨M2, g, u2, o2⟩ := gc_mark hu h o (.int .i64 (k + 2 * xs.length))
  refine ⟨M2, ?_, u2, o2⟩
  obtain ⟨a, c, rfl⟩ := h.rep.slen
  rw [aCall_eq T_laws_markShelf]; unfold A_laws_markShelf C_laws_markShelf; simp [e, g]
theorem c_laws_heldEntryS (M : Mem) (v : V) (k : Int) (n : Nat) (h : Rep (.sl ty_Entry) M [v] (marks_Entry k n)) (hk : 0 < k) (hk2 : k + 2 * n ≤ 4611686018427387904) : aCall T0 F_laws_heldEntryS [v, .int .i64 k] M = some (.int .i64 (k + 2 * n), M) := by
  obtain ⟨a, c, rfl⟩ := h.slen
  have hlen := marks_Entry_len k n
  have hc := chain (g := fun i : Nat => lp (aCall T0) K_laws_heldEntryS_0 L_laws_heldEntryS_0 [.slice a (marks_Entry k n).length c, .int .i64 (k + 2 * (i : Int)), und, und, und, .int .i64 i, und, und, und, und, und, und, und, und, und, und, und, und, und, und, und, und, und, und, und, und, und, und, und, und, und, und] M) (n := n) fun i hi => by
    obtain ⟨l, o, rfl, _, _, hf0, hf1⟩ := at_Entry h (i := i) (by omega)
    rw [marks_Entry_get] at hf0 hf1
    have e1 : (mk_Entry (k + 2 * (i : Int))).1 = mt (k + 2 * (i : Int)) := rfl
    have e2 : (mk_Entry (k + 2 * (i : Int))).2 = k + 2 * (i : Int) + 1 := rfl
    rw [e1] at hf0
    rw [e2] at hf1
    have e6 : IntKind.i64.wrap ((i : Int) + 1) = i + 1 := wrap_i64 (by omega) (by omega)
    have e7 : IntKind.i64.wrap (k + 2 * (i : Int) + 1) = k + 2 * (i : Int) + 1 := wrap_i64 (by omega) (by omega)
    have e8 : IntKind.i64.wrap (k + 2 * (i : Int) + 1 + 1) = k + 2 * ((i : Int) + 1) := by rw [wrap_i64 (by omega) (by omega)]; omega
    have e9 := fun M => c_laws_markText M (k + 2 * (i : Int)) (by omega) (by omega)
    rw [hlen]
    rw [S_laws_heldEntryS_0]; unfold B_laws_heldEntryS_0; simp [hf0, hf1, hi, e6, e7, e8, e9]
  simp only [Int.natCast_zero, Int.ofNat_zero, Int.mul_zero, Int.add_zero] at hc
  rw [hlen] at hc ⊢
  rw [aCall_eq T_laws_heldEntryS]; unfold A_laws_heldEntryS C_laws_heldEntryS; simp [hc]
  rw [S_laws_heldEntryS_0]; unfold B_laws_heldEntryS_0; simp
theorem d_laws_heldShelf (M : Mem) (v : V) (k : Int) (n : Nat) (h : Rep (.sl ty_Entry) M [v] (marks_Entry k n)) (hk : 0 < k) (hk2 : k + 2 * n ≤ 4611686018427387904) : aCall T0 F_laws_heldShelf [.agg #[v], .int .i64 k] M = some (.int .i64 (k + 2 * n), M) := by
  have e := c_laws_heldEntryS (M ++ [⟨[v], 1, 2⟩]) v k n (h.mono (List.prefix_append _ _)) hk hk2
  obtain ⟨a, c, rfl⟩ := h.slen
  have e2 : ¬ (k + 2 * (n : Int) < 0) := by omega
  rw [aCall_eq T_laws_heldShelf]; unfold A_laws_heldShelf C_laws_heldShelf; simp [e, e2]
theorem rdn_box {M : Mem} {l n : Nat} {cs : List V} (h : M[l]? = some ⟨cs, 1, 2⟩) (hn : n = cs.length) : rdn M l 0 n = some cs := by
  unfold rdn
  rw [h]
  simp [hn]
theorem rep_emptyg {t : Ty} {M M' : Mem} {L : Nat → Prop} (hu : UpdG M M' L) {cs : List V} (h : Rep (.sl t) M cs []) : Rep (.sl t) M' cs [] := by
  rcases h with h | ⟨l, o, c, blk, css, h1, h2, h3, h4, h5, h6, h7⟩
  · exact .inl h
  · obtain ⟨b', hb, hw⟩ := hu.2.2 l blk h2
    have hc : css = [] := List.length_eq_zero_iff.1 h5
    subst hc
    exact .inr ⟨l, o, c, b', [], h1, hb, .inr (.inr rfl), by rw [hw, h4], rfl, fun i ds x hd => by simp at hd, by simp⟩
theorem Own.updg {M M' : Mem} {K : Nat → Prop} (hu : UpdG M M' K) : ∀ {t : Ty} {cs : List V} {x : t.D} {L : List Nat}, Own t M cs x L → (∀ l ∈ L, ¬ K l) → Own t M' cs x L
  | .int _, _, _, _, h, _ => h
  | .u8, _, _, _, h, _ => h
  | .bool, _, _, _, h, _ => h
  | .str, _, _, _, h, _ => h
  | .sl t, _, _, _, h, hk => by
    rcases h with ⟨rfl, hL, h⟩ | ⟨l, o, c, blk, css, Ls, hne, h1, h2, h3, h4, h5, hL, h6, h7, rfl⟩
    · exact .inl ⟨rfl, hL, rep_emptyg hu h⟩
    · refine .inr ⟨l, o, c, blk, css, Ls, hne, h1, by rw [hu.2.1 l (hk l (by simp)) (List.getElem?_eq_some_iff.1 h2).1, h2], h3, h4, h5, hL, fun i ds x J hd hx hJ => ?_, h7, rfl⟩
      exact (h6 i ds x J hd hx hJ).updg hu (fun j hj => hk j (List.mem_cons_of_mem _ (List.mem_flatten.2 ⟨J, List.mem_of_getElem? hJ, hj⟩)))
  | .pr a b, _, x, _, h, hk => by
    obtain ⟨c1, c2, L1, L2, e, h1, h2, rfl⟩ := h
    exact ⟨c1, c2, L1, L2, e, h1.updg hu (fun l hl => hk l (List.mem_append_left _ hl)), h2.updg hu (fun l hl => hk l (List.mem_append_right _ hl)), rfl⟩
theorem UpdG.pre {M0 M M' : Mem} {K : Nat → Prop} (hu : UpdG M M' K) (hp : M0 <+: M) (hk : ∀ l, K l → M0.length ≤ l) : M0 <+: M' := by
  have hl : M0.length ≤ M'.length := Nat.le_trans hp.length_le hu.1
  rw [List.prefix_iff_eq_take]
  apply List.ext_getElem?
  intro i
  rw [List.getElem?_take]
  split
  · rename_i hi
    rw [hu.2.1 i (fun h => by have := hk i h; omega) (Nat.lt_of_lt_of_le hi hp.length_le)]
    obtain ⟨r, rfl⟩ := hp
    rw [List.getElem?_append_left hi]
  · rename_i hi
    rw [List.getElem?_eq_none (by omega)]
theorem deq_Entry (x y : ty_Entry.D) : decide (x = y) = (decide (x.1 = y.1) && (decide (x.2 = y.2))) := by
  obtain ⟨x0, x1⟩ := x
  obtain ⟨y0, y1⟩ := y
  simp
theorem c_laws_eqEntry (M : Mem) (x y : ty_Entry.D) : aCall T0 F_laws_eqEntry [.agg (enc_Entry x).toArray, .agg (enc_Entry y).toArray] M = some (.bool (decide (x = y)), M) := by
  rw [deq_Entry]
  rw [aCall_eq T_laws_eqEntry]; unfold A_laws_eqEntry C_laws_eqEntry; simp
  repeat' ((first | rw [selO_some] | rw [condR_bool] | rw [selD_some]); split <;> rename_i hq <;> (have hq2 := hq) <;> (try simp at hq2) <;> (try simp [*]))
theorem r_laws_eqEntryS (M : Mem) (a b : Option Addr) (c d : Nat) (xs ys : List ty_Entry.D) (h : Rep (.sl ty_Entry) M [.slice a xs.length c] xs) (h2 : Rep (.sl ty_Entry) M [.slice b ys.length d] ys) (hn : xs.length ≤ 9223372036854775807) (i : Nat) (hi : i < xs.length) (hj : i < ys.length) (he : xs[i] = ys[i]) :
    lp (aCall T0) K_laws_eqEntryS_0 L_laws_eqEntryS_0 [.slice a xs.length c, .slice b ys.length d, und, und, und, .int .i64 i, und, und, und, und, und, und, und, und, und, und, und, und, und, und, und, und, und, und, und, und, und] M = lp (aCall T0) K_laws_eqEntryS_0 L_laws_eqEntryS_0 [.slice a xs.length c, .slice b ys.length d, und, und, und, .int .i64 (i + 1 : Nat), und, und, und, und, und, und, und, und, und, und, und, und, und, und, und, und, und, und, und, und, und] M := by
  obtain ⟨_, l, o, rfl, cs, hrd, hrep⟩ := rep_at h hi
  obtain ⟨_, l2, o2, rfl, ds, hrd2, hrep2⟩ := rep_at h2 hj
  have hcs := rep_Entry hrep
  subst hcs
  have hds := rep_Entry hrep2
  subst hds
  have hw : ty_Entry.w = 2 := rfl
  rw [hw] at hrd hrd2
  have e6 : IntKind.i64.wrap ((i : Int) + 1) = i + 1 := wrap_i64 (by omega) (by omega)
  have ec := fun M => c_laws_eqEntry M ys[i] ys[i]
  rw [S_laws_eqEntryS_0]; unfold B_laws_eqEntryS_0; simp [hrd, hrd2, ec, e6, hi, hj, he]
theorem x_laws_eqEntryS (M : Mem) (a b : Option Addr) (c d : Nat) (xs ys : List ty_Entry.D) (h : Rep (.sl ty_Entry) M [.slice a xs.length c] xs) (h2 : Rep (.sl ty_Entry) M [.slice b ys.length d] ys) (hn : xs.length ≤ 9223372036854775807) (i : Nat) (hi : i < xs.length) (hj : i < ys.length) (he : xs[i] ≠ ys[i]) (k : ACode) :
    thenF M [.tmp 4] (thenS (blockR 0 (lp (aCall T0) K_laws_eqEntryS_0 L_laws_eqEntryS_0 [.slice a xs.length c, .slice b ys.length d, und, und, und, .int .i64 i, und, und, und, und, und, und, und, und, und, und, und, und, und, und, und, und, und, und, und, und, und] M)) (aCall T0) k) = some (.bool false, M) := by
  obtain ⟨_, l, o, rfl, cs, hrd, hrep⟩ := rep_at h hi
  obtain ⟨_, l2, o2, rfl, ds, hrd2, hrep2⟩ := rep_at h2 hj
  have hcs := rep_Entry hrep
  subst hcs
  have hds := rep_Entry hrep2
  subst hds
  have hw : ty_Entry.w = 2 := rfl
  rw [hw] at hrd hrd2
  have ec := fun M => c_laws_eqEntry M xs[i] ys[i]
  rw [S_laws_eqEntryS_0]; unfold B_laws_eqEntryS_0; simp [hrd, hrd2, ec, hi, hj, he]
theorem c_laws_eqEntryS (M : Mem) (v u : V) (xs ys : List ty_Entry.D) (h : Rep (.sl ty_Entry) M [v] xs) (h2 : Rep (.sl ty_Entry) M [u] ys) (hn : xs.length ≤ 9223372036854775807) : aCall T0 F_laws_eqEntryS [v, u] M = some (.bool (decide (xs = ys)), M) := by
  obtain ⟨a, c, rfl⟩ := h.slen
  obtain ⟨b, d, rfl⟩ := h2.slen
  by_cases hl : xs.length = ys.length
  · rcases list_eq_iff hl with he | ⟨j, hj, h3, h4⟩
    · subst he
      have hc := chain (g := fun i : Nat => lp (aCall T0) K_laws_eqEntryS_0 L_laws_eqEntryS_0 [.slice a xs.length c, .slice b xs.length d, und, und, und, .int .i64 i, und, und, und, und, und, und, und, und, und, und, und, und, und, und, und, und, und, und, und, und, und] M) (n := xs.length) fun i hi => r_laws_eqEntryS M a b c d xs xs h h2 hn i hi hi rfl
      simp only [Int.natCast_zero, Int.ofNat_zero] at hc
      rw [aCall_eq T_laws_eqEntryS]; unfold A_laws_eqEntryS C_laws_eqEntryS; simp [hc]
      rw [S_laws_eqEntryS_0]; unfold B_laws_eqEntryS_0; simp
    · have hc := chain (g := fun i : Nat => lp (aCall T0) K_laws_eqEntryS_0 L_laws_eqEntryS_0 [.slice a xs.length c, .slice b ys.length d, und, und, und, .int .i64 i, und, und, und, und, und, und, und, und, und, und, und, und, und, und, und, und, und, und, und, und, und] M) (n := j) fun i hi => r_laws_eqEntryS M a b c d xs ys h h2 hn i (by omega) (by omega) (h3 i (by omega) hi)
      simp only [Int.natCast_zero, Int.ofNat_zero] at hc
      have hx := x_laws_eqEntryS M a b c d xs ys h h2 hn j hj (by omega) h4
      have hne : xs ≠ ys := fun e => h4 (by simp [e])
      simp only [← hl] at hc hx
      simp only [← hl]
      rw [aCall_eq T_laws_eqEntryS]; unfold A_laws_eqEntryS C_laws_eqEntryS; simp [hc, hx, hne]
  · have hne : xs ≠ ys := fun e => hl (by rw [e])
    have hl2 : ¬ ((xs.length : Int) = ys.length) := by omega
    rw [aCall_eq T_laws_eqEntryS]; unfold A_laws_eqEntryS C_laws_eqEntryS; simp [hl2, hl, hne]
theorem c_laws_eqShelf (M : Mem) (v u : V) (xs ys : List ty_Entry.D) (h : Rep (.sl ty_Entry) M [v] xs) (h2 : Rep (.sl ty_Entry) M [u] ys) (hn : xs.length ≤ 9223372036854775807) : aCall T0 F_laws_eqShelf [.agg #[v], .agg #[u]] M = some (.bool (decide (xs = ys)), M) := by
  have e := c_laws_eqEntryS (M ++ [⟨[v], 1, 2⟩, ⟨[u], 1, 2⟩]) v u xs ys (h.mono (List.prefix_append _ _)) (h2.mono (List.prefix_append _ _)) hn
  obtain ⟨a, c, rfl⟩ := h.slen
  obtain ⟨b, d, rfl⟩ := h2.slen
  rw [aCall_eq T_laws_eqShelf]; unfold A_laws_eqShelf C_laws_eqShelf; simp [e]
  by_cases hxy : xs = ys
  · simp [hxy]
  · simp [hxy]
theorem l_laws_szEntryS (M : Mem) (a : Option Addr) (c : Nat) (xs : List ty_Entry.D) (h : Rep (.sl ty_Entry) M [.slice a xs.length c] xs) (hn : xs.length ≤ 1048576) (f0 : ∀ x ∈ xs, x.1.length ≤ 9223372036854775807) : ∀ (k i : Nat) (left : Int), i + k = xs.length → 0 ≤ left → left ≤ 1048576 →
    (∃ (l l2 : Int) (j : Nat), ∃ hj : j < xs.length, aCall T0 F_laws_szEntry [.agg (enc_Entry xs[j]).toArray, .int .i64 l] M = some (.int .i64 l2, M) ∧ l2 < 0 ∧ lp (aCall T0) K_laws_szEntryS_0 L_laws_szEntryS_0 [.slice a xs.length c, .int .i64 left, und, und, und, .int .i64 i, und, und, und, und, und, und, und, und, und, und, und, und, und, und, und, und, und, und, und, und, und] M = lp (aCall T0) K_laws_szEntryS_0 L_laws_szEntryS_0 [.slice a xs.length c, .int .i64 l, und, und, und, .int .i64 j, und, und, und, und, und, und, und, und, und, und, und, und, und, und, und, und, und, und, und, und, und] M) ∨
    (∃ l : Int, 0 ≤ l ∧ szs_Entry (xs.drop i) + l ≤ left ∧ lp (aCall T0) K_laws_szEntryS_0 L_laws_szEntryS_0 [.slice a xs.length c, .int .i64 left, und, und, und, .int .i64 i, und, und, und, und, und, und, und, und, und, und, und, und, und, und, und, und, und, und, und, und, und] M = lp (aCall T0) K_laws_szEntryS_0 L_laws_szEntryS_0 [.slice a xs.length c, .int .i64 l, und, und, und, .int .i64 xs.length, und, und, und, und, und, und, und, und, und, und, und, und, und, und, und, und, und, und, und, und, und] M)
  | 0, i, left, hi, h0, h1 => by
    right
    have e : xs.drop i = [] := List.drop_eq_nil_of_le (by omega)
    have e2 : i = xs.length := by omega
    refine ⟨left, h0, by rw [e]; simp [szs_Entry], ?_⟩
    rw [e2]
  | k + 1, i, left, hi', h0, h1 => by
    have hi : i < xs.length := by omega
    obtain ⟨l', hl1, hl2⟩ := z_laws_szEntry M xs[i] left h0 h1 (f0 xs[i] (List.getElem_mem hi))
    by_cases hl0 : l' < 0
    · exact .inl ⟨left, l', i, hi, hl1, hl0, rfl⟩
    · obtain ⟨_, l, o, rfl, cs, hrd, hrep⟩ := rep_at h hi
      have hcs := rep_Entry hrep
      subst hcs
      have hw : ty_Entry.w = 2 := rfl
      rw [hw] at hrd
      have e6 : IntKind.i64.wrap ((i : Int) + 1) = i + 1 := wrap_i64 (by omega) (by omega)
      have hd : xs.drop i = xs[i] :: xs.drop (i + 1) := (List.drop_eq_getElem_cons hi)
      have hz : 0 ≤ sz_Entry xs[i] := by unfold sz_Entry; omega
      have ih := l_laws_szEntryS M (some ⟨l, o, none⟩) c xs h hn f0 k (i + 1) l' (by omega) (by omega) (by have := hl2 (by omega); omega)
      have e7 : lp (aCall T0) K_laws_szEntryS_0 L_laws_szEntryS_0 [.slice (some ⟨l, o, none⟩) xs.length c, .int .i64 left, und, und, und, .int .i64 i, und, und, und, und, und, und, und, und, und, und, und, und, und, und, und, und, und, und, und, und, und] M = lp (aCall T0) K_laws_szEntryS_0 L_laws_szEntryS_0 [.slice (some ⟨l, o, none⟩) xs.length c, .int .i64 l', und, und, und, .int .i64 (i + 1 : Nat), und, und, und, und, und, und, und, und, und, und, und, und, und, und, und, und, und, und, und, und, und] M := by
        rw [S_laws_szEntryS_0]; unfold B_laws_szEntryS_0; simp [hrd, hl1, hl0, hi, e6]
      rw [e7, hd]
      rcases ih with ih | ⟨l3, h3, h4, h5⟩
      · exact .inl ih
      · refine .inr ⟨l3, h3, ?_, h5⟩
        have := hl2 (by omega)
        simp only [szs_Entry]
        omega
theorem c_laws_szEntryS (M : Mem) (v : V) (xs : List ty_Entry.D) (h : Rep (.sl ty_Entry) M [v] xs) (left : Int) (h0 : 0 ≤ left) (h1 : left ≤ 1048576) (hx : xs.length ≤ 9223372036854775807) (f0 : ∀ x ∈ xs, x.1.length ≤ 9223372036854775807) :
    ∃ l : Int, aCall T0 F_laws_szEntryS [v, .int .i64 left] M = some (.int .i64 l, M) ∧ (0 ≤ l → xs.length + szs_Entry xs + l ≤ left) := by
  obtain ⟨a, c, rfl⟩ := h.slen
  have e0 : IntKind.i64.wrap (left - xs.length) = left - xs.length := wrap_i64 (by omega) (by omega)
  by_cases hc : left - (xs.length : Int) < 0
  · refine ⟨-1, ?_, by omega⟩
    rw [aCall_eq T_laws_szEntryS]; unfold A_laws_szEntryS C_laws_szEntryS; simp [e0, hc]
  · rcases l_laws_szEntryS M a c xs h (by omega) f0 xs.length 0 (left - xs.length) (by omega) (by omega) (by omega) with ⟨l, l2, j, hj, h3, h4, hl⟩ | ⟨l, h3, h4, hl⟩
    · simp only [Int.natCast_zero, Int.ofNat_zero] at hl
      obtain ⟨_, p, o, rfl, cs, hrd, hrep⟩ := rep_at h hj
      have hcs := rep_Entry hrep
      subst hcs
      have hw : ty_Entry.w = 2 := rfl
      rw [hw] at hrd
      refine ⟨-1, ?_, by omega⟩
      rw [aCall_eq T_laws_szEntryS]; unfold A_laws_szEntryS C_laws_szEntryS; simp [e0, hc, hl]
      rw [S_laws_szEntryS_0]; unfold B_laws_szEntryS_0; simp [hrd, hj, h3, h4]
    · simp only [Int.natCast_zero, Int.ofNat_zero, List.drop_zero] at hl h4
      refine ⟨l, ?_, by omega⟩
      rw [aCall_eq T_laws_szEntryS]; unfold A_laws_szEntryS C_laws_szEntryS; simp [e0, hc, hl]
      rw [S_laws_szEntryS_0]; unfold B_laws_szEntryS_0; simp
theorem c_laws_szShelf (M : Mem) (v : V) (xs : List ty_Entry.D) (h : Rep (.sl ty_Entry) M [v] xs) (left : Int) (h0 : 0 ≤ left) (h1 : left ≤ 1048576) (hx : xs.length ≤ 9223372036854775807) (f0 : ∀ x ∈ xs, x.1.length ≤ 9223372036854775807) :
    ∃ l : Int, aCall T0 F_laws_szShelf [.agg #[v], .int .i64 left] M = some (.int .i64 l, M) ∧ (0 ≤ l → xs.length + szs_Entry xs + l ≤ left) := by
  obtain ⟨l, e1, e2⟩ := c_laws_szEntryS (M ++ [⟨[v], 1, 2⟩]) v xs (h.mono (List.prefix_append _ _)) left h0 h1 hx f0
  obtain ⟨a, c, rfl⟩ := h.slen
  by_cases hl : l < 0
  · refine ⟨-1, ?_, by omega⟩
    rw [aCall_eq T_laws_szShelf]; unfold A_laws_szShelf C_laws_szShelf; simp [e1, hl]
  · refine ⟨l, ?_, e2⟩
    rw [aCall_eq T_laws_szShelf]; unfold A_laws_szShelf C_laws_szShelf; simp [e1, hl]
theorem gc_ex (M M' : Mem) (v : V) : ∃ X, gc M (some (v, M')) = some (v, X) := by
  simp only [gc]
  split
  · exact ⟨_, rfl⟩
  · exact ⟨_, rfl⟩
def isW (w : List UInt8) (e : ty_Entry.D) : Bool := decide (e.1 = w)
def okByte (b : UInt8) : Bool := decide (97 ≤ (b.toNat : Int)) && decide ((b.toNat : Int) ≤ 122)
def wordB (w : List UInt8) : Bool := w.all okByte && (decide (1 ≤ (w.length : Int)) && decide ((w.length : Int) ≤ 32))
def entB (e : ty_Entry.D) : Bool := wordB e.1 && (decide (0 ≤ (e.2 : Int)) && decide ((e.2 : Int) ≤ 65535))
def noneB (e : ty_Entry.D) : Bool := decide (e.1 = []) && decide (e.2 = 0)
def slotB (xs : List ty_Entry.D) (i : Nat) : Bool := match xs[i]? with
  | some e => noneB e || (entB e && decide (idx (isW e.1) xs = i))
  | none => true
def shelfB (xs : List ty_Entry.D) : Bool := decide (xs.length = 4) && (List.range xs.length).all (slotB xs)
def addC (xs : List ty_Entry.D) (e : ty_Entry.D) : Int := if shelfB xs = true ∧ entB e = true then (if 0 ≤ idx (isW e.1) xs then 2 else if idx (isW []) xs < 0 then 3 else 0) else 1
def addR (xs : List ty_Entry.D) (e : ty_Entry.D) : List ty_Entry.D := if addC xs e = 0 then xs.set (idx (isW []) xs).toNat e else []
theorem addR_len (xs : List ty_Entry.D) (e : ty_Entry.D) : (addR xs e).length ≤ xs.length := by
  unfold addR
  split <;> simp
theorem pre_set {M0 M : Mem} {l : Nat} {b : Blk} (h : M0 <+: M) (hl : M0.length ≤ l) : M0 <+: M.set l b := by
  obtain ⟨r, rfl⟩ := h
  rw [set_app hl]
  exact List.prefix_append _ _
theorem c_impl_within (M : Mem) (x a b : Int) : aCall T0 F_impl_within [.int .i64 x, .int .i64 a, .int .i64 b] M = some (.bool (decide (a ≤ x) && decide (x ≤ b)), M) := by
  rw [aCall_eq T_impl_within]; unfold A_impl_within C_impl_within; simp
  repeat' ((first | rw [selO_some] | rw [condR_bool] | rw [selD_some]); split <;> rename_i hq <;> (have hq2 := hq) <;> (try simp at hq2) <;> (try simp [*]))
theorem all_false {w : List UInt8} {j : Nat} (hj : j < w.length) (h : okByte w[j] = false) : w.all okByte = false := by
  rw [List.all_eq_false]
  exact ⟨w[j], List.getElem_mem hj, by simp [h]⟩
theorem all_true {w : List UInt8} (h : ∀ i (hi : i < w.length), okByte w[i] = true) : w.all okByte = true := by
  rw [List.all_eq_true]
  intro b hb
  obtain ⟨i, hi, rfl⟩ := List.getElem_of_mem hb
  exact h i hi
theorem first_byte (w : List UInt8) : w.all okByte = true ∨ (w.all okByte = false ∧ ∃ j, ∃ hj : j < w.length, (∀ i (hi : i < w.length), i < j → okByte w[i] = true) ∧ okByte w[j] = false) := by
  rcases first_bad (fun i => (w[i]?).any okByte) w.length with h | ⟨j, h1, h2, h3⟩
  · left; exact all_true fun i hi => by have := h i hi; simpa [hi] using this
  · right
    have h3' : okByte w[j] = false := by simpa [h1] using h3
    exact ⟨all_false h1 h3', j, h1, fun i hi hij => by have := h2 i hij; simpa [hi] using this, h3'⟩
theorem okByte_t {b : UInt8} (h : okByte b = true) : ¬ ((b.toNat : Int) < 97) ∧ ¬ (122 < (b.toNat : Int)) := by
  simp only [okByte, Bool.and_eq_true, decide_eq_true_eq] at h; omega
theorem r_impl_isWord (M : Mem) (w : List UInt8) (hw : w.length ≤ 9223372036854775807) (i : Nat) (hi : i < w.length) (hb : okByte w[i] = true) :
    lp (aCall T0) K_impl_isWord_0 L_impl_isWord_0 [strV w, und, und, und, und, .int .i64 w.length, .int .i64 i, und, und, und, und, und, und, und, und, und, und, und, und, und, und, und, und] M = lp (aCall T0) K_impl_isWord_0 L_impl_isWord_0 [strV w, und, und, und, und, .int .i64 w.length, .int .i64 (i + 1 : Nat), und, und, und, und, und, und, und, und, und, und, und, und, und, und, und, und] M := by
  obtain ⟨h1, h2⟩ := okByte_t hb
  rw [S_impl_isWord_0]; unfold B_impl_isWord_0; simp [hi, byteV, h1, h2]
  rw [wrap_i64 (by omega) (by omega)]
theorem okByte_f {b : UInt8} (h : okByte b = false) : (b.toNat : Int) < 97 ∨ (¬ ((b.toNat : Int) < 97) ∧ (122 < (b.toNat : Int))) := by
  simp only [okByte, Bool.and_eq_false_iff, decide_eq_false_iff_not] at h; omega
theorem x_impl_isWord (M : Mem) (w : List UInt8) (hw : w.length ≤ 9223372036854775807) (i : Nat) (hi : i < w.length) (hb : okByte w[i] = false) (k : ACode) :
    thenF M [.tmp 2] (thenS (blockR 0 (lp (aCall T0) K_impl_isWord_0 L_impl_isWord_0 [strV w, und, und, und, und, .int .i64 w.length, .int .i64 i, und, und, und, und, und, und, und, und, und, und, und, und, und, und, und, und] M)) (aCall T0) k) = some (.bool false, M) := by
  rcases okByte_f hb with h1 | ⟨h1, h2⟩
  · rw [S_impl_isWord_0]; unfold B_impl_isWord_0; simp [hi, byteV, h1]
  · rw [S_impl_isWord_0]; unfold B_impl_isWord_0; simp [hi, byteV, h1, h2]
theorem c_impl_isWord (M : Mem) (w : List UInt8) (hw : w.length ≤ 9223372036854775807) : aCall T0 F_impl_isWord [strV w] M = some (.bool (wordB w), M) := by
  unfold wordB
  rcases first_byte w with ha | ⟨ha, j, hj, h1, h2⟩
  · have hl := chain (g := fun i : Nat => lp (aCall T0) K_impl_isWord_0 L_impl_isWord_0 [strV w, und, und, und, und, .int .i64 w.length, .int .i64 i, und, und, und, und, und, und, und, und, und, und, und, und, und, und, und, und] M) (n := w.length) fun i hi => r_impl_isWord M w hw i hi (List.all_eq_true.1 ha _ (List.getElem_mem hi))
    simp only [Int.natCast_zero, Int.ofNat_zero] at hl
    rw [ha]
    rw [aCall_eq T_impl_isWord]; unfold A_impl_isWord C_impl_isWord; simp [hl]
    rw [S_impl_isWord_0]; unfold B_impl_isWord_0; simp [c_impl_within]
  · have hl := chain (g := fun i : Nat => lp (aCall T0) K_impl_isWord_0 L_impl_isWord_0 [strV w, und, und, und, und, .int .i64 w.length, .int .i64 i, und, und, und, und, und, und, und, und, und, und, und, und, und, und, und, und] M) (n := j) fun i hi => r_impl_isWord M w hw i (by omega) (h1 i (by omega) hi)
    simp only [Int.natCast_zero, Int.ofNat_zero] at hl
    rw [ha]
    rw [aCall_eq T_impl_isWord]; unfold A_impl_isWord C_impl_isWord; simp [hl, x_impl_isWord M w hw j hj h2]
theorem c_impl_isEntry (M : Mem) (e : ty_Entry.D) (he : e.1.length ≤ 9223372036854775807) : aCall T0 F_impl_isEntry [.agg (enc_Entry e).toArray] M = some (.bool (entB e), M) := by
  unfold entB
  have h := fun M => c_impl_isWord M e.1 he
  rw [aCall_eq T_impl_isEntry]; unfold A_impl_isEntry C_impl_isEntry; simp [h, c_impl_within]
  repeat' ((first | rw [selO_some] | rw [condR_bool] | rw [selD_some]); split <;> rename_i hq <;> (have hq2 := hq) <;> (try simp at hq2) <;> (try simp [*, h, c_impl_within]))
theorem r_idx_Entry (M : Mem) (a : Option Addr) (c : Nat) (xs : List ty_Entry.D) (h : Rep (.sl ty_Entry) M [.slice a xs.length c] xs) (hn : xs.length ≤ 9223372036854775807) (f : FuncId) (cap : List V) (p : ty_Entry.D → Bool)
    (hp : ∀ i (hi : i < xs.length), aCall T0 f (.agg (enc_Entry xs[i]).toArray :: cap) M = some (.bool (p xs[i]), M)) (i : Nat) (hi : i < xs.length) (hq : p xs[i] = false) :
    lp (aCall T0) K_slices_IndexFunc_impl_Entry_impl_Entry_0 L_slices_IndexFunc_impl_Entry_impl_Entry_0 [.slice a xs.length c, .func (.func f) #[] cap.toArray, und, und, und, und, und, .int .i64 xs.length, .int .i64 i, und, und, und, und, und, und, und, und, und, und] M =
    lp (aCall T0) K_slices_IndexFunc_impl_Entry_impl_Entry_0 L_slices_IndexFunc_impl_Entry_impl_Entry_0 [.slice a xs.length c, .func (.func f) #[] cap.toArray, und, und, und, und, und, .int .i64 xs.length, .int .i64 (i + 1 : Nat), und, und, und, und, und, und, und, und, und, und] M := by
  obtain ⟨l, o, rfl, hrep, hrd, _⟩ := at_Entry h hi
  have ec := hp i hi
  have e6 : IntKind.i64.wrap ((i : Int) + 1) = i + 1 := wrap_i64 (by omega) (by omega)
  rw [S_slices_IndexFunc_impl_Entry_impl_Entry_0]; unfold B_slices_IndexFunc_impl_Entry_impl_Entry_0; simp [hrd, ec, e6, hi, hq]
theorem x_idx_Entry (M : Mem) (a : Option Addr) (c : Nat) (xs : List ty_Entry.D) (h : Rep (.sl ty_Entry) M [.slice a xs.length c] xs) (f : FuncId) (cap : List V) (p : ty_Entry.D → Bool)
    (hp : ∀ i (hi : i < xs.length), aCall T0 f (.agg (enc_Entry xs[i]).toArray :: cap) M = some (.bool (p xs[i]), M)) (i : Nat) (hi : i < xs.length) (hq : p xs[i] = true) (k : ACode) :
    thenF M [.tmp 4] (thenS (blockR 0 (lp (aCall T0) K_slices_IndexFunc_impl_Entry_impl_Entry_0 L_slices_IndexFunc_impl_Entry_impl_Entry_0 [.slice a xs.length c, .func (.func f) #[] cap.toArray, und, und, und, und, und, .int .i64 xs.length, .int .i64 i, und, und, und, und, und, und, und, und, und, und] M)) (aCall T0) k) = some (.int .i64 i, M) := by
  obtain ⟨l, o, rfl, hrep, hrd, _⟩ := at_Entry h hi
  have ec := hp i hi
  rw [S_slices_IndexFunc_impl_Entry_impl_Entry_0]; unfold B_slices_IndexFunc_impl_Entry_impl_Entry_0; simp [hrd, ec, hi, hq]
theorem c_idx_Entry (M : Mem) (v : V) (xs : List ty_Entry.D) (h : Rep (.sl ty_Entry) M [v] xs) (hn : xs.length ≤ 9223372036854775807) (f : FuncId) (cap : List V) (p : ty_Entry.D → Bool)
    (hp : ∀ i (hi : i < xs.length), aCall T0 f (.agg (enc_Entry xs[i]).toArray :: cap) M = some (.bool (p xs[i]), M)) :
    aCall T0 F_slices_IndexFunc_impl_Entry_impl_Entry [v, .func (.func f) #[] cap.toArray] M = some (.int .i64 (idx p xs), M) := by
  obtain ⟨a, c, rfl⟩ := h.slen
  rcases idx_cases p xs with ⟨ha, h1⟩ | ⟨j, hj, ha, h1, h2⟩
  · have hc := chain (g := fun i : Nat => lp (aCall T0) K_slices_IndexFunc_impl_Entry_impl_Entry_0 L_slices_IndexFunc_impl_Entry_impl_Entry_0 [.slice a xs.length c, .func (.func f) #[] cap.toArray, und, und, und, und, und, .int .i64 xs.length, .int .i64 i, und, und, und, und, und, und, und, und, und, und] M) (n := xs.length) fun i hi => r_idx_Entry M a c xs h hn f cap p hp i hi (h1 i hi)
    simp only [Int.natCast_zero, Int.ofNat_zero] at hc
    rw [ha]
    rw [aCall_eq T_slices_IndexFunc_impl_Entry_impl_Entry]; unfold A_slices_IndexFunc_impl_Entry_impl_Entry C_slices_IndexFunc_impl_Entry_impl_Entry; simp [hc]
    rw [S_slices_IndexFunc_impl_Entry_impl_Entry_0]; unfold B_slices_IndexFunc_impl_Entry_impl_Entry_0; simp
  · have hc := chain (g := fun i : Nat => lp (aCall T0) K_slices_IndexFunc_impl_Entry_impl_Entry_0 L_slices_IndexFunc_impl_Entry_impl_Entry_0 [.slice a xs.length c, .func (.func f) #[] cap.toArray, und, und, und, und, und, .int .i64 xs.length, .int .i64 i, und, und, und, und, und, und, und, und, und, und] M) (n := j) fun i hi => r_idx_Entry M a c xs h hn f cap p hp i (by omega) (h1 i (by omega) hi)
    simp only [Int.natCast_zero, Int.ofNat_zero] at hc
    rw [ha]
    rw [aCall_eq T_slices_IndexFunc_impl_Entry_impl_Entry]; unfold A_slices_IndexFunc_impl_Entry_impl_Entry C_slices_IndexFunc_impl_Entry_impl_Entry; simp [hc, x_idx_Entry M a c xs h f cap p hp j hj h2]
theorem c_impl_shelfFind_1 (M : Mem) (e : ty_Entry.D) (p : Nat) (w : List UInt8) (hp : rd1 M p 0 = some (strV w)) : aCall T0 F_impl_shelfFind_1 [.agg (enc_Entry e).toArray, .pointer (some ⟨p, 0, none⟩)] M = some (.bool (isW w e), M) := by
  have h2 : ∀ N, rd1 (M ++ N) p 0 = some (strV w) := fun N => rd1_old hp
  unfold isW
  rw [aCall_eq T_impl_shelfFind_1]; unfold A_impl_shelfFind_1 C_impl_shelfFind_1; simp [h2]
theorem c_impl_shelfFind (M : Mem) (v : V) (xs : List ty_Entry.D) (h : Rep (.sl ty_Entry) M [v] xs) (hn : xs.length ≤ 9223372036854775807) (w : List UInt8) :
    aCall T0 F_impl_shelfFind [.agg #[v], strV w] M = some (.int .i64 (idx (isW w) xs), M) := by
  have h' : Rep (.sl ty_Entry) (M ++ [⟨[v], 1, 2⟩, ⟨[strV w], 1, 2⟩]) [v] xs := h.mono (List.prefix_append _ _)
  have hp : rd1 (M ++ [⟨[v], 1, 2⟩, ⟨[strV w], 1, 2⟩]) (M.length + 1) 0 = some (strV w) := by simp
  have e : aCall T0 F_slices_IndexFunc_impl_Entry_impl_Entry [v, .func (.func F_impl_shelfFind_1) #[] #[.pointer (some ⟨M.length + 1, 0, none⟩)]] _ = _ :=
    c_idx_Entry _ v xs h' hn F_impl_shelfFind_1 [.pointer (some ⟨M.length + 1, 0, none⟩)] (isW w) (fun i hi => c_impl_shelfFind_1 _ xs[i] (M.length + 1) w hp)
  obtain ⟨a, c, rfl⟩ := h.slen
  rw [aCall_eq T_impl_shelfFind]; unfold A_impl_shelfFind C_impl_shelfFind; simp [e]
theorem slots_cases (xs : List ty_Entry.D) : ((List.range xs.length).all (slotB xs) = true ∧ ∀ i, i < xs.length → slotB xs i = true) ∨ ((List.range xs.length).all (slotB xs) = false ∧ ∃ j, j < xs.length ∧ (∀ i, i < j → slotB xs i = true) ∧ slotB xs j = false) := by
  rcases first_bad (slotB xs) xs.length with h | ⟨j, h1, h2, h3⟩
  · left
    exact ⟨by rw [List.all_eq_true]; intro i hi; exact h i (by simpa using hi), h⟩
  · right
    refine ⟨?_, j, h1, h2, h3⟩
    rw [List.all_eq_false]
    exact ⟨j, by simpa using h1, by simp [h3]⟩
theorem r_impl_isShelf (M : Mem) (a : Option Addr) (c : Nat) (xs : List ty_Entry.D) (h : Rep (.sl ty_Entry) M [.slice a xs.length c] xs) (hn : xs.length ≤ 9223372036854775807) (hf : ∀ e ∈ xs, e.1.length ≤ 9223372036854775807) (p : Nat) (hp2 : rdn M p 0 1 = some [.slice a xs.length c]) (i : Nat) (hi : i < xs.length) (hq : slotB xs i = true) :
    lp (aCall T0) K_impl_isShelf_0 L_impl_isShelf_0 [und, .pointer (some ⟨p, 0, none⟩), und, und, und, und, .slice a xs.length c, .int .i64 xs.length, .int .i64 i, und, und, und, und, und, und, und, und, und, und, und, und, und, und, und, und, und, und, und, und, und, und, und] M = lp (aCall T0) K_impl_isShelf_0 L_impl_isShelf_0 [und, .pointer (some ⟨p, 0, none⟩), und, und, und, und, .slice a xs.length c, .int .i64 xs.length, .int .i64 (i + 1 : Nat), und, und, und, und, und, und, und, und, und, und, und, und, und, und, und, und, und, und, und, und, und, und, und] (M ++ [⟨enc_Entry xs[i], 1, 2⟩]) := by
  obtain ⟨l, o, rfl, hrep, hrd, hf0, hf1⟩ := at_Entry h hi
  have e6 : IntKind.i64.wrap ((i : Int) + 1) = i + 1 := wrap_i64 (by omega) (by omega)
  have g2 := fun M => c_impl_isEntry M xs[i] (hf _ (List.getElem_mem hi))
  have hp3 : ∀ N, rdn (M ++ N) p 0 1 = some [.slice (some ⟨l, o, none⟩) xs.length c] := fun N => rdn_old hp2
  have g3 := c_impl_shelfFind (M ++ [⟨enc_Entry xs[i], 1, 2⟩]) _ xs (h.mono (List.prefix_append _ _)) hn xs[i].1
  simp only [slotB, List.getElem?_eq_getElem hi, Bool.or_eq_true, Bool.and_eq_true, decide_eq_true_eq] at hq
  cases hnone : noneB xs[i] with
  | true =>
    simp only [noneB, Bool.and_eq_true, decide_eq_true_eq] at hnone
    obtain ⟨n1, n2⟩ := hnone
    rw [S_impl_isShelf_0]; unfold B_impl_isShelf_0; simp [hrd, e6, hi, n1, n2]
  | false =>
    obtain ⟨q1, q2⟩ := hq.resolve_left (by simp [hnone])
    have hnn : ¬ (xs[i].1 = [] ∧ xs[i].2 = 0) := by
      intro hh
      simp [noneB, hh.1, hh.2] at hnone
    have hnn2 : (decide (xs[i].1 = []) && decide (xs[i].2 = 0)) = false := by
      rw [← hnone]; rfl
    rw [S_impl_isShelf_0]; unfold B_impl_isShelf_0; simp [hrd, e6, hi, hnn2, g2, q1, hp3, g3, q2]
theorem idx_at {α : Type} {p : α → Bool} {xs : List α} {i : Nat} (hi : i < xs.length) (h : p xs[i] = true) : 0 ≤ idx p xs ∧ idx p xs ≤ i := by
  rcases idx_cases p xs with ⟨ha, h1⟩ | ⟨j, hj, ha, h1, h2⟩
  · rw [h1 i hi] at h; cases h
  · rw [ha]
    by_cases hij : i < j
    · rw [h1 i hi hij] at h; cases h
    · omega
theorem x_impl_isShelf (M0 N : Mem) (a : Option Addr) (c : Nat) (xs : List ty_Entry.D) (h : Rep (.sl ty_Entry) (M0 ++ N) [.slice a xs.length c] xs) (hn : xs.length ≤ 9223372036854775807) (hf : ∀ e ∈ xs, e.1.length ≤ 9223372036854775807) (p : Nat) (hp2 : rdn (M0 ++ N) p 0 1 = some [.slice a xs.length c]) (i : Nat) (hi : i < xs.length) (hq : slotB xs i = false) (k : ACode) :
    thenF M0 [.tmp 2] (thenS (blockR 0 (lp (aCall T0) K_impl_isShelf_0 L_impl_isShelf_0 [und, .pointer (some ⟨p, 0, none⟩), und, und, und, und, .slice a xs.length c, .int .i64 xs.length, .int .i64 i, und, und, und, und, und, und, und, und, und, und, und, und, und, und, und, und, und, und, und, und, und, und, und] (M0 ++ N))) (aCall T0) k) = some (.bool false, M0) := by
  obtain ⟨M, hM⟩ : ∃ M, M = M0 ++ N := ⟨_, rfl⟩
  rw [← hM] at h hp2 ⊢
  obtain ⟨l, o, rfl, hrep, hrd, hf0, hf1⟩ := at_Entry h hi
  have g2 := fun M => c_impl_isEntry M xs[i] (hf _ (List.getElem_mem hi))
  have hp3 : ∀ N, rdn (M ++ N) p 0 1 = some [.slice (some ⟨l, o, none⟩) xs.length c] := fun N => rdn_old hp2
  have g3 := c_impl_shelfFind (M ++ [⟨enc_Entry xs[i], 1, 2⟩]) _ xs (h.mono (List.prefix_append _ _)) hn xs[i].1
  simp only [slotB, List.getElem?_eq_getElem hi, Bool.or_eq_false_iff, Bool.and_eq_false_iff, decide_eq_false_iff_not] at hq
  obtain ⟨hnone, hq⟩ := hq
  have hnn2 : (decide (xs[i].1 = []) && decide (xs[i].2 = 0)) = false := by
    rw [← hnone]; rfl
  have fin : gc M0 (some (.bool false, M ++ [⟨enc_Entry xs[i], 1, 2⟩])) = some (.bool false, M0) := by
    rw [hM, List.append_assoc]; simp
  cases hent : entB xs[i] with
  | false => rw [S_impl_isShelf_0]; unfold B_impl_isShelf_0; simp [hrd, hi, hnn2, g2, hent, fin]
  | true =>
    have q2 := hq.resolve_left (by simp [hent])
    have q3 := idx_at (p := isW xs[i].1) hi (by simp [isW])
    have q4 : idx (isW xs[i].1) xs < (i : Int) := by omega
    rw [S_impl_isShelf_0]; unfold B_impl_isShelf_0; simp [hrd, hi, hnn2, g2, hent, hp3, g3, q4, fin]
def entM (M : Mem) (xs : List ty_Entry.D) (i : Nat) : Mem := M ++ (xs.take i).map fun e => ⟨enc_Entry e, 1, 2⟩
theorem entM_succ (M : Mem) (xs : List ty_Entry.D) (i : Nat) (hi : i < xs.length) : entM M xs (i + 1) = entM M xs i ++ [⟨enc_Entry xs[i], 1, 2⟩] := by
  unfold entM
  rw [List.take_succ_eq_append_getElem hi, List.map_append, ← List.append_assoc]
  rfl
theorem c_impl_isShelf (M : Mem) (v : V) (xs : List ty_Entry.D) (h : Rep (.sl ty_Entry) M [v] xs) (hn : xs.length ≤ 9223372036854775807) (hf : ∀ e ∈ xs, e.1.length ≤ 9223372036854775807) :
    aCall T0 F_impl_isShelf [.agg #[v]] M = some (.bool (shelfB xs), M) := by
  obtain ⟨a, c, rfl⟩ := h.slen
  have hR : ∀ i, Rep (.sl ty_Entry) (entM (M ++ [⟨[.slice a xs.length c], 1, 2⟩]) xs i) [.slice a xs.length c] xs := fun i => h.mono ((List.prefix_append _ _).trans (List.prefix_append _ _))
  have hp2 : ∀ i, rdn (entM (M ++ [⟨[.slice a xs.length c], 1, 2⟩]) xs i) M.length 0 1 = some [.slice a xs.length c] := fun i => rdn_old (by simp)
  have hp1 : ∀ i, rd1 (entM (M ++ [⟨[.slice a xs.length c], 1, 2⟩]) xs i) M.length 0 = some (.slice a xs.length c) := fun i => rd1_old (by simp)
  have e0 : entM (M ++ [⟨[.slice a xs.length c], 1, 2⟩]) xs 0 = M ++ [⟨[.slice a xs.length c], 1, 2⟩] := by simp [entM]
  have hE : ∀ i, ∃ N, entM (M ++ [⟨[.slice a xs.length c], 1, 2⟩]) xs i = M ++ N := fun i => ⟨_, by unfold entM; rw [List.append_assoc]⟩
  unfold shelfB
  rcases slots_cases xs with ⟨ha, h1⟩ | ⟨ha, j, hj, h1, h2⟩
  · have hc := chain (g := fun i : Nat => lp (aCall T0) K_impl_isShelf_0 L_impl_isShelf_0 [und, .pointer (some ⟨M.length, 0, none⟩), und, und, und, und, .slice a xs.length c, .int .i64 xs.length, .int .i64 i, und, und, und, und, und, und, und, und, und, und, und, und, und, und, und, und, und, und, und, und, und, und, und] (entM (M ++ [⟨[.slice a xs.length c], 1, 2⟩]) xs i)) (n := xs.length) fun i hi => by
      rw [entM_succ _ xs i hi]
      exact r_impl_isShelf _ a c xs (hR i) hn hf M.length (hp2 i) i hi (h1 i hi)
    simp only [Int.natCast_zero, Int.ofNat_zero, e0] at hc
    obtain ⟨N, hN⟩ := hE xs.length
    have hp1' := hp1 xs.length
    rw [hN] at hc hp1'
    rw [ha, Bool.and_true]
    rw [aCall_eq T_impl_isShelf]; unfold A_impl_isShelf C_impl_isShelf; simp [hc]
    rw [S_impl_isShelf_0]; unfold B_impl_isShelf_0; simp [hp1']
    by_cases h4 : xs.length = 4
    · have : ((xs.length : Int) = 4) = True := eq_true (by omega)
      simp [h4]
    · have : ¬ ((xs.length : Int) = 4) := by omega
      simp [h4, this]
  · have hc := chain (g := fun i : Nat => lp (aCall T0) K_impl_isShelf_0 L_impl_isShelf_0 [und, .pointer (some ⟨M.length, 0, none⟩), und, und, und, und, .slice a xs.length c, .int .i64 xs.length, .int .i64 i, und, und, und, und, und, und, und, und, und, und, und, und, und, und, und, und, und, und, und, und, und, und, und] (entM (M ++ [⟨[.slice a xs.length c], 1, 2⟩]) xs i)) (n := j) fun i hi => by
      rw [entM_succ _ xs i (by omega)]
      exact r_impl_isShelf _ a c xs (hR i) hn hf M.length (hp2 i) i (by omega) (h1 i hi)
    simp only [Int.natCast_zero, Int.ofNat_zero, e0] at hc
    obtain ⟨N, hN⟩ := hE j
    have hR' := hR j
    have hp2' := hp2 j
    rw [hN] at hc hR' hp2'
    rw [ha, Bool.and_false]
    rw [aCall_eq T_impl_isShelf]; unfold A_impl_isShelf C_impl_isShelf; simp [hc, x_impl_isShelf M N a c xs hR' hn hf M.length hp2' j hj h2]
theorem rep_cells {t : Ty} {M : Mem} {enc : t.D → List V} (henc : ∀ (cs : List V) (x : t.D), Rep t M cs x → cs = enc x) {a : Option Addr} {n c : Nat} {xs : List t.D} (h : Rep (.sl t) M [.slice a n c] xs) {k c2 : Nat} (hk : k ≤ xs.length) :
    sliceCells M t.w (.slice a k c2) = some (k, ((xs.take k).map enc).flatten) := by
  rcases h with ⟨h, rfl⟩ | ⟨l', o', c', blk, css, e, h2, h3, h4, h5, h6, h7⟩
  · simp at h hk
    obtain ⟨rfl, rfl, rfl⟩ := h
    subst hk
    simp [sliceCells]
  · simp only [List.cons.injEq, Value.slice.injEq, and_true] at e
    obtain ⟨rfl, rfl, rfl⟩ := e
    by_cases hk0 : k = 0
    · subst hk0
      simp [sliceCells]
    have hw := Rep.css_w h5 h6
    have hcs : css = xs.map enc := by
      apply List.ext_getElem (by simp [h5])
      intro i h1 h2
      rw [List.getElem_map]
      exact henc _ _ (h6 i _ _ (by simp [h1]) (by simp))
    have hlen := flat_len hw
    have hpos := t.w_pos
    have h3' : blk.st = 1 ∨ blk.st = 2 := by
      rcases h3 with h3 | h3 | h3
      · exact .inl h3
      · exact .inr h3
      · subst h3; simp at hk; omega
    obtain ⟨r, hr⟩ := h7
    have hdl : css.flatten.length + r.length = blk.cells.length - o' := by rw [← List.length_drop, ← hr, List.length_append]
    have hle : k * t.w ≤ css.length * t.w := Nat.mul_le_mul_right _ (by omega)
    have hpos2 : 0 < k * t.w := Nat.mul_pos (by omega) hpos
    unfold sliceCells
    simp only
    rw [if_neg (by omega)]
    unfold rdn
    rw [h2]
    simp only
    rw [if_pos ⟨h3', by omega⟩]
    simp only [Option.map_some]
    congr 2
    rw [← hr, List.take_append_of_le_length (by omega)]
    have e2 : css = (xs.take k).map enc ++ (xs.drop k).map enc := by rw [hcs, ← List.map_append, List.take_append_drop]
    have e3 : (((xs.take k).map enc).flatten).length = k * t.w := by
      rw [flat_len (w := t.w) (fun cs hc => hw cs (by rw [e2]; exact List.mem_append_left _ hc))]
      simp [Nat.min_eq_left hk]
    rw [e2, List.flatten_append, ← e3, List.take_left']
    rfl
theorem flat_set {α : Type} {enc : α → List V} {w : Nat} (hw : ∀ x, (enc x).length = w) : ∀ (xs : List α) (i : Nat), i < xs.length → ∀ e : α, splice ((xs.map enc).flatten) (i * w) (enc e) = ((xs.set i e).map enc).flatten
  | [], i, h, _ => by simp at h
  | x :: xs, 0, _, e => by
    unfold splice
    simp only [List.map_cons, List.flatten_cons, Nat.zero_mul, List.take_zero, List.nil_append, Nat.zero_add, List.set_cons_zero]
    rw [hw e, ← hw x, List.drop_left]
  | x :: xs, i + 1, h, e => by
    have ih := flat_set hw xs i (by simpa using h) e
    unfold splice at ih ⊢
    simp only [List.map_cons, List.flatten_cons, List.set_cons_succ]
    rw [← ih, Nat.add_mul, Nat.one_mul, Nat.add_comm (i * w) w, ← hw x, Nat.add_assoc, List.take_append, List.drop_append]
    simp [List.take_of_length_le, List.drop_eq_nil_of_le]
theorem app_new {M : Mem} {w bytes m : Nat} {ys : List V} (hm : 0 < m) (h1 : ys.all one = true) (hs : m * bytes ≤ 140737488355328) (hs2 : m ≤ 9223372036854775807) :
    appS (M ++ [⟨[], w, 2⟩]) w bytes (.slice (some ⟨M.length, 0, none⟩) 0 0) m ys = some (.slice (some ⟨M.length + 1, 0, none⟩) m m, M ++ [⟨[], w, 0⟩, ⟨ys, w, 2⟩]) := by
  have h := app_full (M := M ++ [⟨[], w, 2⟩]) (w := w) (bytes := bytes) (l := M.length) (n := 0) (cs := []) (ys := ys) (m := m) (by simp) (by simp) hm h1 (by simpa using hs) (by simpa using hs2)
  simpa using h
theorem one_Entry (x : ty_Entry.D) : (enc_Entry x).all one = true := rfl
theorem all_Entry (xs : List ty_Entry.D) : (xs.map enc_Entry).flatten.all one = true := by
  rw [List.all_eq_true]
  intro y hy
  obtain ⟨l, hl, hy⟩ := List.mem_flatten.1 hy
  obtain ⟨x, _, rfl⟩ := List.mem_map.1 hl
  exact List.all_eq_true.1 (one_Entry x) y hy
theorem c_clone_Entry (M : Mem) (a : Option Addr) (c : Nat) (xs : List ty_Entry.D) (h : Rep (.sl ty_Entry) M [.slice a xs.length c] xs) (hp : 0 < xs.length) (hn : xs.length ≤ 1048576) :
    aCall T0 F_slices_Clone_impl_Entry_impl_Entry [.slice a xs.length c] M = some (.slice (some ⟨M.length + 1, 0, none⟩) xs.length xs.length, M ++ [⟨[], 2, 0⟩, ⟨(xs.map enc_Entry).flatten, 2, 2⟩]) := by
  have hc := rep_cells (enc := enc_Entry) (fun cs x hx => rep_Entry hx) (h.mono (List.prefix_append M [⟨[], 2, 2⟩])) (k := xs.length) (c2 := c) (Nat.le_refl _)
  have hw : ty_Entry.w = 2 := rfl
  rw [hw, List.take_length] at hc
  have ha := app_new (M := M) (w := 2) (bytes := 24) (m := xs.length) hp (all_Entry xs) (by omega) (by omega)
  cases a with
  | none =>
    rcases h.slice with ⟨_, rfl⟩ | ⟨_, _, _, e⟩
    · simp at hp
    · simp at e
  | some a =>
    generalize (xs.map enc_Entry).flatten = C at hc ha ⊢
    rw [aCall_eq T_slices_Clone_impl_Entry_impl_Entry]; unfold A_slices_Clone_impl_Entry_impl_Entry C_slices_Clone_impl_Entry_impl_Entry; simp [hc, ha, zeroCells]
theorem d_impl_shelfWith (M : Mem) (v : V) (xs : List ty_Entry.D) (h : Rep (.sl ty_Entry) M [v] xs) (hn : xs.length ≤ 1048576) (i : Nat) (hi : i < xs.length) (e : ty_Entry.D) (he : (Lit.int .i64 e.2).wf = true) :
    ∃ M' u L, M <+: M' ∧ aCall T0 F_impl_shelfWith [.agg #[v], .int .i64 i, .agg (enc_Entry e).toArray] M = some (.agg #[u], M') ∧ Own (.sl ty_Entry) M' [u] (xs.set i e) L ∧ ∀ l ∈ L, M.length ≤ l ∧ l < M'.length := by
  obtain ⟨a, c, rfl⟩ := h.slen
  have hc := fun N => rep_cells (enc := enc_Entry) (fun cs x hx => rep_Entry hx) (h.mono (List.prefix_append M N)) (k := xs.length) (c2 := c) (Nat.le_refl _)
  have hw : ty_Entry.w = 2 := rfl
  rw [hw, List.take_length] at hc
  have hlen := flat_enc_len (enc := enc_Entry) (w := 2) (xs := xs) (fun x _ => rfl)
  have hs := flat_set (enc := enc_Entry) (w := 2) (fun x => rfl) xs i hi e
  have hall := all_Entry xs
  have hnil : a ≠ none := by
    rintro rfl
    rcases h.slice with ⟨_, rfl⟩ | ⟨_, _, _, e⟩
    · simp at hi
    · simp at e
  obtain ⟨C, hC⟩ : ∃ C, C = (xs.map enc_Entry).flatten := ⟨_, rfl⟩
  rw [← hC] at hc hlen hs hall
  obtain ⟨D, hD⟩ : ∃ D, D = ((xs.set i e).map enc_Entry).flatten := ⟨_, rfl⟩
  rw [← hD] at hs
  have hb1 : (xs.length : Int) * 24 ≤ 140737488355328 := by omega
  have hpos : 0 < xs.length := by omega
  have ha := fun (M : Mem) => app_new (M := M) (w := 2) (bytes := 24) (m := xs.length) (ys := C) hpos hall (by omega) (by omega)
  refine ⟨M ++ [⟨[.slice a xs.length c], 1, 2⟩, ⟨enc_Entry e, 1, 2⟩, ⟨[.slice (some ⟨M.length + 4, 0, none⟩) xs.length xs.length], 1, 2⟩, ⟨[], 2, 0⟩, ⟨D, 2, 2⟩, ⟨[.slice (some ⟨M.length + 4, 0, none⟩) xs.length xs.length], 1, 2⟩], .slice (some ⟨M.length + 4, 0, none⟩) xs.length xs.length, [M.length + 4], List.prefix_append _ _, ?_, ?_, by simp⟩
  · have e3 : i * 2 + 2 ≤ xs.length * 2 := by omega
    unfold splice at hs
    simp at hs
    have hcl := c_clone_Entry (M ++ [⟨[.slice a xs.length c], 1, 2⟩, ⟨enc_Entry e, 1, 2⟩, ⟨[.slice none 0 0], 1, 2⟩]) a c xs (h.mono (List.prefix_append _ _)) hpos hn
    rw [← hC] at hcl
    simp [Nat.add_assoc] at hcl
    rw [aCall_eq T_impl_shelfWith]; unfold A_impl_shelfWith C_impl_shelfWith; simp [hcl, hlen, hs, e3, hi]
  · refine .inr ⟨M.length + 4, 0, xs.length, ⟨D, 2, 2⟩, (xs.set i e).map enc_Entry, (xs.set i e).map (fun _ => []), ?_, by simp, by simp, rfl, rfl, by simp, by simp, own_encs ?_, by simp [hD], by rw [nils_flat]⟩
    · intro q; have := congrArg List.length q; rw [List.length_set, List.length_nil] at this; omega
    · intro y hy
      apply own_Entry
      rcases List.mem_or_eq_of_mem_set hy with hy | rfl
      · obtain ⟨j, hj, rfl⟩ := List.getElem_of_mem hy
        obtain ⟨_, _, rfl, hr, _⟩ := at_Entry h hj
        obtain ⟨_, _, _, _, w⟩ := hr
        exact w.2
      · exact he
theorem box_set {M : Mem} {l : Nat} {cs ds : List V} (hb : M[l]? = some ⟨cs, 1, 2⟩) (hl : ds.length = cs.length) (h1 : ds.all one = true) : wrn M l 0 ds = some (M.set l ⟨ds, 1, 2⟩) := by
  unfold wrn
  rw [hb]
  simp only
  rw [if_pos ⟨trivial, by omega, h1⟩]
  congr 2
  unfold splice
  simp [hl]
theorem box_get {M : Mem} {l n : Nat} {cs ds : List V} (hb : M[l]? = some ⟨cs, 1, 2⟩) (hn : n = ds.length) : rdn (M.set l ⟨ds, 1, 2⟩) l 0 n = some ds := by
  have hlt := (List.getElem?_eq_some_iff.1 hb).1
  exact rdn_box (by simp [hlt]) hn
theorem entB_wf {e : ty_Entry.D} (h : entB e = true) : (Lit.int .i64 e.2).wf = true := by
  simp only [entB, Bool.and_eq_true, decide_eq_true_eq] at h
  exact wf_range ⟨Int.le_trans (by decide) h.2.1, Int.le_trans h.2.2 (by decide)⟩
def isE (v x : ty_Entry.D) : Bool := decide (v.1 = x.1) && decide (v.2 = x.2)
theorem idx_congr {α : Type} {p q : α → Bool} {xs : List α} (h : ∀ i (hi : i < xs.length), p xs[i] = q xs[i]) : idx p xs = idx q xs := by
  rcases idx_cases p xs with ⟨ha, h1⟩ | ⟨j, hj, ha, h1, h2⟩
  · rw [ha, idx_none (fun i hi => by rw [← h i hi]; exact h1 i hi)]
  · rw [ha, idx_some hj (fun i hi hij => by rw [← h i hi]; exact h1 i hi hij) (by rw [← h j hj]; exact h2)]
theorem entB_word {e : ty_Entry.D} (h : entB e = true) : wordB e.1 = true := by
  simp only [entB, Bool.and_eq_true] at h
  exact h.1
theorem shelf_slot {xs : List ty_Entry.D} (h : shelfB xs = true) {i : Nat} (hi : i < xs.length) : slotB xs i = true := by
  simp only [shelfB, Bool.and_eq_true] at h
  exact List.all_eq_true.1 h.2 i (by simpa using hi)
theorem shelf_none {xs : List ty_Entry.D} (h : shelfB xs = true) {i : Nat} (hi : i < xs.length) : noneB xs[i] = true ∨ (entB xs[i] = true ∧ xs[i].1 ≠ []) := by
  have hs := shelf_slot h hi
  simp only [slotB, List.getElem?_eq_getElem hi, Bool.or_eq_true, Bool.and_eq_true] at hs
  rcases hs with h1 | ⟨h1, _⟩
  · exact .inl h1
  · refine .inr ⟨h1, fun he => ?_⟩
    have := entB_word h1
    rw [he] at this
    exact absurd this (by decide)
theorem idx_empty {xs : List ty_Entry.D} (h : shelfB xs = true) : idx (isW []) xs = idx (isE ([], 0)) xs := by
  apply idx_congr
  intro i hi
  unfold isW isE
  rcases shelf_none h hi with h1 | ⟨_, h1⟩
  · simp only [noneB, Bool.and_eq_true, decide_eq_true_eq] at h1
    simp [h1.1, h1.2]
  · have h2 : ¬ [] = xs[i].1 := fun e => h1 e.symm
    simp [h1, h2]
theorem c_index_Entry (M : Mem) (v : V) (xs : List ty_Entry.D) (h : Rep (.sl ty_Entry) M [v] xs) (hn : xs.length ≤ 9223372036854775807) (e : ty_Entry.D) :
    aCall T0 F_slices_Index_impl_Entry_impl_Entry [v, .agg (enc_Entry e).toArray] M = some (.int .i64 (idx (isE e) xs), M) := by
  have h' : Rep (.sl ty_Entry) (M ++ [⟨enc_Entry e, 1, 2⟩]) [v] xs := h.mono (List.prefix_append _ _)
  obtain ⟨a, c, rfl⟩ := h.slen
  have hr : ∀ i, (hi : i < xs.length) → isE e xs[i] = false → lp (aCall T0) K_slices_Index_impl_Entry_impl_Entry_0 L_slices_Index_impl_Entry_impl_Entry_0 [.slice a xs.length c, und, und, .pointer (some ⟨M.length, 0, none⟩), und, und, und, .int .i64 xs.length, .int .i64 i, und, und, und, und, und, und, und, und, und, und] (M ++ [⟨enc_Entry e, 1, 2⟩]) =
      lp (aCall T0) K_slices_Index_impl_Entry_impl_Entry_0 L_slices_Index_impl_Entry_impl_Entry_0 [.slice a xs.length c, und, und, .pointer (some ⟨M.length, 0, none⟩), und, und, und, .int .i64 xs.length, .int .i64 (i + 1 : Nat), und, und, und, und, und, und, und, und, und, und] (M ++ [⟨enc_Entry e, 1, 2⟩]) := by
    intro i hi hq
    obtain ⟨l, o, rfl, hrep, hrd, _⟩ := at_Entry h' hi
    have e6 : IntKind.i64.wrap ((i : Int) + 1) = i + 1 := wrap_i64 (by omega) (by omega)
    have hq' : (decide (e.1 = xs[i].1) && decide (e.2 = xs[i].2)) = false := hq
    rw [S_slices_Index_impl_Entry_impl_Entry_0]; unfold B_slices_Index_impl_Entry_impl_Entry_0; simp [hrd, e6, hi, hq']
  rcases idx_cases (isE e) xs with ⟨ha, h1⟩ | ⟨j, hj, ha, h1, h2⟩
  · have hc := chain (n := xs.length) fun i hi => hr i hi (h1 i hi)
    simp only [Int.natCast_zero, Int.ofNat_zero] at hc
    rw [ha]
    rw [aCall_eq T_slices_Index_impl_Entry_impl_Entry]; unfold A_slices_Index_impl_Entry_impl_Entry C_slices_Index_impl_Entry_impl_Entry; simp [hc]
    rw [S_slices_Index_impl_Entry_impl_Entry_0]; unfold B_slices_Index_impl_Entry_impl_Entry_0; simp
  · have hc := chain (n := j) fun i hi => hr i (by omega) (h1 i (by omega) hi)
    simp only [Int.natCast_zero, Int.ofNat_zero] at hc
    rw [ha]
    rw [aCall_eq T_slices_Index_impl_Entry_impl_Entry]; unfold A_slices_Index_impl_Entry_impl_Entry C_slices_Index_impl_Entry_impl_Entry; simp [hc]
    obtain ⟨l, o, rfl, hrep, hrd, _⟩ := at_Entry h' hj
    have hq' : (decide (e.1 = xs[j].1) && decide (e.2 = xs[j].2)) = true := h2
    rw [S_slices_Index_impl_Entry_impl_Entry_0]; unfold B_slices_Index_impl_Entry_impl_Entry_0; simp [hrd, hj, hq']
theorem add_cases (xs : List ty_Entry.D) (e : ty_Entry.D) : (addC xs e = 1 ∧ (shelfB xs = false ∨ (shelfB xs = true ∧ entB e = false))) ∨ (addC xs e = 2 ∧ shelfB xs = true ∧ entB e = true ∧ 0 ≤ idx (isW e.1) xs) ∨
    (addC xs e = 3 ∧ shelfB xs = true ∧ entB e = true ∧ idx (isW e.1) xs < 0 ∧ idx (isW []) xs < 0) ∨ (addC xs e = 0 ∧ shelfB xs = true ∧ entB e = true ∧ idx (isW e.1) xs < 0 ∧ ∃ j, ∃ _ : j < xs.length, idx (isW []) xs = j) := by
  unfold addC
  cases h1 : shelfB xs with
  | false => left; simp
  | true =>
    cases h2 : entB e with
    | false => left; simp
    | true =>
      right
      by_cases h3 : 0 ≤ idx (isW e.1) xs
      · left; simp [h3]
      · right
        have h3' : idx (isW e.1) xs < 0 := by omega
        rcases idx_cases (isW []) xs with ⟨ha, _⟩ | ⟨j, hj, ha, _⟩
        · left; rw [ha]; simp [h3, h3']
        · right
          refine ⟨?_, rfl, rfl, h3', j, hj, ha⟩
          have : ¬ ((j : Int) < 0) := by omega
          rw [ha]; simp [h3, this]
theorem d_impl_ShelfAdd (M : Mem) (v : V) (xs : List ty_Entry.D) (h : Rep (.sl ty_Entry) M [v] xs) (hn : xs.length ≤ 1048576) (hf : ∀ e ∈ xs, e.1.length ≤ 9223372036854775807) (e : ty_Entry.D) (he : e.1.length ≤ 9223372036854775807) :
    ∃ M' u L, M <+: M' ∧ aCall T0 F_impl_ShelfAdd [.agg #[v], .agg (enc_Entry e).toArray] M = some (.tuple #[.agg #[u], .int .i64 (addC xs e)], M') ∧ Own (.sl ty_Entry) M' [u] (addR xs e) L ∧ ∀ l ∈ L, M.length ≤ l ∧ l < M'.length := by
  have h' : Rep (.sl ty_Entry) (M ++ [⟨[v], 1, 2⟩, ⟨enc_Entry e, 1, 2⟩, ⟨[.slice none 0 0], 1, 2⟩]) [v] xs := h.mono (List.prefix_append _ _)
  have g1 := c_impl_isShelf _ v xs h' (by omega) hf
  have g2 := fun M => c_impl_isEntry M e he
  have g3 := c_impl_shelfFind _ v xs h' (by omega) e.1
  have g4 := c_index_Entry _ v xs h' (by omega) ([], 0)
  unfold addR
  rcases add_cases xs e with ⟨ha, hb⟩ | ⟨ha, h1, h2, h3⟩ | ⟨ha, h1, h2, h3, h4⟩ | ⟨ha, h1, h2, h3, j, hj, e2⟩
  · refine ⟨M ++ [⟨[v], 1, 2⟩, ⟨enc_Entry e, 1, 2⟩, ⟨[.slice none 0 0], 1, 2⟩], .slice none 0 0, [], List.prefix_append _ _, ?_, by rw [ha]; exact .inl ⟨rfl, rfl, .inl ⟨rfl, rfl⟩⟩, by simp⟩
    obtain ⟨a, c, rfl⟩ := h.slen
    rcases hb with q | ⟨q, q2⟩
    · rw [aCall_eq T_impl_ShelfAdd]; unfold A_impl_ShelfAdd C_impl_ShelfAdd; simp [g1, g2, ha, q, prim]
    · rw [aCall_eq T_impl_ShelfAdd]; unfold A_impl_ShelfAdd C_impl_ShelfAdd; simp [g1, g2, ha, q, q2, prim]
  · refine ⟨M ++ [⟨[v], 1, 2⟩, ⟨enc_Entry e, 1, 2⟩, ⟨[.slice none 0 0], 1, 2⟩], .slice none 0 0, [], List.prefix_append _ _, ?_, by rw [ha]; exact .inl ⟨rfl, rfl, .inl ⟨rfl, rfl⟩⟩, by simp⟩
    obtain ⟨a, c, rfl⟩ := h.slen
    rw [aCall_eq T_impl_ShelfAdd]; unfold A_impl_ShelfAdd C_impl_ShelfAdd; simp [g1, g2, g3, ha, h1, h2, h3, prim]
  · refine ⟨M ++ [⟨[v], 1, 2⟩, ⟨enc_Entry e, 1, 2⟩, ⟨[.slice none 0 0], 1, 2⟩], .slice none 0 0, [], List.prefix_append _ _, ?_, by rw [ha]; exact .inl ⟨rfl, rfl, .inl ⟨rfl, rfl⟩⟩, by simp⟩
    have h3' : ¬ 0 ≤ idx (isW e.1) xs := by omega
    rw [← idx_empty h1] at g4
    obtain ⟨a, c, rfl⟩ := h.slen
    rw [aCall_eq T_impl_ShelfAdd]; unfold A_impl_ShelfAdd C_impl_ShelfAdd; simp [g1, g2, g3, g4, ha, h1, h2, h3', h4, prim]
  · obtain ⟨M1, u, L, p1, s1, o1, f1⟩ := d_impl_shelfWith (M ++ [⟨[v], 1, 2⟩, ⟨enc_Entry e, 1, 2⟩, ⟨[.slice none 0 0], 1, 2⟩]) v xs h' hn j hj e (entB_wf h2)
    have hb1' : M1[M.length + 2]? = some ⟨[.slice none 0 0], 1, 2⟩ := get_pre p1 (by simp)
    rw [← idx_empty h1] at g4
    obtain ⟨a, c, rfl⟩ := h.slen
    obtain ⟨a2, c2, rfl⟩ := o1.rep.slen
    have w1 := box_set hb1' (ds := [.slice a2 (xs.set j e).length c2]) rfl rfl
    have r1 := box_get hb1' (ds := [.slice a2 (xs.set j e).length c2]) (n := 1) rfl
    have o2 := Own.upd (upd_set hb1' (b2 := ⟨[.slice a2 (xs.set j e).length c2], 1, 2⟩) rfl) o1 (fun l hl hk => by have := f1 l hl; simp at this hk; omega)
    have e5 : (idx (isW []) xs).toNat = j := by omega
    have e6 : ¬ ((j : Int) < 0) := by omega
    have h3' : ¬ 0 ≤ idx (isW e.1) xs := by omega
    simp at s1 w1 r1
    simp only [ha, if_true, e5]
    refine ⟨_, .slice a2 (xs.set j e).length c2, L, pre_set ((List.prefix_append _ _).trans p1) (by omega), ?_, o2, fun l hl => by have := f1 l hl; simp at this ⊢; omega⟩
    rw [aCall_eq T_impl_ShelfAdd]; unfold A_impl_ShelfAdd C_impl_ShelfAdd; simp [g1, g2, g3, g4, h1, h2, h3', e2, e6, s1, w1, r1, prim]
theorem r_spec_WordOk (M : Mem) (w : List UInt8) (hw : w.length ≤ 9223372036854775807) (i : Nat) (hi : i < w.length) (hb : okByte w[i] = true) :
    lp (aCall T0) K_spec_WordOk_0 L_spec_WordOk_0 [strV w, und, und, .int .i64 i, und, und, und, und, und, und, und, und, und, und, und, und, und, und, und, und, und, und, und, und, und, und, und, und] M = lp (aCall T0) K_spec_WordOk_0 L_spec_WordOk_0 [strV w, und, und, .int .i64 (i + 1 : Nat), und, und, und, und, und, und, und, und, und, und, und, und, und, und, und, und, und, und, und, und, und, und, und, und] M := by
  obtain ⟨h1, h2⟩ := okByte_t hb
  rw [S_spec_WordOk_0]; unfold B_spec_WordOk_0; simp [hi, byteV, h1, h2]
  rw [wrap_i64 (by omega) (by omega)]
theorem x_spec_WordOk (M : Mem) (w : List UInt8) (hw : w.length ≤ 9223372036854775807) (i : Nat) (hi : i < w.length) (hb : okByte w[i] = false) (k : ACode) :
    thenF M [.tmp 2] (thenS (blockR 0 (lp (aCall T0) K_spec_WordOk_0 L_spec_WordOk_0 [strV w, und, und, .int .i64 i, und, und, und, und, und, und, und, und, und, und, und, und, und, und, und, und, und, und, und, und, und, und, und, und] M)) (aCall T0) k) = some (.bool false, M) := by
  rcases okByte_f hb with h1 | ⟨h1, h2⟩
  · rw [S_spec_WordOk_0]; unfold B_spec_WordOk_0; simp [hi, byteV, h1]
  · rw [S_spec_WordOk_0]; unfold B_spec_WordOk_0; simp [hi, byteV, h1, h2]
theorem c_spec_WordOk (M : Mem) (w : List UInt8) (hw : w.length ≤ 9223372036854775807) : aCall T0 F_spec_WordOk [strV w] M = some (.bool (wordB w), M) := by
  unfold wordB
  by_cases hl1 : (w.length : Int) < 1
  · have : w = [] := List.length_eq_zero_iff.1 (by omega)
    subst this
    rw [aCall_eq T_spec_WordOk]; unfold A_spec_WordOk C_spec_WordOk; simp
  by_cases hl2 : 32 < (w.length : Int)
  · rw [aCall_eq T_spec_WordOk]; unfold A_spec_WordOk C_spec_WordOk; simp [hl1, hl2]
  have e : (decide (1 ≤ (w.length : Int)) && decide ((w.length : Int) ≤ 32)) = true := by simp; omega
  rw [e, Bool.and_true]
  rcases first_byte w with ha | ⟨ha, j, hj, h1, h2⟩
  · have hl := chain (g := fun i : Nat => lp (aCall T0) K_spec_WordOk_0 L_spec_WordOk_0 [strV w, und, und, .int .i64 i, und, und, und, und, und, und, und, und, und, und, und, und, und, und, und, und, und, und, und, und, und, und, und, und] M) (n := w.length) fun i hi => r_spec_WordOk M w hw i hi (List.all_eq_true.1 ha _ (List.getElem_mem hi))
    simp only [Int.natCast_zero, Int.ofNat_zero] at hl
    rw [ha]
    rw [aCall_eq T_spec_WordOk]; unfold A_spec_WordOk C_spec_WordOk; simp [hl, hl1, hl2]
    rw [S_spec_WordOk_0]; unfold B_spec_WordOk_0; simp
  · have hl := chain (g := fun i : Nat => lp (aCall T0) K_spec_WordOk_0 L_spec_WordOk_0 [strV w, und, und, .int .i64 i, und, und, und, und, und, und, und, und, und, und, und, und, und, und, und, und, und, und, und, und, und, und, und, und] M) (n := j) fun i hi => r_spec_WordOk M w hw i (by omega) (h1 i (by omega) hi)
    simp only [Int.natCast_zero, Int.ofNat_zero] at hl
    rw [ha]
    rw [aCall_eq T_spec_WordOk]; unfold A_spec_WordOk C_spec_WordOk; simp [hl, hl1, hl2, x_spec_WordOk M w hw j hj h2]
theorem c_spec_l17Full (M : Mem) (e : ty_Entry.D) (he : e.1.length ≤ 9223372036854775807) : aCall T0 F_spec_l17Full [.agg (enc_Entry e).toArray] M = some (.bool (entB e), M) := by
  unfold entB
  have h := fun M => c_spec_WordOk M e.1 he
  rw [aCall_eq T_spec_l17Full]; unfold A_spec_l17Full C_spec_l17Full; simp [h]
  repeat' ((first | rw [selO_some] | rw [condR_bool] | rw [selD_some]); split <;> rename_i hq <;> (have hq2 := hq) <;> (try simp at hq2) <;> (try simp [*, h]))
theorem r_spec_l17At (M : Mem) (a : Option Addr) (c : Nat) (xs : List ty_Entry.D) (h : Rep (.sl ty_Entry) M [.slice a xs.length c] xs) (hn : xs.length ≤ 9223372036854775807) (w : List UInt8) (p : Nat) (hp : rd1 M p 0 = some (.slice a xs.length c)) (i : Nat) (hi : i < xs.length) (hq : isW w xs[i] = false) :
    lp (aCall T0) K_spec_l17At_0 L_spec_l17At_0 [und, strV w, .pointer (some ⟨p, 0, none⟩), und, und, .int .i64 i, und, und, und, und, und, und, und, und, und, und, und, und, und, und, und, und] M = lp (aCall T0) K_spec_l17At_0 L_spec_l17At_0 [und, strV w, .pointer (some ⟨p, 0, none⟩), und, und, .int .i64 (i + 1 : Nat), und, und, und, und, und, und, und, und, und, und, und, und, und, und, und, und] M := by
  obtain ⟨l, o, rfl, hrep, hrd, hf0, hf1⟩ := at_Entry h hi
  have e6 : IntKind.i64.wrap ((i : Int) + 1) = i + 1 := wrap_i64 (by omega) (by omega)
  have hq' : ¬ xs[i].1 = w := by simpa [isW] using hq
  rw [S_spec_l17At_0]; unfold B_spec_l17At_0; simp [hp, hf0, e6, hi, hq']
theorem x_spec_l17At (M0 N : Mem) (a : Option Addr) (c : Nat) (xs : List ty_Entry.D) (h : Rep (.sl ty_Entry) (M0 ++ N) [.slice a xs.length c] xs) (w : List UInt8) (p : Nat) (hp : rd1 (M0 ++ N) p 0 = some (.slice a xs.length c)) (i : Nat) (hi : i < xs.length) (hq : isW w xs[i] = true) (k : ACode) :
    thenF M0 [.tmp 4] (thenS (blockR 0 (lp (aCall T0) K_spec_l17At_0 L_spec_l17At_0 [und, strV w, .pointer (some ⟨p, 0, none⟩), und, und, .int .i64 i, und, und, und, und, und, und, und, und, und, und, und, und, und, und, und, und] (M0 ++ N))) (aCall T0) k) = some (.int .i64 i, M0) := by
  obtain ⟨l, o, rfl, hrep, hrd, hf0, hf1⟩ := at_Entry h hi
  have hq' : xs[i].1 = w := by simpa [isW] using hq
  rw [S_spec_l17At_0]; unfold B_spec_l17At_0; simp [hp, hf0, hi, hq']
theorem c_spec_l17At (M : Mem) (v : V) (xs : List ty_Entry.D) (h : Rep (.sl ty_Entry) M [v] xs) (hn : xs.length ≤ 9223372036854775807) (w : List UInt8) :
    aCall T0 F_spec_l17At [.agg #[v], strV w] M = some (.int .i64 (idx (isW w) xs), M) := by
  have h' : Rep (.sl ty_Entry) (M ++ [⟨[v], 1, 2⟩]) [v] xs := h.mono (List.prefix_append _ _)
  obtain ⟨a, c, rfl⟩ := h.slen
  have hp : rd1 (M ++ [⟨[.slice a xs.length c], 1, 2⟩]) M.length 0 = some (.slice a xs.length c) := by simp
  rcases idx_cases (isW w) xs with ⟨ha, h1⟩ | ⟨j, hj, ha, h1, h2⟩
  · have hc := chain (g := fun i : Nat => lp (aCall T0) K_spec_l17At_0 L_spec_l17At_0 [und, strV w, .pointer (some ⟨M.length, 0, none⟩), und, und, .int .i64 i, und, und, und, und, und, und, und, und, und, und, und, und, und, und, und, und] (M ++ [⟨[.slice a xs.length c], 1, 2⟩])) (n := xs.length) fun i hi => r_spec_l17At _ a c xs h' hn w M.length hp i hi (h1 i hi)
    simp only [Int.natCast_zero, Int.ofNat_zero] at hc
    rw [ha]
    rw [aCall_eq T_spec_l17At]; unfold A_spec_l17At C_spec_l17At; simp [hc]
    rw [S_spec_l17At_0]; unfold B_spec_l17At_0; simp
  · have hc := chain (g := fun i : Nat => lp (aCall T0) K_spec_l17At_0 L_spec_l17At_0 [und, strV w, .pointer (some ⟨M.length, 0, none⟩), und, und, .int .i64 i, und, und, und, und, und, und, und, und, und, und, und, und, und, und, und, und] (M ++ [⟨[.slice a xs.length c], 1, 2⟩])) (n := j) fun i hi => r_spec_l17At _ a c xs h' hn w M.length hp i (by omega) (h1 i (by omega) hi)
    simp only [Int.natCast_zero, Int.ofNat_zero] at hc
    rw [ha]
    rw [aCall_eq T_spec_l17At]; unfold A_spec_l17At C_spec_l17At; simp [hc, x_spec_l17At M [⟨[.slice a xs.length c], 1, 2⟩] a c xs h' w M.length hp j hj h2]
theorem c_spec_l17None (M : Mem) (e : ty_Entry.D) : aCall T0 F_spec_l17None [.agg (enc_Entry e).toArray] M = some (.bool (noneB e), M) := by
  unfold noneB
  rw [aCall_eq T_spec_l17None]; unfold A_spec_l17None C_spec_l17None; simp
theorem r_spec_ShelfOk (M : Mem) (a : Option Addr) (c : Nat) (xs : List ty_Entry.D) (h : Rep (.sl ty_Entry) M [.slice a xs.length c] xs) (hn : xs.length ≤ 9223372036854775807) (hf : ∀ e ∈ xs, e.1.length ≤ 9223372036854775807) (p : Nat) (hp : rd1 M p 0 = some (.slice a xs.length c)) (hp2 : rdn M p 0 1 = some [.slice a xs.length c]) (i : Nat) (hi : i < xs.length) (hq : slotB xs i = true) :
    lp (aCall T0) K_spec_ShelfOk_0 L_spec_ShelfOk_0 [und, .pointer (some ⟨p, 0, none⟩), und, .int .i64 i, und, und, und, und, und, und, und, und, und, und, und, und, und, und, und, und, und, und, und, und, und, und, und, und, und, und, und, und, und, und, und, und, und, und, und, und, und, und, und] M = lp (aCall T0) K_spec_ShelfOk_0 L_spec_ShelfOk_0 [und, .pointer (some ⟨p, 0, none⟩), und, .int .i64 (i + 1 : Nat), und, und, und, und, und, und, und, und, und, und, und, und, und, und, und, und, und, und, und, und, und, und, und, und, und, und, und, und, und, und, und, und, und, und, und, und, und, und, und] M := by
  obtain ⟨l, o, rfl, hrep, hrd, hf0, hf1⟩ := at_Entry h hi
  have e6 : IntKind.i64.wrap ((i : Int) + 1) = i + 1 := wrap_i64 (by omega) (by omega)
  have g1 := fun M => c_spec_l17None M xs[i]
  have g2 := fun M => c_spec_l17Full M xs[i] (hf _ (List.getElem_mem hi))
  have g3 := c_spec_l17At M _ xs h hn xs[i].1
  simp only [slotB, List.getElem?_eq_getElem hi, Bool.or_eq_true, Bool.and_eq_true, decide_eq_true_eq] at hq
  cases hnone : noneB xs[i] with
  | true => rw [S_spec_ShelfOk_0]; unfold B_spec_ShelfOk_0; simp [hp, hp2, hrd, hf0, e6, hi, g1, g2, g3, hnone]
  | false =>
    obtain ⟨q1, q2⟩ := hq.resolve_left (by simp [hnone])
    rw [S_spec_ShelfOk_0]; unfold B_spec_ShelfOk_0; simp [hp, hp2, hrd, hf0, e6, hi, g1, g2, g3, hnone, q1, q2]
theorem x_spec_ShelfOk (M0 N : Mem) (a : Option Addr) (c : Nat) (xs : List ty_Entry.D) (h : Rep (.sl ty_Entry) (M0 ++ N) [.slice a xs.length c] xs) (hn : xs.length ≤ 9223372036854775807) (hf : ∀ e ∈ xs, e.1.length ≤ 9223372036854775807) (p : Nat) (hp : rd1 (M0 ++ N) p 0 = some (.slice a xs.length c)) (hp2 : rdn (M0 ++ N) p 0 1 = some [.slice a xs.length c]) (i : Nat) (hi : i < xs.length) (hq : slotB xs i = false) (k : ACode) :
    thenF M0 [.tmp 2] (thenS (blockR 0 (lp (aCall T0) K_spec_ShelfOk_0 L_spec_ShelfOk_0 [und, .pointer (some ⟨p, 0, none⟩), und, .int .i64 i, und, und, und, und, und, und, und, und, und, und, und, und, und, und, und, und, und, und, und, und, und, und, und, und, und, und, und, und, und, und, und, und, und, und, und, und, und, und, und] (M0 ++ N))) (aCall T0) k) = some (.bool false, M0) := by
  obtain ⟨l, o, rfl, hrep, hrd, hf0, hf1⟩ := at_Entry h hi
  have g1 := fun M => c_spec_l17None M xs[i]
  have g2 := fun M => c_spec_l17Full M xs[i] (hf _ (List.getElem_mem hi))
  have g3 := c_spec_l17At (M0 ++ N) _ xs h hn xs[i].1
  simp only [slotB, List.getElem?_eq_getElem hi, Bool.or_eq_false_iff, Bool.and_eq_false_iff, decide_eq_false_iff_not] at hq
  obtain ⟨hnone, hq⟩ := hq
  cases hent : entB xs[i] with
  | false => rw [S_spec_ShelfOk_0]; unfold B_spec_ShelfOk_0; simp [hp, hp2, hrd, hf0, hi, g1, g2, g3, hnone, hent]
  | true =>
    have q2 := hq.resolve_left (by simp [hent])
    rw [S_spec_ShelfOk_0]; unfold B_spec_ShelfOk_0; simp [hp, hp2, hrd, hf0, hi, g1, g2, g3, hnone, hent, q2]
theorem c_spec_ShelfOk (M : Mem) (v : V) (xs : List ty_Entry.D) (h : Rep (.sl ty_Entry) M [v] xs) (hn : xs.length ≤ 9223372036854775807) (hf : ∀ e ∈ xs, e.1.length ≤ 9223372036854775807) :
    aCall T0 F_spec_ShelfOk [.agg #[v]] M = some (.bool (shelfB xs), M) := by
  have h' : Rep (.sl ty_Entry) (M ++ [⟨[v], 1, 2⟩]) [v] xs := h.mono (List.prefix_append _ _)
  obtain ⟨a, c, rfl⟩ := h.slen
  have hp : rd1 (M ++ [⟨[.slice a xs.length c], 1, 2⟩]) M.length 0 = some (.slice a xs.length c) := by simp
  have hp2 : rdn (M ++ [⟨[.slice a xs.length c], 1, 2⟩]) M.length 0 1 = some [.slice a xs.length c] := by simp
  unfold shelfB
  by_cases h4 : xs.length = 4
  · have h4' : ((xs.length : Int) = 4) = True := eq_true (by omega)
    rcases slots_cases xs with ⟨ha, h1⟩ | ⟨ha, j, hj, h1, h2⟩
    · have hc := chain (g := fun i : Nat => lp (aCall T0) K_spec_ShelfOk_0 L_spec_ShelfOk_0 [und, .pointer (some ⟨M.length, 0, none⟩), und, .int .i64 i, und, und, und, und, und, und, und, und, und, und, und, und, und, und, und, und, und, und, und, und, und, und, und, und, und, und, und, und, und, und, und, und, und, und, und, und, und, und, und] (M ++ [⟨[.slice a xs.length c], 1, 2⟩])) (n := xs.length) fun i hi => r_spec_ShelfOk _ a c xs h' hn hf M.length hp hp2 i hi (h1 i hi)
      simp only [Int.natCast_zero, Int.ofNat_zero] at hc
      rw [ha]
      rw [aCall_eq T_spec_ShelfOk]; unfold A_spec_ShelfOk C_spec_ShelfOk; simp [hc, h4']
      rw [S_spec_ShelfOk_0]; unfold B_spec_ShelfOk_0; simp
      exact h4
    · have hc := chain (g := fun i : Nat => lp (aCall T0) K_spec_ShelfOk_0 L_spec_ShelfOk_0 [und, .pointer (some ⟨M.length, 0, none⟩), und, .int .i64 i, und, und, und, und, und, und, und, und, und, und, und, und, und, und, und, und, und, und, und, und, und, und, und, und, und, und, und, und, und, und, und, und, und, und, und, und, und, und, und] (M ++ [⟨[.slice a xs.length c], 1, 2⟩])) (n := j) fun i hi => r_spec_ShelfOk _ a c xs h' hn hf M.length hp hp2 i (by omega) (h1 i hi)
      simp only [Int.natCast_zero, Int.ofNat_zero] at hc
      rw [ha]
      rw [aCall_eq T_spec_ShelfOk]; unfold A_spec_ShelfOk C_spec_ShelfOk; simp [hc, h4', x_spec_ShelfOk M [⟨[.slice a xs.length c], 1, 2⟩] a c xs h' hn hf M.length hp hp2 j hj h2]
  · have h4' : ¬ (xs.length : Int) = 4 := by omega
    rw [aCall_eq T_spec_ShelfOk]; unfold A_spec_ShelfOk C_spec_ShelfOk; simp [h4', h4]
theorem d_spec_l17With (M : Mem) (v : V) (xs : List ty_Entry.D) (h : Rep (.sl ty_Entry) M [v] xs) (hn : xs.length ≤ 1048576) (i : Nat) (hi : i < xs.length) (e : ty_Entry.D) (he : (Lit.int .i64 e.2).wf = true) :
    ∃ M' u L, M <+: M' ∧ aCall T0 F_spec_l17With [.agg #[v], .int .i64 i, .agg (enc_Entry e).toArray] M = some (.agg #[u], M') ∧ Own (.sl ty_Entry) M' [u] (xs.set i e) L ∧ ∀ l ∈ L, M.length ≤ l ∧ l < M'.length := by
  obtain ⟨a, c, rfl⟩ := h.slen
  have hc := fun N => rep_cells (enc := enc_Entry) (fun cs x hx => rep_Entry hx) (h.mono (List.prefix_append M N)) (k := xs.length) (c2 := c) (Nat.le_refl _)
  have hw : ty_Entry.w = 2 := rfl
  rw [hw, List.take_length] at hc
  have hlen := flat_enc_len (enc := enc_Entry) (w := 2) (xs := xs) (fun x _ => rfl)
  have hs := flat_set (enc := enc_Entry) (w := 2) (fun x => rfl) xs i hi e
  have hall := all_Entry xs
  have hnil : a ≠ none := by
    rintro rfl
    rcases h.slice with ⟨_, rfl⟩ | ⟨_, _, _, e⟩
    · simp at hi
    · simp at e
  obtain ⟨C, hC⟩ : ∃ C, C = (xs.map enc_Entry).flatten := ⟨_, rfl⟩
  rw [← hC] at hc hlen hs hall
  obtain ⟨D, hD⟩ : ∃ D, D = ((xs.set i e).map enc_Entry).flatten := ⟨_, rfl⟩
  rw [← hD] at hs
  have hb1 : (xs.length : Int) * 24 ≤ 140737488355328 := by omega
  have hpos : 0 < xs.length := by omega
  have ha := fun (M : Mem) => app_new (M := M) (w := 2) (bytes := 24) (m := xs.length) (ys := C) hpos hall (by omega) (by omega)
  refine ⟨M ++ [⟨[.slice a xs.length c], 1, 2⟩, ⟨enc_Entry e, 1, 2⟩, ⟨[.slice (some ⟨M.length + 4, 0, none⟩) xs.length xs.length], 1, 2⟩, ⟨[], 2, 0⟩, ⟨D, 2, 2⟩, ⟨[.slice (some ⟨M.length + 4, 0, none⟩) xs.length xs.length], 1, 2⟩], .slice (some ⟨M.length + 4, 0, none⟩) xs.length xs.length, [M.length + 4], List.prefix_append _ _, ?_, ?_, by simp⟩
  · have e3 : i * 2 + 2 ≤ xs.length * 2 := by omega
    unfold splice at hs
    simp at hs
    have ha1 := ha (M ++ [⟨[.slice a xs.length c], 1, 2⟩, ⟨enc_Entry e, 1, 2⟩, ⟨[.slice none 0 0], 1, 2⟩])
    have hc1 := hc [⟨[.slice a xs.length c], 1, 2⟩, ⟨enc_Entry e, 1, 2⟩, ⟨[.slice none 0 0], 1, 2⟩, ⟨[], 2, 2⟩]
    simp [Nat.add_assoc] at ha1 hc1
    rw [aCall_eq T_spec_l17With]; unfold A_spec_l17With C_spec_l17With; simp [hc1, ha1, zeroCells, hlen, hs, e3, hi]
  · refine .inr ⟨M.length + 4, 0, xs.length, ⟨D, 2, 2⟩, (xs.set i e).map enc_Entry, (xs.set i e).map (fun _ => []), ?_, by simp, by simp, rfl, rfl, by simp, by simp, own_encs ?_, by simp [hD], by rw [nils_flat]⟩
    · intro q; have := congrArg List.length q; rw [List.length_set, List.length_nil] at this; omega
    · intro y hy
      apply own_Entry
      rcases List.mem_or_eq_of_mem_set hy with hy | rfl
      · obtain ⟨j, hj, rfl⟩ := List.getElem_of_mem hy
        obtain ⟨_, _, rfl, hr, _⟩ := at_Entry h hj
        obtain ⟨_, _, _, _, w⟩ := hr
        exact w.2
      · exact he
theorem d_spec_ShelfAdd (M : Mem) (v : V) (xs : List ty_Entry.D) (h : Rep (.sl ty_Entry) M [v] xs) (hn : xs.length ≤ 1048576) (hf : ∀ e ∈ xs, e.1.length ≤ 9223372036854775807) (e : ty_Entry.D) (he : e.1.length ≤ 9223372036854775807) :
    ∃ M' u, M <+: M' ∧ aCall T0 F_spec_ShelfAdd [.agg #[v], .agg (enc_Entry e).toArray] M = some (.tuple #[.agg #[u], .int .i64 (addC xs e)], M') ∧ Rep (.sl ty_Entry) M' [u] (addR xs e) := by
  have h' : Rep (.sl ty_Entry) (M ++ [⟨[v], 1, 2⟩, ⟨enc_Entry e, 1, 2⟩, ⟨[.slice none 0 0], 1, 2⟩]) [v] xs := h.mono (List.prefix_append _ _)
  have g1 := c_spec_ShelfOk _ v xs h' (by omega) hf
  have g2 := fun M => c_spec_l17Full M e he
  have g3 := c_spec_l17At _ v xs h' (by omega) e.1
  have g4 := c_spec_l17At _ v xs h' (by omega) []
  unfold addR
  rcases add_cases xs e with ⟨ha, hb⟩ | ⟨ha, h1, h2, h3⟩ | ⟨ha, h1, h2, h3, h4⟩ | ⟨ha, h1, h2, h3, j, hj, e2⟩
  · refine ⟨M ++ [⟨[v], 1, 2⟩, ⟨enc_Entry e, 1, 2⟩, ⟨[.slice none 0 0], 1, 2⟩], .slice none 0 0, List.prefix_append _ _, ?_, by rw [ha]; exact .inl ⟨rfl, rfl⟩⟩
    obtain ⟨a, c, rfl⟩ := h.slen
    rcases hb with q | ⟨q, q2⟩
    · rw [aCall_eq T_spec_ShelfAdd]; unfold A_spec_ShelfAdd C_spec_ShelfAdd; simp [g1, g2, ha, q, prim]
    · rw [aCall_eq T_spec_ShelfAdd]; unfold A_spec_ShelfAdd C_spec_ShelfAdd; simp [g1, g2, ha, q, q2, prim]
  · refine ⟨M ++ [⟨[v], 1, 2⟩, ⟨enc_Entry e, 1, 2⟩, ⟨[.slice none 0 0], 1, 2⟩], .slice none 0 0, List.prefix_append _ _, ?_, by rw [ha]; exact .inl ⟨rfl, rfl⟩⟩
    obtain ⟨a, c, rfl⟩ := h.slen
    rw [aCall_eq T_spec_ShelfAdd]; unfold A_spec_ShelfAdd C_spec_ShelfAdd; simp [g1, g2, g3, ha, h1, h2, h3, prim]
  · refine ⟨M ++ [⟨[v], 1, 2⟩, ⟨enc_Entry e, 1, 2⟩, ⟨[.slice none 0 0], 1, 2⟩], .slice none 0 0, List.prefix_append _ _, ?_, by rw [ha]; exact .inl ⟨rfl, rfl⟩⟩
    have h3' : ¬ 0 ≤ idx (isW e.1) xs := by omega
    obtain ⟨a, c, rfl⟩ := h.slen
    rw [aCall_eq T_spec_ShelfAdd]; unfold A_spec_ShelfAdd C_spec_ShelfAdd; simp [g1, g2, g3, g4, ha, h1, h2, h3', h4, prim]
  · obtain ⟨M1, u, L, p1, s1, o1, f1⟩ := d_spec_l17With (M ++ [⟨[v], 1, 2⟩, ⟨enc_Entry e, 1, 2⟩, ⟨[.slice none 0 0], 1, 2⟩]) v xs h' hn j hj e (entB_wf h2)
    have hb1' : M1[M.length + 2]? = some ⟨[.slice none 0 0], 1, 2⟩ := get_pre p1 (by simp)
    obtain ⟨a, c, rfl⟩ := h.slen
    obtain ⟨a2, c2, rfl⟩ := o1.rep.slen
    have w1 := box_set hb1' (ds := [.slice a2 (xs.set j e).length c2]) rfl rfl
    have r1 := box_get hb1' (ds := [.slice a2 (xs.set j e).length c2]) (n := 1) rfl
    have o2 := Own.upd (upd_set hb1' (b2 := ⟨[.slice a2 (xs.set j e).length c2], 1, 2⟩) rfl) o1 (fun l hl hk => by have := f1 l hl; simp at this hk; omega)
    have e5 : (idx (isW []) xs).toNat = j := by omega
    have e6 : ¬ ((j : Int) < 0) := by omega
    have h3' : ¬ 0 ≤ idx (isW e.1) xs := by omega
    simp at s1 w1 r1
    simp only [ha, if_true, e5]
    refine ⟨_, .slice a2 (xs.set j e).length c2, pre_set ((List.prefix_append _ _).trans p1) (by omega), ?_, o2.rep⟩
    rw [aCall_eq T_spec_ShelfAdd]; unfold A_spec_ShelfAdd C_spec_ShelfAdd; simp [g1, g2, g3, g4, h1, h2, h3', e2, e6, s1, w1, r1, prim]
theorem c_laws_FnExactShelfAdd (M : Mem) (v_xs : V) (xs : List ty_Entry.D) (h_xs : Rep (.sl ty_Entry) M [v_xs] xs) (hn_xs : xs.length ≤ 9223372036854775807) (hf0_xs : ∀ e ∈ xs, e.1.length ≤ 9223372036854775807) (e : ty_Entry.D) (hf0_e : e.1.length ≤ 9223372036854775807) : ∃ M', aCall T0 F_laws_FnExactShelfAdd [.agg #[v_xs], .agg (enc_Entry e).toArray] M = some (.bool true, M') := by
  obtain ⟨l_xs, e1_xs, e2_xs⟩ := c_laws_szShelf (M ++ [⟨[v_xs], 1, 2⟩, ⟨(enc_Entry e), 1, 2⟩]) v_xs xs (h_xs.mono (List.prefix_append _ _)) 1048576 (by omega) (by omega) hn_xs hf0_xs
  have pos_xs := szs_pos_Entry xs
  by_cases hl_xs : l_xs < 0
  · refine ⟨M, ?_⟩
    obtain ⟨_, _, rfl⟩ := h_xs.slen
    rw [aCall_eq T_laws_FnExactShelfAdd]; unfold A_laws_FnExactShelfAdd C_laws_FnExactShelfAdd; simp [e1_xs, hl_xs]
  have e3_xs := e2_xs (by omega)
  have h1_xs : xs.length ≤ 1048576 := by omega
  obtain ⟨l_e, e1_e, e2_e⟩ := z_laws_szEntry (M ++ [⟨[v_xs], 1, 2⟩, ⟨(enc_Entry e), 1, 2⟩]) e l_xs (by omega) (by omega) hf0_e
  have pos_e : 0 ≤ sz_Entry e := by unfold sz_Entry; omega
  by_cases hl_e : l_e < 0
  · refine ⟨M, ?_⟩
    obtain ⟨_, _, rfl⟩ := h_xs.slen
    rw [aCall_eq T_laws_FnExactShelfAdd]; unfold A_laws_FnExactShelfAdd C_laws_FnExactShelfAdd; simp [e1_xs, hl_xs, e1_e, hl_e]
  have e3_e := e2_e (by omega)
  have hb_addR : (addR xs e).length ≤ 1000000000 := (by have := addR_len xs e; omega)
  obtain ⟨M1, u2, L3, p4, t5, o6, f7⟩ := d_laws_toShelf (M ++ [⟨[v_xs], 1, 2⟩, ⟨(enc_Entry e), 1, 2⟩]) v_xs xs (h_xs.mono ((List.prefix_refl _).trans (List.prefix_append _ _))) h1_xs
  have g8 : ∀ l ∈ L3, M.length + 2 ≤ l ∧ l < M1.length := by intro l hl; have := f7 l hl; (try simp only [List.length_append, List.length_cons, List.length_nil] at this); omega
  have q9 : M <+: M1 := (List.prefix_append _ _).trans p4
  have ln10 : M.length + 2 ≤ M1.length := by have := p4.length_le; (try simp only [List.length_append, List.length_cons, List.length_nil] at this); omega
  have b11 : M1[M.length]? = some ⟨[v_xs], 1, 2⟩ := get_pre p4 (by simp)
  have b12 : M1[M.length + 1]? = some ⟨(enc_Entry e), 1, 2⟩ := get_pre p4 (by simp)
  have z13 : M <+: M1 := (List.prefix_refl _).trans q9
  have r15 : rdn M1 (M.length + 1) 0 2 = some (enc_Entry e) := rdn_box b12 rfl
  have t16 := c_laws_toEntry_f M1 e
  obtain ⟨M17, u20, p18, s19, o21⟩ := d_spec_ShelfAdd M1 u2 xs (o6).rep h1_xs hf0_xs e hf0_e
  have ln22 : M1.length ≤ M17.length := by have := p18.length_le; (try simp only [List.length_append, List.length_cons, List.length_nil] at this); omega
  have b23 : M17[M.length]? = some ⟨[v_xs], 1, 2⟩ := get_pre p18 b11
  have b24 : M17[M.length + 1]? = some ⟨(enc_Entry e), 1, 2⟩ := get_pre p18 b12
  have o25 := Own.grow p18 o6
  have z26 : M <+: M17 := z13.trans p18
  have r27 : rdn (M17 ++ [⟨[u20], 1, 2⟩]) (M.length) 0 1 = some [v_xs] := rdn_old (rdn_box b23 rfl)
  obtain ⟨M28, u29, L30, p31, t32, o33, f34⟩ := d_laws_toShelf (M17 ++ [⟨[u20], 1, 2⟩]) v_xs xs (h_xs.mono (z26.trans (List.prefix_append _ _))) h1_xs
  have g35 : ∀ l ∈ L30, M17.length + 1 ≤ l ∧ l < M28.length := by intro l hl; have := f34 l hl; (try simp only [List.length_append, List.length_cons, List.length_nil] at this); omega
  have q36 : M17 <+: M28 := (List.prefix_append _ _).trans p31
  have ln37 : M17.length + 1 ≤ M28.length := by have := p31.length_le; (try simp only [List.length_append, List.length_cons, List.length_nil] at this); omega
  have b38 : M28[M.length]? = some ⟨[v_xs], 1, 2⟩ := get_pre q36 b23
  have b39 : M28[M.length + 1]? = some ⟨(enc_Entry e), 1, 2⟩ := get_pre q36 b24
  have b40 : M28[M17.length]? = some ⟨[u20], 1, 2⟩ := get_pre p31 (by simp)
  have o41 := Own.grow q36 o25
  have z42 : M <+: M28 := z26.trans q36
  have y43 : M17 <+: M28 := (List.prefix_refl _).trans q36
  have r45 : rdn (M28 ++ [⟨[u29], 1, 2⟩]) (M.length + 1) 0 2 = some (enc_Entry e) := rdn_old (rdn_box b39 rfl)
  have t46 := c_laws_toEntry_f (M28 ++ [⟨[u29], 1, 2⟩]) e
  obtain ⟨M47, u50, L51, p48, s49, o52, f53⟩ := d_impl_ShelfAdd (M28 ++ [⟨[u29], 1, 2⟩]) u29 xs ((Own.grow (List.prefix_append _ _) o33)).rep h1_xs hf0_xs e hf0_e
  have q54 : M28 <+: M47 := (List.prefix_append _ _).trans p48
  have ln55 : M28.length + 1 ≤ M47.length := by have := p48.length_le; (try simp only [List.length_append, List.length_cons, List.length_nil] at this); omega
  have b56 : M47[M.length]? = some ⟨[v_xs], 1, 2⟩ := get_pre q54 b38
  have b57 : M47[M.length + 1]? = some ⟨(enc_Entry e), 1, 2⟩ := get_pre q54 b39
  have b58 : M47[M17.length]? = some ⟨[u20], 1, 2⟩ := get_pre q54 b40
  have b59 : M47[M28.length]? = some ⟨[u29], 1, 2⟩ := get_pre p48 (by simp)
  have o60 := Own.grow q54 o41
  have o61 := Own.grow q54 o33
  have z62 : M <+: M47 := z42.trans q54
  have y63 : M17 <+: M47 := y43.trans q54
  have g64 : ∀ l ∈ L51, M28.length + 1 ≤ l ∧ l < M47.length := by intro l hl; have := f53 l hl; (try simp only [List.length_append, List.length_cons, List.length_nil] at this); omega
  have r66 : rdn (M47 ++ [⟨[u50], 1, 2⟩]) (M17.length) 0 1 = some [u20] := rdn_old (rdn_box b58 rfl)
  have e67 := (c_laws_eqShelf (M47 ++ [⟨[u50], 1, 2⟩]) u50 u20 _ _ ((Own.grow (List.prefix_append _ _) o52)).rep (o21.mono (y63.trans (List.prefix_append _ _))) (by have := hb_addR; omega)).trans (show _ = some (Go.Value.bool true, (M47 ++ [⟨[u50], 1, 2⟩])) by simp)
  have r68 : rdn (M47 ++ [⟨[u50], 1, 2⟩]) (M28.length) 0 1 = some [u29] := rdn_old (rdn_box b59 rfl)
  have r69 : rdn (M47 ++ [⟨[u50], 1, 2⟩]) (M.length) 0 1 = some [v_xs] := rdn_old (rdn_box b56 rfl)
  obtain ⟨M70, u71, L72, p73, t74, o75, f76⟩ := d_laws_toShelf (M47 ++ [⟨[u50], 1, 2⟩]) v_xs xs (h_xs.mono (z62.trans (List.prefix_append _ _))) h1_xs
  have g77 : ∀ l ∈ L72, M47.length + 1 ≤ l ∧ l < M70.length := by intro l hl; have := f76 l hl; (try simp only [List.length_append, List.length_cons, List.length_nil] at this); omega
  have q78 : M47 <+: M70 := (List.prefix_append _ _).trans p73
  have ln79 : M47.length + 1 ≤ M70.length := by have := p73.length_le; (try simp only [List.length_append, List.length_cons, List.length_nil] at this); omega
  have b80 : M70[M.length]? = some ⟨[v_xs], 1, 2⟩ := get_pre q78 b56
  have b81 : M70[M.length + 1]? = some ⟨(enc_Entry e), 1, 2⟩ := get_pre q78 b57
  have b82 : M70[M17.length]? = some ⟨[u20], 1, 2⟩ := get_pre q78 b58
  have b83 : M70[M28.length]? = some ⟨[u29], 1, 2⟩ := get_pre q78 b59
  have b84 : M70[M47.length]? = some ⟨[u50], 1, 2⟩ := get_pre p73 (by simp)
  have o85 := Own.grow q78 o60
  have o86 := Own.grow q78 o61
  have o87 := Own.grow q78 o52
  have z88 : M <+: M70 := z62.trans q78
  have y89 : M17 <+: M70 := y63.trans q78
  have e91 := (c_laws_eqShelf M70 u29 u71 _ _ (o86).rep (o75).rep (by omega)).trans (show _ = some (Go.Value.bool true, M70) by simp)
  have r92 : rdn M70 (M28.length) 0 1 = some [u29] := rdn_box b83 rfl
  obtain ⟨M93, m94, up95, o96⟩ := d_laws_markShelf M70 u29 _ L30 o86 (1) (by omega) (by omega)
  have ln97 : M70.length ≤ M93.length := by have := up95.1; (try simp only [List.length_append, List.length_cons, List.length_nil] at this); omega
  have b98 : M93[M.length]? = some ⟨[v_xs], 1, 2⟩ := (up95.2.1 _ (fun hl => by have := g35 _ hl; omega) (List.getElem?_eq_some_iff.1 b80).1).trans b80
  have b100 : M93[M.length + 1]? = some ⟨(enc_Entry e), 1, 2⟩ := (up95.2.1 _ (fun hl => by have := g35 _ hl; omega) (List.getElem?_eq_some_iff.1 b81).1).trans b81
  have b102 : M93[M17.length]? = some ⟨[u20], 1, 2⟩ := (up95.2.1 _ (fun hl => by have := g35 _ hl; omega) (List.getElem?_eq_some_iff.1 b82).1).trans b82
  have b104 : M93[M28.length]? = some ⟨[u29], 1, 2⟩ := (up95.2.1 _ (fun hl => by have := g35 _ hl; omega) (List.getElem?_eq_some_iff.1 b83).1).trans b83
  have b106 : M93[M47.length]? = some ⟨[u50], 1, 2⟩ := (up95.2.1 _ (fun hl => by have := g35 _ hl; omega) (List.getElem?_eq_some_iff.1 b84).1).trans b84
  have o108 := Own.updg up95 (o85) (fun l hl hk => by have := g8 l hl; have := g35 l hk; omega)
  have o110 := Own.updg up95 (o87) (fun l hl hk => by have := g64 l hl; have := g35 l hk; omega)
  have o111 := Own.updg up95 (o75) (fun l hl hk => by have := g77 l hl; have := g35 l hk; omega)
  have z112 : M <+: M93 := UpdG.pre up95 (z88) (fun l hl => by have := g35 l hl; omega)
  have y113 : M17 <+: M93 := UpdG.pre up95 (y89) (fun l hl => by have := g35 l hl; omega)
  have c114 : ¬ (1 + 2 * (xs.length : Int) < 0) := by omega
  have r115 : rdn M93 (M47.length) 0 1 = some [u50] := rdn_box b106 rfl
  have r116 : rdn M93 (M17.length) 0 1 = some [u20] := rdn_box b102 rfl
  have e117 := (c_laws_eqShelf M93 u50 u20 _ _ (o110).rep (o21.mono (y113)) (by have := hb_addR; omega)).trans (show _ = some (Go.Value.bool true, M93) by simp)
  have r118 : rdn M93 (M47.length) 0 1 = some [u50] := rdn_box b106 rfl
  obtain ⟨M119, m120, up121, o122⟩ := d_laws_markShelf M93 u50 _ L51 o110 (1) (by omega) (by omega)
  have ln123 : M93.length ≤ M119.length := by have := up121.1; (try simp only [List.length_append, List.length_cons, List.length_nil] at this); omega
  have b124 : M119[M.length]? = some ⟨[v_xs], 1, 2⟩ := (up121.2.1 _ (fun hl => by have := g64 _ hl; omega) (List.getElem?_eq_some_iff.1 b98).1).trans b98
  have b126 : M119[M.length + 1]? = some ⟨(enc_Entry e), 1, 2⟩ := (up121.2.1 _ (fun hl => by have := g64 _ hl; omega) (List.getElem?_eq_some_iff.1 b100).1).trans b100
  have b128 : M119[M17.length]? = some ⟨[u20], 1, 2⟩ := (up121.2.1 _ (fun hl => by have := g64 _ hl; omega) (List.getElem?_eq_some_iff.1 b102).1).trans b102
  have b130 : M119[M28.length]? = some ⟨[u29], 1, 2⟩ := (up121.2.1 _ (fun hl => by have := g64 _ hl; omega) (List.getElem?_eq_some_iff.1 b104).1).trans b104
  have b132 : M119[M47.length]? = some ⟨[u50], 1, 2⟩ := (up121.2.1 _ (fun hl => by have := g64 _ hl; omega) (List.getElem?_eq_some_iff.1 b106).1).trans b106
  have o134 := Own.updg up121 (o108) (fun l hl hk => by have := g8 l hl; have := g64 l hk; omega)
  have o135 := Own.updg up121 (o96) (fun l hl hk => by have := g35 l hl; have := g64 l hk; omega)
  have o137 := Own.updg up121 (o111) (fun l hl hk => by have := g77 l hl; have := g64 l hk; omega)
  have z138 : M <+: M119 := UpdG.pre up121 (z112) (fun l hl => by have := g64 l hl; omega)
  have y139 : M17 <+: M119 := UpdG.pre up121 (y113) (fun l hl => by have := g64 l hl; omega)
  have c140 : ¬ (1 + 2 * ((addR xs e).length : Int) < 0) := by omega
  have r141 : rdn M119 (M47.length) 0 1 = some [u50] := rdn_box b132 rfl
  have d142 := d_laws_heldShelf M119 u50 (1) _ (o122).rep (by omega) (by omega)
  have c143 : ¬ (1 + 2 * ((addR xs e).length : Int) < 0) := by omega
  have r144 : rdn M119 (M.length) 0 1 = some [v_xs] := rdn_box b124 rfl
  obtain ⟨M145, u146, L147, p148, t149, o150, f151⟩ := d_laws_toShelf M119 v_xs xs (h_xs.mono (z138)) h1_xs
  have g152 : ∀ l ∈ L147, M119.length ≤ l ∧ l < M145.length := by intro l hl; have := f151 l hl; (try simp only [List.length_append, List.length_cons, List.length_nil] at this); omega
  have ln153 : M119.length ≤ M145.length := by have := p148.length_le; (try simp only [List.length_append, List.length_cons, List.length_nil] at this); omega
  have b154 : M145[M.length]? = some ⟨[v_xs], 1, 2⟩ := get_pre p148 b124
  have b155 : M145[M.length + 1]? = some ⟨(enc_Entry e), 1, 2⟩ := get_pre p148 b126
  have b156 : M145[M17.length]? = some ⟨[u20], 1, 2⟩ := get_pre p148 b128
  have b157 : M145[M28.length]? = some ⟨[u29], 1, 2⟩ := get_pre p148 b130
  have b158 : M145[M47.length]? = some ⟨[u50], 1, 2⟩ := get_pre p148 b132
  have o159 := Own.grow p148 o134
  have o160 := Own.grow p148 o135
  have o161 := Own.grow p148 o122
  have o162 := Own.grow p148 o137
  have z163 : M <+: M145 := z138.trans p148
  have y164 : M17 <+: M145 := y139.trans p148
  have r166 : rdn M145 (M.length + 1) 0 2 = some (enc_Entry e) := rdn_box b155 rfl
  have t167 := c_laws_toEntry_f M145 e
  obtain ⟨M168, u171, L172, p169, s170, o173, f174⟩ := d_impl_ShelfAdd M145 u146 xs (o150).rep h1_xs hf0_xs e hf0_e
  have ln175 : M145.length ≤ M168.length := by have := p169.length_le; (try simp only [List.length_append, List.length_cons, List.length_nil] at this); omega
  have b176 : M168[M.length]? = some ⟨[v_xs], 1, 2⟩ := get_pre p169 b154
  have b177 : M168[M.length + 1]? = some ⟨(enc_Entry e), 1, 2⟩ := get_pre p169 b155
  have b178 : M168[M17.length]? = some ⟨[u20], 1, 2⟩ := get_pre p169 b156
  have b179 : M168[M28.length]? = some ⟨[u29], 1, 2⟩ := get_pre p169 b157
  have b180 : M168[M47.length]? = some ⟨[u50], 1, 2⟩ := get_pre p169 b158
  have o181 := Own.grow p169 o159
  have o182 := Own.grow p169 o160
  have o183 := Own.grow p169 o161
  have o184 := Own.grow p169 o162
  have o185 := Own.grow p169 o150
  have z186 : M <+: M168 := z163.trans p169
  have y187 : M17 <+: M168 := y164.trans p169
  have g188 : ∀ l ∈ L172, M145.length ≤ l ∧ l < M168.length := by intro l hl; have := f174 l hl; (try simp only [List.length_append, List.length_cons, List.length_nil] at this); omega
  have r190 : rdn (M168 ++ [⟨[u171], 1, 2⟩]) (M17.length) 0 1 = some [u20] := rdn_old (rdn_box b178 rfl)
  have e191 := (c_laws_eqShelf (M168 ++ [⟨[u171], 1, 2⟩]) u171 u20 _ _ ((Own.grow (List.prefix_append _ _) o173)).rep (o21.mono (y187.trans (List.prefix_append _ _))) (by have := hb_addR; omega)).trans (show _ = some (Go.Value.bool true, (M168 ++ [⟨[u171], 1, 2⟩])) by simp)
  have r192 : rdn (M168 ++ [⟨[u171], 1, 2⟩]) (M47.length) 0 1 = some [u50] := rdn_old (rdn_box b180 rfl)
  have d193 := d_laws_heldShelf (M168 ++ [⟨[u171], 1, 2⟩]) u50 (1) _ ((Own.grow (List.prefix_append _ _) o183)).rep (by omega) (by omega)
  have c194 : ¬ (1 + 2 * ((addR xs e).length : Int) < 0) := by omega
  obtain ⟨_, _, rfl⟩ := h_xs.slen
  obtain ⟨_, _, rfl⟩ := ((o181).rep).slen
  obtain ⟨_, _, rfl⟩ := (o21).slen
  obtain ⟨_, _, rfl⟩ := ((o182).rep).slen
  obtain ⟨_, _, rfl⟩ := ((o183).rep).slen
  obtain ⟨_, _, rfl⟩ := ((o184).rep).slen
  obtain ⟨_, _, rfl⟩ := ((o185).rep).slen
  obtain ⟨_, _, rfl⟩ := ((o173).rep).slen
  rw [aCall_eq T_laws_FnExactShelfAdd]; unfold A_laws_FnExactShelfAdd C_laws_FnExactShelfAdd; simp [e1_xs, hl_xs, e1_e, hl_e, t5, p4, r15, t16, s19, p18, r27, t32, p31, r45, t46, s49, p48, r66, e67, r68, r69, t74, p73, e91, r92, m94, c114, r115, r116, e117, r118, m120, c140, r141, d142, c143, r144, t149, p148, r166, t167, s170, p169, r190, e191, r192, d193, c194, thenD_pre]
  all_goals exact gc_ex _ _ _
theorem law_laws_FnExactShelfAdd (M : Mem) (avs : List V) (_ : ∀ b ∈ M, b.st ≠ 2) (h : Ins [(true, (.sl (.pr .str (.int .i64)))), (true, (.pr .str (.int .i64)))] M avs) : ∃ M', aCall T0 F_laws_FnExactShelfAdd avs M = some (.bool true, M') := by
  obtain ⟨v_xs, _, xs, rfl, h_xs, f_xs, h⟩ := ins_cons h
  obtain ⟨v_e, _, e, rfl, h_e, f_e, h⟩ := ins_cons h
  obtain rfl := ins_nil h
  obtain ⟨cs_xs, rfl, h2_xs⟩ := repv_agg h_xs
  have h3_xs : Rep (.sl ty_Entry) M cs_xs xs := h2_xs
  have w_xs := h3_xs.len
  obtain ⟨u_xs, rfl⟩ : ∃ u, cs_xs = [u] := by
    match cs_xs, w_xs with
    | [u], _ => exact ⟨u, rfl⟩
  obtain ⟨cs_e, rfl, h2_e⟩ := repv_agg h_e
  have w_e := rep_Entry h2_e
  subst w_e
  exact c_laws_FnExactShelfAdd M u_xs xs h3_xs f_xs.1 (fun e he => (f_xs.2 e he).1) e f_e.1
end GoAm
