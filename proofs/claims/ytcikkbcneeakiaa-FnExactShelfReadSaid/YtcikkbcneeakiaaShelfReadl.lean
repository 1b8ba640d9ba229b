/- What the functions do that the law reaches; and the law. -/
import Derived.Test.YtcikkbcneeakiaaShelfReadt
import Derived.Test.YtcikkbcneeakiaaAmOwn
set_option autoImplicit false
set_option linter.unusedVariables false
set_option linter.unusedSimpArgs false
namespace GoAm
open Go
abbrev ty_Byte : Ty := .u8
abbrev enc_Byte (x : ty_Byte.D) : List V := [byteV x]
theorem at_Byte {M : Mem} {a : Option Addr} {n c : Nat} {xs : List ty_Byte.D} (h : Rep (.sl ty_Byte) M [.slice a n c] xs) {i : Nat} (hi : i < xs.length) : ∃ l o, a = some ⟨l, o, none⟩ ∧ Rep ty_Byte M (enc_Byte xs[i]) xs[i] ∧ rd1 M l (o + i) = some (byteV xs[i]) := by
  obtain ⟨_, l, o, rfl, cs, hrd, hrep⟩ := rep_at h hi
  have hcs : cs = enc_Byte xs[i] := hrep
  subst hcs
  have hw1 : ty_Byte.w = 1 := rfl
  rw [hw1, Nat.mul_one] at hrd
  exact ⟨l, o, rfl, hrep, rd1_of_one hrd⟩
theorem r_laws_eqByteS (M : Mem) (a b : Option Addr) (c d : Nat) (xs ys : List ty_Byte.D) (h : Rep (.sl ty_Byte) M [.slice a xs.length c] xs) (h2 : Rep (.sl ty_Byte) M [.slice b ys.length d] ys) (hn : xs.length ≤ 9223372036854775807) (i : Nat) (hi : i < xs.length) (hj : i < ys.length) (he : xs[i] = ys[i]) :
    lp (aCall T0) K_laws_eqByteS_0 L_laws_eqByteS_0 [.slice a xs.length c, .slice b ys.length d, und, und, und, .int .i64 i, und, und, und, und, und, und, und, und, und, und, und, und, und, und, und, und, und, und, und, und] M = lp (aCall T0) K_laws_eqByteS_0 L_laws_eqByteS_0 [.slice a xs.length c, .slice b ys.length d, und, und, und, .int .i64 (i + 1 : Nat), und, und, und, und, und, und, und, und, und, und, und, und, und, und, und, und, und, und, und, und] M := by
  obtain ⟨l, o, rfl, _, hrd⟩ := at_Byte h hi
  obtain ⟨l2, o2, rfl, _, hrd2⟩ := at_Byte h2 hj
  have e6 : IntKind.i64.wrap ((i : Int) + 1) = i + 1 := wrap_i64 (by omega) (by omega)
  rw [S_laws_eqByteS_0]; unfold B_laws_eqByteS_0; simp [hrd, hrd2, e6, hi, hj, he, byteV]
theorem eq_byteV (x y : UInt8) : ((x.toNat : Int) = (y.toNat : Int)) = (x = y) := by
  apply propext
  constructor
  · intro h; exact UInt8.toNat_inj.1 (by omega)
  · rintro rfl; rfl
theorem x_laws_eqByteS (M : Mem) (a b : Option Addr) (c d : Nat) (xs ys : List ty_Byte.D) (h : Rep (.sl ty_Byte) M [.slice a xs.length c] xs) (h2 : Rep (.sl ty_Byte) M [.slice b ys.length d] ys) (hn : xs.length ≤ 9223372036854775807) (i : Nat) (hi : i < xs.length) (hj : i < ys.length) (he : xs[i] ≠ ys[i]) (k : ACode) :
    thenF M [.tmp 4] (thenS (blockR 0 (lp (aCall T0) K_laws_eqByteS_0 L_laws_eqByteS_0 [.slice a xs.length c, .slice b ys.length d, und, und, und, .int .i64 i, und, und, und, und, und, und, und, und, und, und, und, und, und, und, und, und, und, und, und, und] M)) (aCall T0) k) = some (.bool false, M) := by
  obtain ⟨l, o, rfl, _, hrd⟩ := at_Byte h hi
  obtain ⟨l2, o2, rfl, _, hrd2⟩ := at_Byte h2 hj
  have hne : ¬ (((xs[i] : UInt8).toNat : Int) = ((ys[i] : UInt8).toNat : Int)) := by rw [eq_byteV]; exact he
  rw [S_laws_eqByteS_0]; unfold B_laws_eqByteS_0; simp [hrd, hrd2, hi, hj, hne, byteV]
theorem c_laws_eqByteS (M : Mem) (v u : V) (xs ys : List ty_Byte.D) (h : Rep (.sl ty_Byte) M [v] xs) (h2 : Rep (.sl ty_Byte) M [u] ys) (hn : xs.length ≤ 9223372036854775807) : aCall T0 F_laws_eqByteS [v, u] M = some (.bool (decide (xs = ys)), M) := by
  obtain ⟨a, c, rfl⟩ := h.slen
  obtain ⟨b, d, rfl⟩ := h2.slen
  by_cases hl : xs.length = ys.length
  · rcases list_eq_iff hl with he | ⟨j, hj, h3, h4⟩
    · subst he
      have hc := chain (g := fun i : Nat => lp (aCall T0) K_laws_eqByteS_0 L_laws_eqByteS_0 [.slice a xs.length c, .slice b xs.length d, und, und, und, .int .i64 i, und, und, und, und, und, und, und, und, und, und, und, und, und, und, und, und, und, und, und, und] M) (n := xs.length) fun i hi => r_laws_eqByteS M a b c d xs xs h h2 hn i hi hi rfl
      simp only [Int.natCast_zero, Int.ofNat_zero] at hc
      rw [aCall_eq T_laws_eqByteS]; unfold A_laws_eqByteS C_laws_eqByteS; simp [hc]
      rw [S_laws_eqByteS_0]; unfold B_laws_eqByteS_0; simp
    · have hc := chain (g := fun i : Nat => lp (aCall T0) K_laws_eqByteS_0 L_laws_eqByteS_0 [.slice a xs.length c, .slice b ys.length d, und, und, und, .int .i64 i, und, und, und, und, und, und, und, und, und, und, und, und, und, und, und, und, und, und, und, und] M) (n := j) fun i hi => r_laws_eqByteS M a b c d xs ys h h2 hn i (by omega) (by omega) (h3 i (by omega) hi)
      simp only [Int.natCast_zero, Int.ofNat_zero] at hc
      have hx := x_laws_eqByteS M a b c d xs ys h h2 hn j hj (by omega) h4
      have hne : xs ≠ ys := fun e => h4 (by simp [e])
      simp only [← hl] at hc hx
      simp only [← hl]
      rw [aCall_eq T_laws_eqByteS]; unfold A_laws_eqByteS C_laws_eqByteS; simp [hc, hx, hne]
  · have hne : xs ≠ ys := fun e => hl (by rw [e])
    have hl2 : ¬ ((xs.length : Int) = ys.length) := by omega
    rw [aCall_eq T_laws_eqByteS]; unfold A_laws_eqByteS C_laws_eqByteS; simp [hl2, hl, hne]
def mkY (k : Int) : UInt8 := UInt8.ofNat (k.toNat % 256)
def marksY (k : Int) (n : Nat) : List ty_Byte.D := (List.range n).map fun (j : Nat) => mkY (k + (j : Int))
theorem marksY_len (k : Int) (n : Nat) : (marksY k n).length = n := by simp [marksY]
def mcs_Byte (k : Int) (i : Nat) : List V := ((marksY k i).map enc_Byte).flatten
theorem own_Byte (M : Mem) (x : ty_Byte.D) : Own ty_Byte M (enc_Byte x) x [] := ⟨rfl, rfl⟩
theorem ownf_Byte (M : Mem) (cs : List V) (x : ty_Byte.D) (K : List Nat) (h : Own ty_Byte M cs x K) : K = [] := h.2
theorem mkY_val (k : Int) (hk : 0 < k) : Value.int .u8 (IntKind.u8.wrap k) = byteV (mkY k) := by
  unfold mkY
  rw [byteV_len (by omega)]
  congr 1
  simp [IntKind.wrap, IntKind.min, IntKind.max, IntKind.signed, IntKind.bits]
  omega
theorem mkY_wrap (k : Int) (hk : 0 < k) : IntKind.u8.wrap k = ((mkY k).toNat : Int) := by
  have h := mkY_val k hk
  unfold byteV at h
  injection h
theorem mcs_Byte_len (k : Int) (i : Nat) : (mcs_Byte k i).length = i := by
  unfold mcs_Byte
  rw [flat_enc_len (w := 1) (fun x _ => rfl), marksY_len, Nat.mul_one]
theorem mcs_Byte_succ (k : Int) (i : Nat) : mcs_Byte k (i + 1) = mcs_Byte k i ++ [byteV (mkY (k + (i : Int)))] := by
  unfold mcs_Byte marksY
  rw [List.range_succ]
  simp
def spB (blk : Blk) (o : Nat) (ys : List V) : Blk := { blk with cells := splice blk.cells o ys }
theorem splice_snoc (cs ys : List V) (o : Nat) (y : V) (h : o + ys.length + 1 ≤ cs.length) : splice (splice cs o ys) (o + ys.length) [y] = splice cs o (ys ++ [y]) := by
  have e1 : (cs.take o ++ ys).length = o + ys.length := by simp; omega
  unfold splice
  rw [← e1, List.take_left', List.append_assoc (cs.take o) ys]
  · simp only [List.length_append, List.length_cons, List.length_nil, List.append_assoc]
    congr 2
    rw [← List.append_assoc, List.drop_append, List.drop_eq_nil_of_le (by simp)]
    simp
    congr 1
    omega
  · rfl
theorem splice_len (cs ys : List V) (o : Nat) (h : o + ys.length ≤ cs.length) : (splice cs o ys).length = cs.length := by
  unfold splice; simp; omega
theorem wrn_sp (M : Mem) (l o : Nat) (blk : Blk) (hb : M[l]? = some blk) (h2 : blk.st = 2) (ys : List V) (y : V) (hy : one y = true) (ho : o + ys.length + 1 ≤ blk.cells.length) : wrn (M.set l (spB blk o ys)) l (o + ys.length) [y] = some (M.set l (spB blk o (ys ++ [y]))) := by
  have hl := (List.getElem?_eq_some_iff.1 hb).1
  have e0 : (M.set l (spB blk o ys))[l]? = some (spB blk o ys) := by simp [hl]
  unfold wrn
  rw [e0]
  simp only
  have e2 : (spB blk o ys).cells.length = blk.cells.length := splice_len _ _ _ (by omega)
  rw [if_pos ⟨h2, by rw [e2]; simp; omega, by simp [hy]⟩, List.set_set]
  congr 2
  unfold spB
  simp only
  congr 1
  exact splice_snoc blk.cells ys o y (by omega)
theorem r_laws_markByteS (M : Mem) (l o n c : Nat) (blk : Blk) (hb : M[l]? = some blk) (h2 : blk.st = 2) (k : Int) (hk : 0 < k) (hk2 : k + n ≤ 4611686018427387904) (ho : o + n ≤ blk.cells.length) (i : Nat) (hi : i < n) :
    lp (aCall T0) K_laws_markByteS_0 L_laws_markByteS_0 [.slice (some ⟨l, o, none⟩) n c, .int .i64 (k + (i : Int)), und, und, und, .int .i64 i, und, und, und, und, und, und, und, und, und, und, und, und, und, und] (M.set l (spB blk o (mcs_Byte k i))) =
    lp (aCall T0) K_laws_markByteS_0 L_laws_markByteS_0 [.slice (some ⟨l, o, none⟩) n c, .int .i64 (k + ((i + 1 : Nat) : Int)), und, und, und, .int .i64 (i + 1 : Nat), und, und, und, und, und, und, und, und, und, und, und, und, und, und] (M.set l (spB blk o (mcs_Byte k (i + 1)))) := by
  have el := mcs_Byte_len k i
  have e1 := wrn_sp M l o blk hb h2 (mcs_Byte k i) (byteV (mkY (k + (i : Int)))) rfl (by omega)
  rw [← mcs_Byte_succ, el] at e1
  have e6 : IntKind.i64.wrap ((i : Int) + 1) = i + 1 := wrap_i64 (by omega) (by omega)
  have e7 : IntKind.i64.wrap (k + (i : Int) + 1) = k + ((i : Int) + 1) := by rw [wrap_i64 (by omega) (by omega)]; omega
  have e8 := mkY_wrap (k + (i : Int)) (by omega)
  unfold byteV at e1
  rw [S_laws_markByteS_0]; unfold B_laws_markByteS_0; simp [e1, e6, e7, e8, hi]
theorem spB_nil (blk : Blk) (o : Nat) : spB blk o [] = blk := by simp [spB, splice]
theorem set_same {M : Mem} {l : Nat} {blk : Blk} (hb : M[l]? = some blk) : M.set l blk = M := by
  exact List.ext_getElem? fun j => by
    rw [List.getElem?_set]
    split
    · rename_i e; subst e; split
      · exact hb.symm
      · rename_i hlt; rw [List.getElem?_eq_none (by omega)]
    · rfl
theorem upd_set {M : Mem} {l : Nat} {blk b2 : Blk} (hb : M[l]? = some blk) (hw : b2.w = blk.w) : Upd M (M.set l b2) (· ∈ [l]) := by
  have hlt := (List.getElem?_eq_some_iff.1 hb).1
  refine ⟨by simp, fun j hj => ?_, fun j b' hj => ?_⟩
  · rw [List.getElem?_set_ne (fun e => hj (by simp [e]))]
  · by_cases e : l = j
    · subst e
      rw [hb] at hj
      cases hj
      exact ⟨b2, by simp [hlt], hw⟩
    · exact ⟨b', by rw [List.getElem?_set_ne e, hj], rfl⟩
theorem own_flat {t : Ty} (hf : ∀ (M : Mem) (cs : List V) (x : t.D) (K : List Nat), Own t M cs x K → K = []) {M : Mem} {v : V} {xs : List t.D} {L : List Nat} (h : Own (.sl t) M [v] xs L) : (xs = [] ∧ L = [] ∧ Rep (.sl t) M [v] []) ∨ ∃ l o c blk, xs ≠ [] ∧ v = .slice (some ⟨l, o, none⟩) xs.length c ∧ M[l]? = some blk ∧ blk.st = 2 ∧ blk.w = t.w ∧ o + xs.length * t.w ≤ blk.cells.length ∧ L = [l] := by
  rcases h with ⟨rfl, hL, hr⟩ | ⟨l, o, c, blk, css, Ls, hne, e, hb, h2, hw, hc, hLs, hel, hp, rfl⟩
  · exact .inl ⟨rfl, hL, hr⟩
  · right
    simp only [List.cons.injEq, and_true] at e
    refine ⟨l, o, c, blk, hne, e, hb, h2, hw, ?_, ?_⟩
    · have hone : ∀ cs ∈ css, cs.length = t.w := by
        intro cs hcs
        obtain ⟨i, hi, rfl⟩ := List.getElem_of_mem hcs
        exact (hel i css[i] (xs[i]'(by omega)) (Ls[i]'(by omega)) (by simp) (by simp) (by simp)).rep.len
      have := flat_len hone
      have hl := hp.length_le
      rw [this, List.length_drop, hc] at hl
      have h0 := List.length_pos_iff.2 hne
      have h1 : 0 < xs.length * t.w := Nat.mul_pos h0 t.w_pos
      omega
    · have : Ls.flatten = [] := by
        rw [List.flatten_eq_nil_iff]
        intro K hK
        obtain ⟨i, hi, rfl⟩ := List.getElem_of_mem hK
        exact hf _ _ _ _ (hel i (css[i]'(by omega)) (xs[i]'(by omega)) Ls[i] (by simp) (by simp) (by simp))
      rw [this]
theorem own_encs {t : Ty} {M : Mem} {enc : t.D → List V} {ys : List t.D} (he : ∀ y ∈ ys, Own t M (enc y) y []) : ∀ (i : Nat) (ds : List V) (x : t.D) (K : List Nat), (ys.map enc)[i]? = some ds → ys[i]? = some x → (ys.map (fun _ => ([] : List Nat)))[i]? = some K → Own t M ds x K := by
  intro i ds x K h1 h2 h3
  rw [List.getElem?_map, h2] at h1
  rw [List.getElem?_map, h2] at h3
  simp only [Option.map_some, Option.some.injEq] at h1 h3
  subst h1; subst h3
  exact he x (List.mem_of_getElem? h2)
theorem nils_flat {α : Type} (ys : List α) : (ys.map (fun _ => ([] : List Nat))).flatten = [] := by
  rw [List.flatten_eq_nil_iff]
  intro K hK
  obtain ⟨_, _, rfl⟩ := List.mem_map.1 hK
  rfl
theorem own_sp {t : Ty} {M : Mem} {l o n c : Nat} {blk : Blk} {enc : t.D → List V} {ys : List t.D} (hy : ys ≠ []) (hn : ys.length = n) (hb : M[l]? = some (spB blk o (ys.map enc).flatten)) (h2 : blk.st = 2) (hw : blk.w = t.w) (ho : o ≤ blk.cells.length) (he : ∀ y ∈ ys, Own t M (enc y) y []) :
    Own (.sl t) M [.slice (some ⟨l, o, none⟩) n c] ys [l] := by
  refine .inr ⟨l, o, c, spB blk o (ys.map enc).flatten, ys.map enc, ys.map (fun _ => []), hy, by rw [hn], hb, h2, hw, by simp, by simp, own_encs he, ?_, by rw [nils_flat]⟩
  unfold spB splice
  simp only
  rw [List.append_assoc, List.drop_append, List.drop_eq_nil_of_le (by simp; omega)]
  have : o - (List.take o blk.cells).length = 0 := by simp; omega
  rw [this]
  exact List.prefix_append _ _
/-- Memory that has grown, and changed in the blocks of L alone. -/
def UpdG (M M' : Mem) (L : Nat → Prop) : Prop := M.length ≤ M'.length ∧ (∀ l, ¬ L l → l < M.length → M'[l]? = M[l]?) ∧ ∀ (l : Nat) (b : Blk), M[l]? = some b → ∃ b' : Blk, M'[l]? = some b' ∧ b'.w = b.w
theorem Upd.g {M M' : Mem} {L : Nat → Prop} (h : Upd M M' L) : UpdG M M' L := ⟨Nat.le_of_eq h.1.symm, fun l hl _ => h.2.1 l hl, h.2.2⟩
theorem pre_g {M M' : Mem} (hp : M <+: M') (L : Nat → Prop) : UpdG M M' L := by
  refine ⟨hp.length_le, fun l _ hlt => ?_, fun l b hb => ⟨b, get_pre hp hb, rfl⟩⟩
  obtain ⟨r, rfl⟩ := hp
  rw [List.getElem?_append_left hlt]
theorem d_laws_markByteS (M : Mem) (v : V) (xs : List ty_Byte.D) (L : List Nat) (h : Own (.sl ty_Byte) M [v] xs L) (k : Int) (hk : 0 < k) (hk2 : k + xs.length ≤ 4611686018427387904) :
    ∃ M', aCall T0 F_laws_markByteS [v, .int .i64 k] M = some (.int .i64 (k + xs.length), M') ∧ UpdG M M' (· ∈ L) ∧ Own (.sl ty_Byte) M' [v] (marksY k xs.length) L := by
  rcases own_flat ownf_Byte h with ⟨rfl, rfl, hr⟩ | ⟨l, o, c, blk, hx, rfl, hb, h2, hw, ho, rfl⟩
  · refine ⟨M, ?_, pre_g (List.prefix_refl _) _, .inl ⟨rfl, rfl, hr⟩⟩
    obtain ⟨a, c, rfl⟩ := hr.slen
    rw [aCall_eq T_laws_markByteS]; unfold A_laws_markByteS C_laws_markByteS; simp
    rw [S_laws_markByteS_0]; unfold B_laws_markByteS_0; simp
  · have hw2 : ty_Byte.w = 1 := rfl
    rw [hw2, Nat.mul_one] at ho
    have hl := chain (g := fun i : Nat => lp (aCall T0) K_laws_markByteS_0 L_laws_markByteS_0 [.slice (some ⟨l, o, none⟩) xs.length c, .int .i64 (k + (i : Int)), und, und, und, .int .i64 i, und, und, und, und, und, und, und, und, und, und, und, und, und, und] (M.set l (spB blk o (mcs_Byte k i)))) (n := xs.length) fun i hi => r_laws_markByteS M l o xs.length c blk hb h2 k hk hk2 ho i hi
    have e0 : mcs_Byte k 0 = [] := rfl
    simp only [Int.natCast_zero, Int.ofNat_zero, e0, spB_nil, set_same hb, Int.add_zero] at hl
    have hlt := (List.getElem?_eq_some_iff.1 hb).1
    refine ⟨M.set l (spB blk o (mcs_Byte k xs.length)), ?_, Upd.g (upd_set hb rfl), ?_⟩
    · rw [aCall_eq T_laws_markByteS]; unfold A_laws_markByteS C_laws_markByteS; simp [hl]
      rw [S_laws_markByteS_0]; unfold B_laws_markByteS_0; simp
      exact gc_len (by simp)
    · refine own_sp (blk := blk) (enc := enc_Byte) ?_ (marksY_len _ _) (by simp [hlt, mcs_Byte]) h2 hw (by omega) (fun y _ => own_Byte _ y)
      intro e; have := congrArg List.length e; rw [marksY_len] at this; exact hx (List.length_eq_zero_iff.1 this)
def z_Byte : List V := [.int .u8 0]
theorem r_laws_toByteS (M : Mem) (a : Option Addr) (c : Nat) (xs : List ty_Byte.D) (h : Rep (.sl ty_Byte) M [.slice a xs.length c] xs) (hn : xs.length ≤ 1048576) (i : Nat) (hi : i < xs.length) :
    lp (aCall T0) K_laws_toByteS_0 L_laws_toByteS_0 [.slice a xs.length c, und, und, .slice (some ⟨M.length, 0, none⟩) xs.length xs.length, .int .i64 i, und, und, und, und, und, und, und, und, und, und, und, und, und, und, und, und, und] (M ++ [⟨tcells enc_Byte z_Byte xs i, 1, 2⟩]) =
    lp (aCall T0) K_laws_toByteS_0 L_laws_toByteS_0 [.slice a xs.length c, und, und, .slice (some ⟨M.length, 0, none⟩) xs.length xs.length, .int .i64 (i + 1 : Nat), und, und, und, und, und, und, und, und, und, und, und, und, und, und, und, und, und] (M ++ [⟨tcells enc_Byte z_Byte xs (i + 1), 1, 2⟩]) := by
  obtain ⟨l, o, rfl, hrep, hrd⟩ := at_Byte h hi
  have hrd2 : rd1 (M ++ [⟨tcells enc_Byte z_Byte xs i, 1, 2⟩]) l (o + i) = some (byteV xs[i]) := rd1_old hrd
  have e2 := tcells_len (enc := enc_Byte) (z := z_Byte) (xs := xs) (fun x _ => rfl) (i := i) (by omega)
  have e3 := tcells_step (enc := enc_Byte) (z := z_Byte) (xs := xs) (fun x _ => rfl) hi
  have e4 : z_Byte.length = 1 := rfl
  rw [e4, Nat.mul_one] at e2 e3
  have e5 : i + 1 ≤ xs.length := by omega
  have e6 : IntKind.i64.wrap ((i : Int) + 1) = i + 1 := wrap_i64 (by omega) (by omega)
  unfold splice at e3
  simp at e3
  rw [S_laws_toByteS_0]; unfold B_laws_toByteS_0; simp [hrd2, e2, e3, e5, e6, hi]
theorem c_laws_toByteS (M : Mem) (v : V) (xs : List ty_Byte.D) (h : Rep (.sl ty_Byte) M [v] xs) (hn : xs.length ≤ 1048576) :
    aCall T0 F_laws_toByteS [v] M = some (.slice (some ⟨M.length, 0, none⟩) xs.length xs.length, M ++ [⟨(xs.map enc_Byte).flatten, 1, 2⟩]) := by
  obtain ⟨a, c, rfl⟩ := h.slen
  have hl := chain (g := fun i : Nat => lp (aCall T0) K_laws_toByteS_0 L_laws_toByteS_0 [.slice a xs.length c, und, und, .slice (some ⟨M.length, 0, none⟩) xs.length xs.length, .int .i64 i, und, und, und, und, und, und, und, und, und, und, und, und, und, und, und, und, und] (M ++ [⟨tcells enc_Byte z_Byte xs i, 1, 2⟩])) (n := xs.length) fun i hi => r_laws_toByteS M a c xs h hn i hi
  simp only [Int.natCast_zero, Int.ofNat_zero, tcells_zero, tcells_full] at hl
  unfold z_Byte at hl
  simp only [zeroCells_zc] at hl
  have e1 : (xs.length : Int) ≤ 281474976710656 := by omega
  have e2 : (xs.length : Int) ≤ 9223372036854775807 := by omega
  rw [aCall_eq T_laws_toByteS]; unfold A_laws_toByteS C_laws_toByteS; simp [e1, e2]
  rw [hl]
  rw [S_laws_toByteS_0]; unfold B_laws_toByteS_0; simp
theorem own_blk {t : Ty} {M : Mem} {l c : Nat} {enc : t.D → List V} {ys : List t.D} (hb : M[l]? = some ⟨(ys.map enc).flatten, t.w, 2⟩) (he : ∀ y ∈ ys, Own t M (enc y) y []) : ∃ L, Own (.sl t) M [.slice (some ⟨l, 0, none⟩) ys.length c] ys L ∧ ∀ j ∈ L, j = l := by
  by_cases hy : ys = []
  · subst hy
    exact ⟨[], .inl ⟨rfl, rfl, .inr ⟨l, 0, c, _, [], rfl, hb, .inr (.inr rfl), rfl, rfl, fun i ds x hd => by simp at hd, by simp⟩⟩, by simp⟩
  · exact ⟨[l], .inr ⟨l, 0, c, _, ys.map enc, ys.map (fun _ => []), hy, rfl, hb, rfl, rfl, by simp, by simp, own_encs he, by simp, by rw [nils_flat]⟩, by simp⟩
theorem d_laws_toByteS (M : Mem) (v : V) (xs : List ty_Byte.D) (h : Rep (.sl ty_Byte) M [v] xs) (hn : xs.length ≤ 1048576) : ∃ M' u L, M <+: M' ∧ aCall T0 F_laws_toByteS [v] M = some (u, M') ∧ Own (.sl ty_Byte) M' [u] xs L ∧ ∀ l ∈ L, M.length ≤ l ∧ l < M'.length := by
  have e := c_laws_toByteS M v xs h hn
  obtain ⟨L, o1, o2⟩ := own_blk (t := ty_Byte) (M := M ++ [⟨(xs.map enc_Byte).flatten, 1, 2⟩]) (l := M.length) (c := xs.length) (enc := enc_Byte) (ys := xs) (by simp; rfl) (fun y _ => own_Byte _ y)
  exact ⟨_, _, L, List.prefix_append _ _, e, o1, fun l hl => by rw [o2 l hl]; simp⟩
abbrev ty_Entry : Ty := .pr .str (.int .i64)
instance d_Entry : DecidableEq ty_Entry.D := Ty.deq ty_Entry
def dig (n : Nat) : List UInt8 := if h : n = 0 then [] else dig (n / 10) ++ [UInt8.ofNat (48 + n % 10)]
  termination_by n
  decreasing_by omega
def mt (k : Int) : List UInt8 := 109 :: dig k.toNat
def mk_Entry (k : Int) : ty_Entry.D := (mt k, k + 1)
def marks_Entry (k : Int) (n : Nat) : List ty_Entry.D := (List.range n).map fun (j : Nat) => mk_Entry (k + 2 * (j : Int))
abbrev enc_Entry (x : ty_Entry.D) : List V := [strV x.1, .int .i64 x.2]
theorem marks_Entry_len (k : Int) (n : Nat) : (marks_Entry k n).length = n := by simp [marks_Entry]
theorem marks_Entry_get (k : Int) (n i : Nat) (hi : i < (marks_Entry k n).length) : (marks_Entry k n)[i] = mk_Entry (k + 2 * (i : Int)) := by simp [marks_Entry]
def mcs_Entry (k : Int) (i : Nat) : List V := ((marks_Entry k i).map enc_Entry).flatten
theorem own_Entry (M : Mem) (x : ty_Entry.D) (h : (Lit.int .i64 x.2).wf = true) : Own ty_Entry M (enc_Entry x) x [] := ⟨[strV x.1], [.int .i64 x.2], [], [], rfl, ⟨rfl, rfl⟩, ⟨⟨rfl, h⟩, rfl⟩, rfl⟩
theorem ownf_Entry (M : Mem) (cs : List V) (x : ty_Entry.D) (K : List Nat) (h : Own ty_Entry M cs x K) : K = [] := by
  obtain ⟨_, _, _, _, _, ⟨_, rfl⟩, ⟨_, rfl⟩, rfl⟩ := h
  rfl
theorem mcs_Entry_len (k : Int) (i : Nat) : (mcs_Entry k i).length = i * 2 := by
  unfold mcs_Entry
  rw [flat_enc_len (w := 2) (fun x _ => rfl), marks_Entry_len]
theorem mcs_Entry_succ (k : Int) (i : Nat) : mcs_Entry k (i + 1) = mcs_Entry k i ++ [strV (mt (k + 2 * (i : Int)))] ++ [.int .i64 (k + 2 * (i : Int) + 1)] := by
  unfold mcs_Entry marks_Entry
  rw [List.range_succ]
  simp [mk_Entry]
theorem dig_len (n : Nat) : (dig n).length ≤ n := by
  induction n using Nat.strongRecOn with
  | _ n ih =>
    rw [dig]
    split
    · simp
    · have := ih (n / 10) (by omega)
      simp; omega
theorem l_laws_markText (M0 : Mem) : ∀ (n : Nat) (out : List UInt8) (N : Mem), n ≤ 4611686018427387904 → out.length + n ≤ 9223372036854775000 →
    ∃ N', lp (aCall T0) K_laws_markText_0 L_laws_markText_0 [.int .i64 n, und, und, strV out, und, und, und, und, und, und, und, und, und, und, und, und, und, und, und, und] (M0 ++ N) = lp (aCall T0) K_laws_markText_0 L_laws_markText_0 [.int .i64 (0 : Nat), und, und, strV (dig n ++ out), und, und, und, und, und, und, und, und, und, und, und, und, und, und, und, und] (M0 ++ N') := by
  intro n
  induction n using Nat.strongRecOn with
  | _ n ih =>
    intro out N hn hl
    by_cases h0 : n = 0
    · subst h0
      exact ⟨N, by simp [dig]⟩
    · obtain ⟨d, hd⟩ : ∃ d, d = n % 10 := ⟨_, rfl⟩
      obtain ⟨m, hm⟩ : ∃ m, m = n / 10 := ⟨_, rfl⟩
      obtain ⟨N', h⟩ := ih m (by omega) (UInt8.ofNat (48 + d) :: out) (N ++ [⟨[.int .u8 (48 + (d : Int))], 1, 2⟩]) (by omega) (by simp; omega)
      refine ⟨N', ?_⟩
      rw [dig, dif_neg h0, List.append_assoc, ← hd, ← hm]
      simp only [List.singleton_append]
      rw [← h, ← List.append_assoc]
      have q1 : ¬ ((n : Int) ≤ 0) := by omega
      have q2 : 0 < n := by omega
      have q3 : (n : Int).tmod 10 = d := by rw [Int.tmod_eq_emod_of_nonneg (by omega), hd]; simp
      have q4 : IntKind.i64.wrap (48 + (d : Int)) = 48 + d := wrap_i64 (by omega) (by omega)
      have q5 : IntKind.u8.wrap (48 + (d : Int)) = 48 + d := wrap_u8 (by omega) (by omega)
      have q6 : (n : Int).tdiv 10 = m := by rw [Int.tdiv_eq_ediv_of_nonneg (by omega), hm]; simp
      have q7 : IntKind.i64.wrap (m : Int) = m := wrap_i64 (by omega) (by omega)
      have q8 : 1 + out.length ≤ 9223372036854775807 := by omega
      have q9 := sliceCells_one (M := M0 ++ N) (v := .int .u8 (48 + (d : Int))) (w := 1)
      have q10 : (48 + (d : Int)).toNat = 48 + d := by omega
      clear h ih
      generalize M0 ++ N = Q at *
      rw [S_laws_markText_0]; unfold B_laws_markText_0; simp [q1, q2, q3, q4, q5, q6, q7, q8, q9, q10, toBytes]
theorem c_laws_markText (M : Mem) (k : Int) (hk : 0 < k) (hk2 : k ≤ 4611686018427387904) : aCall T0 F_laws_markText [.int .i64 k] M = some (strV (mt k), M) := by
  obtain ⟨n, rfl⟩ : ∃ n : Nat, k = n := ⟨k.toNat, by omega⟩
  obtain ⟨N, h⟩ := l_laws_markText M n [] [] (by omega) (by simp; omega)
  have q1 : ¬ n = 0 := by omega
  have q2 := dig_len n
  have q3 : 1 + (dig n).length ≤ 9223372036854775807 := by omega
  simp only [List.append_nil, Int.natCast_zero, Int.ofNat_zero] at h
  have e0 : strV [] = .string ⟨#[]⟩ := rfl
  rw [e0] at h
  unfold mt
  have e : (n : Int).toNat = n := by omega
  rw [e]
  rw [aCall_eq T_laws_markText]; unfold A_laws_markText C_laws_markText; simp [q1, h]
  rw [S_laws_markText_0]; unfold B_laws_markText_0; simp [q3]
theorem r_laws_markEntryS (M : Mem) (l o n c : Nat) (blk : Blk) (hb : M[l]? = some blk) (h2 : blk.st = 2) (k : Int) (hk : 0 < k) (hk2 : k + 2 * n ≤ 4611686018427387904) (ho : o + n * 2 ≤ blk.cells.length) (i : Nat) (hi : i < n) :
    lp (aCall T0) K_laws_markEntryS_0 L_laws_markEntryS_0 [.slice (some ⟨l, o, none⟩) n c, .int .i64 (k + 2 * (i : Int)), und, und, und, .int .i64 i, und, und, und, und, und, und, und, und, und, und, und, und, und, und, und, und, und, und, und, und, und, und] (M.set l (spB blk o (mcs_Entry k i))) =
    lp (aCall T0) K_laws_markEntryS_0 L_laws_markEntryS_0 [.slice (some ⟨l, o, none⟩) n c, .int .i64 (k + 2 * ((i + 1 : Nat) : Int)), und, und, und, .int .i64 (i + 1 : Nat), und, und, und, und, und, und, und, und, und, und, und, und, und, und, und, und, und, und, und, und, und, und] (M.set l (spB blk o (mcs_Entry k (i + 1)))) := by
  have el := mcs_Entry_len k i
  have e1 := wrn_sp M l o blk hb h2 (mcs_Entry k i) (strV (mt (k + 2 * (i : Int)))) rfl (by omega)
  have e2 := wrn_sp M l o blk hb h2 (mcs_Entry k i ++ [strV (mt (k + 2 * (i : Int)))]) (.int .i64 (k + 2 * (i : Int) + 1)) rfl (by simp; omega)
  rw [← mcs_Entry_succ, List.length_append, el] at e2
  rw [el] at e1
  have e3 : o + (i * 2 + [strV (mt (k + 2 * (i : Int)))].length) = o + i * 2 + 1 := by simp; omega
  rw [e3] at e2
  have e6 : IntKind.i64.wrap ((i : Int) + 1) = i + 1 := wrap_i64 (by omega) (by omega)
  have e7 : IntKind.i64.wrap (k + 2 * (i : Int) + 1) = k + 2 * (i : Int) + 1 := wrap_i64 (by omega) (by omega)
  have e8 : IntKind.i64.wrap (k + 2 * (i : Int) + 1 + 1) = k + 2 * ((i : Int) + 1) := by rw [wrap_i64 (by omega) (by omega)]; omega
  have e9 := fun M => c_laws_markText M (k + 2 * (i : Int)) (by omega) (by omega)
  rw [S_laws_markEntryS_0]; unfold B_laws_markEntryS_0; simp [e1, e2, e6, e7, e8, e9, hi]
theorem wf_range {z : Int} (h : -9223372036854775808 ≤ z ∧ z ≤ 9223372036854775807) : (Lit.int .i64 z).wf = true := by
  simp [Lit.wf, IntKind.min, IntKind.max, IntKind.signed, IntKind.bits]; omega
theorem c_laws_markEntryS (M : Mem) (v : V) (xs : List ty_Entry.D) (L : List Nat) (h : Own (.sl ty_Entry) M [v] xs L) (k : Int) (hk : 0 < k) (hk2 : k + 2 * xs.length ≤ 4611686018427387904) :
    ∃ M', aCall T0 F_laws_markEntryS [v, .int .i64 k] M = some (.int .i64 (k + 2 * xs.length), M') ∧ Upd M M' (· ∈ L) ∧ Own (.sl ty_Entry) M' [v] (marks_Entry k xs.length) L := by
  rcases own_flat ownf_Entry h with ⟨rfl, rfl, hr⟩ | ⟨l, o, c, blk, hx, rfl, hb, h2, hw, ho, rfl⟩
  · refine ⟨M, ?_, ⟨rfl, fun _ _ => rfl, fun l b hb => ⟨b, hb, rfl⟩⟩, .inl ⟨rfl, rfl, hr⟩⟩
    obtain ⟨a, c, rfl⟩ := hr.slen
    rw [aCall_eq T_laws_markEntryS]; unfold A_laws_markEntryS C_laws_markEntryS; simp
    rw [S_laws_markEntryS_0]; unfold B_laws_markEntryS_0; simp
  · have hw2 : ty_Entry.w = 2 := rfl
    rw [hw2] at ho
    have hl := chain (g := fun i : Nat => lp (aCall T0) K_laws_markEntryS_0 L_laws_markEntryS_0 [.slice (some ⟨l, o, none⟩) xs.length c, .int .i64 (k + 2 * (i : Int)), und, und, und, .int .i64 i, und, und, und, und, und, und, und, und, und, und, und, und, und, und, und, und, und, und, und, und, und, und] (M.set l (spB blk o (mcs_Entry k i)))) (n := xs.length) fun i hi => r_laws_markEntryS M l o xs.length c blk hb h2 k hk hk2 ho i hi
    have e0 : mcs_Entry k 0 = [] := rfl
    simp only [Int.natCast_zero, Int.ofNat_zero, e0, spB_nil, set_same hb, Int.mul_zero, Int.add_zero] at hl
    have hlt := (List.getElem?_eq_some_iff.1 hb).1
    refine ⟨M.set l (spB blk o (mcs_Entry k xs.length)), ?_, upd_set hb rfl, ?_⟩
    · rw [aCall_eq T_laws_markEntryS]; unfold A_laws_markEntryS C_laws_markEntryS; simp [hl]
      rw [S_laws_markEntryS_0]; unfold B_laws_markEntryS_0; simp
      exact gc_len (by simp)
    · refine own_sp (blk := blk) (enc := enc_Entry) ?_ (marks_Entry_len _ _) (by simp [hlt, mcs_Entry]) h2 hw (by omega) ?_
      · intro e; have := congrArg List.length e; rw [marks_Entry_len] at this; exact hx (List.length_eq_zero_iff.1 this)
      · intro y hy
        obtain ⟨i, hi, rfl⟩ := List.getElem_of_mem hy
        rw [marks_Entry_get]
        have hi2 : i < xs.length := by rw [marks_Entry_len] at hi; exact hi
        apply own_Entry
        apply wf_range
        show -9223372036854775808 ≤ k + 2 * (i : Int) + 1 ∧ k + 2 * (i : Int) + 1 ≤ 9223372036854775807
        omega
theorem UpdG.grow {M M1 M' : Mem} {L : Nat → Prop} (h : UpdG M1 M' L) (hp : M <+: M1) : UpdG M M' L := by
  refine ⟨Nat.le_trans hp.length_le h.1, fun l hl hlt => ?_, fun l b hb => h.2.2 l b (get_pre hp hb)⟩
  rw [h.2.1 l hl (Nat.lt_of_lt_of_le hlt hp.length_le)]
  obtain ⟨r, rfl⟩ := hp
  rw [List.getElem?_append_left hlt]
def hs (h : Nat) (b : UInt8) : Nat := ((h ^^^ b.toNat) * 16777619) % 4294967296
theorem Rep.inj : ∀ {t : Ty} {M : Mem} {cs : List V} {x y : t.D}, Rep t M cs x → Rep t M cs y → x = y
  | .int _, _, _, _, _, h, h2 => by
    have e := h.1.symm.trans h2.1
    simpa using e
  | .u8, _, _, x, y, h, h2 => by
    have e := h.symm.trans h2
    simp [byteV] at e
    exact UInt8.toNat_inj.1 (by omega)
  | .bool, _, _, _, _, h, h2 => by
    have e := h.symm.trans h2
    simpa using e
  | .str, _, _, _, _, h, h2 => by
    have e := h.symm.trans h2
    simpa using e
  | .sl t, M, cs, x, y, h, h2 => by
    rcases h.slice with ⟨e, hx⟩ | ⟨l, o, c, e⟩
    · rcases h2.slice with ⟨e2, hy⟩ | ⟨l2, o2, c2, e2⟩
      · rw [hx, hy]
      · rw [e] at e2; simp at e2
    · rcases h2.slice with ⟨e2, hy⟩ | ⟨l2, o2, c2, e2⟩
      · rw [e] at e2; simp at e2
      · rw [e] at e2 h
        simp only [List.cons.injEq, Value.slice.injEq, Option.some.injEq, Addr.mk.injEq, and_true] at e2
        obtain ⟨⟨rfl, rfl⟩, hl, rfl⟩ := e2
        rw [e] at h2
        apply List.ext_getElem hl
        intro i h3 h4
        obtain ⟨d1, r1, q1⟩ := h.elem (i := i) (x := x[i]) (by simp [h3])
        obtain ⟨d2, r2, q2⟩ := h2.elem (i := i) (x := y[i]) (by simp [h4])
        rw [r1] at r2
        cases r2
        exact q1.inj q2
  | .pr a b, _, _, x, y, h, h2 => by
    obtain ⟨c1, c2, e, p1, p2⟩ := h
    obtain ⟨d1, d2, e2, q1, q2⟩ := h2
    rw [e] at e2
    obtain ⟨rfl, rfl⟩ := List.append_inj e2 (by rw [p1.len, q1.len])
    exact Prod.ext (p1.inj q1) (p2.inj q2)
theorem gc_mark {M M' : Mem} {K : Nat → Prop} (hu : UpdG M M' K) {t : Ty} {cs : List V} {x y : t.D} {L : List Nat} (h : Own t M cs x L) (o : Own t M' cs y L) (v : V) : ∃ M2, gc M (some (v, M')) = some (v, M2) ∧ UpdG M M2 K ∧ Own t M2 cs y L := by
  by_cases hp : M <+: M'
  · by_cases hs : scal v = true
    · refine ⟨M, ?_, pre_g (List.prefix_refl _) _, ?_⟩
      · simp only [gc]
        exact if_pos ⟨hs, hp⟩
      · have e := Rep.inj (h.rep.mono hp) o.rep
        rw [← e]
        exact h
    · exact ⟨M', by simp only [gc]; exact if_neg (fun q => hs q.1), hu, o⟩
  · exact ⟨M', by simp only [gc]; exact if_neg (fun q => hp q.2), hu, o⟩
theorem d_laws_markShelf (M : Mem) (v : V) (xs : List ty_Entry.D) (L : List Nat) (h : Own (.sl ty_Entry) M [v] xs L) (k : Int) (hk : 0 < k) (hk2 : k + 2 * xs.length ≤ 4611686018427387904) :
    ∃ M', aCall T0 F_laws_markShelf [.agg #[v], .int .i64 k] M = some (.int .i64 (k + 2 * xs.length), M') ∧ UpdG M M' (· ∈ L) ∧ Own (.sl ty_Entry) M' [v] (marks_Entry k xs.length) L := by
  obtain ⟨M', e, u, o⟩ := c_laws_markEntryS (M ++ [⟨[v], 1, 2⟩]) v xs L (h.grow (List.prefix_append _ _)) k hk hk2
  have hu := UpdG.grow (Upd.g u) (List.prefix_append M [⟨[v], 1, 2⟩])
  obtain ⟨M2, g, u2, o2⟩ := gc_mark hu h o (.int .i64 (k + 2 * xs.length))
  refine ⟨M2, ?_, u2, o2⟩
  obtain ⟨a, c, rfl⟩ := h.rep.slen
  rw [aCall_eq T_laws_markShelf]; unfold A_laws_markShelf C_laws_markShelf; simp [e, g]
theorem rep_Entry {M : Mem} {cs : List V} {x : ty_Entry.D} (h : Rep ty_Entry M cs x) : cs = enc_Entry x := by
  obtain ⟨_, _, rfl, rfl, ⟨rfl, _⟩⟩ := h
  rfl
theorem at_Entry {M : Mem} {a : Option Addr} {n c : Nat} {xs : List ty_Entry.D} (h : Rep (.sl ty_Entry) M [.slice a n c] xs) {i : Nat} (hi : i < xs.length) : ∃ l o, a = some ⟨l, o, none⟩ ∧ Rep ty_Entry M (enc_Entry xs[i]) xs[i] ∧ rdn M l (o + i * 2) 2 = some (enc_Entry xs[i]) ∧ rd1 M l (o + i * 2) = some (strV xs[i].1) ∧ rd1 M l (o + i * 2 + 1) = some (.int .i64 xs[i].2) := by
  obtain ⟨_, l, o, rfl, cs, hrd, hrep⟩ := rep_at h hi
  have hcs := rep_Entry hrep
  subst hcs
  have hw : ty_Entry.w = 2 := rfl
  rw [hw] at hrd
  exact ⟨l, o, rfl, hrep, hrd, rd1_of_rdn hrd (k := 0) rfl, rd1_of_rdn hrd (k := 1) rfl⟩
theorem c_laws_heldEntryS (M : Mem) (v : V) (k : Int) (n : Nat) (h : Rep (.sl ty_Entry) M [v] (marks_Entry k n)) (hk : 0 < k) (hk2 : k + 2 * n ≤ 4611686018427387904) : aCall T0 F_laws_heldEntryS [v, .int .i64 k] M = some (.int .i64 (k + 2 * n), M) := by
  obtain ⟨a, c, rfl⟩ := h.slen
  have hlen := marks_Entry_len k n
  have hc := chain (g := fun i : Nat => lp (aCall T0) K_laws_heldEntryS_0 L_laws_heldEntryS_0 [.slice a (marks_Entry k n).length c, .int .i64 (k + 2 * (i : Int)), und, und, und, .int .i64 i, und, und, und, und, und, und, und, und, und, und, und, und, und, und, und, und, und, und, und, und, und, und, und, und, und, und] M) (n := n) fun i hi => by
    obtain ⟨l, o, rfl, _, _, hf0, hf1⟩ := at_Entry h (i := i) (by omega)
    rw [marks_Entry_get] at hf0 hf1
    have e1 : (mk_Entry (k + 2 * (i : Int))).1 = mt (k + 2 * (i : Int)) := rfl
    have e2 : (mk_Entry (k + 2 * (i : Int))).2 = k + 2 * (i : Int) + 1 := rfl
    rw [e1] at hf0
    rw [e2] at hf1
    have e6 : IntKind.i64.wrap ((i : Int) + 1) = i + 1 := wrap_i64 (by omega) (by omega)
    have e7 : IntKind.i64.wrap (k + 2 * (i : Int) + 1) = k + 2 * (i : Int) + 1 := wrap_i64 (by omega) (by omega)
    have e8 : IntKind.i64.wrap (k + 2 * (i : Int) + 1 + 1) = k + 2 * ((i : Int) + 1) := by rw [wrap_i64 (by omega) (by omega)]; omega
    have e9 := fun M => c_laws_markText M (k + 2 * (i : Int)) (by omega) (by omega)
    rw [hlen]
    rw [S_laws_heldEntryS_0]; unfold B_laws_heldEntryS_0; simp [hf0, hf1, hi, e6, e7, e8, e9]
  simp only [Int.natCast_zero, Int.ofNat_zero, Int.mul_zero, Int.add_zero] at hc
  rw [hlen] at hc ⊢
  rw [aCall_eq T_laws_heldEntryS]; unfold A_laws_heldEntryS C_laws_heldEntryS; simp [hc]
  rw [S_laws_heldEntryS_0]; unfold B_laws_heldEntryS_0; simp
theorem d_laws_heldShelf (M : Mem) (v : V) (k : Int) (n : Nat) (h : Rep (.sl ty_Entry) M [v] (marks_Entry k n)) (hk : 0 < k) (hk2 : k + 2 * n ≤ 4611686018427387904) : aCall T0 F_laws_heldShelf [.agg #[v], .int .i64 k] M = some (.int .i64 (k + 2 * n), M) := by
  have e := c_laws_heldEntryS (M ++ [⟨[v], 1, 2⟩]) v k n (h.mono (List.prefix_append _ _)) hk hk2
  obtain ⟨a, c, rfl⟩ := h.slen
  have e2 : ¬ (k + 2 * (n : Int) < 0) := by omega
  rw [aCall_eq T_laws_heldShelf]; unfold A_laws_heldShelf C_laws_heldShelf; simp [e, e2]
theorem rdn_box {M : Mem} {l n : Nat} {cs : List V} (h : M[l]? = some ⟨cs, 1, 2⟩) (hn : n = cs.length) : rdn M l 0 n = some cs := by
  unfold rdn
  rw [h]
  simp [hn]
theorem rep_emptyg {t : Ty} {M M' : Mem} {L : Nat → Prop} (hu : UpdG M M' L) {cs : List V} (h : Rep (.sl t) M cs []) : Rep (.sl t) M' cs [] := by
  rcases h with h | ⟨l, o, c, blk, css, h1, h2, h3, h4, h5, h6, h7⟩
  · exact .inl h
  · obtain ⟨b', hb, hw⟩ := hu.2.2 l blk h2
    have hc : css = [] := List.length_eq_zero_iff.1 h5
    subst hc
    exact .inr ⟨l, o, c, b', [], h1, hb, .inr (.inr rfl), by rw [hw, h4], rfl, fun i ds x hd => by simp at hd, by simp⟩
theorem Own.updg {M M' : Mem} {K : Nat → Prop} (hu : UpdG M M' K) : ∀ {t : Ty} {cs : List V} {x : t.D} {L : List Nat}, Own t M cs x L → (∀ l ∈ L, ¬ K l) → Own t M' cs x L
  | .int _, _, _, _, h, _ => h
  | .u8, _, _, _, h, _ => h
  | .bool, _, _, _, h, _ => h
  | .str, _, _, _, h, _ => h
  | .sl t, _, _, _, h, hk => by
    rcases h with ⟨rfl, hL, h⟩ | ⟨l, o, c, blk, css, Ls, hne, h1, h2, h3, h4, h5, hL, h6, h7, rfl⟩
    · exact .inl ⟨rfl, hL, rep_emptyg hu h⟩
    · refine .inr ⟨l, o, c, blk, css, Ls, hne, h1, by rw [hu.2.1 l (hk l (by simp)) (List.getElem?_eq_some_iff.1 h2).1, h2], h3, h4, h5, hL, fun i ds x J hd hx hJ => ?_, h7, rfl⟩
      exact (h6 i ds x J hd hx hJ).updg hu (fun j hj => hk j (List.mem_cons_of_mem _ (List.mem_flatten.2 ⟨J, List.mem_of_getElem? hJ, hj⟩)))
  | .pr a b, _, x, _, h, hk => by
    obtain ⟨c1, c2, L1, L2, e, h1, h2, rfl⟩ := h
    exact ⟨c1, c2, L1, L2, e, h1.updg hu (fun l hl => hk l (List.mem_append_left _ hl)), h2.updg hu (fun l hl => hk l (List.mem_append_right _ hl)), rfl⟩
theorem UpdG.pre {M0 M M' : Mem} {K : Nat → Prop} (hu : UpdG M M' K) (hp : M0 <+: M) (hk : ∀ l, K l → M0.length ≤ l) : M0 <+: M' := by
  have hl : M0.length ≤ M'.length := Nat.le_trans hp.length_le hu.1
  rw [List.prefix_iff_eq_take]
  apply List.ext_getElem?
  intro i
  rw [List.getElem?_take]
  split
  · rename_i hi
    rw [hu.2.1 i (fun h => by have := hk i h; omega) (Nat.lt_of_lt_of_le hi hp.length_le)]
    obtain ⟨r, rfl⟩ := hp
    rw [List.getElem?_append_left hi]
  · rename_i hi
    rw [List.getElem?_eq_none (by omega)]
theorem deq_Entry (x y : ty_Entry.D) : decide (x = y) = (decide (x.1 = y.1) && (decide (x.2 = y.2))) := by
  obtain ⟨x0, x1⟩ := x
  obtain ⟨y0, y1⟩ := y
  simp
theorem c_laws_eqEntry (M : Mem) (x y : ty_Entry.D) : aCall T0 F_laws_eqEntry [.agg (enc_Entry x).toArray, .agg (enc_Entry y).toArray] M = some (.bool (decide (x = y)), M) := by
  rw [deq_Entry]
  rw [aCall_eq T_laws_eqEntry]; unfold A_laws_eqEntry C_laws_eqEntry; simp
  repeat' ((first | rw [selO_some] | rw [condR_bool] | rw [selD_some]); split <;> rename_i hq <;> (have hq2 := hq) <;> (try simp at hq2) <;> (try simp [*]))
theorem r_laws_eqEntryS (M : Mem) (a b : Option Addr) (c d : Nat) (xs ys : List ty_Entry.D) (h : Rep (.sl ty_Entry) M [.slice a xs.length c] xs) (h2 : Rep (.sl ty_Entry) M [.slice b ys.length d] ys) (hn : xs.length ≤ 9223372036854775807) (i : Nat) (hi : i < xs.length) (hj : i < ys.length) (he : xs[i] = ys[i]) :
    lp (aCall T0) K_laws_eqEntryS_0 L_laws_eqEntryS_0 [.slice a xs.length c, .slice b ys.length d, und, und, und, .int .i64 i, und, und, und, und, und, und, und, und, und, und, und, und, und, und, und, und, und, und, und, und, und] M = lp (aCall T0) K_laws_eqEntryS_0 L_laws_eqEntryS_0 [.slice a xs.length c, .slice b ys.length d, und, und, und, .int .i64 (i + 1 : Nat), und, und, und, und, und, und, und, und, und, und, und, und, und, und, und, und, und, und, und, und, und] M := by
  obtain ⟨_, l, o, rfl, cs, hrd, hrep⟩ := rep_at h hi
  obtain ⟨_, l2, o2, rfl, ds, hrd2, hrep2⟩ := rep_at h2 hj
  have hcs := rep_Entry hrep
  subst hcs
  have hds := rep_Entry hrep2
  subst hds
  have hw : ty_Entry.w = 2 := rfl
  rw [hw] at hrd hrd2
  have e6 : IntKind.i64.wrap ((i : Int) + 1) = i + 1 := wrap_i64 (by omega) (by omega)
  have ec := fun M => c_laws_eqEntry M ys[i] ys[i]
  rw [S_laws_eqEntryS_0]; unfold B_laws_eqEntryS_0; simp [hrd, hrd2, ec, e6, hi, hj, he]
theorem x_laws_eqEntryS (M : Mem) (a b : Option Addr) (c d : Nat) (xs ys : List ty_Entry.D) (h : Rep (.sl ty_Entry) M [.slice a xs.length c] xs) (h2 : Rep (.sl ty_Entry) M [.slice b ys.length d] ys) (hn : xs.length ≤ 9223372036854775807) (i : Nat) (hi : i < xs.length) (hj : i < ys.length) (he : xs[i] ≠ ys[i]) (k : ACode) :
    thenF M [.tmp 4] (thenS (blockR 0 (lp (aCall T0) K_laws_eqEntryS_0 L_laws_eqEntryS_0 [.slice a xs.length c, .slice b ys.length d, und, und, und, .int .i64 i, und, und, und, und, und, und, und, und, und, und, und, und, und, und, und, und, und, und, und, und, und] M)) (aCall T0) k) = some (.bool false, M) := by
  obtain ⟨_, l, o, rfl, cs, hrd, hrep⟩ := rep_at h hi
  obtain ⟨_, l2, o2, rfl, ds, hrd2, hrep2⟩ := rep_at h2 hj
  have hcs := rep_Entry hrep
  subst hcs
  have hds := rep_Entry hrep2
  subst hds
  have hw : ty_Entry.w = 2 := rfl
  rw [hw] at hrd hrd2
  have ec := fun M => c_laws_eqEntry M xs[i] ys[i]
  rw [S_laws_eqEntryS_0]; unfold B_laws_eqEntryS_0; simp [hrd, hrd2, ec, hi, hj, he]
theorem c_laws_eqEntryS (M : Mem) (v u : V) (xs ys : List ty_Entry.D) (h : Rep (.sl ty_Entry) M [v] xs) (h2 : Rep (.sl ty_Entry) M [u] ys) (hn : xs.length ≤ 9223372036854775807) : aCall T0 F_laws_eqEntryS [v, u] M = some (.bool (decide (xs = ys)), M) := by
  obtain ⟨a, c, rfl⟩ := h.slen
  obtain ⟨b, d, rfl⟩ := h2.slen
  by_cases hl : xs.length = ys.length
  · rcases list_eq_iff hl with he | ⟨j, hj, h3, h4⟩
    · subst he
      have hc := chain (g := fun i : Nat => lp (aCall T0) K_laws_eqEntryS_0 L_laws_eqEntryS_0 [.slice a xs.length c, .slice b xs.length d, und, und, und, .int .i64 i, und, und, und, und, und, und, und, und, und, und, und, und, und, und, und, und, und, und, und, und, und] M) (n := xs.length) fun i hi => r_laws_eqEntryS M a b c d xs xs h h2 hn i hi hi rfl
      simp only [Int.natCast_zero, Int.ofNat_zero] at hc
      rw [aCall_eq T_laws_eqEntryS]; unfold A_laws_eqEntryS C_laws_eqEntryS; simp [hc]
      rw [S_laws_eqEntryS_0]; unfold B_laws_eqEntryS_0; simp
    · have hc := chain (g := fun i : Nat => lp (aCall T0) K_laws_eqEntryS_0 L_laws_eqEntryS_0 [.slice a xs.length c, .slice b ys.length d, und, und, und, .int .i64 i, und, und, und, und, und, und, und, und, und, und, und, und, und, und, und, und, und, und, und, und, und] M) (n := j) fun i hi => r_laws_eqEntryS M a b c d xs ys h h2 hn i (by omega) (by omega) (h3 i (by omega) hi)
      simp only [Int.natCast_zero, Int.ofNat_zero] at hc
      have hx := x_laws_eqEntryS M a b c d xs ys h h2 hn j hj (by omega) h4
      have hne : xs ≠ ys := fun e => h4 (by simp [e])
      simp only [← hl] at hc hx
      simp only [← hl]
      rw [aCall_eq T_laws_eqEntryS]; unfold A_laws_eqEntryS C_laws_eqEntryS; simp [hc, hx, hne]
  · have hne : xs ≠ ys := fun e => hl (by rw [e])
    have hl2 : ¬ ((xs.length : Int) = ys.length) := by omega
    rw [aCall_eq T_laws_eqEntryS]; unfold A_laws_eqEntryS C_laws_eqEntryS; simp [hl2, hl, hne]
theorem c_laws_eqShelf (M : Mem) (v u : V) (xs ys : List ty_Entry.D) (h : Rep (.sl ty_Entry) M [v] xs) (h2 : Rep (.sl ty_Entry) M [u] ys) (hn : xs.length ≤ 9223372036854775807) : aCall T0 F_laws_eqShelf [.agg #[v], .agg #[u]] M = some (.bool (decide (xs = ys)), M) := by
  have e := c_laws_eqEntryS (M ++ [⟨[v], 1, 2⟩, ⟨[u], 1, 2⟩]) v u xs ys (h.mono (List.prefix_append _ _)) (h2.mono (List.prefix_append _ _)) hn
  obtain ⟨a, c, rfl⟩ := h.slen
  obtain ⟨b, d, rfl⟩ := h2.slen
  rw [aCall_eq T_laws_eqShelf]; unfold A_laws_eqShelf C_laws_eqShelf; simp [e]
  by_cases hxy : xs = ys
  · simp [hxy]
  · simp [hxy]
theorem gc_ex (M M' : Mem) (v : V) : ∃ X, gc M (some (v, M')) = some (v, X) := by
  simp only [gc]
  split
  · exact ⟨_, rfl⟩
  · exact ⟨_, rfl⟩
def unL (ys : List UInt8) : Nat := match ys with
  | y :: _ => y.toNat
  | [] => 0
def unC (ys : List UInt8) : List UInt8 := (ys.drop 1).take (unL ys)
def okByte (b : UInt8) : Bool := decide (97 ≤ (b.toNat : Int)) && decide ((b.toNat : Int) ≤ 122)
def wordB (w : List UInt8) : Bool := w.all okByte && (decide (1 ≤ (w.length : Int)) && decide ((w.length : Int) ≤ 32))
def padL (w : List UInt8) : List UInt8 := if wordB w = true then UInt8.ofNat w.length :: (w ++ List.replicate (32 - w.length) 0) else List.replicate 33 0
def unB (ys : List UInt8) : Bool := decide (unL ys ≤ 32) && (wordB (unC ys) && decide (padL (unC ys) = ys))
def unW (ys : List UInt8) : List UInt8 := if unB ys = true then unC ys else []
def atN (ys : List UInt8) (i : Nat) : Nat := (ys.getD i 0).toNat
def eI (ys : List UInt8) (p : Nat) : ty_Entry.D := (unW ((ys.drop (p + 3)).take 33), ((256 * atN ys (p + 1) + atN ys (p + 2) : Nat) : Int))
def listI (ys : List UInt8) : List ty_Entry.D := [eI ys 0, eI ys 36, eI ys 72, eI ys 108]
def noneB (e : ty_Entry.D) : Bool := decide (e.1 = []) && decide (e.2 = 0)
def entB (e : ty_Entry.D) : Bool := wordB e.1 && (decide (0 ≤ (e.2 : Int)) && decide ((e.2 : Int) ≤ 65535))
def isW (w : List UInt8) (e : ty_Entry.D) : Bool := decide (e.1 = w)
def slotB (xs : List ty_Entry.D) (i : Nat) : Bool := match xs[i]? with
  | some e => noneB e || (entB e && decide (idx (isW e.1) xs = i))
  | none => true
def shelfB (xs : List ty_Entry.D) : Bool := decide (xs.length = 4) && (List.range xs.length).all (slotB xs)
def hiB (e : ty_Entry.D) : UInt8 := UInt8.ofNat (e.2.toNat / 256)
def loB (e : ty_Entry.D) : UInt8 := UInt8.ofNat (e.2.toNat % 256)
def liveB (e : ty_Entry.D) : UInt8 := if noneB e = true then 0 else 1
def recY (e : ty_Entry.D) : List UInt8 := [liveB e] ++ [hiB e, loB e] ++ padL e.1
def readOk (ys : List UInt8) : Bool := decide (ys.length = 144) && (shelfB (listI ys) && decide (((listI ys).map recY).flatten = ys))
def readX (ys : List UInt8) : List ty_Entry.D := if readOk ys = true then listI ys else []
theorem pre_set {M0 M : Mem} {l : Nat} {b : Blk} (h : M0 <+: M) (hl : M0.length ≤ l) : M0 <+: M.set l b := by
  obtain ⟨r, rfl⟩ := h
  rw [set_app hl]
  exact List.prefix_append _ _
theorem box_set {M : Mem} {l : Nat} {cs ds : List V} (hb : M[l]? = some ⟨cs, 1, 2⟩) (hl : ds.length = cs.length) (h1 : ds.all one = true) : wrn M l 0 ds = some (M.set l ⟨ds, 1, 2⟩) := by
  unfold wrn
  rw [hb]
  simp only
  rw [if_pos ⟨trivial, by omega, h1⟩]
  congr 2
  unfold splice
  simp [hl]
theorem box_get {M : Mem} {l n : Nat} {cs ds : List V} (hb : M[l]? = some ⟨cs, 1, 2⟩) (hn : n = ds.length) : rdn (M.set l ⟨ds, 1, 2⟩) l 0 n = some ds := by
  have hlt := (List.getElem?_eq_some_iff.1 hb).1
  exact rdn_box (by simp [hlt]) hn
theorem slots_cases (xs : List ty_Entry.D) : ((List.range xs.length).all (slotB xs) = true ∧ ∀ i, i < xs.length → slotB xs i = true) ∨ ((List.range xs.length).all (slotB xs) = false ∧ ∃ j, j < xs.length ∧ (∀ i, i < j → slotB xs i = true) ∧ slotB xs j = false) := by
  rcases first_bad (slotB xs) xs.length with h | ⟨j, h1, h2, h3⟩
  · left
    exact ⟨by rw [List.all_eq_true]; intro i hi; exact h i (by simpa using hi), h⟩
  · right
    refine ⟨?_, j, h1, h2, h3⟩
    rw [List.all_eq_false]
    exact ⟨j, by simpa using h1, by simp [h3]⟩
theorem c_impl_within (M : Mem) (x a b : Int) : aCall T0 F_impl_within [.int .i64 x, .int .i64 a, .int .i64 b] M = some (.bool (decide (a ≤ x) && decide (x ≤ b)), M) := by
  rw [aCall_eq T_impl_within]; unfold A_impl_within C_impl_within; simp
  repeat' ((first | rw [selO_some] | rw [condR_bool] | rw [selD_some]); split <;> rename_i hq <;> (have hq2 := hq) <;> (try simp at hq2) <;> (try simp [*]))
theorem all_false {w : List UInt8} {j : Nat} (hj : j < w.length) (h : okByte w[j] = false) : w.all okByte = false := by
  rw [List.all_eq_false]
  exact ⟨w[j], List.getElem_mem hj, by simp [h]⟩
theorem all_true {w : List UInt8} (h : ∀ i (hi : i < w.length), okByte w[i] = true) : w.all okByte = true := by
  rw [List.all_eq_true]
  intro b hb
  obtain ⟨i, hi, rfl⟩ := List.getElem_of_mem hb
  exact h i hi
theorem first_byte (w : List UInt8) : w.all okByte = true ∨ (w.all okByte = false ∧ ∃ j, ∃ hj : j < w.length, (∀ i (hi : i < w.length), i < j → okByte w[i] = true) ∧ okByte w[j] = false) := by
  rcases first_bad (fun i => (w[i]?).any okByte) w.length with h | ⟨j, h1, h2, h3⟩
  · left; exact all_true fun i hi => by have := h i hi; simpa [hi] using this
  · right
    have h3' : okByte w[j] = false := by simpa [h1] using h3
    exact ⟨all_false h1 h3', j, h1, fun i hi hij => by have := h2 i hij; simpa [hi] using this, h3'⟩
theorem okByte_t {b : UInt8} (h : okByte b = true) : ¬ ((b.toNat : Int) < 97) ∧ ¬ (122 < (b.toNat : Int)) := by
  simp only [okByte, Bool.and_eq_true, decide_eq_true_eq] at h; omega
theorem r_impl_isWord (M : Mem) (w : List UInt8) (hw : w.length ≤ 9223372036854775807) (i : Nat) (hi : i < w.length) (hb : okByte w[i] = true) :
    lp (aCall T0) K_impl_isWord_0 L_impl_isWord_0 [strV w, und, und, und, und, .int .i64 w.length, .int .i64 i, und, und, und, und, und, und, und, und, und, und, und, und, und, und, und, und] M = lp (aCall T0) K_impl_isWord_0 L_impl_isWord_0 [strV w, und, und, und, und, .int .i64 w.length, .int .i64 (i + 1 : Nat), und, und, und, und, und, und, und, und, und, und, und, und, und, und, und, und] M := by
  obtain ⟨h1, h2⟩ := okByte_t hb
  rw [S_impl_isWord_0]; unfold B_impl_isWord_0; simp [hi, byteV, h1, h2]
  rw [wrap_i64 (by omega) (by omega)]
theorem okByte_f {b : UInt8} (h : okByte b = false) : (b.toNat : Int) < 97 ∨ (¬ ((b.toNat : Int) < 97) ∧ (122 < (b.toNat : Int))) := by
  simp only [okByte, Bool.and_eq_false_iff, decide_eq_false_iff_not] at h; omega
theorem x_impl_isWord (M : Mem) (w : List UInt8) (hw : w.length ≤ 9223372036854775807) (i : Nat) (hi : i < w.length) (hb : okByte w[i] = false) (k : ACode) :
    thenF M [.tmp 2] (thenS (blockR 0 (lp (aCall T0) K_impl_isWord_0 L_impl_isWord_0 [strV w, und, und, und, und, .int .i64 w.length, .int .i64 i, und, und, und, und, und, und, und, und, und, und, und, und, und, und, und, und] M)) (aCall T0) k) = some (.bool false, M) := by
  rcases okByte_f hb with h1 | ⟨h1, h2⟩
  · rw [S_impl_isWord_0]; unfold B_impl_isWord_0; simp [hi, byteV, h1]
  · rw [S_impl_isWord_0]; unfold B_impl_isWord_0; simp [hi, byteV, h1, h2]
theorem c_impl_isWord (M : Mem) (w : List UInt8) (hw : w.length ≤ 9223372036854775807) : aCall T0 F_impl_isWord [strV w] M = some (.bool (wordB w), M) := by
  unfold wordB
  rcases first_byte w with ha | ⟨ha, j, hj, h1, h2⟩
  · have hl := chain (g := fun i : Nat => lp (aCall T0) K_impl_isWord_0 L_impl_isWord_0 [strV w, und, und, und, und, .int .i64 w.length, .int .i64 i, und, und, und, und, und, und, und, und, und, und, und, und, und, und, und, und] M) (n := w.length) fun i hi => r_impl_isWord M w hw i hi (List.all_eq_true.1 ha _ (List.getElem_mem hi))
    simp only [Int.natCast_zero, Int.ofNat_zero] at hl
    rw [ha]
    rw [aCall_eq T_impl_isWord]; unfold A_impl_isWord C_impl_isWord; simp [hl]
    rw [S_impl_isWord_0]; unfold B_impl_isWord_0; simp [c_impl_within]
  · have hl := chain (g := fun i : Nat => lp (aCall T0) K_impl_isWord_0 L_impl_isWord_0 [strV w, und, und, und, und, .int .i64 w.length, .int .i64 i, und, und, und, und, und, und, und, und, und, und, und, und, und, und, und, und] M) (n := j) fun i hi => r_impl_isWord M w hw i (by omega) (h1 i (by omega) hi)
    simp only [Int.natCast_zero, Int.ofNat_zero] at hl
    rw [ha]
    rw [aCall_eq T_impl_isWord]; unfold A_impl_isWord C_impl_isWord; simp [hl, x_impl_isWord M w hw j hj h2]
theorem c_impl_isEntry (M : Mem) (e : ty_Entry.D) (he : e.1.length ≤ 9223372036854775807) : aCall T0 F_impl_isEntry [.agg (enc_Entry e).toArray] M = some (.bool (entB e), M) := by
  unfold entB
  have h := fun M => c_impl_isWord M e.1 he
  rw [aCall_eq T_impl_isEntry]; unfold A_impl_isEntry C_impl_isEntry; simp [h, c_impl_within]
  repeat' ((first | rw [selO_some] | rw [condR_bool] | rw [selD_some]); split <;> rename_i hq <;> (have hq2 := hq) <;> (try simp at hq2) <;> (try simp [*, h, c_impl_within]))
theorem r_idx_Entry (M : Mem) (a : Option Addr) (c : Nat) (xs : List ty_Entry.D) (h : Rep (.sl ty_Entry) M [.slice a xs.length c] xs) (hn : xs.length ≤ 9223372036854775807) (f : FuncId) (cap : List V) (p : ty_Entry.D → Bool)
    (hp : ∀ i (hi : i < xs.length), aCall T0 f (.agg (enc_Entry xs[i]).toArray :: cap) M = some (.bool (p xs[i]), M)) (i : Nat) (hi : i < xs.length) (hq : p xs[i] = false) :
    lp (aCall T0) K_slices_IndexFunc_impl_Entry_impl_Entry_0 L_slices_IndexFunc_impl_Entry_impl_Entry_0 [.slice a xs.length c, .func (.func f) #[] cap.toArray, und, und, und, und, und, .int .i64 xs.length, .int .i64 i, und, und, und, und, und, und, und, und, und, und] M =
    lp (aCall T0) K_slices_IndexFunc_impl_Entry_impl_Entry_0 L_slices_IndexFunc_impl_Entry_impl_Entry_0 [.slice a xs.length c, .func (.func f) #[] cap.toArray, und, und, und, und, und, .int .i64 xs.length, .int .i64 (i + 1 : Nat), und, und, und, und, und, und, und, und, und, und] M := by
  obtain ⟨l, o, rfl, hrep, hrd, _⟩ := at_Entry h hi
  have ec := hp i hi
  have e6 : IntKind.i64.wrap ((i : Int) + 1) = i + 1 := wrap_i64 (by omega) (by omega)
  rw [S_slices_IndexFunc_impl_Entry_impl_Entry_0]; unfold B_slices_IndexFunc_impl_Entry_impl_Entry_0; simp [hrd, ec, e6, hi, hq]
theorem x_idx_Entry (M : Mem) (a : Option Addr) (c : Nat) (xs : List ty_Entry.D) (h : Rep (.sl ty_Entry) M [.slice a xs.length c] xs) (f : FuncId) (cap : List V) (p : ty_Entry.D → Bool)
    (hp : ∀ i (hi : i < xs.length), aCall T0 f (.agg (enc_Entry xs[i]).toArray :: cap) M = some (.bool (p xs[i]), M)) (i : Nat) (hi : i < xs.length) (hq : p xs[i] = true) (k : ACode) :
    thenF M [.tmp 4] (thenS (blockR 0 (lp (aCall T0) K_slices_IndexFunc_impl_Entry_impl_Entry_0 L_slices_IndexFunc_impl_Entry_impl_Entry_0 [.slice a xs.length c, .func (.func f) #[] cap.toArray, und, und, und, und, und, .int .i64 xs.length, .int .i64 i, und, und, und, und, und, und, und, und, und, und] M)) (aCall T0) k) = some (.int .i64 i, M) := by
  obtain ⟨l, o, rfl, hrep, hrd, _⟩ := at_Entry h hi
  have ec := hp i hi
  rw [S_slices_IndexFunc_impl_Entry_impl_Entry_0]; unfold B_slices_IndexFunc_impl_Entry_impl_Entry_0; simp [hrd, ec, hi, hq]
theorem c_idx_Entry (M : Mem) (v : V) (xs : List ty_Entry.D) (h : Rep (.sl ty_Entry) M [v] xs) (hn : xs.length ≤ 9223372036854775807) (f : FuncId) (cap : List V) (p : ty_Entry.D → Bool)
    (hp : ∀ i (hi : i < xs.length), aCall T0 f (.agg (enc_Entry xs[i]).toArray :: cap) M = some (.bool (p xs[i]), M)) :
    aCall T0 F_slices_IndexFunc_impl_Entry_impl_Entry [v, .func (.func f) #[] cap.toArray] M = some (.int .i64 (idx p xs), M) := by
  obtain ⟨a, c, rfl⟩ := h.slen
  rcases idx_cases p xs with ⟨ha, h1⟩ | ⟨j, hj, ha, h1, h2⟩
  · have hc := chain (g := fun i : Nat => lp (aCall T0) K_slices_IndexFunc_impl_Entry_impl_Entry_0 L_slices_IndexFunc_impl_Entry_impl_Entry_0 [.slice a xs.length c, .func (.func f) #[] cap.toArray, und, und, und, und, und, .int .i64 xs.length, .int .i64 i, und, und, und, und, und, und, und, und, und, und] M) (n := xs.length) fun i hi => r_idx_Entry M a c xs h hn f cap p hp i hi (h1 i hi)
    simp only [Int.natCast_zero, Int.ofNat_zero] at hc
    rw [ha]
    rw [aCall_eq T_slices_IndexFunc_impl_Entry_impl_Entry]; unfold A_slices_IndexFunc_impl_Entry_impl_Entry C_slices_IndexFunc_impl_Entry_impl_Entry; simp [hc]
    rw [S_slices_IndexFunc_impl_Entry_impl_Entry_0]; unfold B_slices_IndexFunc_impl_Entry_impl_Entry_0; simp
  · have hc := chain (g := fun i : Nat => lp (aCall T0) K_slices_IndexFunc_impl_Entry_impl_Entry_0 L_slices_IndexFunc_impl_Entry_impl_Entry_0 [.slice a xs.length c, .func (.func f) #[] cap.toArray, und, und, und, und, und, .int .i64 xs.length, .int .i64 i, und, und, und, und, und, und, und, und, und, und] M) (n := j) fun i hi => r_idx_Entry M a c xs h hn f cap p hp i (by omega) (h1 i (by omega) hi)
    simp only [Int.natCast_zero, Int.ofNat_zero] at hc
    rw [ha]
    rw [aCall_eq T_slices_IndexFunc_impl_Entry_impl_Entry]; unfold A_slices_IndexFunc_impl_Entry_impl_Entry C_slices_IndexFunc_impl_Entry_impl_Entry; simp [hc, x_idx_Entry M a c xs h f cap p hp j hj h2]
theorem c_impl_shelfFind_1 (M : Mem) (e : ty_Entry.D) (p : Nat) (w : List UInt8) (hp : rd1 M p 0 = some (strV w)) : aCall T0 F_impl_shelfFind_1 [.agg (enc_Entry e).toArray, .pointer (some ⟨p, 0, none⟩)] M = some (.bool (isW w e), M) := by
  have h2 : ∀ N, rd1 (M ++ N) p 0 = some (strV w) := fun N => rd1_old hp
  unfold isW
  rw [aCall_eq T_impl_shelfFind_1]; unfold A_impl_shelfFind_1 C_impl_shelfFind_1; simp [h2]
theorem c_impl_shelfFind (M : Mem) (v : V) (xs : List ty_Entry.D) (h : Rep (.sl ty_Entry) M [v] xs) (hn : xs.length ≤ 9223372036854775807) (w : List UInt8) :
    aCall T0 F_impl_shelfFind [.agg #[v], strV w] M = some (.int .i64 (idx (isW w) xs), M) := by
  have h' : Rep (.sl ty_Entry) (M ++ [⟨[v], 1, 2⟩, ⟨[strV w], 1, 2⟩]) [v] xs := h.mono (List.prefix_append _ _)
  have hp : rd1 (M ++ [⟨[v], 1, 2⟩, ⟨[strV w], 1, 2⟩]) (M.length + 1) 0 = some (strV w) := by simp
  have e : aCall T0 F_slices_IndexFunc_impl_Entry_impl_Entry [v, .func (.func F_impl_shelfFind_1) #[] #[.pointer (some ⟨M.length + 1, 0, none⟩)]] _ = _ :=
    c_idx_Entry _ v xs h' hn F_impl_shelfFind_1 [.pointer (some ⟨M.length + 1, 0, none⟩)] (isW w) (fun i hi => c_impl_shelfFind_1 _ xs[i] (M.length + 1) w hp)
  obtain ⟨a, c, rfl⟩ := h.slen
  rw [aCall_eq T_impl_shelfFind]; unfold A_impl_shelfFind C_impl_shelfFind; simp [e]
theorem r_impl_isShelf (M : Mem) (a : Option Addr) (c : Nat) (xs : List ty_Entry.D) (h : Rep (.sl ty_Entry) M [.slice a xs.length c] xs) (hn : xs.length ≤ 9223372036854775807) (hf : ∀ e ∈ xs, e.1.length ≤ 9223372036854775807) (p : Nat) (hp2 : rdn M p 0 1 = some [.slice a xs.length c]) (i : Nat) (hi : i < xs.length) (hq : slotB xs i = true) :
    lp (aCall T0) K_impl_isShelf_0 L_impl_isShelf_0 [und, .pointer (some ⟨p, 0, none⟩), und, und, und, und, .slice a xs.length c, .int .i64 xs.length, .int .i64 i, und, und, und, und, und, und, und, und, und, und, und, und, und, und, und, und, und, und, und, und, und, und, und] M = lp (aCall T0) K_impl_isShelf_0 L_impl_isShelf_0 [und, .pointer (some ⟨p, 0, none⟩), und, und, und, und, .slice a xs.length c, .int .i64 xs.length, .int .i64 (i + 1 : Nat), und, und, und, und, und, und, und, und, und, und, und, und, und, und, und, und, und, und, und, und, und, und, und] (M ++ [⟨enc_Entry xs[i], 1, 2⟩]) := by
  obtain ⟨l, o, rfl, hrep, hrd, hf0, hf1⟩ := at_Entry h hi
  have e6 : IntKind.i64.wrap ((i : Int) + 1) = i + 1 := wrap_i64 (by omega) (by omega)
  have g2 := fun M => c_impl_isEntry M xs[i] (hf _ (List.getElem_mem hi))
  have hp3 : ∀ N, rdn (M ++ N) p 0 1 = some [.slice (some ⟨l, o, none⟩) xs.length c] := fun N => rdn_old hp2
  have g3 := c_impl_shelfFind (M ++ [⟨enc_Entry xs[i], 1, 2⟩]) _ xs (h.mono (List.prefix_append _ _)) hn xs[i].1
  simp only [slotB, List.getElem?_eq_getElem hi, Bool.or_eq_true, Bool.and_eq_true, decide_eq_true_eq] at hq
  cases hnone : noneB xs[i] with
  | true =>
    simp only [noneB, Bool.and_eq_true, decide_eq_true_eq] at hnone
    obtain ⟨n1, n2⟩ := hnone
    rw [S_impl_isShelf_0]; unfold B_impl_isShelf_0; simp [hrd, e6, hi, n1, n2]
  | false =>
    obtain ⟨q1, q2⟩ := hq.resolve_left (by simp [hnone])
    have hnn : ¬ (xs[i].1 = [] ∧ xs[i].2 = 0) := by
      intro hh
      simp [noneB, hh.1, hh.2] at hnone
    have hnn2 : (decide (xs[i].1 = []) && decide (xs[i].2 = 0)) = false := by
      rw [← hnone]; rfl
    rw [S_impl_isShelf_0]; unfold B_impl_isShelf_0; simp [hrd, e6, hi, hnn2, g2, q1, hp3, g3, q2]
theorem idx_at {α : Type} {p : α → Bool} {xs : List α} {i : Nat} (hi : i < xs.length) (h : p xs[i] = true) : 0 ≤ idx p xs ∧ idx p xs ≤ i := by
  rcases idx_cases p xs with ⟨ha, h1⟩ | ⟨j, hj, ha, h1, h2⟩
  · rw [h1 i hi] at h; cases h
  · rw [ha]
    by_cases hij : i < j
    · rw [h1 i hi hij] at h; cases h
    · omega
theorem x_impl_isShelf (M0 N : Mem) (a : Option Addr) (c : Nat) (xs : List ty_Entry.D) (h : Rep (.sl ty_Entry) (M0 ++ N) [.slice a xs.length c] xs) (hn : xs.length ≤ 9223372036854775807) (hf : ∀ e ∈ xs, e.1.length ≤ 9223372036854775807) (p : Nat) (hp2 : rdn (M0 ++ N) p 0 1 = some [.slice a xs.length c]) (i : Nat) (hi : i < xs.length) (hq : slotB xs i = false) (k : ACode) :
    thenF M0 [.tmp 2] (thenS (blockR 0 (lp (aCall T0) K_impl_isShelf_0 L_impl_isShelf_0 [und, .pointer (some ⟨p, 0, none⟩), und, und, und, und, .slice a xs.length c, .int .i64 xs.length, .int .i64 i, und, und, und, und, und, und, und, und, und, und, und, und, und, und, und, und, und, und, und, und, und, und, und] (M0 ++ N))) (aCall T0) k) = some (.bool false, M0) := by
  obtain ⟨M, hM⟩ : ∃ M, M = M0 ++ N := ⟨_, rfl⟩
  rw [← hM] at h hp2 ⊢
  obtain ⟨l, o, rfl, hrep, hrd, hf0, hf1⟩ := at_Entry h hi
  have g2 := fun M => c_impl_isEntry M xs[i] (hf _ (List.getElem_mem hi))
  have hp3 : ∀ N, rdn (M ++ N) p 0 1 = some [.slice (some ⟨l, o, none⟩) xs.length c] := fun N => rdn_old hp2
  have g3 := c_impl_shelfFind (M ++ [⟨enc_Entry xs[i], 1, 2⟩]) _ xs (h.mono (List.prefix_append _ _)) hn xs[i].1
  simp only [slotB, List.getElem?_eq_getElem hi, Bool.or_eq_false_iff, Bool.and_eq_false_iff, decide_eq_false_iff_not] at hq
  obtain ⟨hnone, hq⟩ := hq
  have hnn2 : (decide (xs[i].1 = []) && decide (xs[i].2 = 0)) = false := by
    rw [← hnone]; rfl
  have fin : gc M0 (some (.bool false, M ++ [⟨enc_Entry xs[i], 1, 2⟩])) = some (.bool false, M0) := by
    rw [hM, List.append_assoc]; simp
  cases hent : entB xs[i] with
  | false => rw [S_impl_isShelf_0]; unfold B_impl_isShelf_0; simp [hrd, hi, hnn2, g2, hent, fin]
  | true =>
    have q2 := hq.resolve_left (by simp [hent])
    have q3 := idx_at (p := isW xs[i].1) hi (by simp [isW])
    have q4 : idx (isW xs[i].1) xs < (i : Int) := by omega
    rw [S_impl_isShelf_0]; unfold B_impl_isShelf_0; simp [hrd, hi, hnn2, g2, hent, hp3, g3, q4, fin]
def entM (M : Mem) (xs : List ty_Entry.D) (i : Nat) : Mem := M ++ (xs.take i).map fun e => ⟨enc_Entry e, 1, 2⟩
theorem entM_succ (M : Mem) (xs : List ty_Entry.D) (i : Nat) (hi : i < xs.length) : entM M xs (i + 1) = entM M xs i ++ [⟨enc_Entry xs[i], 1, 2⟩] := by
  unfold entM
  rw [List.take_succ_eq_append_getElem hi, List.map_append, ← List.append_assoc]
  rfl
theorem c_impl_isShelf (M : Mem) (v : V) (xs : List ty_Entry.D) (h : Rep (.sl ty_Entry) M [v] xs) (hn : xs.length ≤ 9223372036854775807) (hf : ∀ e ∈ xs, e.1.length ≤ 9223372036854775807) :
    aCall T0 F_impl_isShelf [.agg #[v]] M = some (.bool (shelfB xs), M) := by
  obtain ⟨a, c, rfl⟩ := h.slen
  have hR : ∀ i, Rep (.sl ty_Entry) (entM (M ++ [⟨[.slice a xs.length c], 1, 2⟩]) xs i) [.slice a xs.length c] xs := fun i => h.mono ((List.prefix_append _ _).trans (List.prefix_append _ _))
  have hp2 : ∀ i, rdn (entM (M ++ [⟨[.slice a xs.length c], 1, 2⟩]) xs i) M.length 0 1 = some [.slice a xs.length c] := fun i => rdn_old (by simp)
  have hp1 : ∀ i, rd1 (entM (M ++ [⟨[.slice a xs.length c], 1, 2⟩]) xs i) M.length 0 = some (.slice a xs.length c) := fun i => rd1_old (by simp)
  have e0 : entM (M ++ [⟨[.slice a xs.length c], 1, 2⟩]) xs 0 = M ++ [⟨[.slice a xs.length c], 1, 2⟩] := by simp [entM]
  have hE : ∀ i, ∃ N, entM (M ++ [⟨[.slice a xs.length c], 1, 2⟩]) xs i = M ++ N := fun i => ⟨_, by unfold entM; rw [List.append_assoc]⟩
  unfold shelfB
  rcases slots_cases xs with ⟨ha, h1⟩ | ⟨ha, j, hj, h1, h2⟩
  · have hc := chain (g := fun i : Nat => lp (aCall T0) K_impl_isShelf_0 L_impl_isShelf_0 [und, .pointer (some ⟨M.length, 0, none⟩), und, und, und, und, .slice a xs.length c, .int .i64 xs.length, .int .i64 i, und, und, und, und, und, und, und, und, und, und, und, und, und, und, und, und, und, und, und, und, und, und, und] (entM (M ++ [⟨[.slice a xs.length c], 1, 2⟩]) xs i)) (n := xs.length) fun i hi => by
      rw [entM_succ _ xs i hi]
      exact r_impl_isShelf _ a c xs (hR i) hn hf M.length (hp2 i) i hi (h1 i hi)
    simp only [Int.natCast_zero, Int.ofNat_zero, e0] at hc
    obtain ⟨N, hN⟩ := hE xs.length
    have hp1' := hp1 xs.length
    rw [hN] at hc hp1'
    rw [ha, Bool.and_true]
    rw [aCall_eq T_impl_isShelf]; unfold A_impl_isShelf C_impl_isShelf; simp [hc]
    rw [S_impl_isShelf_0]; unfold B_impl_isShelf_0; simp [hp1']
    by_cases h4 : xs.length = 4
    · have : ((xs.length : Int) = 4) = True := eq_true (by omega)
      simp [h4]
    · have : ¬ ((xs.length : Int) = 4) := by omega
      simp [h4, this]
  · have hc := chain (g := fun i : Nat => lp (aCall T0) K_impl_isShelf_0 L_impl_isShelf_0 [und, .pointer (some ⟨M.length, 0, none⟩), und, und, und, und, .slice a xs.length c, .int .i64 xs.length, .int .i64 i, und, und, und, und, und, und, und, und, und, und, und, und, und, und, und, und, und, und, und, und, und, und, und] (entM (M ++ [⟨[.slice a xs.length c], 1, 2⟩]) xs i)) (n := j) fun i hi => by
      rw [entM_succ _ xs i (by omega)]
      exact r_impl_isShelf _ a c xs (hR i) hn hf M.length (hp2 i) i (by omega) (h1 i hi)
    simp only [Int.natCast_zero, Int.ofNat_zero, e0] at hc
    obtain ⟨N, hN⟩ := hE j
    have hR' := hR j
    have hp2' := hp2 j
    rw [hN] at hc hR' hp2'
    rw [ha, Bool.and_false]
    rw [aCall_eq T_impl_isShelf]; unfold A_impl_isShelf C_impl_isShelf; simp [hc, x_impl_isShelf M N a c xs hR' hn hf M.length hp2' j hj h2]
theorem rep_cells {t : Ty} {M : Mem} {enc : t.D → List V} (henc : ∀ (cs : List V) (x : t.D), Rep t M cs x → cs = enc x) {a : Option Addr} {n c : Nat} {xs : List t.D} (h : Rep (.sl t) M [.slice a n c] xs) {k c2 : Nat} (hk : k ≤ xs.length) :
    sliceCells M t.w (.slice a k c2) = some (k, ((xs.take k).map enc).flatten) := by
  rcases h with ⟨h, rfl⟩ | ⟨l', o', c', blk, css, e, h2, h3, h4, h5, h6, h7⟩
  · simp at h hk
    obtain ⟨rfl, rfl, rfl⟩ := h
    subst hk
    simp [sliceCells]
  · simp only [List.cons.injEq, Value.slice.injEq, and_true] at e
    obtain ⟨rfl, rfl, rfl⟩ := e
    by_cases hk0 : k = 0
    · subst hk0
      simp [sliceCells]
    have hw := Rep.css_w h5 h6
    have hcs : css = xs.map enc := by
      apply List.ext_getElem (by simp [h5])
      intro i h1 h2
      rw [List.getElem_map]
      exact henc _ _ (h6 i _ _ (by simp [h1]) (by simp))
    have hlen := flat_len hw
    have hpos := t.w_pos
    have h3' : blk.st = 1 ∨ blk.st = 2 := by
      rcases h3 with h3 | h3 | h3
      · exact .inl h3
      · exact .inr h3
      · subst h3; simp at hk; omega
    obtain ⟨r, hr⟩ := h7
    have hdl : css.flatten.length + r.length = blk.cells.length - o' := by rw [← List.length_drop, ← hr, List.length_append]
    have hle : k * t.w ≤ css.length * t.w := Nat.mul_le_mul_right _ (by omega)
    have hpos2 : 0 < k * t.w := Nat.mul_pos (by omega) hpos
    unfold sliceCells
    simp only
    rw [if_neg (by omega)]
    unfold rdn
    rw [h2]
    simp only
    rw [if_pos ⟨h3', by omega⟩]
    simp only [Option.map_some]
    congr 2
    rw [← hr, List.take_append_of_le_length (by omega)]
    have e2 : css = (xs.take k).map enc ++ (xs.drop k).map enc := by rw [hcs, ← List.map_append, List.take_append_drop]
    have e3 : (((xs.take k).map enc).flatten).length = k * t.w := by
      rw [flat_len (w := t.w) (fun cs hc => hw cs (by rw [e2]; exact List.mem_append_left _ hc))]
      simp [Nat.min_eq_left hk]
    rw [e2, List.flatten_append, ← e3, List.take_left']
    rfl
theorem flat_Byte (xs : List ty_Byte.D) : (xs.map enc_Byte).flatten = xs.map byteV := by
  induction xs with
  | nil => rfl
  | cons x xs ih => simp [ih]
theorem cells_Byte {M : Mem} {v : V} {ys : List UInt8} (h : Rep (.sl ty_Byte) M [v] ys) : ∃ a c, v = .slice a ys.length c ∧ sliceCells M 1 (.slice a ys.length c) = some (ys.length, ys.map byteV) := by
  obtain ⟨a, c, rfl⟩ := h.slen
  have := rep_cells (enc := enc_Byte) (fun cs x hx => hx) h (k := ys.length) (Nat.le_refl _) (c2 := c)
  rw [List.take_length] at this
  refine ⟨a, c, rfl, ?_⟩
  rw [← flat_Byte]
  exact this
theorem toBytes_map : ∀ ys : List UInt8, toBytes (ys.map byteV) = some ys
  | [] => rfl
  | y :: ys => by
    simp [toBytes, byteV, toBytes_map ys]
theorem c_bytes_Equal (M : Mem) (u v : V) (xs ys : List UInt8) (h : Rep (.sl ty_Byte) M [u] xs) (h2 : Rep (.sl ty_Byte) M [v] ys) : aCall T0 F_bytes_Equal [u, v] M = some (.bool (decide (xs = ys)), M) := by
  obtain ⟨a, c, rfl, s1⟩ := cells_Byte h
  obtain ⟨b, d, rfl, s2⟩ := cells_Byte h2
  rw [aCall_eq T_bytes_Equal]; unfold A_bytes_Equal C_bytes_Equal; simp [s1, s2, toBytes_map]
def OutE (K : Nat) (M : Mem) (v : V) (es : List ty_Entry.D) : Prop := (v = .slice none 0 0 ∧ es = []) ∨ ∃ l, K ≤ l ∧ v = .slice (some ⟨l, 0, none⟩) es.length es.length ∧ M[l]? = some ⟨(es.map enc_Entry).flatten, 2, 2⟩
def SR (M0 : Mem) (v : V) (es : List ty_Entry.D) (M : Mem) : Prop := M0 <+: M ∧ M[M0.length]? = some ⟨[.slice none 0 0], 1, 2⟩ ∧ M[M0.length + 1]? = some ⟨[v], 1, 2⟩ ∧ OutE (M0.length + 2) M v es
theorem rep_blk {t : Ty} {M : Mem} {l o n c : Nat} {xs : List t.D} (h : Rep (.sl t) M [.slice (some ⟨l, o, none⟩) n c] xs) : ∃ blk, M[l]? = some blk ∧ blk.w = t.w ∧ n = xs.length := by
  rcases h with ⟨h, _⟩ | ⟨l', o', c', blk, css, e, h2, h3, h4, h5, h6, h7⟩
  · simp at h
  · simp only [List.cons.injEq, Value.slice.injEq, Option.some.injEq, Addr.mk.injEq, and_true, true_and] at e
    obtain ⟨⟨rfl, rfl⟩, rfl, rfl⟩ := e
    exact ⟨blk, h2, h4, rfl⟩
theorem rep_sub {M : Mem} {b o n c : Nat} {ys : List UInt8} (h : Rep (.sl ty_Byte) M [.slice (some ⟨b, o, none⟩) n c] ys) (l k : Nat) (hk : l + k ≤ ys.length) (c2 : Nat) : Rep (.sl ty_Byte) M [.slice (some ⟨b, o + l, none⟩) k c2] ((ys.drop l).take k) := by
  rcases h with ⟨e, rfl⟩ | ⟨l', o', c', blk, css, e, h2, h3, h4, h5, h6, h7⟩
  · simp at e
  · simp only [List.cons.injEq, Value.slice.injEq, Option.some.injEq, Addr.mk.injEq, and_true] at e
    obtain ⟨⟨rfl, rfl⟩, rfl, rfl⟩ := e
    have he : css = ys.map enc_Byte := by
      apply List.ext_getElem (by simp [h5])
      intro i p q
      have hx : i < ys.length := by omega
      have := h6 i css[i] ys[i] (List.getElem?_eq_getElem p) (List.getElem?_eq_getElem hx)
      rw [List.getElem_map]
      exact this
    rw [he, flat_Byte] at h7
    refine .inr ⟨b, o + l, c2, blk, ((ys.drop l).take k).map enc_Byte, ?_, h2, ?_, h4, ?_, ?_, ?_⟩
    · have : ((ys.drop l).take k).length = k := by rw [List.length_take, List.length_drop]; omega
      rw [this]
    · rcases h3 with h3 | h3 | h3
      · exact .inl h3
      · exact .inr (.inl h3)
      · exact .inr (.inr (by subst h3; simp))
    · rw [List.length_map]
    · intro i ds x hd hx
      rw [List.getElem?_map, hx] at hd
      cases hd
      rfl
    · rw [flat_Byte, List.map_take, List.map_drop, ← List.drop_drop]
      obtain ⟨t, ht⟩ := h7
      rw [← ht, List.drop_append]
      exact (List.take_prefix _ _).trans (List.prefix_append _ _)
theorem wordB_len {w : List UInt8} (h : wordB w = true) : 1 ≤ w.length ∧ w.length ≤ 32 := by
  simp [wordB] at h; omega
theorem padL_len (w : List UInt8) : (padL w).length = 33 := by
  unfold padL
  split
  · rename_i h; have := wordB_len h; simp; omega
  · simp
abbrev padB (w : List UInt8) : Blk := ⟨(padL w).map byteV, 1, 2⟩
theorem padL_f {w : List UInt8} (h : wordB w = false) : (padL w).map byteV = zc (.int .u8 0) 33 := by
  unfold padL
  rw [h]
  simp only [Bool.false_eq_true, if_false]
  exact map_byte_rep 33
theorem padL_t {w : List UInt8} (h : wordB w = true) : (padL w).map byteV = .int .u8 w.length :: (w.map byteV ++ zc (.int .u8 0) (32 - w.length)) := by
  have := wordB_len h
  unfold padL
  rw [h]
  simp only [if_true]
  rw [List.map_cons, List.map_append, map_byte_rep, byteV_len (by omega)]
theorem c_impl_pad (M : Mem) (w : List UInt8) (hw : w.length ≤ 9223372036854775807) : aCall T0 F_impl_pad [strV w] M = some (.slice (some ⟨M.length, 0, none⟩) 33 33, M ++ [padB w]) := by
  unfold padB
  cases hb : wordB w with
  | false => rw [padL_f hb]; rw [aCall_eq T_impl_pad]; unfold A_impl_pad C_impl_pad; simp [c_impl_isWord _ _ hw, hb]
  | true =>
    obtain ⟨h1, h2⟩ := wordB_len hb
    rw [padL_t hb]
    have e1 : min w.length 32 = w.length := by omega
    have e2 : w ≠ [] := by rintro rfl; simp at h1
    rw [aCall_eq T_impl_pad]; unfold A_impl_pad C_impl_pad; simp [c_impl_isWord _ _ hw, hb, e1, e2]
    (simp (disch := omega) only [wrap_i64, wrap_u64, wrap_u8, wrap_u32, if_pos, if_neg]; try simp)
theorem rep_blkB {M : Mem} {l : Nat} {ys : List UInt8} (c : Nat) (hb : M[l]? = some ⟨ys.map byteV, 1, 2⟩) : Rep (.sl ty_Byte) M [.slice (some ⟨l, 0, none⟩) ys.length c] ys := by
  obtain ⟨L, o1, _⟩ := own_blk (t := ty_Byte) (M := M) (l := l) (c := c) (enc := enc_Byte) (ys := ys) (by rw [flat_Byte]; exact hb) (fun y _ => own_Byte _ y)
  exact o1.rep
theorem c_impl_Unpad (M : Mem) (v : V) (ys : List UInt8) (h : Rep (.sl ty_Byte) M [v] ys) (hl : ys.length = 33) : aCall T0 F_impl_Unpad [v] M = some (.tuple #[strV (unW ys), .bool (unB ys)], M) := by
  obtain ⟨a, c, rfl⟩ := h.slen
  have h0 : 0 < ys.length := by omega
  obtain ⟨l, o, rfl, _, hrd⟩ := at_Byte h h0
  obtain ⟨blk, hb, hbw, _⟩ := rep_blk h
  have e0 : unL ys = ys[0].toNat := by
    match ys, h0 with
    | y :: ys, _ => rfl
  rw [Nat.add_zero] at hrd
  have hbw : blk.w = 1 := hbw
  unfold unW unB
  obtain ⟨d, hd⟩ : ∃ d, d = unL ys := ⟨_, rfl⟩
  have hby : byteV ys[0] = .int .u8 d := by rw [hd, e0]; rfl
  rw [hby] at hrd
  rw [← hd]
  by_cases h32 : d ≤ 32
  · have g1 : ¬ 32 < (d : Int) := by omega
    have e1 : IntKind.u8.wrap (1 + (d : Int)) = 1 + d := wrap_u8 (by omega) (by omega)
    have g2 : d ≤ 32 := h32
    have hs := rep_sub h 1 d (by omega) (max ys.length c - 1)
    have hs2 : Rep (.sl ty_Byte) M [.slice (some ⟨l, o + 1, none⟩) d (max ys.length c - 1)] (unC ys) := by unfold unC; rw [← hd]; exact hs
    have hul : (unC ys).length = d := by
      unfold unC
      rw [← hd, List.length_take, List.length_drop]
      omega
    obtain ⟨a1, c1, z1, z2⟩ := cells_Byte hs2
    rw [hul] at z1 z2
    cases z1
    rw [hl] at z2
    have b1 : (1 : Int) ≤ 1 + d := by omega
    have b2 : (1 : Int) + d ≤ 33 := by omega
    have b3 : ((1 : Int) + d).toNat - 1 = d := by omega
    rw [decide_eq_true h32]
    have w1 := fun M => c_impl_isWord M (unC ys) (by omega)
    have w2 := c_impl_pad M (unC ys) (by omega)
    have w3 := c_bytes_Equal (M ++ [padB (unC ys)]) _ _ (padL (unC ys)) ys (rep_blkB (l := M.length) 33 (by simp)) (h.mono (List.prefix_append _ _))
    rw [padL_len] at w3
    generalize decide (padL (unC ys) = ys) = q at w3 ⊢
    cases hw : wordB (unC ys) with
    | false =>
      rw [hw] at w1
      rw [aCall_eq T_impl_Unpad]; unfold A_impl_Unpad C_impl_Unpad; simp [hl, hrd, g1, e1, b1, b2, b3, hb, hbw, z2, toBytes_map, w1]
    | true =>
      rw [hw] at w1
      rw [hl] at w3
      cases q with
      | false => rw [aCall_eq T_impl_Unpad]; unfold A_impl_Unpad C_impl_Unpad; simp [hl, hrd, g1, e1, b1, b2, b3, hb, hbw, z2, toBytes_map, w1, w2, w3]
      | true => rw [aCall_eq T_impl_Unpad]; unfold A_impl_Unpad C_impl_Unpad; simp [hl, hrd, g1, e1, b1, b2, b3, hb, hbw, z2, toBytes_map, w1, w2, w3]
  · have g1 : 32 < (d : Int) := by omega
    rw [decide_eq_false h32]
    rw [aCall_eq T_impl_Unpad]; unfold A_impl_Unpad C_impl_Unpad; simp [hl, hrd, g1]
theorem agree_pre {M0 M M' : Mem} {w : List Nat} (h : Agree M M' w) (hp : M0 <+: M) (hw : ∀ b ∈ w, M0.length ≤ b) : M0 <+: M' := by
  rw [List.prefix_iff_eq_take]
  have hl : M0.length ≤ M'.length := Nat.le_trans hp.length_le h.1
  apply List.ext_getElem?
  intro i
  rw [List.getElem?_take]
  split
  · rename_i hi
    rw [h.2 i (Nat.lt_of_lt_of_le hi hp.length_le) (fun hin => by have := hw i hin; omega)]
    obtain ⟨r, rfl⟩ := hp
    rw [List.getElem?_append_left hi]
  · rename_i hi
    rw [List.getElem?_eq_none (by omega)]
theorem sr_grow {M0 M M' : Mem} {v : V} {es : List ty_Entry.D} (h : SR M0 v es M) (hp : M <+: M') : SR M0 v es M' := by
  obtain ⟨h1, h2, h3, h4⟩ := h
  refine ⟨h1.trans hp, get_pre hp h2, get_pre hp h3, ?_⟩
  rcases h4 with h4 | ⟨l, q1, q2, q3⟩
  · exact .inl h4
  · exact .inr ⟨l, q1, q2, get_pre hp q3⟩
theorem encE_len (es : List ty_Entry.D) : (es.map enc_Entry).flatten.length = es.length * 2 := by
  rw [flat_len (w := 2)]
  · simp
  · intro cs hcs
    obtain ⟨e, _, rfl⟩ := List.mem_map.1 hcs
    rfl
theorem sr_step {M0 M : Mem} {v : V} {es : List ty_Entry.D} (h : SR M0 v es M) (e : ty_Entry.D) (hn : es.length ≤ 1000) :
    ∃ A1 A2, appS (M ++ [⟨enc_Entry e, 2, 2⟩]) 2 24 v 1 (enc_Entry e) = some (.slice (some ⟨M.length + 1, 0, none⟩) (es.length + 1) (es.length + 1), A1) ∧
      Agree (M ++ [⟨enc_Entry e, 2, 2⟩]) A1 (wfs v) ∧ wrn A1 (M0.length + 1) 0 [.slice (some ⟨M.length + 1, 0, none⟩) (es.length + 1) (es.length + 1)] = some A2 ∧
      SR M0 (.slice (some ⟨M.length + 1, 0, none⟩) (es.length + 1) (es.length + 1)) (es ++ [e]) A2 := by
  obtain ⟨A, hA⟩ : ∃ A, A = M ++ [(⟨enc_Entry e, 2, 2⟩ : Blk)] := ⟨_, rfl⟩
  have hAl : A.length = M.length + 1 := by rw [hA]; simp
  have hMA : M <+: A := by rw [hA]; exact List.prefix_append _ _
  have h' := sr_grow h hMA
  rw [← hA]
  obtain ⟨h1, h2, h3, h4⟩ := h'
  have key : ∃ A1, appS A 2 24 v 1 (enc_Entry e) = some (.slice (some ⟨M.length + 1, 0, none⟩) (es.length + 1) (es.length + 1), A1) ∧ Agree A A1 (wfs v) ∧ A1.length = A.length + 1 ∧ A1[A.length]? = some ⟨((es ++ [e]).map enc_Entry).flatten, 2, 2⟩ ∧ ∀ b ∈ wfs v, M0.length + 2 ≤ b := by
    rcases h4 with ⟨rfl, rfl⟩ | ⟨l, hl, rfl, hb⟩
    · refine ⟨A ++ [⟨enc_Entry e, 2, 2⟩], ?_, ⟨by simp, fun b hb _ => by rw [List.getElem?_append_left hb]⟩, by simp, by simp, by simp [wfs]⟩
      unfold appS
      simp only
      rw [if_neg (by omega), if_pos ⟨by omega, by omega, rfl⟩]
      simp [hAl]
    · have q := app_full (M := A) (w := 2) (bytes := 24) (l := l) (n := es.length) (ys := enc_Entry e) (m := 1) hb (encE_len es) (by omega) rfl (by omega) (by omega)
      rw [hAl] at q
      refine ⟨_, q, ⟨by simp, fun b hb hn => ?_⟩, by simp, ?_, ?_⟩
      · have hne : b ≠ l := fun e => hn (by simp [wfs, e])
        rw [List.getElem?_append_left (by simpa using hb), List.getElem?_set_ne (fun e => hne e.symm)]
      · rw [List.getElem?_append_right (by simp)]
        simp
      · intro b hb; simp [wfs] at hb; omega
  obtain ⟨A1, a1, a2, a3, a4, a5⟩ := key
  have hb2 := (List.getElem?_eq_some_iff.1 h2).1
  have hb3 := (List.getElem?_eq_some_iff.1 h3).1
  have k1 : A1[M0.length]? = some ⟨[.slice none 0 0], 1, 2⟩ := by rw [a2.2 _ hb2 (fun hin => by have := a5 _ hin; omega)]; exact h2
  have k2 : A1[M0.length + 1]? = some ⟨[v], 1, 2⟩ := by rw [a2.2 _ hb3 (fun hin => by have := a5 _ hin; omega)]; exact h3
  have hm0 := h.1.length_le
  have hm1 := (List.getElem?_eq_some_iff.1 h.2.2.1).1
  refine ⟨A1, A1.set (M0.length + 1) ⟨[.slice (some ⟨M.length + 1, 0, none⟩) (es.length + 1) (es.length + 1)], 1, 2⟩, a1, a2, box_set k2 rfl rfl, ?_, ?_, ?_, .inr ⟨M.length + 1, by omega, by simp, ?_⟩⟩
  · exact pre_set (agree_pre a2 h1 (fun q hq => by have := a5 _ hq; omega)) (by omega)
  · rw [List.getElem?_set_ne (by omega)]; exact k1
  · rw [List.getElem?_set_self (by omega)]
  · rw [List.getElem?_set_ne (by omega), ← hAl, a4]
theorem at_B {M : Mem} {l o n c : Nat} {ys : List UInt8} (h : Rep (.sl ty_Byte) M [.slice (some ⟨l, o, none⟩) n c] ys) {i : Nat} (hi : i < ys.length) : rd1 M l (o + i) = some (.int .u8 (atN ys i : Nat)) := by
  obtain ⟨_, _, e, _, hrd⟩ := at_Byte h hi
  simp at e
  obtain ⟨rfl, rfl⟩ := e
  rw [hrd]
  unfold atN
  rw [List.getD_eq_getElem?_getD, List.getElem?_eq_getElem hi]
  rfl
theorem atN_lt (ys : List UInt8) (i : Nat) : atN ys i < 256 := UInt8.toNat_lt _
theorem or_i64 {a b : Nat} (ha : a < 256) (hb : b < 256) : bor .i64 ((256 * a : Nat) : Int) (b : Nat) = ((256 * a + b : Nat) : Int) := by
  have e : 256 * a ||| b = 256 * a + b := by
    have := Nat.shiftLeft_add_eq_or_of_lt (show b < 2 ^ 8 by omega) a
    rw [Nat.shiftLeft_eq] at this
    rw [Nat.mul_comm, ← this]
  unfold bor
  rw [ofInt_nat, ofInt_nat, BitVec.toNat_or, BitVec.toNat_ofNat, BitVec.toNat_ofNat]
  show IntKind.i64.wrap (((256 * a) % 2 ^ 64 ||| b % 2 ^ 64 : Nat) : Int) = _
  rw [Nat.mod_eq_of_lt (by omega), Nat.mod_eq_of_lt (by omega), e]
  exact wrap_i64 (by omega) (by omega)
theorem shl_8 {a : Nat} (ha : a < 256) : bshl .i64 (a : Int) 8 = ((256 * a : Nat) : Int) := by
  unfold bshl
  have : min (8 : Int).toNat IntKind.i64.bits = 8 := by decide
  rw [this, wrap_i64 (by omega) (by omega)]
  omega
theorem r_impl_shelfRead (M0 M : Mem) (l o c : Nat) (ys : List UInt8) (hd : Rep (.sl ty_Byte) M0 [.slice (some ⟨l, o, none⟩) 144 c] ys) (hl : ys.length = 144) (v : V) (es : List ty_Entry.D) (h : SR M0 v es M) (hn : es.length ≤ 1000) (p : Nat) (hp : p + 36 ≤ 144) :
    ∃ M' v', SR M0 v' (es ++ [eI ys p]) M' ∧
    lp (aCall T0) K_impl_shelfRead_0 L_impl_shelfRead_0 [.slice (some ⟨l, o, none⟩) 144 c, und, .pointer (some ⟨M0.length, 0, none⟩), und, .pointer (some ⟨M0.length + 1, 0, none⟩), .int .i64 p, und, und, und, und, und, und, und, und, und, und, und, und, und, und, und, und, und, und, und, und, und, und, und, und, und, und, und, und, und, und, und, und, und, und, und, und, und, und, und, und, und, und, und, und, und, und, und, und, und, und, und, und, und, und, und, und] M =
    lp (aCall T0) K_impl_shelfRead_0 L_impl_shelfRead_0 [.slice (some ⟨l, o, none⟩) 144 c, und, .pointer (some ⟨M0.length, 0, none⟩), und, .pointer (some ⟨M0.length + 1, 0, none⟩), .int .i64 (p + 36 : Nat), und, und, und, und, und, und, und, und, und, und, und, und, und, und, und, und, und, und, und, und, und, und, und, und, und, und, und, und, und, und, und, und, und, und, und, und, und, und, und, und, und, und, und, und, und, und, und, und, und, und, und, und, und, und, und, und] M' := by
  obtain ⟨A1, A2, a1, a2, a3, a4⟩ := sr_step h (eI ys p) hn
  refine ⟨A2, _, a4, ?_⟩
  have hdM := hd.mono h.1
  have hs := rep_sub hdM (p + 3) 33 (by omega) (max 144 c - (p + 3))
  have hul : ((ys.drop (p + 3)).take 33).length = 33 := by rw [List.length_take, List.length_drop]; omega
  have s1 := c_impl_Unpad M _ _ hs hul
  obtain ⟨blk, hb, hbw, _⟩ := rep_blk hdM
  have hbw : blk.w = 1 := hbw
  have r1 := at_B hdM (show p + 1 < ys.length by omega)
  have r2 := at_B hdM (show p + 2 < ys.length by omega)
  have n1 := atN_lt ys (p + 1)
  have n2 := atN_lt ys (p + 2)
  have hv : rd1 M (M0.length + 1) 0 = some v := by unfold rd1; rw [h.2.2.1]; rfl
  have e1 : IntKind.i64.wrap ((p : Int) + 3) = (p : Int) + 3 := wrap_i64 (by omega) (by omega)
  have e2 : IntKind.i64.wrap ((p : Int) + 3 + 33) = (p : Int) + 3 + 33 := wrap_i64 (by omega) (by omega)
  have e3 : IntKind.i64.wrap ((p : Int) + 1) = (p : Int) + 1 := wrap_i64 (by omega) (by omega)
  have e4 : IntKind.i64.wrap ((p : Int) + 2) = (p : Int) + 2 := wrap_i64 (by omega) (by omega)
  have e5 : IntKind.i64.wrap ((p : Int) + 36) = (p : Int) + 36 := wrap_i64 (by omega) (by omega)
  have e6 : IntKind.i64.wrap (atN ys (p + 1) : Int) = atN ys (p + 1) := wrap_i64 (by omega) (by omega)
  have e7 : IntKind.i64.wrap (atN ys (p + 2) : Int) = atN ys (p + 2) := wrap_i64 (by omega) (by omega)
  have e8 := shl_8 n1
  have e9 := or_i64 n1 n2
  unfold eI at a1
  unfold eI at a2
  obtain ⟨q1, hq1⟩ : ∃ q, q = 256 * atN ys (p + 1) := ⟨_, rfl⟩
  obtain ⟨q2, hq2⟩ : ∃ q, q = q1 + atN ys (p + 2) := ⟨_, rfl⟩
  rw [← hq1] at e8 e9
  rw [← hq1, ← hq2] at a1 a2
  rw [← hq2] at e9
  have s3 : sliceCells (M ++ [⟨enc_Entry (unW ((ys.drop (p + 3)).take 33), (q2 : Int)), 2, 2⟩]) 2 (.slice (some ⟨M.length, 0, none⟩) 1 1) = some (1, enc_Entry (unW ((ys.drop (p + 3)).take 33), (q2 : Int))) := by
    simp [sliceCells]
  have g1 : (p : Int) < 144 := by omega
  obtain ⟨blk0, hb0, _⟩ := rep_blk hd
  have hl0 := (List.getElem?_eq_some_iff.1 hb0).1
  have hh : hits (wfs v) [l, l, M0.length + 1] = false := by
    unfold hits
    rw [List.any_eq_false]
    intro q hq
    have : q ≠ M0.length + 1 ∧ q ≠ l := by
      rcases h.2.2.2 with ⟨rfl, _⟩ | ⟨l, q1, rfl, _⟩
      · simp [wfs] at hq
      · simp [wfs] at hq; omega
    simp [this]
  have t1 : ((p : Int) + 3).toNat = p + 3 := by omega
  have t2 : ((p : Int) + 3 + 33 - ((p : Int) + 3)).toNat = 33 := by omega
  have t3 : ((p : Int) + 1).toNat = p + 1 := by omega
  have t4 : ((p : Int) + 2).toNat = p + 2 := by omega
  have c1 : 0 ≤ (p : Int) + 3 := by omega
  have c2 : (p : Int) + 3 ≤ (p : Int) + 3 + 33 := by omega
  have c3 : (p : Int) + 3 + 33 ≤ 144 := by omega
  have c4 : 0 ≤ (p : Int) + 1 := by omega
  have c5 : (p : Int) + 1 < 144 := by omega
  have c6 : 0 ≤ (p : Int) + 2 := by omega
  have c7 : (p : Int) + 2 < 144 := by omega
  rw [S_impl_shelfRead_0]; unfold B_impl_shelfRead_0; simp [hl, t1, t2, t3, t4, c1, c2, c3, c4, c5, c6, c7, g1, e1, e2, e3, e4, e5, e6, e7, e8, e9, hb, hbw, s1, r1, r2, hv, zeroCells, s3, a1, thenD_agree, a2, hh, a3]
theorem sr_start (M : Mem) (v : V) : SR M (.slice none 0 0) [] (M ++ [⟨[.slice none 0 0], 1, 2⟩, ⟨[.slice none 0 0], 1, 2⟩]) :=
  ⟨List.prefix_append _ _, by simp, by simp, .inl ⟨rfl, rfl⟩⟩
theorem l_impl_shelfRead (M0 : Mem) (l o c : Nat) (ys : List UInt8) (hd : Rep (.sl ty_Byte) M0 [.slice (some ⟨l, o, none⟩) 144 c] ys) (hl : ys.length = 144) :
    ∃ M' v', SR M0 v' (listI ys) M' ∧
    lp (aCall T0) K_impl_shelfRead_0 L_impl_shelfRead_0 [.slice (some ⟨l, o, none⟩) 144 c, und, .pointer (some ⟨M0.length, 0, none⟩), und, .pointer (some ⟨M0.length + 1, 0, none⟩), .int .i64 (0 : Nat), und, und, und, und, und, und, und, und, und, und, und, und, und, und, und, und, und, und, und, und, und, und, und, und, und, und, und, und, und, und, und, und, und, und, und, und, und, und, und, und, und, und, und, und, und, und, und, und, und, und, und, und, und, und, und, und] (M0 ++ [⟨[.slice none 0 0], 1, 2⟩, ⟨[.slice none 0 0], 1, 2⟩]) =
    lp (aCall T0) K_impl_shelfRead_0 L_impl_shelfRead_0 [.slice (some ⟨l, o, none⟩) 144 c, und, .pointer (some ⟨M0.length, 0, none⟩), und, .pointer (some ⟨M0.length + 1, 0, none⟩), .int .i64 (144 : Nat), und, und, und, und, und, und, und, und, und, und, und, und, und, und, und, und, und, und, und, und, und, und, und, und, und, und, und, und, und, und, und, und, und, und, und, und, und, und, und, und, und, und, und, und, und, und, und, und, und, und, und, und, und, und, und, und] M' := by
  obtain ⟨M1, v1, q1, e1⟩ := r_impl_shelfRead M0 _ l o c ys hd hl _ _ (sr_start M0 (.slice none 0 0)) (by simp) 0 (by omega)
  obtain ⟨M2, v2, q2, e2⟩ := r_impl_shelfRead M0 _ l o c ys hd hl _ _ q1 (by simp) 36 (by omega)
  obtain ⟨M3, v3, q3, e3⟩ := r_impl_shelfRead M0 _ l o c ys hd hl _ _ q2 (by simp) 72 (by omega)
  obtain ⟨M4, v4, q4, e4⟩ := r_impl_shelfRead M0 _ l o c ys hd hl _ _ q3 (by simp) 108 (by omega)
  exact ⟨M4, v4, q4, e1.trans (e2.trans (e3.trans e4))⟩
theorem eI_fit (ys : List UInt8) (p : Nat) : (eI ys p).1.length ≤ 33 ∧ 0 ≤ ((eI ys p).2 : Int) ∧ ((eI ys p).2 : Int) ≤ 65535 := by
  have n1 := atN_lt ys (p + 1)
  have n2 := atN_lt ys (p + 2)
  refine ⟨?_, ?_, ?_⟩
  · show (unW ((ys.drop (p + 3)).take 33)).length ≤ 33
    unfold unW
    split
    · unfold unC
      rw [List.length_take, List.length_drop, List.length_take]
      omega
    · simp
  · show (0 : Int) ≤ ((256 * atN ys (p + 1) + atN ys (p + 2) : Nat) : Int)
    omega
  · show ((256 * atN ys (p + 1) + atN ys (p + 2) : Nat) : Int) ≤ 65535
    omega
theorem listI_fit (ys : List UInt8) : ∀ e ∈ listI ys, e.1.length ≤ 33 ∧ 0 ≤ (e.2 : Int) ∧ (e.2 : Int) ≤ 65535 := by
  intro e he
  simp only [listI, List.mem_cons, List.not_mem_nil, or_false] at he
  rcases he with rfl | rfl | rfl | rfl <;> exact eI_fit _ _
theorem outE_own {K : Nat} {M : Mem} {v : V} {es : List ty_Entry.D} (h : OutE K M v es) (hf : ∀ e ∈ es, e.1.length ≤ 33 ∧ 0 ≤ (e.2 : Int) ∧ (e.2 : Int) ≤ 65535) : ∃ L, Own (.sl ty_Entry) M [v] es L ∧ ∀ j ∈ L, K ≤ j ∧ j < M.length := by
  rcases h with ⟨rfl, rfl⟩ | ⟨l, q1, rfl, q3⟩
  · exact ⟨[], .inl ⟨rfl, rfl, .inl ⟨rfl, rfl⟩⟩, by simp⟩
  · have hl := (List.getElem?_eq_some_iff.1 q3).1
    obtain ⟨L, o1, o2⟩ := own_blk (t := ty_Entry) (M := M) (l := l) (c := es.length) (enc := enc_Entry) (ys := es) q3 (fun y hy => own_Entry M y (wf_range (by
      have h2 := (hf y hy).2
      constructor
      · exact Int.le_trans (by decide) h2.1
      · exact Int.le_trans h2.2 (by decide))))
    exact ⟨L, o1, fun j hj => by rw [o2 j hj]; exact ⟨q1, hl⟩⟩
def recsY (xs : List ty_Entry.D) (i : Nat) : List V := ((xs.take i).map fun e => (recY e).map byteV).flatten
theorem recsY_full (xs : List ty_Entry.D) : recsY xs xs.length = ((xs.map recY).flatten).map byteV := by
  unfold recsY
  rw [List.take_length, List.map_flatten, List.map_map]
  rfl
def OutR (K : Nat) (M : Mem) (v : V) (cs : List V) : Prop := (v = .slice none 0 0 ∧ cs = []) ∨ ∃ l, K ≤ l ∧ v = .slice (some ⟨l, 0, none⟩) cs.length cs.length ∧ M[l]? = some ⟨cs, 1, 2⟩
theorem pre_app {M0 M N : Mem} (h : M0 <+: M) : M0 <+: M ++ N := h.trans (List.prefix_append _ _)
theorem app_out {K : Nat} {M : Mem} {v : V} {cs ys : List V} {m : Nat} (h : OutR K M v cs) (hm : ys.length = m) (h0 : 0 < m) (h1 : ys.all one = true) (hs : cs.length + m ≤ 140737488355328) :
    ∃ M', appS M 1 1 v m ys = some (.slice (some ⟨M.length, 0, none⟩) (cs.length + m) (cs.length + m), M') ∧ Agree M M' (wfs v) ∧ M'.length = M.length + 1 ∧ M'[M.length]? = some ⟨cs ++ ys, 1, 2⟩ := by
  rcases h with ⟨rfl, rfl⟩ | ⟨l, hl, rfl, hb⟩
  · refine ⟨M ++ [⟨ys, 1, 2⟩], ?_, ⟨by simp, fun b hb _ => by rw [List.getElem?_append_left hb]⟩, by simp, by simp⟩
    unfold appS
    simp only
    rw [if_neg (by omega), if_pos ⟨by simp at hs; omega, by simp at hs; omega, h1⟩]
    simp
  · have e := app_full (M := M) (w := 1) (bytes := 1) (l := l) (n := cs.length) (cs := cs) (ys := ys) (m := m) hb (by omega) h0 h1 (by omega) (by omega)
    have hlt := (List.getElem?_eq_some_iff.1 hb).1
    refine ⟨_, e, ⟨by simp, fun b hb hn => ?_⟩, by simp, ?_⟩
    · have hne : b ≠ l := fun e => hn (by simp [wfs, e])
      rw [List.getElem?_append_left (by simpa using hb), List.getElem?_set_ne (fun e => hne e.symm)]
    · rw [List.getElem?_append_right (by simp)]
      simp
theorem out_ge {K : Nat} {M : Mem} {v : V} {cs : List V} (h : OutR K M v cs) : ∀ b ∈ wfs v, K ≤ b := by
  rcases h with ⟨rfl, rfl⟩ | ⟨l, hl, rfl, hb⟩
  · intro b hb; simp [wfs] at hb
  · intro b hb; simp [wfs] at hb; omega
theorem entB_word {e : ty_Entry.D} (h : entB e = true) : wordB e.1 = true := by
  simp only [entB, Bool.and_eq_true] at h
  exact h.1
theorem shelf_slot {xs : List ty_Entry.D} (h : shelfB xs = true) {i : Nat} (hi : i < xs.length) : slotB xs i = true := by
  simp only [shelfB, Bool.and_eq_true] at h
  exact List.all_eq_true.1 h.2 i (by simpa using hi)
theorem shelf_none {xs : List ty_Entry.D} (h : shelfB xs = true) {i : Nat} (hi : i < xs.length) : noneB xs[i] = true ∨ (entB xs[i] = true ∧ xs[i].1 ≠ []) := by
  have hs := shelf_slot h hi
  simp only [slotB, List.getElem?_eq_getElem hi, Bool.or_eq_true, Bool.and_eq_true] at hs
  rcases hs with h1 | ⟨h1, _⟩
  · exact .inl h1
  · refine .inr ⟨h1, fun he => ?_⟩
    have := entB_word h1
    rw [he] at this
    exact absurd this (by decide)
theorem shelf_elem {xs : List ty_Entry.D} (h : shelfB xs = true) {i : Nat} (hi : i < xs.length) : noneB xs[i] = decide (xs[i].1 = []) ∧ xs[i].1.length ≤ 32 ∧ 0 ≤ (xs[i].2 : Int) ∧ (xs[i].2 : Int) ≤ 65535 := by
  rcases shelf_none h hi with h1 | ⟨h1, h2⟩
  · have h3 := h1
    simp only [noneB, Bool.and_eq_true, decide_eq_true_eq] at h3
    refine ⟨by rw [h1, h3.1]; rfl, by rw [h3.1]; simp, by rw [h3.2]; decide, by rw [h3.2]; decide⟩
  · have h3 := h1
    simp only [entB, Bool.and_eq_true, decide_eq_true_eq] at h3
    have h4 := wordB_len h3.1
    refine ⟨?_, h4.2, h3.2.1, h3.2.2⟩
    unfold noneB
    simp [h2]
theorem wrap_u8_mod (n : Nat) : IntKind.u8.wrap (n : Int) = ((n % 256 : Nat) : Int) := by
  simp [IntKind.wrap, IntKind.min, IntKind.max, IntKind.signed, IntKind.bits]
theorem cells_new {M : Mem} {cs : List V} {n : Nat} (hn : n = cs.length) (h0 : 0 < n) : sliceCells (M ++ [⟨cs, 1, 2⟩]) 1 (.slice (some ⟨M.length, 0, none⟩) n n) = some (n, cs) := by
  unfold sliceCells
  simp only [Nat.mul_one]
  rw [if_neg (by omega), rdn_zero]
  subst hn
  simp
theorem out_lt {K : Nat} {M : Mem} {v : V} {cs : List V} (h : OutR K M v cs) : ∀ b ∈ wfs v, b < M.length := by
  rcases h with ⟨rfl, rfl⟩ | ⟨l, hl, rfl, hb⟩
  · intro b hb; simp [wfs] at hb
  · intro b hb2; simp [wfs] at hb2; subst hb2; exact (List.getElem?_eq_some_iff.1 hb).1
theorem hits_gt {ys : List Nat} {x : Nat} (h : ∀ b ∈ ys, b < x) : hits [x] ys = false := by
  unfold hits
  simp only [List.any_cons, List.any_nil, Bool.or_false]
  rw [List.any_eq_false]
  intro b hb
  have := h b hb
  simp; omega
theorem hits_gt2 {ys : List Nat} {x : Nat} (h : ∀ b ∈ ys, b < x) : hits ys [x, x] = false := by
  unfold hits
  rw [List.any_eq_false]
  intro b hb
  have := h b hb
  simp; omega
theorem shr8 (w : Nat) : bshr .i64 (w : Int) 8 = ((w / 256 : Nat) : Int) := by
  unfold bshr
  have : min (8 : Int).toNat IntKind.i64.bits = 8 := by decide
  rw [this, Int.fdiv_eq_ediv_of_nonneg _ (by decide)]
  simp
theorem r_impl_shelfOf (M0 M : Mem) (hM : M0 <+: M) (a : Option Addr) (c : Nat) (xs : List ty_Entry.D) (hx : shelfB xs = true) (h : Rep (.sl ty_Entry) M0 [.slice a xs.length c] xs)
    (v : V) (cs : List V) (hv : OutR M0.length M v cs) (i : Nat) (hi : i < xs.length) (hc : cs.length = i * 36) (hl4 : xs.length = 4) :
    ∃ l' M', M0 <+: M' ∧ M0.length ≤ l' ∧ M'[l']? = some ⟨cs ++ (recY xs[i]).map byteV, 1, 2⟩ ∧
      lp (aCall T0) K_impl_shelfOf_0 L_impl_shelfOf_0 [und, und, und, v, und, und, und, und, .slice a xs.length c, .int .i64 xs.length, .int .i64 i, und, und, und, und, und, und, und, und, und, und, und, und, und, und, und, und, und, und, und, und, und, und, und] M =
      lp (aCall T0) K_impl_shelfOf_0 L_impl_shelfOf_0 [und, und, und, .slice (some ⟨l', 0, none⟩) (cs.length + 36) (cs.length + 36), und, und, und, und, .slice a xs.length c, .int .i64 xs.length, .int .i64 (i + 1 : Nat), und, und, und, und, und, und, und, und, und, und, und, und, und, und, und, und, und, und, und, und, und, und, und] M' := by
  obtain ⟨hno, hwl, hw0, hw1⟩ := shelf_elem hx hi
  have e6 : IntKind.i64.wrap ((i : Int) + 1) = i + 1 := wrap_i64 (by omega) (by omega)
  have g3 := fun M => c_impl_pad M xs[i].1 (by omega)
  have kk : (byteV (liveB xs[i])) = .int .u8 (if noneB xs[i] = true then 0 else 1) := by unfold liveB; split <;> rfl
  obtain ⟨w, hw⟩ : ∃ w : Nat, xs[i].2 = (w : Int) := ⟨xs[i].2.toNat, (Int.toNat_of_nonneg hw0).symm⟩
  have hwb : w ≤ 65535 := by rw [hw] at hw1; exact Int.ofNat_le.1 hw1
  have hhi : hiB xs[i] = UInt8.ofNat (w / 256) := by unfold hiB; rw [hw]; rfl
  have hlo : loB xs[i] = UInt8.ofNat (w % 256) := by unfold loB; rw [hw]; rfl
  have hMl := hM.length_le
  obtain ⟨N, hN⟩ : ∃ N, N = M ++ [(⟨enc_Entry xs[i], 1, 2⟩ : Blk)] := ⟨_, rfl⟩
  obtain ⟨A, hA⟩ : ∃ A, A = N ++ [(⟨[byteV (liveB xs[i]), byteV (UInt8.ofNat (w / 256)), byteV (UInt8.ofNat (w % 256))], 1, 2⟩ : Blk)] := ⟨_, rfl⟩
  have hMN : M0 <+: N := by rw [hN]; exact pre_app hM
  have hMA : M0 <+: A := by rw [hA]; exact pre_app hMN
  have hvA : OutR M0.length A v cs := by
    rcases hv with hv | ⟨l, q1, q2, q3⟩
    · exact .inl hv
    · exact .inr ⟨l, q1, q2, by rw [hA, hN]; exact get_pre' (get_pre' q3)⟩
  obtain ⟨A1, a1, a2, a3, a4⟩ := app_out hvA (ys := [byteV (liveB xs[i]), byteV (UInt8.ofNat (w / 256)), byteV (UInt8.ofNat (w % 256))]) (m := 3) rfl (by omega) rfl (by omega)
  have hA1 : M0 <+: A1 := agree_pre a2 hMA (out_ge hvA)
  have hAl := hMA.length_le
  have hNl : N.length = M.length + 1 := by rw [hN]; simp
  have hAll : A.length = M.length + 2 := by rw [hA]; simp [hNl]
  obtain ⟨E, hE⟩ : ∃ E, E = A1 ++ [padB xs[i].1] := ⟨_, rfl⟩
  have hME : M0 <+: E := by rw [hE]; exact pre_app hA1
  have hvE : OutR M0.length E (.slice (some ⟨A.length, 0, none⟩) (cs.length + 3) (cs.length + 3)) (cs ++ [byteV (liveB xs[i]), byteV (UInt8.ofNat (w / 256)), byteV (UInt8.ofNat (w % 256))]) :=
    .inr ⟨A.length, hAl, by simp, by rw [hE]; exact get_pre' a4⟩
  have hpl33 : ((padL xs[i].1).map byteV).length = 33 := by simp [padL_len]
  obtain ⟨E1, f1, f2, f3, f4⟩ := app_out hvE (ys := (padL xs[i].1).map byteV) (m := 33) hpl33 (by omega) (map_byte_all _) (by simp; omega)
  have hE1 : M0 <+: E1 := agree_pre f2 hME (out_ge hvE)
  have hEl := hME.length_le
  have s1 := cells_new (M := N) (cs := [byteV (liveB xs[i]), byteV (UInt8.ofNat (w / 256)), byteV (UInt8.ofNat (w % 256))]) (n := 3) rfl (by omega)
  have s3 := cells_new (M := A1) (cs := (padL xs[i].1).map byteV) (n := 33) hpl33.symm (by omega)
  have hpb : padB xs[i].1 = ⟨(padL xs[i].1).map byteV, 1, 2⟩ := rfl
  rw [hpb] at hE
  rw [← hA, hNl] at s1
  rw [← hE] at s3
  simp only [List.length_append, List.length_cons, List.length_nil, Nat.zero_add, Nat.add_assoc, Nat.reduceAdd] at f1
  obtain ⟨l, o, rfl, hrep, hrd, hf0, hf1⟩ := at_Entry h hi
  have hrd' : rdn M l (o + i * 2) 2 = some (enc_Entry xs[i]) := by obtain ⟨r, rfl⟩ := hM; exact rdn_old hrd
  have hbx : A1[M.length]? = some ⟨enc_Entry xs[i], 1, 2⟩ := by
    rw [a2.2 M.length (by omega) (fun hin => by have := out_lt hv _ hin; omega), hA, List.getElem?_append_left (by omega), hN]
    simp
  have hrb : rd1 A1 M.length 0 = some (strV xs[i].1) := by
    unfold rd1
    rw [hbx]
    rfl
  obtain ⟨hb, hhb⟩ : ∃ hb, hb = w / 256 := ⟨_, rfl⟩
  obtain ⟨lb, hlb⟩ : ∃ lb, lb = w % 256 := ⟨_, rfl⟩
  have t1 := shr8 w
  have t2 := wrap_u8_mod w
  rw [← hhb] at t1
  rw [← hlb] at t2
  have t3 : IntKind.u8.wrap (hb : Int) = hb := wrap_u8 (by omega) (by omega)
  have t4 : byteV (UInt8.ofNat (w / 256)) = .int .u8 hb := by rw [byteV_len (by omega), hhb]
  have t5 : byteV (UInt8.ofNat (w % 256)) = .int .u8 lb := by rw [byteV_len (by omega), hlb]
  have hAm : M ++ [(⟨enc_Entry xs[i], 1, 2⟩ : Blk), ⟨[Value.int .u8 (if noneB xs[i] = true then 0 else 1), .int .u8 hb, .int .u8 lb], 1, 2⟩] = A := by rw [hA, hN, kk, t4, t5]; simp
  have hEm := hE.symm
  have pNA : M ++ [(⟨enc_Entry xs[i], 1, 2⟩ : Blk)] <+: A := by rw [hA, ← hN]; exact List.prefix_append _ _
  have pAE : A1 <+: E := by rw [hE]; exact List.prefix_append _ _
  have u1 := hits_gt (out_lt hv)
  have u2 := hits_gt2 (out_lt hv)
  have f2' : Agree E E1 [M.length + 2] := by rw [← hAll]; exact f2
  rw [kk, t4, t5] at a1 s1
  rw [hAll] at f1
  refine ⟨E.length, E1, hE1, hEl, ?_, ?_⟩
  · rw [f4]
    unfold recY
    rw [hhi, hlo]
    simp
  · have hff : List.isEmpty xs[i].1 = noneB xs[i] := by rw [hno]; cases xs[i].1 <;> rfl
    have hen : enc_Entry xs[i] = [strV xs[i].1, .int .i64 (w : Int)] := by rw [← hw]
    rw [hAll] at a1
    clear hno hw0 hw1 hhi hlo
    cases hz : noneB xs[i] with
    | true =>
      simp only [hz, if_true] at a1 s1 hAm
      rw [hz] at hff
      rw [S_impl_shelfOf_0]; unfold B_impl_shelfOf_0; simp [hi, e6, g3, hff, hw, hrd', t1, t2, t3, hAm, hEm, pNA, pAE, thenD_pre, s1, a1, thenD_agree, a2, hrb, s3, f1, f2', u1, u2]
    | false =>
      simp only [hz, Bool.false_eq_true, if_false] at a1 s1 hAm
      rw [hz] at hff
      rw [S_impl_shelfOf_0]; unfold B_impl_shelfOf_0; simp [hi, e6, g3, hff, hw, hrd', t1, t2, t3, hAm, hEm, pNA, pAE, thenD_pre, s1, a1, thenD_agree, a2, hrb, s3, f1, f2', u1, u2]
theorem recY_len (e : ty_Entry.D) : (recY e).length = 36 := by
  unfold recY
  simp [padL_len]
theorem recsY_len (xs : List ty_Entry.D) (i : Nat) (hi : i ≤ xs.length) : (recsY xs i).length = i * 36 := by
  unfold recsY
  have : ∀ cs ∈ (xs.take i).map (fun e => (recY e).map byteV), cs.length = 36 := by
    intro cs hcs
    obtain ⟨e, _, rfl⟩ := List.mem_map.1 hcs
    simp [recY_len]
  rw [flat_len this]
  simp [Nat.min_eq_left hi]
theorem recsY_succ (xs : List ty_Entry.D) (i : Nat) (hi : i < xs.length) : recsY xs (i + 1) = recsY xs i ++ (recY xs[i]).map byteV := by
  unfold recsY
  rw [List.take_succ_eq_append_getElem hi, List.map_append, List.flatten_append]
  congr 1
  simp only [List.map_cons, List.map_nil, List.flatten_cons, List.flatten_nil, List.append_nil]
theorem l_impl_shelfOf (M0 : Mem) (a : Option Addr) (c : Nat) (xs : List ty_Entry.D) (hx : shelfB xs = true) (h : Rep (.sl ty_Entry) M0 [.slice a xs.length c] xs) (hl4 : xs.length = 4) :
    ∀ (k i : Nat) (v : V) (M : Mem), i + k = xs.length → M0 <+: M → OutR M0.length M v (recsY xs i) →
    ∃ v' M', M0 <+: M' ∧ OutR M0.length M' v' (recsY xs xs.length) ∧ lp (aCall T0) K_impl_shelfOf_0 L_impl_shelfOf_0 [und, und, und, v, und, und, und, und, .slice a xs.length c, .int .i64 xs.length, .int .i64 i, und, und, und, und, und, und, und, und, und, und, und, und, und, und, und, und, und, und, und, und, und, und, und] M = lp (aCall T0) K_impl_shelfOf_0 L_impl_shelfOf_0 [und, und, und, v', und, und, und, und, .slice a xs.length c, .int .i64 xs.length, .int .i64 xs.length, und, und, und, und, und, und, und, und, und, und, und, und, und, und, und, und, und, und, und, und, und, und, und] M'
  | 0, i, v, M, hi, hM, hv => by
    have e : i = xs.length := by omega
    subst e
    exact ⟨v, M, hM, hv, rfl⟩
  | k + 1, i, v, M, hi, hM, hv => by
    have hl := recsY_len xs i (by omega)
    obtain ⟨l', M', q1, q2, q3, q4⟩ := r_impl_shelfOf M0 M hM a c xs hx h v (recsY xs i) hv i (by omega) hl hl4
    rw [q4]
    refine l_impl_shelfOf M0 a c xs hx h hl4 k (i + 1) _ M' (by omega) q1 (.inr ⟨l', q2, ?_, ?_⟩)
    · rw [recsY_len xs (i + 1) (by omega), hl, Nat.add_mul]
    · rw [recsY_succ xs i (by omega)]; exact q3
/-- What the slice holds. -/
theorem out_own {K : Nat} {M : Mem} {v : V} {ys : List ty_Byte.D} (h : OutR K M v (ys.map byteV)) : ∃ L, Own (.sl ty_Byte) M [v] ys L ∧ ∀ j ∈ L, K ≤ j ∧ j < M.length := by
  rcases h with ⟨rfl, hy⟩ | ⟨l, hl, rfl, hb⟩
  · have : ys = [] := by simpa using hy
    subst this
    exact ⟨[], .inl ⟨rfl, rfl, .inl ⟨rfl, rfl⟩⟩, by simp⟩
  · obtain ⟨L, o1, o2⟩ := own_blk (t := ty_Byte) (M := M) (l := l) (c := ys.length) (enc := enc_Byte) (ys := ys) (by rw [flat_Byte]; exact hb) (fun y _ => own_Byte _ y)
    have hlen : (ys.map byteV).length = ys.length := by simp
    rw [hlen]
    exact ⟨L, o1, fun j hj => by rw [o2 j hj]; exact ⟨hl, (List.getElem?_eq_some_iff.1 hb).1⟩⟩
theorem d_shelfOf (M : Mem) (a : Option Addr) (c : Nat) (xs : List ty_Entry.D) (hb : shelfB xs = true) (h : Rep (.sl ty_Entry) M [.slice a xs.length c] xs) :
    ∃ M' u, M <+: M' ∧ aCall T0 F_impl_shelfOf [.agg #[.slice a xs.length c]] M = some (u, M') ∧ Rep (.sl ty_Byte) M' [u] ((xs.map recY).flatten) := by
  have hl4 : xs.length = 4 := by
    simp only [shelfB, Bool.and_eq_true, decide_eq_true_eq] at hb
    exact hb.1
  obtain ⟨v', M', p1, o1, e1⟩ := l_impl_shelfOf (M ++ [⟨[.slice a xs.length c], 1, 2⟩]) a c xs hb (h.mono (List.prefix_append _ _)) hl4 xs.length 0 (.slice none 0 0) _ (by omega) (List.prefix_refl _) (.inl ⟨rfl, rfl⟩)
  rw [recsY_full] at o1
  obtain ⟨L, o2, o3⟩ := out_own o1
  simp only [Int.natCast_zero, Int.ofNat_zero] at e1
  refine ⟨M', v', (List.prefix_append _ _).trans p1, ?_, o2.rep⟩
  obtain ⟨a2, c2, rfl⟩ := o2.rep.slen
  rw [aCall_eq T_impl_shelfOf]; unfold A_impl_shelfOf C_impl_shelfOf; simp [e1]
  rw [S_impl_shelfOf_0]; unfold B_impl_shelfOf_0; simp
theorem c_impl_shelfRead (M : Mem) (v : V) (ys : List UInt8) (h : Rep (.sl ty_Byte) M [v] ys) (hn : ys.length ≤ 1048576) :
    ∃ M' u L, M <+: M' ∧ aCall T0 F_impl_shelfRead [v] M = some (.tuple #[.agg #[u], .bool (readOk ys)], M') ∧ Own (.sl ty_Entry) M' [u] (readX ys) L ∧ ∀ l ∈ L, M.length ≤ l ∧ l < M'.length := by
  by_cases hl : ys.length = 144
  rotate_left
  · refine ⟨M ++ [⟨[.slice none 0 0], 1, 2⟩], .slice none 0 0, [], List.prefix_append _ _, ?_, ?_, by simp⟩
    · have hl2 : ¬ (ys.length : Int) = 144 := by omega
      have hr : readOk ys = false := by unfold readOk; rw [decide_eq_false hl]; rfl
      rw [hr]
      obtain ⟨a, c, rfl⟩ := h.slen
      rw [aCall_eq T_impl_shelfRead]; unfold A_impl_shelfRead C_impl_shelfRead; simp [hl, hl2, prim]
    · have : readX ys = [] := by unfold readX readOk; rw [decide_eq_false hl]; rfl
      rw [this]
      exact .inl ⟨rfl, rfl, .inl ⟨rfl, rfl⟩⟩
  obtain ⟨a, c, rfl⟩ := h.slen
  rw [hl] at h ⊢
  obtain ⟨l, o, rfl, _⟩ := at_Byte h (show 0 < ys.length by omega)
  obtain ⟨M1, v1, q1, e1⟩ := l_impl_shelfRead M l o c ys h hl
  simp only [Int.natCast_zero, Int.ofNat_zero] at e1
  obtain ⟨s1, s2, s3, s4⟩ := q1
  obtain ⟨L, o1, o2⟩ := outE_own s4 (listI_fit ys)
  have i1 := c_impl_isShelf M1 v1 (listI ys) o1.rep (by simp [listI]) (fun e he => by have := (listI_fit ys e he).1; omega)
  have w4 : rdn M1 (M.length + 1) 0 1 = some [v1] := rdn_box s3 rfl
  have hm1 := s1.length_le
  have hlt := (List.getElem?_eq_some_iff.1 s3).1
  unfold readX readOk
  rw [hl]
  cases hb : shelfB (listI ys) with
  | false =>
    rw [hb] at i1
    have w1 := box_set s2 (ds := [.slice none 0 0]) rfl rfl
    have w2 := box_get s2 (ds := [.slice none 0 0]) (n := 1) rfl
    refine ⟨M1.set M.length ⟨[.slice none 0 0], 1, 2⟩, .slice none 0 0, [], pre_set s1 (by omega), ?_, .inl ⟨rfl, rfl, .inl ⟨rfl, rfl⟩⟩, by simp⟩
    obtain ⟨a1, c1, rfl⟩ := o1.rep.slen
    rw [aCall_eq T_impl_shelfRead]; unfold A_impl_shelfRead C_impl_shelfRead; simp [e1]
    rw [S_impl_shelfRead_0]; unfold B_impl_shelfRead_0; simp [hl, w4, i1, w1, w2, prim]
  | true =>
    rw [hb] at i1
    obtain ⟨a1, c1, rfl⟩ := o1.rep.slen
    obtain ⟨M2, u, p2, t1, r1⟩ := d_shelfOf M1 a1 c1 (listI ys) hb o1.rep
    have q2 := c_bytes_Equal M2 u _ _ ys r1 (h.mono (s1.trans p2))
    have s2' := get_pre p2 s2
    have s3' := get_pre p2 s3
    have hm2 := p2.length_le
    have o1' := Own.grow p2 o1
    have w4' : rdn M2 (M.length + 1) 0 1 = some [.slice a1 (listI ys).length c1] := rdn_box s3' rfl
    obtain ⟨a2, c2, hu⟩ := r1.slen
    generalize (((listI ys).map recY).flatten).length = n2 at hu
    subst hu
    cases hq : decide (((listI ys).map recY).flatten = ys) with
    | false =>
      rw [hq] at q2
      have w1 := box_set s2' (ds := [.slice none 0 0]) rfl rfl
      have w2 := box_get s2' (ds := [.slice none 0 0]) (n := 1) rfl
      refine ⟨M2.set M.length ⟨[.slice none 0 0], 1, 2⟩, .slice none 0 0, [], pre_set (s1.trans p2) (by omega), ?_, .inl ⟨rfl, rfl, .inl ⟨rfl, rfl⟩⟩, by simp⟩
      rw [aCall_eq T_impl_shelfRead]; unfold A_impl_shelfRead C_impl_shelfRead; simp [e1]
      rw [S_impl_shelfRead_0]; unfold B_impl_shelfRead_0; simp [hl, w4, i1, t1, q2, w1, w2, prim]
    | true =>
      rw [hq] at q2
      have w1 := box_set s2' (ds := [.slice a1 (listI ys).length c1]) rfl rfl
      have w2 := box_get s2' (ds := [.slice a1 (listI ys).length c1]) (n := 1) rfl
      have o3 := Own.upd (upd_set s2' (b2 := ⟨[.slice a1 (listI ys).length c1], 1, 2⟩) rfl) o1' (fun l hl hk => by have := o2 l hl; simp at hk; omega)
      refine ⟨M2.set M.length ⟨[.slice a1 (listI ys).length c1], 1, 2⟩, .slice a1 (listI ys).length c1, L, pre_set (s1.trans p2) (by omega), ?_, o3, fun l hl => by have := o2 l hl; rw [List.length_set]; omega⟩
      rw [aCall_eq T_impl_shelfRead]; unfold A_impl_shelfRead C_impl_shelfRead; simp [e1]
      rw [S_impl_shelfRead_0]; unfold B_impl_shelfRead_0; simp [hl, w4, w4', i1, t1, q2, w1, w2, prim]
theorem d_impl_ShelfRead (M : Mem) (v : V) (ys : List UInt8) (h : Rep (.sl ty_Byte) M [v] ys) (hn : ys.length ≤ 1048576) :
    ∃ M' u L, M <+: M' ∧ aCall T0 F_impl_ShelfRead [v] M = some (.tuple #[.agg #[u], .bool (readOk ys)], M') ∧ Own (.sl ty_Entry) M' [u] (readX ys) L ∧ ∀ l ∈ L, M.length ≤ l ∧ l < M'.length := by
  obtain ⟨M1, u, L, p1, t1, o1, f1⟩ := c_impl_shelfRead (M ++ [⟨[.slice none 0 0], 1, 2⟩]) v ys (h.mono (List.prefix_append _ _)) hn
  have hb : M1[M.length]? = some ⟨[.slice none 0 0], 1, 2⟩ := get_pre p1 (by simp)
  have hm := p1.length_le
  simp only [List.length_append, List.length_cons, List.length_nil] at hm f1
  obtain ⟨a, c, rfl⟩ := h.slen
  obtain ⟨a1, c1, rfl⟩ := o1.rep.slen
  have w1 := box_set hb (ds := [.slice a1 (readX ys).length c1]) rfl rfl
  have w2 := box_get hb (ds := [.slice a1 (readX ys).length c1]) (n := 1) rfl
  have o3 := Own.upd (upd_set hb (b2 := ⟨[.slice a1 (readX ys).length c1], 1, 2⟩) rfl) o1 (fun l hl hk => by have := f1 l hl; simp at hk; omega)
  refine ⟨M1.set M.length ⟨[.slice a1 (readX ys).length c1], 1, 2⟩, .slice a1 (readX ys).length c1, L, pre_set ((List.prefix_append _ _).trans p1) (by omega), ?_, o3, fun l hl => by have := f1 l hl; rw [List.length_set]; omega⟩
  rw [aCall_eq T_impl_ShelfRead]; unfold A_impl_ShelfRead C_impl_ShelfRead; simp [t1, w1, w2, prim]
def shelfY (xs : List ty_Entry.D) : List ty_Byte.D := if shelfB xs = true then (xs.map recY).flatten else []
theorem c_spec_l17None (M : Mem) (e : ty_Entry.D) : aCall T0 F_spec_l17None [.agg (enc_Entry e).toArray] M = some (.bool (noneB e), M) := by
  unfold noneB
  rw [aCall_eq T_spec_l17None]; unfold A_spec_l17None C_spec_l17None; simp
theorem r_spec_WordOk (M : Mem) (w : List UInt8) (hw : w.length ≤ 9223372036854775807) (i : Nat) (hi : i < w.length) (hb : okByte w[i] = true) :
    lp (aCall T0) K_spec_WordOk_0 L_spec_WordOk_0 [strV w, und, und, .int .i64 i, und, und, und, und, und, und, und, und, und, und, und, und, und, und, und, und, und, und, und, und, und, und, und, und] M = lp (aCall T0) K_spec_WordOk_0 L_spec_WordOk_0 [strV w, und, und, .int .i64 (i + 1 : Nat), und, und, und, und, und, und, und, und, und, und, und, und, und, und, und, und, und, und, und, und, und, und, und, und] M := by
  obtain ⟨h1, h2⟩ := okByte_t hb
  rw [S_spec_WordOk_0]; unfold B_spec_WordOk_0; simp [hi, byteV, h1, h2]
  rw [wrap_i64 (by omega) (by omega)]
theorem x_spec_WordOk (M : Mem) (w : List UInt8) (hw : w.length ≤ 9223372036854775807) (i : Nat) (hi : i < w.length) (hb : okByte w[i] = false) (k : ACode) :
    thenF M [.tmp 2] (thenS (blockR 0 (lp (aCall T0) K_spec_WordOk_0 L_spec_WordOk_0 [strV w, und, und, .int .i64 i, und, und, und, und, und, und, und, und, und, und, und, und, und, und, und, und, und, und, und, und, und, und, und, und] M)) (aCall T0) k) = some (.bool false, M) := by
  rcases okByte_f hb with h1 | ⟨h1, h2⟩
  · rw [S_spec_WordOk_0]; unfold B_spec_WordOk_0; simp [hi, byteV, h1]
  · rw [S_spec_WordOk_0]; unfold B_spec_WordOk_0; simp [hi, byteV, h1, h2]
theorem c_spec_WordOk (M : Mem) (w : List UInt8) (hw : w.length ≤ 9223372036854775807) : aCall T0 F_spec_WordOk [strV w] M = some (.bool (wordB w), M) := by
  unfold wordB
  by_cases hl1 : (w.length : Int) < 1
  · have : w = [] := List.length_eq_zero_iff.1 (by omega)
    subst this
    rw [aCall_eq T_spec_WordOk]; unfold A_spec_WordOk C_spec_WordOk; simp
  by_cases hl2 : 32 < (w.length : Int)
  · rw [aCall_eq T_spec_WordOk]; unfold A_spec_WordOk C_spec_WordOk; simp [hl1, hl2]
  have e : (decide (1 ≤ (w.length : Int)) && decide ((w.length : Int) ≤ 32)) = true := by simp; omega
  rw [e, Bool.and_true]
  rcases first_byte w with ha | ⟨ha, j, hj, h1, h2⟩
  · have hl := chain (g := fun i : Nat => lp (aCall T0) K_spec_WordOk_0 L_spec_WordOk_0 [strV w, und, und, .int .i64 i, und, und, und, und, und, und, und, und, und, und, und, und, und, und, und, und, und, und, und, und, und, und, und, und] M) (n := w.length) fun i hi => r_spec_WordOk M w hw i hi (List.all_eq_true.1 ha _ (List.getElem_mem hi))
    simp only [Int.natCast_zero, Int.ofNat_zero] at hl
    rw [ha]
    rw [aCall_eq T_spec_WordOk]; unfold A_spec_WordOk C_spec_WordOk; simp [hl, hl1, hl2]
    rw [S_spec_WordOk_0]; unfold B_spec_WordOk_0; simp
  · have hl := chain (g := fun i : Nat => lp (aCall T0) K_spec_WordOk_0 L_spec_WordOk_0 [strV w, und, und, .int .i64 i, und, und, und, und, und, und, und, und, und, und, und, und, und, und, und, und, und, und, und, und, und, und, und, und] M) (n := j) fun i hi => r_spec_WordOk M w hw i (by omega) (h1 i (by omega) hi)
    simp only [Int.natCast_zero, Int.ofNat_zero] at hl
    rw [ha]
    rw [aCall_eq T_spec_WordOk]; unfold A_spec_WordOk C_spec_WordOk; simp [hl, hl1, hl2, x_spec_WordOk M w hw j hj h2]
theorem c_spec_l17Full (M : Mem) (e : ty_Entry.D) (he : e.1.length ≤ 9223372036854775807) : aCall T0 F_spec_l17Full [.agg (enc_Entry e).toArray] M = some (.bool (entB e), M) := by
  unfold entB
  have h := fun M => c_spec_WordOk M e.1 he
  rw [aCall_eq T_spec_l17Full]; unfold A_spec_l17Full C_spec_l17Full; simp [h]
  repeat' ((first | rw [selO_some] | rw [condR_bool] | rw [selD_some]); split <;> rename_i hq <;> (have hq2 := hq) <;> (try simp at hq2) <;> (try simp [*, h]))
theorem r_spec_l17At (M : Mem) (a : Option Addr) (c : Nat) (xs : List ty_Entry.D) (h : Rep (.sl ty_Entry) M [.slice a xs.length c] xs) (hn : xs.length ≤ 9223372036854775807) (w : List UInt8) (p : Nat) (hp : rd1 M p 0 = some (.slice a xs.length c)) (i : Nat) (hi : i < xs.length) (hq : isW w xs[i] = false) :
    lp (aCall T0) K_spec_l17At_0 L_spec_l17At_0 [und, strV w, .pointer (some ⟨p, 0, none⟩), und, und, .int .i64 i, und, und, und, und, und, und, und, und, und, und, und, und, und, und, und, und] M = lp (aCall T0) K_spec_l17At_0 L_spec_l17At_0 [und, strV w, .pointer (some ⟨p, 0, none⟩), und, und, .int .i64 (i + 1 : Nat), und, und, und, und, und, und, und, und, und, und, und, und, und, und, und, und] M := by
  obtain ⟨l, o, rfl, hrep, hrd, hf0, hf1⟩ := at_Entry h hi
  have e6 : IntKind.i64.wrap ((i : Int) + 1) = i + 1 := wrap_i64 (by omega) (by omega)
  have hq' : ¬ xs[i].1 = w := by simpa [isW] using hq
  rw [S_spec_l17At_0]; unfold B_spec_l17At_0; simp [hp, hf0, e6, hi, hq']
theorem x_spec_l17At (M0 N : Mem) (a : Option Addr) (c : Nat) (xs : List ty_Entry.D) (h : Rep (.sl ty_Entry) (M0 ++ N) [.slice a xs.length c] xs) (w : List UInt8) (p : Nat) (hp : rd1 (M0 ++ N) p 0 = some (.slice a xs.length c)) (i : Nat) (hi : i < xs.length) (hq : isW w xs[i] = true) (k : ACode) :
    thenF M0 [.tmp 4] (thenS (blockR 0 (lp (aCall T0) K_spec_l17At_0 L_spec_l17At_0 [und, strV w, .pointer (some ⟨p, 0, none⟩), und, und, .int .i64 i, und, und, und, und, und, und, und, und, und, und, und, und, und, und, und, und] (M0 ++ N))) (aCall T0) k) = some (.int .i64 i, M0) := by
  obtain ⟨l, o, rfl, hrep, hrd, hf0, hf1⟩ := at_Entry h hi
  have hq' : xs[i].1 = w := by simpa [isW] using hq
  rw [S_spec_l17At_0]; unfold B_spec_l17At_0; simp [hp, hf0, hi, hq']
theorem c_spec_l17At (M : Mem) (v : V) (xs : List ty_Entry.D) (h : Rep (.sl ty_Entry) M [v] xs) (hn : xs.length ≤ 9223372036854775807) (w : List UInt8) :
    aCall T0 F_spec_l17At [.agg #[v], strV w] M = some (.int .i64 (idx (isW w) xs), M) := by
  have h' : Rep (.sl ty_Entry) (M ++ [⟨[v], 1, 2⟩]) [v] xs := h.mono (List.prefix_append _ _)
  obtain ⟨a, c, rfl⟩ := h.slen
  have hp : rd1 (M ++ [⟨[.slice a xs.length c], 1, 2⟩]) M.length 0 = some (.slice a xs.length c) := by simp
  rcases idx_cases (isW w) xs with ⟨ha, h1⟩ | ⟨j, hj, ha, h1, h2⟩
  · have hc := chain (g := fun i : Nat => lp (aCall T0) K_spec_l17At_0 L_spec_l17At_0 [und, strV w, .pointer (some ⟨M.length, 0, none⟩), und, und, .int .i64 i, und, und, und, und, und, und, und, und, und, und, und, und, und, und, und, und] (M ++ [⟨[.slice a xs.length c], 1, 2⟩])) (n := xs.length) fun i hi => r_spec_l17At _ a c xs h' hn w M.length hp i hi (h1 i hi)
    simp only [Int.natCast_zero, Int.ofNat_zero] at hc
    rw [ha]
    rw [aCall_eq T_spec_l17At]; unfold A_spec_l17At C_spec_l17At; simp [hc]
    rw [S_spec_l17At_0]; unfold B_spec_l17At_0; simp
  · have hc := chain (g := fun i : Nat => lp (aCall T0) K_spec_l17At_0 L_spec_l17At_0 [und, strV w, .pointer (some ⟨M.length, 0, none⟩), und, und, .int .i64 i, und, und, und, und, und, und, und, und, und, und, und, und, und, und, und, und] (M ++ [⟨[.slice a xs.length c], 1, 2⟩])) (n := j) fun i hi => r_spec_l17At _ a c xs h' hn w M.length hp i (by omega) (h1 i (by omega) hi)
    simp only [Int.natCast_zero, Int.ofNat_zero] at hc
    rw [ha]
    rw [aCall_eq T_spec_l17At]; unfold A_spec_l17At C_spec_l17At; simp [hc, x_spec_l17At M [⟨[.slice a xs.length c], 1, 2⟩] a c xs h' w M.length hp j hj h2]
theorem r_spec_ShelfOk (M : Mem) (a : Option Addr) (c : Nat) (xs : List ty_Entry.D) (h : Rep (.sl ty_Entry) M [.slice a xs.length c] xs) (hn : xs.length ≤ 9223372036854775807) (hf : ∀ e ∈ xs, e.1.length ≤ 9223372036854775807) (p : Nat) (hp : rd1 M p 0 = some (.slice a xs.length c)) (hp2 : rdn M p 0 1 = some [.slice a xs.length c]) (i : Nat) (hi : i < xs.length) (hq : slotB xs i = true) :
    lp (aCall T0) K_spec_ShelfOk_0 L_spec_ShelfOk_0 [und, .pointer (some ⟨p, 0, none⟩), und, .int .i64 i, und, und, und, und, und, und, und, und, und, und, und, und, und, und, und, und, und, und, und, und, und, und, und, und, und, und, und, und, und, und, und, und, und, und, und, und, und, und, und] M = lp (aCall T0) K_spec_ShelfOk_0 L_spec_ShelfOk_0 [und, .pointer (some ⟨p, 0, none⟩), und, .int .i64 (i + 1 : Nat), und, und, und, und, und, und, und, und, und, und, und, und, und, und, und, und, und, und, und, und, und, und, und, und, und, und, und, und, und, und, und, und, und, und, und, und, und, und, und] M := by
  obtain ⟨l, o, rfl, hrep, hrd, hf0, hf1⟩ := at_Entry h hi
  have e6 : IntKind.i64.wrap ((i : Int) + 1) = i + 1 := wrap_i64 (by omega) (by omega)
  have g1 := fun M => c_spec_l17None M xs[i]
  have g2 := fun M => c_spec_l17Full M xs[i] (hf _ (List.getElem_mem hi))
  have g3 := c_spec_l17At M _ xs h hn xs[i].1
  simp only [slotB, List.getElem?_eq_getElem hi, Bool.or_eq_true, Bool.and_eq_true, decide_eq_true_eq] at hq
  cases hnone : noneB xs[i] with
  | true => rw [S_spec_ShelfOk_0]; unfold B_spec_ShelfOk_0; simp [hp, hp2, hrd, hf0, e6, hi, g1, g2, g3, hnone]
  | false =>
    obtain ⟨q1, q2⟩ := hq.resolve_left (by simp [hnone])
    rw [S_spec_ShelfOk_0]; unfold B_spec_ShelfOk_0; simp [hp, hp2, hrd, hf0, e6, hi, g1, g2, g3, hnone, q1, q2]
theorem x_spec_ShelfOk (M0 N : Mem) (a : Option Addr) (c : Nat) (xs : List ty_Entry.D) (h : Rep (.sl ty_Entry) (M0 ++ N) [.slice a xs.length c] xs) (hn : xs.length ≤ 9223372036854775807) (hf : ∀ e ∈ xs, e.1.length ≤ 9223372036854775807) (p : Nat) (hp : rd1 (M0 ++ N) p 0 = some (.slice a xs.length c)) (hp2 : rdn (M0 ++ N) p 0 1 = some [.slice a xs.length c]) (i : Nat) (hi : i < xs.length) (hq : slotB xs i = false) (k : ACode) :
    thenF M0 [.tmp 2] (thenS (blockR 0 (lp (aCall T0) K_spec_ShelfOk_0 L_spec_ShelfOk_0 [und, .pointer (some ⟨p, 0, none⟩), und, .int .i64 i, und, und, und, und, und, und, und, und, und, und, und, und, und, und, und, und, und, und, und, und, und, und, und, und, und, und, und, und, und, und, und, und, und, und, und, und, und, und, und] (M0 ++ N))) (aCall T0) k) = some (.bool false, M0) := by
  obtain ⟨l, o, rfl, hrep, hrd, hf0, hf1⟩ := at_Entry h hi
  have g1 := fun M => c_spec_l17None M xs[i]
  have g2 := fun M => c_spec_l17Full M xs[i] (hf _ (List.getElem_mem hi))
  have g3 := c_spec_l17At (M0 ++ N) _ xs h hn xs[i].1
  simp only [slotB, List.getElem?_eq_getElem hi, Bool.or_eq_false_iff, Bool.and_eq_false_iff, decide_eq_false_iff_not] at hq
  obtain ⟨hnone, hq⟩ := hq
  cases hent : entB xs[i] with
  | false => rw [S_spec_ShelfOk_0]; unfold B_spec_ShelfOk_0; simp [hp, hp2, hrd, hf0, hi, g1, g2, g3, hnone, hent]
  | true =>
    have q2 := hq.resolve_left (by simp [hent])
    rw [S_spec_ShelfOk_0]; unfold B_spec_ShelfOk_0; simp [hp, hp2, hrd, hf0, hi, g1, g2, g3, hnone, hent, q2]
theorem c_spec_ShelfOk (M : Mem) (v : V) (xs : List ty_Entry.D) (h : Rep (.sl ty_Entry) M [v] xs) (hn : xs.length ≤ 9223372036854775807) (hf : ∀ e ∈ xs, e.1.length ≤ 9223372036854775807) :
    aCall T0 F_spec_ShelfOk [.agg #[v]] M = some (.bool (shelfB xs), M) := by
  have h' : Rep (.sl ty_Entry) (M ++ [⟨[v], 1, 2⟩]) [v] xs := h.mono (List.prefix_append _ _)
  obtain ⟨a, c, rfl⟩ := h.slen
  have hp : rd1 (M ++ [⟨[.slice a xs.length c], 1, 2⟩]) M.length 0 = some (.slice a xs.length c) := by simp
  have hp2 : rdn (M ++ [⟨[.slice a xs.length c], 1, 2⟩]) M.length 0 1 = some [.slice a xs.length c] := by simp
  unfold shelfB
  by_cases h4 : xs.length = 4
  · have h4' : ((xs.length : Int) = 4) = True := eq_true (by omega)
    rcases slots_cases xs with ⟨ha, h1⟩ | ⟨ha, j, hj, h1, h2⟩
    · have hc := chain (g := fun i : Nat => lp (aCall T0) K_spec_ShelfOk_0 L_spec_ShelfOk_0 [und, .pointer (some ⟨M.length, 0, none⟩), und, .int .i64 i, und, und, und, und, und, und, und, und, und, und, und, und, und, und, und, und, und, und, und, und, und, und, und, und, und, und, und, und, und, und, und, und, und, und, und, und, und, und, und] (M ++ [⟨[.slice a xs.length c], 1, 2⟩])) (n := xs.length) fun i hi => r_spec_ShelfOk _ a c xs h' hn hf M.length hp hp2 i hi (h1 i hi)
      simp only [Int.natCast_zero, Int.ofNat_zero] at hc
      rw [ha]
      rw [aCall_eq T_spec_ShelfOk]; unfold A_spec_ShelfOk C_spec_ShelfOk; simp [hc, h4']
      rw [S_spec_ShelfOk_0]; unfold B_spec_ShelfOk_0; simp
      exact h4
    · have hc := chain (g := fun i : Nat => lp (aCall T0) K_spec_ShelfOk_0 L_spec_ShelfOk_0 [und, .pointer (some ⟨M.length, 0, none⟩), und, .int .i64 i, und, und, und, und, und, und, und, und, und, und, und, und, und, und, und, und, und, und, und, und, und, und, und, und, und, und, und, und, und, und, und, und, und, und, und, und, und, und, und] (M ++ [⟨[.slice a xs.length c], 1, 2⟩])) (n := j) fun i hi => r_spec_ShelfOk _ a c xs h' hn hf M.length hp hp2 i (by omega) (h1 i hi)
      simp only [Int.natCast_zero, Int.ofNat_zero] at hc
      rw [ha]
      rw [aCall_eq T_spec_ShelfOk]; unfold A_spec_ShelfOk C_spec_ShelfOk; simp [hc, h4', x_spec_ShelfOk M [⟨[.slice a xs.length c], 1, 2⟩] a c xs h' hn hf M.length hp hp2 j hj h2]
  · have h4' : ¬ (xs.length : Int) = 4 := by omega
    rw [aCall_eq T_spec_ShelfOk]; unfold A_spec_ShelfOk C_spec_ShelfOk; simp [h4', h4]
def padC (w : List UInt8) (i : Nat) : List V := .int .u8 w.length :: ((w.take i).map byteV ++ zc (.int .u8 0) (32 - i))
theorem padC_set (w : List UInt8) (i : Nat) (hi : i < w.length) (hw : w.length ≤ 32) : (padC w i).set (i + 1) (byteV w[i]) = padC w (i + 1) := by
  unfold padC
  rw [List.set_cons_succ, List.set_append_right _ _ (by simp; omega)]
  have e1 : i - ((w.take i).map byteV).length = 0 := by simp; omega
  have e2 : 32 - i = 32 - (i + 1) + 1 := by omega
  rw [e1, e2, zc_set, List.take_succ_eq_append_getElem hi]
  simp only [List.map_append, List.map_cons, List.map_nil, List.append_assoc, List.cons_append, List.nil_append]
theorem padC_len (w : List UInt8) (i : Nat) (hi : i ≤ w.length) (hw : w.length ≤ 32) : (padC w i).length = 33 := by
  unfold padC; simp; omega
theorem r_spec_Pad (M : Mem) (w : List UInt8) (h2 : w.length ≤ 32) (i : Nat) (hi : i < w.length) :
    lp (aCall T0) K_spec_Pad_0 L_spec_Pad_0 [strV w, und, und, .slice (some ⟨M.length, 0, none⟩) 33 33, .int .i64 i, und, und, und, und, und, und, und, und, und, und, und, und, und, und, und, und, und, und, und, und, und, und, und, und] (M ++ [⟨padC w i, 1, 2⟩]) =
    lp (aCall T0) K_spec_Pad_0 L_spec_Pad_0 [strV w, und, und, .slice (some ⟨M.length, 0, none⟩) 33 33, .int .i64 (i + 1 : Nat), und, und, und, und, und, und, und, und, und, und, und, und, und, und, und, und, und, und, und, und, und, und, und, und] (M ++ [⟨padC w (i + 1), 1, 2⟩]) := by
  have e1 : ((i : Int) + 1).toNat = i + 1 := by omega
  have e2 : (0 : Int) ≤ i + 1 := by omega
  have e3 : (i : Int) + 1 < 33 := by omega
  have e4 := padC_len w i (by omega) h2
  have e5 : i + 1 + 1 ≤ 33 := by omega
  have e6 : splice (padC w i) (i + 1) [byteV w[i]] = padC w (i + 1) := by rw [splice_one (by omega), padC_set w i hi h2]
  have e7 : IntKind.i64.wrap ((i : Int) + 1) = i + 1 := wrap_i64 (by omega) (by omega)
  unfold splice at e6
  simp at e6
  rw [S_spec_Pad_0]; unfold B_spec_Pad_0; simp [hi, e1, e2, e3, e4, e5, e6, e7]
theorem c_spec_Pad (M : Mem) (w : List UInt8) (hw : w.length ≤ 9223372036854775807) : aCall T0 F_spec_Pad [strV w] M = some (.slice (some ⟨M.length, 0, none⟩) 33 33, M ++ [padB w]) := by
  unfold padB
  cases hb : wordB w with
  | false => rw [padL_f hb]; rw [aCall_eq T_spec_Pad]; unfold A_spec_Pad C_spec_Pad; simp [c_spec_WordOk _ _ hw, hb]
  | true =>
    obtain ⟨h1, h2⟩ := wordB_len hb
    rw [padL_t hb]
    have hl := chain (g := fun i : Nat => lp (aCall T0) K_spec_Pad_0 L_spec_Pad_0 [strV w, und, und, .slice (some ⟨M.length, 0, none⟩) 33 33, .int .i64 i, und, und, und, und, und, und, und, und, und, und, und, und, und, und, und, und, und, und, und, und, und, und, und, und] (M ++ [⟨padC w i, 1, 2⟩])) (n := w.length) fun i hi => r_spec_Pad M w h2 i hi
    have e0 : padC w 0 = .int .u8 w.length :: zc (.int .u8 0) 32 := by simp [padC]
    have e1 : padC w w.length = .int .u8 w.length :: (w.map byteV ++ zc (.int .u8 0) (32 - w.length)) := by simp [padC]
    simp only [Int.natCast_zero, Int.ofNat_zero, e0, e1] at hl
    rw [aCall_eq T_spec_Pad]; unfold A_spec_Pad C_spec_Pad; simp [c_spec_WordOk _ _ hw, hb]
    rw [wrap_u8 (by omega) (by omega), hl]
    rw [S_spec_Pad_0]; unfold B_spec_Pad_0; simp
theorem c_spec_l09Two (M : Mem) (n : Nat) (hn : n ≤ 65535) : aCall T0 F_spec_l09Two [.int .i64 n] M = some (.slice (some ⟨M.length, 0, none⟩) 2 2, M ++ [⟨[byteV (UInt8.ofNat (n / 256)), byteV (UInt8.ofNat (n % 256))], 1, 2⟩]) := by
  rw [byteV_len (by omega), byteV_len (by omega)]
  obtain ⟨h, hh⟩ : ∃ h, h = n / 256 := ⟨_, rfl⟩
  obtain ⟨l, hl⟩ : ∃ l, l = n % 256 := ⟨_, rfl⟩
  have e1 : (n : Int).tdiv 256 = h := by rw [Int.tdiv_eq_ediv_of_nonneg (by omega), hh]; simp
  have e2 : (n : Int).tmod 256 = l := by rw [Int.tmod_eq_emod_of_nonneg (by omega), hl]; simp
  have e3 : IntKind.i64.wrap (h : Int) = h := wrap_i64 (by omega) (by omega)
  have e4 : IntKind.u8.wrap (h : Int) = h := wrap_u8 (by omega) (by omega)
  have e5 : IntKind.u8.wrap (l : Int) = l := wrap_u8 (by omega) (by omega)
  rw [← hh, ← hl]
  rw [aCall_eq T_spec_l09Two]; unfold A_spec_l09Two C_spec_l09Two; simp [e1, e2, e3, e4, e5, zeroCells]
theorem hits_lt {ys : List Nat} {K x : Nat} (h : ∀ b ∈ ys, K ≤ b) (hx : x < K) : hits [x] ys = false := by
  unfold hits
  simp only [List.any_cons, List.any_nil, Bool.or_false]
  rw [List.any_eq_false]
  intro b hb
  have := h b hb
  simp; omega
theorem r_spec_ShelfOf (M0 M : Mem) (hM : M0 <+: M) (p : Nat) (a : Option Addr) (c : Nat) (xs : List ty_Entry.D) (hx : shelfB xs = true) (hp : rd1 M0 p 0 = some (.slice a xs.length c)) (h : Rep (.sl ty_Entry) M0 [.slice a xs.length c] xs) (hpl : p < M0.length)
    (v : V) (cs : List V) (hv : OutR M0.length M v cs) (i : Nat) (hi : i < xs.length) (hc : cs.length = i * 36) (hl4 : xs.length = 4) :
    ∃ l' M', M0 <+: M' ∧ M0.length ≤ l' ∧ M'[l']? = some ⟨cs ++ (recY xs[i]).map byteV, 1, 2⟩ ∧
      lp (aCall T0) K_spec_ShelfOf_0 L_spec_ShelfOf_0 [und, .pointer (some ⟨p, 0, none⟩), und, v, .int .i64 i, und, und, und, und, und, und, und, und, und, und, und, und, und, und, und, und, und, und, und, und, und, und, und, und, und, und, und, und, und, und, und, und, und, und, und, und, und, und, und, und] M =
      lp (aCall T0) K_spec_ShelfOf_0 L_spec_ShelfOf_0 [und, .pointer (some ⟨p, 0, none⟩), und, .slice (some ⟨l', 0, none⟩) (cs.length + 36) (cs.length + 36), .int .i64 (i + 1 : Nat), und, und, und, und, und, und, und, und, und, und, und, und, und, und, und, und, und, und, und, und, und, und, und, und, und, und, und, und, und, und, und, und, und, und, und, und, und, und, und, und] M' := by
  obtain ⟨hno, hwl, hw0, hw1⟩ := shelf_elem hx hi
  have e6 : IntKind.i64.wrap ((i : Int) + 1) = i + 1 := wrap_i64 (by omega) (by omega)
  have g1 := fun M => c_spec_l17None M xs[i]
  have g3 := fun M => c_spec_Pad M xs[i].1 (by omega)
  have kk : (byteV (liveB xs[i])) = .int .u8 (if noneB xs[i] = true then 0 else 1) := by unfold liveB; split <;> rfl
  obtain ⟨w, hw⟩ : ∃ w : Nat, xs[i].2 = (w : Int) := ⟨xs[i].2.toNat, (Int.toNat_of_nonneg hw0).symm⟩
  have hwb : w ≤ 65535 := by rw [hw] at hw1; exact Int.ofNat_le.1 hw1
  have hhi : hiB xs[i] = UInt8.ofNat (w / 256) := by unfold hiB; rw [hw]; rfl
  have hlo : loB xs[i] = UInt8.ofNat (w % 256) := by unfold loB; rw [hw]; rfl
  have g2 := fun M => c_spec_l09Two M w hwb
  have hMl := hM.length_le
  -- the three appends
  obtain ⟨A, hA⟩ : ∃ A, A = M ++ [(⟨[byteV (liveB xs[i])], 1, 2⟩ : Blk)] := ⟨_, rfl⟩
  have hvA : OutR M0.length A v cs := by
    rcases hv with hv | ⟨l, q1, q2, q3⟩
    · exact .inl hv
    · exact .inr ⟨l, q1, q2, by rw [hA]; exact get_pre' q3⟩
  have hMA : M0 <+: A := by rw [hA]; exact pre_app hM
  obtain ⟨A1, a1, a2, a3, a4⟩ := app_out hvA (ys := [byteV (liveB xs[i])]) (m := 1) rfl (by omega) rfl (by omega)
  have hA1 : M0 <+: A1 := agree_pre a2 hMA (out_ge hvA)
  have hAl := hMA.length_le
  obtain ⟨C, hC⟩ : ∃ C, C = A1 ++ [(⟨[byteV (UInt8.ofNat (w / 256)), byteV (UInt8.ofNat (w % 256))], 1, 2⟩ : Blk)] := ⟨_, rfl⟩
  have hMC : M0 <+: C := by rw [hC]; exact pre_app hA1
  have hvC : OutR M0.length C (.slice (some ⟨A.length, 0, none⟩) (cs.length + 1) (cs.length + 1)) (cs ++ [byteV (liveB xs[i])]) :=
    .inr ⟨A.length, hAl, by simp, by rw [hC]; exact get_pre' a4⟩
  obtain ⟨C1, c1, c2, c3, c4⟩ := app_out hvC (ys := [byteV (UInt8.ofNat (w / 256)), byteV (UInt8.ofNat (w % 256))]) (m := 2) rfl (by omega) rfl (by simp; omega)
  have hC1 : M0 <+: C1 := agree_pre c2 hMC (out_ge hvC)
  have hCl := hMC.length_le
  obtain ⟨E, hE⟩ : ∃ E, E = C1 ++ [padB xs[i].1] := ⟨_, rfl⟩
  have hME : M0 <+: E := by rw [hE]; exact pre_app hC1
  have hvE : OutR M0.length E (.slice (some ⟨C.length, 0, none⟩) (cs.length + 3) (cs.length + 3)) (cs ++ [byteV (liveB xs[i])] ++ [byteV (UInt8.ofNat (w / 256)), byteV (UInt8.ofNat (w % 256))]) :=
    .inr ⟨C.length, hCl, by simp, by rw [hE]; exact get_pre' c4⟩
  have hpl33 : ((padL xs[i].1).map byteV).length = 33 := by simp [padL_len]
  obtain ⟨E1, f1, f2, f3, f4⟩ := app_out hvE (ys := (padL xs[i].1).map byteV) (m := 33) hpl33 (by omega) (map_byte_all _) (by simp; omega)
  have hE1 : M0 <+: E1 := agree_pre f2 hME (out_ge hvE)
  have hEl := hME.length_le
  have s1 := cells_new (M := M) (cs := [byteV (liveB xs[i])]) (n := 1) rfl (by omega)
  have s2 := cells_new (M := A1) (cs := [byteV (UInt8.ofNat (w / 256)), byteV (UInt8.ofNat (w % 256))]) (n := 2) rfl (by omega)
  have s3 := cells_new (M := C1) (cs := (padL xs[i].1).map byteV) (n := 33) hpl33.symm (by omega)
  have hpb : padB xs[i].1 = ⟨(padL xs[i].1).map byteV, 1, 2⟩ := rfl
  rw [hpb] at hE
  rw [← hA] at s1
  rw [← hC] at s2
  rw [← hE] at s3
  simp only [List.length_append, List.length_cons, List.length_nil, Nat.zero_add, Nat.add_assoc, Nat.reduceAdd] at c1 f1
  have c2' : Agree C C1 [A.length] := c2
  have hp' : ∀ X, M0 <+: X → rd1 X p 0 = some (.slice a xs.length c) := by rintro _ ⟨r, rfl⟩; exact rd1_old hp
  obtain ⟨l, o, rfl, hrep, hrd, hf0, hf1⟩ := at_Entry h hi
  have hll : l < M0.length := by
    unfold rdn at hrd
    split at hrd
    · rename_i b hb; exact (List.getElem?_eq_some_iff.1 hb).1
    · cases hrd
  have hrd' : rdn M l (o + i * 2) 2 = some (enc_Entry xs[i]) := by obtain ⟨r, rfl⟩ := hM; exact rdn_old hrd
  have hf1' : rd1 A1 l (o + i * 2 + 1) = some (.int .i64 w) := by obtain ⟨r, rfl⟩ := hA1; rw [hw] at hf1; exact rd1_old hf1
  have hf0' : rd1 C1 l (o + i * 2) = some (strV xs[i].1) := by obtain ⟨r, rfl⟩ := hC1; exact rd1_old hf0
  have hpM := hp' M hM
  have hpA := hp' A1 hA1
  have hpC := hp' C1 hC1
  have hAm : M ++ [(⟨[Value.int .u8 (if noneB xs[i] = true then 0 else 1)], 1, 2⟩ : Blk)] = A := by rw [hA, kk]
  rw [kk] at a1 s1
  refine ⟨E.length, E1, hE1, hEl, ?_, ?_⟩
  · rw [f4]
    unfold recY
    rw [hhi, hlo]
    simp
  · have hCm := hC.symm
    have hEm := hE.symm
    have pMA : M <+: A := by rw [hA]; exact List.prefix_append _ _
    have pAC : A1 <+: C := by rw [hC]; exact List.prefix_append _ _
    have pCE : C1 <+: E := by rw [hE]; exact List.prefix_append _ _
    have u1 := hits_lt (out_ge hv) hpl
    have u2 := hits_lt (out_ge hv) hll
    have u3 : ¬ A.length = p := by omega
    have u4 : ¬ A.length = l := by omega
    cases hz : noneB xs[i] with
    | true =>
      simp only [hz, if_true] at a1 s1 hAm
      rw [S_spec_ShelfOf_0]; unfold B_spec_ShelfOf_0; simp [hi, e6, g1, g2, g3, hz, hp', hpM, hpA, hpC, hrd', hf1', hf0', hAm, hCm, hEm, pMA, pAC, pCE, thenD_pre, s1, a1, thenD_agree, a2, s2, c1, c2', s3, f1, u1, u2, u3, u4]
    | false =>
      simp only [hz, Bool.false_eq_true, if_false] at a1 s1 hAm
      rw [S_spec_ShelfOf_0]; unfold B_spec_ShelfOf_0; simp [hi, e6, g1, g2, g3, hz, hp', hpM, hpA, hpC, hrd', hf1', hf0', hAm, hCm, hEm, pMA, pAC, pCE, thenD_pre, s1, a1, thenD_agree, a2, s2, c1, c2', s3, f1, u1, u2, u3, u4]
theorem l_spec_ShelfOf (M0 : Mem) (p : Nat) (a : Option Addr) (c : Nat) (xs : List ty_Entry.D) (hx : shelfB xs = true) (hp : rd1 M0 p 0 = some (.slice a xs.length c)) (h : Rep (.sl ty_Entry) M0 [.slice a xs.length c] xs) (hpl : p < M0.length) (hl4 : xs.length = 4) :
    ∀ (k i : Nat) (v : V) (M : Mem), i + k = xs.length → M0 <+: M → OutR M0.length M v (recsY xs i) →
    ∃ v' M', M0 <+: M' ∧ OutR M0.length M' v' (recsY xs xs.length) ∧ lp (aCall T0) K_spec_ShelfOf_0 L_spec_ShelfOf_0 [und, .pointer (some ⟨p, 0, none⟩), und, v, .int .i64 i, und, und, und, und, und, und, und, und, und, und, und, und, und, und, und, und, und, und, und, und, und, und, und, und, und, und, und, und, und, und, und, und, und, und, und, und, und, und, und, und] M = lp (aCall T0) K_spec_ShelfOf_0 L_spec_ShelfOf_0 [und, .pointer (some ⟨p, 0, none⟩), und, v', .int .i64 xs.length, und, und, und, und, und, und, und, und, und, und, und, und, und, und, und, und, und, und, und, und, und, und, und, und, und, und, und, und, und, und, und, und, und, und, und, und, und, und, und, und] M'
  | 0, i, v, M, hi, hM, hv => by
    have e : i = xs.length := by omega
    subst e
    exact ⟨v, M, hM, hv, rfl⟩
  | k + 1, i, v, M, hi, hM, hv => by
    have hl := recsY_len xs i (by omega)
    obtain ⟨l', M', q1, q2, q3, q4⟩ := r_spec_ShelfOf M0 M hM p a c xs hx hp h hpl v (recsY xs i) hv i (by omega) hl hl4
    rw [q4]
    refine l_spec_ShelfOf M0 p a c xs hx hp h hpl hl4 k (i + 1) _ M' (by omega) q1 (.inr ⟨l', q2, ?_, ?_⟩)
    · rw [recsY_len xs (i + 1) (by omega), hl, Nat.add_mul]
    · rw [recsY_succ xs i (by omega)]; exact q3
theorem d_spec_ShelfOf (M : Mem) (v : V) (xs : List ty_Entry.D) (h : Rep (.sl ty_Entry) M [v] xs) (hn : xs.length ≤ 1048576) (hf : ∀ e ∈ xs, e.1.length ≤ 9223372036854775807) :
    ∃ M' u, M <+: M' ∧ aCall T0 F_spec_ShelfOf [.agg #[v]] M = some (u, M') ∧ Rep (.sl ty_Byte) M' [u] (shelfY xs) := by
  have h' : Rep (.sl ty_Entry) (M ++ [⟨[v], 1, 2⟩]) [v] xs := h.mono (List.prefix_append _ _)
  have g1 := c_spec_ShelfOk _ v xs h' (by omega) hf
  unfold shelfY
  cases hb : shelfB xs with
  | false =>
    refine ⟨M ++ [⟨[v], 1, 2⟩], .slice none 0 0, List.prefix_append _ _, ?_, .inl ⟨rfl, rfl⟩⟩
    obtain ⟨a, c, rfl⟩ := h.slen
    rw [aCall_eq T_spec_ShelfOf]; unfold A_spec_ShelfOf C_spec_ShelfOf; simp [g1, hb]
  | true =>
    have hl4 : xs.length = 4 := by
      simp only [shelfB, Bool.and_eq_true, decide_eq_true_eq] at hb
      exact hb.1
    obtain ⟨a, c, rfl⟩ := h.slen
    obtain ⟨v', M', p1, o1, e1⟩ := l_spec_ShelfOf (M ++ [⟨[.slice a xs.length c], 1, 2⟩]) M.length a c xs hb (by simp) (h.mono (List.prefix_append _ _)) (by simp) hl4 xs.length 0 (.slice (some ⟨M.length + 1, 0, none⟩) 0 0) (M ++ [⟨[.slice a xs.length c], 1, 2⟩, ⟨[], 1, 2⟩]) (by omega) (by rw [show M ++ [(⟨[.slice a xs.length c], 1, 2⟩ : Blk), ⟨[], 1, 2⟩] = M ++ [⟨[.slice a xs.length c], 1, 2⟩] ++ [⟨[], 1, 2⟩] by simp]; exact List.prefix_append _ _) (.inr ⟨M.length + 1, by simp, rfl, by simp [recsY]⟩)
    rw [recsY_full] at o1
    obtain ⟨L, o2, o3⟩ := out_own o1
    simp only [Int.natCast_zero, Int.ofNat_zero] at e1
    rw [if_pos rfl]
    refine ⟨M', v', (List.prefix_append _ _).trans p1, ?_, o2.rep⟩
    have hp4 : rd1 M' M.length 0 = some (.slice a xs.length c) := by
      obtain ⟨r, rfl⟩ := p1
      exact rd1_old (by simp)
    obtain ⟨a2, c2, rfl⟩ := o2.rep.slen
    rw [aCall_eq T_spec_ShelfOf]; unfold A_spec_ShelfOf C_spec_ShelfOf; simp [g1, hb, zeroCells, e1]
    rw [S_spec_ShelfOf_0]; unfold B_spec_ShelfOf_0; simp [hp4]
def eS (ys : List UInt8) (p : Nat) : ty_Entry.D := if atN ys p = 1 then eI ys p else ([], 0)
def listS (ys : List UInt8) : List ty_Entry.D := [eS ys 0, eS ys 36, eS ys 72, eS ys 108]
theorem c_spec_Unpad (M : Mem) (v : V) (ys : List UInt8) (h : Rep (.sl ty_Byte) M [v] ys) (hl : ys.length = 33) : aCall T0 F_spec_Unpad [v] M = some (.tuple #[strV (unW ys), .bool (unB ys)], M) := by
  obtain ⟨a, c, rfl⟩ := h.slen
  have h0 : 0 < ys.length := by omega
  obtain ⟨l, o, rfl, _, hrd⟩ := at_Byte h h0
  obtain ⟨blk, hb, hbw, _⟩ := rep_blk h
  have e0 : unL ys = ys[0].toNat := by
    match ys, h0 with
    | y :: ys, _ => rfl
  rw [Nat.add_zero] at hrd
  have hbw : blk.w = 1 := hbw
  obtain ⟨d, hd⟩ : ∃ d, d = unL ys := ⟨_, rfl⟩
  have hby : byteV ys[0] = .int .u8 d := by rw [hd, e0]; rfl
  rw [hby] at hrd
  by_cases hd1 : d < 1
  · have hu : unB ys = false := by
      have : unC ys = [] := by
        unfold unC
        rw [← hd, show d = 0 by omega]
        rfl
      unfold unB
      rw [this]
      simp [wordB]
    have g0 : (d : Int) < 1 := by omega
    unfold unW
    rw [hu]
    have g3 : d = 0 := by omega
    rw [aCall_eq T_spec_Unpad]; unfold A_spec_Unpad C_spec_Unpad; simp [hl, hrd, g0, g3]
  have g0 : ¬ (d : Int) < 1 := by omega
  have g00 : ¬ d = 0 := by omega
  unfold unW unB
  rw [← hd]
  by_cases h32 : d ≤ 32
  · have g1 : ¬ 32 < (d : Int) := by omega
    have g2 : d ≤ 32 := h32
    have e2 : IntKind.i64.wrap (d : Int) = d := wrap_i64 (by omega) (by omega)
    have e1 : IntKind.i64.wrap (1 + (d : Int)) = 1 + d := wrap_i64 (by omega) (by omega)
    have hs := rep_sub h 1 d (by omega) (max ys.length c - 1)
    have hs2 : Rep (.sl ty_Byte) M [.slice (some ⟨l, o + 1, none⟩) d (max ys.length c - 1)] (unC ys) := by unfold unC; rw [← hd]; exact hs
    have hul : (unC ys).length = d := by
      unfold unC
      rw [← hd, List.length_take, List.length_drop]
      omega
    obtain ⟨a1, c1, z1, z2⟩ := cells_Byte hs2
    rw [hul] at z1 z2
    cases z1
    rw [hl] at z2
    have b1 : (1 : Int) ≤ 1 + d := by omega
    have b2 : (1 : Int) + d ≤ 33 := by omega
    have b3 : ((1 : Int) + d).toNat - 1 = d := by omega
    rw [decide_eq_true h32]
    have w1 := fun M => c_spec_WordOk M (unC ys) (by omega)
    have w2 := c_spec_Pad M (unC ys) (by omega)
    obtain ⟨_, _, y1, y2⟩ := cells_Byte (rep_blkB (M := M ++ [padB (unC ys)]) (l := M.length) (ys := padL (unC ys)) 33 (by simp))
    cases y1
    obtain ⟨_, _, x1, x2⟩ := cells_Byte (h.mono (List.prefix_append M [padB (unC ys)]))
    cases x1
    rw [padL_len] at y2
    rw [hl] at x2
    have pp : M <+: M ++ [padB (unC ys)] := List.prefix_append _ _
    obtain ⟨A, hA⟩ : ∃ A, A = M ++ [padB (unC ys)] := ⟨_, rfl⟩
    have gt := gc_tup M [padB (unC ys)]
    rw [← hA] at w2 y2 x2 pp gt
    cases hw : wordB (unC ys) with
    | false =>
      rw [hw] at w1
      rw [aCall_eq T_spec_Unpad]; unfold A_spec_Unpad C_spec_Unpad; simp [hl, hrd, g0, g00, g1, e1, e2, b1, b2, b3, hb, hbw, z2, toBytes_map, w1]
    | true =>
      rw [hw] at w1
      by_cases hq : padL (unC ys) = ys
      · rw [decide_eq_true hq]
        rw [hq] at y2
        rw [aCall_eq T_spec_Unpad]; unfold A_spec_Unpad C_spec_Unpad; simp [hl, hrd, g0, g00, g1, e1, e2, b1, b2, b3, hb, hbw, z2, toBytes_map, w1, w2, y2, x2, pp, thenD_pre, gt, prim]
      · rw [decide_eq_false hq]
        rw [aCall_eq T_spec_Unpad]; unfold A_spec_Unpad C_spec_Unpad; simp [hl, hrd, g0, g00, g1, e1, e2, b1, b2, b3, hb, hbw, z2, toBytes_map, w1, w2, y2, x2, pp, thenD_pre, hq, gt, prim]
  · have g1 : 32 < (d : Int) := by omega
    rw [decide_eq_false h32]
    rw [aCall_eq T_spec_Unpad]; unfold A_spec_Unpad C_spec_Unpad; simp [hl, hrd, g0, g00, g1]
theorem r_spec_ShelfRead (M0 M : Mem) (l o c : Nat) (ys : List UInt8) (hd : Rep (.sl ty_Byte) M0 [.slice (some ⟨l, o, none⟩) 144 c] ys) (hl : ys.length = 144) (v : V) (es : List ty_Entry.D) (h0 : SR M0 v es M) (hn : es.length ≤ 1000) (i p : Nat) (hi : i < 4) (hpi : p = 36 * i) :
    ∃ M' v', SR M0 v' (es ++ [eS ys p]) M' ∧
    lp (aCall T0) K_spec_ShelfRead_0 L_spec_ShelfRead_0 [.slice (some ⟨l, o, none⟩) 144 c, und, .pointer (some ⟨M0.length, 0, none⟩), und, .pointer (some ⟨M0.length + 1, 0, none⟩), .int .i64 i, und, und, und, und, und, und, und, und, und, und, und, und, und, und, und, und, und, und, und, und, und, und, und, und, und, und, und, und, und, und, und, und, und, und, und, und, und, und, und, und, und, und, und, und, und, und, und, und, und, und, und, und, und, und, und] M =
    lp (aCall T0) K_spec_ShelfRead_0 L_spec_ShelfRead_0 [.slice (some ⟨l, o, none⟩) 144 c, und, .pointer (some ⟨M0.length, 0, none⟩), und, .pointer (some ⟨M0.length + 1, 0, none⟩), .int .i64 (i + 1 : Nat), und, und, und, und, und, und, und, und, und, und, und, und, und, und, und, und, und, und, und, und, und, und, und, und, und, und, und, und, und, und, und, und, und, und, und, und, und, und, und, und, und, und, und, und, und, und, und, und, und, und, und, und, und, und, und] M' := by
  have hp : p + 36 ≤ 144 := by omega
  have h := sr_grow h0 (List.prefix_append M [(⟨enc_Entry (eS ys p), 1, 2⟩ : Blk)])
  obtain ⟨A1, A2, a1, a2, a3, a4⟩ := sr_step h (eS ys p) hn
  have cw : cellsOf (Value.slice (some ⟨(M ++ [(⟨enc_Entry (eS ys p), 1, 2⟩ : Blk)]).length + 1, 0, none⟩) (es.length + 1) (es.length + 1) : V) = [Value.slice (some ⟨(M ++ [(⟨enc_Entry (eS ys p), 1, 2⟩ : Blk)]).length + 1, 0, none⟩) (es.length + 1) (es.length + 1)] := rfl
  generalize Value.slice (some ⟨(M ++ [(⟨enc_Entry (eS ys p), 1, 2⟩ : Blk)]).length + 1, 0, none⟩) (es.length + 1) (es.length + 1) = w at a1 a3 a4 cw
  refine ⟨A2, _, a4, ?_⟩
  have hdM := hd.mono h0.1
  have hs1 := rep_sub hdM p 36 (by omega) (max 144 c - p)
  have hs := rep_sub hdM (p + 3) 33 (by omega) (max 36 (max 144 c - p) - 3)
  rw [← Nat.add_assoc] at hs
  have hul : ((ys.drop (p + 3)).take 33).length = 33 := by rw [List.length_take, List.length_drop]; omega
  obtain ⟨blk, hb, hbw, _⟩ := rep_blk hdM
  have hbw : blk.w = 1 := hbw
  have hbl := (List.getElem?_eq_some_iff.1 hb).1
  have r0 := fun N => rd1_old (N := N) (at_B hdM (show p < ys.length by omega))
  have r1' := at_B hdM (show p + 1 < ys.length by omega)
  have r2' := at_B hdM (show p + 2 < ys.length by omega)
  rw [← Nat.add_assoc] at r1' r2'
  have r1 := fun N => rd1_old (N := N) r1'
  have r2 := fun N => rd1_old (N := N) r2'
  have n1 := atN_lt ys (p + 1)
  have n2 := atN_lt ys (p + 2)
  have hv : rd1 (M ++ [(⟨enc_Entry (eS ys p), 1, 2⟩ : Blk)]) (M0.length + 1) 0 = some v := by unfold rd1; rw [h.2.2.1]; rfl
  have z1 : 36 * (i : Int) = p := by omega
  have e1 : IntKind.i64.wrap (p : Int) = p := wrap_i64 (by omega) (by omega)
  have e2 : IntKind.i64.wrap ((p : Int) + 36) = (p : Int) + 36 := wrap_i64 (by omega) (by omega)
  have e5 : IntKind.i64.wrap ((i : Int) + 1) = (i : Int) + 1 := wrap_i64 (by omega) (by omega)
  have e6 : IntKind.i64.wrap (atN ys (p + 1) : Int) = atN ys (p + 1) := wrap_i64 (by omega) (by omega)
  have e7 : IntKind.i64.wrap (atN ys (p + 2) : Int) = atN ys (p + 2) := wrap_i64 (by omega) (by omega)
  have g1 : (i : Int) < 4 := by omega
  have t1 : ((p : Int) + 36 - (p : Int)).toNat = 36 := by omega
  have c2 : (p : Int) ≤ (p : Int) + 36 := by omega
  have c3 : (p : Int) + 36 ≤ 144 := by omega
  have s3 : sliceCells (M ++ [(⟨enc_Entry (eS ys p), 1, 2⟩ : Blk)] ++ [⟨enc_Entry (eS ys p), 2, 2⟩]) 2 (.slice (some ⟨M.length + 1, 0, none⟩) 1 1) = some (1, enc_Entry (eS ys p)) := by
    simp [sliceCells]
  have hq : ∀ q ∈ wfs v, M0.length + 2 ≤ q := by
    intro q hq
    rcases h.2.2.2 with ⟨rfl, _⟩ | ⟨l, q1, rfl, _⟩
    · simp [wfs] at hq
    · simp [wfs] at hq; omega
  simp only [List.append_assoc, List.cons_append, List.nil_append, List.length_append, List.length_cons, List.length_nil] at a1 a2 a3 s3
  by_cases hone : atN ys p = 1
  · have ee : eS ys p = (unW ((ys.drop (p + 3)).take 33), ((256 * atN ys (p + 1) + atN ys (p + 2) : Nat) : Int)) := by unfold eS; rw [if_pos hone]; rfl
    rw [ee] at a1 a2 hv s3
    obtain ⟨q1, hq1⟩ : ∃ q, q = 256 * atN ys (p + 1) := ⟨_, rfl⟩
    obtain ⟨q2, hq2⟩ : ∃ q, q = q1 + atN ys (p + 2) := ⟨_, rfl⟩
    rw [← hq1, ← hq2] at a1 a2 hv s3
    have e8 : IntKind.i64.wrap (256 * (atN ys (p + 1) : Int)) = q1 := by rw [wrap_i64 (by omega) (by omega)]; omega
    have e9 : IntKind.i64.wrap ((q1 : Int) + (atN ys (p + 2) : Int)) = q2 := by rw [wrap_i64 (by omega) (by omega)]; omega
    have s1 := c_spec_Unpad (M ++ [⟨[.string ⟨#[]⟩, .int .i64 0], 1, 2⟩]) _ _ (hs.mono (List.prefix_append _ _)) hul
    have hb' := fun N => get_pre (List.prefix_append M N) hb
    rw [S_spec_ShelfRead_0]; unfold B_spec_ShelfRead_0; simp [hl, g1, z1, e1, e2, e5, e6, e7, e8, e9, t1, c2, c3, hb, hb', hbw, r0, hone, s1, r1, r2, hv, zeroCells, s3, a1, a3, cw]
  · have ee : eS ys p = ([], 0) := by unfold eS; rw [if_neg hone]
    rw [ee] at a1 a2 hv s3
    have hb' := fun N => get_pre (List.prefix_append M N) hb
    have hone' : ¬ (atN ys p : Int) = 1 := by omega
    have a1' : appS (M ++ [⟨[.string ⟨#[]⟩, .int .i64 0], 1, 2⟩, ⟨[.string ⟨#[]⟩, .int .i64 0], 2, 2⟩]) 2 24 v 1 [.string ⟨#[]⟩, .int .i64 0] = some (w, A1) := a1
    have hv' : rd1 (M ++ [⟨[.string ⟨#[]⟩, .int .i64 0], 1, 2⟩]) (M0.length + 1) 0 = some v := hv
    have s3' : sliceCells (M ++ [⟨[.string ⟨#[]⟩, .int .i64 0], 1, 2⟩, ⟨[.string ⟨#[]⟩, .int .i64 0], 2, 2⟩]) 2 (.slice (some ⟨M.length + 1, 0, none⟩) 1 1) = some (1, [.string ⟨#[]⟩, .int .i64 0]) := s3
    rw [S_spec_ShelfRead_0]; unfold B_spec_ShelfRead_0; simp [hl, g1, z1, e1, e2, e5, t1, c2, c3, hb, hb', hbw, r0, hone, hone', hv', zeroCells, s3', a1', a3, cw]
theorem l_spec_ShelfRead (M0 : Mem) (l o c : Nat) (ys : List UInt8) (hd : Rep (.sl ty_Byte) M0 [.slice (some ⟨l, o, none⟩) 144 c] ys) (hl : ys.length = 144) :
    ∃ M' v', SR M0 v' (listS ys) M' ∧
    lp (aCall T0) K_spec_ShelfRead_0 L_spec_ShelfRead_0 [.slice (some ⟨l, o, none⟩) 144 c, und, .pointer (some ⟨M0.length, 0, none⟩), und, .pointer (some ⟨M0.length + 1, 0, none⟩), .int .i64 (0 : Nat), und, und, und, und, und, und, und, und, und, und, und, und, und, und, und, und, und, und, und, und, und, und, und, und, und, und, und, und, und, und, und, und, und, und, und, und, und, und, und, und, und, und, und, und, und, und, und, und, und, und, und, und, und, und, und] (M0 ++ [⟨[.slice none 0 0], 1, 2⟩, ⟨[.slice none 0 0], 1, 2⟩]) =
    lp (aCall T0) K_spec_ShelfRead_0 L_spec_ShelfRead_0 [.slice (some ⟨l, o, none⟩) 144 c, und, .pointer (some ⟨M0.length, 0, none⟩), und, .pointer (some ⟨M0.length + 1, 0, none⟩), .int .i64 (4 : Nat), und, und, und, und, und, und, und, und, und, und, und, und, und, und, und, und, und, und, und, und, und, und, und, und, und, und, und, und, und, und, und, und, und, und, und, und, und, und, und, und, und, und, und, und, und, und, und, und, und, und, und, und, und, und, und] M' := by
  obtain ⟨M1, v1, q1, e1⟩ := r_spec_ShelfRead M0 _ l o c ys hd hl _ _ (sr_start M0 (.slice none 0 0)) (by simp) 0 0 (by omega) rfl
  obtain ⟨M2, v2, q2, e2⟩ := r_spec_ShelfRead M0 _ l o c ys hd hl _ _ q1 (by simp) 1 36 (by omega) rfl
  obtain ⟨M3, v3, q3, e3⟩ := r_spec_ShelfRead M0 _ l o c ys hd hl _ _ q2 (by simp) 2 72 (by omega) rfl
  obtain ⟨M4, v4, q4, e4⟩ := r_spec_ShelfRead M0 _ l o c ys hd hl _ _ q3 (by simp) 3 108 (by omega) rfl
  exact ⟨M4, v4, q4, e1.trans (e2.trans (e3.trans e4))⟩
theorem unW_pad (w : List UInt8) (hw : wordB w = true) : unW (padL w) = w := by
  have hl := wordB_len hw
  have e : padL w = UInt8.ofNat w.length :: (w ++ List.replicate (32 - w.length) 0) := by unfold padL; rw [if_pos hw]
  have e1 : unL (padL w) = w.length := by
    rw [e]
    show (UInt8.ofNat w.length).toNat = _
    rw [UInt8.toNat_ofNat']
    omega
  have e2 : unC (padL w) = w := by
    unfold unC
    rw [e1, e, List.drop_succ_cons, List.drop_zero, List.take_left']
    rfl
  have e3 : unB (padL w) = true := by
    unfold unB
    rw [e1, e2, hw]
    simp; omega
  unfold unW
  rw [if_pos e3, e2]
theorem unW_nil : unW (padL []) = [] := by decide
theorem recY_get (e : ty_Entry.D) (he : noneB e = true ∨ entB e = true) (p : Nat) (ys : List UInt8) (h : (ys.drop p).take 36 = recY e) : eI ys p = e ∧ (noneB e = true → atN ys p = 0) ∧ (noneB e = false → atN ys p = 1) := by
  have hd : ∀ j, j < 36 → ys.getD (p + j) 0 = (recY e).getD j 0 := by
    intro j hj
    rw [← h, List.getD_eq_getElem?_getD, List.getD_eq_getElem?_getD, List.getElem?_take, if_pos hj, List.getElem?_drop]
  have h3 : (ys.drop (p + 3)).take 33 = (recY e).drop 3 := by
    rw [← h, List.drop_take, List.drop_drop]
  have r3 : (recY e).drop 3 = padL e.1 := rfl
  have g0 : atN ys p = (liveB e).toNat := by
    have := hd 0 (by omega)
    unfold atN
    rw [Nat.add_zero] at this
    rw [this]
    rfl
  have g1 : atN ys (p + 1) = (hiB e).toNat := by unfold atN; rw [hd 1 (by omega)]; rfl
  have g2 : atN ys (p + 2) = (loB e).toNat := by unfold atN; rw [hd 2 (by omega)]; rfl
  have hr : 0 ≤ (e.2 : Int) ∧ (e.2 : Int) ≤ 65535 := by
    rcases he with he | he
    · simp only [noneB, Bool.and_eq_true, decide_eq_true_eq] at he
      rw [he.2]
      decide
    · simp only [entB, Bool.and_eq_true, decide_eq_true_eq] at he
      exact he.2
  refine ⟨?_, fun hn => ?_, fun hn => ?_⟩
  · unfold eI
    rw [h3, r3, g1, g2]
    have hw : unW (padL e.1) = e.1 := by
      rcases he with he | he
      · simp only [noneB, Bool.and_eq_true, decide_eq_true_eq] at he
        rw [he.1]
        exact unW_nil
      · simp only [entB, Bool.and_eq_true] at he
        exact unW_pad _ he.1
    rw [hw]
    have hz : Int.toNat e.2 ≤ 65535 := Int.toNat_le.2 hr.2
    have h1 : (hiB e).toNat = e.2.toNat / 256 := by
      unfold hiB
      rw [UInt8.toNat_ofNat']
      omega
    have h2 : (loB e).toNat = e.2.toNat % 256 := by
      unfold loB
      rw [UInt8.toNat_ofNat']
      omega
    rw [h1, h2]
    obtain ⟨w, z⟩ := e
    simp only at hr ⊢
    congr 1
    have : 256 * (z.toNat / 256) + z.toNat % 256 = z.toNat := Nat.div_add_mod _ _
    rw [this]
    exact Int.toNat_of_nonneg hr.1
  · rw [g0]; unfold liveB; rw [hn]; rfl
  · rw [g0]; unfold liveB; rw [hn]; rfl
theorem chunk_flat {xs : List ty_Entry.D} (h4 : xs.length = 4) (i : Nat) (hi : i < xs.length) : (((xs.map recY).flatten).drop (36 * i)).take 36 = recY xs[i] := by
  match xs, h4 with
  | [a, b, c, d], _ =>
    have la := recY_len a
    have lb := recY_len b
    have lc := recY_len c
    have ld := recY_len d
    simp only [List.map_cons, List.map_nil, List.flatten_cons, List.flatten_nil, List.append_nil]
    match i, hi with
    | 0, _ =>
      rw [List.drop_zero]
      exact List.take_left' la
    | 1, _ =>
      rw [List.drop_left' (by omega)]
      exact List.take_left' lb
    | 2, _ =>
      rw [← List.append_assoc, List.drop_left' (by rw [List.length_append]; omega)]
      exact List.take_left' lc
    | 3, _ =>
      rw [← List.append_assoc, ← List.append_assoc, List.drop_left' (by rw [List.length_append, List.length_append]; omega)]
      exact List.take_of_length_le (by omega)
theorem read_back {xs : List ty_Entry.D} (hx : shelfB xs = true) (ys : List UInt8) (h : (xs.map recY).flatten = ys) : listI ys = xs ∧ listS ys = xs := by
  have h4 : xs.length = 4 := by
    simp only [shelfB, Bool.and_eq_true, decide_eq_true_eq] at hx
    exact hx.1
  have key : ∀ i (hi : i < xs.length), eI ys (36 * i) = xs[i] ∧ eS ys (36 * i) = xs[i] := by
    intro i hi
    have he : noneB xs[i] = true ∨ entB xs[i] = true := by
      rcases shelf_none hx hi with q | ⟨q, _⟩
      · exact .inl q
      · exact .inr q
    obtain ⟨k1, k2, k3⟩ := recY_get xs[i] he (36 * i) ys (by rw [← h]; exact chunk_flat h4 i hi)
    refine ⟨k1, ?_⟩
    unfold eS
    cases hn : noneB xs[i] with
    | true =>
      rw [if_neg (by rw [k2 hn]; omega)]
      simp only [noneB, Bool.and_eq_true, decide_eq_true_eq] at hn
      obtain ⟨q1, q2⟩ := hn
      exact Prod.ext q1.symm q2.symm
    | false => rw [if_pos (k3 hn), k1]
  have k0 := key 0 (by omega)
  have k1 := key 1 (by omega)
  have k2 := key 2 (by omega)
  have k3 := key 3 (by omega)
  have hxs : xs = [xs[0], xs[1], xs[2], xs[3]] := by
    match xs, h4 with
    | [a, b, c, d], _ => rfl
  unfold listI listS
  exact ⟨by rw [k0.1, k1.1, k2.1, k3.1, ← hxs], by rw [k0.2, k1.2, k2.2, k3.2, ← hxs]⟩
theorem readS (ys : List UInt8) (hl : ys.length = 144) : (shelfY (listS ys) = ys) ↔ readOk ys = true := by
  unfold readOk shelfY
  rw [hl]
  constructor
  · intro h
    split at h
    · rename_i hs
      obtain ⟨q1, q2⟩ := read_back hs ys h
      rw [q1]
      simp [hs, h]
    · subst h
      simp at hl
  · intro h
    simp only [decide_true, Bool.true_and, Bool.and_eq_true, decide_eq_true_eq] at h
    obtain ⟨q1, q2⟩ := read_back h.1 ys h.2
    rw [q2, if_pos h.1]
    exact h.2
theorem readSI (ys : List UInt8) (h : readOk ys = true) : listS ys = listI ys := by
  simp only [readOk, Bool.and_eq_true, decide_eq_true_eq] at h
  exact (read_back h.2.1 ys h.2.2).2
theorem eS_fit (ys : List UInt8) (p : Nat) : (eS ys p).1.length ≤ 33 ∧ 0 ≤ ((eS ys p).2 : Int) ∧ ((eS ys p).2 : Int) ≤ 65535 := by
  unfold eS
  split
  · exact eI_fit ys p
  · exact ⟨by simp, by decide, by decide⟩
theorem listS_fit (ys : List UInt8) : ∀ e ∈ listS ys, e.1.length ≤ 33 ∧ 0 ≤ (e.2 : Int) ∧ (e.2 : Int) ≤ 65535 := by
  intro e he
  simp only [listS, List.mem_cons, List.not_mem_nil, or_false] at he
  rcases he with rfl | rfl | rfl | rfl <;> exact eS_fit _ _
theorem d_spec_ShelfRead (M : Mem) (v : V) (ys : List UInt8) (h : Rep (.sl ty_Byte) M [v] ys) (hn : ys.length ≤ 1048576) :
    ∃ M' u, M <+: M' ∧ aCall T0 F_spec_ShelfRead [v] M = some (.tuple #[.agg #[u], .bool (readOk ys)], M') ∧ Rep (.sl ty_Entry) M' [u] (readX ys) := by
  by_cases hl : ys.length = 144
  rotate_left
  · refine ⟨M ++ [⟨[.slice none 0 0], 1, 2⟩], .slice none 0 0, List.prefix_append _ _, ?_, ?_⟩
    · have hl2 : ¬ (ys.length : Int) = 144 := by omega
      have hr : readOk ys = false := by unfold readOk; rw [decide_eq_false hl]; rfl
      rw [hr]
      obtain ⟨a, c, rfl⟩ := h.slen
      rw [aCall_eq T_spec_ShelfRead]; unfold A_spec_ShelfRead C_spec_ShelfRead; simp [hl, hl2, prim]
    · have : readX ys = [] := by unfold readX readOk; rw [decide_eq_false hl]; rfl
      rw [this]
      exact .inl ⟨rfl, rfl⟩
  obtain ⟨a, c, rfl⟩ := h.slen
  rw [hl] at h ⊢
  obtain ⟨l, o, rfl, _⟩ := at_Byte h (show 0 < ys.length by omega)
  obtain ⟨M1, v1, q1, e1⟩ := l_spec_ShelfRead M l o c ys h hl
  simp only [Int.natCast_zero, Int.ofNat_zero] at e1
  obtain ⟨s1, s2, s3, s4⟩ := q1
  obtain ⟨L, o1, o2⟩ := outE_own s4 (listS_fit ys)
  obtain ⟨M2, u, p2, t1, r1⟩ := d_spec_ShelfOf M1 v1 (listS ys) o1.rep (by simp [listS]) (fun e he => by have := (listS_fit ys e he).1; omega)
  have w4 : rdn M1 (M.length + 1) 0 1 = some [v1] := rdn_box s3 rfl
  have s2' := get_pre p2 s2
  have s3' := get_pre p2 s3
  have w4' : rdn M2 (M.length + 1) 0 1 = some [v1] := rdn_box s3' rfl
  have hm1 := s1.length_le
  have hm2 := p2.length_le
  have hlt := (List.getElem?_eq_some_iff.1 s3).1
  obtain ⟨a2, c2, hu, x2⟩ := cells_Byte r1
  obtain ⟨a3, c3, hv3, x3⟩ := cells_Byte (h.mono (s1.trans p2))
  rw [hl] at hv3 x3
  simp only [Value.slice.injEq] at hv3
  obtain ⟨rfl, _, rfl⟩ := hv3
  generalize (shelfY (listS ys)).length = n2 at hu x2
  subst hu
  have hS := readS ys hl
  by_cases hq : shelfY (listS ys) = ys
  · have hr := hS.1 hq
    have he := readSI ys hr
    unfold readX
    rw [hr, if_pos rfl, ← he]
    rw [hq] at x2
    obtain ⟨a1, c1, rfl⟩ := o1.rep.slen
    have w1 := box_set s2' (ds := [.slice a1 (listS ys).length c1]) rfl rfl
    have w2 := box_get s2' (ds := [.slice a1 (listS ys).length c1]) (n := 1) rfl
    have o3 := Own.upd (upd_set s2' (b2 := ⟨[.slice a1 (listS ys).length c1], 1, 2⟩) rfl) (Own.grow p2 o1) (fun l hl hk => by have := o2 l hl; simp at hk; omega)
    refine ⟨M2.set M.length ⟨[.slice a1 (listS ys).length c1], 1, 2⟩, .slice a1 (listS ys).length c1, pre_set (s1.trans p2) (by omega), ?_, o3.rep⟩
    rw [aCall_eq T_spec_ShelfRead]; unfold A_spec_ShelfRead C_spec_ShelfRead; simp [e1]
    rw [S_spec_ShelfRead_0]; unfold B_spec_ShelfRead_0; simp [w4, w4', t1, p2, thenD_pre, x2, x3, toBytes_map, w1, w2, prim]
  · have hr : readOk ys = false := by
      cases hh : readOk ys with
      | false => rfl
      | true => exact absurd (hS.2 hh) hq
    unfold readX
    rw [hr]
    have w1 := box_set s2' (ds := [.slice none 0 0]) rfl rfl
    have w2 := box_get s2' (ds := [.slice none 0 0]) (n := 1) rfl
    obtain ⟨a1, c1, rfl⟩ := o1.rep.slen
    refine ⟨M2.set M.length ⟨[.slice none 0 0], 1, 2⟩, .slice none 0 0, pre_set (s1.trans p2) (by omega), ?_, .inl ⟨rfl, rfl⟩⟩
    rw [aCall_eq T_spec_ShelfRead]; unfold A_spec_ShelfRead C_spec_ShelfRead; simp [e1]
    rw [S_spec_ShelfRead_0]; unfold B_spec_ShelfRead_0; simp [w4, w4', t1, p2, thenD_pre, x2, x3, toBytes_map, hq, w1, w2, prim]
theorem readX_len (ys : List UInt8) : (readX ys).length ≤ 1000000000 := by
  unfold readX
  split
  · simp [listI]
  · simp
set_option maxHeartbeats 4000000 in
set_option maxRecDepth 20000 in
theorem c_laws_FnExactShelfRead (M : Mem) (v_ys : V) (ys : List ty_Byte.D) (h_ys : Rep (.sl ty_Byte) M [v_ys] ys) (hn_ys : ys.length ≤ 9223372036854775807) : ∃ M', aCall T0 F_laws_FnExactShelfRead [v_ys] M = some (.bool true, M') := by
  by_cases hg_ys : 1048576 < (ys.length : Int)
  · refine ⟨M, ?_⟩
    obtain ⟨_, _, rfl⟩ := h_ys.slen
    rw [aCall_eq T_laws_FnExactShelfRead]; unfold A_laws_FnExactShelfRead C_laws_FnExactShelfRead; simp [hg_ys]
  have h1_ys : ys.length ≤ 1048576 := by omega
  have hb_readX : (readX ys).length ≤ 1000000000 := readX_len ys
  obtain ⟨M1, u2, L3, p4, t5, o6, f7⟩ := d_laws_toByteS M v_ys ys (h_ys.mono ((List.prefix_refl _))) h1_ys
  have g8 : ∀ l ∈ L3, M.length ≤ l ∧ l < M1.length := by intro l hl; have := f7 l hl; (try simp only [List.length_append, List.length_cons, List.length_nil] at this); omega
  have ln9 : M.length ≤ M1.length := by have := p4.length_le; (try simp only [List.length_append, List.length_cons, List.length_nil] at this); omega
  have z10 : M <+: M1 := (List.prefix_refl _).trans p4
  obtain ⟨M12, u15, p13, s14, o16⟩ := d_spec_ShelfRead M1 u2 ys (o6).rep h1_ys
  have ln17 : M1.length ≤ M12.length := by have := p13.length_le; (try simp only [List.length_append, List.length_cons, List.length_nil] at this); omega
  have o18 := Own.grow p13 o6
  have z19 : M <+: M12 := z10.trans p13
  obtain ⟨M20, u21, L22, p23, t24, o25, f26⟩ := d_laws_toByteS (M12 ++ [⟨[u15], 1, 2⟩]) v_ys ys (h_ys.mono (z19.trans (List.prefix_append _ _))) h1_ys
  have g27 : ∀ l ∈ L22, M12.length + 1 ≤ l ∧ l < M20.length := by intro l hl; have := f26 l hl; (try simp only [List.length_append, List.length_cons, List.length_nil] at this); omega
  have q28 : M12 <+: M20 := (List.prefix_append _ _).trans p23
  have ln29 : M12.length + 1 ≤ M20.length := by have := p23.length_le; (try simp only [List.length_append, List.length_cons, List.length_nil] at this); omega
  have b30 : M20[M12.length]? = some ⟨[u15], 1, 2⟩ := get_pre p23 (by simp)
  have o31 := Own.grow q28 o18
  have z32 : M <+: M20 := z19.trans q28
  have y33 : M12 <+: M20 := (List.prefix_refl _).trans q28
  obtain ⟨M35, u38, L39, p36, s37, o40, f41⟩ := d_impl_ShelfRead M20 u21 ys (o25).rep h1_ys
  have ln42 : M20.length ≤ M35.length := by have := p36.length_le; (try simp only [List.length_append, List.length_cons, List.length_nil] at this); omega
  have b43 : M35[M12.length]? = some ⟨[u15], 1, 2⟩ := get_pre p36 b30
  have o44 := Own.grow p36 o31
  have o45 := Own.grow p36 o25
  have z46 : M <+: M35 := z32.trans p36
  have y47 : M12 <+: M35 := y33.trans p36
  have g48 : ∀ l ∈ L39, M20.length ≤ l ∧ l < M35.length := by intro l hl; have := f41 l hl; (try simp only [List.length_append, List.length_cons, List.length_nil] at this); omega
  have r50 : rdn (M35 ++ [⟨[u38], 1, 2⟩]) (M12.length) 0 1 = some [u15] := rdn_old (rdn_box b43 rfl)
  have e51 := (c_laws_eqShelf (M35 ++ [⟨[u38], 1, 2⟩]) u38 u15 _ _ ((Own.grow (List.prefix_append _ _) o40)).rep (o16.mono (y47.trans (List.prefix_append _ _))) (by have := hb_readX; omega)).trans (show _ = some (Go.Value.bool true, (M35 ++ [⟨[u38], 1, 2⟩])) by simp)
  obtain ⟨M52, u53, L54, p55, t56, o57, f58⟩ := d_laws_toByteS (M35 ++ [⟨[u38], 1, 2⟩]) v_ys ys (h_ys.mono (z46.trans (List.prefix_append _ _))) h1_ys
  have g59 : ∀ l ∈ L54, M35.length + 1 ≤ l ∧ l < M52.length := by intro l hl; have := f58 l hl; (try simp only [List.length_append, List.length_cons, List.length_nil] at this); omega
  have q60 : M35 <+: M52 := (List.prefix_append _ _).trans p55
  have ln61 : M35.length + 1 ≤ M52.length := by have := p55.length_le; (try simp only [List.length_append, List.length_cons, List.length_nil] at this); omega
  have b62 : M52[M12.length]? = some ⟨[u15], 1, 2⟩ := get_pre q60 b43
  have b63 : M52[M35.length]? = some ⟨[u38], 1, 2⟩ := get_pre p55 (by simp)
  have o64 := Own.grow q60 o44
  have o65 := Own.grow q60 o45
  have o66 := Own.grow q60 o40
  have z67 : M <+: M52 := z46.trans q60
  have y68 : M12 <+: M52 := y47.trans q60
  have e70 := (c_laws_eqByteS M52 u21 u53 _ _ (o65).rep (o57).rep (by omega)).trans (show _ = some (Go.Value.bool true, M52) by simp)
  obtain ⟨M71, m72, up73, o74⟩ := d_laws_markByteS M52 u21 _ L22 o65 (1) (by omega) (by omega)
  have ln75 : M52.length ≤ M71.length := by have := up73.1; (try simp only [List.length_append, List.length_cons, List.length_nil] at this); omega
  have b76 : M71[M12.length]? = some ⟨[u15], 1, 2⟩ := (up73.2.1 _ (fun hl => by have := g27 _ hl; omega) (List.getElem?_eq_some_iff.1 b62).1).trans b62
  have b78 : M71[M35.length]? = some ⟨[u38], 1, 2⟩ := (up73.2.1 _ (fun hl => by have := g27 _ hl; omega) (List.getElem?_eq_some_iff.1 b63).1).trans b63
  have o80 := Own.updg up73 (o64) (fun l hl hk => by have := g8 l hl; have := g27 l hk; omega)
  have o82 := Own.updg up73 (o66) (fun l hl hk => by have := g48 l hl; have := g27 l hk; omega)
  have o83 := Own.updg up73 (o57) (fun l hl hk => by have := g59 l hl; have := g27 l hk; omega)
  have z84 : M <+: M71 := UpdG.pre up73 (z67) (fun l hl => by have := g27 l hl; omega)
  have y85 : M12 <+: M71 := UpdG.pre up73 (y68) (fun l hl => by have := g27 l hl; omega)
  have c86 : ¬ (1 + (ys.length : Int) < 0) := by omega
  have r87 : rdn M71 (M35.length) 0 1 = some [u38] := rdn_box b78 rfl
  have r88 : rdn M71 (M12.length) 0 1 = some [u15] := rdn_box b76 rfl
  have e89 := (c_laws_eqShelf M71 u38 u15 _ _ (o82).rep (o16.mono (y85)) (by have := hb_readX; omega)).trans (show _ = some (Go.Value.bool true, M71) by simp)
  have r90 : rdn M71 (M35.length) 0 1 = some [u38] := rdn_box b78 rfl
  obtain ⟨M91, m92, up93, o94⟩ := d_laws_markShelf M71 u38 _ L39 o82 (1) (by omega) (by omega)
  have ln95 : M71.length ≤ M91.length := by have := up93.1; (try simp only [List.length_append, List.length_cons, List.length_nil] at this); omega
  have b96 : M91[M12.length]? = some ⟨[u15], 1, 2⟩ := (up93.2.1 _ (fun hl => by have := g48 _ hl; omega) (List.getElem?_eq_some_iff.1 b76).1).trans b76
  have b98 : M91[M35.length]? = some ⟨[u38], 1, 2⟩ := (up93.2.1 _ (fun hl => by have := g48 _ hl; omega) (List.getElem?_eq_some_iff.1 b78).1).trans b78
  have o100 := Own.updg up93 (o80) (fun l hl hk => by have := g8 l hl; have := g48 l hk; omega)
  have o101 := Own.updg up93 (o74) (fun l hl hk => by have := g27 l hl; have := g48 l hk; omega)
  have o103 := Own.updg up93 (o83) (fun l hl hk => by have := g59 l hl; have := g48 l hk; omega)
  have z104 : M <+: M91 := UpdG.pre up93 (z84) (fun l hl => by have := g48 l hl; omega)
  have y105 : M12 <+: M91 := UpdG.pre up93 (y85) (fun l hl => by have := g48 l hl; omega)
  have c106 : ¬ (1 + 2 * ((readX ys).length : Int) < 0) := by omega
  have r107 : rdn M91 (M35.length) 0 1 = some [u38] := rdn_box b98 rfl
  have d108 := d_laws_heldShelf M91 u38 (1) _ (o94).rep (by omega) (by omega)
  have c109 : ¬ (1 + 2 * ((readX ys).length : Int) < 0) := by omega
  obtain ⟨M110, u111, L112, p113, t114, o115, f116⟩ := d_laws_toByteS M91 v_ys ys (h_ys.mono (z104)) h1_ys
  have g117 : ∀ l ∈ L112, M91.length ≤ l ∧ l < M110.length := by intro l hl; have := f116 l hl; (try simp only [List.length_append, List.length_cons, List.length_nil] at this); omega
  have ln118 : M91.length ≤ M110.length := by have := p113.length_le; (try simp only [List.length_append, List.length_cons, List.length_nil] at this); omega
  have b119 : M110[M12.length]? = some ⟨[u15], 1, 2⟩ := get_pre p113 b96
  have b120 : M110[M35.length]? = some ⟨[u38], 1, 2⟩ := get_pre p113 b98
  have o121 := Own.grow p113 o100
  have o122 := Own.grow p113 o101
  have o123 := Own.grow p113 o94
  have o124 := Own.grow p113 o103
  have z125 : M <+: M110 := z104.trans p113
  have y126 : M12 <+: M110 := y105.trans p113
  obtain ⟨M128, u131, L132, p129, s130, o133, f134⟩ := d_impl_ShelfRead M110 u111 ys (o115).rep h1_ys
  have ln135 : M110.length ≤ M128.length := by have := p129.length_le; (try simp only [List.length_append, List.length_cons, List.length_nil] at this); omega
  have b136 : M128[M12.length]? = some ⟨[u15], 1, 2⟩ := get_pre p129 b119
  have b137 : M128[M35.length]? = some ⟨[u38], 1, 2⟩ := get_pre p129 b120
  have o138 := Own.grow p129 o121
  have o139 := Own.grow p129 o122
  have o140 := Own.grow p129 o123
  have o141 := Own.grow p129 o124
  have o142 := Own.grow p129 o115
  have z143 : M <+: M128 := z125.trans p129
  have y144 : M12 <+: M128 := y126.trans p129
  have g145 : ∀ l ∈ L132, M110.length ≤ l ∧ l < M128.length := by intro l hl; have := f134 l hl; (try simp only [List.length_append, List.length_cons, List.length_nil] at this); omega
  have r147 : rdn (M128 ++ [⟨[u131], 1, 2⟩]) (M12.length) 0 1 = some [u15] := rdn_old (rdn_box b136 rfl)
  have e148 := (c_laws_eqShelf (M128 ++ [⟨[u131], 1, 2⟩]) u131 u15 _ _ ((Own.grow (List.prefix_append _ _) o133)).rep (o16.mono (y144.trans (List.prefix_append _ _))) (by have := hb_readX; omega)).trans (show _ = some (Go.Value.bool true, (M128 ++ [⟨[u131], 1, 2⟩])) by simp)
  have r149 : rdn (M128 ++ [⟨[u131], 1, 2⟩]) (M35.length) 0 1 = some [u38] := rdn_old (rdn_box b137 rfl)
  have d150 := d_laws_heldShelf (M128 ++ [⟨[u131], 1, 2⟩]) u38 (1) _ ((Own.grow (List.prefix_append _ _) o140)).rep (by omega) (by omega)
  have c151 : ¬ (1 + 2 * ((readX ys).length : Int) < 0) := by omega
  obtain ⟨_, _, rfl⟩ := h_ys.slen
  obtain ⟨_, _, rfl⟩ := ((o138).rep).slen
  obtain ⟨_, _, rfl⟩ := (o16).slen
  obtain ⟨_, _, rfl⟩ := ((o139).rep).slen
  obtain ⟨_, _, rfl⟩ := ((o140).rep).slen
  obtain ⟨_, _, rfl⟩ := ((o141).rep).slen
  obtain ⟨_, _, rfl⟩ := ((o142).rep).slen
  obtain ⟨_, _, rfl⟩ := ((o133).rep).slen
  rw [aCall_eq T_laws_FnExactShelfRead]; unfold A_laws_FnExactShelfRead C_laws_FnExactShelfRead; simp (maxSteps := 4000000) [hg_ys, t5, p4, s14, p13, t24, p23, s37, p36, r50, e51, t56, p55, e70, m72, c86, r87, r88, e89, r90, m92, c106, r107, d108, c109, t114, p113, s130, p129, r147, e148, r149, d150, c151, thenD_pre]
  all_goals exact gc_ex _ _ _
theorem law_laws_FnExactShelfRead (M : Mem) (avs : List V) (_ : ∀ b ∈ M, b.st ≠ 2) (h : Ins [(false, (.sl .u8))] M avs) : ∃ M', aCall T0 F_laws_FnExactShelfRead avs M = some (.bool true, M') := by
  obtain ⟨v_ys, _, ys, rfl, h_ys, f_ys, h⟩ := ins_cons h
  obtain rfl := ins_nil h
  exact c_laws_FnExactShelfRead M v_ys ys (repv_one h_ys) f_ys.1
end GoAm
