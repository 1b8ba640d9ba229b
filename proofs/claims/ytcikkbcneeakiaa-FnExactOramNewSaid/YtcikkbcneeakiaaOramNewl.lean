/- What the functions do that the law reaches; and the law. -/
import Derived.Test.YtcikkbcneeakiaaOramNewt
import Derived.Test.YtcikkbcneeakiaaAmOwn
set_option autoImplicit false
set_option linter.unusedVariables false
set_option linter.unusedSimpArgs false
namespace GoAm
open Go
theorem rdn_box {M : Mem} {l n : Nat} {cs : List V} (h : M[l]? = some ⟨cs, 1, 2⟩) (hn : n = cs.length) : rdn M l 0 n = some cs := by
  unfold rdn
  rw [h]
  simp [hn]
/-- Memory that has grown, and changed in the blocks of L alone. -/
def UpdG (M M' : Mem) (L : Nat → Prop) : Prop := M.length ≤ M'.length ∧ (∀ l, ¬ L l → l < M.length → M'[l]? = M[l]?) ∧ ∀ (l : Nat) (b : Blk), M[l]? = some b → ∃ b' : Blk, M'[l]? = some b' ∧ b'.w = b.w
theorem UpdG.pre {M0 M M' : Mem} {K : Nat → Prop} (hu : UpdG M M' K) (hp : M0 <+: M) (hk : ∀ l, K l → M0.length ≤ l) : M0 <+: M' := by
  have hl : M0.length ≤ M'.length := Nat.le_trans hp.length_le hu.1
  rw [List.prefix_iff_eq_take]
  apply List.ext_getElem?
  intro i
  rw [List.getElem?_take]
  split
  · rename_i hi
    rw [hu.2.1 i (fun h => by have := hk i h; omega) (Nat.lt_of_lt_of_le hi hp.length_le)]
    obtain ⟨r, rfl⟩ := hp
    rw [List.getElem?_append_left hi]
  · rename_i hi
    rw [List.getElem?_eq_none (by omega)]
theorem gc_ex (M M' : Mem) (v : V) : ∃ X, gc M (some (v, M')) = some (v, X) := by
  simp only [gc]
  split
  · exact ⟨_, rfl⟩
  · exact ⟨_, rfl⟩
abbrev ty_Cell : Ty := .sl .u8
abbrev ty_Touch : Ty := .pr (.int .i64) (.pr (.int .i64) (.int .i64))
instance d_Touch : DecidableEq ty_Touch.D := Ty.deq ty_Touch
abbrev ty_Mem : Ty := .pr (.int .i64) (.pr (.sl ty_Cell) (.sl ty_Touch))
theorem rep_Mem {M : Mem} {cs : List V} {x : ty_Mem.D} (h : Rep ty_Mem M cs x) : ∃ u1 u2, cs = [.int .i64 x.1, u1, u2] ∧ Rep (.sl ty_Cell) M [u1] x.2.1 ∧ Rep (.sl ty_Touch) M [u2] x.2.2 := by
  obtain ⟨c1, c2, e, ⟨rfl, hw⟩, h2⟩ := h
  obtain ⟨c3, c4, rfl, h3, h4⟩ := h2
  have l3 := h3.len
  have l4 := h4.len
  match c3, c4, l3, l4, h3, h4 with
  | [u1], [u2], _, _, h3, h4 => exact ⟨u1, u2, e, h3, h4⟩
theorem rep_Mem2 {M : Mem} {u1 u2 : V} {z : V} {x : ty_Mem.D} (h : Rep ty_Mem M [z, u1, u2] x) : z = .int .i64 x.1 ∧ Rep (.sl ty_Cell) M [u1] x.2.1 ∧ Rep (.sl ty_Touch) M [u2] x.2.2 := by
  obtain ⟨v1, v2, e, h1, h2⟩ := rep_Mem h
  cases e
  exact ⟨rfl, h1, h2⟩
abbrev ty_Byte : Ty := .u8
abbrev ty_Block : Ty := .pr (.int .i64) (.pr (.int .i64) (.sl ty_Byte))
instance d_Block : DecidableEq ty_Block.D := inferInstanceAs (DecidableEq (Int × Int × List UInt8))
abbrev ty_Oram : Ty := .pr (.int .i64) (.pr (.int .i64) (.pr (.int .i64) (.pr ty_Mem (.sl ty_Block))))
instance d_Oram0 : DecidableEq (ty_Mem.D × List ty_Block.D) := inferInstance
instance d_Oram1 : DecidableEq (Int × ty_Mem.D × List ty_Block.D) := @instDecidableEqProd _ _ inferInstance d_Oram0
instance d_Oram2 : DecidableEq (Int × Int × ty_Mem.D × List ty_Block.D) := @instDecidableEqProd _ _ inferInstance d_Oram1
instance d_Oram : DecidableEq ty_Oram.D := @instDecidableEqProd _ _ inferInstance d_Oram2
theorem rep_Oram {M : Mem} {z1 z2 z3 z4 u1 u2 u3 : V} {x : ty_Oram.D} (h : Rep ty_Oram M [z1, z2, z3, z4, u1, u2, u3] x) : (z1 = .int .i64 x.1 ∧ z2 = .int .i64 x.2.1 ∧ z3 = .int .i64 x.2.2.1 ∧ z4 = .int .i64 x.2.2.2.1.1) ∧ Rep ty_Mem M [.int .i64 x.2.2.2.1.1, u1, u2] x.2.2.2.1 ∧ Rep (.sl ty_Block) M [u3] x.2.2.2.2 := by
  obtain ⟨c1, c2, e, ⟨rfl, _⟩, h2⟩ := h
  obtain ⟨c3, c4, rfl, ⟨rfl, _⟩, h3⟩ := h2
  obtain ⟨c5, c6, rfl, ⟨rfl, _⟩, h4⟩ := h3
  obtain ⟨c7, c8, rfl, h5, h6⟩ := h4
  obtain ⟨w1, w2, rfl, _⟩ := rep_Mem h5
  have l8 := h6.len
  match c8, l8, h6 with
  | [w3], _, h6 =>
    simp only [List.cons_append, List.nil_append, List.cons.injEq, and_true] at e
    obtain ⟨e1, e2, e3, e4, e5, e6, e7⟩ := e
    subst e5 e6 e7
    exact ⟨⟨e1, e2, e3, e4⟩, h5, h6⟩
theorem rep_Oram2 {M : Mem} {z1 z2 z3 z4 u1 u2 u3 : V} {x : ty_Oram.D} (h : Rep ty_Oram M [z1, z2, z3, z4, u1, u2, u3] x) : True ∧ Rep (.sl ty_Cell) M [u1] x.2.2.2.1.2.1 ∧ Rep (.sl ty_Touch) M [u2] x.2.2.2.1.2.2 ∧ Rep (.sl ty_Block) M [u3] x.2.2.2.2 := by
  obtain ⟨_, h1, h2⟩ := rep_Oram h
  obtain ⟨_, h3, h4⟩ := rep_Mem2 h1
  exact ⟨trivial, h3, h4, h2⟩
def totC : List ty_Cell.D → Int
  | [] => 0
  | x :: xs => (x.length : Int) + totC xs
def bndM (x : ty_Mem.D) : Prop := x.2.1.length ≤ 1000000 ∧ (∀ c ∈ x.2.1, c.length ≤ 1000000) ∧ totC x.2.1 ≤ 500000000 ∧ x.2.2.length ≤ 100000000
def bndO (x : ty_Oram.D) : Prop := bndM x.2.2.2.1 ∧ x.2.2.2.2 = []
def totM (x : ty_Mem.D) : Int := totC x.2.1 + 3 * (x.2.2.length : Int)
def totO (x : ty_Oram.D) : Int := totM x.2.2.2.1
theorem totC_pos : ∀ xs, 0 ≤ totC xs
  | [] => by simp [totC]
  | x :: xs => by have := totC_pos xs; simp only [totC]; omega
theorem bndM_tot {x : ty_Mem.D} (h : bndM x) : 0 ≤ totM x ∧ totM x ≤ 1000000000 := by
  have := totC_pos x.2.1
  obtain ⟨_, _, h3, h4⟩ := h
  unfold totM
  omega
theorem bndO_tot {x : ty_Oram.D} (h : bndO x) : 0 ≤ totO x ∧ totO x ≤ 1000000000 := bndM_tot h.1
theorem at_Cell {M : Mem} {a : Option Addr} {n c : Nat} {xs : List ty_Cell.D} (h : Rep (.sl ty_Cell) M [.slice a n c] xs) {i : Nat} (hi : i < xs.length) : ∃ l o u, a = some ⟨l, o, none⟩ ∧ rd1 M l (o + i) = some u ∧ rdn M l (o + i) 1 = some [u] ∧ Rep (.sl ty_Byte) M [u] xs[i] := by
  obtain ⟨_, l, o, rfl, cs, hrd, hrep⟩ := rep_at h hi
  have hl := hrep.len
  have hw1 : ty_Cell.w = 1 := rfl
  rw [hw1, Nat.mul_one] at hrd
  match cs, hl, hrd, hrep with
  | [u], _, hrd, hrep => exact ⟨l, o, u, rfl, rd1_of_one hrd, hrd, hrep⟩
abbrev enc_Byte (x : ty_Byte.D) : List V := [byteV x]
theorem at_Byte {M : Mem} {a : Option Addr} {n c : Nat} {xs : List ty_Byte.D} (h : Rep (.sl ty_Byte) M [.slice a n c] xs) {i : Nat} (hi : i < xs.length) : ∃ l o, a = some ⟨l, o, none⟩ ∧ Rep ty_Byte M (enc_Byte xs[i]) xs[i] ∧ rd1 M l (o + i) = some (byteV xs[i]) := by
  obtain ⟨_, l, o, rfl, cs, hrd, hrep⟩ := rep_at h hi
  have hcs : cs = enc_Byte xs[i] := hrep
  subst hcs
  have hw1 : ty_Byte.w = 1 := rfl
  rw [hw1, Nat.mul_one] at hrd
  exact ⟨l, o, rfl, hrep, rd1_of_one hrd⟩
theorem r_laws_eqByteS (M : Mem) (a b : Option Addr) (c d : Nat) (xs ys : List ty_Byte.D) (h : Rep (.sl ty_Byte) M [.slice a xs.length c] xs) (h2 : Rep (.sl ty_Byte) M [.slice b ys.length d] ys) (hn : xs.length ≤ 9223372036854775807) (i : Nat) (hi : i < xs.length) (hj : i < ys.length) (he : xs[i] = ys[i]) :
    lp (aCall T0) K_laws_eqByteS_0 L_laws_eqByteS_0 [.slice a xs.length c, .slice b ys.length d, und, und, und, .int .i64 i, und, und, und, und, und, und, und, und, und, und, und, und, und, und, und, und, und, und, und, und] M = lp (aCall T0) K_laws_eqByteS_0 L_laws_eqByteS_0 [.slice a xs.length c, .slice b ys.length d, und, und, und, .int .i64 (i + 1 : Nat), und, und, und, und, und, und, und, und, und, und, und, und, und, und, und, und, und, und, und, und] M := by
  obtain ⟨l, o, rfl, _, hrd⟩ := at_Byte h hi
  obtain ⟨l2, o2, rfl, _, hrd2⟩ := at_Byte h2 hj
  have e6 : IntKind.i64.wrap ((i : Int) + 1) = i + 1 := wrap_i64 (by omega) (by omega)
  rw [S_laws_eqByteS_0]; unfold B_laws_eqByteS_0; simp [hrd, hrd2, e6, hi, hj, he, byteV]
theorem eq_byteV (x y : UInt8) : ((x.toNat : Int) = (y.toNat : Int)) = (x = y) := by
  apply propext
  constructor
  · intro h; exact UInt8.toNat_inj.1 (by omega)
  · rintro rfl; rfl
theorem x_laws_eqByteS (M : Mem) (a b : Option Addr) (c d : Nat) (xs ys : List ty_Byte.D) (h : Rep (.sl ty_Byte) M [.slice a xs.length c] xs) (h2 : Rep (.sl ty_Byte) M [.slice b ys.length d] ys) (hn : xs.length ≤ 9223372036854775807) (i : Nat) (hi : i < xs.length) (hj : i < ys.length) (he : xs[i] ≠ ys[i]) (k : ACode) :
    thenF M [.tmp 4] (thenS (blockR 0 (lp (aCall T0) K_laws_eqByteS_0 L_laws_eqByteS_0 [.slice a xs.length c, .slice b ys.length d, und, und, und, .int .i64 i, und, und, und, und, und, und, und, und, und, und, und, und, und, und, und, und, und, und, und, und] M)) (aCall T0) k) = some (.bool false, M) := by
  obtain ⟨l, o, rfl, _, hrd⟩ := at_Byte h hi
  obtain ⟨l2, o2, rfl, _, hrd2⟩ := at_Byte h2 hj
  have hne : ¬ (((xs[i] : UInt8).toNat : Int) = ((ys[i] : UInt8).toNat : Int)) := by rw [eq_byteV]; exact he
  rw [S_laws_eqByteS_0]; unfold B_laws_eqByteS_0; simp [hrd, hrd2, hi, hj, hne, byteV]
theorem c_laws_eqByteS (M : Mem) (v u : V) (xs ys : List ty_Byte.D) (h : Rep (.sl ty_Byte) M [v] xs) (h2 : Rep (.sl ty_Byte) M [u] ys) (hn : xs.length ≤ 9223372036854775807) : aCall T0 F_laws_eqByteS [v, u] M = some (.bool (decide (xs = ys)), M) := by
  obtain ⟨a, c, rfl⟩ := h.slen
  obtain ⟨b, d, rfl⟩ := h2.slen
  by_cases hl : xs.length = ys.length
  · rcases list_eq_iff hl with he | ⟨j, hj, h3, h4⟩
    · subst he
      have hc := chain (g := fun i : Nat => lp (aCall T0) K_laws_eqByteS_0 L_laws_eqByteS_0 [.slice a xs.length c, .slice b xs.length d, und, und, und, .int .i64 i, und, und, und, und, und, und, und, und, und, und, und, und, und, und, und, und, und, und, und, und] M) (n := xs.length) fun i hi => r_laws_eqByteS M a b c d xs xs h h2 hn i hi hi rfl
      simp only [Int.natCast_zero, Int.ofNat_zero] at hc
      rw [aCall_eq T_laws_eqByteS]; unfold A_laws_eqByteS C_laws_eqByteS; simp [hc]
      rw [S_laws_eqByteS_0]; unfold B_laws_eqByteS_0; simp
    · have hc := chain (g := fun i : Nat => lp (aCall T0) K_laws_eqByteS_0 L_laws_eqByteS_0 [.slice a xs.length c, .slice b ys.length d, und, und, und, .int .i64 i, und, und, und, und, und, und, und, und, und, und, und, und, und, und, und, und, und, und, und, und] M) (n := j) fun i hi => r_laws_eqByteS M a b c d xs ys h h2 hn i (by omega) (by omega) (h3 i (by omega) hi)
      simp only [Int.natCast_zero, Int.ofNat_zero] at hc
      have hx := x_laws_eqByteS M a b c d xs ys h h2 hn j hj (by omega) h4
      have hne : xs ≠ ys := fun e => h4 (by simp [e])
      simp only [← hl] at hc hx
      simp only [← hl]
      rw [aCall_eq T_laws_eqByteS]; unfold A_laws_eqByteS C_laws_eqByteS; simp [hc, hx, hne]
  · have hne : xs ≠ ys := fun e => hl (by rw [e])
    have hl2 : ¬ ((xs.length : Int) = ys.length) := by omega
    rw [aCall_eq T_laws_eqByteS]; unfold A_laws_eqByteS C_laws_eqByteS; simp [hl2, hl, hne]
theorem c_laws_eqCell (M : Mem) (u v : V) (x y : List ty_Byte.D) (h : Rep (.sl ty_Byte) M [u] x) (h2 : Rep (.sl ty_Byte) M [v] y) (hn : x.length ≤ 9223372036854775807) : aCall T0 F_laws_eqCell [.agg #[u], .agg #[v]] M = some (.bool (decide (x = y)), M) := by
  have e := c_laws_eqByteS (M ++ [⟨[u], 1, 2⟩, ⟨[v], 1, 2⟩]) u v x y (h.mono (List.prefix_append _ _)) (h2.mono (List.prefix_append _ _)) hn
  obtain ⟨a, c, rfl⟩ := h.slen
  obtain ⟨b, d, rfl⟩ := h2.slen
  by_cases hxy : x = y
  · simp only [hxy, decide_true] at e ⊢
    rw [aCall_eq T_laws_eqCell]; unfold A_laws_eqCell C_laws_eqCell; simp [e]
  · simp only [hxy, decide_false] at e ⊢
    rw [aCall_eq T_laws_eqCell]; unfold A_laws_eqCell C_laws_eqCell; simp [e]
theorem r_laws_eqCellS (M : Mem) (a b : Option Addr) (c d : Nat) (xs ys : List ty_Cell.D) (h : Rep (.sl ty_Cell) M [.slice a xs.length c] xs) (h2 : Rep (.sl ty_Cell) M [.slice b ys.length d] ys) (hn : xs.length ≤ 9223372036854775807) (hc : ∀ x ∈ xs, x.length ≤ 9223372036854775807) (i : Nat) (hi : i < xs.length) (hj : i < ys.length) (he : xs[i] = ys[i]) :
    lp (aCall T0) K_laws_eqCellS_0 L_laws_eqCellS_0 [.slice a xs.length c, .slice b ys.length d, und, und, und, .int .i64 i, und, und, und, und, und, und, und, und, und, und, und, und, und, und, und, und, und, und, und, und, und] M = lp (aCall T0) K_laws_eqCellS_0 L_laws_eqCellS_0 [.slice a xs.length c, .slice b ys.length d, und, und, und, .int .i64 (i + 1 : Nat), und, und, und, und, und, und, und, und, und, und, und, und, und, und, und, und, und, und, und, und, und] M := by
  obtain ⟨l, o, u, rfl, _, hrd, hr1⟩ := at_Cell h hi
  obtain ⟨l2, o2, v, rfl, _, hrd2, hr2⟩ := at_Cell h2 hj
  have e6 : IntKind.i64.wrap ((i : Int) + 1) = i + 1 := wrap_i64 (by omega) (by omega)
  have ec := c_laws_eqCell M u v xs[i] ys[i] hr1 hr2 (hc _ (List.getElem_mem hi))
  rw [decide_eq_true he] at ec
  rw [S_laws_eqCellS_0]; unfold B_laws_eqCellS_0; simp [hrd, hrd2, ec, e6, hi, hj]
theorem x_laws_eqCellS (M : Mem) (a b : Option Addr) (c d : Nat) (xs ys : List ty_Cell.D) (h : Rep (.sl ty_Cell) M [.slice a xs.length c] xs) (h2 : Rep (.sl ty_Cell) M [.slice b ys.length d] ys) (hn : xs.length ≤ 9223372036854775807) (hc : ∀ x ∈ xs, x.length ≤ 9223372036854775807) (i : Nat) (hi : i < xs.length) (hj : i < ys.length) (he : xs[i] ≠ ys[i]) (k : ACode) :
    thenF M [.tmp 4] (thenS (blockR 0 (lp (aCall T0) K_laws_eqCellS_0 L_laws_eqCellS_0 [.slice a xs.length c, .slice b ys.length d, und, und, und, .int .i64 i, und, und, und, und, und, und, und, und, und, und, und, und, und, und, und, und, und, und, und, und, und] M)) (aCall T0) k) = some (.bool false, M) := by
  obtain ⟨l, o, u, rfl, _, hrd, hr1⟩ := at_Cell h hi
  obtain ⟨l2, o2, v, rfl, _, hrd2, hr2⟩ := at_Cell h2 hj
  have ec := c_laws_eqCell M u v xs[i] ys[i] hr1 hr2 (hc _ (List.getElem_mem hi))
  rw [decide_eq_false he] at ec
  rw [S_laws_eqCellS_0]; unfold B_laws_eqCellS_0; simp [hrd, hrd2, ec, hi, hj]
theorem c_laws_eqCellS (M : Mem) (v u : V) (xs ys : List ty_Cell.D) (h : Rep (.sl ty_Cell) M [v] xs) (h2 : Rep (.sl ty_Cell) M [u] ys) (hn : xs.length ≤ 9223372036854775807) (hc : ∀ x ∈ xs, x.length ≤ 9223372036854775807) : aCall T0 F_laws_eqCellS [v, u] M = some (.bool (decide (xs = ys)), M) := by
  obtain ⟨a, c, rfl⟩ := h.slen
  obtain ⟨b, d, rfl⟩ := h2.slen
  by_cases hl : xs.length = ys.length
  · rcases list_eq_iff hl with he | ⟨j, hj, h3, h4⟩
    · subst he
      have hc' := chain (g := fun i : Nat => lp (aCall T0) K_laws_eqCellS_0 L_laws_eqCellS_0 [.slice a xs.length c, .slice b xs.length d, und, und, und, .int .i64 i, und, und, und, und, und, und, und, und, und, und, und, und, und, und, und, und, und, und, und, und, und] M) (n := xs.length) fun i hi => r_laws_eqCellS M a b c d xs xs h h2 hn hc i hi hi rfl
      simp only [Int.natCast_zero, Int.ofNat_zero] at hc'
      rw [aCall_eq T_laws_eqCellS]; unfold A_laws_eqCellS C_laws_eqCellS; simp [hc']
      rw [S_laws_eqCellS_0]; unfold B_laws_eqCellS_0; simp
    · have hc' := chain (g := fun i : Nat => lp (aCall T0) K_laws_eqCellS_0 L_laws_eqCellS_0 [.slice a xs.length c, .slice b ys.length d, und, und, und, .int .i64 i, und, und, und, und, und, und, und, und, und, und, und, und, und, und, und, und, und, und, und, und, und] M) (n := j) fun i hi => r_laws_eqCellS M a b c d xs ys h h2 hn hc i (by omega) (by omega) (h3 i (by omega) hi)
      simp only [Int.natCast_zero, Int.ofNat_zero] at hc'
      have hx := x_laws_eqCellS M a b c d xs ys h h2 hn hc j hj (by omega) h4
      have hne : xs ≠ ys := fun e => h4 (by simp [e])
      simp only [← hl] at hc' hx
      simp only [← hl]
      rw [aCall_eq T_laws_eqCellS]; unfold A_laws_eqCellS C_laws_eqCellS; simp [hc', hx, hne]
  · have hne : xs ≠ ys := fun e => hl (by rw [e])
    have hl2 : ¬ ((xs.length : Int) = ys.length) := by omega
    rw [aCall_eq T_laws_eqCellS]; unfold A_laws_eqCellS C_laws_eqCellS; simp [hl2, hl, hne]
abbrev enc_Touch (x : ty_Touch.D) : List V := [.int .i64 x.1, .int .i64 x.2.1, .int .i64 x.2.2]
theorem rep_Touch {M : Mem} {cs : List V} {x : ty_Touch.D} (h : Rep ty_Touch M cs x) : cs = enc_Touch x := by
  obtain ⟨_, _, rfl, ⟨rfl, _⟩, ⟨_, _, rfl, ⟨rfl, _⟩, ⟨rfl, _⟩⟩⟩ := h
  rfl
theorem deq_Touch (x y : ty_Touch.D) : decide (x = y) = (decide (x.1 = y.1) && (decide (x.2.1 = y.2.1) && (decide (x.2.2 = y.2.2)))) := by
  obtain ⟨x0, x1, x2⟩ := x
  obtain ⟨y0, y1, y2⟩ := y
  simp
theorem c_laws_eqTouch (M : Mem) (x y : ty_Touch.D) : aCall T0 F_laws_eqTouch [.agg (enc_Touch x).toArray, .agg (enc_Touch y).toArray] M = some (.bool (decide (x = y)), M) := by
  rw [deq_Touch]
  rw [aCall_eq T_laws_eqTouch]; unfold A_laws_eqTouch C_laws_eqTouch; simp
  repeat' ((first | rw [selO_some] | rw [condR_bool] | rw [selD_some]); split <;> rename_i hq <;> (have hq2 := hq) <;> (try simp at hq2) <;> (try simp [*]))
theorem r_laws_eqTouchS (M : Mem) (a b : Option Addr) (c d : Nat) (xs ys : List ty_Touch.D) (h : Rep (.sl ty_Touch) M [.slice a xs.length c] xs) (h2 : Rep (.sl ty_Touch) M [.slice b ys.length d] ys) (hn : xs.length ≤ 9223372036854775807) (i : Nat) (hi : i < xs.length) (hj : i < ys.length) (he : xs[i] = ys[i]) :
    lp (aCall T0) K_laws_eqTouchS_0 L_laws_eqTouchS_0 [.slice a xs.length c, .slice b ys.length d, und, und, und, .int .i64 i, und, und, und, und, und, und, und, und, und, und, und, und, und, und, und, und, und, und, und, und, und] M = lp (aCall T0) K_laws_eqTouchS_0 L_laws_eqTouchS_0 [.slice a xs.length c, .slice b ys.length d, und, und, und, .int .i64 (i + 1 : Nat), und, und, und, und, und, und, und, und, und, und, und, und, und, und, und, und, und, und, und, und, und] M := by
  obtain ⟨_, l, o, rfl, cs, hrd, hrep⟩ := rep_at h hi
  obtain ⟨_, l2, o2, rfl, ds, hrd2, hrep2⟩ := rep_at h2 hj
  have hcs := rep_Touch hrep
  subst hcs
  have hds := rep_Touch hrep2
  subst hds
  have hw : ty_Touch.w = 3 := rfl
  rw [hw] at hrd hrd2
  have e6 : IntKind.i64.wrap ((i : Int) + 1) = i + 1 := wrap_i64 (by omega) (by omega)
  have ec := fun M => c_laws_eqTouch M ys[i] ys[i]
  rw [S_laws_eqTouchS_0]; unfold B_laws_eqTouchS_0; simp [hrd, hrd2, ec, e6, hi, hj, he]
theorem x_laws_eqTouchS (M : Mem) (a b : Option Addr) (c d : Nat) (xs ys : List ty_Touch.D) (h : Rep (.sl ty_Touch) M [.slice a xs.length c] xs) (h2 : Rep (.sl ty_Touch) M [.slice b ys.length d] ys) (hn : xs.length ≤ 9223372036854775807) (i : Nat) (hi : i < xs.length) (hj : i < ys.length) (he : xs[i] ≠ ys[i]) (k : ACode) :
    thenF M [.tmp 4] (thenS (blockR 0 (lp (aCall T0) K_laws_eqTouchS_0 L_laws_eqTouchS_0 [.slice a xs.length c, .slice b ys.length d, und, und, und, .int .i64 i, und, und, und, und, und, und, und, und, und, und, und, und, und, und, und, und, und, und, und, und, und] M)) (aCall T0) k) = some (.bool false, M) := by
  obtain ⟨_, l, o, rfl, cs, hrd, hrep⟩ := rep_at h hi
  obtain ⟨_, l2, o2, rfl, ds, hrd2, hrep2⟩ := rep_at h2 hj
  have hcs := rep_Touch hrep
  subst hcs
  have hds := rep_Touch hrep2
  subst hds
  have hw : ty_Touch.w = 3 := rfl
  rw [hw] at hrd hrd2
  have ec := fun M => c_laws_eqTouch M xs[i] ys[i]
  rw [S_laws_eqTouchS_0]; unfold B_laws_eqTouchS_0; simp [hrd, hrd2, ec, hi, hj, he]
theorem c_laws_eqTouchS (M : Mem) (v u : V) (xs ys : List ty_Touch.D) (h : Rep (.sl ty_Touch) M [v] xs) (h2 : Rep (.sl ty_Touch) M [u] ys) (hn : xs.length ≤ 9223372036854775807) : aCall T0 F_laws_eqTouchS [v, u] M = some (.bool (decide (xs = ys)), M) := by
  obtain ⟨a, c, rfl⟩ := h.slen
  obtain ⟨b, d, rfl⟩ := h2.slen
  by_cases hl : xs.length = ys.length
  · rcases list_eq_iff hl with he | ⟨j, hj, h3, h4⟩
    · subst he
      have hc := chain (g := fun i : Nat => lp (aCall T0) K_laws_eqTouchS_0 L_laws_eqTouchS_0 [.slice a xs.length c, .slice b xs.length d, und, und, und, .int .i64 i, und, und, und, und, und, und, und, und, und, und, und, und, und, und, und, und, und, und, und, und, und] M) (n := xs.length) fun i hi => r_laws_eqTouchS M a b c d xs xs h h2 hn i hi hi rfl
      simp only [Int.natCast_zero, Int.ofNat_zero] at hc
      rw [aCall_eq T_laws_eqTouchS]; unfold A_laws_eqTouchS C_laws_eqTouchS; simp [hc]
      rw [S_laws_eqTouchS_0]; unfold B_laws_eqTouchS_0; simp
    · have hc := chain (g := fun i : Nat => lp (aCall T0) K_laws_eqTouchS_0 L_laws_eqTouchS_0 [.slice a xs.length c, .slice b ys.length d, und, und, und, .int .i64 i, und, und, und, und, und, und, und, und, und, und, und, und, und, und, und, und, und, und, und, und, und] M) (n := j) fun i hi => r_laws_eqTouchS M a b c d xs ys h h2 hn i (by omega) (by omega) (h3 i (by omega) hi)
      simp only [Int.natCast_zero, Int.ofNat_zero] at hc
      have hx := x_laws_eqTouchS M a b c d xs ys h h2 hn j hj (by omega) h4
      have hne : xs ≠ ys := fun e => h4 (by simp [e])
      simp only [← hl] at hc hx
      simp only [← hl]
      rw [aCall_eq T_laws_eqTouchS]; unfold A_laws_eqTouchS C_laws_eqTouchS; simp [hc, hx, hne]
  · have hne : xs ≠ ys := fun e => hl (by rw [e])
    have hl2 : ¬ ((xs.length : Int) = ys.length) := by omega
    rw [aCall_eq T_laws_eqTouchS]; unfold A_laws_eqTouchS C_laws_eqTouchS; simp [hl2, hl, hne]
theorem c_laws_eqMem (M : Mem) (u1 u2 v1 v2 : V) (x y : ty_Mem.D) (h : Rep ty_Mem M [.int .i64 x.1, u1, u2] x) (h2 : Rep ty_Mem M [.int .i64 y.1, v1, v2] y) (hb : bndM x) :
    aCall T0 F_laws_eqMem [.agg #[.int .i64 x.1, u1, u2], .agg #[.int .i64 y.1, v1, v2]] M = some (.bool (decide (x = y)), M) := by
  obtain ⟨_, h3, h4⟩ := rep_Mem2 h
  obtain ⟨_, h5, h6⟩ := rep_Mem2 h2
  obtain ⟨b1, b2, b3, b4⟩ := hb
  have hp : M <+: M ++ [⟨[.int .i64 x.1, u1, u2], 1, 2⟩, ⟨[.int .i64 y.1, v1, v2], 1, 2⟩] := List.prefix_append _ _
  have e1 := c_laws_eqCellS _ u1 v1 x.2.1 y.2.1 (h3.mono hp) (h5.mono hp) (by omega) (fun c hc => by have := b2 c hc; omega)
  have e2 := c_laws_eqTouchS _ u2 v2 x.2.2 y.2.2 (h4.mono hp) (h6.mono hp) (by omega)
  have hd : decide (x = y) = (decide (x.1 = y.1) && (decide (x.2.1 = y.2.1) && decide (x.2.2 = y.2.2))) := by
    obtain ⟨x1, x2, x3⟩ := x
    obtain ⟨y1, y2, y3⟩ := y
    simp
  rw [hd]
  obtain ⟨_, _, rfl⟩ := h3.slen
  obtain ⟨_, _, rfl⟩ := h4.slen
  obtain ⟨_, _, rfl⟩ := h5.slen
  obtain ⟨_, _, rfl⟩ := h6.slen
  obtain ⟨p1, hp1⟩ : ∃ p, p = decide (x.1 = y.1) := ⟨_, rfl⟩
  obtain ⟨p2, hp2⟩ : ∃ p, p = decide (x.2.1 = y.2.1) := ⟨_, rfl⟩
  obtain ⟨p3, hp3⟩ : ∃ p, p = decide (x.2.2 = y.2.2) := ⟨_, rfl⟩
  rw [← hp2] at e1
  rw [← hp3] at e2
  rw [← hp1, ← hp2, ← hp3]
  cases p1 with
  | false =>
    have q1 : ¬ (x.1 = y.1) := of_decide_eq_false hp1.symm
    rw [aCall_eq T_laws_eqMem]; unfold A_laws_eqMem C_laws_eqMem; simp [q1]
  | true =>
    have q1 : (x.1 = y.1) = True := eq_true (of_decide_eq_true hp1.symm)
    cases p2 with
    | false => rw [aCall_eq T_laws_eqMem]; unfold A_laws_eqMem C_laws_eqMem; simp [q1, e1]
    | true =>
      cases p3 with
      | false => rw [aCall_eq T_laws_eqMem]; unfold A_laws_eqMem C_laws_eqMem; simp [q1, e1, e2]
      | true => rw [aCall_eq T_laws_eqMem]; unfold A_laws_eqMem C_laws_eqMem; simp [q1, e1, e2]
theorem z_laws_eqBlockS (M : Mem) (a b : Option Addr) (n c d : Nat) : aCall T0 F_laws_eqBlockS [.slice a 0 c, .slice b n d] M = some (.bool (decide (n = 0)), M) := by
  by_cases hn : n = 0
  · subst hn
    rw [aCall_eq T_laws_eqBlockS]; unfold A_laws_eqBlockS C_laws_eqBlockS; simp
    rw [S_laws_eqBlockS_0]; unfold B_laws_eqBlockS_0; simp
  · have hn2 : ¬ ((0 : Int) = (n : Int)) := by omega
    rw [aCall_eq T_laws_eqBlockS]; unfold A_laws_eqBlockS C_laws_eqBlockS; simp [hn, hn2]
abbrev cO (x : ty_Oram.D) (u1 u2 u3 : V) : List V := [.int .i64 x.1, .int .i64 x.2.1, .int .i64 x.2.2.1, .int .i64 x.2.2.2.1.1, u1, u2, u3]
theorem c_laws_eqOram (M : Mem) (u1 u2 u3 v1 v2 v3 : V) (x y : ty_Oram.D) (h : Rep ty_Oram M (cO x u1 u2 u3) x) (h2 : Rep ty_Oram M (cO y v1 v2 v3) y) (hb : bndO x) :
    aCall T0 F_laws_eqOram [.agg (cO x u1 u2 u3).toArray, .agg (cO y v1 v2 v3).toArray] M = some (.bool (decide (x = y)), M) := by
  obtain ⟨_, h3, h4⟩ := rep_Oram h
  obtain ⟨_, h5, h6⟩ := rep_Oram h2
  obtain ⟨b1, b2⟩ := hb
  have hp : M <+: M ++ [⟨cO x u1 u2 u3, 1, 2⟩, ⟨cO y v1 v2 v3, 1, 2⟩] := List.prefix_append _ _
  have e1 := c_laws_eqMem _ u1 u2 v1 v2 x.2.2.2.1 y.2.2.2.1 (h3.mono hp) (h5.mono hp) b1
  have hd : decide (x = y) = (decide (x.1 = y.1) && (decide (x.2.1 = y.2.1) && (decide (x.2.2.1 = y.2.2.1) && (decide (x.2.2.2.1 = y.2.2.2.1) && decide (y.2.2.2.2.length = 0))))) := by
    obtain ⟨x1, x2, x3, x4, x5⟩ := x
    obtain ⟨y1, y2, y3, y4, y5⟩ := y
    simp only at b2
    subst b2
    cases y5 with
    | nil => simp
    | cons z zs => simp
  rw [hd]
  obtain ⟨_, h31, h32⟩ := rep_Mem2 h3
  obtain ⟨_, h51, h52⟩ := rep_Mem2 h5
  obtain ⟨_, _, rfl⟩ := h31.slen
  obtain ⟨_, _, rfl⟩ := h32.slen
  obtain ⟨_, _, rfl⟩ := h51.slen
  obtain ⟨_, _, rfl⟩ := h52.slen
  obtain ⟨a3, c3, rfl⟩ := h4.slen
  obtain ⟨b3, d3, rfl⟩ := h6.slen
  rw [b2, List.length_nil] at *
  have e2 := fun M => z_laws_eqBlockS M a3 b3 y.2.2.2.2.length c3 d3
  obtain ⟨p1, hp1⟩ : ∃ p, p = decide (x.1 = y.1) := ⟨_, rfl⟩
  obtain ⟨p2, hp2⟩ : ∃ p, p = decide (x.2.1 = y.2.1) := ⟨_, rfl⟩
  obtain ⟨p3, hp3⟩ : ∃ p, p = decide (x.2.2.1 = y.2.2.1) := ⟨_, rfl⟩
  obtain ⟨p4, hp4⟩ : ∃ p, p = decide (x.2.2.2.1 = y.2.2.2.1) := ⟨_, rfl⟩
  obtain ⟨p5, hp5⟩ : ∃ p, p = decide (y.2.2.2.2.length = 0) := ⟨_, rfl⟩
  rw [← hp4] at e1
  simp only [← hp5] at e2
  rw [← hp1, ← hp2, ← hp3, ← hp4, ← hp5]
  cases p1 with
  | false =>
    have q1 : ¬ (x.1 = y.1) := of_decide_eq_false hp1.symm
    rw [aCall_eq T_laws_eqOram]; unfold A_laws_eqOram C_laws_eqOram; simp [q1]
  | true =>
    have q1 : (x.1 = y.1) = True := eq_true (of_decide_eq_true hp1.symm)
    cases p2 with
    | false =>
      have q2 : ¬ (x.2.1 = y.2.1) := of_decide_eq_false hp2.symm
      rw [aCall_eq T_laws_eqOram]; unfold A_laws_eqOram C_laws_eqOram; simp [q1, q2]
    | true =>
      have q2 : (x.2.1 = y.2.1) = True := eq_true (of_decide_eq_true hp2.symm)
      cases p3 with
      | false =>
        have q3 : ¬ (x.2.2.1 = y.2.2.1) := of_decide_eq_false hp3.symm
        rw [aCall_eq T_laws_eqOram]; unfold A_laws_eqOram C_laws_eqOram; simp [q1, q2, q3]
      | true =>
        have q3 : (x.2.2.1 = y.2.2.1) = True := eq_true (of_decide_eq_true hp3.symm)
        cases p4 with
        | false => rw [aCall_eq T_laws_eqOram]; unfold A_laws_eqOram C_laws_eqOram; simp [q1, q2, q3, e1]
        | true =>
          cases p5 with
          | false => rw [aCall_eq T_laws_eqOram]; unfold A_laws_eqOram C_laws_eqOram; simp [q1, q2, q3, e1, e2]
          | true => rw [aCall_eq T_laws_eqOram]; unfold A_laws_eqOram C_laws_eqOram; simp [q1, q2, q3, e1, e2]
def mkY (k : Int) : UInt8 := UInt8.ofNat (k.toNat % 256)
def marksY (k : Int) (n : Nat) : List ty_Byte.D := (List.range n).map fun (j : Nat) => mkY (k + (j : Int))
def mkC (k : Int) (xs : List ty_Cell.D) (i : Nat) : List ty_Byte.D := marksY (k + totC (xs.take i)) ((xs[i]?).getD []).length
def marksC (k : Int) (xs : List ty_Cell.D) : List ty_Cell.D := (List.range xs.length).map (mkC k xs)
theorem marksC_len (k : Int) (xs : List ty_Cell.D) : (marksC k xs).length = xs.length := by simp [marksC]
theorem marksC_get (k : Int) (xs : List ty_Cell.D) (i : Nat) (hi : i < (marksC k xs).length) : (marksC k xs)[i] = mkC k xs i := by simp [marksC]
theorem marksY_len (k : Int) (n : Nat) : (marksY k n).length = n := by simp [marksY]
def mcs_Byte (k : Int) (i : Nat) : List V := ((marksY k i).map enc_Byte).flatten
theorem own_Byte (M : Mem) (x : ty_Byte.D) : Own ty_Byte M (enc_Byte x) x [] := ⟨rfl, rfl⟩
theorem ownf_Byte (M : Mem) (cs : List V) (x : ty_Byte.D) (K : List Nat) (h : Own ty_Byte M cs x K) : K = [] := h.2
theorem mkY_val (k : Int) (hk : 0 < k) : Value.int .u8 (IntKind.u8.wrap k) = byteV (mkY k) := by
  unfold mkY
  rw [byteV_len (by omega)]
  congr 1
  simp [IntKind.wrap, IntKind.min, IntKind.max, IntKind.signed, IntKind.bits]
  omega
theorem mkY_wrap (k : Int) (hk : 0 < k) : IntKind.u8.wrap k = ((mkY k).toNat : Int) := by
  have h := mkY_val k hk
  unfold byteV at h
  injection h
theorem mcs_Byte_len (k : Int) (i : Nat) : (mcs_Byte k i).length = i := by
  unfold mcs_Byte
  rw [flat_enc_len (w := 1) (fun x _ => rfl), marksY_len, Nat.mul_one]
theorem mcs_Byte_succ (k : Int) (i : Nat) : mcs_Byte k (i + 1) = mcs_Byte k i ++ [byteV (mkY (k + (i : Int)))] := by
  unfold mcs_Byte marksY
  rw [List.range_succ]
  simp
def spB (blk : Blk) (o : Nat) (ys : List V) : Blk := { blk with cells := splice blk.cells o ys }
theorem splice_snoc (cs ys : List V) (o : Nat) (y : V) (h : o + ys.length + 1 ≤ cs.length) : splice (splice cs o ys) (o + ys.length) [y] = splice cs o (ys ++ [y]) := by
  have e1 : (cs.take o ++ ys).length = o + ys.length := by simp; omega
  unfold splice
  rw [← e1, List.take_left', List.append_assoc (cs.take o) ys]
  · simp only [List.length_append, List.length_cons, List.length_nil, List.append_assoc]
    congr 2
    rw [← List.append_assoc, List.drop_append, List.drop_eq_nil_of_le (by simp)]
    simp
    congr 1
    omega
  · rfl
theorem splice_len (cs ys : List V) (o : Nat) (h : o + ys.length ≤ cs.length) : (splice cs o ys).length = cs.length := by
  unfold splice; simp; omega
theorem wrn_sp (M : Mem) (l o : Nat) (blk : Blk) (hb : M[l]? = some blk) (h2 : blk.st = 2) (ys : List V) (y : V) (hy : one y = true) (ho : o + ys.length + 1 ≤ blk.cells.length) : wrn (M.set l (spB blk o ys)) l (o + ys.length) [y] = some (M.set l (spB blk o (ys ++ [y]))) := by
  have hl := (List.getElem?_eq_some_iff.1 hb).1
  have e0 : (M.set l (spB blk o ys))[l]? = some (spB blk o ys) := by simp [hl]
  unfold wrn
  rw [e0]
  simp only
  have e2 : (spB blk o ys).cells.length = blk.cells.length := splice_len _ _ _ (by omega)
  rw [if_pos ⟨h2, by rw [e2]; simp; omega, by simp [hy]⟩, List.set_set]
  congr 2
  unfold spB
  simp only
  congr 1
  exact splice_snoc blk.cells ys o y (by omega)
theorem r_laws_markByteS (M : Mem) (l o n c : Nat) (blk : Blk) (hb : M[l]? = some blk) (h2 : blk.st = 2) (k : Int) (hk : 0 < k) (hk2 : k + n ≤ 4611686018427387904) (ho : o + n ≤ blk.cells.length) (i : Nat) (hi : i < n) :
    lp (aCall T0) K_laws_markByteS_0 L_laws_markByteS_0 [.slice (some ⟨l, o, none⟩) n c, .int .i64 (k + (i : Int)), und, und, und, .int .i64 i, und, und, und, und, und, und, und, und, und, und, und, und, und, und] (M.set l (spB blk o (mcs_Byte k i))) =
    lp (aCall T0) K_laws_markByteS_0 L_laws_markByteS_0 [.slice (some ⟨l, o, none⟩) n c, .int .i64 (k + ((i + 1 : Nat) : Int)), und, und, und, .int .i64 (i + 1 : Nat), und, und, und, und, und, und, und, und, und, und, und, und, und, und] (M.set l (spB blk o (mcs_Byte k (i + 1)))) := by
  have el := mcs_Byte_len k i
  have e1 := wrn_sp M l o blk hb h2 (mcs_Byte k i) (byteV (mkY (k + (i : Int)))) rfl (by omega)
  rw [← mcs_Byte_succ, el] at e1
  have e6 : IntKind.i64.wrap ((i : Int) + 1) = i + 1 := wrap_i64 (by omega) (by omega)
  have e7 : IntKind.i64.wrap (k + (i : Int) + 1) = k + ((i : Int) + 1) := by rw [wrap_i64 (by omega) (by omega)]; omega
  have e8 := mkY_wrap (k + (i : Int)) (by omega)
  unfold byteV at e1
  rw [S_laws_markByteS_0]; unfold B_laws_markByteS_0; simp [e1, e6, e7, e8, hi]
theorem spB_nil (blk : Blk) (o : Nat) : spB blk o [] = blk := by simp [spB, splice]
theorem set_same {M : Mem} {l : Nat} {blk : Blk} (hb : M[l]? = some blk) : M.set l blk = M := by
  exact List.ext_getElem? fun j => by
    rw [List.getElem?_set]
    split
    · rename_i e; subst e; split
      · exact hb.symm
      · rename_i hlt; rw [List.getElem?_eq_none (by omega)]
    · rfl
theorem upd_set {M : Mem} {l : Nat} {blk b2 : Blk} (hb : M[l]? = some blk) (hw : b2.w = blk.w) : Upd M (M.set l b2) (· ∈ [l]) := by
  have hlt := (List.getElem?_eq_some_iff.1 hb).1
  refine ⟨by simp, fun j hj => ?_, fun j b' hj => ?_⟩
  · rw [List.getElem?_set_ne (fun e => hj (by simp [e]))]
  · by_cases e : l = j
    · subst e
      rw [hb] at hj
      cases hj
      exact ⟨b2, by simp [hlt], hw⟩
    · exact ⟨b', by rw [List.getElem?_set_ne e, hj], rfl⟩
theorem own_flat {t : Ty} (hf : ∀ (M : Mem) (cs : List V) (x : t.D) (K : List Nat), Own t M cs x K → K = []) {M : Mem} {v : V} {xs : List t.D} {L : List Nat} (h : Own (.sl t) M [v] xs L) : (xs = [] ∧ L = [] ∧ Rep (.sl t) M [v] []) ∨ ∃ l o c blk, xs ≠ [] ∧ v = .slice (some ⟨l, o, none⟩) xs.length c ∧ M[l]? = some blk ∧ blk.st = 2 ∧ blk.w = t.w ∧ o + xs.length * t.w ≤ blk.cells.length ∧ L = [l] := by
  rcases h with ⟨rfl, hL, hr⟩ | ⟨l, o, c, blk, css, Ls, hne, e, hb, h2, hw, hc, hLs, hel, hp, rfl⟩
  · exact .inl ⟨rfl, hL, hr⟩
  · right
    simp only [List.cons.injEq, and_true] at e
    refine ⟨l, o, c, blk, hne, e, hb, h2, hw, ?_, ?_⟩
    · have hone : ∀ cs ∈ css, cs.length = t.w := by
        intro cs hcs
        obtain ⟨i, hi, rfl⟩ := List.getElem_of_mem hcs
        exact (hel i css[i] (xs[i]'(by omega)) (Ls[i]'(by omega)) (by simp) (by simp) (by simp)).rep.len
      have := flat_len hone
      have hl := hp.length_le
      rw [this, List.length_drop, hc] at hl
      have h0 := List.length_pos_iff.2 hne
      have h1 : 0 < xs.length * t.w := Nat.mul_pos h0 t.w_pos
      omega
    · have : Ls.flatten = [] := by
        rw [List.flatten_eq_nil_iff]
        intro K hK
        obtain ⟨i, hi, rfl⟩ := List.getElem_of_mem hK
        exact hf _ _ _ _ (hel i (css[i]'(by omega)) (xs[i]'(by omega)) Ls[i] (by simp) (by simp) (by simp))
      rw [this]
theorem own_encs {t : Ty} {M : Mem} {enc : t.D → List V} {ys : List t.D} (he : ∀ y ∈ ys, Own t M (enc y) y []) : ∀ (i : Nat) (ds : List V) (x : t.D) (K : List Nat), (ys.map enc)[i]? = some ds → ys[i]? = some x → (ys.map (fun _ => ([] : List Nat)))[i]? = some K → Own t M ds x K := by
  intro i ds x K h1 h2 h3
  rw [List.getElem?_map, h2] at h1
  rw [List.getElem?_map, h2] at h3
  simp only [Option.map_some, Option.some.injEq] at h1 h3
  subst h1; subst h3
  exact he x (List.mem_of_getElem? h2)
theorem nils_flat {α : Type} (ys : List α) : (ys.map (fun _ => ([] : List Nat))).flatten = [] := by
  rw [List.flatten_eq_nil_iff]
  intro K hK
  obtain ⟨_, _, rfl⟩ := List.mem_map.1 hK
  rfl
theorem own_sp {t : Ty} {M : Mem} {l o n c : Nat} {blk : Blk} {enc : t.D → List V} {ys : List t.D} (hy : ys ≠ []) (hn : ys.length = n) (hb : M[l]? = some (spB blk o (ys.map enc).flatten)) (h2 : blk.st = 2) (hw : blk.w = t.w) (ho : o ≤ blk.cells.length) (he : ∀ y ∈ ys, Own t M (enc y) y []) :
    Own (.sl t) M [.slice (some ⟨l, o, none⟩) n c] ys [l] := by
  refine .inr ⟨l, o, c, spB blk o (ys.map enc).flatten, ys.map enc, ys.map (fun _ => []), hy, by rw [hn], hb, h2, hw, by simp, by simp, own_encs he, ?_, by rw [nils_flat]⟩
  unfold spB splice
  simp only
  rw [List.append_assoc, List.drop_append, List.drop_eq_nil_of_le (by simp; omega)]
  have : o - (List.take o blk.cells).length = 0 := by simp; omega
  rw [this]
  exact List.prefix_append _ _
theorem Upd.g {M M' : Mem} {L : Nat → Prop} (h : Upd M M' L) : UpdG M M' L := ⟨Nat.le_of_eq h.1.symm, fun l hl _ => h.2.1 l hl, h.2.2⟩
theorem pre_g {M M' : Mem} (hp : M <+: M') (L : Nat → Prop) : UpdG M M' L := by
  refine ⟨hp.length_le, fun l _ hlt => ?_, fun l b hb => ⟨b, get_pre hp hb, rfl⟩⟩
  obtain ⟨r, rfl⟩ := hp
  rw [List.getElem?_append_left hlt]
theorem d_laws_markByteS (M : Mem) (v : V) (xs : List ty_Byte.D) (L : List Nat) (h : Own (.sl ty_Byte) M [v] xs L) (k : Int) (hk : 0 < k) (hk2 : k + xs.length ≤ 4611686018427387904) :
    ∃ M', aCall T0 F_laws_markByteS [v, .int .i64 k] M = some (.int .i64 (k + xs.length), M') ∧ UpdG M M' (· ∈ L) ∧ Own (.sl ty_Byte) M' [v] (marksY k xs.length) L := by
  rcases own_flat ownf_Byte h with ⟨rfl, rfl, hr⟩ | ⟨l, o, c, blk, hx, rfl, hb, h2, hw, ho, rfl⟩
  · refine ⟨M, ?_, pre_g (List.prefix_refl _) _, .inl ⟨rfl, rfl, hr⟩⟩
    obtain ⟨a, c, rfl⟩ := hr.slen
    rw [aCall_eq T_laws_markByteS]; unfold A_laws_markByteS C_laws_markByteS; simp
    rw [S_laws_markByteS_0]; unfold B_laws_markByteS_0; simp
  · have hw2 : ty_Byte.w = 1 := rfl
    rw [hw2, Nat.mul_one] at ho
    have hl := chain (g := fun i : Nat => lp (aCall T0) K_laws_markByteS_0 L_laws_markByteS_0 [.slice (some ⟨l, o, none⟩) xs.length c, .int .i64 (k + (i : Int)), und, und, und, .int .i64 i, und, und, und, und, und, und, und, und, und, und, und, und, und, und] (M.set l (spB blk o (mcs_Byte k i)))) (n := xs.length) fun i hi => r_laws_markByteS M l o xs.length c blk hb h2 k hk hk2 ho i hi
    have e0 : mcs_Byte k 0 = [] := rfl
    simp only [Int.natCast_zero, Int.ofNat_zero, e0, spB_nil, set_same hb, Int.add_zero] at hl
    have hlt := (List.getElem?_eq_some_iff.1 hb).1
    refine ⟨M.set l (spB blk o (mcs_Byte k xs.length)), ?_, Upd.g (upd_set hb rfl), ?_⟩
    · rw [aCall_eq T_laws_markByteS]; unfold A_laws_markByteS C_laws_markByteS; simp [hl]
      rw [S_laws_markByteS_0]; unfold B_laws_markByteS_0; simp
      exact gc_len (by simp)
    · refine own_sp (blk := blk) (enc := enc_Byte) ?_ (marksY_len _ _) (by simp [hlt, mcs_Byte]) h2 hw (by omega) (fun y _ => own_Byte _ y)
      intro e; have := congrArg List.length e; rw [marksY_len] at this; exact hx (List.length_eq_zero_iff.1 this)
theorem totC_take : ∀ (xs : List ty_Cell.D) (i : Nat) (hi : i < xs.length), totC (xs.take (i + 1)) = totC (xs.take i) + (xs[i].length : Int)
  | [], i, hi => by simp at hi
  | x :: xs, 0, hi => by simp [totC]
  | x :: xs, i + 1, hi => by
    have := totC_take xs i (by simpa using hi)
    simp only [List.take_succ_cons, totC, List.getElem_cons_succ]
    omega
theorem totC_le : ∀ (xs : List ty_Cell.D) (i : Nat), totC (xs.take i) ≤ totC xs
  | [], i => by simp [totC]
  | x :: xs, 0 => by have := totC_pos xs; simp only [List.take_zero, totC]; omega
  | x :: xs, i + 1 => by have := totC_le xs i; simp only [List.take_succ_cons, totC]; omega
theorem UpdG.trans {M M1 M2 : Mem} {K L : Nat → Prop} (h : UpdG M M1 K) (h2 : UpdG M1 M2 L) : UpdG M M2 (fun l => K l ∨ L l) := by
  refine ⟨Nat.le_trans h.1 h2.1, fun l hl hlt => ?_, fun l b hb => ?_⟩
  · rw [h2.2.1 l (fun q => hl (.inr q)) (Nat.lt_of_lt_of_le hlt h.1), h.2.1 l (fun q => hl (.inl q)) hlt]
  · obtain ⟨b1, q1, q2⟩ := h.2.2 l b hb
    obtain ⟨b2, q3, q4⟩ := h2.2.2 l b1 q1
    exact ⟨b2, q3, by rw [q4, q2]⟩
theorem rep_emptyg {t : Ty} {M M' : Mem} {L : Nat → Prop} (hu : UpdG M M' L) {cs : List V} (h : Rep (.sl t) M cs []) : Rep (.sl t) M' cs [] := by
  rcases h with h | ⟨l, o, c, blk, css, h1, h2, h3, h4, h5, h6, h7⟩
  · exact .inl h
  · obtain ⟨b', hb, hw⟩ := hu.2.2 l blk h2
    have hc : css = [] := List.length_eq_zero_iff.1 h5
    subst hc
    exact .inr ⟨l, o, c, b', [], h1, hb, .inr (.inr rfl), by rw [hw, h4], rfl, fun i ds x hd => by simp at hd, by simp⟩
theorem Own.updg {M M' : Mem} {K : Nat → Prop} (hu : UpdG M M' K) : ∀ {t : Ty} {cs : List V} {x : t.D} {L : List Nat}, Own t M cs x L → (∀ l ∈ L, ¬ K l) → Own t M' cs x L
  | .int _, _, _, _, h, _ => h
  | .u8, _, _, _, h, _ => h
  | .bool, _, _, _, h, _ => h
  | .str, _, _, _, h, _ => h
  | .sl t, _, _, _, h, hk => by
    rcases h with ⟨rfl, hL, h⟩ | ⟨l, o, c, blk, css, Ls, hne, h1, h2, h3, h4, h5, hL, h6, h7, rfl⟩
    · exact .inl ⟨rfl, hL, rep_emptyg hu h⟩
    · refine .inr ⟨l, o, c, blk, css, Ls, hne, h1, by rw [hu.2.1 l (hk l (by simp)) (List.getElem?_eq_some_iff.1 h2).1, h2], h3, h4, h5, hL, fun i ds x J hd hx hJ => ?_, h7, rfl⟩
      exact (h6 i ds x J hd hx hJ).updg hu (fun j hj => hk j (List.mem_cons_of_mem _ (List.mem_flatten.2 ⟨J, List.mem_of_getElem? hJ, hj⟩)))
  | .pr a b, _, x, _, h, hk => by
    obtain ⟨c1, c2, L1, L2, e, h1, h2, rfl⟩ := h
    exact ⟨c1, c2, L1, L2, e, h1.updg hu (fun l hl => hk l (List.mem_append_left _ hl)), h2.updg hu (fun l hl => hk l (List.mem_append_right _ hl)), rfl⟩
theorem l_laws_markCellS (M : Mem) (l o c : Nat) (blk : Blk) (xs : List ty_Cell.D) (us : List V) (Ls : List (List Nat)) (hb : M[l]? = some blk) (h2 : blk.st = 2)
    (hu : ∀ i (hi : i < xs.length), blk.cells[o + i]? = some (us.getD i und)) (hnd : (l :: Ls.flatten).Nodup) (hLs : Ls.length = xs.length) (k : Int) (hk : 0 < k) (hk2 : k + totC xs ≤ 4611686018427387904) (hxl : xs.length ≤ 4611686018427387904) :
    ∀ (d i : Nat) (Mi : Mem), i + d = xs.length → UpdG M Mi (· ∈ Ls.flatten) → (∀ j (hj : j < xs.length), Own (.sl ty_Byte) Mi [us.getD j und] (if j < i then mkC k xs j else xs[j]) (Ls.getD j [])) →
    ∃ M', UpdG M M' (· ∈ Ls.flatten) ∧ (∀ j (hj : j < xs.length), Own (.sl ty_Byte) M' [us.getD j und] (mkC k xs j) (Ls.getD j [])) ∧
      lp (aCall T0) K_laws_markCellS_0 L_laws_markCellS_0 [.slice (some ⟨l, o, none⟩) xs.length c, .int .i64 (k + totC (xs.take i)), und, und, und, .int .i64 i, und, und, und, und, und, und, und, und, und, und, und, und, und, und] Mi =
      lp (aCall T0) K_laws_markCellS_0 L_laws_markCellS_0 [.slice (some ⟨l, o, none⟩) xs.length c, .int .i64 (k + totC xs), und, und, und, .int .i64 xs.length, und, und, und, und, und, und, und, und, und, und, und, und, und, und] M'
  | 0, i, Mi, hi, hup, hown => by
    have e : i = xs.length := by omega
    subst e
    refine ⟨Mi, hup, fun j hj => ?_, ?_⟩
    · have := hown j hj
      rwa [if_pos hj] at this
    · rw [List.take_length]
  | d + 1, i, Mi, hi, hup, hown => by
    have hix : i < xs.length := by omega
    have hoi := hown i hix
    rw [if_neg (by omega)] at hoi
    have htk := totC_take xs i hix
    have hle := totC_le xs (i + 1)
    have hp := totC_pos (xs.take i)
    obtain ⟨M2, e2, u2, o2⟩ := d_laws_markByteS Mi (us.getD i und) xs[i] (Ls.getD i []) hoi (k + totC (xs.take i)) (by omega) (by omega)
    have hLi : Ls.getD i [] ∈ Ls := by
      rw [List.getD_eq_getElem?_getD, List.getElem?_eq_getElem (by omega)]
      exact List.getElem_mem _
    have hsub : ∀ x, x ∈ Ls.getD i [] → x ∈ Ls.flatten := fun x hx => List.mem_flatten.2 ⟨_, hLi, hx⟩
    have hnd2 := List.nodup_cons.1 hnd
    have hpw := (List.pairwise_flatten.1 hnd2.2).2
    have hdis : ∀ j, j < xs.length → j ≠ i → ∀ x ∈ Ls.getD j [], x ∉ Ls.getD i [] := by
      intro j hj hne x hx hx2
      rw [List.getD_eq_getElem?_getD, List.getElem?_eq_getElem (by omega)] at hx hx2
      simp only [Option.getD_some] at hx hx2
      rcases Nat.lt_or_ge j i with h | h
      · exact (List.pairwise_iff_getElem.1 hpw j i (by omega) (by omega) h) x hx x hx2 rfl
      · exact (List.pairwise_iff_getElem.1 hpw i j (by omega) (by omega) (by omega)) x hx2 x hx rfl
    have hup2 : UpdG M M2 (· ∈ Ls.flatten) := by
      have h3 := UpdG.trans hup u2
      exact ⟨h3.1, fun q hq hlt => h3.2.1 q (fun h => h.elim hq (fun h => hq (hsub q h))) hlt, h3.2.2⟩
    have hmk : mkC k xs i = marksY (k + totC (xs.take i)) xs[i].length := by
      unfold mkC
      rw [List.getElem?_eq_getElem hix]; rfl
    obtain ⟨M', q1, q2, q3⟩ := l_laws_markCellS M l o c blk xs us Ls hb h2 hu hnd hLs k hk hk2 hxl d (i + 1) M2 (by omega) hup2 (fun j hj => by
      by_cases e : j = i
      · subst e
        rw [if_pos (by omega), hmk]
        exact o2
      · have h4 := Own.updg u2 (hown j hj) (fun x hx => hdis j hj e x hx)
        by_cases h5 : j < i
        · rw [if_pos h5] at h4; rw [if_pos (by omega)]; exact h4
        · rw [if_neg h5] at h4; rw [if_neg (by omega)]; exact h4)
    refine ⟨M', q1, q2, ?_⟩
    rw [← q3]
    have hbi : Mi[l]? = some blk := by
      rw [hup.2.1 l hnd2.1 (List.getElem?_eq_some_iff.1 hb).1, hb]
    have hr : rd1 Mi l (o + i) = some (us.getD i und) := by
      unfold rd1
      rw [hbi]
      simp only [h2, or_true, if_true]
      exact hu i hix
    have e6 : IntKind.i64.wrap ((i : Int) + 1) = i + 1 := wrap_i64 (by omega) (by omega)
    obtain ⟨ui, hui⟩ : ∃ ui, ui = us.getD i und := ⟨_, rfl⟩
    rw [← hui] at hr e2
    rw [htk, ← Int.add_assoc]
    rw [S_laws_markCellS_0]; unfold B_laws_markCellS_0; simp [hr, e2, e6, hix]
def hs (h : Nat) (b : UInt8) : Nat := ((h ^^^ b.toNat) * 16777619) % 4294967296
theorem Rep.inj : ∀ {t : Ty} {M : Mem} {cs : List V} {x y : t.D}, Rep t M cs x → Rep t M cs y → x = y
  | .int _, _, _, _, _, h, h2 => by
    have e := h.1.symm.trans h2.1
    simpa using e
  | .u8, _, _, x, y, h, h2 => by
    have e := h.symm.trans h2
    simp [byteV] at e
    exact UInt8.toNat_inj.1 (by omega)
  | .bool, _, _, _, _, h, h2 => by
    have e := h.symm.trans h2
    simpa using e
  | .str, _, _, _, _, h, h2 => by
    have e := h.symm.trans h2
    simpa using e
  | .sl t, M, cs, x, y, h, h2 => by
    rcases h.slice with ⟨e, hx⟩ | ⟨l, o, c, e⟩
    · rcases h2.slice with ⟨e2, hy⟩ | ⟨l2, o2, c2, e2⟩
      · rw [hx, hy]
      · rw [e] at e2; simp at e2
    · rcases h2.slice with ⟨e2, hy⟩ | ⟨l2, o2, c2, e2⟩
      · rw [e] at e2; simp at e2
      · rw [e] at e2 h
        simp only [List.cons.injEq, Value.slice.injEq, Option.some.injEq, Addr.mk.injEq, and_true] at e2
        obtain ⟨⟨rfl, rfl⟩, hl, rfl⟩ := e2
        rw [e] at h2
        apply List.ext_getElem hl
        intro i h3 h4
        obtain ⟨d1, r1, q1⟩ := h.elem (i := i) (x := x[i]) (by simp [h3])
        obtain ⟨d2, r2, q2⟩ := h2.elem (i := i) (x := y[i]) (by simp [h4])
        rw [r1] at r2
        cases r2
        exact q1.inj q2
  | .pr a b, _, _, x, y, h, h2 => by
    obtain ⟨c1, c2, e, p1, p2⟩ := h
    obtain ⟨d1, d2, e2, q1, q2⟩ := h2
    rw [e] at e2
    obtain ⟨rfl, rfl⟩ := List.append_inj e2 (by rw [p1.len, q1.len])
    exact Prod.ext (p1.inj q1) (p2.inj q2)
theorem gc_mark {M M' : Mem} {K : Nat → Prop} (hu : UpdG M M' K) {t : Ty} {cs : List V} {x y : t.D} {L : List Nat} (h : Own t M cs x L) (o : Own t M' cs y L) (v : V) : ∃ M2, gc M (some (v, M')) = some (v, M2) ∧ UpdG M M2 K ∧ Own t M2 cs y L := by
  by_cases hp : M <+: M'
  · by_cases hs : scal v = true
    · refine ⟨M, ?_, pre_g (List.prefix_refl _) _, ?_⟩
      · simp only [gc]
        exact if_pos ⟨hs, hp⟩
      · have e := Rep.inj (h.rep.mono hp) o.rep
        rw [← e]
        exact h
    · exact ⟨M', by simp only [gc]; exact if_neg (fun q => hs q.1), hu, o⟩
  · exact ⟨M', by simp only [gc]; exact if_neg (fun q => hp q.2), hu, o⟩
theorem d_laws_markCellS (M : Mem) (v : V) (xs : List ty_Cell.D) (L : List Nat) (h : Own (.sl ty_Cell) M [v] xs L) (hnd : L.Nodup) (k : Int) (hk : 0 < k) (hk2 : k + totC xs ≤ 4611686018427387904) (hxl : xs.length ≤ 4611686018427387904) :
    ∃ M', aCall T0 F_laws_markCellS [v, .int .i64 k] M = some (.int .i64 (k + totC xs), M') ∧ UpdG M M' (· ∈ L) ∧ Own (.sl ty_Cell) M' [v] (marksC k xs) L := by
  have hwhole := h
  rcases h with ⟨rfl, hL, hr⟩ | ⟨l, o, c, blk, css, Ls, hne, e, hb, h2, hw, hc, hLs, hel, hp, rfl⟩
  · refine ⟨M, ?_, pre_g (List.prefix_refl _) _, .inl ⟨rfl, hL, hr⟩⟩
    obtain ⟨a, c, rfl⟩ := hr.slen
    rw [aCall_eq T_laws_markCellS]; unfold A_laws_markCellS C_laws_markCellS; simp
    rw [S_laws_markCellS_0]; unfold B_laws_markCellS_0; simp
    simp [totC]
  · simp only [List.cons.injEq, and_true] at e
    subst e
    have hone : ∀ cs ∈ css, cs.length = 1 := by
      intro cs hcs
      obtain ⟨i, hi, rfl⟩ := List.getElem_of_mem hcs
      exact (hel i css[i] (xs[i]'(by omega)) (Ls[i]'(by omega)) (by simp) (by simp) (by simp)).rep.len
    have hcsg : ∀ i (hi : i < xs.length), css[i]? = some [css.flatten.getD i und] := by
      intro i hi
      have h1 : css[i]? = some (css[i]'(by omega)) := by simp [hc, hi]
      have h3 := flat_at (w := 1) hone h1
      have h4 := hone _ (List.getElem_mem (by omega : i < css.length))
      rw [h1]
      congr 1
      rw [← h3]
      have hfl := flat_len hone
      have hlt : i < css.flatten.length := by omega
      rw [Nat.mul_one, List.getD_eq_getElem?_getD, List.getElem?_eq_getElem hlt]
      rw [List.drop_eq_getElem_cons hlt, List.take_succ_cons, List.take_zero]
      rfl
    have hu : ∀ i (hi : i < xs.length), blk.cells[o + i]? = some (css.flatten.getD i und) := by
      intro i hi
      have hfl := flat_len hone
      have hlt : i < css.flatten.length := by omega
      obtain ⟨r, hr⟩ := hp
      rw [← List.getElem?_drop, ← hr, List.getElem?_append_left hlt, List.getD_eq_getElem?_getD, List.getElem?_eq_getElem hlt]
      rfl
    obtain ⟨M', q1, q2, q3⟩ := l_laws_markCellS M l o c blk xs css.flatten Ls hb h2 hu hnd hLs k hk hk2 hxl xs.length 0 M (by omega) (pre_g (List.prefix_refl _) _) (fun j hj => by
      rw [if_neg (by omega)]
      refine hel j _ _ _ (hcsg j hj) (by simp [hj]) ?_
      rw [List.getD_eq_getElem?_getD, List.getElem?_eq_getElem (by omega)]
      rfl)
    have hnd2 := List.nodup_cons.1 hnd
    have hup : UpdG M M' (· ∈ l :: Ls.flatten) := ⟨q1.1, fun q hq hlt => q1.2.1 q (fun h => hq (List.mem_cons_of_mem _ h)) hlt, q1.2.2⟩
    have hown : Own (.sl ty_Cell) M' [.slice (some ⟨l, o, none⟩) xs.length c] (marksC k xs) (l :: Ls.flatten) := by
      refine .inr ⟨l, o, c, blk, css, Ls, ?_, by rw [marksC_len], ?_, h2, hw, by rw [marksC_len, hc], by rw [marksC_len, hLs], ?_, hp, rfl⟩
      · intro q; have := congrArg List.length q; rw [marksC_len] at this; exact hne (List.length_eq_zero_iff.1 this)
      · rw [q1.2.1 l hnd2.1 (List.getElem?_eq_some_iff.1 hb).1, hb]
      · intro i ds x K h3 h4 h5
        obtain ⟨hi, rfl⟩ := List.getElem?_eq_some_iff.1 h4
        have hi2 : i < xs.length := by rw [marksC_len] at hi; exact hi
        rw [marksC_get]
        rw [hcsg i hi2] at h3
        cases h3
        have := q2 i hi2
        rw [List.getD_eq_getElem?_getD (l := Ls), h5] at this
        exact this
    simp only [Int.natCast_zero, Int.ofNat_zero, List.take_zero, totC, Int.add_zero] at q3
    obtain ⟨M2, g2, u2, o2⟩ := gc_mark hup hwhole hown (.int .i64 (k + totC xs))
    refine ⟨M2, ?_, u2, o2⟩
    rw [aCall_eq T_laws_markCellS]; unfold A_laws_markCellS C_laws_markCellS; simp [q3]
    rw [S_laws_markCellS_0]; unfold B_laws_markCellS_0; simp [g2]
theorem own_Mem {M : Mem} {cs : List V} {x : ty_Mem.D} {L : List Nat} (h : Own ty_Mem M cs x L) : ∃ u1 u2 L1 L2, cs = [.int .i64 x.1, u1, u2] ∧ (Lit.int .i64 x.1).wf = true ∧ Own (.sl ty_Cell) M [u1] x.2.1 L1 ∧ Own (.sl ty_Touch) M [u2] x.2.2 L2 ∧ L = L1 ++ L2 := by
  obtain ⟨c1, c2, _, Lr, e, ⟨⟨rfl, hw⟩, rfl⟩, h2, rfl⟩ := h
  obtain ⟨c3, c4, L1, L2, rfl, h3, h4, rfl⟩ := h2
  have l3 := h3.rep.len
  have l4 := h4.rep.len
  match c3, c4, l3, l4, h3, h4 with
  | [u1], [u2], _, _, h3, h4 => exact ⟨u1, u2, L1, L2, e, hw, h3, h4, by simp⟩
theorem mk_Mem {M : Mem} {u1 u2 : V} {x : ty_Mem.D} {L1 L2 : List Nat} (hw : (Lit.int .i64 x.1).wf = true) (h1 : Own (.sl ty_Cell) M [u1] x.2.1 L1) (h2 : Own (.sl ty_Touch) M [u2] x.2.2 L2) : Own ty_Mem M [.int .i64 x.1, u1, u2] x (L1 ++ L2) :=
  ⟨[.int .i64 x.1], [u1, u2], [], L1 ++ L2, rfl, ⟨⟨rfl, hw⟩, rfl⟩, ⟨[u1], [u2], L1, L2, rfl, h1, h2, rfl⟩, rfl⟩
def mk_Touch (k : Int) : ty_Touch.D := (k, k + 1, k + 2)
def marks_Touch (k : Int) (n : Nat) : List ty_Touch.D := (List.range n).map fun (j : Nat) => mk_Touch (k + 3 * (j : Int))
def marksM (k : Int) (x : ty_Mem.D) : ty_Mem.D := (x.1, marksC k x.2.1, marks_Touch (k + totC x.2.1) x.2.2.length)
theorem UpdG.grow {M M1 M' : Mem} {L : Nat → Prop} (h : UpdG M1 M' L) (hp : M <+: M1) : UpdG M M' L := by
  refine ⟨Nat.le_trans hp.length_le h.1, fun l hl hlt => ?_, fun l b hb => h.2.2 l b (get_pre hp hb)⟩
  rw [h.2.1 l hl (Nat.lt_of_lt_of_le hlt hp.length_le)]
  obtain ⟨r, rfl⟩ := hp
  rw [List.getElem?_append_left hlt]
theorem own_lt : ∀ {t : Ty} {M : Mem} {cs : List V} {x : t.D} {L : List Nat}, Own t M cs x L → ∀ l ∈ L, l < M.length
  | .int _, _, _, _, _, h => by rw [h.2]; simp
  | .u8, _, _, _, _, h => by rw [h.2]; simp
  | .bool, _, _, _, _, h => by rw [h.2]; simp
  | .str, _, _, _, _, h => by rw [h.2]; simp
  | .sl t, _, _, _, _, h => by
    rcases h with ⟨_, rfl, _⟩ | ⟨l, o, c, blk, css, Ls, hne, h1, h2, h3, h4, h5, hL, h6, h7, rfl⟩
    · simp
    · intro q hq
      rcases List.mem_cons.1 hq with rfl | hq
      · exact (List.getElem?_eq_some_iff.1 h2).1
      · obtain ⟨K, hK, hqK⟩ := List.mem_flatten.1 hq
        obtain ⟨i, hi, rfl⟩ := List.getElem_of_mem hK
        exact own_lt (h6 i (css[i]'(by omega)) _ Ls[i] (by simp) (by rw [List.getElem?_eq_getElem (by omega)]) (by simp)) q hqK
  | .pr a b, _, _, x, _, h => by
    obtain ⟨c1, c2, L1, L2, _, h1, h2, rfl⟩ := h
    intro q hq
    rcases List.mem_append.1 hq with hq | hq
    · exact own_lt h1 q hq
    · exact own_lt h2 q hq
theorem marks_Touch_len (k : Int) (n : Nat) : (marks_Touch k n).length = n := by simp [marks_Touch]
theorem marks_Touch_get (k : Int) (n i : Nat) (hi : i < (marks_Touch k n).length) : (marks_Touch k n)[i] = mk_Touch (k + 3 * (i : Int)) := by simp [marks_Touch]
def mcs_Touch (k : Int) (i : Nat) : List V := ((marks_Touch k i).map enc_Touch).flatten
theorem own_Touch (M : Mem) (x : ty_Touch.D) (h0 : (Lit.int .i64 x.1).wf = true) (h1 : (Lit.int .i64 x.2.1).wf = true) (h2 : (Lit.int .i64 x.2.2).wf = true) : Own ty_Touch M (enc_Touch x) x [] := ⟨[.int .i64 x.1], [.int .i64 x.2.1, .int .i64 x.2.2], [], [], rfl, ⟨⟨rfl, h0⟩, rfl⟩, ⟨[.int .i64 x.2.1], [.int .i64 x.2.2], [], [], rfl, ⟨⟨rfl, h1⟩, rfl⟩, ⟨⟨rfl, h2⟩, rfl⟩, rfl⟩, rfl⟩
theorem ownf_Touch (M : Mem) (cs : List V) (x : ty_Touch.D) (K : List Nat) (h : Own ty_Touch M cs x K) : K = [] := by
  obtain ⟨_, _, _, _, _, ⟨_, rfl⟩, ⟨_, _, _, _, _, ⟨_, rfl⟩, ⟨_, rfl⟩, rfl⟩, rfl⟩ := h
  rfl
theorem mcs_Touch_len (k : Int) (i : Nat) : (mcs_Touch k i).length = i * 3 := by
  unfold mcs_Touch
  rw [flat_enc_len (w := 3) (fun x _ => rfl), marks_Touch_len]
theorem mcs_Touch_succ (k : Int) (i : Nat) : mcs_Touch k (i + 1) = mcs_Touch k i ++ [.int .i64 ((k + 3 * (i : Int)))] ++ [.int .i64 ((k + 3 * (i : Int)) + 1)] ++ [.int .i64 ((k + 3 * (i : Int)) + 2)] := by
  unfold mcs_Touch marks_Touch
  rw [List.range_succ]
  simp [mk_Touch]
theorem r_laws_markTouchS (M : Mem) (l o n c : Nat) (blk : Blk) (hb : M[l]? = some blk) (h2 : blk.st = 2) (k : Int) (hk : 0 < k) (hk2 : k + 3 * n ≤ 4611686018427387904) (ho : o + n * 3 ≤ blk.cells.length) (i : Nat) (hi : i < n) :
    lp (aCall T0) K_laws_markTouchS_0 L_laws_markTouchS_0 [.slice (some ⟨l, o, none⟩) n c, .int .i64 (k + 3 * (i : Int)), und, und, und, .int .i64 i, und, und, und, und, und, und, und, und, und, und, und, und, und, und, und, und, und, und, und, und, und, und, und, und, und, und, und, und] (M.set l (spB blk o (mcs_Touch k i))) =
    lp (aCall T0) K_laws_markTouchS_0 L_laws_markTouchS_0 [.slice (some ⟨l, o, none⟩) n c, .int .i64 (k + 3 * ((i + 1 : Nat) : Int)), und, und, und, .int .i64 (i + 1 : Nat), und, und, und, und, und, und, und, und, und, und, und, und, und, und, und, und, und, und, und, und, und, und, und, und, und, und, und, und] (M.set l (spB blk o (mcs_Touch k (i + 1)))) := by
  have el := mcs_Touch_len k i
  obtain ⟨q, hq⟩ : ∃ q, q = k + 3 * (i : Int) := ⟨_, rfl⟩
  have e0 := wrn_sp M l o blk hb h2 (mcs_Touch k i) (.int .i64 (q)) rfl (by rw [el]; omega)
  have e1 := wrn_sp M l o blk hb h2 (mcs_Touch k i ++ [.int .i64 (q)]) (.int .i64 (q + 1)) rfl (by simp only [List.length_append, List.length_cons, List.length_nil, el]; omega)
  have e2 := wrn_sp M l o blk hb h2 (mcs_Touch k i ++ [.int .i64 (q)] ++ [.int .i64 (q + 1)]) (.int .i64 (q + 2)) rfl (by simp only [List.length_append, List.length_cons, List.length_nil, el]; omega)
  have es := mcs_Touch_succ k i
  rw [← hq] at es
  rw [← es] at e2
  simp only [List.length_append, List.length_cons, List.length_nil, el, Nat.zero_add, Nat.add_assoc, Nat.reduceAdd, List.append_assoc, List.cons_append, List.nil_append] at e0 e1 e2
  have a1 : o + (i * 3 + 1) = o + i * 3 + 1 := by omega
  rw [a1] at e1
  have a2 : o + (i * 3 + 2) = o + i * 3 + 2 := by omega
  rw [a2] at e2
  have f6 : IntKind.i64.wrap ((i : Int) + 1) = i + 1 := wrap_i64 (by omega) (by omega)
  have g0 : IntKind.i64.wrap (q + 1) = q + 1 := by rw [wrap_i64 (by omega) (by omega)]
  have g1 : IntKind.i64.wrap (q + 1 + 1) = q + 2 := by rw [wrap_i64 (by omega) (by omega)]; omega
  have g2 : IntKind.i64.wrap (q + 2 + 1) = k + 3 * ((i : Int) + 1) := by rw [wrap_i64 (by omega) (by omega)]; omega
  rw [← hq]
  rw [S_laws_markTouchS_0]; unfold B_laws_markTouchS_0; simp [e0, e1, e2, f6, g0, g1, g2, hi]
theorem wf_range {z : Int} (h : -9223372036854775808 ≤ z ∧ z ≤ 9223372036854775807) : (Lit.int .i64 z).wf = true := by
  simp [Lit.wf, IntKind.min, IntKind.max, IntKind.signed, IntKind.bits]; omega
theorem d_laws_markTouchS (M : Mem) (v : V) (xs : List ty_Touch.D) (L : List Nat) (h : Own (.sl ty_Touch) M [v] xs L) (k : Int) (hk : 0 < k) (hk2 : k + 3 * xs.length ≤ 4611686018427387904) :
    ∃ M', aCall T0 F_laws_markTouchS [v, .int .i64 k] M = some (.int .i64 (k + 3 * xs.length), M') ∧ UpdG M M' (· ∈ L) ∧ Own (.sl ty_Touch) M' [v] (marks_Touch k xs.length) L := by
  rcases own_flat ownf_Touch h with ⟨rfl, rfl, hr⟩ | ⟨l, o, c, blk, hx, rfl, hb, h2, hw, ho, rfl⟩
  · refine ⟨M, ?_, pre_g (List.prefix_refl _) _, .inl ⟨rfl, rfl, hr⟩⟩
    obtain ⟨a, c, rfl⟩ := hr.slen
    rw [aCall_eq T_laws_markTouchS]; unfold A_laws_markTouchS C_laws_markTouchS; simp
    rw [S_laws_markTouchS_0]; unfold B_laws_markTouchS_0; simp
  · have hw2 : ty_Touch.w = 3 := rfl
    rw [hw2] at ho
    have hl := chain (g := fun i : Nat => lp (aCall T0) K_laws_markTouchS_0 L_laws_markTouchS_0 [.slice (some ⟨l, o, none⟩) xs.length c, .int .i64 (k + 3 * (i : Int)), und, und, und, .int .i64 i, und, und, und, und, und, und, und, und, und, und, und, und, und, und, und, und, und, und, und, und, und, und, und, und, und, und, und, und] (M.set l (spB blk o (mcs_Touch k i)))) (n := xs.length) fun i hi => r_laws_markTouchS M l o xs.length c blk hb h2 k hk hk2 ho i hi
    have e0 : mcs_Touch k 0 = [] := rfl
    simp only [Int.natCast_zero, Int.ofNat_zero, e0, spB_nil, set_same hb, Int.mul_zero, Int.add_zero] at hl
    have hlt := (List.getElem?_eq_some_iff.1 hb).1
    refine ⟨M.set l (spB blk o (mcs_Touch k xs.length)), ?_, Upd.g (upd_set hb rfl), ?_⟩
    · rw [aCall_eq T_laws_markTouchS]; unfold A_laws_markTouchS C_laws_markTouchS; simp [hl]
      rw [S_laws_markTouchS_0]; unfold B_laws_markTouchS_0; simp
      exact gc_len (by simp)
    · refine own_sp (blk := blk) (enc := enc_Touch) ?_ (marks_Touch_len _ _) (by simp [hlt, mcs_Touch]) h2 hw (by omega) ?_
      · intro e; have := congrArg List.length e; rw [marks_Touch_len] at this; exact hx (List.length_eq_zero_iff.1 this)
      · intro y hy
        obtain ⟨i, hi, rfl⟩ := List.getElem_of_mem hy
        rw [marks_Touch_get]
        have hi2 : i < xs.length := by rw [marks_Touch_len] at hi; exact hi
        obtain ⟨q, hq⟩ : ∃ q, q = k + 3 * (i : Int) := ⟨_, rfl⟩
        rw [← hq]
        exact own_Touch _ _ (wf_range (show -9223372036854775808 ≤ q ∧ q ≤ 9223372036854775807 by omega)) (wf_range (show -9223372036854775808 ≤ q + 1 ∧ q + 1 ≤ 9223372036854775807 by omega)) (wf_range (show -9223372036854775808 ≤ q + 2 ∧ q + 2 ≤ 9223372036854775807 by omega))
theorem d_laws_markMem (M : Mem) (u1 u2 : V) (x : ty_Mem.D) (L : List Nat) (h : Own ty_Mem M [.int .i64 x.1, u1, u2] x L) (hnd : L.Nodup) (hbd : bndM x) (k : Int) (hk : 0 < k) (hk2 : k + totM x ≤ 4611686018427387904) :
    ∃ M', aCall T0 F_laws_markMem [.agg #[.int .i64 x.1, u1, u2], .int .i64 k] M = some (.int .i64 (k + totM x), M') ∧ UpdG M M' (· ∈ L) ∧ Own ty_Mem M' [.int .i64 x.1, u1, u2] (marksM k x) L := by
  obtain ⟨b1, b2, b3, b4⟩ := hbd
  have hp : M <+: M ++ [⟨[.int .i64 x.1, u1, u2], 1, 2⟩] := List.prefix_append _ _
  obtain ⟨w1, w2, L1, L2, e, hw, o1, o2, rfl⟩ := own_Mem h
  cases e
  have hndp := List.nodup_append.1 hnd
  have tp := totC_pos x.2.1
  unfold totM at hk2
  obtain ⟨M1, s1, p1, q1⟩ := d_laws_markCellS _ u1 x.2.1 L1 (Own.grow hp o1) hndp.1 k hk (by omega) (by omega)
  have o2' := Own.updg p1 (Own.grow hp o2) (fun l hl hk => hndp.2.2 l hk l hl rfl)
  obtain ⟨M2, s2, p2, q2⟩ := d_laws_markTouchS M1 u2 x.2.2 L2 o2' (k + totC x.2.1) (by omega) (by omega)
  have q1' := Own.updg p2 q1 (fun l hl hk => hndp.2.2 l hl l hk rfl)
  have hup : UpdG M M2 (· ∈ L1 ++ L2) := by
    have h3 := UpdG.grow (UpdG.trans p1 p2) hp
    exact ⟨h3.1, fun q hq hlt => h3.2.1 q (fun h => h.elim (fun h => hq (List.mem_append_left _ h)) (fun h => hq (List.mem_append_right _ h))) hlt, h3.2.2⟩
  have hown : Own ty_Mem M2 [.int .i64 x.1, u1, u2] (marksM k x) (L1 ++ L2) := mk_Mem (x := marksM k x) hw q1' q2
  have hrd : rd1 M1 (M.length) 2 = some u2 := by
    have hbx : M1[M.length]? = some ⟨[.int .i64 x.1, u1, u2], 1, 2⟩ := by
      rw [p1.2.1 M.length (fun hin => ?_) (by simp)]
      · simp
      · rcases o1 with ⟨_, rfl, _⟩ | _
        · simp at hin
        · have := own_lt h M.length (List.mem_append_left _ hin)
          omega
    unfold rd1
    rw [hbx]
    rfl
  obtain ⟨M3, g2, u3, o3⟩ := gc_mark hup h hown (.int .i64 (k + totM x))
  refine ⟨M3, ?_, u3, o3⟩
  obtain ⟨_, _, rfl⟩ := o1.rep.slen
  obtain ⟨_, _, rfl⟩ := o2.rep.slen
  have hk3 : k + totC x.2.1 + 3 * (x.2.2.length : Int) = k + totM x := by unfold totM; omega
  rw [hk3] at s2
  rw [aCall_eq T_laws_markMem]; unfold A_laws_markMem C_laws_markMem; simp [s1, hrd, s2, g2]
theorem z_laws_markBlockS (M : Mem) (a : Option Addr) (c : Nat) (k : Int) : aCall T0 F_laws_markBlockS [.slice a 0 c, .int .i64 k] M = some (.int .i64 k, M) := by
  rw [aCall_eq T_laws_markBlockS]; unfold A_laws_markBlockS C_laws_markBlockS; simp
  rw [S_laws_markBlockS_0]; unfold B_laws_markBlockS_0; simp
theorem own_Oram {M : Mem} {cs : List V} {x : ty_Oram.D} {L : List Nat} (h : Own ty_Oram M cs x L) : ∃ u1 u2 u3 L1 L2, cs = cO x u1 u2 u3 ∧ (Lit.int .i64 x.1).wf = true ∧ (Lit.int .i64 x.2.1).wf = true ∧ (Lit.int .i64 x.2.2.1).wf = true ∧ Own ty_Mem M [.int .i64 x.2.2.2.1.1, u1, u2] x.2.2.2.1 L1 ∧ Own (.sl ty_Block) M [u3] x.2.2.2.2 L2 ∧ L = L1 ++ L2 := by
  obtain ⟨c1, c2, _, Lr, rfl, ⟨⟨rfl, hw⟩, rfl⟩, h2, rfl⟩ := h
  obtain ⟨c3, c4, _, Lr2, rfl, ⟨⟨rfl, hw2⟩, rfl⟩, h3, rfl⟩ := h2
  obtain ⟨c5, c6, _, Lr3, rfl, ⟨⟨rfl, hw3⟩, rfl⟩, h4, rfl⟩ := h3
  obtain ⟨c7, c8, L1, L2, rfl, h5, h6, rfl⟩ := h4
  obtain ⟨w1, w2, _, _, rfl, _⟩ := own_Mem h5
  have l8 := h6.rep.len
  match c8, l8, h6 with
  | [u3], _, h6 => exact ⟨w1, w2, u3, L1, L2, rfl, hw, hw2, hw3, h5, h6, by simp⟩
theorem mk_Oram {M : Mem} {u1 u2 u3 : V} {x : ty_Oram.D} {L1 L2 : List Nat} (hw : (Lit.int .i64 x.1).wf = true) (hw2 : (Lit.int .i64 x.2.1).wf = true) (hw3 : (Lit.int .i64 x.2.2.1).wf = true) (h1 : Own ty_Mem M [.int .i64 x.2.2.2.1.1, u1, u2] x.2.2.2.1 L1) (h2 : Own (.sl ty_Block) M [u3] x.2.2.2.2 L2) : Own ty_Oram M (cO x u1 u2 u3) x (L1 ++ L2) :=
  ⟨[.int .i64 x.1], _, [], L1 ++ L2, rfl, ⟨⟨rfl, hw⟩, rfl⟩, ⟨[.int .i64 x.2.1], _, [], L1 ++ L2, rfl, ⟨⟨rfl, hw2⟩, rfl⟩, ⟨[.int .i64 x.2.2.1], _, [], L1 ++ L2, rfl, ⟨⟨rfl, hw3⟩, rfl⟩, ⟨[.int .i64 x.2.2.2.1.1, u1, u2], [u3], L1, L2, rfl, h1, h2, rfl⟩, rfl⟩, rfl⟩, rfl⟩
def marksO (k : Int) (x : ty_Oram.D) : ty_Oram.D := (x.1, x.2.1, x.2.2.1, marksM k x.2.2.2.1, [])
theorem d_laws_markOram (M : Mem) (u1 u2 u3 : V) (x : ty_Oram.D) (L : List Nat) (h : Own ty_Oram M (cO x u1 u2 u3) x L) (hnd : L.Nodup) (hbd : bndO x) (k : Int) (hk : 0 < k) (hk2 : k + totO x ≤ 4611686018427387904) :
    ∃ M', aCall T0 F_laws_markOram [.agg (cO x u1 u2 u3).toArray, .int .i64 k] M = some (.int .i64 (k + totO x), M') ∧ UpdG M M' (· ∈ L) ∧ Own ty_Oram M' (cO x u1 u2 u3) (marksO k x) L := by
  obtain ⟨b1, b2⟩ := hbd
  have hp : M <+: M ++ [⟨cO x u1 u2 u3, 1, 2⟩] := List.prefix_append _ _
  obtain ⟨w1, w2, w3, L1, L2, e, hw, hw2, hw3, o1, o2, rfl⟩ := own_Oram h
  cases e
  rw [b2] at o2
  have hndp := List.nodup_append.1 hnd
  obtain ⟨M1, s1, p1, q1⟩ := d_laws_markMem _ u1 u2 x.2.2.2.1 L1 (Own.grow hp o1) hndp.1 b1 k hk hk2
  have o2' := Own.updg p1 (Own.grow hp o2) (fun l hl hk => hndp.2.2 l hk l hl rfl)
  have hup : UpdG M M1 (· ∈ L1 ++ L2) := by
    have h3 := UpdG.grow p1 hp
    exact ⟨h3.1, fun q hq hlt => h3.2.1 q (fun h => hq (List.mem_append_left _ h)) hlt, h3.2.2⟩
  have hown : Own ty_Oram M1 (cO x u1 u2 u3) (marksO k x) (L1 ++ L2) := mk_Oram (x := marksO k x) hw hw2 hw3 q1 o2'
  have hrd : rd1 M1 (M.length) 6 = some u3 := by
    have hbx : M1[M.length]? = some ⟨cO x u1 u2 u3, 1, 2⟩ := by
      rw [p1.2.1 M.length (fun hin => ?_) (by simp)]
      · simp
      · have := own_lt h M.length (List.mem_append_left _ hin)
        omega
    unfold rd1
    rw [hbx]
    rfl
  obtain ⟨M3, g2, u3', o3⟩ := gc_mark hup h hown (.int .i64 (k + totO x))
  refine ⟨M3, ?_, u3', o3⟩
  obtain ⟨_, h31, h32⟩ := rep_Mem2 o1.rep
  obtain ⟨_, _, rfl⟩ := h31.slen
  obtain ⟨_, _, rfl⟩ := h32.slen
  obtain ⟨_, _, rfl⟩ := o2.rep.slen
  have hk3 : totM x.2.2.2.1 = totO x := rfl
  rw [hk3] at s1
  simp only [List.length_nil] at *
  rw [aCall_eq T_laws_markOram]; unfold A_laws_markOram C_laws_markOram; simp [s1, hrd, z_laws_markBlockS, g2]
theorem marksY_get (k : Int) (n i : Nat) (hi : i < (marksY k n).length) : (marksY k n)[i] = mkY (k + i) := by simp [marksY]
theorem d_laws_heldByteS (M : Mem) (v : V) (k : Int) (n : Nat) (h : Rep (.sl ty_Byte) M [v] (marksY k n)) (hk : 0 < k) (hk2 : k + n ≤ 4611686018427387904) : aCall T0 F_laws_heldByteS [v, .int .i64 k] M = some (.int .i64 (k + n), M) := by
  obtain ⟨a, c, rfl⟩ := h.slen
  have hlen := marksY_len k n
  have hc := chain (g := fun i : Nat => lp (aCall T0) K_laws_heldByteS_0 L_laws_heldByteS_0 [.slice a (marksY k n).length c, .int .i64 (k + (i : Int)), und, und, und, .int .i64 i, und, und, und, und, und, und, und, und, und, und, und, und, und, und, und, und] M) (n := n) fun i hi => by
    obtain ⟨l, o, rfl, _, hf0⟩ := at_Byte h (i := i) (by omega)
    rw [marksY_get] at hf0
    have e6 : IntKind.i64.wrap ((i : Int) + 1) = i + 1 := wrap_i64 (by omega) (by omega)
    have e7 : IntKind.i64.wrap (k + (i : Int) + 1) = k + ((i : Int) + 1) := by rw [wrap_i64 (by omega) (by omega)]; omega
    have e8 := mkY_wrap (k + (i : Int)) (by omega)
    unfold byteV at hf0
    rw [hlen]
    rw [S_laws_heldByteS_0]; unfold B_laws_heldByteS_0; simp [hf0, hi, e6, e7, e8]
  simp only [Int.natCast_zero, Int.ofNat_zero, Int.add_zero] at hc
  rw [hlen] at hc ⊢
  rw [aCall_eq T_laws_heldByteS]; unfold A_laws_heldByteS C_laws_heldByteS; simp [hc]
  rw [S_laws_heldByteS_0]; unfold B_laws_heldByteS_0; simp
theorem d_laws_heldCellS (M : Mem) (v : V) (k : Int) (xs : List ty_Cell.D) (h : Rep (.sl ty_Cell) M [v] (marksC k xs)) (hk : 0 < k) (hk2 : k + totC xs ≤ 4611686018427387904) (hxl : xs.length ≤ 4611686018427387904) : aCall T0 F_laws_heldCellS [v, .int .i64 k] M = some (.int .i64 (k + totC xs), M) := by
  obtain ⟨a, c, rfl⟩ := h.slen
  have hlen := marksC_len k xs
  have hc := chain (g := fun i : Nat => lp (aCall T0) K_laws_heldCellS_0 L_laws_heldCellS_0 [.slice a (marksC k xs).length c, .int .i64 (k + totC (xs.take i)), und, und, und, .int .i64 i, und, und, und, und, und, und, und, und, und, und, und, und, und, und, und, und] M) (n := xs.length) fun i hi => by
    obtain ⟨l, o, u, rfl, hrd, _, hr1⟩ := at_Cell h (i := i) (by omega)
    rw [marksC_get] at hr1
    have htk := totC_take xs i hi
    have hle := totC_le xs (i + 1)
    have hp := totC_pos (xs.take i)
    have hmk : mkC k xs i = marksY (k + totC (xs.take i)) xs[i].length := by
      unfold mkC
      rw [List.getElem?_eq_getElem hi]; rfl
    rw [hmk] at hr1
    have e2 := d_laws_heldByteS M u (k + totC (xs.take i)) xs[i].length hr1 (by omega) (by omega)
    have e6 : IntKind.i64.wrap ((i : Int) + 1) = i + 1 := wrap_i64 (by omega) (by omega)
    have e7 : ¬ (k + totC (xs.take i) + (xs[i].length : Int) < 0) := by omega
    rw [hlen, htk, ← Int.add_assoc]
    rw [S_laws_heldCellS_0]; unfold B_laws_heldCellS_0; simp [hrd, hi, e2, e6, e7]
  simp only [Int.natCast_zero, Int.ofNat_zero, List.take_zero, totC, Int.add_zero, List.take_length] at hc
  rw [hlen] at hc ⊢
  rw [aCall_eq T_laws_heldCellS]; unfold A_laws_heldCellS C_laws_heldCellS; simp [hc]
  rw [S_laws_heldCellS_0]; unfold B_laws_heldCellS_0; simp
theorem at_Touch {M : Mem} {a : Option Addr} {n c : Nat} {xs : List ty_Touch.D} (h : Rep (.sl ty_Touch) M [.slice a n c] xs) {i : Nat} (hi : i < xs.length) : ∃ l o, a = some ⟨l, o, none⟩ ∧ Rep ty_Touch M (enc_Touch xs[i]) xs[i] ∧ rdn M l (o + i * 3) 3 = some (enc_Touch xs[i]) ∧ rd1 M l (o + i * 3) = some (.int .i64 xs[i].1) ∧ rd1 M l (o + i * 3 + 1) = some (.int .i64 xs[i].2.1) ∧ rd1 M l (o + i * 3 + 2) = some (.int .i64 xs[i].2.2) := by
  obtain ⟨_, l, o, rfl, cs, hrd, hrep⟩ := rep_at h hi
  have hcs := rep_Touch hrep
  subst hcs
  have hw : ty_Touch.w = 3 := rfl
  rw [hw] at hrd
  exact ⟨l, o, rfl, hrep, hrd, rd1_of_rdn hrd (k := 0) rfl, rd1_of_rdn hrd (k := 1) rfl, rd1_of_rdn hrd (k := 2) rfl⟩
theorem d_laws_heldTouchS (M : Mem) (v : V) (k : Int) (n : Nat) (h : Rep (.sl ty_Touch) M [v] (marks_Touch k n)) (hk : 0 < k) (hk2 : k + 3 * n ≤ 4611686018427387904) : aCall T0 F_laws_heldTouchS [v, .int .i64 k] M = some (.int .i64 (k + 3 * n), M) := by
  obtain ⟨a, c, rfl⟩ := h.slen
  have hlen := marks_Touch_len k n
  have hc := chain (g := fun i : Nat => lp (aCall T0) K_laws_heldTouchS_0 L_laws_heldTouchS_0 [.slice a (marks_Touch k n).length c, .int .i64 (k + 3 * (i : Int)), und, und, und, .int .i64 i, und, und, und, und, und, und, und, und, und, und, und, und, und, und, und, und, und, und, und, und, und, und, und, und, und, und, und, und, und, und, und, und, und, und] M) (n := n) fun i hi => by
    obtain ⟨l, o, rfl, _, _, hf0, hf1, hf2⟩ := at_Touch h (i := i) (by omega)
    rw [marks_Touch_get] at hf0 hf1 hf2
    obtain ⟨q, hq⟩ : ∃ q, q = k + 3 * (i : Int) := ⟨_, rfl⟩
    rw [← hq] at hf0 hf1 hf2 ⊢
    have c0 : (mk_Touch q).1 = q := rfl
    rw [c0] at hf0
    have c1 : (mk_Touch q).2.1 = q + 1 := rfl
    rw [c1] at hf1
    have c2 : (mk_Touch q).2.2 = q + 2 := rfl
    rw [c2] at hf2
    have f6 : IntKind.i64.wrap ((i : Int) + 1) = i + 1 := wrap_i64 (by omega) (by omega)
    have g0 : IntKind.i64.wrap (q + 1) = q + 1 := by rw [wrap_i64 (by omega) (by omega)]
    have g1 : IntKind.i64.wrap (q + 1 + 1) = q + 2 := by rw [wrap_i64 (by omega) (by omega)]; omega
    have g2 : IntKind.i64.wrap (q + 2 + 1) = k + 3 * ((i : Int) + 1) := by rw [wrap_i64 (by omega) (by omega)]; omega
    rw [hlen]
    rw [S_laws_heldTouchS_0]; unfold B_laws_heldTouchS_0; simp [hf0, hf1, hf2, hi, f6, g0, g1, g2]
  simp only [Int.natCast_zero, Int.ofNat_zero, Int.mul_zero, Int.add_zero] at hc
  rw [hlen] at hc ⊢
  rw [aCall_eq T_laws_heldTouchS]; unfold A_laws_heldTouchS C_laws_heldTouchS; simp [hc]
  rw [S_laws_heldTouchS_0]; unfold B_laws_heldTouchS_0; simp
theorem d_laws_heldMem (M : Mem) (u1 u2 : V) (z : Int) (k : Int) (x : ty_Mem.D) (h : Rep ty_Mem M [.int .i64 z, u1, u2] (marksM k x)) (hbd : bndM x) (hk : 0 < k) (hk2 : k + totM x ≤ 4611686018427387904) : aCall T0 F_laws_heldMem [.agg #[.int .i64 z, u1, u2], .int .i64 k] M = some (.int .i64 (k + totM x), M) := by
  obtain ⟨b1, b2, b3, b4⟩ := hbd
  have hp : M <+: M ++ [⟨[.int .i64 z, u1, u2], 1, 2⟩] := List.prefix_append _ _
  obtain ⟨_, h3, h4⟩ := rep_Mem2 h
  have tp := totC_pos x.2.1
  unfold totM at hk2
  have e1 := d_laws_heldCellS _ u1 k x.2.1 (h3.mono hp) hk (by omega) (by omega)
  have e2 := d_laws_heldTouchS _ u2 (k + totC x.2.1) x.2.2.length (h4.mono hp) (by omega) (by omega)
  have hk3 : k + totC x.2.1 + 3 * (x.2.2.length : Int) = k + totM x := by unfold totM; omega
  rw [hk3] at e2
  obtain ⟨_, _, rfl⟩ := h3.slen
  obtain ⟨_, _, rfl⟩ := h4.slen
  have n1 : ¬ (k + totC x.2.1 < 0) := by omega
  have n2 : ¬ (k + totM x < 0) := by unfold totM; omega
  rw [aCall_eq T_laws_heldMem]; unfold A_laws_heldMem C_laws_heldMem; simp [e1, e2, n1, n2]
theorem z_laws_heldBlockS (M : Mem) (a : Option Addr) (c : Nat) (k : Int) : aCall T0 F_laws_heldBlockS [.slice a 0 c, .int .i64 k] M = some (.int .i64 k, M) := by
  rw [aCall_eq T_laws_heldBlockS]; unfold A_laws_heldBlockS C_laws_heldBlockS; simp
  rw [S_laws_heldBlockS_0]; unfold B_laws_heldBlockS_0; simp
theorem d_laws_heldOram (M : Mem) (u1 u2 u3 : V) (z1 z2 z3 z4 : Int) (k : Int) (x : ty_Oram.D) (h : Rep ty_Oram M [.int .i64 z1, .int .i64 z2, .int .i64 z3, .int .i64 z4, u1, u2, u3] (marksO k x)) (hbd : bndO x) (hk : 0 < k) (hk2 : k + totO x ≤ 4611686018427387904) : aCall T0 F_laws_heldOram [.agg #[.int .i64 z1, .int .i64 z2, .int .i64 z3, .int .i64 z4, u1, u2, u3], .int .i64 k] M = some (.int .i64 (k + totO x), M) := by
  have hp : M <+: M ++ [⟨[.int .i64 z1, .int .i64 z2, .int .i64 z3, .int .i64 z4, u1, u2, u3], 1, 2⟩] := List.prefix_append _ _
  obtain ⟨⟨_, _, _, e4⟩, h3, h4⟩ := rep_Oram h
  have h3' : Rep ty_Mem M [.int .i64 z4, u1, u2] (marksM k x.2.2.2.1) := by rw [e4]; exact h3
  have e := d_laws_heldMem _ u1 u2 z4 k x.2.2.2.1 (h3'.mono hp) hbd.1 hk hk2
  have tp := bndO_tot hbd
  have hk3 : totM x.2.2.2.1 = totO x := rfl
  rw [hk3] at e
  have n1 : ¬ (k + totO x < 0) := by omega
  obtain ⟨_, h31, h32⟩ := rep_Mem2 h3
  obtain ⟨_, _, rfl⟩ := h31.slen
  obtain ⟨_, _, rfl⟩ := h32.slen
  have hl0 : (marksO k x).2.2.2.2.length = 0 := rfl
  obtain ⟨a8, c8, e8⟩ := h4.slen
  rw [hl0] at e8
  subst e8
  rw [aCall_eq T_laws_heldOram]; unfold A_laws_heldOram C_laws_heldOram; simp [e, n1, z_laws_heldBlockS]
def memX (n sz : Nat) : ty_Mem.D := ((sz : Int), List.replicate n (List.replicate sz (0 : UInt8)), [])
def oramB (l w b : Int) : Bool := decide (0 ≤ l) && decide (l ≤ 6) && (decide (1 ≤ w) && decide (w ≤ 200)) && (decide (0 ≤ b) && decide (b ≤ 64))
def oramX (l w b : Int) : ty_Oram.D := if oramB l w b = true then (l, w, b, memX (2 * 2 ^ l.toNat - 1) (4 * (w.toNat + 3)), []) else (0, 0, 0, (0, [], []), [])
theorem totC_rep (n m : Nat) : totC (List.replicate n (List.replicate m (0 : UInt8))) = (n : Int) * m := by
  induction n with
  | zero => simp [totC]
  | succ n ih =>
    rw [List.replicate_succ, totC, ih, List.length_replicate]
    simp [Int.add_mul]
    omega
theorem memX_bnd {n m : Nat} (hn : n ≤ 128) (hm : m ≤ 1000) : bndM (memX n m) := by
  refine ⟨by simp [memX]; omega, fun c hc => ?_, ?_, by simp [memX]⟩
  · simp only [memX] at hc
    rw [List.eq_of_mem_replicate hc]
    simp; omega
  · simp only [memX]
    rw [totC_rep]
    have : (n : Int) * m ≤ 128 * 1000 := by
      have h1 : (n : Int) * m ≤ 128 * m := Int.mul_le_mul_of_nonneg_right (by omega) (by omega)
      omega
    omega
theorem tree_le {m : Nat} (h : m ≤ 6) : 2 * 2 ^ m - 1 ≤ 127 := by
  have := Nat.pow_le_pow_right (show 0 < 2 by omega) h
  omega
theorem oramX_bnd (l w b : Int) : bndO (oramX l w b) := by
  unfold oramX
  split
  · rename_i h
    simp only [oramB, Bool.and_eq_true, decide_eq_true_eq] at h
    have := tree_le (show l.toNat ≤ 6 by omega)
    exact ⟨memX_bnd (by omega) (by omega), rfl⟩
  · exact ⟨⟨by simp, by simp, by simp [totC], by simp⟩, rfl⟩
theorem c_impl_within (M : Mem) (x a b : Int) : aCall T0 F_impl_within [.int .i64 x, .int .i64 a, .int .i64 b] M = some (.bool (decide (a ≤ x) && decide (x ≤ b)), M) := by
  rw [aCall_eq T_impl_within]; unfold A_impl_within C_impl_within; simp
  repeat' ((first | rw [selO_some] | rw [condR_bool] | rw [selD_some]); split <;> rename_i hq <;> (have hq2 := hq) <;> (try simp at hq2) <;> (try simp [*]))
theorem c_impl_isLog (M : Mem) (x : Int) : aCall T0 F_impl_isLog [.int .i64 x] M = some (.bool (decide (0 ≤ x) && decide (x ≤ 6)), M) := by
  rw [aCall_eq T_impl_isLog]; unfold A_impl_isLog C_impl_isLog; simp [c_impl_within]
theorem pre_set {M0 M : Mem} {l : Nat} {b : Blk} (h : M0 <+: M) (hl : M0.length ≤ l) : M0 <+: M.set l b := by
  obtain ⟨r, rfl⟩ := h
  rw [set_app hl]
  exact List.prefix_append _ _
theorem box_set {M : Mem} {l : Nat} {cs ds : List V} (hb : M[l]? = some ⟨cs, 1, 2⟩) (hl : ds.length = cs.length) (h1 : ds.all one = true) : wrn M l 0 ds = some (M.set l ⟨ds, 1, 2⟩) := by
  unfold wrn
  rw [hb]
  simp only
  rw [if_pos ⟨trivial, by omega, h1⟩]
  congr 2
  unfold splice
  simp [hl]
theorem box_get {M : Mem} {l n : Nat} {cs ds : List V} (hb : M[l]? = some ⟨cs, 1, 2⟩) (hn : n = ds.length) : rdn (M.set l ⟨ds, 1, 2⟩) l 0 n = some ds := by
  have hlt := (List.getElem?_eq_some_iff.1 hb).1
  exact rdn_box (by simp [hlt]) hn
theorem own_zeroM (M : Mem) : Own ty_Mem M [.int .i64 0, .slice none 0 0, .slice none 0 0] ((0 : Int), ([] : List (List UInt8)), ([] : List ty_Touch.D)) [] :=
  mk_Mem (x := ((0 : Int), ([] : List (List UInt8)), ([] : List ty_Touch.D))) (L1 := []) (L2 := []) (wf_range (show -9223372036854775808 ≤ (0 : Int) ∧ (0 : Int) ≤ 9223372036854775807 by omega)) (.inl ⟨rfl, rfl, .inl ⟨rfl, rfl⟩⟩) (.inl ⟨rfl, rfl, .inl ⟨rfl, rfl⟩⟩)
theorem own_zeroO (M : Mem) : Own ty_Oram M [.int .i64 0, .int .i64 0, .int .i64 0, .int .i64 0, .slice none 0 0, .slice none 0 0, .slice none 0 0] ((0 : Int), (0 : Int), (0 : Int), ((0 : Int), ([] : List (List UInt8)), ([] : List ty_Touch.D)), ([] : List ty_Block.D)) [] :=
  have w0 : (Lit.int .i64 0).wf = true := wf_range (show -9223372036854775808 ≤ (0 : Int) ∧ (0 : Int) ≤ 9223372036854775807 by omega)
  mk_Oram (x := ((0 : Int), (0 : Int), (0 : Int), ((0 : Int), ([] : List (List UInt8)), ([] : List ty_Touch.D)), ([] : List ty_Block.D))) (L1 := []) (L2 := []) w0 w0 w0 (own_zeroM M) (.inl ⟨rfl, rfl, .inl ⟨rfl, rfl⟩⟩)
abbrev zO : List V := [.int .i64 0, .int .i64 0, .int .i64 0, .int .i64 0, .slice none 0 0, .slice none 0 0, .slice none 0 0]
def OutR (K : Nat) (M : Mem) (v : V) (cs : List V) : Prop := (v = .slice none 0 0 ∧ cs = []) ∨ ∃ l, K ≤ l ∧ v = .slice (some ⟨l, 0, none⟩) cs.length cs.length ∧ M[l]? = some ⟨cs, 1, 2⟩
def NM (K b sz : Nat) (M : Mem) (v : V) (ds : List Nat) : Prop := OutR K M v (ds.map fun d => .slice (some ⟨d, 0, none⟩) sz sz) ∧ M[b]? = some ⟨[.int .i64 sz, v, .slice none 0 0], 1, 2⟩ ∧ ds.Nodup ∧
  (∀ d ∈ ds, K ≤ d ∧ d ≠ b ∧ d ∉ wfs v ∧ M[d]? = some ⟨zc (.int .u8 0) sz, 1, 2⟩) ∧ b ∉ wfs v ∧ K ≤ b
theorem agree_pre {M0 M M' : Mem} {w : List Nat} (h : Agree M M' w) (hp : M0 <+: M) (hw : ∀ b ∈ w, M0.length ≤ b) : M0 <+: M' := by
  rw [List.prefix_iff_eq_take]
  have hl : M0.length ≤ M'.length := Nat.le_trans hp.length_le h.1
  apply List.ext_getElem?
  intro i
  rw [List.getElem?_take]
  split
  · rename_i hi
    rw [h.2 i (Nat.lt_of_lt_of_le hi hp.length_le) (fun hin => by have := hw i hin; omega)]
    obtain ⟨r, rfl⟩ := hp
    rw [List.getElem?_append_left hi]
  · rename_i hi
    rw [List.getElem?_eq_none (by omega)]
theorem out_ge {K : Nat} {M : Mem} {v : V} {cs : List V} (h : OutR K M v cs) : ∀ b ∈ wfs v, K ≤ b := by
  rcases h with ⟨rfl, rfl⟩ | ⟨l, hl, rfl, hb⟩
  · intro b hb; simp [wfs] at hb
  · intro b hb; simp [wfs] at hb; omega
theorem out_lt {K : Nat} {M : Mem} {v : V} {cs : List V} (h : OutR K M v cs) : ∀ b ∈ wfs v, b < M.length := by
  rcases h with ⟨rfl, rfl⟩ | ⟨l, hl, rfl, hb⟩
  · intro b hb; simp [wfs] at hb
  · intro b hb2; simp [wfs] at hb2; subst hb2; exact (List.getElem?_eq_some_iff.1 hb).1
theorem app_outb {K b : Nat} {M : Mem} {v : V} {cs ys : List V} {m : Nat} (h : OutR K M v cs) (hm : ys.length = m) (h0 : 0 < m) (h1 : ys.all one = true) (hs : (cs.length + m) * b ≤ 140737488355328) (hs2 : cs.length + m ≤ 140737488355328) :
    ∃ M', appS M 1 b v m ys = some (.slice (some ⟨M.length, 0, none⟩) (cs.length + m) (cs.length + m), M') ∧ Agree M M' (wfs v) ∧ M'.length = M.length + 1 ∧ M'[M.length]? = some ⟨cs ++ ys, 1, 2⟩ := by
  rcases h with ⟨rfl, rfl⟩ | ⟨l, hl, rfl, hb⟩
  · refine ⟨M ++ [⟨ys, 1, 2⟩], ?_, ⟨by simp, fun b hb _ => by rw [List.getElem?_append_left hb]⟩, by simp, by simp⟩
    simp only [List.length_nil, Nat.zero_add] at hs hs2
    unfold appS
    simp only
    rw [if_neg (by omega), if_pos ⟨by omega, by omega, h1⟩]
    simp
  · have e := app_full (M := M) (w := 1) (bytes := b) (l := l) (n := cs.length) (cs := cs) (ys := ys) (m := m) hb (by omega) h0 h1 hs (by omega)
    have hlt := (List.getElem?_eq_some_iff.1 hb).1
    refine ⟨_, e, ⟨by simp, fun b hb hn => ?_⟩, by simp, ?_⟩
    · have hne : b ≠ l := fun e => hn (by simp [wfs, e])
      rw [List.getElem?_append_left (by simpa using hb), List.getElem?_set_ne (fun e => hne e.symm)]
    · rw [List.getElem?_append_right (by simp)]
      simp
theorem nm_step {K b sz : Nat} {M0 M : Mem} {v : V} {ds : List Nat} (hK : K = M0.length) (hM : M0 <+: M) (h : NM K b sz M v ds) (hd : ds.length ≤ 1000) :
    ∃ A1 A2, appS (M ++ [⟨zc (.int .u8 0) sz, 1, 2⟩, ⟨[.slice (some ⟨M.length, 0, none⟩) sz sz], 1, 2⟩]) 1 24 v 1 [.slice (some ⟨M.length, 0, none⟩) sz sz] = some (.slice (some ⟨M.length + 2, 0, none⟩) (ds.length + 1) (ds.length + 1), A1) ∧
      Agree (M ++ [⟨zc (.int .u8 0) sz, 1, 2⟩, ⟨[.slice (some ⟨M.length, 0, none⟩) sz sz], 1, 2⟩]) A1 (wfs v) ∧ wrn A1 b 1 [.slice (some ⟨M.length + 2, 0, none⟩) (ds.length + 1) (ds.length + 1)] = some A2 ∧
      M0 <+: A2 ∧ NM K b sz A2 (.slice (some ⟨M.length + 2, 0, none⟩) (ds.length + 1) (ds.length + 1)) (ds ++ [M.length]) := by
  obtain ⟨h1, h2, h3, h4, h5, h6⟩ := h
  obtain ⟨A, hA⟩ : ∃ A, A = M ++ [(⟨zc (.int .u8 0) sz, 1, 2⟩ : Blk), ⟨[.slice (some ⟨M.length, 0, none⟩) sz sz], 1, 2⟩] := ⟨_, rfl⟩
  have hAl : A.length = M.length + 2 := by rw [hA]; simp
  have hMA : M <+: A := by rw [hA]; exact List.prefix_append _ _
  have hbl := (List.getElem?_eq_some_iff.1 h2).1
  have hvA : OutR K A v (ds.map fun d => .slice (some ⟨d, 0, none⟩) sz sz) := by
    rcases h1 with h1 | ⟨l, q1, q2, q3⟩
    · exact .inl h1
    · exact .inr ⟨l, q1, q2, get_pre hMA q3⟩
  obtain ⟨A1, a1, a2, a3, a4⟩ := app_outb (b := 24) hvA (ys := [.slice (some ⟨M.length, 0, none⟩) sz sz]) (m := 1) rfl (by omega) rfl (by simp; omega) (by simp; omega)
  simp only [List.length_map, hAl] at a1 a3 a4
  have hv := out_lt h1
  have hbA1 : A1[b]? = some ⟨[.int .i64 sz, v, .slice none 0 0], 1, 2⟩ := by rw [a2.2 b (by omega) h5]; exact get_pre hMA h2
  refine ⟨A1, A1.set b ⟨[.int .i64 sz, .slice (some ⟨M.length + 2, 0, none⟩) (ds.length + 1) (ds.length + 1), .slice none 0 0], 1, 2⟩, ?_, ?_, ?_, ?_, ?_, ?_, ?_, ?_, ?_, ?_⟩
  · rw [← hA]; exact a1
  · rw [← hA]; exact a2
  · unfold wrn
    rw [hbA1]
    simp only
    rw [if_pos ⟨trivial, by simp, rfl⟩]
    simp [splice]
  · refine pre_set (agree_pre a2 (hM.trans hMA) (fun q hq => ?_)) (by omega)
    have := out_ge h1 q hq
    omega
  · refine .inr ⟨M.length + 2, ?_, by simp, ?_⟩
    · have := hM.length_le; omega
    · rw [List.getElem?_set_ne (by omega), a4]
      simp
  · have := (List.getElem?_eq_some_iff.1 hbA1).1
    simp [this]
  · rw [List.nodup_append]
    refine ⟨h3, by simp, fun x hx y hy => ?_⟩
    simp at hy
    subst hy
    have := (List.getElem?_eq_some_iff.1 (h4 x hx).2.2.2).1
    omega
  · intro d hd2
    rcases List.mem_append.1 hd2 with hd2 | hd2
    · obtain ⟨q1, q2, q3, q4⟩ := h4 d hd2
      have hdl := (List.getElem?_eq_some_iff.1 q4).1
      refine ⟨q1, q2, by simp [wfs]; omega, ?_⟩
      rw [List.getElem?_set_ne (fun e => q2 e.symm), a2.2 d (by omega) q3]
      exact get_pre hMA q4
    · simp at hd2
      subst hd2
      have hlt := hM.length_le
      refine ⟨by omega, by omega, by simp [wfs], ?_⟩
      rw [List.getElem?_set_ne (by omega), a2.2 M.length (by omega) (fun hin => by have := hv _ hin; omega), hA]
      simp
  · simp [wfs]; omega
  · exact h6
theorem r_impl_newMem (K b sz : Nat) (M0 M : Mem) (v : V) (ds : List Nat) (hK : K = M0.length) (hM : M0 <+: M) (h : NM K b sz M v ds) (t4 : V) (n i : Nat) (hi : i < n) (hn : n ≤ 128) (hd : ds.length = i) (hsz : sz ≤ 1000) :
    ∃ M', M0 <+: M' ∧ NM K b sz M' (.slice (some ⟨M.length + 2, 0, none⟩) (i + 1) (i + 1)) (ds ++ [M.length]) ∧
      lp (aCall T0) K_impl_newMem_0 L_impl_newMem_0 [und, .int .i64 sz, und, und, t4, .pointer (some ⟨b, 0, none⟩), und, und, .int .i64 n, .int .i64 i, und, und, und, und, und, und, und, und, und, und, und] M =
      lp (aCall T0) K_impl_newMem_0 L_impl_newMem_0 [und, .int .i64 sz, und, und, t4, .pointer (some ⟨b, 0, none⟩), und, und, .int .i64 n, .int .i64 (i + 1 : Nat), und, und, und, und, und, und, und, und, und, und, und] M' := by
  obtain ⟨A1, A2, a1, a2, a3, a4, a5⟩ := nm_step hK hM h (by omega)
  rw [hd] at a1 a3 a5
  refine ⟨A2, a4, a5, ?_⟩
  obtain ⟨h1, h2, h3, h4, h5, h6⟩ := h
  have rb : rd1 M b 1 = some v := by unfold rd1; rw [h2]; rfl
  have e6 : IntKind.i64.wrap ((i : Int) + 1) = i + 1 := wrap_i64 (by omega) (by omega)
  have b1 : (sz : Int) ≤ 281474976710656 := by omega
  have b2 : (sz : Int) ≤ 9223372036854775807 := by omega
  have hh : hits (wfs v) [b] = false := by
    unfold hits
    rw [List.any_eq_false]
    intro q hq
    have : q ≠ b := fun e => h5 (by rw [← e]; exact hq)
    simp [this]
  have p1 : M ++ [(⟨zc (.int .u8 0) sz, 1, 2⟩ : Blk)] <+: M ++ [⟨zc (.int .u8 0) sz, 1, 2⟩, ⟨[.slice (some ⟨M.length, 0, none⟩) sz sz], 1, 2⟩] := ⟨[⟨[.slice (some ⟨M.length, 0, none⟩) sz sz], 1, 2⟩], by simp⟩
  have s1 : sliceCells (M ++ [⟨zc (.int .u8 0) sz, 1, 2⟩, ⟨[.slice (some ⟨M.length, 0, none⟩) sz sz], 1, 2⟩]) 1 (.slice (some ⟨M.length + 1, 0, none⟩) 1 1) = some (1, [.slice (some ⟨M.length, 0, none⟩) sz sz]) := by
    simp [sliceCells]
  obtain ⟨B, hB⟩ : ∃ B, B = M ++ [(⟨zc (.int .u8 0) sz, 1, 2⟩ : Blk), ⟨[.slice (some ⟨M.length, 0, none⟩) sz sz], 1, 2⟩] := ⟨_, rfl⟩
  rw [← hB] at a1 a2 s1 p1
  have hBm := hB.symm
  rw [S_impl_newMem_0]; unfold B_impl_newMem_0; simp [hi, e6, rb, b1, b2, p1, thenD_pre, hBm, s1, a1, thenD_agree, a2, hh, a3]
theorem l_impl_newMem (K b sz : Nat) (M0 : Mem) (hK : K = M0.length) (t4 : V) (n : Nat) (hn : n ≤ 128) (hsz : sz ≤ 1000) : ∀ (k i : Nat) (M : Mem) (v : V) (ds : List Nat), i + k = n → ds.length = i → M0 <+: M → NM K b sz M v ds →
    ∃ M' v' ds', ds'.length = n ∧ M0 <+: M' ∧ NM K b sz M' v' ds' ∧ lp (aCall T0) K_impl_newMem_0 L_impl_newMem_0 [und, .int .i64 sz, und, und, t4, .pointer (some ⟨b, 0, none⟩), und, und, .int .i64 n, .int .i64 i, und, und, und, und, und, und, und, und, und, und, und] M = lp (aCall T0) K_impl_newMem_0 L_impl_newMem_0 [und, .int .i64 sz, und, und, t4, .pointer (some ⟨b, 0, none⟩), und, und, .int .i64 n, .int .i64 n, und, und, und, und, und, und, und, und, und, und, und] M'
  | 0, i, M, v, ds, hi, hd, hM, h => by
    have e : i = n := by omega
    subst e
    exact ⟨M, v, ds, hd, hM, h, rfl⟩
  | k + 1, i, M, v, ds, hi, hd, hM, h => by
    obtain ⟨M', q1, q2, q3⟩ := r_impl_newMem K b sz M0 M v ds hK hM h t4 n i (by omega) hn hd hsz
    rw [q3]
    exact l_impl_newMem K b sz M0 hK t4 n hn hsz k (i + 1) M' _ _ (by omega) (by simp [hd]) q1 q2
theorem own_blk {t : Ty} {M : Mem} {l c : Nat} {enc : t.D → List V} {ys : List t.D} (hb : M[l]? = some ⟨(ys.map enc).flatten, t.w, 2⟩) (he : ∀ y ∈ ys, Own t M (enc y) y []) : ∃ L, Own (.sl t) M [.slice (some ⟨l, 0, none⟩) ys.length c] ys L ∧ ∀ j ∈ L, j = l := by
  by_cases hy : ys = []
  · subst hy
    exact ⟨[], .inl ⟨rfl, rfl, .inr ⟨l, 0, c, _, [], rfl, hb, .inr (.inr rfl), rfl, rfl, fun i ds x hd => by simp at hd, by simp⟩⟩, by simp⟩
  · exact ⟨[l], .inr ⟨l, 0, c, _, ys.map enc, ys.map (fun _ => []), hy, rfl, hb, rfl, rfl, by simp, by simp, own_encs he, by simp, by rw [nils_flat]⟩, by simp⟩
theorem flat_Byte (xs : List ty_Byte.D) : (xs.map enc_Byte).flatten = xs.map byteV := by
  induction xs with
  | nil => rfl
  | cons x xs ih => simp [ih]
theorem own_zero {M : Mem} {d sz : Nat} (hb : M[d]? = some ⟨zc (.int .u8 0) sz, 1, 2⟩) (h0 : 0 < sz) : Own (.sl ty_Byte) M [.slice (some ⟨d, 0, none⟩) sz sz] (List.replicate sz (0 : UInt8)) [d] := by
  obtain ⟨L, o1, o2⟩ := own_blk (t := ty_Byte) (M := M) (l := d) (c := sz) (enc := enc_Byte) (ys := List.replicate sz (0 : UInt8)) (by rw [flat_Byte, map_byte_rep]; exact hb) (fun y _ => own_Byte _ y)
  rw [List.length_replicate] at o1
  rcases own_flat ownf_Byte o1 with ⟨h1, _, _⟩ | ⟨l, o, c, blk, _, e, _, _, _, _, rfl⟩
  · have := congrArg List.length h1
    simp at this
    omega
  · simp at e
    obtain ⟨⟨rfl, _⟩, _⟩ := e
    exact o1
theorem flat_one {α β : Type} (f : α → β) : ∀ ds : List α, (ds.map fun d => [f d]).flatten = ds.map f
  | [] => rfl
  | d :: ds => by simp [flat_one f ds]
theorem nm_own {K b sz : Nat} {M : Mem} {v : V} {ds : List Nat} (h : NM K b sz M v ds) (h0 : 0 < sz) : ∃ L, Own (.sl ty_Cell) M [v] (List.replicate ds.length (List.replicate sz (0 : UInt8))) L ∧ L.Nodup ∧ ∀ l ∈ L, K ≤ l ∧ l < M.length := by
  obtain ⟨h1, h2, h3, h4, h5, h6⟩ := h
  have hds : ∀ d ∈ ds, d < M.length := fun d hd => (List.getElem?_eq_some_iff.1 (h4 d hd).2.2.2).1
  rcases h1 with ⟨rfl, hc⟩ | ⟨l, q1, rfl, q3⟩
  · have : ds = [] := by simpa using hc
    subst this
    exact ⟨[], .inl ⟨rfl, rfl, .inl ⟨rfl, rfl⟩⟩, by simp, by simp⟩
  · have hl := (List.getElem?_eq_some_iff.1 q3).1
    rw [List.length_map] at h2 h4 h5 ⊢
    by_cases hd0 : ds = []
    · subst hd0
      exact ⟨[], .inl ⟨rfl, rfl, .inr ⟨l, 0, _, _, [], rfl, q3, .inr (.inr rfl), rfl, rfl, fun i ds x hd => by simp at hd, by simp⟩⟩, by simp, by simp⟩
    · have hln : l ∉ ds := fun hin => (h4 l hin).2.2.1 (by simp [wfs])
      refine ⟨l :: ds, .inr ⟨l, 0, ds.length, _, ds.map (fun d => [.slice (some ⟨d, 0, none⟩) sz sz]), ds.map (fun d => [d]), ?_, by simp, q3, rfl, rfl, by simp, by simp, ?_, ?_, ?_⟩, List.nodup_cons.2 ⟨hln, h3⟩, ?_⟩
      · intro e
        have := congrArg List.length e
        simp at this
        exact hd0 this
      · intro i cs x J e1 e2 e3
        rw [List.getElem?_map] at e1 e3
        obtain ⟨hi, e4⟩ := List.getElem?_eq_some_iff.1 e2
        simp at hi
        rw [List.getElem_replicate] at e4
        subst e4
        rw [List.getElem?_eq_getElem hi] at e1 e3
        simp only [Option.map_some, Option.some.injEq] at e1 e3
        subst e1; subst e3
        exact own_zero (h4 _ (List.getElem_mem hi)).2.2.2 h0
      · rw [flat_one]
        simp
      · rw [flat_one (fun d => d)]
        simp
      · intro q hq
        rcases List.mem_cons.1 hq with rfl | hq
        · exact ⟨q1, hl⟩
        · exact ⟨(h4 q hq).1, hds q hq⟩
theorem d_impl_newMem (M : Mem) (n sz : Nat) (hn : n ≤ 128) (h0 : 0 < sz) (hsz : sz ≤ 1000) :
    ∃ M' u L, M <+: M' ∧ aCall T0 F_impl_newMem [.int .i64 n, .int .i64 sz] M = some (.agg #[.int .i64 sz, u, .slice none 0 0], M') ∧ Own ty_Mem M' [.int .i64 sz, u, .slice none 0 0] (memX n sz) L ∧ L.Nodup ∧ ∀ l ∈ L, M.length ≤ l ∧ l < M'.length := by
  have hnm : NM (M.length + 1) (M.length + 1) sz (M ++ [⟨[.int .i64 0, .slice none 0 0, .slice none 0 0], 1, 2⟩, ⟨[.int .i64 sz, .slice none 0 0, .slice none 0 0], 1, 2⟩]) (.slice none 0 0) [] :=
    ⟨.inl ⟨rfl, rfl⟩, by simp, by simp, by simp, by simp [wfs], Nat.le_refl _⟩
  obtain ⟨M1, v, ds, q0, q1, q2, q3⟩ := l_impl_newMem (M.length + 1) (M.length + 1) sz (M ++ [⟨[.int .i64 0, .slice none 0 0, .slice none 0 0], 1, 2⟩]) (by simp) (.pointer (some ⟨M.length, 0, none⟩)) n hn hsz n 0 _ _ [] (by omega) rfl ⟨[⟨[.int .i64 sz, .slice none 0 0, .slice none 0 0], 1, 2⟩], by simp⟩ hnm
  obtain ⟨L, o1, o2, o3⟩ := nm_own q2 h0
  rw [q0] at o1
  have hb4 : M1[M.length]? = some ⟨[.int .i64 0, .slice none 0 0, .slice none 0 0], 1, 2⟩ := get_pre q1 (by simp)
  have w1 := box_set hb4 (ds := [.int .i64 sz, v, .slice none 0 0]) rfl
  have r1 := box_get hb4 (ds := [.int .i64 sz, v, .slice none 0 0]) (n := 3) rfl
  have r2 : rdn M1 (M.length + 1) 0 3 = some [.int .i64 sz, v, .slice none 0 0] := rdn_box q2.2.1 rfl
  have o4 := Own.upd (upd_set hb4 (b2 := ⟨[.int .i64 sz, v, .slice none 0 0], 1, 2⟩) rfl) o1 (fun l hl hk => by have := o3 l hl; simp at hk; omega)
  have hM1 := q1.length_le
  simp only [List.length_append, List.length_cons, List.length_nil] at hM1
  refine ⟨M1.set M.length ⟨[.int .i64 sz, v, .slice none 0 0], 1, 2⟩, v, L, pre_set ((List.prefix_append _ _).trans q1) (by omega), ?_, ?_, o2, fun l hl => by have := o3 l hl; rw [List.length_set]; omega⟩
  · obtain ⟨a, c, rfl⟩ := o1.rep.slen
    have w1 := w1 rfl
    simp only [Int.natCast_zero, Int.ofNat_zero] at q3
    simp only [List.length_replicate] at w1 r1 r2 ⊢
    rw [aCall_eq T_impl_newMem]; unfold A_impl_newMem C_impl_newMem; simp [q3]
    rw [S_impl_newMem_0]; unfold B_impl_newMem_0; simp [r2, w1, r1]
  · have := mk_Mem (x := memX n sz) (M := M1.set M.length ⟨[.int .i64 sz, v, .slice none 0 0], 1, 2⟩) (u1 := v) (u2 := .slice none 0 0) (L1 := L) (L2 := []) (wf_range (show -9223372036854775808 ≤ (sz : Int) ∧ (sz : Int) ≤ 9223372036854775807 by omega)) o4 (.inl ⟨rfl, rfl, .inl ⟨rfl, rfl⟩⟩)
    rwa [List.append_nil] at this
theorem c_impl_treeNodes (M : Mem) (m n : Nat) (h : m ≤ 6) (hn : n = 2 * 2 ^ m - 1) : aCall T0 F_impl_treeNodes [.int .i64 m] M = some (.int .i64 n, M) := by
  subst hn
  match m, h with
  | 0, _ => rw [aCall_eq T_impl_treeNodes]; unfold A_impl_treeNodes C_impl_treeNodes; simp; decide
  | 1, _ => rw [aCall_eq T_impl_treeNodes]; unfold A_impl_treeNodes C_impl_treeNodes; simp; decide
  | 2, _ => rw [aCall_eq T_impl_treeNodes]; unfold A_impl_treeNodes C_impl_treeNodes; simp; decide
  | 3, _ => rw [aCall_eq T_impl_treeNodes]; unfold A_impl_treeNodes C_impl_treeNodes; simp; decide
  | 4, _ => rw [aCall_eq T_impl_treeNodes]; unfold A_impl_treeNodes C_impl_treeNodes; simp; decide
  | 5, _ => rw [aCall_eq T_impl_treeNodes]; unfold A_impl_treeNodes C_impl_treeNodes; simp; decide
  | 6, _ => rw [aCall_eq T_impl_treeNodes]; unfold A_impl_treeNodes C_impl_treeNodes; simp; decide
theorem d_impl_oramNew (M : Mem) (l w b n sz : Nat) (hl : l ≤ 6) (hw : 1 ≤ w) (hw2 : w ≤ 200) (hb : b ≤ 64) (hn : n = 2 * 2 ^ l - 1) (hs : (sz : Int) = 4 * ((w : Int) + 3)) :
    ∃ M' a c L, M <+: M' ∧ aCall T0 F_impl_oramNew [.int .i64 l, .int .i64 w, .int .i64 b] M = some (.agg #[.int .i64 l, .int .i64 w, .int .i64 b, .int .i64 sz, .slice a n c, .slice none 0 0, .slice none 0 0], M') ∧ Own ty_Oram M' [.int .i64 l, .int .i64 w, .int .i64 b, .int .i64 sz, .slice a n c, .slice none 0 0, .slice none 0 0] ((l : Int), (w : Int), (b : Int), memX n sz, []) L ∧ L.Nodup ∧ ∀ l ∈ L, M.length ≤ l ∧ l < M'.length := by
  have hnt := tree_le hl
  obtain ⟨M1, u, L, p1, s1, o1, nd, f1⟩ := d_impl_newMem (M ++ [⟨zO, 1, 2⟩]) n sz (by omega) (by omega) (by omega)
  have hb4 : M1[M.length]? = some ⟨zO, 1, 2⟩ := get_pre p1 (by simp)
  obtain ⟨_, h3, _⟩ := rep_Mem2 o1.rep
  obtain ⟨a, c, e8⟩ := h3.slen
  have e9 : u = .slice a n c := by rw [e8]; simp [memX]
  subst e9
  have o4 := Own.upd (upd_set hb4 (b2 := ⟨[.int .i64 l, .int .i64 w, .int .i64 b, .int .i64 sz, .slice a n c, .slice none 0 0, .slice none 0 0], 1, 2⟩) rfl) o1 (fun l hl hk => by have := f1 l hl; simp at this hk; omega)
  have w1 := box_set hb4 (ds := [.int .i64 l, .int .i64 w, .int .i64 b, .int .i64 sz, .slice a n c, .slice none 0 0, .slice none 0 0]) rfl rfl
  have r1 := box_get hb4 (ds := [.int .i64 l, .int .i64 w, .int .i64 b, .int .i64 sz, .slice a n c, .slice none 0 0, .slice none 0 0]) (n := 7) rfl
  have wf (z : Nat) (hz : z ≤ 1000) : (Lit.int .i64 (z : Int)).wf = true := wf_range (show -9223372036854775808 ≤ (z : Int) ∧ (z : Int) ≤ 9223372036854775807 by omega)
  have o5 := mk_Oram (x := ((l : Int), (w : Int), (b : Int), memX n sz, ([] : List ty_Block.D))) (L2 := []) (u3 := .slice none 0 0) (wf l (by omega)) (wf w (by omega)) (wf b (by omega)) o4 (.inl ⟨rfl, rfl, .inl ⟨rfl, rfl⟩⟩)
  rw [List.append_nil] at o5
  refine ⟨M1.set M.length ⟨[.int .i64 l, .int .i64 w, .int .i64 b, .int .i64 sz, .slice a n c, .slice none 0 0, .slice none 0 0], 1, 2⟩, a, c, L, pre_set ((List.prefix_append _ _).trans p1) (by omega), ?_, o5, nd, fun l hl => by have := f1 l hl; simp at this ⊢; omega⟩
  have e1 : IntKind.i64.wrap ((w : Int) + 3) = w + 3 := wrap_i64 (by omega) (by omega)
  have e2 : IntKind.i64.wrap (4 * ((w : Int) + 3)) = sz := by rw [hs]; exact wrap_i64 (by omega) (by omega)
  rw [aCall_eq T_impl_oramNew]; unfold A_impl_oramNew C_impl_oramNew; simp [(fun M => c_impl_treeNodes M l n hl hn), e1, e2, s1, w1, r1]
theorem d_impl_OramNew (M : Mem) (l w b : Int) : ∃ M' u1 u2 u3 L, M <+: M' ∧ aCall T0 F_impl_OramNew [.int .i64 l, .int .i64 w, .int .i64 b] M = some (.agg #[.int .i64 (oramX l w b).1, .int .i64 (oramX l w b).2.1, .int .i64 (oramX l w b).2.2.1, .int .i64 (oramX l w b).2.2.2.1.1, u1, u2, u3], M') ∧ Own ty_Oram M' [.int .i64 (oramX l w b).1, .int .i64 (oramX l w b).2.1, .int .i64 (oramX l w b).2.2.1, .int .i64 (oramX l w b).2.2.2.1.1, u1, u2, u3] (oramX l w b) L ∧ L.Nodup ∧ ∀ l ∈ L, M.length ≤ l ∧ l < M'.length := by
  unfold oramX
  cases hb : oramB l w b with
  | false =>
    refine ⟨M ++ [⟨zO, 1, 2⟩], .slice none 0 0, .slice none 0 0, .slice none 0 0, [], List.prefix_append _ _, ?_, own_zeroO _, by simp, by simp⟩
    unfold oramB at hb
    cases h1 : (decide (0 ≤ l) && decide (l ≤ 6)) with
    | false => rw [aCall_eq T_impl_OramNew]; unfold A_impl_OramNew C_impl_OramNew; simp [c_impl_isLog, h1, prim]
    | true =>
      cases h2 : (decide (1 ≤ w) && decide (w ≤ 200)) with
      | false => rw [aCall_eq T_impl_OramNew]; unfold A_impl_OramNew C_impl_OramNew; simp [c_impl_isLog, h1, c_impl_within, h2, prim]
      | true =>
        have h3 : (decide (0 ≤ b) && decide (b ≤ 64)) = false := by rw [h1, h2] at hb; simpa using hb
        rw [aCall_eq T_impl_OramNew]; unfold A_impl_OramNew C_impl_OramNew; simp [c_impl_isLog, h1, c_impl_within, h2, h3, prim]
  | true =>
    have hr : (0 ≤ l ∧ l ≤ 6) ∧ (1 ≤ w ∧ w ≤ 200) ∧ 0 ≤ b ∧ b ≤ 64 := by
      simp only [oramB, Bool.and_eq_true, decide_eq_true_eq] at hb
      omega
    obtain ⟨⟨g1, g2⟩, ⟨g3, g4⟩, g5, g6⟩ := hr
    obtain ⟨l, rfl⟩ : ∃ m : Nat, l = m := ⟨l.toNat, by omega⟩
    obtain ⟨w, rfl⟩ : ∃ m : Nat, w = m := ⟨w.toNat, by omega⟩
    obtain ⟨b, rfl⟩ : ∃ m : Nat, b = m := ⟨b.toNat, by omega⟩
    have h1 : (decide (0 ≤ (l : Int)) && decide ((l : Int) ≤ 6)) = true := by simp; omega
    have h2 : (decide (1 ≤ (w : Int)) && decide ((w : Int) ≤ 200)) = true := by simp; omega
    have h3 : (decide (0 ≤ (b : Int)) && decide ((b : Int) ≤ 64)) = true := by simp; omega
    have i1 := fun M => (c_impl_isLog M l).trans (by rw [h1])
    have i2 := fun M => (c_impl_within M w 1 200).trans (by rw [h2])
    have i3 := fun M => (c_impl_within M b 0 64).trans (by rw [h3])
    rw [if_pos rfl]
    simp only [Int.toNat_natCast]
    obtain ⟨n, hn⟩ : ∃ n, n = 2 * 2 ^ l - 1 := ⟨_, rfl⟩
    obtain ⟨sz, hsz⟩ : ∃ n, n = 4 * (w + 3) := ⟨_, rfl⟩
    rw [← hn, ← hsz]
    obtain ⟨M1, a, c, L, p1, s1, o1, nd, f1⟩ := d_impl_oramNew (M ++ [⟨zO, 1, 2⟩]) l w b n sz (by omega) (by omega) (by omega) (by omega) hn (by omega)
    have hb4 : M1[M.length]? = some ⟨zO, 1, 2⟩ := get_pre p1 (by simp)
    have o4 := Own.upd (upd_set hb4 (b2 := ⟨[.int .i64 l, .int .i64 w, .int .i64 b, .int .i64 sz, .slice a n c, .slice none 0 0, .slice none 0 0], 1, 2⟩) rfl) o1 (fun l hl hk => by have := f1 l hl; simp at this hk; omega)
    have w1 := box_set hb4 (ds := [.int .i64 l, .int .i64 w, .int .i64 b, .int .i64 sz, .slice a n c, .slice none 0 0, .slice none 0 0]) rfl rfl
    have r1 := box_get hb4 (ds := [.int .i64 l, .int .i64 w, .int .i64 b, .int .i64 sz, .slice a n c, .slice none 0 0, .slice none 0 0]) (n := 7) rfl
    refine ⟨M1.set M.length ⟨[.int .i64 l, .int .i64 w, .int .i64 b, .int .i64 sz, .slice a n c, .slice none 0 0, .slice none 0 0], 1, 2⟩, .slice a n c, .slice none 0 0, .slice none 0 0, L, pre_set ((List.prefix_append _ _).trans p1) (by omega), ?_, o4, nd, fun l hl => by have := f1 l hl; simp at this ⊢; omega⟩
    have hx1 : (memX n sz).1 = sz := rfl
    simp only [hx1]
    rw [aCall_eq T_impl_OramNew]; unfold A_impl_OramNew C_impl_OramNew; simp [i1, i2, i3, s1, w1, r1, prim]
theorem r_spec_MemNew (K b sz : Nat) (M0 M : Mem) (v : V) (ds : List Nat) (hK : K = M0.length) (hM : M0 <+: M) (h : NM K b sz M v ds) (t4 : V) (n i : Nat) (hi : i < n) (hn : n ≤ 128) (hd : ds.length = i) (hsz : sz ≤ 1000) :
    ∃ M', M0 <+: M' ∧ NM K b sz M' (.slice (some ⟨M.length + 2, 0, none⟩) (i + 1) (i + 1)) (ds ++ [M.length]) ∧
      lp (aCall T0) K_spec_MemNew_0 L_spec_MemNew_0 [.int .i64 n, .int .i64 sz, und, und, t4, .pointer (some ⟨b, 0, none⟩), .int .i64 i, und, und, und, und, und, und, und, und, und, und, und, und, und, und, und, und, und, und, und, und, und, und, und, und, und, und, und, und, und, und, und] M =
      lp (aCall T0) K_spec_MemNew_0 L_spec_MemNew_0 [.int .i64 n, .int .i64 sz, und, und, t4, .pointer (some ⟨b, 0, none⟩), .int .i64 (i + 1 : Nat), und, und, und, und, und, und, und, und, und, und, und, und, und, und, und, und, und, und, und, und, und, und, und, und, und, und, und, und, und, und, und] M' := by
  obtain ⟨A1, A2, a1, a2, a3, a4, a5⟩ := nm_step hK hM h (by omega)
  rw [hd] at a1 a3 a5
  refine ⟨A2, a4, a5, ?_⟩
  obtain ⟨h1, h2, h3, h4, h5, h6⟩ := h
  have rb : rd1 M b 1 = some v := by unfold rd1; rw [h2]; rfl
  have e6 : IntKind.i64.wrap ((i : Int) + 1) = i + 1 := wrap_i64 (by omega) (by omega)
  have b1 : (sz : Int) ≤ 281474976710656 := by omega
  have b2 : (sz : Int) ≤ 9223372036854775807 := by omega
  have hh : hits (wfs v) [b] = false := by
    unfold hits
    rw [List.any_eq_false]
    intro q hq
    have : q ≠ b := fun e => h5 (by rw [← e]; exact hq)
    simp [this]
  have p1 : M ++ [(⟨zc (.int .u8 0) sz, 1, 2⟩ : Blk)] <+: M ++ [⟨zc (.int .u8 0) sz, 1, 2⟩, ⟨[.slice (some ⟨M.length, 0, none⟩) sz sz], 1, 2⟩] := ⟨[⟨[.slice (some ⟨M.length, 0, none⟩) sz sz], 1, 2⟩], by simp⟩
  have s1 : sliceCells (M ++ [⟨zc (.int .u8 0) sz, 1, 2⟩, ⟨[.slice (some ⟨M.length, 0, none⟩) sz sz], 1, 2⟩]) 1 (.slice (some ⟨M.length + 1, 0, none⟩) 1 1) = some (1, [.slice (some ⟨M.length, 0, none⟩) sz sz]) := by
    simp [sliceCells]
  obtain ⟨B, hB⟩ : ∃ B, B = M ++ [(⟨zc (.int .u8 0) sz, 1, 2⟩ : Blk), ⟨[.slice (some ⟨M.length, 0, none⟩) sz sz], 1, 2⟩] := ⟨_, rfl⟩
  rw [← hB] at a1 a2 s1 p1
  have hBm := hB.symm
  rw [S_spec_MemNew_0]; unfold B_spec_MemNew_0; simp [hi, e6, rb, b1, b2, p1, thenD_pre, hBm, s1, a1, thenD_agree, a2, hh, a3]
theorem l_spec_MemNew (K b sz : Nat) (M0 : Mem) (hK : K = M0.length) (t4 : V) (n : Nat) (hn : n ≤ 128) (hsz : sz ≤ 1000) : ∀ (k i : Nat) (M : Mem) (v : V) (ds : List Nat), i + k = n → ds.length = i → M0 <+: M → NM K b sz M v ds →
    ∃ M' v' ds', ds'.length = n ∧ M0 <+: M' ∧ NM K b sz M' v' ds' ∧ lp (aCall T0) K_spec_MemNew_0 L_spec_MemNew_0 [.int .i64 n, .int .i64 sz, und, und, t4, .pointer (some ⟨b, 0, none⟩), .int .i64 i, und, und, und, und, und, und, und, und, und, und, und, und, und, und, und, und, und, und, und, und, und, und, und, und, und, und, und, und, und, und, und] M = lp (aCall T0) K_spec_MemNew_0 L_spec_MemNew_0 [.int .i64 n, .int .i64 sz, und, und, t4, .pointer (some ⟨b, 0, none⟩), .int .i64 n, und, und, und, und, und, und, und, und, und, und, und, und, und, und, und, und, und, und, und, und, und, und, und, und, und, und, und, und, und, und, und] M'
  | 0, i, M, v, ds, hi, hd, hM, h => by
    have e : i = n := by omega
    subst e
    exact ⟨M, v, ds, hd, hM, h, rfl⟩
  | k + 1, i, M, v, ds, hi, hd, hM, h => by
    obtain ⟨M', q1, q2, q3⟩ := r_spec_MemNew K b sz M0 M v ds hK hM h t4 n i (by omega) hn hd hsz
    rw [q3]
    exact l_spec_MemNew K b sz M0 hK t4 n hn hsz k (i + 1) M' _ _ (by omega) (by simp [hd]) q1 q2
theorem d_spec_MemNew (M : Mem) (n sz : Nat) (hn : n ≤ 128) (h0 : 0 < sz) (hsz : sz ≤ 1000) :
    ∃ M' u L, M <+: M' ∧ aCall T0 F_spec_MemNew [.int .i64 n, .int .i64 sz] M = some (.agg #[.int .i64 sz, u, .slice none 0 0], M') ∧ Own ty_Mem M' [.int .i64 sz, u, .slice none 0 0] (memX n sz) L ∧ L.Nodup ∧ ∀ l ∈ L, M.length ≤ l ∧ l < M'.length := by
  have hnm : NM (M.length + 1) (M.length + 1) sz (M ++ [⟨[.int .i64 0, .slice none 0 0, .slice none 0 0], 1, 2⟩, ⟨[.int .i64 sz, .slice none 0 0, .slice none 0 0], 1, 2⟩]) (.slice none 0 0) [] :=
    ⟨.inl ⟨rfl, rfl⟩, by simp, by simp, by simp, by simp [wfs], Nat.le_refl _⟩
  obtain ⟨M1, v, ds, q0, q1, q2, q3⟩ := l_spec_MemNew (M.length + 1) (M.length + 1) sz (M ++ [⟨[.int .i64 0, .slice none 0 0, .slice none 0 0], 1, 2⟩]) (by simp) (.pointer (some ⟨M.length, 0, none⟩)) n hn hsz n 0 _ _ [] (by omega) rfl ⟨[⟨[.int .i64 sz, .slice none 0 0, .slice none 0 0], 1, 2⟩], by simp⟩ hnm
  obtain ⟨L, o1, o2, o3⟩ := nm_own q2 h0
  rw [q0] at o1
  have hb4 : M1[M.length]? = some ⟨[.int .i64 0, .slice none 0 0, .slice none 0 0], 1, 2⟩ := get_pre q1 (by simp)
  have w1 := box_set hb4 (ds := [.int .i64 sz, v, .slice none 0 0]) rfl
  have r1 := box_get hb4 (ds := [.int .i64 sz, v, .slice none 0 0]) (n := 3) rfl
  have r2 : rdn M1 (M.length + 1) 0 3 = some [.int .i64 sz, v, .slice none 0 0] := rdn_box q2.2.1 rfl
  have o4 := Own.upd (upd_set hb4 (b2 := ⟨[.int .i64 sz, v, .slice none 0 0], 1, 2⟩) rfl) o1 (fun l hl hk => by have := o3 l hl; simp at hk; omega)
  have hM1 := q1.length_le
  simp only [List.length_append, List.length_cons, List.length_nil] at hM1
  refine ⟨M1.set M.length ⟨[.int .i64 sz, v, .slice none 0 0], 1, 2⟩, v, L, pre_set ((List.prefix_append _ _).trans q1) (by omega), ?_, ?_, o2, fun l hl => by have := o3 l hl; rw [List.length_set]; omega⟩
  · obtain ⟨a, c, rfl⟩ := o1.rep.slen
    have w1 := w1 rfl
    simp only [Int.natCast_zero, Int.ofNat_zero] at q3
    simp only [List.length_replicate] at w1 r1 r2 ⊢
    have g1 : ¬ (n : Int) < 0 := by omega
    have g2 : ¬ 128 < (n : Int) := by omega
    have g3 : ¬ (sz : Int) < 1 := by omega
    have g4 : ¬ 1000 < (sz : Int) := by omega
    rw [aCall_eq T_spec_MemNew]; unfold A_spec_MemNew C_spec_MemNew; simp [g1, g2, g3, g4, q3]
    rw [S_spec_MemNew_0]; unfold B_spec_MemNew_0; simp [r2, w1, r1]
  · have := mk_Mem (x := memX n sz) (M := M1.set M.length ⟨[.int .i64 sz, v, .slice none 0 0], 1, 2⟩) (u1 := v) (u2 := .slice none 0 0) (L1 := L) (L2 := []) (wf_range (show -9223372036854775808 ≤ (sz : Int) ∧ (sz : Int) ≤ 9223372036854775807 by omega)) o4 (.inl ⟨rfl, rfl, .inl ⟨rfl, rfl⟩⟩)
    rwa [List.append_nil] at this
theorem c_spec_l11Log (M : Mem) (x : Int) : aCall T0 F_spec_l11Log [.int .i64 x] M = some (.bool (decide (0 ≤ x) && decide (x ≤ 6)), M) := by
  rw [aCall_eq T_spec_l11Log]; unfold A_spec_l11Log C_spec_l11Log; simp
  repeat' ((first | rw [selO_some] | rw [condR_bool] | rw [selD_some]); split <;> rename_i hq <;> (have hq2 := hq) <;> (try simp at hq2) <;> (try simp [*]))
theorem c_spec_l12Frame (M : Mem) (l w : Int) : aCall T0 F_spec_l12Frame [.int .i64 l, .int .i64 w] M = some (.bool (decide (0 ≤ l) && decide (l ≤ 6) && (decide (1 ≤ w) && decide (w ≤ 200))), M) := by
  rw [aCall_eq T_spec_l12Frame]; unfold A_spec_l12Frame C_spec_l12Frame; simp [c_spec_l11Log]
  rcases hp : (decide (0 ≤ l) && decide (l ≤ 6)) with _ | _
  · simp [hp]
  · simp [hp]
    by_cases h1 : 1 ≤ w <;> simp [h1]
theorem pow2_pos (n : Nat) : (0 : Int) < 2 ^ n := Int.pow_pos (by omega)
theorem pow2_le {n m : Nat} (h : n ≤ m) : (2 : Int) ^ n ≤ 2 ^ m := by
  have := Nat.pow_le_pow_right (show 0 < 2 by omega) h
  exact_mod_cast this
theorem l_spec_l02Pow (M : Mem) : ∀ (n : Nat) (x : Int), 0 ≤ x → x * 2 ^ n ≤ 4611686018427387904 → n ≤ 1000 →
    ∃ e0 e1 e2 e4 e5 e6 e7 e8 e9 e10, lp (aCall T0) K_spec_l02Pow_0 L_spec_l02Pow_0 [.int .i64 n, und, und, .int .i64 x, und, und, und, und, und, und, und] M = some (.exit 0, [e0, e1, e2, .int .i64 (x * 2 ^ n), e4, e5, e6, e7, e8, e9, e10], M)
  | 0, x, _, _, _ => by
    rw [S_spec_l02Pow_0]; unfold B_spec_l02Pow_0; simp
  | n + 1, x, h0, h1, h2 => by
    have hp : (1 : Int) ≤ 2 ^ n := by
      have : (0 : Int) < 2 ^ n := Int.pow_pos (by omega)
      omega
    have e : x * 2 ^ (n + 1) = 2 * x * 2 ^ n := by rw [Int.pow_succ, ← Int.mul_assoc, Int.mul_right_comm, Int.mul_comm x 2]
    rw [e] at h1
    have hx : 2 * x ≤ 2 * x * 2 ^ n := by
      have := Int.mul_le_mul_of_nonneg_left hp (show (0 : Int) ≤ 2 * x by omega)
      simpa using this
    have ih := l_spec_l02Pow M n (2 * x) (by omega) h1 (by omega)
    rw [e]
    rw [S_spec_l02Pow_0]; unfold B_spec_l02Pow_0; simp
    rw [wrap_i64 (z := 2 * x) (by omega) (by omega), wrap_i64 (z := n) (by omega) (by omega)]
    exact ih
theorem c_spec_l02Pow (M : Mem) (n : Nat) (h : n ≤ 60) : aCall T0 F_spec_l02Pow [.int .i64 n] M = some (.int .i64 (2 ^ n), M) := by
  obtain ⟨e0, e1, e2, e4, e5, e6, e7, e8, e9, e10, ih⟩ := l_spec_l02Pow M n 1 (by omega) (by
    have : (2 : Int) ^ n ≤ 2 ^ 60 := pow2_le h
    omega) (by omega)
  rw [aCall_eq T_spec_l02Pow]; unfold A_spec_l02Pow C_spec_l02Pow; simp [ih]
theorem c_spec_TreeNodes (M : Mem) (m n : Nat) (h : m ≤ 6) (hn : n = 2 * 2 ^ m - 1) : aCall T0 F_spec_TreeNodes [.int .i64 m] M = some (.int .i64 n, M) := by
  have hp : (2 : Int) ^ m ≤ 2 ^ 6 := pow2_le h
  have hq : (0 : Int) < 2 ^ m := pow2_pos m
  have hn2 : (n : Int) = 2 * 2 ^ m - 1 := by
    have : 0 < 2 ^ m := Nat.pow_pos (by omega)
    subst hn
    rw [Int.natCast_sub (by omega)]
    simp
  have e1 : IntKind.i64.wrap (2 * 2 ^ m) = 2 * 2 ^ m := wrap_i64 (by omega) (by omega)
  have e2 : IntKind.i64.wrap (2 * 2 ^ m - 1) = n := by rw [hn2]; exact wrap_i64 (by omega) (by omega)
  have hb : (decide ((0 : Int) ≤ m) && decide ((m : Int) ≤ 6)) = true := by simp; omega
  have e3 := c_spec_l11Log M m
  rw [hb] at e3
  rw [aCall_eq T_spec_TreeNodes]; unfold A_spec_TreeNodes C_spec_TreeNodes; simp [e3, c_spec_l02Pow _ m (by omega), e1, e2]
theorem c_spec_NodeSize (M : Mem) (w sz : Nat) (h1 : 1 ≤ w) (h2 : w ≤ 200) (hs : (sz : Int) = 4 * ((w : Int) + 3)) : aCall T0 F_spec_NodeSize [.int .i64 w] M = some (.int .i64 sz, M) := by
  have e1 : IntKind.i64.wrap ((w : Int) + 3) = w + 3 := wrap_i64 (by omega) (by omega)
  have e2 : IntKind.i64.wrap (4 * ((w : Int) + 3)) = sz := by rw [hs]; exact wrap_i64 (by omega) (by omega)
  have g1 : ¬ (w : Int) < 1 := by omega
  have g2 : ¬ 200 < (w : Int) := by omega
  rw [aCall_eq T_spec_NodeSize]; unfold A_spec_NodeSize C_spec_NodeSize; simp [g1, g2, e1, e2]
theorem d_spec_OramNew (M : Mem) (l w b : Int) : ∃ M' u1 u2 u3, M <+: M' ∧ aCall T0 F_spec_OramNew [.int .i64 l, .int .i64 w, .int .i64 b] M = some (.agg #[.int .i64 (oramX l w b).1, .int .i64 (oramX l w b).2.1, .int .i64 (oramX l w b).2.2.1, .int .i64 (oramX l w b).2.2.2.1.1, u1, u2, u3], M') ∧ Rep ty_Oram M' [.int .i64 (oramX l w b).1, .int .i64 (oramX l w b).2.1, .int .i64 (oramX l w b).2.2.1, .int .i64 (oramX l w b).2.2.2.1.1, u1, u2, u3] (oramX l w b) := by
  unfold oramX
  cases hb : oramB l w b with
  | false =>
    refine ⟨M ++ [⟨zO, 1, 2⟩], .slice none 0 0, .slice none 0 0, .slice none 0 0, List.prefix_append _ _, ?_, (own_zeroO _).rep⟩
    unfold oramB at hb
    cases h1 : (decide (0 ≤ l) && decide (l ≤ 6) && (decide (1 ≤ w) && decide (w ≤ 200))) with
    | false =>
      have i1 := fun M => (c_spec_l12Frame M l w).trans (by rw [h1])
      rw [aCall_eq T_spec_OramNew]; unfold A_spec_OramNew C_spec_OramNew; simp [i1, prim]
    | true =>
      have i1 := fun M => (c_spec_l12Frame M l w).trans (by rw [h1])
      rw [h1] at hb
      rcases (show b < 0 ∨ (¬ b < 0 ∧ 64 < b) by simp at hb; omega) with g | ⟨g, g2⟩
      · rw [aCall_eq T_spec_OramNew]; unfold A_spec_OramNew C_spec_OramNew; simp [i1, g, prim]
      · rw [aCall_eq T_spec_OramNew]; unfold A_spec_OramNew C_spec_OramNew; simp [i1, g, g2, prim]
  | true =>
    have hr : (0 ≤ l ∧ l ≤ 6) ∧ (1 ≤ w ∧ w ≤ 200) ∧ 0 ≤ b ∧ b ≤ 64 := by
      simp only [oramB, Bool.and_eq_true, decide_eq_true_eq] at hb
      omega
    obtain ⟨⟨g1, g2⟩, ⟨g3, g4⟩, g5, g6⟩ := hr
    obtain ⟨l, rfl⟩ : ∃ m : Nat, l = m := ⟨l.toNat, by omega⟩
    obtain ⟨w, rfl⟩ : ∃ m : Nat, w = m := ⟨w.toNat, by omega⟩
    obtain ⟨b, rfl⟩ : ∃ m : Nat, b = m := ⟨b.toNat, by omega⟩
    have h1 : (decide (0 ≤ (l : Int)) && decide ((l : Int) ≤ 6) && (decide (1 ≤ (w : Int)) && decide ((w : Int) ≤ 200))) = true := by simp; omega
    have i1 := fun M => (c_spec_l12Frame M l w).trans (by rw [h1])
    have j1 : ¬ (b : Int) < 0 := by omega
    have j2 : ¬ 64 < (b : Int) := by omega
    rw [if_pos rfl]
    simp only [Int.toNat_natCast]
    have hnt := tree_le (show l ≤ 6 by omega)
    obtain ⟨n, hn⟩ : ∃ n, n = 2 * 2 ^ l - 1 := ⟨_, rfl⟩
    obtain ⟨sz, hsz⟩ : ∃ n, n = 4 * (w + 3) := ⟨_, rfl⟩
    rw [← hn, ← hsz]
    obtain ⟨M1, u, L, p1, s1, o1, nd, f1⟩ := d_spec_MemNew (M ++ [⟨zO, 1, 2⟩]) n sz (by omega) (by omega) (by omega)
    have hb4 : M1[M.length]? = some ⟨zO, 1, 2⟩ := get_pre p1 (by simp)
    obtain ⟨_, h3, _⟩ := rep_Mem2 o1.rep
    obtain ⟨a, c, e8⟩ := h3.slen
    have e9 : u = .slice a n c := by rw [e8]; simp [memX]
    subst e9
    have o4 := Own.upd (upd_set hb4 (b2 := ⟨[.int .i64 l, .int .i64 w, .int .i64 b, .int .i64 sz, .slice a n c, .slice none 0 0, .slice none 0 0], 1, 2⟩) rfl) o1 (fun l hl hk => by have := f1 l hl; simp at this hk; omega)
    have w1 := box_set hb4 (ds := [.int .i64 l, .int .i64 w, .int .i64 b, .int .i64 sz, .slice a n c, .slice none 0 0, .slice none 0 0]) rfl rfl
    have r1 := box_get hb4 (ds := [.int .i64 l, .int .i64 w, .int .i64 b, .int .i64 sz, .slice a n c, .slice none 0 0, .slice none 0 0]) (n := 7) rfl
    have wf (z : Nat) (hz : z ≤ 1000) : (Lit.int .i64 (z : Int)).wf = true := wf_range (show -9223372036854775808 ≤ (z : Int) ∧ (z : Int) ≤ 9223372036854775807 by omega)
    have o5 := mk_Oram (x := ((l : Int), (w : Int), (b : Int), memX n sz, ([] : List ty_Block.D))) (L2 := []) (u3 := .slice none 0 0) (wf l (by omega)) (wf w (by omega)) (wf b (by omega)) o4 (.inl ⟨rfl, rfl, .inl ⟨rfl, rfl⟩⟩)
    refine ⟨M1.set M.length ⟨[.int .i64 l, .int .i64 w, .int .i64 b, .int .i64 sz, .slice a n c, .slice none 0 0, .slice none 0 0], 1, 2⟩, .slice a n c, .slice none 0 0, .slice none 0 0, pre_set ((List.prefix_append _ _).trans p1) (by omega), ?_, o5.rep⟩
    have hx1 : (memX n sz).1 = sz := rfl
    simp only [hx1]
    rw [aCall_eq T_spec_OramNew]; unfold A_spec_OramNew C_spec_OramNew; simp [i1, j1, j2, c_spec_TreeNodes _ l n (by omega) hn, c_spec_NodeSize _ w sz (by omega) (by omega) (by omega), s1, w1, r1, prim]
set_option maxHeartbeats 4000000 in
set_option maxRecDepth 20000 in
theorem c_laws_FnExactOramNew (M : Mem) (aLog : Int) (aWidth : Int) (aBound : Int) : ∃ M', aCall T0 F_laws_FnExactOramNew [.int .i64 aLog, .int .i64 aWidth, .int .i64 aBound] M = some (.bool true, M') := by
  have hb_oramX : bndO (oramX aLog aWidth aBound) := oramX_bnd aLog aWidth aBound
  have hc_oramX := bndO_tot hb_oramX
  obtain ⟨M1, u4, u5, u6, p2, s3, o7⟩ := d_spec_OramNew M aLog aWidth aBound
  have ln8 : M.length ≤ M1.length := by have := p2.length_le; (try simp only [List.length_append, List.length_cons, List.length_nil] at this); omega
  have z9 : M <+: M1 := (List.prefix_refl _).trans p2
  obtain ⟨M10, u13, u14, u15, L16, p11, s12, o17, nd18, f19⟩ := d_impl_OramNew (M1 ++ [⟨[.int .i64 (oramX aLog aWidth aBound).1, .int .i64 (oramX aLog aWidth aBound).2.1, .int .i64 (oramX aLog aWidth aBound).2.2.1, .int .i64 (oramX aLog aWidth aBound).2.2.2.1.1, u4, u5, u6], 1, 2⟩]) aLog aWidth aBound
  have q20 : M1 <+: M10 := (List.prefix_append _ _).trans p11
  have ln21 : M1.length + 1 ≤ M10.length := by have := p11.length_le; (try simp only [List.length_append, List.length_cons, List.length_nil] at this); omega
  have b22 : M10[M1.length]? = some ⟨[.int .i64 (oramX aLog aWidth aBound).1, .int .i64 (oramX aLog aWidth aBound).2.1, .int .i64 (oramX aLog aWidth aBound).2.2.1, .int .i64 (oramX aLog aWidth aBound).2.2.2.1.1, u4, u5, u6], 1, 2⟩ := get_pre p11 (by simp)
  have z23 : M <+: M10 := z9.trans q20
  have y24 : M1 <+: M10 := (List.prefix_refl _).trans q20
  have g25 : ∀ l ∈ L16, M1.length + 1 ≤ l ∧ l < M10.length := by intro l hl; have := f19 l hl; (try simp only [List.length_append, List.length_cons, List.length_nil] at this); omega
  have r27 : rdn (M10 ++ [⟨[.int .i64 (oramX aLog aWidth aBound).1, .int .i64 (oramX aLog aWidth aBound).2.1, .int .i64 (oramX aLog aWidth aBound).2.2.1, .int .i64 (oramX aLog aWidth aBound).2.2.2.1.1, u13, u14, u15], 1, 2⟩]) (M1.length) 0 7 = some [.int .i64 (oramX aLog aWidth aBound).1, .int .i64 (oramX aLog aWidth aBound).2.1, .int .i64 (oramX aLog aWidth aBound).2.2.1, .int .i64 (oramX aLog aWidth aBound).2.2.2.1.1, u4, u5, u6] := rdn_old (rdn_box b22 rfl)
  have e28 := (c_laws_eqOram (M10 ++ [⟨[.int .i64 (oramX aLog aWidth aBound).1, .int .i64 (oramX aLog aWidth aBound).2.1, .int .i64 (oramX aLog aWidth aBound).2.2.1, .int .i64 (oramX aLog aWidth aBound).2.2.2.1.1, u13, u14, u15], 1, 2⟩]) u13 u14 u15 u4 u5 u6 _ _ ((Own.grow (List.prefix_append _ _) o17)).rep (o7.mono (y24.trans (List.prefix_append _ _))) hb_oramX).trans (show _ = some (Go.Value.bool true, (M10 ++ [⟨[.int .i64 (oramX aLog aWidth aBound).1, .int .i64 (oramX aLog aWidth aBound).2.1, .int .i64 (oramX aLog aWidth aBound).2.2.1, .int .i64 (oramX aLog aWidth aBound).2.2.2.1.1, u13, u14, u15], 1, 2⟩])) by simp)
  obtain ⟨M29, m30, up31, o32⟩ := d_laws_markOram (M10 ++ [⟨[.int .i64 (oramX aLog aWidth aBound).1, .int .i64 (oramX aLog aWidth aBound).2.1, .int .i64 (oramX aLog aWidth aBound).2.2.1, .int .i64 (oramX aLog aWidth aBound).2.2.2.1.1, u13, u14, u15], 1, 2⟩]) u13 u14 u15 _ L16 (Own.grow (List.prefix_append _ _) o17) nd18 hb_oramX (1) (by omega) (by omega)
  have ln33 : M10.length + 1 ≤ M29.length := by have := up31.1; (try simp only [List.length_append, List.length_cons, List.length_nil] at this); omega
  have hh35 : (M10 ++ [⟨[.int .i64 (oramX aLog aWidth aBound).1, .int .i64 (oramX aLog aWidth aBound).2.1, .int .i64 (oramX aLog aWidth aBound).2.2.1, .int .i64 (oramX aLog aWidth aBound).2.2.2.1.1, u13, u14, u15], 1, 2⟩])[M1.length]? = some ⟨[.int .i64 (oramX aLog aWidth aBound).1, .int .i64 (oramX aLog aWidth aBound).2.1, .int .i64 (oramX aLog aWidth aBound).2.2.1, .int .i64 (oramX aLog aWidth aBound).2.2.2.1.1, u4, u5, u6], 1, 2⟩ := get_pre (List.prefix_append _ _) b22
  have b34 : M29[M1.length]? = some ⟨[.int .i64 (oramX aLog aWidth aBound).1, .int .i64 (oramX aLog aWidth aBound).2.1, .int .i64 (oramX aLog aWidth aBound).2.2.1, .int .i64 (oramX aLog aWidth aBound).2.2.2.1.1, u4, u5, u6], 1, 2⟩ := (up31.2.1 _ (fun hl => by have := g25 _ hl; omega) (List.getElem?_eq_some_iff.1 hh35).1).trans hh35
  have hh37 : (M10 ++ [⟨[.int .i64 (oramX aLog aWidth aBound).1, .int .i64 (oramX aLog aWidth aBound).2.1, .int .i64 (oramX aLog aWidth aBound).2.2.1, .int .i64 (oramX aLog aWidth aBound).2.2.2.1.1, u13, u14, u15], 1, 2⟩])[M10.length]? = some ⟨[.int .i64 (oramX aLog aWidth aBound).1, .int .i64 (oramX aLog aWidth aBound).2.1, .int .i64 (oramX aLog aWidth aBound).2.2.1, .int .i64 (oramX aLog aWidth aBound).2.2.2.1.1, u13, u14, u15], 1, 2⟩ := by simp
  have b36 : M29[M10.length]? = some ⟨[.int .i64 (oramX aLog aWidth aBound).1, .int .i64 (oramX aLog aWidth aBound).2.1, .int .i64 (oramX aLog aWidth aBound).2.2.1, .int .i64 (oramX aLog aWidth aBound).2.2.2.1.1, u13, u14, u15], 1, 2⟩ := (up31.2.1 _ (fun hl => by have := g25 _ hl; omega) (List.getElem?_eq_some_iff.1 hh37).1).trans hh37
  have z39 : M <+: M29 := UpdG.pre up31 (z23.trans (List.prefix_append _ _)) (fun l hl => by have := g25 l hl; omega)
  have y40 : M1 <+: M29 := UpdG.pre up31 (y24.trans (List.prefix_append _ _)) (fun l hl => by have := g25 l hl; omega)
  have c41 : ¬ (1 + totO (oramX aLog aWidth aBound) < 0) := by omega
  have r42 : rdn M29 (M10.length) 0 7 = some [.int .i64 (oramX aLog aWidth aBound).1, .int .i64 (oramX aLog aWidth aBound).2.1, .int .i64 (oramX aLog aWidth aBound).2.2.1, .int .i64 (oramX aLog aWidth aBound).2.2.2.1.1, u13, u14, u15] := rdn_box b36 rfl
  have d43 := d_laws_heldOram M29 u13 u14 u15 _ _ _ _ (1) _ (o32).rep hb_oramX (by omega) (by omega)
  have c44 : ¬ (1 + totO (oramX aLog aWidth aBound) < 0) := by omega
  obtain ⟨M45, u48, u49, u50, L51, p46, s47, o52, nd53, f54⟩ := d_impl_OramNew M29 aLog aWidth aBound
  have ln55 : M29.length ≤ M45.length := by have := p46.length_le; (try simp only [List.length_append, List.length_cons, List.length_nil] at this); omega
  have b56 : M45[M1.length]? = some ⟨[.int .i64 (oramX aLog aWidth aBound).1, .int .i64 (oramX aLog aWidth aBound).2.1, .int .i64 (oramX aLog aWidth aBound).2.2.1, .int .i64 (oramX aLog aWidth aBound).2.2.2.1.1, u4, u5, u6], 1, 2⟩ := get_pre p46 b34
  have b57 : M45[M10.length]? = some ⟨[.int .i64 (oramX aLog aWidth aBound).1, .int .i64 (oramX aLog aWidth aBound).2.1, .int .i64 (oramX aLog aWidth aBound).2.2.1, .int .i64 (oramX aLog aWidth aBound).2.2.2.1.1, u13, u14, u15], 1, 2⟩ := get_pre p46 b36
  have o58 := Own.grow p46 o32
  have z59 : M <+: M45 := z39.trans p46
  have y60 : M1 <+: M45 := y40.trans p46
  have g61 : ∀ l ∈ L51, M29.length ≤ l ∧ l < M45.length := by intro l hl; have := f54 l hl; (try simp only [List.length_append, List.length_cons, List.length_nil] at this); omega
  have r63 : rdn (M45 ++ [⟨[.int .i64 (oramX aLog aWidth aBound).1, .int .i64 (oramX aLog aWidth aBound).2.1, .int .i64 (oramX aLog aWidth aBound).2.2.1, .int .i64 (oramX aLog aWidth aBound).2.2.2.1.1, u48, u49, u50], 1, 2⟩]) (M1.length) 0 7 = some [.int .i64 (oramX aLog aWidth aBound).1, .int .i64 (oramX aLog aWidth aBound).2.1, .int .i64 (oramX aLog aWidth aBound).2.2.1, .int .i64 (oramX aLog aWidth aBound).2.2.2.1.1, u4, u5, u6] := rdn_old (rdn_box b56 rfl)
  have e64 := (c_laws_eqOram (M45 ++ [⟨[.int .i64 (oramX aLog aWidth aBound).1, .int .i64 (oramX aLog aWidth aBound).2.1, .int .i64 (oramX aLog aWidth aBound).2.2.1, .int .i64 (oramX aLog aWidth aBound).2.2.2.1.1, u48, u49, u50], 1, 2⟩]) u48 u49 u50 u4 u5 u6 _ _ ((Own.grow (List.prefix_append _ _) o52)).rep (o7.mono (y60.trans (List.prefix_append _ _))) hb_oramX).trans (show _ = some (Go.Value.bool true, (M45 ++ [⟨[.int .i64 (oramX aLog aWidth aBound).1, .int .i64 (oramX aLog aWidth aBound).2.1, .int .i64 (oramX aLog aWidth aBound).2.2.1, .int .i64 (oramX aLog aWidth aBound).2.2.2.1.1, u48, u49, u50], 1, 2⟩])) by simp)
  have r65 : rdn (M45 ++ [⟨[.int .i64 (oramX aLog aWidth aBound).1, .int .i64 (oramX aLog aWidth aBound).2.1, .int .i64 (oramX aLog aWidth aBound).2.2.1, .int .i64 (oramX aLog aWidth aBound).2.2.2.1.1, u48, u49, u50], 1, 2⟩]) (M10.length) 0 7 = some [.int .i64 (oramX aLog aWidth aBound).1, .int .i64 (oramX aLog aWidth aBound).2.1, .int .i64 (oramX aLog aWidth aBound).2.2.1, .int .i64 (oramX aLog aWidth aBound).2.2.2.1.1, u13, u14, u15] := rdn_old (rdn_box b57 rfl)
  have d66 := d_laws_heldOram (M45 ++ [⟨[.int .i64 (oramX aLog aWidth aBound).1, .int .i64 (oramX aLog aWidth aBound).2.1, .int .i64 (oramX aLog aWidth aBound).2.2.1, .int .i64 (oramX aLog aWidth aBound).2.2.2.1.1, u48, u49, u50], 1, 2⟩]) u13 u14 u15 _ _ _ _ (1) _ ((Own.grow (List.prefix_append _ _) o58)).rep hb_oramX (by omega) (by omega)
  have c67 : ¬ (1 + totO (oramX aLog aWidth aBound) < 0) := by omega
  obtain ⟨_, sp68, sp69, sp70⟩ := rep_Oram2 (o7)
  obtain ⟨_, _, rfl⟩ := sp68.slen
  obtain ⟨_, _, rfl⟩ := sp69.slen
  obtain ⟨_, _, rfl⟩ := sp70.slen
  obtain ⟨_, sp71, sp72, sp73⟩ := rep_Oram2 ((o58).rep)
  obtain ⟨_, _, rfl⟩ := sp71.slen
  obtain ⟨_, _, rfl⟩ := sp72.slen
  obtain ⟨_, _, rfl⟩ := sp73.slen
  obtain ⟨_, sp74, sp75, sp76⟩ := rep_Oram2 ((o52).rep)
  obtain ⟨_, _, rfl⟩ := sp74.slen
  obtain ⟨_, _, rfl⟩ := sp75.slen
  obtain ⟨_, _, rfl⟩ := sp76.slen
  rw [aCall_eq T_laws_FnExactOramNew]; unfold A_laws_FnExactOramNew C_laws_FnExactOramNew; simp (maxSteps := 4000000) [s3, p2, s12, p11, r27, e28, m30, c41, r42, d43, c44, s47, p46, r63, e64, r65, d66, c67, thenD_pre]
  all_goals exact gc_ex _ _ _
theorem law_laws_FnExactOramNew (M : Mem) (avs : List V) (_ : ∀ b ∈ M, b.st ≠ 2) (h : Ins [(false, (.int .i64)), (false, (.int .i64)), (false, (.int .i64))] M avs) : ∃ M', aCall T0 F_laws_FnExactOramNew avs M = some (.bool true, M') := by
  obtain ⟨v_aLog, _, aLog, rfl, h_aLog, f_aLog, h⟩ := ins_cons h
  obtain ⟨v_aWidth, _, aWidth, rfl, h_aWidth, f_aWidth, h⟩ := ins_cons h
  obtain ⟨v_aBound, _, aBound, rfl, h_aBound, f_aBound, h⟩ := ins_cons h
  obtain rfl := ins_nil h
  obtain ⟨h_aLog, _⟩ := repv_one h_aLog
  cases h_aLog
  obtain ⟨h_aWidth, _⟩ := repv_one h_aWidth
  cases h_aWidth
  obtain ⟨h_aBound, _⟩ := repv_one h_aBound
  cases h_aBound
  exact c_laws_FnExactOramNew M aLog aWidth aBound
end GoAm
