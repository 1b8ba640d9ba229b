/- What the functions do that the law reaches. -/
import Derived.Test.YtlniheedmeaeeaaDeepOkt
import Derived.Test.YtlniheedmeaeeaaAmGr
set_option autoImplicit false
set_option linter.unusedVariables false
set_option linter.unusedSimpArgs false
namespace GoAm
open Go
abbrev ty_Cell : Ty := .sl .u8
abbrev ty_Touch : Ty := .pr (.int .i64) (.pr (.int .i64) (.int .i64))
instance d_Touch : DecidableEq ty_Touch.D := Ty.deq ty_Touch
abbrev ty_Mem : Ty := .pr (.int .i64) (.pr (.sl ty_Cell) (.sl ty_Touch))
theorem rep_g_Mem {M : Mem} {cs : List V} {x : ty_Mem.D} (h : Rep ty_Mem M cs x) : ∃ u0 u1 : V, cs = [.int .i64 x.1, u0, u1] ∧ (Lit.int .i64 x.1).wf = true ∧ Rep (.sl ty_Cell) M [u0] x.2.1 ∧ Rep (.sl ty_Touch) M [u1] x.2.2 := by
  obtain ⟨c0, d0, rfl, h0, h⟩ := h
  obtain ⟨rfl, w0⟩ := h0
  obtain ⟨c1, d1, rfl, h1, h⟩ := h
  obtain ⟨u0, rfl⟩ : ∃ u, c1 = [u] := by
    have l0 := Rep.len (h1)
    exact List.length_eq_one_iff.1 l0
  have r0 := h1
  obtain ⟨u1, rfl⟩ : ∃ u, d1 = [u] := by
    have l1 := Rep.len (h)
    exact List.length_eq_one_iff.1 l1
  have r1 := h
  exact ⟨u0, u1, rfl, w0, r0, r1⟩
abbrev ty_Byte : Ty := .u8
abbrev ty_Block : Ty := .pr (.int .i64) (.pr (.int .i64) (.sl ty_Byte))
instance d_Block : DecidableEq ty_Block.D := inferInstanceAs (DecidableEq (Int × Int × List UInt8))
abbrev ty_Oram : Ty := .pr (.int .i64) (.pr (.int .i64) (.pr (.int .i64) (.pr ty_Mem (.sl ty_Block))))
instance d_Oram0 : DecidableEq (ty_Mem.D × List ty_Block.D) := inferInstance
instance d_Oram1 : DecidableEq (Int × ty_Mem.D × List ty_Block.D) := @instDecidableEqProd _ _ inferInstance d_Oram0
instance d_Oram2 : DecidableEq (Int × Int × ty_Mem.D × List ty_Block.D) := @instDecidableEqProd _ _ inferInstance d_Oram1
instance d_Oram : DecidableEq ty_Oram.D := @instDecidableEqProd _ _ inferInstance d_Oram2
theorem rep_g_Oram {M : Mem} {cs : List V} {x : ty_Oram.D} (h : Rep ty_Oram M cs x) : ∃ u0 u1 u2 : V, cs = [.int .i64 x.1, .int .i64 x.2.1, .int .i64 x.2.2.1, .int .i64 x.2.2.2.1.1, u0, u1, u2] ∧ (Lit.int .i64 x.1).wf = true ∧ (Lit.int .i64 x.2.1).wf = true ∧ (Lit.int .i64 x.2.2.1).wf = true ∧ (Lit.int .i64 x.2.2.2.1.1).wf = true ∧ Rep (.sl ty_Cell) M [u0] x.2.2.2.1.2.1 ∧ Rep (.sl ty_Touch) M [u1] x.2.2.2.1.2.2 ∧ Rep (.sl ty_Block) M [u2] x.2.2.2.2 := by
  obtain ⟨c0, d0, rfl, h0, h⟩ := h
  obtain ⟨rfl, w0⟩ := h0
  obtain ⟨c1, d1, rfl, h1, h⟩ := h
  obtain ⟨rfl, w1⟩ := h1
  obtain ⟨c2, d2, rfl, h2, h⟩ := h
  obtain ⟨rfl, w2⟩ := h2
  obtain ⟨c3, d3, rfl, h3, h⟩ := h
  obtain ⟨u0, u1, rfl, w3, r0, r1⟩ := rep_g_Mem h3
  obtain ⟨u2, rfl⟩ : ∃ u, d3 = [u] := by
    have l2 := Rep.len (h)
    exact List.length_eq_one_iff.1 l2
  have r2 := h
  exact ⟨u0, u1, u2, rfl, w0, w1, w2, w3, r0, r1, r2⟩
abbrev ty_Int : Ty := .int .i64
abbrev ty_Deep : Ty := .pr (.int .i64) (.pr (.sl ty_Int) (.pr ty_Oram ty_Oram))
instance d_Deep0 : DecidableEq (ty_Oram.D × ty_Oram.D) := @instDecidableEqProd _ _ d_Oram d_Oram
instance d_Deep1 : DecidableEq (List Int × ty_Oram.D × ty_Oram.D) := @instDecidableEqProd _ _ inferInstance d_Deep0
instance d_Deep : DecidableEq ty_Deep.D := @instDecidableEqProd _ _ inferInstance d_Deep1
theorem rep_g_Deep {M : Mem} {cs : List V} {x : ty_Deep.D} (h : Rep ty_Deep M cs x) : ∃ u0 u1 u2 u3 u4 u5 u6 : V, cs = [.int .i64 x.1, u0, .int .i64 x.2.2.1.1, .int .i64 x.2.2.1.2.1, .int .i64 x.2.2.1.2.2.1, .int .i64 x.2.2.1.2.2.2.1.1, u1, u2, u3, .int .i64 x.2.2.2.1, .int .i64 x.2.2.2.2.1, .int .i64 x.2.2.2.2.2.1, .int .i64 x.2.2.2.2.2.2.1.1, u4, u5, u6] ∧ (Lit.int .i64 x.1).wf = true ∧ (Lit.int .i64 x.2.2.1.1).wf = true ∧ (Lit.int .i64 x.2.2.1.2.1).wf = true ∧ (Lit.int .i64 x.2.2.1.2.2.1).wf = true ∧ (Lit.int .i64 x.2.2.1.2.2.2.1.1).wf = true ∧ (Lit.int .i64 x.2.2.2.1).wf = true ∧ (Lit.int .i64 x.2.2.2.2.1).wf = true ∧ (Lit.int .i64 x.2.2.2.2.2.1).wf = true ∧ (Lit.int .i64 x.2.2.2.2.2.2.1.1).wf = true ∧ Rep (.sl ty_Int) M [u0] x.2.1 ∧ Rep (.sl ty_Cell) M [u1] x.2.2.1.2.2.2.1.2.1 ∧ Rep (.sl ty_Touch) M [u2] x.2.2.1.2.2.2.1.2.2 ∧ Rep (.sl ty_Block) M [u3] x.2.2.1.2.2.2.2 ∧ Rep (.sl ty_Cell) M [u4] x.2.2.2.2.2.2.1.2.1 ∧ Rep (.sl ty_Touch) M [u5] x.2.2.2.2.2.2.1.2.2 ∧ Rep (.sl ty_Block) M [u6] x.2.2.2.2.2.2.2 := by
  obtain ⟨c0, d0, rfl, h0, h⟩ := h
  obtain ⟨rfl, w0⟩ := h0
  obtain ⟨c1, d1, rfl, h1, h⟩ := h
  obtain ⟨u0, rfl⟩ : ∃ u, c1 = [u] := by
    have l0 := Rep.len (h1)
    exact List.length_eq_one_iff.1 l0
  have r0 := h1
  obtain ⟨c2, d2, rfl, h2, h⟩ := h
  obtain ⟨u1, u2, u3, rfl, w1, w2, w3, w4, r1, r2, r3⟩ := rep_g_Oram h2
  obtain ⟨u4, u5, u6, rfl, w5, w6, w7, w8, r4, r5, r6⟩ := rep_g_Oram h
  exact ⟨u0, u1, u2, u3, u4, u5, u6, rfl, w0, w1, w2, w3, w4, w5, w6, w7, w8, r0, r1, r2, r3, r4, r5, r6⟩
theorem mkown_g_Mem {M : Mem} {x : ty_Mem.D} {u0 u1 : V} {L0 L1 : List Nat} (w0 : (Lit.int .i64 x.1).wf = true) (r0 : Own (.sl ty_Cell) M [u0] x.2.1 L0) (r1 : Own (.sl ty_Touch) M [u1] x.2.2 L1) : Own ty_Mem M [.int .i64 x.1, u0, u1] x (L0 ++ L1) := by
  have h : Own ty_Mem M [.int .i64 x.1, u0, u1] x _ := ⟨[.int .i64 x.1], ([u0] ++ [u1]), _, _, rfl, ⟨⟨rfl, w0⟩, rfl⟩, ⟨[u0], ([u1]), _, _, rfl, r0, r1, rfl⟩, rfl⟩
  simpa only [List.append_nil, List.nil_append, List.append_assoc] using h
theorem mkown_g_Oram {M : Mem} {x : ty_Oram.D} {u0 u1 u2 : V} {L0 L1 L2 : List Nat} (w0 : (Lit.int .i64 x.1).wf = true) (w1 : (Lit.int .i64 x.2.1).wf = true) (w2 : (Lit.int .i64 x.2.2.1).wf = true) (w3 : (Lit.int .i64 x.2.2.2.1.1).wf = true) (r0 : Own (.sl ty_Cell) M [u0] x.2.2.2.1.2.1 L0) (r1 : Own (.sl ty_Touch) M [u1] x.2.2.2.1.2.2 L1) (r2 : Own (.sl ty_Block) M [u2] x.2.2.2.2 L2) : Own ty_Oram M [.int .i64 x.1, .int .i64 x.2.1, .int .i64 x.2.2.1, .int .i64 x.2.2.2.1.1, u0, u1, u2] x (L0 ++ L1 ++ L2) := by
  have h : Own ty_Oram M [.int .i64 x.1, .int .i64 x.2.1, .int .i64 x.2.2.1, .int .i64 x.2.2.2.1.1, u0, u1, u2] x _ := ⟨[.int .i64 x.1], ([.int .i64 x.2.1] ++ [.int .i64 x.2.2.1] ++ [.int .i64 x.2.2.2.1.1, u0, u1] ++ [u2]), _, _, rfl, ⟨⟨rfl, w0⟩, rfl⟩, ⟨[.int .i64 x.2.1], ([.int .i64 x.2.2.1] ++ [.int .i64 x.2.2.2.1.1, u0, u1] ++ [u2]), _, _, rfl, ⟨⟨rfl, w1⟩, rfl⟩, ⟨[.int .i64 x.2.2.1], ([.int .i64 x.2.2.2.1.1, u0, u1] ++ [u2]), _, _, rfl, ⟨⟨rfl, w2⟩, rfl⟩, ⟨[.int .i64 x.2.2.2.1.1, u0, u1], ([u2]), _, _, rfl, (mkown_g_Mem w3 r0 r1), r2, rfl⟩, rfl⟩, rfl⟩, rfl⟩
  simpa only [List.append_nil, List.nil_append, List.append_assoc] using h
theorem mkown_g_Deep {M : Mem} {x : ty_Deep.D} {u0 u1 u2 u3 u4 u5 u6 : V} {L0 L1 L2 L3 L4 L5 L6 : List Nat} (w0 : (Lit.int .i64 x.1).wf = true) (w1 : (Lit.int .i64 x.2.2.1.1).wf = true) (w2 : (Lit.int .i64 x.2.2.1.2.1).wf = true) (w3 : (Lit.int .i64 x.2.2.1.2.2.1).wf = true) (w4 : (Lit.int .i64 x.2.2.1.2.2.2.1.1).wf = true) (w5 : (Lit.int .i64 x.2.2.2.1).wf = true) (w6 : (Lit.int .i64 x.2.2.2.2.1).wf = true) (w7 : (Lit.int .i64 x.2.2.2.2.2.1).wf = true) (w8 : (Lit.int .i64 x.2.2.2.2.2.2.1.1).wf = true) (r0 : Own (.sl ty_Int) M [u0] x.2.1 L0) (r1 : Own (.sl ty_Cell) M [u1] x.2.2.1.2.2.2.1.2.1 L1) (r2 : Own (.sl ty_Touch) M [u2] x.2.2.1.2.2.2.1.2.2 L2) (r3 : Own (.sl ty_Block) M [u3] x.2.2.1.2.2.2.2 L3) (r4 : Own (.sl ty_Cell) M [u4] x.2.2.2.2.2.2.1.2.1 L4) (r5 : Own (.sl ty_Touch) M [u5] x.2.2.2.2.2.2.1.2.2 L5) (r6 : Own (.sl ty_Block) M [u6] x.2.2.2.2.2.2.2 L6) : Own ty_Deep M [.int .i64 x.1, u0, .int .i64 x.2.2.1.1, .int .i64 x.2.2.1.2.1, .int .i64 x.2.2.1.2.2.1, .int .i64 x.2.2.1.2.2.2.1.1, u1, u2, u3, .int .i64 x.2.2.2.1, .int .i64 x.2.2.2.2.1, .int .i64 x.2.2.2.2.2.1, .int .i64 x.2.2.2.2.2.2.1.1, u4, u5, u6] x (L0 ++ L1 ++ L2 ++ L3 ++ L4 ++ L5 ++ L6) := by
  have h : Own ty_Deep M [.int .i64 x.1, u0, .int .i64 x.2.2.1.1, .int .i64 x.2.2.1.2.1, .int .i64 x.2.2.1.2.2.1, .int .i64 x.2.2.1.2.2.2.1.1, u1, u2, u3, .int .i64 x.2.2.2.1, .int .i64 x.2.2.2.2.1, .int .i64 x.2.2.2.2.2.1, .int .i64 x.2.2.2.2.2.2.1.1, u4, u5, u6] x _ := ⟨[.int .i64 x.1], ([u0] ++ [.int .i64 x.2.2.1.1, .int .i64 x.2.2.1.2.1, .int .i64 x.2.2.1.2.2.1, .int .i64 x.2.2.1.2.2.2.1.1, u1, u2, u3] ++ [.int .i64 x.2.2.2.1, .int .i64 x.2.2.2.2.1, .int .i64 x.2.2.2.2.2.1, .int .i64 x.2.2.2.2.2.2.1.1, u4, u5, u6]), _, _, rfl, ⟨⟨rfl, w0⟩, rfl⟩, ⟨[u0], ([.int .i64 x.2.2.1.1, .int .i64 x.2.2.1.2.1, .int .i64 x.2.2.1.2.2.1, .int .i64 x.2.2.1.2.2.2.1.1, u1, u2, u3] ++ [.int .i64 x.2.2.2.1, .int .i64 x.2.2.2.2.1, .int .i64 x.2.2.2.2.2.1, .int .i64 x.2.2.2.2.2.2.1.1, u4, u5, u6]), _, _, rfl, r0, ⟨[.int .i64 x.2.2.1.1, .int .i64 x.2.2.1.2.1, .int .i64 x.2.2.1.2.2.1, .int .i64 x.2.2.1.2.2.2.1.1, u1, u2, u3], ([.int .i64 x.2.2.2.1, .int .i64 x.2.2.2.2.1, .int .i64 x.2.2.2.2.2.1, .int .i64 x.2.2.2.2.2.2.1.1, u4, u5, u6]), _, _, rfl, (mkown_g_Oram w1 w2 w3 w4 r1 r2 r3), (mkown_g_Oram w5 w6 w7 w8 r4 r5 r6), rfl⟩, rfl⟩, rfl⟩
  simpa only [List.append_nil, List.nil_append, List.append_assoc] using h
theorem own_g_Mem {M : Mem} {cs : List V} {x : ty_Mem.D} {L : List Nat} (h : Own ty_Mem M cs x L) : ∃ (u0 u1 : V) (L0 L1 : List Nat), cs = [.int .i64 x.1, u0, u1] ∧ (Lit.int .i64 x.1).wf = true ∧ Own (.sl ty_Cell) M [u0] x.2.1 L0 ∧ Own (.sl ty_Touch) M [u1] x.2.2 L1 ∧ L = L0 ++ L1 := by
  obtain ⟨c0, d0, K0, J0, rfl, h0, h, rfl⟩ := h
  obtain ⟨⟨rfl, w0⟩, rfl⟩ := h0
  obtain ⟨c1, d1, K1, J1, rfl, h1, h, rfl⟩ := h
  obtain ⟨u0, rfl⟩ : ∃ u, c1 = [u] := by
    have l0 := Rep.len ((h1).rep)
    exact List.length_eq_one_iff.1 l0
  have r0 := h1
  obtain ⟨u1, rfl⟩ : ∃ u, d1 = [u] := by
    have l1 := Rep.len ((h).rep)
    exact List.length_eq_one_iff.1 l1
  have r1 := h
  exact ⟨u0, u1, _, _, rfl, w0, r0, r1, by simp⟩
theorem own_g_Oram {M : Mem} {cs : List V} {x : ty_Oram.D} {L : List Nat} (h : Own ty_Oram M cs x L) : ∃ (u0 u1 u2 : V) (L0 L1 L2 : List Nat), cs = [.int .i64 x.1, .int .i64 x.2.1, .int .i64 x.2.2.1, .int .i64 x.2.2.2.1.1, u0, u1, u2] ∧ (Lit.int .i64 x.1).wf = true ∧ (Lit.int .i64 x.2.1).wf = true ∧ (Lit.int .i64 x.2.2.1).wf = true ∧ (Lit.int .i64 x.2.2.2.1.1).wf = true ∧ Own (.sl ty_Cell) M [u0] x.2.2.2.1.2.1 L0 ∧ Own (.sl ty_Touch) M [u1] x.2.2.2.1.2.2 L1 ∧ Own (.sl ty_Block) M [u2] x.2.2.2.2 L2 ∧ L = L0 ++ L1 ++ L2 := by
  obtain ⟨c0, d0, K0, J0, rfl, h0, h, rfl⟩ := h
  obtain ⟨⟨rfl, w0⟩, rfl⟩ := h0
  obtain ⟨c1, d1, K1, J1, rfl, h1, h, rfl⟩ := h
  obtain ⟨⟨rfl, w1⟩, rfl⟩ := h1
  obtain ⟨c2, d2, K2, J2, rfl, h2, h, rfl⟩ := h
  obtain ⟨⟨rfl, w2⟩, rfl⟩ := h2
  obtain ⟨c3, d3, K3, J3, rfl, h3, h, rfl⟩ := h
  obtain ⟨u0, u1, Q3_0, Q3_1, rfl, w3, r0, r1, rfl⟩ := own_g_Mem h3
  obtain ⟨u2, rfl⟩ : ∃ u, d3 = [u] := by
    have l2 := Rep.len ((h).rep)
    exact List.length_eq_one_iff.1 l2
  have r2 := h
  exact ⟨u0, u1, u2, _, _, _, rfl, w0, w1, w2, w3, r0, r1, r2, by simp⟩
theorem mkrep_g_Mem {M : Mem} {x : ty_Mem.D} {u0 u1 : V} (w0 : (Lit.int .i64 x.1).wf = true) (r0 : Rep (.sl ty_Cell) M [u0] x.2.1) (r1 : Rep (.sl ty_Touch) M [u1] x.2.2) : Rep ty_Mem M [.int .i64 x.1, u0, u1] x := by
  exact ⟨[.int .i64 x.1], ([u0] ++ [u1]), rfl, ⟨rfl, w0⟩, ⟨[u0], ([u1]), rfl, r0, r1⟩⟩
theorem mkrep_g_Oram {M : Mem} {x : ty_Oram.D} {u0 u1 u2 : V} (w0 : (Lit.int .i64 x.1).wf = true) (w1 : (Lit.int .i64 x.2.1).wf = true) (w2 : (Lit.int .i64 x.2.2.1).wf = true) (w3 : (Lit.int .i64 x.2.2.2.1.1).wf = true) (r0 : Rep (.sl ty_Cell) M [u0] x.2.2.2.1.2.1) (r1 : Rep (.sl ty_Touch) M [u1] x.2.2.2.1.2.2) (r2 : Rep (.sl ty_Block) M [u2] x.2.2.2.2) : Rep ty_Oram M [.int .i64 x.1, .int .i64 x.2.1, .int .i64 x.2.2.1, .int .i64 x.2.2.2.1.1, u0, u1, u2] x := by
  exact ⟨[.int .i64 x.1], ([.int .i64 x.2.1] ++ [.int .i64 x.2.2.1] ++ [.int .i64 x.2.2.2.1.1, u0, u1] ++ [u2]), rfl, ⟨rfl, w0⟩, ⟨[.int .i64 x.2.1], ([.int .i64 x.2.2.1] ++ [.int .i64 x.2.2.2.1.1, u0, u1] ++ [u2]), rfl, ⟨rfl, w1⟩, ⟨[.int .i64 x.2.2.1], ([.int .i64 x.2.2.2.1.1, u0, u1] ++ [u2]), rfl, ⟨rfl, w2⟩, ⟨[.int .i64 x.2.2.2.1.1, u0, u1], ([u2]), rfl, (mkrep_g_Mem w3 r0 r1), r2⟩⟩⟩⟩
abbrev enc_Touch (x : ty_Touch.D) : List V := [.int .i64 x.1, .int .i64 x.2.1, .int .i64 x.2.2]
theorem own_Touch (M : Mem) (x : ty_Touch.D) (h0 : (Lit.int .i64 x.1).wf = true) (h1 : (Lit.int .i64 x.2.1).wf = true) (h2 : (Lit.int .i64 x.2.2).wf = true) : Own ty_Touch M (enc_Touch x) x [] := ⟨[.int .i64 x.1], [.int .i64 x.2.1, .int .i64 x.2.2], [], [], rfl, ⟨⟨rfl, h0⟩, rfl⟩, ⟨[.int .i64 x.2.1], [.int .i64 x.2.2], [], [], rfl, ⟨⟨rfl, h1⟩, rfl⟩, ⟨⟨rfl, h2⟩, rfl⟩, rfl⟩, rfl⟩
theorem rown_Touch {M : Mem} {x : ty_Touch.D} (h : Rep ty_Touch M (enc_Touch x) x) : Own ty_Touch M (enc_Touch x) x [] := by
  obtain ⟨_, _, _, ⟨_, w1⟩, c3, c4, _, ⟨_, w2⟩, ⟨_, w3⟩⟩ := h
  exact own_Touch M x w1 w2 w3
theorem rep_Touch {M : Mem} {cs : List V} {x : ty_Touch.D} (h : Rep ty_Touch M cs x) : cs = enc_Touch x := by
  obtain ⟨_, _, rfl, ⟨rfl, _⟩, ⟨_, _, rfl, ⟨rfl, _⟩, ⟨rfl, _⟩⟩⟩ := h
  rfl
theorem c_laws_toTouch_f (M : Mem) (x : ty_Touch.D) : aCall T0 F_laws_toTouch [.agg (enc_Touch x).toArray] M = some (.agg (enc_Touch x).toArray, M) := by
  rw [aCall_eq T_laws_toTouch]; unfold A_laws_toTouch C_laws_toTouch; simp
theorem k_laws_toTouch : ToF T0 ty_Touch F_laws_toTouch := fun M cs x h hb => by
  obtain rfl := rep_Touch h
  exact ⟨M, _, [], List.prefix_refl _, c_laws_toTouch_f M x, rown_Touch h, by simp, by simp⟩
def z_Touch : List V := [(.int .i64 0), (.int .i64 0), (.int .i64 0)]
theorem k_laws_toTouchS : ToS T0 ty_Touch F_laws_toTouchS := to_sl (w := 3) (bytes := 24) (zero := z_Touch) T_laws_toTouchS rfl rfl rfl (by decide) k_laws_toTouch
theorem rep_g_Cell {M : Mem} {cs : List V} {x : ty_Cell.D} (h : Rep ty_Cell M cs x) : ∃ u0 : V, cs = [u0] ∧ Rep (.sl ty_Byte) M [u0] x := by
  obtain ⟨u0, rfl⟩ : ∃ u, cs = [u] := by
    have l0 := Rep.len (h)
    exact List.length_eq_one_iff.1 l0
  have r0 := h
  exact ⟨u0, rfl, r0⟩
theorem mkown_g_Cell {M : Mem} {x : ty_Cell.D} {u0 : V} {L0 : List Nat} (r0 : Own (.sl ty_Byte) M [u0] x L0) : Own ty_Cell M [u0] x (L0) := by
  have h : Own ty_Cell M [u0] x _ := r0
  simpa only [List.append_nil, List.nil_append, List.append_assoc] using h
theorem nodup_flat {t : Ty} (hf : ∀ (M : Mem) (cs : List V) (x : t.D) (K : List Nat), Own t M cs x K → K = []) {M : Mem} {v : V} {xs : List t.D} {L : List Nat} (h : Own (.sl t) M [v] xs L) : L.Nodup := by
  rcases own_flat hf h with ⟨_, rfl, _⟩ | ⟨l, _, _, _, _, _, _, _, _, _, rfl⟩ <;> simp
theorem ownf_Byte (M : Mem) (cs : List V) (x : ty_Byte.D) (K : List Nat) (h : Own ty_Byte M cs x K) : K = [] := h.2
abbrev enc_Byte (x : ty_Byte.D) : List V := [byteV x]
def z_Byte : List V := [.int .u8 0]
theorem at_Byte {M : Mem} {a : Option Addr} {n c : Nat} {xs : List ty_Byte.D} (h : Rep (.sl ty_Byte) M [.slice a n c] xs) {i : Nat} (hi : i < xs.length) : ∃ l o, a = some ⟨l, o, none⟩ ∧ Rep ty_Byte M (enc_Byte xs[i]) xs[i] ∧ rd1 M l (o + i) = some (byteV xs[i]) := by
  obtain ⟨_, l, o, rfl, cs, hrd, hrep⟩ := rep_at h hi
  have hcs : cs = enc_Byte xs[i] := hrep
  subst hcs
  have hw1 : ty_Byte.w = 1 := rfl
  rw [hw1, Nat.mul_one] at hrd
  exact ⟨l, o, rfl, hrep, rd1_of_one hrd⟩
theorem r_laws_toByteS (M : Mem) (a : Option Addr) (c : Nat) (xs : List ty_Byte.D) (h : Rep (.sl ty_Byte) M [.slice a xs.length c] xs) (hn : xs.length ≤ 1048576) (i : Nat) (hi : i < xs.length) :
    lp (aCall T0) K_laws_toByteS_0 L_laws_toByteS_0 [.slice a xs.length c, und, und, .slice (some ⟨M.length, 0, none⟩) xs.length xs.length, .int .i64 i, und, und, und, und, und, und, und, und, und, und, und, und, und, und, und, und, und] (M ++ [⟨tcells enc_Byte z_Byte xs i, 1, 2⟩]) =
    lp (aCall T0) K_laws_toByteS_0 L_laws_toByteS_0 [.slice a xs.length c, und, und, .slice (some ⟨M.length, 0, none⟩) xs.length xs.length, .int .i64 (i + 1 : Nat), und, und, und, und, und, und, und, und, und, und, und, und, und, und, und, und, und] (M ++ [⟨tcells enc_Byte z_Byte xs (i + 1), 1, 2⟩]) := by
  obtain ⟨l, o, rfl, hrep, hrd⟩ := at_Byte h hi
  have hrd2 : rd1 (M ++ [⟨tcells enc_Byte z_Byte xs i, 1, 2⟩]) l (o + i) = some (byteV xs[i]) := rd1_old hrd
  have e2 := tcells_len (enc := enc_Byte) (z := z_Byte) (xs := xs) (fun x _ => rfl) (i := i) (by omega)
  have e3 := tcells_step (enc := enc_Byte) (z := z_Byte) (xs := xs) (fun x _ => rfl) hi
  have e4 : z_Byte.length = 1 := rfl
  rw [e4, Nat.mul_one] at e2 e3
  have e5 : i + 1 ≤ xs.length := by omega
  have e6 : IntKind.i64.wrap ((i : Int) + 1) = i + 1 := wrap_i64 (by omega) (by omega)
  unfold splice at e3
  simp at e3
  rw [S_laws_toByteS_0]; unfold B_laws_toByteS_0; simp [hrd2, e2, e3, e5, e6, hi]
theorem c_laws_toByteS (M : Mem) (v : V) (xs : List ty_Byte.D) (h : Rep (.sl ty_Byte) M [v] xs) (hn : xs.length ≤ 1048576) :
    aCall T0 F_laws_toByteS [v] M = some (.slice (some ⟨M.length, 0, none⟩) xs.length xs.length, M ++ [⟨(xs.map enc_Byte).flatten, 1, 2⟩]) := by
  obtain ⟨a, c, rfl⟩ := h.slen
  have hl := chain (g := fun i : Nat => lp (aCall T0) K_laws_toByteS_0 L_laws_toByteS_0 [.slice a xs.length c, und, und, .slice (some ⟨M.length, 0, none⟩) xs.length xs.length, .int .i64 i, und, und, und, und, und, und, und, und, und, und, und, und, und, und, und, und, und] (M ++ [⟨tcells enc_Byte z_Byte xs i, 1, 2⟩])) (n := xs.length) fun i hi => r_laws_toByteS M a c xs h hn i hi
  simp only [Int.natCast_zero, Int.ofNat_zero, tcells_zero, tcells_full] at hl
  unfold z_Byte at hl
  simp only [zeroCells_zc] at hl
  have e1 : (xs.length : Int) ≤ 281474976710656 := by omega
  have e2 : (xs.length : Int) ≤ 9223372036854775807 := by omega
  rw [aCall_eq T_laws_toByteS]; unfold A_laws_toByteS C_laws_toByteS; simp [e1, e2]
  rw [hl]
  rw [S_laws_toByteS_0]; unfold B_laws_toByteS_0; simp
theorem own_Byte (M : Mem) (x : ty_Byte.D) : Own ty_Byte M (enc_Byte x) x [] := ⟨rfl, rfl⟩
theorem d_laws_toByteS (M : Mem) (v : V) (xs : List ty_Byte.D) (h : Rep (.sl ty_Byte) M [v] xs) (hn : xs.length ≤ 1048576) : ∃ M' u L, M <+: M' ∧ aCall T0 F_laws_toByteS [v] M = some (u, M') ∧ Own (.sl ty_Byte) M' [u] xs L ∧ ∀ l ∈ L, M.length ≤ l ∧ l < M'.length := by
  have e := c_laws_toByteS M v xs h hn
  obtain ⟨L, o1, o2⟩ := own_blk (t := ty_Byte) (M := M ++ [⟨(xs.map enc_Byte).flatten, 1, 2⟩]) (l := M.length) (c := xs.length) (enc := enc_Byte) (ys := xs) (by simp; rfl) (fun y _ => own_Byte _ y)
  exact ⟨_, _, L, List.prefix_append _ _, e, o1, fun l hl => by rw [o2 l hl]; simp⟩
theorem k_laws_toByteS : ToS T0 ty_Byte F_laws_toByteS := fun M v xs h hb => by
  obtain ⟨M', u, L, p, e, o, f⟩ := d_laws_toByteS M v xs h hb.1
  exact ⟨M', u, L, p, e, o, nodup_flat ownf_Byte o, f⟩
set_option maxHeartbeats 4000000 in
theorem k_laws_toCell : ToF T0 ty_Cell F_laws_toCell := by
  intro M cs x h hb
  obtain ⟨u0, rfl, r0⟩ := rep_g_Cell h
  have i0 := one_head r0.one
  show ToG ty_Cell M x _
  rw [aCall_eq T_laws_toCell]; unfold A_laws_toCell C_laws_toCell; simp [thenD_pp, sliceCells_sl, sliceCells_z, sliceCells_nil, take_full, appS_sl, appK_ok, appS_none, thenD_ag, agP_nil, agP_cons, i0]
  generalize hx1 : aCall T0 F_laws_toByteS _ _ = x_1
  obtain ⟨M1, v0, K1, rfl, p1, o1, F1⟩ := ToS.at k_laws_toByteS hx1 (r0.mono (List.prefix_append _ _)) hb
  have f1 := F1.2
  clear hx1
  have b0_1 : M1[M.length]? = some ⟨[u0], 1, 2⟩ := get_pre p1 (by simp)
  have b1_1 : M1[M.length + 1]? = some ⟨[(.slice none 0 0)], 1, 2⟩ := get_pre p1 (by simp)
  have b2_1 : M1[M.length + 2]? = some ⟨[(.slice none 0 0)], 1, 2⟩ := get_pre p1 (by simp)
  have l_1 := get_lt b2_1
  have y1 : M <+: M1 := (List.prefix_append _ _).trans p1
  simp only [List.length_append, List.length_cons, List.length_nil] at f1
  have z1 : M <+: M1.set (M.length + 2) ⟨[v0], 1, 2⟩ := pf_set (by omega) y1
  have q1 := one_head (o1.rep.one)
  have qc1 := cells_sl o1
  have hb1 : (M1.set (M.length + 2) ⟨[v0], 1, 2⟩)[M.length + 1]? = some ⟨[(.slice none 0 0)], 1, 2⟩ := by simp [b1_1]
  have g1 := ((o1.set (b2 := ⟨[v0], 1, 2⟩) b2_1 rfl (fun hm => by have := f1 _ hm; omega)).set (b2 := ⟨[v0], 1, 2⟩) hb1 rfl (fun hm => by have := f1 _ hm; omega))
  have hh := mkown_g_Cell (x := x) g1
  try simp only [List.append_assoc] at hh
  obtain ⟨_, _, rfl⟩ := o1.rep.slen
  have gs2 : ∀ B C : Blk, ((M1.set (M.length + 2) B).set (M.length + 1) C)[M.length + 1]? = some C := fun B C => List.getElem?_set_self (by rw [List.length_set]; omega)
  simp [thenD_pp, sliceCells_sl, sliceCells_z, sliceCells_nil, take_full, appS_sl, appK_ok, appS_none, thenD_ag, agP_nil, agP_cons, b0_1, b1_1, b2_1, gs_of b2_1, gs2, rd1_K, rdJ_ok, rdn_K, rnJ_ok, wrn_K, wrJ_ok]
  refine ⟨_, _, K1, ?_, rfl, ?_, ?_⟩
  · exact pf_set (by omega) (pf_set (by omega) y1)
  · first | exact hh | (simp only [List.append_assoc]; exact hh)
  · refine ⟨F1.1, fun l hl => ?_⟩
    have := F1.2 l hl
    simp only [List.length_append, List.length_cons, List.length_nil, List.length_set] at this ⊢
    omega
theorem k_laws_toCellS : ToS T0 ty_Cell F_laws_toCellS := to_sl (w := 1) (bytes := 24) (zero := [.slice none 0 0]) T_laws_toCellS rfl rfl rfl (by decide) k_laws_toCell
set_option maxHeartbeats 4000000 in
theorem k_laws_toMem : ToF T0 ty_Mem F_laws_toMem := by
  intro M cs x h hb
  obtain ⟨u0, u1, rfl, w0, r0, r1⟩ := rep_g_Mem h
  have i0 := one_head r0.one
  have i1 := one_head r1.one
  show ToG ty_Mem M x _
  rw [aCall_eq T_laws_toMem]; unfold A_laws_toMem C_laws_toMem; simp [thenD_pp, sliceCells_sl, sliceCells_z, sliceCells_nil, take_full, appS_sl, appK_ok, appS_none, thenD_ag, agP_nil, agP_cons, i0, i1]
  generalize hx1 : aCall T0 F_laws_toCellS _ _ = x_1
  obtain ⟨M1, v0, K1, rfl, p1, o1, F1⟩ := ToS.at k_laws_toCellS hx1 (r0.mono (List.prefix_append _ _)) hb.2.1
  have f1 := F1.2
  clear hx1
  have b0_1 : M1[M.length]? = some ⟨[.int .i64 x.1, u0, u1], 1, 2⟩ := get_pre p1 (by simp)
  have b1_1 : M1[M.length + 1]? = some ⟨[(.int .i64 0), (.slice none 0 0), (.slice none 0 0)], 1, 2⟩ := get_pre p1 (by simp)
  have b2_1 : M1[M.length + 2]? = some ⟨[.int .i64 x.1, (.slice none 0 0), (.slice none 0 0)], 1, 2⟩ := get_pre p1 (by simp)
  have l_1 := get_lt b2_1
  have y1 : M <+: M1 := (List.prefix_append _ _).trans p1
  simp only [List.length_append, List.length_cons, List.length_nil] at f1
  have z1 : M <+: M1.set (M.length + 2) ⟨[.int .i64 x.1, v0, (.slice none 0 0)], 1, 2⟩ := pf_set (by omega) y1
  have q1 := one_head (o1.rep.one)
  have qc1 := cells_sl o1
  simp [thenD_pp, sliceCells_sl, sliceCells_z, sliceCells_nil, take_full, appS_sl, appK_ok, appS_none, thenD_ag, agP_nil, agP_cons, b0_1, b1_1, b2_1, gs_of b2_1, q1, qc1, rd1_K, rdJ_ok, rdn_K, rnJ_ok, wrn_K, wrJ_ok]
  generalize hx2 : aCall T0 F_laws_toTouchS _ _ = x_2
  obtain ⟨M2, v1, K2, rfl, p2, o2, F2⟩ := ToS.at k_laws_toTouchS hx2 (r1.mono z1) hb.2.2
  have f2 := F2.2
  clear hx2
  have b0_2 : M2[M.length]? = some ⟨[.int .i64 x.1, u0, u1], 1, 2⟩ := get_pre p2 (by simp [b0_1])
  have b1_2 : M2[M.length + 1]? = some ⟨[(.int .i64 0), (.slice none 0 0), (.slice none 0 0)], 1, 2⟩ := get_pre p2 (by simp [b1_1])
  have b2_2 : M2[M.length + 2]? = some ⟨[.int .i64 x.1, v0, (.slice none 0 0)], 1, 2⟩ := get_pre p2 (by simp [l_1])
  have l_2 := get_lt b2_2
  have y2 : M <+: M2 := z1.trans p2
  simp only [List.length_set] at f2
  have G2 := F1.app (by simp) F2 p1.length_le p2
  have g0_2 := Nat.le_trans p1.length_le (Nat.le_trans (Nat.le_of_eq (List.length_set).symm) p2.length_le)
  have o1 := (o1.set (b2 := ⟨[.int .i64 x.1, v0, (.slice none 0 0)], 1, 2⟩) b2_1 rfl (fun hm => by have := f1 _ hm; omega)).grow p2
  have f1 : ∀ l ∈ K1, M.length + 3 ≤ l ∧ l < M2.length := fun l hl => by have := f1 l hl; have := p2.length_le; simp only [List.length_set] at this; omega
  have z2 : M <+: M2.set (M.length + 2) ⟨[.int .i64 x.1, v0, v1], 1, 2⟩ := pf_set (by omega) y2
  have q2 := one_head (o2.rep.one)
  have qc2 := cells_sl o2
  have hb1 : (M2.set (M.length + 2) ⟨[.int .i64 x.1, v0, v1], 1, 2⟩)[M.length + 1]? = some ⟨[(.int .i64 0), (.slice none 0 0), (.slice none 0 0)], 1, 2⟩ := by simp [b1_2]
  have g1 := ((o1.set (b2 := ⟨[.int .i64 x.1, v0, v1], 1, 2⟩) b2_2 rfl (fun hm => by have := f1 _ hm; omega)).set (b2 := ⟨[.int .i64 x.1, v0, v1], 1, 2⟩) hb1 rfl (fun hm => by have := f1 _ hm; omega))
  have g2 := ((o2.set (b2 := ⟨[.int .i64 x.1, v0, v1], 1, 2⟩) b2_2 rfl (fun hm => by have := f2 _ hm; omega)).set (b2 := ⟨[.int .i64 x.1, v0, v1], 1, 2⟩) hb1 rfl (fun hm => by have := f2 _ hm; omega))
  have hh := mkown_g_Mem (x := x) w0 g1 g2
  try simp only [List.append_assoc] at hh
  obtain ⟨_, _, rfl⟩ := o1.rep.slen
  obtain ⟨_, _, rfl⟩ := o2.rep.slen
  have gs2 : ∀ B C : Blk, ((M2.set (M.length + 2) B).set (M.length + 1) C)[M.length + 1]? = some C := fun B C => List.getElem?_set_self (by rw [List.length_set]; omega)
  simp [thenD_pp, sliceCells_sl, sliceCells_z, sliceCells_nil, take_full, appS_sl, appK_ok, appS_none, thenD_ag, agP_nil, agP_cons, b0_2, b1_2, b2_2, gs_of b2_2, gs2, rd1_K, rdJ_ok, rdn_K, rnJ_ok, wrn_K, wrJ_ok]
  refine ⟨_, _, K1 ++ K2, ?_, rfl, ?_, ?_⟩
  · exact pf_set (by omega) (pf_set (by omega) y2)
  · first | exact hh | (simp only [List.append_assoc]; exact hh)
  · refine ⟨G2.1, fun l hl => ?_⟩
    have := G2.2 l hl
    simp only [List.length_append, List.length_cons, List.length_nil, List.length_set] at this ⊢
    omega
theorem rep_g_Block {M : Mem} {cs : List V} {x : ty_Block.D} (h : Rep ty_Block M cs x) : ∃ u0 : V, cs = [.int .i64 x.1, .int .i64 x.2.1, u0] ∧ (Lit.int .i64 x.1).wf = true ∧ (Lit.int .i64 x.2.1).wf = true ∧ Rep (.sl ty_Byte) M [u0] x.2.2 := by
  obtain ⟨c0, d0, rfl, h0, h⟩ := h
  obtain ⟨rfl, w0⟩ := h0
  obtain ⟨c1, d1, rfl, h1, h⟩ := h
  obtain ⟨rfl, w1⟩ := h1
  obtain ⟨u0, rfl⟩ : ∃ u, d1 = [u] := by
    have l0 := Rep.len (h)
    exact List.length_eq_one_iff.1 l0
  have r0 := h
  exact ⟨u0, rfl, w0, w1, r0⟩
theorem mkown_g_Block {M : Mem} {x : ty_Block.D} {u0 : V} {L0 : List Nat} (w0 : (Lit.int .i64 x.1).wf = true) (w1 : (Lit.int .i64 x.2.1).wf = true) (r0 : Own (.sl ty_Byte) M [u0] x.2.2 L0) : Own ty_Block M [.int .i64 x.1, .int .i64 x.2.1, u0] x (L0) := by
  have h : Own ty_Block M [.int .i64 x.1, .int .i64 x.2.1, u0] x _ := ⟨[.int .i64 x.1], ([.int .i64 x.2.1] ++ [u0]), _, _, rfl, ⟨⟨rfl, w0⟩, rfl⟩, ⟨[.int .i64 x.2.1], ([u0]), _, _, rfl, ⟨⟨rfl, w1⟩, rfl⟩, r0, rfl⟩, rfl⟩
  simpa only [List.append_nil, List.nil_append, List.append_assoc] using h
set_option maxHeartbeats 4000000 in
theorem k_laws_toBlock : ToF T0 ty_Block F_laws_toBlock := by
  intro M cs x h hb
  obtain ⟨u0, rfl, w0, w1, r0⟩ := rep_g_Block h
  have i0 := one_head r0.one
  show ToG ty_Block M x _
  rw [aCall_eq T_laws_toBlock]; unfold A_laws_toBlock C_laws_toBlock; simp [thenD_pp, sliceCells_sl, sliceCells_z, sliceCells_nil, take_full, appS_sl, appK_ok, appS_none, thenD_ag, agP_nil, agP_cons, i0]
  generalize hx1 : aCall T0 F_laws_toByteS _ _ = x_1
  obtain ⟨M1, v0, K1, rfl, p1, o1, F1⟩ := ToS.at k_laws_toByteS hx1 (r0.mono (List.prefix_append _ _)) hb.2.2
  have f1 := F1.2
  clear hx1
  have b0_1 : M1[M.length]? = some ⟨[.int .i64 x.1, .int .i64 x.2.1, u0], 1, 2⟩ := get_pre p1 (by simp)
  have b1_1 : M1[M.length + 1]? = some ⟨[(.int .i64 0), (.int .i64 0), (.slice none 0 0)], 1, 2⟩ := get_pre p1 (by simp)
  have b2_1 : M1[M.length + 2]? = some ⟨[.int .i64 x.1, .int .i64 x.2.1, (.slice none 0 0)], 1, 2⟩ := get_pre p1 (by simp)
  have l_1 := get_lt b2_1
  have y1 : M <+: M1 := (List.prefix_append _ _).trans p1
  simp only [List.length_append, List.length_cons, List.length_nil] at f1
  have z1 : M <+: M1.set (M.length + 2) ⟨[.int .i64 x.1, .int .i64 x.2.1, v0], 1, 2⟩ := pf_set (by omega) y1
  have q1 := one_head (o1.rep.one)
  have qc1 := cells_sl o1
  have hb1 : (M1.set (M.length + 2) ⟨[.int .i64 x.1, .int .i64 x.2.1, v0], 1, 2⟩)[M.length + 1]? = some ⟨[(.int .i64 0), (.int .i64 0), (.slice none 0 0)], 1, 2⟩ := by simp [b1_1]
  have g1 := ((o1.set (b2 := ⟨[.int .i64 x.1, .int .i64 x.2.1, v0], 1, 2⟩) b2_1 rfl (fun hm => by have := f1 _ hm; omega)).set (b2 := ⟨[.int .i64 x.1, .int .i64 x.2.1, v0], 1, 2⟩) hb1 rfl (fun hm => by have := f1 _ hm; omega))
  have hh := mkown_g_Block (x := x) w0 w1 g1
  try simp only [List.append_assoc] at hh
  obtain ⟨_, _, rfl⟩ := o1.rep.slen
  have gs2 : ∀ B C : Blk, ((M1.set (M.length + 2) B).set (M.length + 1) C)[M.length + 1]? = some C := fun B C => List.getElem?_set_self (by rw [List.length_set]; omega)
  simp [thenD_pp, sliceCells_sl, sliceCells_z, sliceCells_nil, take_full, appS_sl, appK_ok, appS_none, thenD_ag, agP_nil, agP_cons, b0_1, b1_1, b2_1, gs_of b2_1, gs2, rd1_K, rdJ_ok, rdn_K, rnJ_ok, wrn_K, wrJ_ok]
  refine ⟨_, _, K1, ?_, rfl, ?_, ?_⟩
  · exact pf_set (by omega) (pf_set (by omega) y1)
  · first | exact hh | (simp only [List.append_assoc]; exact hh)
  · refine ⟨F1.1, fun l hl => ?_⟩
    have := F1.2 l hl
    simp only [List.length_append, List.length_cons, List.length_nil, List.length_set] at this ⊢
    omega
theorem k_laws_toBlockS : ToS T0 ty_Block F_laws_toBlockS := to_sl (w := 3) (bytes := 40) (zero := [.int .i64 0, .int .i64 0, .slice none 0 0]) T_laws_toBlockS rfl rfl rfl (by decide) k_laws_toBlock
set_option maxHeartbeats 4000000 in
theorem k_laws_toOram : ToF T0 ty_Oram F_laws_toOram := by
  intro M cs x h hb
  obtain ⟨u0, u1, u2, rfl, w0, w1, w2, w3, r0, r1, r2⟩ := rep_g_Oram h
  have i0 := one_head r0.one
  have i1 := one_head r1.one
  have i2 := one_head r2.one
  show ToG ty_Oram M x _
  rw [aCall_eq T_laws_toOram]; unfold A_laws_toOram C_laws_toOram; simp [thenD_pp, sliceCells_sl, sliceCells_z, sliceCells_nil, take_full, appS_sl, appK_ok, appS_none, thenD_ag, agP_nil, agP_cons, i0, i1, i2]
  generalize hx1 : aCall T0 F_laws_toMem _ _ = x_1
  obtain ⟨M1, ds1, K1, rfl, p1, o1, F1⟩ := ToF.at k_laws_toMem hx1 ((mkrep_g_Mem w3 (r0.mono (List.prefix_append _ _)) (r1.mono (List.prefix_append _ _)))) hb.2.2.2.1
  have f1 := F1.2
  obtain ⟨v0, v1, K1_0, K1_1, rfl, _, o1_0, o1_1, eK1⟩ := own_g_Mem o1
  clear hx1
  have b0_1 : M1[M.length]? = some ⟨[.int .i64 x.1, .int .i64 x.2.1, .int .i64 x.2.2.1, .int .i64 x.2.2.2.1.1, u0, u1, u2], 1, 2⟩ := get_pre p1 (by simp)
  have b1_1 : M1[M.length + 1]? = some ⟨[(.int .i64 0), (.int .i64 0), (.int .i64 0), (.int .i64 0), (.slice none 0 0), (.slice none 0 0), (.slice none 0 0)], 1, 2⟩ := get_pre p1 (by simp)
  have b2_1 : M1[M.length + 2]? = some ⟨[.int .i64 x.1, .int .i64 x.2.1, .int .i64 x.2.2.1, (.int .i64 0), (.slice none 0 0), (.slice none 0 0), (.slice none 0 0)], 1, 2⟩ := get_pre p1 (by simp)
  have l_1 := get_lt b2_1
  have y1 : M <+: M1 := (List.prefix_append _ _).trans p1
  simp only [List.length_append, List.length_cons, List.length_nil] at f1
  have z1 : M <+: M1.set (M.length + 2) ⟨[.int .i64 x.1, .int .i64 x.2.1, .int .i64 x.2.2.1, .int .i64 x.2.2.2.1.1, v0, v1, (.slice none 0 0)], 1, 2⟩ := pf_set (by omega) y1
  have q1_0 := one_head (o1_0.rep.one)
  have qc1_0 := cells_sl o1_0
  have q1_1 := one_head (o1_1.rep.one)
  have qc1_1 := cells_sl o1_1
  simp [thenD_pp, sliceCells_sl, sliceCells_z, sliceCells_nil, take_full, appS_sl, appK_ok, appS_none, thenD_ag, agP_nil, agP_cons, b0_1, b1_1, b2_1, gs_of b2_1, q1_0, q1_1, qc1_0, qc1_1, rd1_K, rdJ_ok, rdn_K, rnJ_ok, wrn_K, wrJ_ok]
  generalize hx2 : aCall T0 F_laws_toBlockS _ _ = x_2
  obtain ⟨M2, v2, K2, rfl, p2, o2, F2⟩ := ToS.at k_laws_toBlockS hx2 (r2.mono z1) hb.2.2.2.2
  have f2 := F2.2
  clear hx2
  have b0_2 : M2[M.length]? = some ⟨[.int .i64 x.1, .int .i64 x.2.1, .int .i64 x.2.2.1, .int .i64 x.2.2.2.1.1, u0, u1, u2], 1, 2⟩ := get_pre p2 (by simp [b0_1])
  have b1_2 : M2[M.length + 1]? = some ⟨[(.int .i64 0), (.int .i64 0), (.int .i64 0), (.int .i64 0), (.slice none 0 0), (.slice none 0 0), (.slice none 0 0)], 1, 2⟩ := get_pre p2 (by simp [b1_1])
  have b2_2 : M2[M.length + 2]? = some ⟨[.int .i64 x.1, .int .i64 x.2.1, .int .i64 x.2.2.1, .int .i64 x.2.2.2.1.1, v0, v1, (.slice none 0 0)], 1, 2⟩ := get_pre p2 (by simp [l_1])
  have l_2 := get_lt b2_2
  have y2 : M <+: M2 := z1.trans p2
  simp only [List.length_set] at f2
  have G2 := F1.app (by simp) F2 p1.length_le p2
  have g0_2 := Nat.le_trans p1.length_le (Nat.le_trans (Nat.le_of_eq (List.length_set).symm) p2.length_le)
  have o1 := (o1.set (b2 := ⟨[.int .i64 x.1, .int .i64 x.2.1, .int .i64 x.2.2.1, .int .i64 x.2.2.2.1.1, v0, v1, (.slice none 0 0)], 1, 2⟩) b2_1 rfl (fun hm => by have := f1 _ hm; omega)).grow p2
  have f1 : ∀ l ∈ K1, M.length + 3 ≤ l ∧ l < M2.length := fun l hl => by have := f1 l hl; have := p2.length_le; simp only [List.length_set] at this; omega
  have z2 : M <+: M2.set (M.length + 2) ⟨[.int .i64 x.1, .int .i64 x.2.1, .int .i64 x.2.2.1, .int .i64 x.2.2.2.1.1, v0, v1, v2], 1, 2⟩ := pf_set (by omega) y2
  have q2 := one_head (o2.rep.one)
  have qc2 := cells_sl o2
  have hb1 : (M2.set (M.length + 2) ⟨[.int .i64 x.1, .int .i64 x.2.1, .int .i64 x.2.2.1, .int .i64 x.2.2.2.1.1, v0, v1, v2], 1, 2⟩)[M.length + 1]? = some ⟨[(.int .i64 0), (.int .i64 0), (.int .i64 0), (.int .i64 0), (.slice none 0 0), (.slice none 0 0), (.slice none 0 0)], 1, 2⟩ := by simp [b1_2]
  have g1 := ((o1.set (b2 := ⟨[.int .i64 x.1, .int .i64 x.2.1, .int .i64 x.2.2.1, .int .i64 x.2.2.2.1.1, v0, v1, v2], 1, 2⟩) b2_2 rfl (fun hm => by have := f1 _ hm; omega)).set (b2 := ⟨[.int .i64 x.1, .int .i64 x.2.1, .int .i64 x.2.2.1, .int .i64 x.2.2.2.1.1, v0, v1, v2], 1, 2⟩) hb1 rfl (fun hm => by have := f1 _ hm; omega))
  have g2 := ((o2.set (b2 := ⟨[.int .i64 x.1, .int .i64 x.2.1, .int .i64 x.2.2.1, .int .i64 x.2.2.2.1.1, v0, v1, v2], 1, 2⟩) b2_2 rfl (fun hm => by have := f2 _ hm; omega)).set (b2 := ⟨[.int .i64 x.1, .int .i64 x.2.1, .int .i64 x.2.2.1, .int .i64 x.2.2.2.1.1, v0, v1, v2], 1, 2⟩) hb1 rfl (fun hm => by have := f2 _ hm; omega))
  obtain ⟨s1_0, s1_1, H1_0, H1_1, es1, _, j1_0, j1_1, eK1⟩ := own_g_Mem g1
  simp only [List.cons.injEq, and_true, true_and] at es1
  obtain ⟨rfl, rfl⟩ := es1
  have hh := mkown_g_Oram (x := x) w0 w1 w2 w3 j1_0 j1_1 g2
  try simp only [List.append_assoc] at hh
  obtain ⟨s1_0, s1_1, _, _, es1, _, t1_0, t1_1, _⟩ := own_g_Mem o1
  simp only [List.cons.injEq, and_true, true_and] at es1
  obtain ⟨rfl, rfl⟩ := es1
  obtain ⟨_, _, rfl⟩ := t1_0.rep.slen
  obtain ⟨_, _, rfl⟩ := t1_1.rep.slen
  obtain ⟨_, _, rfl⟩ := o2.rep.slen
  have gs2 : ∀ B C : Blk, ((M2.set (M.length + 2) B).set (M.length + 1) C)[M.length + 1]? = some C := fun B C => List.getElem?_set_self (by rw [List.length_set]; omega)
  simp [thenD_pp, sliceCells_sl, sliceCells_z, sliceCells_nil, take_full, appS_sl, appK_ok, appS_none, thenD_ag, agP_nil, agP_cons, b0_2, b1_2, b2_2, gs_of b2_2, gs2, rd1_K, rdJ_ok, rdn_K, rnJ_ok, wrn_K, wrJ_ok]
  refine ⟨_, _, K1 ++ K2, ?_, rfl, ?_, ?_⟩
  · exact pf_set (by omega) (pf_set (by omega) y2)
  · first | exact hh | (simp only [List.append_assoc]; exact hh) | (simp only [eK1]; exact hh) | (simp only [eK1, List.append_assoc]; exact hh)
  · refine ⟨G2.1, fun l hl => ?_⟩
    have := G2.2 l hl
    simp only [List.length_append, List.length_cons, List.length_nil, List.length_set] at this ⊢
    omega
theorem ownf_Int (M : Mem) (cs : List V) (x : ty_Int.D) (K : List Nat) (h : Own ty_Int M cs x K) : K = [] := h.2
abbrev enc_Int (x : ty_Int.D) : List V := [.int .i64 x]
theorem at_Int {M : Mem} {a : Option Addr} {n c : Nat} {xs : List ty_Int.D} (h : Rep (.sl ty_Int) M [.slice a n c] xs) {i : Nat} (hi : i < xs.length) : ∃ l o, a = some ⟨l, o, none⟩ ∧ Rep ty_Int M (enc_Int xs[i]) xs[i] ∧ rd1 M l (o + i) = some (.int .i64 xs[i]) := by
  obtain ⟨_, l, o, rfl, cs, hrd, hrep⟩ := rep_at h hi
  have hcs : cs = enc_Int xs[i] := hrep.1
  subst hcs
  have hw1 : ty_Int.w = 1 := rfl
  rw [hw1, Nat.mul_one] at hrd
  exact ⟨l, o, rfl, hrep, rd1_of_one hrd⟩
def z_Int : List V := [.int .i64 0]
theorem r_laws_toIntS (M : Mem) (a : Option Addr) (c : Nat) (xs : List ty_Int.D) (h : Rep (.sl ty_Int) M [.slice a xs.length c] xs) (hn : xs.length ≤ 1048576) (i : Nat) (hi : i < xs.length) :
    lp (aCall T0) K_laws_toIntS_0 L_laws_toIntS_0 [.slice a xs.length c, und, und, .slice (some ⟨M.length, 0, none⟩) xs.length xs.length, .int .i64 i, und, und, und, und, und, und, und, und, und, und, und, und, und, und, und, und, und] (M ++ [⟨tcells enc_Int z_Int xs i, 1, 2⟩]) =
    lp (aCall T0) K_laws_toIntS_0 L_laws_toIntS_0 [.slice a xs.length c, und, und, .slice (some ⟨M.length, 0, none⟩) xs.length xs.length, .int .i64 (i + 1 : Nat), und, und, und, und, und, und, und, und, und, und, und, und, und, und, und, und, und] (M ++ [⟨tcells enc_Int z_Int xs (i + 1), 1, 2⟩]) := by
  obtain ⟨l, o, rfl, hrep, hrd⟩ := at_Int h hi
  have hrd2 : rd1 (M ++ [⟨tcells enc_Int z_Int xs i, 1, 2⟩]) l (o + i) = some (.int .i64 xs[i]) := rd1_old hrd
  have e2 := tcells_len (enc := enc_Int) (z := z_Int) (xs := xs) (fun x _ => rfl) (i := i) (by omega)
  have e3 := tcells_step (enc := enc_Int) (z := z_Int) (xs := xs) (fun x _ => rfl) hi
  have e4 : z_Int.length = 1 := rfl
  rw [e4, Nat.mul_one] at e2 e3
  have e5 : i + 1 ≤ xs.length := by omega
  have e6 : IntKind.i64.wrap ((i : Int) + 1) = i + 1 := wrap_i64 (by omega) (by omega)
  unfold splice at e3
  simp at e3
  rw [S_laws_toIntS_0]; unfold B_laws_toIntS_0; simp [hrd2, e2, e3, e5, e6, hi]
theorem c_laws_toIntS (M : Mem) (v : V) (xs : List ty_Int.D) (h : Rep (.sl ty_Int) M [v] xs) (hn : xs.length ≤ 1048576) :
    aCall T0 F_laws_toIntS [v] M = some (.slice (some ⟨M.length, 0, none⟩) xs.length xs.length, M ++ [⟨(xs.map enc_Int).flatten, 1, 2⟩]) := by
  obtain ⟨a, c, rfl⟩ := h.slen
  have hl := chain (g := fun i : Nat => lp (aCall T0) K_laws_toIntS_0 L_laws_toIntS_0 [.slice a xs.length c, und, und, .slice (some ⟨M.length, 0, none⟩) xs.length xs.length, .int .i64 i, und, und, und, und, und, und, und, und, und, und, und, und, und, und, und, und, und] (M ++ [⟨tcells enc_Int z_Int xs i, 1, 2⟩])) (n := xs.length) fun i hi => r_laws_toIntS M a c xs h hn i hi
  simp only [Int.natCast_zero, Int.ofNat_zero, tcells_zero, tcells_full] at hl
  unfold z_Int at hl
  simp only [zeroCells_zc] at hl
  have e1 : (xs.length : Int) * 8 ≤ 281474976710656 := by omega
  have e2 : (xs.length : Int) ≤ 9223372036854775807 := by omega
  rw [aCall_eq T_laws_toIntS]; unfold A_laws_toIntS C_laws_toIntS; simp [e1, e2]
  rw [hl]
  rw [S_laws_toIntS_0]; unfold B_laws_toIntS_0; simp
theorem flat_Int (xs : List Int) : (xs.map enc_Int).flatten = xs.map (fun m => Value.int .i64 m) := by
  induction xs with
  | nil => rfl
  | cons x xs ih => rw [List.map_cons, List.flatten_cons, ih]; rfl
theorem own_block {M : Mem} {l c : Nat} {ys : List Int} (hb : M[l]? = some ⟨ys.map fun n => .int .i64 n, 1, 2⟩) (hw : ∀ y ∈ ys, (Lit.int .i64 y).wf = true) : ∃ L, Own (.sl ty_Int) M [.slice (some ⟨l, 0, none⟩) ys.length c] ys L ∧ ∀ j ∈ L, j = l := by
  by_cases hy : ys = []
  · subst hy
    exact ⟨[], .inl ⟨rfl, rfl, .inr ⟨l, 0, c, _, [], rfl, hb, .inr (.inr rfl), rfl, rfl, fun i ds x hd => by simp at hd, by simp⟩⟩, by simp⟩
  · refine ⟨[l], .inr ⟨l, 0, c, _, ys.map enc_Int, ys.map (fun _ => []), hy, rfl, hb, rfl, rfl, by simp, by simp, ?_, ?_, ?_⟩, by simp⟩
    · intro i ds x K h1 h2 h3
      rw [List.getElem?_map, h2] at h1
      rw [List.getElem?_map, h2] at h3
      simp only [Option.map_some, Option.some.injEq] at h1 h3
      subst h1; subst h3
      exact ⟨⟨rfl, hw x (List.mem_of_getElem? h2)⟩, rfl⟩
    · rw [flat_Int]; simp
    · have : (ys.map (fun _ => ([] : List Nat))).flatten = [] := by
        rw [List.flatten_eq_nil_iff]
        intro K hK
        obtain ⟨_, _, rfl⟩ := List.mem_map.1 hK
        rfl
      rw [this]
theorem d_toInt (M : Mem) (v : V) (xs : List Int) (h : Rep (.sl ty_Int) M [v] xs) (hn : xs.length ≤ 1048576) : ∃ M' u L, M <+: M' ∧ aCall T0 F_laws_toIntS [v] M = some (u, M') ∧ Own (.sl ty_Int) M' [u] xs L ∧ ∀ l ∈ L, M.length ≤ l ∧ l < M'.length := by
  have e := c_laws_toIntS M v xs h hn
  have hw : ∀ y ∈ xs, (Lit.int .i64 y).wf = true := by
    intro y hy
    obtain ⟨i, hi, rfl⟩ := List.getElem_of_mem hy
    obtain ⟨a, c, rfl⟩ := h.slen
    obtain ⟨l, o, rfl, hr, _⟩ := at_Int h hi
    exact hr.2
  obtain ⟨L, o1, o2⟩ := own_block (M := M ++ [⟨(xs.map enc_Int).flatten, 1, 2⟩]) (l := M.length) (c := xs.length) (ys := xs) (by rw [flat_Int]; simp) hw
  exact ⟨_, _, L, List.prefix_append _ _, e, o1, fun l hl => by rw [o2 l hl]; simp⟩
theorem d_laws_toIntS (M : Mem) (v : V) (xs : List Int) (h : Rep (.sl ty_Int) M [v] xs) (hn : xs.length ≤ 1048576) : ∃ M' u L, M <+: M' ∧ aCall T0 F_laws_toIntS [v] M = some (u, M') ∧ Own (.sl ty_Int) M' [u] xs L ∧ ∀ l ∈ L, M.length ≤ l ∧ l < M'.length := d_toInt M v xs h hn
theorem k_laws_toIntS : ToS T0 ty_Int F_laws_toIntS := fun M v xs h hb => by
  obtain ⟨M', u, L, p, e, o, f⟩ := d_laws_toIntS M v xs h hb.1
  exact ⟨M', u, L, p, e, o, nodup_flat ownf_Int o, f⟩
set_option maxHeartbeats 4000000 in
theorem k_laws_toDeep : ToF T0 ty_Deep F_laws_toDeep := by
  intro M cs x h hb
  obtain ⟨u0, u1, u2, u3, u4, u5, u6, rfl, w0, w1, w2, w3, w4, w5, w6, w7, w8, r0, r1, r2, r3, r4, r5, r6⟩ := rep_g_Deep h
  have i0 := one_head r0.one
  have i1 := one_head r1.one
  have i2 := one_head r2.one
  have i3 := one_head r3.one
  have i4 := one_head r4.one
  have i5 := one_head r5.one
  have i6 := one_head r6.one
  show ToG ty_Deep M x _
  rw [aCall_eq T_laws_toDeep]; unfold A_laws_toDeep C_laws_toDeep; simp [thenD_pp, sliceCells_sl, sliceCells_z, sliceCells_nil, take_full, appS_sl, appK_ok, appS_none, thenD_ag, agP_nil, agP_cons, i0, i1, i2, i3, i4, i5, i6]
  generalize hx1 : aCall T0 F_laws_toIntS _ _ = x_1
  obtain ⟨M1, v0, K1, rfl, p1, o1, F1⟩ := ToS.at k_laws_toIntS hx1 (r0.mono (List.prefix_append _ _)) hb.2.1
  have f1 := F1.2
  clear hx1
  have b0_1 : M1[M.length]? = some ⟨[.int .i64 x.1, u0, .int .i64 x.2.2.1.1, .int .i64 x.2.2.1.2.1, .int .i64 x.2.2.1.2.2.1, .int .i64 x.2.2.1.2.2.2.1.1, u1, u2, u3, .int .i64 x.2.2.2.1, .int .i64 x.2.2.2.2.1, .int .i64 x.2.2.2.2.2.1, .int .i64 x.2.2.2.2.2.2.1.1, u4, u5, u6], 1, 2⟩ := get_pre p1 (by simp)
  have b1_1 : M1[M.length + 1]? = some ⟨[(.int .i64 0), (.slice none 0 0), (.int .i64 0), (.int .i64 0), (.int .i64 0), (.int .i64 0), (.slice none 0 0), (.slice none 0 0), (.slice none 0 0), (.int .i64 0), (.int .i64 0), (.int .i64 0), (.int .i64 0), (.slice none 0 0), (.slice none 0 0), (.slice none 0 0)], 1, 2⟩ := get_pre p1 (by simp)
  have b2_1 : M1[M.length + 2]? = some ⟨[.int .i64 x.1, (.slice none 0 0), (.int .i64 0), (.int .i64 0), (.int .i64 0), (.int .i64 0), (.slice none 0 0), (.slice none 0 0), (.slice none 0 0), (.int .i64 0), (.int .i64 0), (.int .i64 0), (.int .i64 0), (.slice none 0 0), (.slice none 0 0), (.slice none 0 0)], 1, 2⟩ := get_pre p1 (by simp)
  have l_1 := get_lt b2_1
  have y1 : M <+: M1 := (List.prefix_append _ _).trans p1
  simp only [List.length_append, List.length_cons, List.length_nil] at f1
  have z1 : M <+: M1.set (M.length + 2) ⟨[.int .i64 x.1, v0, (.int .i64 0), (.int .i64 0), (.int .i64 0), (.int .i64 0), (.slice none 0 0), (.slice none 0 0), (.slice none 0 0), (.int .i64 0), (.int .i64 0), (.int .i64 0), (.int .i64 0), (.slice none 0 0), (.slice none 0 0), (.slice none 0 0)], 1, 2⟩ := pf_set (by omega) y1
  have q1 := one_head (o1.rep.one)
  have qc1 := cells_sl o1
  simp [thenD_pp, sliceCells_sl, sliceCells_z, sliceCells_nil, take_full, appS_sl, appK_ok, appS_none, thenD_ag, agP_nil, agP_cons, b0_1, b1_1, b2_1, gs_of b2_1, q1, qc1, rd1_K, rdJ_ok, rdn_K, rnJ_ok, wrn_K, wrJ_ok]
  generalize hx2 : aCall T0 F_laws_toOram _ _ = x_2
  obtain ⟨M2, ds2, K2, rfl, p2, o2, F2⟩ := ToF.at k_laws_toOram hx2 ((mkrep_g_Oram w1 w2 w3 w4 (r1.mono z1) (r2.mono z1) (r3.mono z1))) hb.2.2.1
  have f2 := F2.2
  obtain ⟨v1, v2, v3, K2_0, K2_1, K2_2, rfl, _, _, _, _, o2_0, o2_1, o2_2, eK2⟩ := own_g_Oram o2
  clear hx2
  have b0_2 : M2[M.length]? = some ⟨[.int .i64 x.1, u0, .int .i64 x.2.2.1.1, .int .i64 x.2.2.1.2.1, .int .i64 x.2.2.1.2.2.1, .int .i64 x.2.2.1.2.2.2.1.1, u1, u2, u3, .int .i64 x.2.2.2.1, .int .i64 x.2.2.2.2.1, .int .i64 x.2.2.2.2.2.1, .int .i64 x.2.2.2.2.2.2.1.1, u4, u5, u6], 1, 2⟩ := get_pre p2 (by simp [b0_1])
  have b1_2 : M2[M.length + 1]? = some ⟨[(.int .i64 0), (.slice none 0 0), (.int .i64 0), (.int .i64 0), (.int .i64 0), (.int .i64 0), (.slice none 0 0), (.slice none 0 0), (.slice none 0 0), (.int .i64 0), (.int .i64 0), (.int .i64 0), (.int .i64 0), (.slice none 0 0), (.slice none 0 0), (.slice none 0 0)], 1, 2⟩ := get_pre p2 (by simp [b1_1])
  have b2_2 : M2[M.length + 2]? = some ⟨[.int .i64 x.1, v0, (.int .i64 0), (.int .i64 0), (.int .i64 0), (.int .i64 0), (.slice none 0 0), (.slice none 0 0), (.slice none 0 0), (.int .i64 0), (.int .i64 0), (.int .i64 0), (.int .i64 0), (.slice none 0 0), (.slice none 0 0), (.slice none 0 0)], 1, 2⟩ := get_pre p2 (by simp [l_1])
  have l_2 := get_lt b2_2
  have y2 : M <+: M2 := z1.trans p2
  simp only [List.length_set] at f2
  have G2 := F1.app (by simp) F2 p1.length_le p2
  have g0_2 := Nat.le_trans p1.length_le (Nat.le_trans (Nat.le_of_eq (List.length_set).symm) p2.length_le)
  have o1 := (o1.set (b2 := ⟨[.int .i64 x.1, v0, (.int .i64 0), (.int .i64 0), (.int .i64 0), (.int .i64 0), (.slice none 0 0), (.slice none 0 0), (.slice none 0 0), (.int .i64 0), (.int .i64 0), (.int .i64 0), (.int .i64 0), (.slice none 0 0), (.slice none 0 0), (.slice none 0 0)], 1, 2⟩) b2_1 rfl (fun hm => by have := f1 _ hm; omega)).grow p2
  have f1 : ∀ l ∈ K1, M.length + 3 ≤ l ∧ l < M2.length := fun l hl => by have := f1 l hl; have := p2.length_le; simp only [List.length_set] at this; omega
  have z2 : M <+: M2.set (M.length + 2) ⟨[.int .i64 x.1, v0, .int .i64 x.2.2.1.1, .int .i64 x.2.2.1.2.1, .int .i64 x.2.2.1.2.2.1, .int .i64 x.2.2.1.2.2.2.1.1, v1, v2, v3, (.int .i64 0), (.int .i64 0), (.int .i64 0), (.int .i64 0), (.slice none 0 0), (.slice none 0 0), (.slice none 0 0)], 1, 2⟩ := pf_set (by omega) y2
  have q2_0 := one_head (o2_0.rep.one)
  have qc2_0 := cells_sl o2_0
  have q2_1 := one_head (o2_1.rep.one)
  have qc2_1 := cells_sl o2_1
  have q2_2 := one_head (o2_2.rep.one)
  have qc2_2 := cells_sl o2_2
  simp [thenD_pp, sliceCells_sl, sliceCells_z, sliceCells_nil, take_full, appS_sl, appK_ok, appS_none, thenD_ag, agP_nil, agP_cons, b0_2, b1_2, b2_2, gs_of b2_2, q2_0, q2_1, q2_2, qc2_0, qc2_1, qc2_2, rd1_K, rdJ_ok, rdn_K, rnJ_ok, wrn_K, wrJ_ok]
  generalize hx3 : aCall T0 F_laws_toOram _ _ = x_3
  obtain ⟨M3, ds3, K3, rfl, p3, o3, F3⟩ := ToF.at k_laws_toOram hx3 ((mkrep_g_Oram w5 w6 w7 w8 (r4.mono z2) (r5.mono z2) (r6.mono z2))) hb.2.2.2
  have f3 := F3.2
  obtain ⟨v4, v5, v6, K3_0, K3_1, K3_2, rfl, _, _, _, _, o3_0, o3_1, o3_2, eK3⟩ := own_g_Oram o3
  clear hx3
  have b0_3 : M3[M.length]? = some ⟨[.int .i64 x.1, u0, .int .i64 x.2.2.1.1, .int .i64 x.2.2.1.2.1, .int .i64 x.2.2.1.2.2.1, .int .i64 x.2.2.1.2.2.2.1.1, u1, u2, u3, .int .i64 x.2.2.2.1, .int .i64 x.2.2.2.2.1, .int .i64 x.2.2.2.2.2.1, .int .i64 x.2.2.2.2.2.2.1.1, u4, u5, u6], 1, 2⟩ := get_pre p3 (by simp [b0_2])
  have b1_3 : M3[M.length + 1]? = some ⟨[(.int .i64 0), (.slice none 0 0), (.int .i64 0), (.int .i64 0), (.int .i64 0), (.int .i64 0), (.slice none 0 0), (.slice none 0 0), (.slice none 0 0), (.int .i64 0), (.int .i64 0), (.int .i64 0), (.int .i64 0), (.slice none 0 0), (.slice none 0 0), (.slice none 0 0)], 1, 2⟩ := get_pre p3 (by simp [b1_2])
  have b2_3 : M3[M.length + 2]? = some ⟨[.int .i64 x.1, v0, .int .i64 x.2.2.1.1, .int .i64 x.2.2.1.2.1, .int .i64 x.2.2.1.2.2.1, .int .i64 x.2.2.1.2.2.2.1.1, v1, v2, v3, (.int .i64 0), (.int .i64 0), (.int .i64 0), (.int .i64 0), (.slice none 0 0), (.slice none 0 0), (.slice none 0 0)], 1, 2⟩ := get_pre p3 (by simp [l_2])
  have l_3 := get_lt b2_3
  have y3 : M <+: M3 := z2.trans p3
  simp only [List.length_set] at f3
  have G3 := G2.app (by simp) F3 g0_2 p3
  have g0_3 := Nat.le_trans g0_2 (Nat.le_trans (Nat.le_of_eq (List.length_set).symm) p3.length_le)
  have o1 := (o1.set (b2 := ⟨[.int .i64 x.1, v0, .int .i64 x.2.2.1.1, .int .i64 x.2.2.1.2.1, .int .i64 x.2.2.1.2.2.1, .int .i64 x.2.2.1.2.2.2.1.1, v1, v2, v3, (.int .i64 0), (.int .i64 0), (.int .i64 0), (.int .i64 0), (.slice none 0 0), (.slice none 0 0), (.slice none 0 0)], 1, 2⟩) b2_2 rfl (fun hm => by have := f1 _ hm; omega)).grow p3
  have f1 : ∀ l ∈ K1, M.length + 3 ≤ l ∧ l < M3.length := fun l hl => by have := f1 l hl; have := p3.length_le; simp only [List.length_set] at this; omega
  have o2 := (o2.set (b2 := ⟨[.int .i64 x.1, v0, .int .i64 x.2.2.1.1, .int .i64 x.2.2.1.2.1, .int .i64 x.2.2.1.2.2.1, .int .i64 x.2.2.1.2.2.2.1.1, v1, v2, v3, (.int .i64 0), (.int .i64 0), (.int .i64 0), (.int .i64 0), (.slice none 0 0), (.slice none 0 0), (.slice none 0 0)], 1, 2⟩) b2_2 rfl (fun hm => by have := f2 _ hm; omega)).grow p3
  have f2 : ∀ l ∈ K2, M.length + 3 ≤ l ∧ l < M3.length := fun l hl => by have := f2 l hl; have := p3.length_le; simp only [List.length_set] at this; omega
  have z3 : M <+: M3.set (M.length + 2) ⟨[.int .i64 x.1, v0, .int .i64 x.2.2.1.1, .int .i64 x.2.2.1.2.1, .int .i64 x.2.2.1.2.2.1, .int .i64 x.2.2.1.2.2.2.1.1, v1, v2, v3, .int .i64 x.2.2.2.1, .int .i64 x.2.2.2.2.1, .int .i64 x.2.2.2.2.2.1, .int .i64 x.2.2.2.2.2.2.1.1, v4, v5, v6], 1, 2⟩ := pf_set (by omega) y3
  have q3_0 := one_head (o3_0.rep.one)
  have qc3_0 := cells_sl o3_0
  have q3_1 := one_head (o3_1.rep.one)
  have qc3_1 := cells_sl o3_1
  have q3_2 := one_head (o3_2.rep.one)
  have qc3_2 := cells_sl o3_2
  have hb1 : (M3.set (M.length + 2) ⟨[.int .i64 x.1, v0, .int .i64 x.2.2.1.1, .int .i64 x.2.2.1.2.1, .int .i64 x.2.2.1.2.2.1, .int .i64 x.2.2.1.2.2.2.1.1, v1, v2, v3, .int .i64 x.2.2.2.1, .int .i64 x.2.2.2.2.1, .int .i64 x.2.2.2.2.2.1, .int .i64 x.2.2.2.2.2.2.1.1, v4, v5, v6], 1, 2⟩)[M.length + 1]? = some ⟨[(.int .i64 0), (.slice none 0 0), (.int .i64 0), (.int .i64 0), (.int .i64 0), (.int .i64 0), (.slice none 0 0), (.slice none 0 0), (.slice none 0 0), (.int .i64 0), (.int .i64 0), (.int .i64 0), (.int .i64 0), (.slice none 0 0), (.slice none 0 0), (.slice none 0 0)], 1, 2⟩ := by simp [b1_3]
  have g1 := ((o1.set (b2 := ⟨[.int .i64 x.1, v0, .int .i64 x.2.2.1.1, .int .i64 x.2.2.1.2.1, .int .i64 x.2.2.1.2.2.1, .int .i64 x.2.2.1.2.2.2.1.1, v1, v2, v3, .int .i64 x.2.2.2.1, .int .i64 x.2.2.2.2.1, .int .i64 x.2.2.2.2.2.1, .int .i64 x.2.2.2.2.2.2.1.1, v4, v5, v6], 1, 2⟩) b2_3 rfl (fun hm => by have := f1 _ hm; omega)).set (b2 := ⟨[.int .i64 x.1, v0, .int .i64 x.2.2.1.1, .int .i64 x.2.2.1.2.1, .int .i64 x.2.2.1.2.2.1, .int .i64 x.2.2.1.2.2.2.1.1, v1, v2, v3, .int .i64 x.2.2.2.1, .int .i64 x.2.2.2.2.1, .int .i64 x.2.2.2.2.2.1, .int .i64 x.2.2.2.2.2.2.1.1, v4, v5, v6], 1, 2⟩) hb1 rfl (fun hm => by have := f1 _ hm; omega))
  have g2 := ((o2.set (b2 := ⟨[.int .i64 x.1, v0, .int .i64 x.2.2.1.1, .int .i64 x.2.2.1.2.1, .int .i64 x.2.2.1.2.2.1, .int .i64 x.2.2.1.2.2.2.1.1, v1, v2, v3, .int .i64 x.2.2.2.1, .int .i64 x.2.2.2.2.1, .int .i64 x.2.2.2.2.2.1, .int .i64 x.2.2.2.2.2.2.1.1, v4, v5, v6], 1, 2⟩) b2_3 rfl (fun hm => by have := f2 _ hm; omega)).set (b2 := ⟨[.int .i64 x.1, v0, .int .i64 x.2.2.1.1, .int .i64 x.2.2.1.2.1, .int .i64 x.2.2.1.2.2.1, .int .i64 x.2.2.1.2.2.2.1.1, v1, v2, v3, .int .i64 x.2.2.2.1, .int .i64 x.2.2.2.2.1, .int .i64 x.2.2.2.2.2.1, .int .i64 x.2.2.2.2.2.2.1.1, v4, v5, v6], 1, 2⟩) hb1 rfl (fun hm => by have := f2 _ hm; omega))
  have g3 := ((o3.set (b2 := ⟨[.int .i64 x.1, v0, .int .i64 x.2.2.1.1, .int .i64 x.2.2.1.2.1, .int .i64 x.2.2.1.2.2.1, .int .i64 x.2.2.1.2.2.2.1.1, v1, v2, v3, .int .i64 x.2.2.2.1, .int .i64 x.2.2.2.2.1, .int .i64 x.2.2.2.2.2.1, .int .i64 x.2.2.2.2.2.2.1.1, v4, v5, v6], 1, 2⟩) b2_3 rfl (fun hm => by have := f3 _ hm; omega)).set (b2 := ⟨[.int .i64 x.1, v0, .int .i64 x.2.2.1.1, .int .i64 x.2.2.1.2.1, .int .i64 x.2.2.1.2.2.1, .int .i64 x.2.2.1.2.2.2.1.1, v1, v2, v3, .int .i64 x.2.2.2.1, .int .i64 x.2.2.2.2.1, .int .i64 x.2.2.2.2.2.1, .int .i64 x.2.2.2.2.2.2.1.1, v4, v5, v6], 1, 2⟩) hb1 rfl (fun hm => by have := f3 _ hm; omega))
  obtain ⟨s2_0, s2_1, s2_2, H2_0, H2_1, H2_2, es2, _, _, _, _, j2_0, j2_1, j2_2, eK2⟩ := own_g_Oram g2
  simp only [List.cons.injEq, and_true, true_and] at es2
  obtain ⟨rfl, rfl, rfl⟩ := es2
  obtain ⟨s3_0, s3_1, s3_2, H3_0, H3_1, H3_2, es3, _, _, _, _, j3_0, j3_1, j3_2, eK3⟩ := own_g_Oram g3
  simp only [List.cons.injEq, and_true, true_and] at es3
  obtain ⟨rfl, rfl, rfl⟩ := es3
  have hh := mkown_g_Deep (x := x) w0 w1 w2 w3 w4 w5 w6 w7 w8 g1 j2_0 j2_1 j2_2 j3_0 j3_1 j3_2
  try simp only [List.append_assoc] at hh
  obtain ⟨_, _, rfl⟩ := o1.rep.slen
  obtain ⟨s2_0, s2_1, s2_2, _, _, _, es2, _, _, _, _, t2_0, t2_1, t2_2, _⟩ := own_g_Oram o2
  simp only [List.cons.injEq, and_true, true_and] at es2
  obtain ⟨rfl, rfl, rfl⟩ := es2
  obtain ⟨_, _, rfl⟩ := t2_0.rep.slen
  obtain ⟨_, _, rfl⟩ := t2_1.rep.slen
  obtain ⟨_, _, rfl⟩ := t2_2.rep.slen
  obtain ⟨s3_0, s3_1, s3_2, _, _, _, es3, _, _, _, _, t3_0, t3_1, t3_2, _⟩ := own_g_Oram o3
  simp only [List.cons.injEq, and_true, true_and] at es3
  obtain ⟨rfl, rfl, rfl⟩ := es3
  obtain ⟨_, _, rfl⟩ := t3_0.rep.slen
  obtain ⟨_, _, rfl⟩ := t3_1.rep.slen
  obtain ⟨_, _, rfl⟩ := t3_2.rep.slen
  have gs2 : ∀ B C : Blk, ((M3.set (M.length + 2) B).set (M.length + 1) C)[M.length + 1]? = some C := fun B C => List.getElem?_set_self (by rw [List.length_set]; omega)
  simp [thenD_pp, sliceCells_sl, sliceCells_z, sliceCells_nil, take_full, appS_sl, appK_ok, appS_none, thenD_ag, agP_nil, agP_cons, b0_3, b1_3, b2_3, gs_of b2_3, gs2, rd1_K, rdJ_ok, rdn_K, rnJ_ok, wrn_K, wrJ_ok]
  refine ⟨_, _, K1 ++ K2 ++ K3, ?_, rfl, ?_, ?_⟩
  · exact pf_set (by omega) (pf_set (by omega) y3)
  · first | exact hh | (simp only [List.append_assoc]; exact hh) | (simp only [eK2, eK3]; exact hh) | (simp only [eK2, eK3, List.append_assoc]; exact hh)
  · refine ⟨G3.1, fun l hl => ?_⟩
    have := G3.2 l hl
    simp only [List.length_append, List.length_cons, List.length_nil, List.length_set] at this ⊢
    omega
theorem deq_Touch (x y : ty_Touch.D) : decide (x = y) = (decide (x.1 = y.1) && (decide (x.2.1 = y.2.1) && (decide (x.2.2 = y.2.2)))) := by
  obtain ⟨x0, x1, x2⟩ := x
  obtain ⟨y0, y1, y2⟩ := y
  simp
theorem c_laws_eqTouch (M : Mem) (x y : ty_Touch.D) : aCall T0 F_laws_eqTouch [.agg (enc_Touch x).toArray, .agg (enc_Touch y).toArray] M = some (.bool (decide (x = y)), M) := by
  rw [deq_Touch]
  rw [aCall_eq T_laws_eqTouch]; unfold A_laws_eqTouch C_laws_eqTouch; simp
  repeat' ((first | rw [selO_some] | rw [condR_bool] | rw [selD_some]); split <;> rename_i hq <;> (have hq2 := hq) <;> (try simp at hq2) <;> (try simp [*]))
theorem k_laws_eqTouch : EqF T0 ty_Touch F_laws_eqTouch := fun M cs ds x y h h2 hb => by
  obtain rfl := rep_Touch h
  obtain rfl := rep_Touch h2
  exact c_laws_eqTouch M x y
theorem k_laws_eqTouchS : EqS T0 ty_Touch F_laws_eqTouchS := eq_sl (w := 3) T_laws_eqTouchS rfl k_laws_eqTouch
theorem r_laws_eqByteS (M : Mem) (a b : Option Addr) (c d : Nat) (xs ys : List ty_Byte.D) (h : Rep (.sl ty_Byte) M [.slice a xs.length c] xs) (h2 : Rep (.sl ty_Byte) M [.slice b ys.length d] ys) (hn : xs.length ≤ 9223372036854775807) (i : Nat) (hi : i < xs.length) (hj : i < ys.length) (he : xs[i] = ys[i]) :
    lp (aCall T0) K_laws_eqByteS_0 L_laws_eqByteS_0 [.slice a xs.length c, .slice b ys.length d, und, und, und, .int .i64 i, und, und, und, und, und, und, und, und, und, und, und, und, und, und, und, und, und, und, und, und] M = lp (aCall T0) K_laws_eqByteS_0 L_laws_eqByteS_0 [.slice a xs.length c, .slice b ys.length d, und, und, und, .int .i64 (i + 1 : Nat), und, und, und, und, und, und, und, und, und, und, und, und, und, und, und, und, und, und, und, und] M := by
  obtain ⟨l, o, rfl, _, hrd⟩ := at_Byte h hi
  obtain ⟨l2, o2, rfl, _, hrd2⟩ := at_Byte h2 hj
  have e6 : IntKind.i64.wrap ((i : Int) + 1) = i + 1 := wrap_i64 (by omega) (by omega)
  rw [S_laws_eqByteS_0]; unfold B_laws_eqByteS_0; simp [hrd, hrd2, e6, hi, hj, he, byteV]
theorem eq_byteV (x y : UInt8) : ((x.toNat : Int) = (y.toNat : Int)) = (x = y) := by
  apply propext
  constructor
  · intro h; exact UInt8.toNat_inj.1 (by omega)
  · rintro rfl; rfl
theorem x_laws_eqByteS (M : Mem) (a b : Option Addr) (c d : Nat) (xs ys : List ty_Byte.D) (h : Rep (.sl ty_Byte) M [.slice a xs.length c] xs) (h2 : Rep (.sl ty_Byte) M [.slice b ys.length d] ys) (hn : xs.length ≤ 9223372036854775807) (i : Nat) (hi : i < xs.length) (hj : i < ys.length) (he : xs[i] ≠ ys[i]) (k : ACode) :
    thenF M [.tmp 4] (thenS (blockR 0 (lp (aCall T0) K_laws_eqByteS_0 L_laws_eqByteS_0 [.slice a xs.length c, .slice b ys.length d, und, und, und, .int .i64 i, und, und, und, und, und, und, und, und, und, und, und, und, und, und, und, und, und, und, und, und] M)) (aCall T0) k) = some (.bool false, M) := by
  obtain ⟨l, o, rfl, _, hrd⟩ := at_Byte h hi
  obtain ⟨l2, o2, rfl, _, hrd2⟩ := at_Byte h2 hj
  have hne : ¬ (((xs[i] : UInt8).toNat : Int) = ((ys[i] : UInt8).toNat : Int)) := by rw [eq_byteV]; exact he
  rw [S_laws_eqByteS_0]; unfold B_laws_eqByteS_0; simp [hrd, hrd2, hi, hj, hne, byteV]
theorem c_laws_eqByteS (M : Mem) (v u : V) (xs ys : List ty_Byte.D) (h : Rep (.sl ty_Byte) M [v] xs) (h2 : Rep (.sl ty_Byte) M [u] ys) (hn : xs.length ≤ 9223372036854775807) : aCall T0 F_laws_eqByteS [v, u] M = some (.bool (decide (xs = ys)), M) := by
  obtain ⟨a, c, rfl⟩ := h.slen
  obtain ⟨b, d, rfl⟩ := h2.slen
  by_cases hl : xs.length = ys.length
  · rcases list_eq_iff hl with he | ⟨j, hj, h3, h4⟩
    · subst he
      have hc := chain (g := fun i : Nat => lp (aCall T0) K_laws_eqByteS_0 L_laws_eqByteS_0 [.slice a xs.length c, .slice b xs.length d, und, und, und, .int .i64 i, und, und, und, und, und, und, und, und, und, und, und, und, und, und, und, und, und, und, und, und] M) (n := xs.length) fun i hi => r_laws_eqByteS M a b c d xs xs h h2 hn i hi hi rfl
      simp only [Int.natCast_zero, Int.ofNat_zero] at hc
      rw [aCall_eq T_laws_eqByteS]; unfold A_laws_eqByteS C_laws_eqByteS; simp [hc]
      rw [S_laws_eqByteS_0]; unfold B_laws_eqByteS_0; simp
    · have hc := chain (g := fun i : Nat => lp (aCall T0) K_laws_eqByteS_0 L_laws_eqByteS_0 [.slice a xs.length c, .slice b ys.length d, und, und, und, .int .i64 i, und, und, und, und, und, und, und, und, und, und, und, und, und, und, und, und, und, und, und, und] M) (n := j) fun i hi => r_laws_eqByteS M a b c d xs ys h h2 hn i (by omega) (by omega) (h3 i (by omega) hi)
      simp only [Int.natCast_zero, Int.ofNat_zero] at hc
      have hx := x_laws_eqByteS M a b c d xs ys h h2 hn j hj (by omega) h4
      have hne : xs ≠ ys := fun e => h4 (by simp [e])
      simp only [← hl] at hc hx
      simp only [← hl]
      rw [aCall_eq T_laws_eqByteS]; unfold A_laws_eqByteS C_laws_eqByteS; simp [hc, hx, hne]
  · have hne : xs ≠ ys := fun e => hl (by rw [e])
    have hl2 : ¬ ((xs.length : Int) = ys.length) := by omega
    rw [aCall_eq T_laws_eqByteS]; unfold A_laws_eqByteS C_laws_eqByteS; simp [hl2, hl, hne]
theorem k_laws_eqByteS : EqS T0 ty_Byte F_laws_eqByteS := fun M v u xs ys h h2 hb => c_laws_eqByteS M v u xs ys h h2 (Nat.le_trans hb.1 (by decide))
set_option maxHeartbeats 4000000 in
theorem k_laws_eqCell : EqF T0 ty_Cell F_laws_eqCell := by
  intro M cs ds x y h h2 hb
  obtain ⟨u0, rfl, r0⟩ := rep_g_Cell h
  obtain ⟨v0, rfl, s0⟩ := rep_g_Cell h2
  try dsimp only at *
  have e0 := k_laws_eqByteS (M ++ [⟨[u0], 1, 2⟩, ⟨[v0], 1, 2⟩]) _ _ x y (r0.mono (List.prefix_append _ _)) (s0.mono (List.prefix_append _ _)) hb
  have i0 := one_head r0.one
  have j0 := one_head s0.one
  by_cases q0 : x = y
  rotate_left
  · have hne := q0
    refine ans_f hne ?_
    have e0 := (ans_of e0).2 q0
    rw [aCall_eq T_laws_eqCell]; unfold A_laws_eqCell C_laws_eqCell; simp [thenD_pp, sliceCells_sl, sliceCells_z, sliceCells_nil, take_full, appS_sl, appK_ok, appS_none, thenD_ag, agP_nil, agP_cons, i0, j0, e0]
  have e0 := (ans_of e0).1 q0
  have he := q0
  refine ans_t he ?_
  rw [aCall_eq T_laws_eqCell]; unfold A_laws_eqCell C_laws_eqCell; simp [thenD_pp, sliceCells_sl, sliceCells_z, sliceCells_nil, take_full, appS_sl, appK_ok, appS_none, thenD_ag, agP_nil, agP_cons, i0, j0, e0]
theorem k_laws_eqCellS : EqS T0 ty_Cell F_laws_eqCellS := eq_sl (w := 1) T_laws_eqCellS rfl k_laws_eqCell
set_option maxHeartbeats 4000000 in
theorem k_laws_eqMem : EqF T0 ty_Mem F_laws_eqMem := by
  intro M cs ds x y h h2 hb
  obtain ⟨a0, a1, a2⟩ := x
  obtain ⟨b0, b1, b2⟩ := y
  obtain ⟨u0, u1, rfl, w0, r0, r1⟩ := rep_g_Mem h
  obtain ⟨v0, v1, rfl, _w0, s0, s1⟩ := rep_g_Mem h2
  try dsimp only at *
  have e1 := k_laws_eqCellS (M ++ [⟨[.int .i64 a0, u0, u1], 1, 2⟩, ⟨[.int .i64 b0, v0, v1], 1, 2⟩]) _ _ a1 b1 (r0.mono (List.prefix_append _ _)) (s0.mono (List.prefix_append _ _)) hb.2.1
  have e2 := k_laws_eqTouchS (M ++ [⟨[.int .i64 a0, u0, u1], 1, 2⟩, ⟨[.int .i64 b0, v0, v1], 1, 2⟩]) _ _ a2 b2 (r1.mono (List.prefix_append _ _)) (s1.mono (List.prefix_append _ _)) hb.2.2
  have i0 := one_head r0.one
  have i1 := one_head r1.one
  have j0 := one_head s0.one
  have j1 := one_head s1.one
  by_cases q0 : a0 = b0
  rotate_left
  · have hne : ¬ ((a0, a1, a2) : ty_Mem.D) = (b0, b1, b2) := fun e => q0 (by simp only [Prod.mk.injEq] at e; simp only [e])
    refine ans_f hne ?_
    rw [aCall_eq T_laws_eqMem]; unfold A_laws_eqMem C_laws_eqMem; simp [thenD_pp, sliceCells_sl, sliceCells_z, sliceCells_nil, take_full, appS_sl, appK_ok, appS_none, thenD_ag, agP_nil, agP_cons, i0, i1, j0, j1, q0]
  subst q0
  by_cases q1 : a1 = b1
  rotate_left
  · have hne : ¬ ((a0, a1, a2) : ty_Mem.D) = (a0, b1, b2) := fun e => q1 (by simp only [Prod.mk.injEq] at e; simp only [e])
    refine ans_f hne ?_
    have e1 := (ans_of e1).2 q1
    rw [aCall_eq T_laws_eqMem]; unfold A_laws_eqMem C_laws_eqMem; simp [thenD_pp, sliceCells_sl, sliceCells_z, sliceCells_nil, take_full, appS_sl, appK_ok, appS_none, thenD_ag, agP_nil, agP_cons, i0, i1, j0, j1, e1]
  have e1 := (ans_of e1).1 q1
  by_cases q2 : a2 = b2
  rotate_left
  · have hne : ¬ ((a0, a1, a2) : ty_Mem.D) = (a0, b1, b2) := fun e => q2 (by simp only [Prod.mk.injEq] at e; simp only [e])
    refine ans_f hne ?_
    have e2 := (ans_of e2).2 q2
    rw [aCall_eq T_laws_eqMem]; unfold A_laws_eqMem C_laws_eqMem; simp [thenD_pp, sliceCells_sl, sliceCells_z, sliceCells_nil, take_full, appS_sl, appK_ok, appS_none, thenD_ag, agP_nil, agP_cons, i0, i1, j0, j1, e1, e2]
  have e2 := (ans_of e2).1 q2
  have he : ((a0, a1, a2) : ty_Mem.D) = (a0, b1, b2) := by simp only [q1, q2]
  refine ans_t he ?_
  rw [aCall_eq T_laws_eqMem]; unfold A_laws_eqMem C_laws_eqMem; simp [thenD_pp, sliceCells_sl, sliceCells_z, sliceCells_nil, take_full, appS_sl, appK_ok, appS_none, thenD_ag, agP_nil, agP_cons, i0, i1, j0, j1, e1, e2]
set_option maxHeartbeats 4000000 in
theorem k_laws_eqBlock : EqF T0 ty_Block F_laws_eqBlock := by
  intro M cs ds x y h h2 hb
  obtain ⟨a0, a1, a2⟩ := x
  obtain ⟨b0, b1, b2⟩ := y
  obtain ⟨u0, rfl, w0, w1, r0⟩ := rep_g_Block h
  obtain ⟨v0, rfl, _w0, _w1, s0⟩ := rep_g_Block h2
  try dsimp only at *
  have e2 := k_laws_eqByteS (M ++ [⟨[.int .i64 a0, .int .i64 a1, u0], 1, 2⟩, ⟨[.int .i64 b0, .int .i64 b1, v0], 1, 2⟩]) _ _ a2 b2 (r0.mono (List.prefix_append _ _)) (s0.mono (List.prefix_append _ _)) hb.2.2
  have i0 := one_head r0.one
  have j0 := one_head s0.one
  by_cases q0 : a0 = b0
  rotate_left
  · have hne : ¬ ((a0, a1, a2) : ty_Block.D) = (b0, b1, b2) := fun e => q0 (by simp only [Prod.mk.injEq] at e; simp only [e])
    refine ans_f hne ?_
    rw [aCall_eq T_laws_eqBlock]; unfold A_laws_eqBlock C_laws_eqBlock; simp [thenD_pp, sliceCells_sl, sliceCells_z, sliceCells_nil, take_full, appS_sl, appK_ok, appS_none, thenD_ag, agP_nil, agP_cons, i0, j0, q0]
  subst q0
  by_cases q1 : a1 = b1
  rotate_left
  · have hne : ¬ ((a0, a1, a2) : ty_Block.D) = (a0, b1, b2) := fun e => q1 (by simp only [Prod.mk.injEq] at e; simp only [e])
    refine ans_f hne ?_
    rw [aCall_eq T_laws_eqBlock]; unfold A_laws_eqBlock C_laws_eqBlock; simp [thenD_pp, sliceCells_sl, sliceCells_z, sliceCells_nil, take_full, appS_sl, appK_ok, appS_none, thenD_ag, agP_nil, agP_cons, i0, j0, q1]
  subst q1
  by_cases q2 : a2 = b2
  rotate_left
  · have hne : ¬ ((a0, a1, a2) : ty_Block.D) = (a0, a1, b2) := fun e => q2 (by simp only [Prod.mk.injEq] at e; simp only [e])
    refine ans_f hne ?_
    have e2 := (ans_of e2).2 q2
    rw [aCall_eq T_laws_eqBlock]; unfold A_laws_eqBlock C_laws_eqBlock; simp [thenD_pp, sliceCells_sl, sliceCells_z, sliceCells_nil, take_full, appS_sl, appK_ok, appS_none, thenD_ag, agP_nil, agP_cons, i0, j0, e2]
  have e2 := (ans_of e2).1 q2
  have he : ((a0, a1, a2) : ty_Block.D) = (a0, a1, b2) := by simp only [q2]
  refine ans_t he ?_
  rw [aCall_eq T_laws_eqBlock]; unfold A_laws_eqBlock C_laws_eqBlock; simp [thenD_pp, sliceCells_sl, sliceCells_z, sliceCells_nil, take_full, appS_sl, appK_ok, appS_none, thenD_ag, agP_nil, agP_cons, i0, j0, e2]
theorem k_laws_eqBlockS : EqS T0 ty_Block F_laws_eqBlockS := eq_sl (w := 3) T_laws_eqBlockS rfl k_laws_eqBlock
set_option maxHeartbeats 4000000 in
theorem k_laws_eqOram : EqF T0 ty_Oram F_laws_eqOram := by
  intro M cs ds x y h h2 hb
  obtain ⟨a0, a1, a2, a3, a4⟩ := x
  obtain ⟨b0, b1, b2, b3, b4⟩ := y
  obtain ⟨u0, u1, u2, rfl, w0, w1, w2, w3, r0, r1, r2⟩ := rep_g_Oram h
  obtain ⟨v0, v1, v2, rfl, _w0, _w1, _w2, _w3, s0, s1, s2⟩ := rep_g_Oram h2
  try dsimp only at *
  have e3 := k_laws_eqMem (M ++ [⟨[.int .i64 a0, .int .i64 a1, .int .i64 a2, .int .i64 a3.1, u0, u1, u2], 1, 2⟩, ⟨[.int .i64 b0, .int .i64 b1, .int .i64 b2, .int .i64 b3.1, v0, v1, v2], 1, 2⟩]) _ _ a3 b3 ((mkrep_g_Mem w3 (r0.mono (List.prefix_append _ _)) (r1.mono (List.prefix_append _ _)))) ((mkrep_g_Mem _w3 (s0.mono (List.prefix_append _ _)) (s1.mono (List.prefix_append _ _)))) hb.2.2.2.1
  have e4 := k_laws_eqBlockS (M ++ [⟨[.int .i64 a0, .int .i64 a1, .int .i64 a2, .int .i64 a3.1, u0, u1, u2], 1, 2⟩, ⟨[.int .i64 b0, .int .i64 b1, .int .i64 b2, .int .i64 b3.1, v0, v1, v2], 1, 2⟩]) _ _ a4 b4 (r2.mono (List.prefix_append _ _)) (s2.mono (List.prefix_append _ _)) hb.2.2.2.2
  have i0 := one_head r0.one
  have i1 := one_head r1.one
  have i2 := one_head r2.one
  have j0 := one_head s0.one
  have j1 := one_head s1.one
  have j2 := one_head s2.one
  by_cases q0 : a0 = b0
  rotate_left
  · have hne : ¬ ((a0, a1, a2, a3, a4) : ty_Oram.D) = (b0, b1, b2, b3, b4) := fun e => q0 (by simp only [Prod.mk.injEq] at e; simp only [e])
    refine ans_f hne ?_
    rw [aCall_eq T_laws_eqOram]; unfold A_laws_eqOram C_laws_eqOram; simp [thenD_pp, sliceCells_sl, sliceCells_z, sliceCells_nil, take_full, appS_sl, appK_ok, appS_none, thenD_ag, agP_nil, agP_cons, i0, i1, i2, j0, j1, j2, q0]
  subst q0
  by_cases q1 : a1 = b1
  rotate_left
  · have hne : ¬ ((a0, a1, a2, a3, a4) : ty_Oram.D) = (a0, b1, b2, b3, b4) := fun e => q1 (by simp only [Prod.mk.injEq] at e; simp only [e])
    refine ans_f hne ?_
    rw [aCall_eq T_laws_eqOram]; unfold A_laws_eqOram C_laws_eqOram; simp [thenD_pp, sliceCells_sl, sliceCells_z, sliceCells_nil, take_full, appS_sl, appK_ok, appS_none, thenD_ag, agP_nil, agP_cons, i0, i1, i2, j0, j1, j2, q1]
  subst q1
  by_cases q2 : a2 = b2
  rotate_left
  · have hne : ¬ ((a0, a1, a2, a3, a4) : ty_Oram.D) = (a0, a1, b2, b3, b4) := fun e => q2 (by simp only [Prod.mk.injEq] at e; simp only [e])
    refine ans_f hne ?_
    rw [aCall_eq T_laws_eqOram]; unfold A_laws_eqOram C_laws_eqOram; simp [thenD_pp, sliceCells_sl, sliceCells_z, sliceCells_nil, take_full, appS_sl, appK_ok, appS_none, thenD_ag, agP_nil, agP_cons, i0, i1, i2, j0, j1, j2, q2]
  subst q2
  by_cases q3 : a3 = b3
  rotate_left
  · have hne : ¬ ((a0, a1, a2, a3, a4) : ty_Oram.D) = (a0, a1, a2, b3, b4) := fun e => q3 (by simp only [Prod.mk.injEq] at e; simp only [e])
    refine ans_f hne ?_
    have e3 := (ans_of e3).2 q3
    rw [aCall_eq T_laws_eqOram]; unfold A_laws_eqOram C_laws_eqOram; simp [thenD_pp, sliceCells_sl, sliceCells_z, sliceCells_nil, take_full, appS_sl, appK_ok, appS_none, thenD_ag, agP_nil, agP_cons, i0, i1, i2, j0, j1, j2, e3]
  have e3 := (ans_of e3).1 q3
  by_cases q4 : a4 = b4
  rotate_left
  · have hne : ¬ ((a0, a1, a2, a3, a4) : ty_Oram.D) = (a0, a1, a2, b3, b4) := fun e => q4 (by simp only [Prod.mk.injEq] at e; simp only [e])
    refine ans_f hne ?_
    have e4 := (ans_of e4).2 q4
    rw [aCall_eq T_laws_eqOram]; unfold A_laws_eqOram C_laws_eqOram; simp [thenD_pp, sliceCells_sl, sliceCells_z, sliceCells_nil, take_full, appS_sl, appK_ok, appS_none, thenD_ag, agP_nil, agP_cons, i0, i1, i2, j0, j1, j2, e3, e4]
  have e4 := (ans_of e4).1 q4
  have he : ((a0, a1, a2, a3, a4) : ty_Oram.D) = (a0, a1, a2, b3, b4) := by simp only [q3, q4]
  refine ans_t he ?_
  rw [aCall_eq T_laws_eqOram]; unfold A_laws_eqOram C_laws_eqOram; simp [thenD_pp, sliceCells_sl, sliceCells_z, sliceCells_nil, take_full, appS_sl, appK_ok, appS_none, thenD_ag, agP_nil, agP_cons, i0, i1, i2, j0, j1, j2, e3, e4]
theorem r_laws_eqIntS (M : Mem) (a b : Option Addr) (c d : Nat) (xs ys : List ty_Int.D) (h : Rep (.sl ty_Int) M [.slice a xs.length c] xs) (h2 : Rep (.sl ty_Int) M [.slice b ys.length d] ys) (hn : xs.length ≤ 9223372036854775807) (i : Nat) (hi : i < xs.length) (hj : i < ys.length) (he : xs[i] = ys[i]) :
    lp (aCall T0) K_laws_eqIntS_0 L_laws_eqIntS_0 [.slice a xs.length c, .slice b ys.length d, und, und, und, .int .i64 i, und, und, und, und, und, und, und, und, und, und, und, und, und, und, und, und, und, und, und, und] M = lp (aCall T0) K_laws_eqIntS_0 L_laws_eqIntS_0 [.slice a xs.length c, .slice b ys.length d, und, und, und, .int .i64 (i + 1 : Nat), und, und, und, und, und, und, und, und, und, und, und, und, und, und, und, und, und, und, und, und] M := by
  obtain ⟨l, o, rfl, _, hrd⟩ := at_Int h hi
  obtain ⟨l2, o2, rfl, _, hrd2⟩ := at_Int h2 hj
  have e6 : IntKind.i64.wrap ((i : Int) + 1) = i + 1 := wrap_i64 (by omega) (by omega)
  rw [S_laws_eqIntS_0]; unfold B_laws_eqIntS_0; simp [hrd, hrd2, e6, hi, hj, he]
theorem x_laws_eqIntS (M : Mem) (a b : Option Addr) (c d : Nat) (xs ys : List ty_Int.D) (h : Rep (.sl ty_Int) M [.slice a xs.length c] xs) (h2 : Rep (.sl ty_Int) M [.slice b ys.length d] ys) (hn : xs.length ≤ 9223372036854775807) (i : Nat) (hi : i < xs.length) (hj : i < ys.length) (he : xs[i] ≠ ys[i]) (k : ACode) :
    thenF M [.tmp 4] (thenS (blockR 0 (lp (aCall T0) K_laws_eqIntS_0 L_laws_eqIntS_0 [.slice a xs.length c, .slice b ys.length d, und, und, und, .int .i64 i, und, und, und, und, und, und, und, und, und, und, und, und, und, und, und, und, und, und, und, und] M)) (aCall T0) k) = some (.bool false, M) := by
  obtain ⟨l, o, rfl, _, hrd⟩ := at_Int h hi
  obtain ⟨l2, o2, rfl, _, hrd2⟩ := at_Int h2 hj
  rw [S_laws_eqIntS_0]; unfold B_laws_eqIntS_0; simp [hrd, hrd2, hi, hj, he]
theorem c_laws_eqIntS (M : Mem) (v u : V) (xs ys : List Int) (h : Rep (.sl ty_Int) M [v] xs) (h2 : Rep (.sl ty_Int) M [u] ys) (hn : xs.length ≤ 9223372036854775807) : aCall T0 F_laws_eqIntS [v, u] M = some (.bool (decide (xs = ys)), M) := by
  obtain ⟨a, c, rfl⟩ := h.slen
  obtain ⟨b, d, rfl⟩ := h2.slen
  by_cases hl : xs.length = ys.length
  · rcases list_eq_iff hl with he | ⟨j, hj, h3, h4⟩
    · subst he
      have hc := chain (g := fun i : Nat => lp (aCall T0) K_laws_eqIntS_0 L_laws_eqIntS_0 [.slice a xs.length c, .slice b xs.length d, und, und, und, .int .i64 i, und, und, und, und, und, und, und, und, und, und, und, und, und, und, und, und, und, und, und, und] M) (n := xs.length) fun i hi => r_laws_eqIntS M a b c d xs xs h h2 hn i hi hi rfl
      simp only [Int.natCast_zero, Int.ofNat_zero] at hc
      rw [aCall_eq T_laws_eqIntS]; unfold A_laws_eqIntS C_laws_eqIntS; simp [hc]
      rw [S_laws_eqIntS_0]; unfold B_laws_eqIntS_0; simp
    · have hc := chain (g := fun i : Nat => lp (aCall T0) K_laws_eqIntS_0 L_laws_eqIntS_0 [.slice a xs.length c, .slice b ys.length d, und, und, und, .int .i64 i, und, und, und, und, und, und, und, und, und, und, und, und, und, und, und, und, und, und, und, und] M) (n := j) fun i hi => r_laws_eqIntS M a b c d xs ys h h2 hn i (by omega) (by omega) (h3 i (by omega) hi)
      simp only [Int.natCast_zero, Int.ofNat_zero] at hc
      have hx := x_laws_eqIntS M a b c d xs ys h h2 hn j hj (by omega) h4
      have hne : xs ≠ ys := fun e => h4 (by simp [e])
      simp only [← hl] at hc hx
      simp only [← hl]
      rw [aCall_eq T_laws_eqIntS]; unfold A_laws_eqIntS C_laws_eqIntS; simp [hc, hx, hne]
  · have hne : xs ≠ ys := fun e => hl (by rw [e])
    have hl2 : ¬ ((xs.length : Int) = ys.length) := by omega
    rw [aCall_eq T_laws_eqIntS]; unfold A_laws_eqIntS C_laws_eqIntS; simp [hl2, hl, hne]
theorem k_laws_eqIntS : EqS T0 ty_Int F_laws_eqIntS := fun M v u xs ys h h2 hb => c_laws_eqIntS M v u xs ys h h2 (Nat.le_trans hb.1 (by decide))
set_option maxHeartbeats 4000000 in
theorem k_laws_eqDeep : EqF T0 ty_Deep F_laws_eqDeep := by
  intro M cs ds x y h h2 hb
  obtain ⟨a0, a1, a2, a3⟩ := x
  obtain ⟨b0, b1, b2, b3⟩ := y
  obtain ⟨u0, u1, u2, u3, u4, u5, u6, rfl, w0, w1, w2, w3, w4, w5, w6, w7, w8, r0, r1, r2, r3, r4, r5, r6⟩ := rep_g_Deep h
  obtain ⟨v0, v1, v2, v3, v4, v5, v6, rfl, _w0, _w1, _w2, _w3, _w4, _w5, _w6, _w7, _w8, s0, s1, s2, s3, s4, s5, s6⟩ := rep_g_Deep h2
  try dsimp only at *
  have e1 := k_laws_eqIntS (M ++ [⟨[.int .i64 a0, u0, .int .i64 a2.1, .int .i64 a2.2.1, .int .i64 a2.2.2.1, .int .i64 a2.2.2.2.1.1, u1, u2, u3, .int .i64 a3.1, .int .i64 a3.2.1, .int .i64 a3.2.2.1, .int .i64 a3.2.2.2.1.1, u4, u5, u6], 1, 2⟩, ⟨[.int .i64 b0, v0, .int .i64 b2.1, .int .i64 b2.2.1, .int .i64 b2.2.2.1, .int .i64 b2.2.2.2.1.1, v1, v2, v3, .int .i64 b3.1, .int .i64 b3.2.1, .int .i64 b3.2.2.1, .int .i64 b3.2.2.2.1.1, v4, v5, v6], 1, 2⟩]) _ _ a1 b1 (r0.mono (List.prefix_append _ _)) (s0.mono (List.prefix_append _ _)) hb.2.1
  have e2 := k_laws_eqOram (M ++ [⟨[.int .i64 a0, u0, .int .i64 a2.1, .int .i64 a2.2.1, .int .i64 a2.2.2.1, .int .i64 a2.2.2.2.1.1, u1, u2, u3, .int .i64 a3.1, .int .i64 a3.2.1, .int .i64 a3.2.2.1, .int .i64 a3.2.2.2.1.1, u4, u5, u6], 1, 2⟩, ⟨[.int .i64 b0, v0, .int .i64 b2.1, .int .i64 b2.2.1, .int .i64 b2.2.2.1, .int .i64 b2.2.2.2.1.1, v1, v2, v3, .int .i64 b3.1, .int .i64 b3.2.1, .int .i64 b3.2.2.1, .int .i64 b3.2.2.2.1.1, v4, v5, v6], 1, 2⟩]) _ _ a2 b2 ((mkrep_g_Oram w1 w2 w3 w4 (r1.mono (List.prefix_append _ _)) (r2.mono (List.prefix_append _ _)) (r3.mono (List.prefix_append _ _)))) ((mkrep_g_Oram _w1 _w2 _w3 _w4 (s1.mono (List.prefix_append _ _)) (s2.mono (List.prefix_append _ _)) (s3.mono (List.prefix_append _ _)))) hb.2.2.1
  have e3 := k_laws_eqOram (M ++ [⟨[.int .i64 a0, u0, .int .i64 a2.1, .int .i64 a2.2.1, .int .i64 a2.2.2.1, .int .i64 a2.2.2.2.1.1, u1, u2, u3, .int .i64 a3.1, .int .i64 a3.2.1, .int .i64 a3.2.2.1, .int .i64 a3.2.2.2.1.1, u4, u5, u6], 1, 2⟩, ⟨[.int .i64 b0, v0, .int .i64 b2.1, .int .i64 b2.2.1, .int .i64 b2.2.2.1, .int .i64 b2.2.2.2.1.1, v1, v2, v3, .int .i64 b3.1, .int .i64 b3.2.1, .int .i64 b3.2.2.1, .int .i64 b3.2.2.2.1.1, v4, v5, v6], 1, 2⟩]) _ _ a3 b3 ((mkrep_g_Oram w5 w6 w7 w8 (r4.mono (List.prefix_append _ _)) (r5.mono (List.prefix_append _ _)) (r6.mono (List.prefix_append _ _)))) ((mkrep_g_Oram _w5 _w6 _w7 _w8 (s4.mono (List.prefix_append _ _)) (s5.mono (List.prefix_append _ _)) (s6.mono (List.prefix_append _ _)))) hb.2.2.2
  have i0 := one_head r0.one
  have i1 := one_head r1.one
  have i2 := one_head r2.one
  have i3 := one_head r3.one
  have i4 := one_head r4.one
  have i5 := one_head r5.one
  have i6 := one_head r6.one
  have j0 := one_head s0.one
  have j1 := one_head s1.one
  have j2 := one_head s2.one
  have j3 := one_head s3.one
  have j4 := one_head s4.one
  have j5 := one_head s5.one
  have j6 := one_head s6.one
  by_cases q0 : a0 = b0
  rotate_left
  · have hne : ¬ ((a0, a1, a2, a3) : ty_Deep.D) = (b0, b1, b2, b3) := fun e => q0 (by simp only [Prod.mk.injEq] at e; simp only [e])
    refine ans_f hne ?_
    rw [aCall_eq T_laws_eqDeep]; unfold A_laws_eqDeep C_laws_eqDeep; simp [thenD_pp, sliceCells_sl, sliceCells_z, sliceCells_nil, take_full, appS_sl, appK_ok, appS_none, thenD_ag, agP_nil, agP_cons, i0, i1, i2, i3, i4, i5, i6, j0, j1, j2, j3, j4, j5, j6, q0]
  subst q0
  by_cases q1 : a1 = b1
  rotate_left
  · have hne : ¬ ((a0, a1, a2, a3) : ty_Deep.D) = (a0, b1, b2, b3) := fun e => q1 (by simp only [Prod.mk.injEq] at e; simp only [e])
    refine ans_f hne ?_
    have e1 := (ans_of e1).2 q1
    rw [aCall_eq T_laws_eqDeep]; unfold A_laws_eqDeep C_laws_eqDeep; simp [thenD_pp, sliceCells_sl, sliceCells_z, sliceCells_nil, take_full, appS_sl, appK_ok, appS_none, thenD_ag, agP_nil, agP_cons, i0, i1, i2, i3, i4, i5, i6, j0, j1, j2, j3, j4, j5, j6, e1]
  have e1 := (ans_of e1).1 q1
  by_cases q2 : a2 = b2
  rotate_left
  · have hne : ¬ ((a0, a1, a2, a3) : ty_Deep.D) = (a0, b1, b2, b3) := fun e => q2 (by simp only [Prod.mk.injEq] at e; simp only [e])
    refine ans_f hne ?_
    have e2 := (ans_of e2).2 q2
    rw [aCall_eq T_laws_eqDeep]; unfold A_laws_eqDeep C_laws_eqDeep; simp [thenD_pp, sliceCells_sl, sliceCells_z, sliceCells_nil, take_full, appS_sl, appK_ok, appS_none, thenD_ag, agP_nil, agP_cons, i0, i1, i2, i3, i4, i5, i6, j0, j1, j2, j3, j4, j5, j6, e1, e2]
  have e2 := (ans_of e2).1 q2
  by_cases q3 : a3 = b3
  rotate_left
  · have hne : ¬ ((a0, a1, a2, a3) : ty_Deep.D) = (a0, b1, b2, b3) := fun e => q3 (by simp only [Prod.mk.injEq] at e; simp only [e])
    refine ans_f hne ?_
    have e3 := (ans_of e3).2 q3
    rw [aCall_eq T_laws_eqDeep]; unfold A_laws_eqDeep C_laws_eqDeep; simp [thenD_pp, sliceCells_sl, sliceCells_z, sliceCells_nil, take_full, appS_sl, appK_ok, appS_none, thenD_ag, agP_nil, agP_cons, i0, i1, i2, i3, i4, i5, i6, j0, j1, j2, j3, j4, j5, j6, e1, e2, e3]
  have e3 := (ans_of e3).1 q3
  have he : ((a0, a1, a2, a3) : ty_Deep.D) = (a0, b1, b2, b3) := by simp only [q1, q2, q3]
  refine ans_t he ?_
  rw [aCall_eq T_laws_eqDeep]; unfold A_laws_eqDeep C_laws_eqDeep; simp [thenD_pp, sliceCells_sl, sliceCells_z, sliceCells_nil, take_full, appS_sl, appK_ok, appS_none, thenD_ag, agP_nil, agP_cons, i0, i1, i2, i3, i4, i5, i6, j0, j1, j2, j3, j4, j5, j6, e1, e2, e3]
def sz_Touch (x : ty_Touch.D) : Int := 0
def szs_Touch : List ty_Touch.D → Int
  | [] => 0
  | x :: xs => sz_Touch x + szs_Touch xs
theorem szs_pos_Touch : ∀ xs, 0 ≤ szs_Touch xs
  | [] => by simp [szs_Touch]
  | x :: xs => by have := szs_pos_Touch xs; unfold szs_Touch sz_Touch; omega
theorem c_laws_szTouchS (M : Mem) (v : V) (xs : List ty_Touch.D) (h : Rep (.sl ty_Touch) M [v] xs) (left : Int) (h0 : 0 ≤ left) (h1 : left ≤ 1048576) (hx : xs.length ≤ 9223372036854775807) :
    ∃ l : Int, aCall T0 F_laws_szTouchS [v, .int .i64 left] M = some (.int .i64 l, M) ∧ (0 ≤ l → xs.length + szs_Touch xs + l ≤ left) := by
  obtain ⟨a, c, rfl⟩ := h.slen
  have e0 : IntKind.i64.wrap (left - xs.length) = left - xs.length := wrap_i64 (by omega) (by omega)
  have hz : szs_Touch xs = 0 := by
    have : ∀ xs, szs_Touch xs = 0 := fun xs => by induction xs with | nil => rfl | cons x xs ih => simp [szs_Touch, sz_Touch, ih]
    exact this xs
  by_cases hc : left - (xs.length : Int) < 0
  · refine ⟨-1, ?_, by omega⟩
    rw [aCall_eq T_laws_szTouchS]; unfold A_laws_szTouchS C_laws_szTouchS; simp [e0, hc]
  · refine ⟨left - xs.length, ?_, by omega⟩
    rw [aCall_eq T_laws_szTouchS]; unfold A_laws_szTouchS C_laws_szTouchS; simp [e0, hc]
theorem k_laws_szTouchS : SzS T0 ty_Touch F_laws_szTouchS := fun M v xs left h hb h0 h1 => by
  obtain ⟨l, e, f⟩ := c_laws_szTouchS M v xs h left h0 h1 hb.1
  have hp := szs_pos_Touch xs
  refine ⟨l, ?_, e, fun hl => ⟨?_, fun _ _ => ⟨trivial, trivial, trivial⟩⟩⟩
  · by_cases hl : 0 ≤ l
    · have := f hl; omega
    · omega
  · have := f hl; omega
theorem k_laws_szByteS : SzS T0 ty_Byte F_laws_szByteS := fun M v xs left h hb h0 h1 => by
  obtain ⟨a, c, rfl⟩ := h.slen
  have hx : xs.length ≤ 9223372036854775807 := hb.1
  have e : IntKind.i64.wrap (left - (xs.length : Int)) = left - xs.length := wrap_i64 (by omega) (by omega)
  by_cases hl : left - (xs.length : Int) < 0
  · refine ⟨-1, by omega, ?_, by omega⟩
    have hl2 : left < (xs.length : Int) := by omega
    rw [aCall_eq T_laws_szByteS]; unfold A_laws_szByteS C_laws_szByteS; simp [e, hl, hl2]
  · refine ⟨left - xs.length, by omega, ?_, fun _ => ⟨by omega, fun _ _ => trivial⟩⟩
    have hl2 : ¬ left < (xs.length : Int) := by omega
    rw [aCall_eq T_laws_szByteS]; unfold A_laws_szByteS C_laws_szByteS; simp [e, hl, hl2]
theorem k_laws_szCell : SzF T0 ty_Cell F_laws_szCell := by
  intro M cs x left h hb h0 h1
  obtain ⟨u0, rfl, r0⟩ := rep_g_Cell h
  have i0 := one_head r0.one
  obtain ⟨l0, a0, e0, g0⟩ := k_laws_szByteS (M ++ [⟨[u0], 1, 2⟩]) _ _ left (r0.mono (List.prefix_append _ _)) hb (by omega) (by omega)
  by_cases h_0 : l0 < 0
  · refine ⟨-1, by omega, ?_, by omega⟩
    rw [aCall_eq T_laws_szCell]; unfold A_laws_szCell C_laws_szCell; simp [thenD_pp, sliceCells_sl, sliceCells_z, sliceCells_nil, take_full, appS_sl, appK_ok, appS_none, thenD_ag, agP_nil, agP_cons, i0, e0, h_0]
  refine ⟨l0, by omega, ?_, fun _ => g0 (by omega)⟩
  rw [aCall_eq T_laws_szCell]; unfold A_laws_szCell C_laws_szCell; simp [thenD_pp, sliceCells_sl, sliceCells_z, sliceCells_nil, take_full, appS_sl, appK_ok, appS_none, thenD_ag, agP_nil, agP_cons, i0, e0, h_0]
theorem k_laws_szCellS : SzS T0 ty_Cell F_laws_szCellS := sz_sl (w := 1) T_laws_szCellS rfl k_laws_szCell
theorem k_laws_szMem : SzF T0 ty_Mem F_laws_szMem := by
  intro M cs x left h hb h0 h1
  obtain ⟨u0, u1, rfl, w0, r0, r1⟩ := rep_g_Mem h
  have i0 := one_head r0.one
  have i1 := one_head r1.one
  obtain ⟨l0, a0, e0, g0⟩ := k_laws_szCellS (M ++ [⟨[.int .i64 x.1, u0, u1], 1, 2⟩]) _ _ left (r0.mono (List.prefix_append _ _)) hb.2.1 (by omega) (by omega)
  by_cases h_0 : l0 < 0
  · refine ⟨-1, by omega, ?_, by omega⟩
    rw [aCall_eq T_laws_szMem]; unfold A_laws_szMem C_laws_szMem; simp [thenD_pp, sliceCells_sl, sliceCells_z, sliceCells_nil, take_full, appS_sl, appK_ok, appS_none, thenD_ag, agP_nil, agP_cons, i0, i1, e0, h_0]
  obtain ⟨l1, a1, e1, g1⟩ := k_laws_szTouchS (M ++ [⟨[.int .i64 x.1, u0, u1], 1, 2⟩]) _ _ l0 (r1.mono (List.prefix_append _ _)) hb.2.2 (by omega) (by omega)
  by_cases h_1 : l1 < 0
  · refine ⟨-1, by omega, ?_, by omega⟩
    rw [aCall_eq T_laws_szMem]; unfold A_laws_szMem C_laws_szMem; simp [thenD_pp, sliceCells_sl, sliceCells_z, sliceCells_nil, take_full, appS_sl, appK_ok, appS_none, thenD_ag, agP_nil, agP_cons, i0, i1, e0, h_0, e1, h_1]
  refine ⟨l1, by omega, ?_, fun _ => ⟨trivial, g0 (by omega), g1 (by omega)⟩⟩
  rw [aCall_eq T_laws_szMem]; unfold A_laws_szMem C_laws_szMem; simp [thenD_pp, sliceCells_sl, sliceCells_z, sliceCells_nil, take_full, appS_sl, appK_ok, appS_none, thenD_ag, agP_nil, agP_cons, i0, i1, e0, h_0, e1, h_1]
theorem k_laws_szBlock : SzF T0 ty_Block F_laws_szBlock := by
  intro M cs x left h hb h0 h1
  obtain ⟨u0, rfl, w0, w1, r0⟩ := rep_g_Block h
  have i0 := one_head r0.one
  obtain ⟨l0, a0, e0, g0⟩ := k_laws_szByteS (M ++ [⟨[.int .i64 x.1, .int .i64 x.2.1, u0], 1, 2⟩]) _ _ left (r0.mono (List.prefix_append _ _)) hb.2.2 (by omega) (by omega)
  by_cases h_0 : l0 < 0
  · refine ⟨-1, by omega, ?_, by omega⟩
    rw [aCall_eq T_laws_szBlock]; unfold A_laws_szBlock C_laws_szBlock; simp [thenD_pp, sliceCells_sl, sliceCells_z, sliceCells_nil, take_full, appS_sl, appK_ok, appS_none, thenD_ag, agP_nil, agP_cons, i0, e0, h_0]
  refine ⟨l0, by omega, ?_, fun _ => ⟨trivial, trivial, g0 (by omega)⟩⟩
  rw [aCall_eq T_laws_szBlock]; unfold A_laws_szBlock C_laws_szBlock; simp [thenD_pp, sliceCells_sl, sliceCells_z, sliceCells_nil, take_full, appS_sl, appK_ok, appS_none, thenD_ag, agP_nil, agP_cons, i0, e0, h_0]
theorem k_laws_szBlockS : SzS T0 ty_Block F_laws_szBlockS := sz_sl (w := 3) T_laws_szBlockS rfl k_laws_szBlock
theorem k_laws_szOram : SzF T0 ty_Oram F_laws_szOram := by
  intro M cs x left h hb h0 h1
  obtain ⟨u0, u1, u2, rfl, w0, w1, w2, w3, r0, r1, r2⟩ := rep_g_Oram h
  have i0 := one_head r0.one
  have i1 := one_head r1.one
  have i2 := one_head r2.one
  obtain ⟨l0, a0, e0, g0⟩ := k_laws_szMem (M ++ [⟨[.int .i64 x.1, .int .i64 x.2.1, .int .i64 x.2.2.1, .int .i64 x.2.2.2.1.1, u0, u1, u2], 1, 2⟩]) _ _ left ((mkrep_g_Mem w3 (r0.mono (List.prefix_append _ _)) (r1.mono (List.prefix_append _ _)))) hb.2.2.2.1 (by omega) (by omega)
  by_cases h_0 : l0 < 0
  · refine ⟨-1, by omega, ?_, by omega⟩
    rw [aCall_eq T_laws_szOram]; unfold A_laws_szOram C_laws_szOram; simp [thenD_pp, sliceCells_sl, sliceCells_z, sliceCells_nil, take_full, appS_sl, appK_ok, appS_none, thenD_ag, agP_nil, agP_cons, i0, i1, i2, e0, h_0]
  obtain ⟨l1, a1, e1, g1⟩ := k_laws_szBlockS (M ++ [⟨[.int .i64 x.1, .int .i64 x.2.1, .int .i64 x.2.2.1, .int .i64 x.2.2.2.1.1, u0, u1, u2], 1, 2⟩]) _ _ l0 (r2.mono (List.prefix_append _ _)) hb.2.2.2.2 (by omega) (by omega)
  by_cases h_1 : l1 < 0
  · refine ⟨-1, by omega, ?_, by omega⟩
    rw [aCall_eq T_laws_szOram]; unfold A_laws_szOram C_laws_szOram; simp [thenD_pp, sliceCells_sl, sliceCells_z, sliceCells_nil, take_full, appS_sl, appK_ok, appS_none, thenD_ag, agP_nil, agP_cons, i0, i1, i2, e0, h_0, e1, h_1]
  refine ⟨l1, by omega, ?_, fun _ => ⟨trivial, trivial, trivial, g0 (by omega), g1 (by omega)⟩⟩
  rw [aCall_eq T_laws_szOram]; unfold A_laws_szOram C_laws_szOram; simp [thenD_pp, sliceCells_sl, sliceCells_z, sliceCells_nil, take_full, appS_sl, appK_ok, appS_none, thenD_ag, agP_nil, agP_cons, i0, i1, i2, e0, h_0, e1, h_1]
theorem c_laws_szIntS (M : Mem) (v : V) (xs : List Int) (h : Rep (.sl ty_Int) M [v] xs) (left : Int) (h0 : 0 ≤ left) (h1 : left ≤ 1048576) (hx : xs.length ≤ 9223372036854775807) :
    ∃ l : Int, aCall T0 F_laws_szIntS [v, .int .i64 left] M = some (.int .i64 l, M) ∧ (0 ≤ l → xs.length + l ≤ left) := by
  obtain ⟨a, c, rfl⟩ := h.slen
  have e : IntKind.i64.wrap (left - (xs.length : Int)) = left - xs.length := wrap_i64 (by omega) (by omega)
  by_cases hl : left - (xs.length : Int) < 0
  · refine ⟨-1, ?_, by omega⟩
    have hl2 : left < (xs.length : Int) := by omega
    rw [aCall_eq T_laws_szIntS]; unfold A_laws_szIntS C_laws_szIntS; simp [e, hl, hl2]
  · refine ⟨left - xs.length, ?_, by omega⟩
    have hl2 : ¬ left < (xs.length : Int) := by omega
    rw [aCall_eq T_laws_szIntS]; unfold A_laws_szIntS C_laws_szIntS; simp [e, hl, hl2]
theorem k_laws_szIntS : SzS T0 ty_Int F_laws_szIntS := fun M v xs left h hb h0 h1 => by
  obtain ⟨l, e, f⟩ := c_laws_szIntS M v xs h left h0 h1 hb.1
  refine ⟨l, ?_, e, fun hl => ⟨?_, fun _ _ => trivial⟩⟩
  · by_cases hl : 0 ≤ l
    · have := f hl; omega
    · omega
  · have := f hl; omega
theorem k_laws_szDeep : SzF T0 ty_Deep F_laws_szDeep := by
  intro M cs x left h hb h0 h1
  obtain ⟨u0, u1, u2, u3, u4, u5, u6, rfl, w0, w1, w2, w3, w4, w5, w6, w7, w8, r0, r1, r2, r3, r4, r5, r6⟩ := rep_g_Deep h
  have i0 := one_head r0.one
  have i1 := one_head r1.one
  have i2 := one_head r2.one
  have i3 := one_head r3.one
  have i4 := one_head r4.one
  have i5 := one_head r5.one
  have i6 := one_head r6.one
  obtain ⟨l0, a0, e0, g0⟩ := k_laws_szIntS (M ++ [⟨[.int .i64 x.1, u0, .int .i64 x.2.2.1.1, .int .i64 x.2.2.1.2.1, .int .i64 x.2.2.1.2.2.1, .int .i64 x.2.2.1.2.2.2.1.1, u1, u2, u3, .int .i64 x.2.2.2.1, .int .i64 x.2.2.2.2.1, .int .i64 x.2.2.2.2.2.1, .int .i64 x.2.2.2.2.2.2.1.1, u4, u5, u6], 1, 2⟩]) _ _ left (r0.mono (List.prefix_append _ _)) hb.2.1 (by omega) (by omega)
  by_cases h_0 : l0 < 0
  · refine ⟨-1, by omega, ?_, by omega⟩
    rw [aCall_eq T_laws_szDeep]; unfold A_laws_szDeep C_laws_szDeep; simp [thenD_pp, sliceCells_sl, sliceCells_z, sliceCells_nil, take_full, appS_sl, appK_ok, appS_none, thenD_ag, agP_nil, agP_cons, i0, i1, i2, i3, i4, i5, i6, e0, h_0]
  obtain ⟨l1, a1, e1, g1⟩ := k_laws_szOram (M ++ [⟨[.int .i64 x.1, u0, .int .i64 x.2.2.1.1, .int .i64 x.2.2.1.2.1, .int .i64 x.2.2.1.2.2.1, .int .i64 x.2.2.1.2.2.2.1.1, u1, u2, u3, .int .i64 x.2.2.2.1, .int .i64 x.2.2.2.2.1, .int .i64 x.2.2.2.2.2.1, .int .i64 x.2.2.2.2.2.2.1.1, u4, u5, u6], 1, 2⟩]) _ _ l0 ((mkrep_g_Oram w1 w2 w3 w4 (r1.mono (List.prefix_append _ _)) (r2.mono (List.prefix_append _ _)) (r3.mono (List.prefix_append _ _)))) hb.2.2.1 (by omega) (by omega)
  by_cases h_1 : l1 < 0
  · refine ⟨-1, by omega, ?_, by omega⟩
    rw [aCall_eq T_laws_szDeep]; unfold A_laws_szDeep C_laws_szDeep; simp [thenD_pp, sliceCells_sl, sliceCells_z, sliceCells_nil, take_full, appS_sl, appK_ok, appS_none, thenD_ag, agP_nil, agP_cons, i0, i1, i2, i3, i4, i5, i6, e0, h_0, e1, h_1]
  obtain ⟨l2, a2, e2, g2⟩ := k_laws_szOram (M ++ [⟨[.int .i64 x.1, u0, .int .i64 x.2.2.1.1, .int .i64 x.2.2.1.2.1, .int .i64 x.2.2.1.2.2.1, .int .i64 x.2.2.1.2.2.2.1.1, u1, u2, u3, .int .i64 x.2.2.2.1, .int .i64 x.2.2.2.2.1, .int .i64 x.2.2.2.2.2.1, .int .i64 x.2.2.2.2.2.2.1.1, u4, u5, u6], 1, 2⟩]) _ _ l1 ((mkrep_g_Oram w5 w6 w7 w8 (r4.mono (List.prefix_append _ _)) (r5.mono (List.prefix_append _ _)) (r6.mono (List.prefix_append _ _)))) hb.2.2.2 (by omega) (by omega)
  by_cases h_2 : l2 < 0
  · refine ⟨-1, by omega, ?_, by omega⟩
    rw [aCall_eq T_laws_szDeep]; unfold A_laws_szDeep C_laws_szDeep; simp [thenD_pp, sliceCells_sl, sliceCells_z, sliceCells_nil, take_full, appS_sl, appK_ok, appS_none, thenD_ag, agP_nil, agP_cons, i0, i1, i2, i3, i4, i5, i6, e0, h_0, e1, h_1, e2, h_2]
  refine ⟨l2, by omega, ?_, fun _ => ⟨trivial, g0 (by omega), g1 (by omega), g2 (by omega)⟩⟩
  rw [aCall_eq T_laws_szDeep]; unfold A_laws_szDeep C_laws_szDeep; simp [thenD_pp, sliceCells_sl, sliceCells_z, sliceCells_nil, take_full, appS_sl, appK_ok, appS_none, thenD_ag, agP_nil, agP_cons, i0, i1, i2, i3, i4, i5, i6, e0, h_0, e1, h_1, e2, h_2]
theorem rdn_box {M : Mem} {l n : Nat} {cs : List V} (h : M[l]? = some ⟨cs, 1, 2⟩) (hn : n = cs.length) : rdn M l 0 n = some cs := by
  unfold rdn
  rw [h]
  simp [hn]
theorem gc_ex (M M' : Mem) (v : V) : ∃ X, gc M (some (v, M')) = some (v, X) := by
  simp only [gc]
  split
  · exact ⟨_, rfl⟩
  · exact ⟨_, rfl⟩
def blkAt (w : Nat) (ys : List UInt8) (j : Nat) : ty_Block.D := (((ys.getD (j * (w + 3) + 1) 0).toNat : Int), ((ys.getD (j * (w + 3) + 2) 0).toNat : Int), (ys.drop (j * (w + 3) + 3)).take w)
def nbF (w : Nat) (ys : List UInt8) : Nat → Nat → Nat
  | 0, j => j
  | k + 1, j => if ys.getD (j * (w + 3)) 0 = 1 then nbF w ys k (j + 1) else j
/-- How many blocks a node's bytes tell. -/
def nbC (w : Nat) (ys : List UInt8) : Nat := nbF w ys 4 0
def ndB (w : Nat) (ys : List UInt8) : List ty_Block.D := (List.range (nbC w ys)).map (blkAt w ys)
def lgB (l : Int) : Bool := decide (0 ≤ l) && decide (l ≤ 6)
def wdB (w : Int) : Bool := decide (1 ≤ w) && decide (w ≤ 200)
def leafB (l x : Int) : Bool := lgB l && (decide (0 ≤ x) && decide (x < 2 ^ l.toNat))
def bidB (i : Int) : Bool := decide (0 ≤ i) && decide (i ≤ 255)
def blockB (l w : Int) (b : ty_Block.D) : Bool := (lgB l && wdB w) && (bidB b.1 && (leafB l b.2.1 && decide ((List.length (α := UInt8) b.2.2 : Int) = w)))
def stepB (l w : Int) (xs : List ty_Block.D) (i : Nat) : Bool := match xs[i]? with
  | some b => blockB l w b && (i == 0 || match xs[i - 1]? with
    | some p => decide (p.1 < b.1)
    | none => true)
  | none => true
def blocksB (l w : Int) (xs : List ty_Block.D) : Bool := (lgB l && wdB w) && (List.range xs.length).all (stepB l w xs)
def blkY (b : ty_Block.D) : List UInt8 := 1 :: UInt8.ofNat (Int.toNat b.1) :: UInt8.ofNat (Int.toNat b.2.1) :: b.2.2
def blksY (bs : List ty_Block.D) : List UInt8 := bs.flatMap blkY
def ndY (w : Nat) (bs : List ty_Block.D) : List UInt8 := blksY bs ++ List.replicate (4 * (w + 3) - (blksY bs).length) 0
/-- Are bytes a node's? -/
def ndOk (l w : Int) (ys : List UInt8) : Bool := (lgB l && wdB w) && (decide ((ys.length : Int) = 4 * (w + 3)) && (blocksB l w (ndB (Int.toNat w) ys) && decide (ndY (Int.toNat w) (ndB (Int.toNat w) ys) = ys)))
def hasId (id : Int) (xs : List ty_Block.D) : Bool := xs.any fun r => decide (r.1 = id)
def withoutL (id : Int) (xs : List ty_Block.D) : List ty_Block.D := xs.filter fun b => decide (b.1 ≠ id)
/-- The place of an Id. -/
def lbB (id : Int) (xs : List ty_Block.D) : Nat := (xs.takeWhile fun b => decide (b.1 < id)).length
def insL (b : ty_Block.D) (ys : List ty_Block.D) : List ty_Block.D := ys.take (lbB b.1 ys) ++ b :: ys.drop (lbB b.1 ys)
/-- A block is put. -/
def putL (b : ty_Block.D) (xs : List ty_Block.D) : List ty_Block.D := insL b (withoutL b.1 xs)
def blen (x : Nat) : Nat := if x = 0 then 0 else Nat.log2 x + 1
/-- Does a node lie on a leaf's path? -/
def onP (m node leaf : Nat) : Bool := decide ((2 ^ m + leaf) / 2 ^ (m - (blen node - 1)) = node)
/-- One node's blocks come in. -/
def inO (m nd : Nat) (all : List ty_Block.D) : List ty_Block.D → Option (List ty_Block.D)
  | [] => some all
  | b :: bs => if (onP m nd (Int.toNat b.2.1) && !(hasId b.1 all)) = true then inO m nd (putL b all) bs else none
/-- All nodes' blocks come in. -/
def outO (m : Nat) (w : Int) : Nat → List ty_Cell.D → List ty_Block.D → Option (List ty_Block.D)
  | _, [], all => some all
  | nd, c :: cs, all => if ndOk m w c = true then (match inO m nd all (ndB (Int.toNat w) c) with
    | some a => outO m w (nd + 1) cs a
    | none => none) else none
def stashB (l w : Int) (xs : List ty_Block.D) : Bool := decide (xs.length ≤ 128) && blocksB l w xs
def bdB (b : Int) : Bool := decide (0 ≤ b) && decide (b ≤ 64)
def touch0 (sz n a b c : Int) : Bool := decide ((a = 1 ∨ a = 2) ∧ 0 ≤ b ∧ b < n ∧ c = sz)
def touchB (m : ty_Mem.D) (t : ty_Touch.D) : Bool := touch0 m.1 (m.2.1.length : Int) t.1 t.2.1 t.2.2
def cellB (m : ty_Mem.D) (c : ty_Cell.D) : Bool := decide (((List.length (α := UInt8) c : Nat) : Int) = (m.1 : Int))
def mem0 (sz : Int) (n k : Nat) : Bool := decide ((1 ≤ sz ∧ sz ≤ 1000) ∧ n ≤ 128 ∧ k ≤ 6000)
def memB (m : ty_Mem.D) : Bool := mem0 m.1 m.2.1.length m.2.2.length && (m.2.1.all (cellB m) && m.2.2.all (touchB m))
/-- Does an Oram's frame hold? -/
def frO (l w b : Int) (m : ty_Mem.D) (st : List ty_Block.D) : Bool := lgB l && (wdB w && (bdB b && (memB m && (decide (m.2.1.length = 2 * 2 ^ Int.toNat l - 1) && (decide ((m.1 : Int) = 4 * (w + 3)) && (decide ((st.length : Int) ≤ b) && stashB l w st))))))
/-- An Oram's blocks, if it is one. -/
def orX (l w b : Int) (m : ty_Mem.D) (st : List ty_Block.D) : Option (List ty_Block.D) := if frO l w b m st = true then outO (Int.toNat l) w 1 m.2.1 st else none
def orO (x : ty_Oram.D) : Option (List ty_Block.D) := orX x.1 x.2.1 x.2.2.1 x.2.2.2.1 x.2.2.2.2
def dlB (l : Int) : Bool := decide (2 ≤ l) && decide (l ≤ 6)
def dfB (d : ty_Deep.D) : Bool := dlB d.1 && (decide (d.2.1.length = 2 ^ Int.toNat (d.1 - 2)) && (decide (d.2.2.1.1 = d.1 - 2) && (decide (d.2.2.1.2.1 = (4 : Int)) && decide (d.2.2.2.1 = d.1))))
def bytI (ys : List UInt8) : List Int := ys.map fun y => (y.toNat : Int)
def posD (one : List ty_Block.D) : List Int := (one.map fun b => bytI b.2.2).flatten
def dkB (l : Int) (tb : List Int) (one : List ty_Block.D) (k : Nat) : Bool := match one[k]? with
  | some b => (decide (b.1 = (k : Int)) && decide (b.2.1 = tb.getD k 0)) && b.2.2.all fun y => leafB l (y.toNat : Int)
  | none => true
/-- Does a block lie where the kept leaves tell? -/
def kpB (pos : List Int) (b : ty_Block.D) : Bool := decide (b.1 < (pos.length : Int)) && decide (pos.getD (Int.toNat b.1) 0 = b.2.1)
def dtB (d : ty_Deep.D) (one two : List ty_Block.D) : Bool := decide (one.length = d.2.1.length) && ((List.range one.length).all (dkB d.1 d.2.1 one) && two.all (kpB (posD one)))
/-- Is it a Deep? -/
def deepB (d : ty_Deep.D) : Bool := dfB d && (match orO d.2.2.1, orO d.2.2.2 with
  | some one, some two => dtB d one two
  | _, _ => false)
structure DpF (M : Mem) (cs : List V) (d : ty_Deep.D) (aT : Option Addr) (cT : Nat) (o1 o2 : List V) : Prop where
  c0 : cs[0]? = some (.int .i64 d.1)
  c1 : cs[1]? = some (.slice aT d.2.1.length cT)
  c2 : cs[2]? = some (.int .i64 d.2.2.1.1)
  c3 : cs[3]? = some (.int .i64 d.2.2.1.2.1)
  c9 : cs[9]? = some (.int .i64 d.2.2.2.1)
  n1 : (cs.drop 2).take 7 = o1
  n2 : (cs.drop 9).take 7 = o2
  hl : cs.length = 16
  rT : Rep (.sl ty_Int) M [.slice aT d.2.1.length cT] d.2.1
  r1 : Rep ty_Oram M o1 d.2.2.1
  r2 : Rep ty_Oram M o2 d.2.2.2
theorem deep_shape {M : Mem} {cs : List V} {d : ty_Deep.D} (h : Rep ty_Deep M cs d) : ∃ aT cT o1 o2, DpF M cs d aT cT o1 o2 := by
  obtain ⟨u0, u1, u2, u3, u4, u5, u6, rfl, w0, w1, w2, w3, w4, w5, w6, w7, w8, r0, r1, r2, r3, r4, r5, r6⟩ := rep_g_Deep h
  obtain ⟨a, c, rfl⟩ := r0.slen
  exact ⟨a, c, _, _, rfl, rfl, rfl, rfl, rfl, rfl, rfl, rfl, r0, mkrep_g_Oram w1 w2 w3 w4 r1 r2 r3, mkrep_g_Oram w5 w6 w7 w8 r4 r5 r6⟩
theorem c_impl_within (M : Mem) (x a b : Int) : aCall T0 F_impl_within [.int .i64 x, .int .i64 a, .int .i64 b] M = some (.bool (decide (a ≤ x) && decide (x ≤ b)), M) := by
  rw [aCall_eq T_impl_within]; unfold A_impl_within C_impl_within; simp
  repeat' ((first | rw [selO_some] | rw [condR_bool] | rw [selD_some]); split <;> rename_i hq <;> (have hq2 := hq) <;> (try simp at hq2) <;> (try simp [*]))
theorem c_impl_isDeepLog (M : Mem) (x : Int) : aCall T0 F_impl_isDeepLog [.int .i64 x] M = some (.bool (decide (2 ≤ x) && decide (x ≤ 6)), M) := by
  rw [aCall_eq T_impl_isDeepLog]; unfold A_impl_isDeepLog C_impl_isDeepLog; simp [c_impl_within]
/-- Sizes of blocks. -/
def BlkSz (xs : List ty_Block.D) : Prop := xs.length ≤ 1048576 ∧ ∀ x ∈ xs, List.length (α := UInt8) x.2.2 ≤ 1048576
theorem flatten_len {α : Type} {ns : List (List α)} {k : Nat} (h : ∀ x ∈ ns, x.length ≤ k) : ns.flatten.length ≤ ns.length * k := by
  induction ns with
  | nil => simp
  | cons x xs ih =>
    rw [List.flatten_cons, List.length_append, List.length_cons, Nat.succ_mul]
    have h1 := h x (by simp)
    have h2 := ih (fun y hy => h y (by simp [hy]))
    omega
theorem posD_len {one : List ty_Block.D} {N : Nat} (h : ∀ b ∈ one, List.length (α := UInt8) b.2.2 ≤ N) : (posD one).length ≤ one.length * N := by
  have := flatten_len (ns := one.map fun b => bytI b.2.2) (k := N) (fun x hx => by
    obtain ⟨b, hb, rfl⟩ := List.mem_map.1 hx
    unfold bytI
    rw [List.length_map]
    exact h b hb)
  rw [List.length_map] at this
  exact this
abbrev FdI (p q : Nat) (v5 : V) (a : Option Addr) (n c : Nat) (i : Nat) : List V := [und, .pointer (some ⟨p, 0, none⟩), und, und, und, v5, und, .pointer (some ⟨q, 0, none⟩), und, und, und, und, und, und, und, und, und, und, und, und, und, und, und, und, und, und, und, und, und, und, und, und, und, und, und, und, und, und, und, und, und, und, und, und, und, und, und, und, und, und, und, und, und, und, und, und, und, und, und, und, und, und, und, und, und, und, und, und, und, und, und, und, und, und, und, .slice a n c, .int .i64 n, .int .i64 i, und, und, und, und, und, und, und, und, und, und, und, und, und, und, und, und, und, und, und, und, und, und, und, und, und, und, und, und, und, und, und, und, und, und, und, und, und, und, und, und, und, und]
theorem at_Block {M : Mem} {a : Option Addr} {n c : Nat} {xs : List ty_Block.D} (h : Rep (.sl ty_Block) M [.slice a n c] xs) {i : Nat} (hi : i < xs.length) : ∃ l o u, a = some ⟨l, o, none⟩ ∧ rd1 M l (o + i * 3) = some (.int .i64 xs[i].1) ∧ rd1 M l (o + i * 3 + 1) = some (.int .i64 xs[i].2.1) ∧ rd1 M l (o + i * 3 + 2) = some u ∧ rdn M l (o + i * 3) 3 = some [.int .i64 xs[i].1, .int .i64 xs[i].2.1, u] ∧ (Lit.int .i64 xs[i].1).wf = true ∧ (Lit.int .i64 xs[i].2.1).wf = true ∧ Rep (.sl ty_Byte) M [u] xs[i].2.2 ∧ Rep ty_Block M [.int .i64 xs[i].1, .int .i64 xs[i].2.1, u] xs[i] := by
  obtain ⟨_, l, o, rfl, cs, hrd, hrep⟩ := rep_at h hi
  obtain ⟨u, rfl, w0, w1, hr⟩ := rep_g_Block hrep
  have hw : ty_Block.w = 3 := rfl
  rw [hw] at hrd
  exact ⟨l, o, u, rfl, rd1_of_rdn hrd (k := 0) rfl, rd1_of_rdn hrd (k := 1) rfl, rd1_of_rdn hrd (k := 2) rfl, hrd, w0, w1, hr, hrep⟩
theorem loop_rt {α : Type} {call : CallT} {K : List Bool} {L : ACode} (Inv : Nat → α → Mem → Prop) (F : Nat → α → List V) (p : Nat → Bool) (Rt : R → Prop) {n : Nat} (s : α) (X : Mem) (h : Inv 0 s X)
    (good : ∀ i s X, i < n → p i = true → Inv i s X → ∃ s' X', Inv (i + 1) s' X' ∧ lp call K L (F i s) X = lp call K L (F (i + 1) s') X')
    (bad : ∀ i s X, i < n → p i = false → Inv i s X → Rt (lp call K L (F i s) X)) :
    (∃ s' X', Inv n s' X' ∧ (∀ i, i < n → p i = true) ∧ lp call K L (F 0 s) X = lp call K L (F n s') X') ∨ ((∃ i, i < n ∧ p i = false) ∧ Rt (lp call K L (F 0 s) X)) := by
  have go : ∀ m, m ≤ n → (∀ i, i < m → p i = true) → ∃ s' X', Inv m s' X' ∧ lp call K L (F 0 s) X = lp call K L (F m s') X' := by
    intro m
    induction m with
    | zero => intro _ _; exact ⟨s, X, h, rfl⟩
    | succ m ih =>
      intro hm hp
      obtain ⟨s1, X1, h1, e1⟩ := ih (by omega) (fun i hi => hp i (by omega))
      obtain ⟨s2, X2, h2, e2⟩ := good m s1 X1 (by omega) (hp m (by omega)) h1
      exact ⟨s2, X2, h2, e1.trans e2⟩
  rcases first_bad p n with hg | ⟨j, hj, h1, h2⟩
  · obtain ⟨s', X', i1, i2⟩ := go n (Nat.le_refl _) hg
    exact .inl ⟨s', X', i1, hg, i2⟩
  · obtain ⟨s', X', i1, i2⟩ := go j (by omega) h1
    refine .inr ⟨⟨j, hj, h2⟩, ?_⟩
    rw [i2]
    exact bad j s' X' hj h2 i1
def RtB (M : Mem) (r : R) : Prop := ∃ fr X', r = some (.ret, fr, X') ∧ fr[2]? = some (.bool false) ∧ M <+: X'
/-- The list of leaves behind a pointer. -/
def DpI (Z : Mem) (q : Nat) (ys : List Int) (X : Mem) : Prop := Z <+: X ∧ ∃ v, X[q]? = some ⟨[v], 1, 2⟩ ∧ Grow Z.length 1 X v ys.length (ys.map fun z => .int .i64 z) ∧ q ∉ wfs v
def lfAt (l : Int) (ys : List UInt8) (j : Nat) : Bool := match ys[j]? with
  | some y => leafB l (y.toNat : Int)
  | none => true
theorem lfAt_get {l : Int} {ys : List UInt8} {j : Nat} (h : j < ys.length) : lfAt l ys j = leafB l (ys[j].toNat : Int) := by unfold lfAt; rw [List.getElem?_eq_getElem h]
theorem c_impl_isLog (M : Mem) (x : Int) : aCall T0 F_impl_isLog [.int .i64 x] M = some (.bool (decide (0 ≤ x) && decide (x ≤ 6)), M) := by
  rw [aCall_eq T_impl_isLog]; unfold A_impl_isLog C_impl_isLog; simp [c_impl_within]
theorem log_nat {l : Int} (h : lgB l = true) : ∃ m : Nat, l = m ∧ m ≤ 6 := by
  unfold lgB at h
  simp at h
  exact ⟨l.toNat, by omega, by omega⟩
theorem pow2_pos (n : Nat) : (0 : Int) < 2 ^ n := Int.pow_pos (by omega)
theorem pow2_le {n m : Nat} (h : n ≤ m) : (2 : Int) ^ n ≤ 2 ^ m := by
  have := Nat.pow_le_pow_right (show 0 < 2 by omega) h
  exact_mod_cast this
theorem pow6 {m : Nat} (h : m ≤ 6) : (1 : Int) ≤ 2 ^ m ∧ (2 : Int) ^ m ≤ 64 := ⟨by have := pow2_pos m; omega, by have := pow2_le h; omega⟩
theorem c_impl_isLeaf (M : Mem) (l x : Int) : aCall T0 F_impl_isLeaf [.int .i64 l, .int .i64 x] M = some (.bool (leafB l x), M) := by
  unfold leafB
  cases h : lgB l with
  | false =>
    have e : (decide (0 ≤ l) && decide (l ≤ 6)) = false := h
    rw [aCall_eq T_impl_isLeaf]; unfold A_impl_isLeaf C_impl_isLeaf; simp [c_impl_isLog, e]
  | true =>
    have e : (decide (0 ≤ l) && decide (l ≤ 6)) = true := h
    obtain ⟨m, rfl, hm⟩ := log_nat h
    have e2 := fun M => (c_impl_isLog M m).trans (by rw [e])
    have hp := pow6 hm
    have e1 : bshl .i64 1 m = 2 ^ m := by
      unfold bshl
      have h : min (m : Int).toNat IntKind.i64.bits = m := by show min _ 64 = m; omega
      rw [h, wrap_i64 (by omega) (by omega)]
      omega
    have e3 : IntKind.i64.wrap ((2 : Int) ^ m - 1) = 2 ^ m - 1 := wrap_i64 (by omega) (by omega)
    have e4 : decide (x ≤ 2 ^ m - 1) = decide (x < 2 ^ m) := by
      by_cases h : x < 2 ^ m
      · rw [decide_eq_true h, decide_eq_true (by omega)]
      · rw [decide_eq_false h, decide_eq_false (by omega)]
    rw [aCall_eq T_impl_isLeaf]; unfold A_impl_isLeaf C_impl_isLeaf; simp [e2, e1, e3, c_impl_within, e4]
def hs (h : Nat) (b : UInt8) : Nat := ((h ^^^ b.toNat) * 16777619) % 4294967296
theorem grow_app {K w : Nat} {X X2 : Mem} {v : V} {n : Nat} {cs : List V} (h : Grow K w X v n cs) {m bytes : Nat} {ys : List V} {x : Option (V × Mem)} (hx : appS X2 w bytes v m ys = x) (hp : X <+: X2) (hk : K ≤ X.length) (hm : ys.length = m * w) (h1 : ys.all one = true) (hs : (n + m) * bytes ≤ 140737488355328) (hs2 : n + m ≤ 9223372036854775807) :
    ∃ a X3, x = some (.slice a (n + m) (n + m), X3) ∧ Grow K w X3 (.slice a (n + m) (n + m)) (n + m) (cs ++ ys) ∧ Agree X2 X3 (wfs v) ∧ X2.length ≤ X3.length ∧ ∀ b ∈ wfs (.slice a (n + m) (n + m)), b ∈ wfs v ∨ b = X2.length := by
  by_cases h0 : m = 0
  · subst h0
    have hy : ys = [] := List.length_eq_zero_iff.1 (by omega)
    subst hy
    have e : appS X2 w bytes v 0 [] = some (v, X2) := by
      obtain ⟨_, ⟨rfl, rfl⟩ | ⟨l, _, rfl, _⟩⟩ := h <;> simp [appS]
    obtain ⟨a, rfl⟩ := h.shape
    exact ⟨a, X2, hx.symm.trans e, by simpa using h.pre hp, ⟨Nat.le_refl _, fun _ _ _ => rfl⟩, Nat.le_refl _, fun b hb => .inl hb⟩
  · have h2 := h.pre hp
    have e := h2.app hm (by omega) h1 hs hs2
    refine ⟨_, _, hx.symm.trans e, h2.next hm (by have := hp.length_le; omega) [], kill_agree _ _ _, by rw [List.length_append, kill_len]; simp, fun b hb => .inr (by simpa [wfs] using hb)⟩
theorem bytI_take (ys : List UInt8) {j : Nat} (h : j < ys.length) : bytI (ys.take (j + 1)) = bytI (ys.take j) ++ [(ys[j].toNat : Int)] := by
  unfold bytI
  rw [List.take_succ_eq_append_getElem h, List.map_append]
  rfl
set_option maxRecDepth 20000 in
set_option maxHeartbeats 2000000 in
theorem l_impl_isDeep_1 (Z : Mem) (p q : Nat) (l : Int) (v5 v75 v76 v77 : V) (a : Option Addr) (c : Nat) (ys : List UInt8) (h : Rep (.sl ty_Byte) Z [.slice a ys.length c] ys) (hp : rd1 Z p 0 = some (.int .i64 l)) (hq : Z.length ≤ q) (hn : ys.length ≤ 1048576) (xs : List Int) (hx : xs.length ≤ 1000000) (X : Mem) (hX : DpI Z q xs X) :
    (∃ (u : Unit) (X' : Mem), DpI Z q (xs ++ bytI ys) X' ∧ (∀ j, j < ys.length → lfAt l ys j = true) ∧ lp (aCall T0) K_impl_isDeep_1 L_impl_isDeep_1 [und, .pointer (some ⟨p, 0, none⟩), und, und, und, v5, und, .pointer (some ⟨q, 0, none⟩), und, und, und, und, und, und, und, und, und, und, und, und, und, und, und, und, und, und, und, und, und, und, und, und, und, und, und, und, und, und, und, und, und, und, und, und, und, und, und, und, und, und, und, und, und, und, und, und, und, und, und, und, und, und, und, und, und, und, und, und, und, und, und, und, und, und, und, v75, v76, v77, und, und, und, und, und, und, und, und, und, und, und, und, und, und, und, und, und, und, und, .slice a ys.length c, .int .i64 ys.length, .int .i64 (0 : Nat), und, und, und, und, und, und, und, und, und, und, und, und, und, und, und, und, und, und, und, und] X = lp (aCall T0) K_impl_isDeep_1 L_impl_isDeep_1 [und, .pointer (some ⟨p, 0, none⟩), und, und, und, v5, und, .pointer (some ⟨q, 0, none⟩), und, und, und, und, und, und, und, und, und, und, und, und, und, und, und, und, und, und, und, und, und, und, und, und, und, und, und, und, und, und, und, und, und, und, und, und, und, und, und, und, und, und, und, und, und, und, und, und, und, und, und, und, und, und, und, und, und, und, und, und, und, und, und, und, und, und, und, v75, v76, v77, und, und, und, und, und, und, und, und, und, und, und, und, und, und, und, und, und, und, und, .slice a ys.length c, .int .i64 ys.length, .int .i64 ys.length, und, und, und, und, und, und, und, und, und, und, und, und, und, und, und, und, und, und, und, und] X') ∨
    ((∃ j, j < ys.length ∧ lfAt l ys j = false) ∧ RtB Z (lp (aCall T0) K_impl_isDeep_1 L_impl_isDeep_1 [und, .pointer (some ⟨p, 0, none⟩), und, und, und, v5, und, .pointer (some ⟨q, 0, none⟩), und, und, und, und, und, und, und, und, und, und, und, und, und, und, und, und, und, und, und, und, und, und, und, und, und, und, und, und, und, und, und, und, und, und, und, und, und, und, und, und, und, und, und, und, und, und, und, und, und, und, und, und, und, und, und, und, und, und, und, und, und, und, und, und, und, und, und, v75, v76, v77, und, und, und, und, und, und, und, und, und, und, und, und, und, und, und, und, und, und, und, .slice a ys.length c, .int .i64 ys.length, .int .i64 (0 : Nat), und, und, und, und, und, und, und, und, und, und, und, und, und, und, und, und, und, und, und, und] X)) := by
  have key := loop_rt (call := aCall T0) (K := K_impl_isDeep_1) (L := L_impl_isDeep_1) (fun j (_ : Unit) X => DpI Z q (xs ++ bytI (ys.take j)) X) (fun j (_ : Unit) => [und, .pointer (some ⟨p, 0, none⟩), und, und, und, v5, und, .pointer (some ⟨q, 0, none⟩), und, und, und, und, und, und, und, und, und, und, und, und, und, und, und, und, und, und, und, und, und, und, und, und, und, und, und, und, und, und, und, und, und, und, und, und, und, und, und, und, und, und, und, und, und, und, und, und, und, und, und, und, und, und, und, und, und, und, und, und, und, und, und, und, und, und, und, v75, v76, v77, und, und, und, und, und, und, und, und, und, und, und, und, und, und, und, und, und, und, und, .slice a ys.length c, .int .i64 ys.length, .int .i64 j, und, und, und, und, und, und, und, und, und, und, und, und, und, und, und, und, und, und, und, und]) (lfAt l ys) (RtB Z) (n := ys.length) () X (by simpa [bytI] using hX) ?_ ?_
  · rw [List.take_length] at key
    exact key
  all_goals
    intro j _ X hj ho ⟨pX, v, hb, hg, hqv⟩
    rw [lfAt_get hj] at ho
    obtain ⟨l0, o0, rfl, _, hrd⟩ := at_Byte (h.mono pX) hj
    have hy : byteV ys[j] = .int .u8 ((ys[j].toNat : Nat) : Int) := rfl
    rw [hy] at hrd
    have e6 : IntKind.i64.wrap ((j : Int) + 1) = j + 1 := wrap_i64 (by omega) (by omega)
    have hlf := fun M => c_impl_isLeaf M l ((ys[j].toNat : Nat) : Int)
    rw [ho] at hlf
    have n1 : ys[j].toNat < 256 := UInt8.toNat_lt _
    try rw [bytI_take ys hj, ← List.append_assoc]
    have hbl : (xs ++ bytI (ys.take j)).length ≤ 3000000 := by
      rw [List.length_append]
      unfold bytI
      rw [List.length_map, List.length_take]
      omega
    generalize xs ++ bytI (ys.take j) = zs at *
    generalize ys[j].toNat = y at *
    have c1 : IntKind.i64.wrap (y : Int) = y := wrap_i64 (by omega) (by omega)
    have hp' := r1_pre pX hp
    have hrq : rd1 X q 0 = some v := by simp [rd1, hb]
  · rw [S_impl_isDeep_1]; unfold B_impl_isDeep_1; simp [thenD_pp, sliceCells_sl, sliceCells_z, sliceCells_nil, take_full, appS_sl, appK_ok, appS_none, thenD_ag, agP_nil, agP_cons, hj, hrd, hp', c1, hlf, hrq, zeroCells]
    generalize hy2 : appS _ _ _ _ _ _ = xhy2
    obtain ⟨a2, X3, rfl, g3, ag, hl3, hw3⟩ := grow_app hg hy2 (List.prefix_append _ _) pX.length_le (by simp) (by simp [GoAm.one]) (by omega) (by omega)
    clear hy2
    have hqX := get_lt hb
    have hb3 := ag.get (get_pre (List.prefix_append X [(⟨[.int .i64 (y : Int)], 1, 2⟩ : Blk)]) hb) hqv
    have pZ3 : Z <+: X3 := ag.pre (pX.trans (List.prefix_append _ _)) hg.ge
    have hqn : q ∉ wfs (.slice a2 (zs.length + 1) (zs.length + 1)) := fun hm => by
      rcases hw3 q hm with h | h
      · exact hqv h
      · simp at h; omega
    have hwr : wrn X3 q 0 [.slice a2 (zs.length + 1) (zs.length + 1)] = some (X3.set q ⟨[.slice a2 (zs.length + 1) (zs.length + 1)], 1, 2⟩) := by
      rw [wrn_eq hb3 rfl (by simp) rfl]
      rfl
    simp [thenD_pp, sliceCells_sl, sliceCells_z, sliceCells_nil, take_full, appS_sl, appK_ok, appS_none, thenD_ag, agP_nil, agP_cons, hwr, e6]
    refine ⟨_, ⟨pf_set hq pZ3, _, gs_of hb3 _, ?_, hqn⟩, rfl⟩
    rw [List.length_append, List.map_append]
    exact g3.keep fun b hb => List.getElem?_set_ne (fun e => hqn (by rw [e]; exact hb))
  · rw [S_impl_isDeep_1]; unfold B_impl_isDeep_1; simp [thenD_pp, sliceCells_sl, sliceCells_z, sliceCells_nil, take_full, appS_sl, appK_ok, appS_none, thenD_ag, agP_nil, agP_cons, hj, hrd, hp', c1, hlf]
    refine ⟨_, _, rfl, ?_, pX⟩
    rfl
theorem dkB_get {l : Int} {tb : List Int} {one : List ty_Block.D} {k : Nat} (h : k < one.length) : dkB l tb one k = ((decide (one[k].1 = (k : Int)) && decide (one[k].2.1 = tb.getD k 0)) && List.all (α := UInt8) one[k].2.2 fun y => leafB l (y.toNat : Int)) := by unfold dkB; rw [List.getElem?_eq_getElem h]
theorem posD_take (one : List ty_Block.D) {k : Nat} (h : k < one.length) : posD (one.take (k + 1)) = posD (one.take k) ++ bytI one[k].2.2 := by
  unfold posD
  rw [List.take_succ_eq_append_getElem h, List.map_append, List.flatten_append]
  simp
set_option maxRecDepth 20000 in
set_option maxHeartbeats 2000000 in
theorem l_impl_isDeep_0 (Z : Mem) (p q : Nat) (l : Int) (v5 : V) (a : Option Addr) (c : Nat) (one : List ty_Block.D) (h : Rep (.sl ty_Block) Z [.slice a one.length c] one) (tb : List Int) (aT : Option Addr) (cT : Nat) (hT : Rep (.sl ty_Int) Z [.slice aT tb.length cT] tb) (hl : one.length = tb.length) (hp : rd1 Z p 0 = some (.int .i64 l)) (hp1 : rd1 Z p 1 = some (.slice aT tb.length cT)) (hq : Z.length ≤ q) (hn : one.length ≤ 256) (hd : ∀ b ∈ one, List.length (α := UInt8) b.2.2 ≤ 1000) (X : Mem) (hX : DpI Z q [] X) :
    (∃ (u : Unit) (X' : Mem), DpI Z q (posD one) X' ∧ (∀ i, i < one.length → dkB l tb one i = true) ∧ lp (aCall T0) K_impl_isDeep_0 L_impl_isDeep_0 (FdI p q v5 a one.length c 0) X = lp (aCall T0) K_impl_isDeep_0 L_impl_isDeep_0 (FdI p q v5 a one.length c one.length) X') ∨
    ((∃ i, i < one.length ∧ dkB l tb one i = false) ∧ RtB Z (lp (aCall T0) K_impl_isDeep_0 L_impl_isDeep_0 (FdI p q v5 a one.length c 0) X)) := by
  have key := loop_rt (call := aCall T0) (K := K_impl_isDeep_0) (L := L_impl_isDeep_0) (fun i (_ : Unit) X => DpI Z q (posD (one.take i)) X) (fun i (_ : Unit) => FdI p q v5 a one.length c i) (dkB l tb one) (RtB Z) (n := one.length) () X (by simpa [posD] using hX) ?_ ?_
  · rw [List.take_length] at key
    exact key
  all_goals
    intro i _ X hi ho hX
    rw [dkB_get hi] at ho
    have pX := hX.1
    obtain ⟨l0, o0, u, rfl, _, _, _, hrn, _, _, hu, _⟩ := at_Block h hi
    obtain ⟨ub, uc, rfl⟩ := hu.slen
    have hrX := rn_pre pX hrn
    obtain ⟨lt, ot, rfl, _, hrt⟩ := at_Int hT (i := i) (by omega)
    have htg : tb[i]'(by omega) = tb.getD i 0 := by rw [List.getD_eq_getElem?_getD, List.getElem?_eq_getElem (by omega)]; rfl
    rw [htg] at hrt
    have hdi := hd _ (List.getElem_mem hi)
    have hpl := posD_len (one := one.take i) (N := 1000) (fun b hb => hd b (List.mem_of_mem_take hb))
    rw [List.length_take] at hpl
    have e6 : IntKind.i64.wrap ((i : Int) + 1) = i + 1 := wrap_i64 (by omega) (by omega)
    have iT : i < tb.length := by omega
    have iT2 : (i : Int) < (tb.length : Int) := by omega
    try rw [posD_take one hi]
    have hxs : (posD (one.take i)).length ≤ 1000000 := by omega
    generalize posD (one.take i) = xs at *
    generalize tb.getD i 0 = tg at *
    generalize hbi : one[i] = b at *
    obtain ⟨b1, b2, b3⟩ := b
    simp only at hrX hrn hu ho hdi ⊢
    have hp' := fun N : Mem => r1_pre (pX.trans (List.prefix_append X N)) hp
    have hp1' := fun N : Mem => r1_pre (pX.trans (List.prefix_append X N)) hp1
    have hrt' := fun N : Mem => r1_pre (pX.trans (List.prefix_append X N)) hrt
    have hXb : DpI Z q xs (X ++ [(⟨[.int .i64 b1, .int .i64 b2, .slice ub (List.length (α := UInt8) b3) uc], 1, 2⟩ : Blk)]) := by
      obtain ⟨_, v, w1, w2, w3⟩ := hX
      exact ⟨pX.trans (List.prefix_append _ _), v, get_pre (List.prefix_append _ _) w1, w2.pre (List.prefix_append _ _), w3⟩
    have inner := l_impl_isDeep_1 Z p q l v5 (.slice (some ⟨l0, o0, none⟩) one.length c) (.int .i64 one.length) (.int .i64 i) ub uc b3 hu hp hq (by omega) xs hxs _ hXb
    simp only [Int.natCast_zero, Int.ofNat_zero] at inner
  · simp only [Bool.and_eq_true, decide_eq_true_eq] at ho
    obtain ⟨⟨h1, h2⟩, h3⟩ := ho
    subst h1
    subst h2
    rcases inner with ⟨_, X', hX', _, e⟩ | ⟨⟨j, hj, hf⟩, _⟩
    · refine ⟨(), X', hX', ?_⟩
      rw [S_impl_isDeep_0]; unfold B_impl_isDeep_0; simp [thenD_pp, sliceCells_sl, sliceCells_z, sliceCells_nil, take_full, appS_sl, appK_ok, appS_none, thenD_ag, agP_nil, agP_cons, hi, hrX, hp', hp1', hrt', iT, iT2, rd1_K, rdJ_ok, zeroCells]
      simp [thenD_pp, sliceCells_sl, sliceCells_z, sliceCells_nil, take_full, appS_sl, appK_ok, appS_none, thenD_ag, agP_nil, agP_cons, e]
      rw [S_impl_isDeep_1]; unfold B_impl_isDeep_1; simp [thenD_pp, sliceCells_sl, sliceCells_z, sliceCells_nil, take_full, appS_sl, appK_ok, appS_none, thenD_ag, agP_nil, agP_cons, e6]
      try rfl
    · exfalso
      have := List.all_eq_true.1 h3 _ (List.getElem_mem hj)
      rw [lfAt_get hj] at hf
      rw [hf] at this
      cases this
  · by_cases h1 : b1 = (i : Int)
    · subst h1
      by_cases h2 : b2 = tg
      · subst h2
        rcases inner with ⟨_, X', hX', hall, e⟩ | ⟨_, fr, X', e, q2, q3⟩
        · exfalso
          have : (List.all (α := UInt8) b3 fun y => leafB l (y.toNat : Int)) = true := List.all_eq_true.2 fun y hy => by
            obtain ⟨j, hj, rfl⟩ := List.getElem_of_mem hy
            have := hall j hj
            rw [lfAt_get hj] at this
            exact this
          simp [this] at ho
        · rw [S_impl_isDeep_0]; unfold B_impl_isDeep_0; simp [thenD_pp, sliceCells_sl, sliceCells_z, sliceCells_nil, take_full, appS_sl, appK_ok, appS_none, thenD_ag, agP_nil, agP_cons, hi, hrX, hp', hp1', hrt', iT, iT2, rd1_K, rdJ_ok, zeroCells]
          simp [thenD_pp, sliceCells_sl, sliceCells_z, sliceCells_nil, take_full, appS_sl, appK_ok, appS_none, thenD_ag, agP_nil, agP_cons, e]
          exact ⟨fr, X', rfl, q2, q3⟩
      · rw [S_impl_isDeep_0]; unfold B_impl_isDeep_0; simp [thenD_pp, sliceCells_sl, sliceCells_z, sliceCells_nil, take_full, appS_sl, appK_ok, appS_none, thenD_ag, agP_nil, agP_cons, hi, hrX, hp', hp1', hrt', iT, iT2, rd1_K, rdJ_ok, zeroCells, h2]
        refine ⟨_, _, rfl, ?_, pX.trans (List.prefix_append _ _)⟩
        rfl
    · rw [S_impl_isDeep_0]; unfold B_impl_isDeep_0; simp [thenD_pp, sliceCells_sl, sliceCells_z, sliceCells_nil, take_full, appS_sl, appK_ok, appS_none, thenD_ag, agP_nil, agP_cons, hi, hrX, hp', hp1', hrt', iT, iT2, rd1_K, rdJ_ok, zeroCells, h1]
      refine ⟨_, _, rfl, ?_, pX.trans (List.prefix_append _ _)⟩
      rfl
theorem grow_at {K : Nat} {X : Mem} {v : V} {pos : List Int} (h : Grow K 1 X v pos.length (pos.map fun z => .int .i64 z)) {i : Nat} (hi : i < pos.length) : ∃ l, v = .slice (some ⟨l, 0, none⟩) pos.length pos.length ∧ rd1 X l i = some (.int .i64 (pos.getD i 0)) := by
  rcases h.2 with ⟨_, h0⟩ | ⟨l, _, rfl, hb⟩
  · omega
  · refine ⟨l, rfl, ?_⟩
    unfold rd1
    rw [hb, List.getD_eq_getElem?_getD]
    simp [hi]
theorem c_impl_isDeep_1 (X : Mem) (q : Nat) (v : V) (pos : List Int) (K : Nat) (hb : X[q]? = some ⟨[v], 1, 2⟩) (hg : Grow K 1 X v pos.length (pos.map fun z => .int .i64 z)) (hn : pos.length ≤ 1000000) (cs : List V) (b : ty_Block.D) (h : Rep ty_Block X cs b) (h0 : 0 ≤ b.1) :
    aCall T0 F_impl_isDeep_1 [.agg cs.toArray, .pointer (some ⟨q, 0, none⟩)] X = some (.bool (!kpB pos b), X) := by
  obtain ⟨u, rfl, w0, w1, qu⟩ := rep_g_Block h
  obtain ⟨ua, uc, rfl⟩ := qu.slen
  have hrq := fun N : Mem => r1_pre (List.prefix_append X N) (show rd1 X q 0 = some v by simp [rd1, hb])
  obtain ⟨b1, b2, b3⟩ := b
  simp only at h0 hrq ⊢
  unfold kpB
  obtain ⟨t, rfl⟩ : ∃ t : Nat, b1 = (t : Int) := ⟨Int.toNat b1, (show ∀ z : Int, 0 ≤ z → z = ((Int.toNat z : Nat) : Int) from fun z hz => by omega) b1 h0⟩
  have ht : Int.toNat (t : Int) = t := by omega
  simp only [ht]
  by_cases h1 : t < pos.length
  · have h1' : (t : Int) < (pos.length : Int) := by omega
    have h1'' : ¬ (pos.length : Int) ≤ (t : Int) := by omega
    obtain ⟨l, rfl, hr⟩ := grow_at hg h1
    have hr' := fun N : Mem => r1_pre (List.prefix_append X N) hr
    generalize pos.getD t 0 = z at *
    by_cases h2 : z = b2
    · subst h2
      rw [decide_eq_true h1', decide_eq_true rfl]
      rw [aCall_eq T_impl_isDeep_1]; unfold A_impl_isDeep_1 C_impl_isDeep_1; simp [hrq, hr', h1, h1', h1'']
    · rw [decide_eq_true h1', decide_eq_false h2]
      rw [aCall_eq T_impl_isDeep_1]; unfold A_impl_isDeep_1 C_impl_isDeep_1; simp [hrq, hr', h1, h1', h1'', h2]
  · have h1' : ¬ (t : Int) < (pos.length : Int) := by omega
    have h1'' : (pos.length : Int) ≤ (t : Int) := by omega
    obtain ⟨a, rfl⟩ := hg.shape
    rw [decide_eq_false h1']
    rw [aCall_eq T_impl_isDeep_1]; unfold A_impl_isDeep_1 C_impl_isDeep_1; simp [hrq, h1, h1', h1'']
def IdsR (xs : List ty_Block.D) : Prop := ∀ x ∈ xs, 0 ≤ x.1 ∧ x.1 ≤ 255
/-- Ids that grow. -/
def IdLt (xs : List ty_Block.D) : Prop := xs.Pairwise fun a b => a.1 < b.1
theorem int_lt_len {xs : List Int} (h : xs.Pairwise (· < ·)) (hr : ∀ y ∈ xs, 0 ≤ y ∧ y ≤ 255) : xs.length ≤ 256 := by
  have key : ∀ i (hi : i < xs.length), (i : Int) ≤ xs[i] := by
    intro i
    induction i with
    | zero => intro hi; exact (hr _ (List.getElem_mem hi)).1
    | succ i ih =>
      intro hi
      have h1 := ih (by omega)
      have h2 := List.pairwise_iff_getElem.1 h i (i + 1) (by omega) hi (by omega)
      omega
  by_cases h0 : xs.length = 0
  · omega
  · have h1 := key (xs.length - 1) (by omega)
    have h2 := (hr _ (List.getElem_mem (show xs.length - 1 < xs.length by omega))).2
    omega
theorem lt_len {xs : List ty_Block.D} (h : IdLt xs) (hr : IdsR xs) : xs.length ≤ 256 := by
  have := int_lt_len (xs := xs.map fun b => (b.1 : Int)) ((List.pairwise_map (f := fun b : ty_Block.D => (b.1 : Int)) (R := (· < ·))).2 h) (fun y hy => by
    obtain ⟨b, hb, rfl⟩ := List.mem_map.1 hy
    exact hr b hb)
  simpa using this
theorem stepB_pos {l w : Int} {xs : List ty_Block.D} {i : Nat} (h : i < xs.length) (h0 : 0 < i) : stepB l w xs i = (blockB l w xs[i] && decide ((xs[i - 1]'(by omega)).1 < xs[i].1)) := by
  unfold stepB
  rw [List.getElem?_eq_getElem h, List.getElem?_eq_getElem (by omega)]
  have : (i == 0) = false := by simp; omega
  simp [this]
theorem blocks_lt {l w : Int} {xs : List ty_Block.D} (h : blocksB l w xs = true) : IdLt xs := by
  unfold blocksB at h
  rw [Bool.and_eq_true] at h
  have h1 : ∀ i (hi : i + 1 < xs.length), (xs[i]'(by omega)).1 < xs[i + 1].1 := fun i hi => by
    have := List.all_eq_true.1 h.2 (i + 1) (List.mem_range.2 hi)
    rw [stepB_pos hi (by omega), Bool.and_eq_true] at this
    exact of_decide_eq_true this.2
  have h2 : ∀ d i (hi : i + d + 1 < xs.length), (xs[i]'(by omega)).1 < xs[i + d + 1].1 := by
    intro d
    induction d with
    | zero => intro i hi; exact h1 i hi
    | succ d ih => intro i hi; exact Int.lt_trans (ih i (by omega)) (h1 (i + d + 1) hi)
  unfold IdLt
  rw [List.pairwise_iff_getElem]
  intro i j hi hj hij
  obtain ⟨d, rfl⟩ : ∃ d, j = i + d + 1 := ⟨j - i - 1, by omega⟩
  exact h2 d i hj
theorem blocks_of {l w : Int} {xs : List ty_Block.D} (h : blocksB l w xs = true) : ∀ b ∈ xs, blockB l w b = true := by
  intro b hb
  obtain ⟨i, hi, rfl⟩ := List.getElem_of_mem hb
  unfold blocksB at h
  rw [Bool.and_eq_true] at h
  have := List.all_eq_true.1 h.2 i (List.mem_range.2 hi)
  unfold stepB at this
  rw [List.getElem?_eq_getElem hi] at this
  rw [Bool.and_eq_true] at this
  exact this.1
theorem bid_of {l w : Int} {b : ty_Block.D} (h : blockB l w b = true) : 0 ≤ b.1 ∧ b.1 ≤ 255 := by
  unfold blockB bidB at h
  simp only [Bool.and_eq_true] at h
  exact ⟨of_decide_eq_true h.2.1.1, of_decide_eq_true h.2.1.2⟩
theorem ids_of {l w : Int} {xs : List ty_Block.D} (h : blocksB l w xs = true) : IdsR xs := fun x hx => bid_of (blocks_of h x hx)
abbrev ty_Node : Ty := .sl ty_Block
def ndsF (w : Int) (cells : List ty_Cell.D) : List ty_Node.D := cells.map fun c => ndB (Int.toNat w) c
def flI (k : Nat) (xs : List ty_Block.D) : List ty_Block.D := xs.filter fun b => decide (Int.toNat b.1 = k)
theorem flI_app (k : Nat) (xs ys : List ty_Block.D) : flI k (xs ++ ys) = flI k xs ++ flI k ys := List.filter_append ..
theorem lbB_le (id : Int) : ∀ (xs : List ty_Block.D), lbB id xs ≤ xs.length
  | [] => by simp [lbB]
  | b :: xs => by
    have ih := lbB_le id xs
    unfold lbB at ih ⊢
    by_cases h : b.1 < id
    · simp only [List.takeWhile_cons, decide_eq_true h, if_true, List.length_cons]; omega
    · simp only [List.takeWhile_cons, decide_eq_false h, Bool.false_eq_true, if_false, List.length_nil]; omega
theorem sorted_above {xs : List ty_Block.D} {r : Nat} (hs : IdLt xs) (hr : r < xs.length) : ∀ k (hk : k < xs.length), r < k → xs[r].1 < xs[k].1 := fun k hk hkr => List.pairwise_iff_getElem.1 hs r k hr hk hkr
theorem lbB_low (id : Int) : ∀ (xs : List ty_Block.D) (k : Nat) (hk : k < xs.length), k < lbB id xs → xs[k].1 < id
  | [], k, hk, _ => by simp at hk
  | b :: xs, k, hk, h => by
    unfold lbB at h
    by_cases hb : b.1 < id
    · simp only [List.takeWhile_cons, decide_eq_true hb, if_true, List.length_cons] at h
      cases k with
      | zero => exact hb
      | succ k => exact lbB_low id xs k (by simpa using hk) (by unfold lbB; omega)
    · simp only [List.takeWhile_cons, decide_eq_false hb, Bool.false_eq_true, if_false, List.length_nil] at h
      omega
theorem lbB_up (id : Int) : ∀ (xs : List ty_Block.D) (h : lbB id xs < xs.length), ¬ (xs[lbB id xs]).1 < id
  | [], h => by simp at h
  | b :: xs, h => by
    by_cases hb : b.1 < id
    · have e : lbB id (b :: xs) = lbB id xs + 1 := by
        unfold lbB
        simp only [List.takeWhile_cons, decide_eq_true hb, if_true, List.length_cons]
      have h2 : lbB id xs < xs.length := by rw [e] at h; simpa using h
      have ih := lbB_up id xs h2
      have : (b :: xs)[lbB id (b :: xs)] = xs[lbB id xs] := by
        simp only [e]
        rfl
      rw [this]
      exact ih
    · have e : lbB id (b :: xs) = 0 := by
        unfold lbB
        simp only [List.takeWhile_cons, decide_eq_false hb, Bool.false_eq_true, if_false, List.length_nil]
      have : (b :: xs)[lbB id (b :: xs)] = b := by
        simp only [e]
        rfl
      rw [this]
      exact hb
theorem ids_ne {id : Int} {xs : List ty_Block.D} (h : hasId id xs = false) : ∀ c ∈ xs, c.1 ≠ id := fun c hc e => by
  have : hasId id xs = true := List.any_eq_true.2 ⟨c, hc, decide_eq_true e⟩
  rw [h] at this
  cases this
theorem without_same {id : Int} {xs : List ty_Block.D} (h : ∀ b ∈ xs, b.1 ≠ id) : withoutL id xs = xs := by
  unfold withoutL
  rw [List.filter_eq_self]
  intro b hb
  exact decide_eq_true (h b hb)
theorem insL_len (b : ty_Block.D) (ys : List ty_Block.D) : (insL b ys).length = ys.length + 1 := by
  unfold insL
  have := lbB_le b.1 ys
  simp only [List.length_append, List.length_take, List.length_cons, List.length_drop]
  omega
theorem putL_len (b : ty_Block.D) (xs : List ty_Block.D) : (putL b xs).length = (withoutL b.1 xs).length + 1 := insL_len _ _
theorem putL_new {b : ty_Block.D} {xs : List ty_Block.D} (h : hasId b.1 xs = false) : putL b xs = insL b xs ∧ (putL b xs).length = xs.length + 1 := by
  have e := without_same (ids_ne h)
  refine ⟨by unfold putL; rw [e], by rw [putL_len, e]⟩
theorem putL_lt {b : ty_Block.D} {xs : List ty_Block.D} (hs : IdLt xs) (h : hasId b.1 xs = false) : IdLt (putL b xs) := by
  rw [(putL_new h).1]
  unfold insL
  have hle := lbB_le b.1 xs
  have h1 := lbB_low b.1 xs
  have h2 := lbB_up b.1 xs
  generalize lbB b.1 xs = r at *
  have ha : ∀ c ∈ xs.take r, c.1 < b.1 := fun c hc => by
    obtain ⟨k, hk, rfl⟩ := List.getElem_of_mem hc
    rw [List.length_take] at hk
    rw [List.getElem_take]
    exact h1 k (by omega) (by omega)
  have hb : ∀ c ∈ xs.drop r, b.1 < c.1 := fun c hc => by
    obtain ⟨k, hk, rfl⟩ := List.getElem_of_mem hc
    rw [List.length_drop] at hk
    rw [List.getElem_drop]
    have hr : r < xs.length := by omega
    have h3 := h2 hr
    have h4 := ids_ne h _ (List.getElem_mem hr)
    have h5 : b.1 < xs[r].1 := Int.lt_iff_le_and_ne.2 ⟨Int.not_lt.1 h3, fun e => h4 e.symm⟩
    by_cases hk0 : k = 0
    · subst hk0; exact h5
    · exact Int.lt_trans h5 (sorted_above hs hr _ (by omega) (by omega))
  unfold IdLt
  refine List.pairwise_append.2 ⟨hs.sublist (List.take_sublist _ _), List.pairwise_cons.2 ⟨hb, hs.sublist (List.drop_sublist _ _)⟩, fun a h7 c hc => ?_⟩
  rcases List.mem_cons.1 hc with rfl | hc
  · exact ha a h7
  · exact Int.lt_trans (ha a h7) (hb c hc)
theorem insL_mem {b c : ty_Block.D} {ys : List ty_Block.D} (h : c ∈ insL b ys) : c = b ∨ c ∈ ys := by
  unfold insL at h
  rcases List.mem_append.1 h with h | h
  · exact .inr (List.mem_of_mem_take h)
  · rcases List.mem_cons.1 h with h | h
    · exact .inl h
    · exact .inr (List.mem_of_mem_drop h)
theorem putL_ids {b : ty_Block.D} {xs : List ty_Block.D} (hs : IdsR xs) (hb : 0 ≤ b.1 ∧ b.1 ≤ 255) : IdsR (putL b xs) := fun x hx => by
  unfold putL at hx
  rcases insL_mem hx with rfl | h
  · exact hb
  · exact hs x (List.mem_filter.1 h).1
theorem flI_one (k : Nat) (b : ty_Block.D) : flI k [b] = if Int.toNat b.1 = k then [b] else [] := by
  unfold flI
  by_cases h : Int.toNat b.1 = k
  · rw [if_pos h, List.filter_cons, if_pos (decide_eq_true h)]; rfl
  · rw [if_neg h, List.filter_cons, if_neg (by rw [decide_eq_false h]; simp)]; rfl
theorem toNat_inj {a b : Int} (ha : 0 ≤ a) (hb : 0 ≤ b) (h : Int.toNat a = Int.toNat b) : a = b := by omega
theorem flI_none {id : Int} (h0 : 0 ≤ id) {xs : List ty_Block.D} (hr : IdsR xs) (h : hasId id xs = false) : flI (Int.toNat id) xs = [] := by
  unfold flI
  rw [List.filter_eq_nil_iff]
  intro c hc hd
  exact ids_ne h c hc (toNat_inj (hr c hc).1 h0 (of_decide_eq_true hd))
theorem flI_put {b : ty_Block.D} {xs : List ty_Block.D} (hb : 0 ≤ b.1 ∧ b.1 ≤ 255) (hr : IdsR xs) (h : hasId b.1 xs = false) (k : Nat) : flI k (putL b xs) = flI k (xs ++ [b]) := by
  rw [(putL_new h).1]
  unfold insL
  generalize lbB b.1 xs = r
  have e : xs.take r ++ b :: xs.drop r = xs.take r ++ ([b] ++ xs.drop r) := by simp
  rw [e, flI_app, flI_app, flI_app, flI_one]
  have hx : flI k (xs.take r) ++ flI k (xs.drop r) = flI k xs := by rw [← flI_app, List.take_append_drop]
  by_cases hk : Int.toNat b.1 = k
  · rw [if_pos hk]
    have h0 := flI_none hb.1 hr h
    rw [hk] at h0
    rw [h0] at hx ⊢
    have := List.append_eq_nil_iff.1 hx
    rw [this.1, this.2]
    rfl
  · rw [if_neg hk, List.nil_append, hx, List.append_nil]
theorem in_good {m nd : Nat} : ∀ (bs all a : List ty_Block.D), inO m nd all bs = some a → IdLt all → IdsR all → IdsR bs → (∀ b ∈ bs, onP m nd (Int.toNat b.2.1) = true) ∧ IdLt a ∧ IdsR a ∧ ∀ k, flI k a = flI k (all ++ bs)
  | [], all, a, h, h1, h2, h3 => by
    cases h
    exact ⟨by simp, h1, h2, by simp⟩
  | b :: bs, all, a, h, h1, h2, h3 => by
    unfold inO at h
    by_cases hc : (onP m nd (Int.toNat b.2.1) && !(hasId b.1 all)) = true
    · rw [if_pos hc] at h
      rw [Bool.and_eq_true] at hc
      have hn : hasId b.1 all = false := by simpa using hc.2
      have hb := h3 b (by simp)
      obtain ⟨q1, q2, q3, q4⟩ := in_good bs (putL b all) a h (putL_lt h1 hn) (putL_ids h2 hb) (fun x hx => h3 x (by simp [hx]))
      refine ⟨fun x hx => ?_, q2, q3, fun k => ?_⟩
      · rcases List.mem_cons.1 hx with rfl | hx
        · exact hc.1
        · exact q1 x hx
      · rw [q4 k, flI_app, flI_put hb h2 hn, ← flI_app, List.append_assoc]
        rfl
    · rw [if_neg hc] at h
      cases h
theorem ndOk_ids {l w : Int} {c : ty_Cell.D} (h : ndOk l w c = true) : IdsR (ndB (Int.toNat w) c) := by
  unfold ndOk at h
  simp only [Bool.and_eq_true] at h
  exact ids_of h.2.2.1
theorem out_good {m : Nat} {w : Int} : ∀ (cells : List ty_Cell.D) (nd : Nat) (all a : List ty_Block.D), outO m w nd cells all = some a → IdLt all → IdsR all →
    (cells.all (ndOk m w) = true ∧ ∀ i (hi : i < cells.length), ∀ b ∈ ndB (Int.toNat w) cells[i], onP m (nd + i) (Int.toNat b.2.1) = true) ∧ IdLt a ∧ IdsR a ∧ ∀ k, flI k a = flI k (all ++ (ndsF w cells).flatten)
  | [], nd, all, a, h, h1, h2 => by
    cases h
    exact ⟨⟨rfl, by simp⟩, h1, h2, by simp [ndsF]⟩
  | c :: cs, nd, all, a, h, h1, h2 => by
    unfold outO at h
    by_cases hok : ndOk m w c = true
    · rw [if_pos hok] at h
      have hid := ndOk_ids hok
      cases hi : inO m nd all (ndB (Int.toNat w) c) with
      | none => rw [hi] at h; cases h
      | some a1 =>
        rw [hi] at h
        obtain ⟨q1, q2, q3, q4⟩ := in_good _ all a1 hi h1 h2 hid
        obtain ⟨⟨r1, r2⟩, r3, r4, r5⟩ := out_good cs (nd + 1) a1 a h q2 q3
        refine ⟨⟨by rw [List.all_cons, hok, r1]; rfl, fun i hi b hb => ?_⟩, r3, r4, fun k => ?_⟩
        · cases i with
          | zero => exact q1 b hb
          | succ i =>
            have := r2 i (by simpa using hi) b (by simpa using hb)
            rw [show nd + (i + 1) = nd + 1 + i by omega]
            exact this
        · rw [r5 k, flI_app, q4 k, ← flI_app, List.append_assoc]
          rfl
    · rw [if_neg hok] at h
      cases h
theorem orO_good {x : ty_Oram.D} {r : List ty_Block.D} (h : orO x = some r) : ∃ k : Nat, x.1 = (k : Int) ∧ k ≤ 6 ∧ frO k x.2.1 x.2.2.1 x.2.2.2.1 x.2.2.2.2 = true ∧ outO k x.2.1 1 x.2.2.2.1.2.1 x.2.2.2.2 = some r ∧ IdLt r ∧ IdsR r ∧ x.2.2.2.1.2.1.all (ndOk k x.2.1) = true ∧ ∀ j, flI j r = flI j (x.2.2.2.2 ++ (ndsF x.2.1 x.2.2.2.1.2.1).flatten) := by
  unfold orO orX at h
  by_cases hfr : frO x.1 x.2.1 x.2.2.1 x.2.2.2.1 x.2.2.2.2 = true
  · rw [if_pos hfr] at h
    have hfr2 := hfr
    unfold frO at hfr2
    simp only [Bool.and_eq_true] at hfr2
    obtain ⟨k, hk, hk6⟩ := log_nat hfr2.1
    rw [hk] at h hfr
    have hk0 : Int.toNat (k : Int) = k := by omega
    rw [hk0] at h
    have h8 := hfr2.2.2.2.2.2.2.2
    have st8 : x.2.2.2.2.length ≤ 128 ∧ blocksB x.1 x.2.1 x.2.2.2.2 = true := by unfold stashB at h8; simpa using h8
    obtain ⟨⟨q1, q2⟩, q3, q4, q5⟩ := out_good _ 1 _ r h (blocks_lt st8.2) (ids_of st8.2)
    exact ⟨k, hk, hk6, hfr, h, q3, q4, q1, q5⟩
  · rw [if_neg hfr] at h
    cases h
theorem oram_len {x : ty_Oram.D} {r : List ty_Block.D} (h : orO x = some r) : r.length ≤ 256 ∧ IdsR r := by
  obtain ⟨k, hk, hk6, hfr, hout, q3, q4, q1, q5⟩ := orO_good h
  exact ⟨lt_len q3 q4, q4⟩
theorem filt_bd {P : ty_Block.D → Prop} {xs ys : List ty_Block.D} (h : ∀ k, flI k xs = flI k ys) (hp : ∀ y ∈ ys, P y) : ∀ x ∈ xs, P x := fun x hx => by
  have : x ∈ flI (Int.toNat x.1) xs := List.mem_filter.2 ⟨hx, decide_eq_true rfl⟩
  rw [h] at this
  exact hp x (List.mem_filter.1 this).1
theorem oram_blk {x : ty_Oram.D} {r : List ty_Block.D} (h : orO x = some r) : ∀ b ∈ r, blockB x.1 x.2.1 b = true := by
  obtain ⟨k, hk, hk6, hfr, hout, q3, q4, q1, q5⟩ := orO_good h
  unfold frO at hfr
  simp only [Bool.and_eq_true] at hfr
  have h8 := hfr.2.2.2.2.2.2.2
  have st8 : x.2.2.2.2.length ≤ 128 ∧ blocksB k x.2.1 x.2.2.2.2 = true := by unfold stashB at h8; simpa using h8
  rw [hk]
  refine filt_bd q5 fun y hy => ?_
  rcases List.mem_append.1 hy with hy | hy
  · exact blocks_of st8.2 y hy
  · obtain ⟨bs, hbs, hx⟩ := List.mem_flatten.1 hy
    obtain ⟨c, hc, rfl⟩ := List.mem_map.1 hbs
    have := List.all_eq_true.1 q1 c hc
    unfold ndOk at this
    simp only [Bool.and_eq_true] at this
    exact blocks_of this.2.2.1 y hx
theorem oram_dat {x : ty_Oram.D} {r : List ty_Block.D} (h : orO x = some r) : ∀ b ∈ r, (List.length (α := UInt8) b.2.2 : Int) = x.2.1 ∧ List.length (α := UInt8) b.2.2 ≤ 200 := fun b hb => by
  have := oram_blk h b hb
  unfold blockB wdB at this
  simp only [Bool.and_eq_true, decide_eq_true_eq] at this
  have aux : ∀ (n : Nat) (w : Int), w ≤ 200 → (n : Int) = w → (n : Int) = w ∧ n ≤ 200 := fun n w h1 h2 => ⟨h2, by omega⟩
  exact aux _ _ this.1.2.2 this.2.2.2
def OrV (M : Mem) (o : Option (List ty_Block.D)) (p : V × Mem) : Prop := ∃ r L, p.1 = .tuple #[r, .bool o.isSome] ∧ M <+: p.2 ∧ Gr (.sl ty_Block) p.2 [r] (o.getD []) L ∧ L.Nodup ∧ ∀ j ∈ L, M.length ≤ j
theorem rall_all {n : Nat} {p : Nat → Bool} (h : ∀ i, i < n → p i = true) : (List.range n).all p = true := List.all_eq_true.2 fun i hi => h i (List.mem_range.1 hi)
theorem rall_not {n : Nat} {p : Nat → Bool} (h : ∃ i, i < n ∧ p i = false) : (List.range n).all p = false := by
  obtain ⟨i, hi, hp⟩ := h
  rw [List.all_eq_false]
  exact ⟨i, List.mem_range.2 hi, by rw [hp]; decide⟩
theorem c_impl_isBlock (M : Mem) (cs : List V) (b : ty_Block.D) (h : Rep ty_Block M cs b) (l w : Int) : aCall T0 F_impl_isBlock [.agg cs.toArray, .int .i64 l, .int .i64 w] M = some (.bool (blockB l w b), M) := by
  obtain ⟨u, rfl, w0, w1, hr⟩ := rep_g_Block h
  obtain ⟨a, c, rfl⟩ := hr.slen
  have e2 := fun M => c_impl_isLeaf M l b.2.1
  have e3 := fun M => c_impl_within M w 1 200
  have e4 := fun M => c_impl_within M b.1 0 255
  have hb : blockB l w b = (leafB l b.2.1 && wdB w && bidB b.1 && decide ((List.length (α := UInt8) b.2.2 : Int) = w)) := by
    unfold blockB leafB
    cases lgB l <;> cases wdB w <;> cases bidB b.1 <;> simp
  rw [hb]
  clear hb
  cases h4 : leafB l b.2.1 with
  | false => rw [aCall_eq T_impl_isBlock]; unfold A_impl_isBlock C_impl_isBlock; simp [e2, h4]
  | true =>
    cases h5 : wdB w with
    | false =>
      have h5 : (decide (1 ≤ w) && decide (w ≤ 200)) = false := h5
      rw [aCall_eq T_impl_isBlock]; unfold A_impl_isBlock C_impl_isBlock; simp [e2, h4, e3, h5]
    | true =>
      have h5 : (decide (1 ≤ w) && decide (w ≤ 200)) = true := h5
      cases h6 : bidB b.1 with
      | false =>
        have h6 : (decide (0 ≤ b.1) && decide (b.1 ≤ 255)) = false := h6
        rw [aCall_eq T_impl_isBlock]; unfold A_impl_isBlock C_impl_isBlock; simp [e2, h4, e3, h5, e4, h6]
      | true =>
        have h6 : (decide (0 ≤ b.1) && decide (b.1 ≤ 255)) = true := h6
        rw [aCall_eq T_impl_isBlock]; unfold A_impl_isBlock C_impl_isBlock; simp [e2, h4, e3, h5, e4, h6]
theorem stepB_zero {l w : Int} {xs : List ty_Block.D} (h : 0 < xs.length) : stepB l w xs 0 = blockB l w xs[0] := by
  unfold stepB
  rw [List.getElem?_eq_getElem h]
  simp
theorem gc_boolp {M M' : Mem} (hp : M <+: M') (b : Bool) : gc M (some (.bool b, M')) = some (.bool b, M) := by
  obtain ⟨N, rfl⟩ := hp
  exact gc_bool M N b
theorem l_impl_areBlocks_0 (M : Mem) (a : Option Addr) (c : Nat) (xs : List ty_Block.D) (l w : Int) (h : Rep (.sl ty_Block) M [.slice a xs.length c] xs) (hn : xs.length ≤ 1048576) :
    (∃ X', M <+: X' ∧ (∀ i, i < xs.length → stepB l w xs i = true) ∧ lp (aCall T0) K_impl_areBlocks_0 L_impl_areBlocks_0 [.slice a xs.length c, .int .i64 l, .int .i64 w, und, und, und, und, und, und, .slice a xs.length c, .int .i64 xs.length, .int .i64 (0 : Nat), und, und, und, und, und, und, und, und, und, und, und, und, und, und, und, und, und, und, und, und, und, und, und, und, und, und, und, und, und, und, und] M = lp (aCall T0) K_impl_areBlocks_0 L_impl_areBlocks_0 [.slice a xs.length c, .int .i64 l, .int .i64 w, und, und, und, und, und, und, .slice a xs.length c, .int .i64 xs.length, .int .i64 xs.length, und, und, und, und, und, und, und, und, und, und, und, und, und, und, und, und, und, und, und, und, und, und, und, und, und, und, und, und, und, und, und] X') ∨
    ((∃ i, i < xs.length ∧ stepB l w xs i = false) ∧ ∀ k, thenF M [.tmp 6] (thenS (blockR 0 (lp (aCall T0) K_impl_areBlocks_0 L_impl_areBlocks_0 [.slice a xs.length c, .int .i64 l, .int .i64 w, und, und, und, und, und, und, .slice a xs.length c, .int .i64 xs.length, .int .i64 (0 : Nat), und, und, und, und, und, und, und, und, und, und, und, und, und, und, und, und, und, und, und, und, und, und, und, und, und, und, und, und, und, und, und] M)) (aCall T0) k) = some (.bool false, M)) := by
  have key := loop_ok (call := aCall T0) (K := K_impl_areBlocks_0) (L := L_impl_areBlocks_0) (fun _ Y => M <+: Y) (fun i => [.slice a xs.length c, .int .i64 l, .int .i64 w, und, und, und, und, und, und, .slice a xs.length c, .int .i64 xs.length, .int .i64 i, und, und, und, und, und, und, und, und, und, und, und, und, und, und, und, und, und, und, und, und, und, und, und, und, und, und, und, und, und, und, und]) (stepB l w xs) (n := xs.length) (M0 := M) (rs := [.tmp 6]) (k0 := 0) (a := .bool false) M (List.prefix_refl _) ?_ ?_
  · rcases key with ⟨X', hp, h1, h2⟩ | h
    · exact .inl ⟨X', hp, h1, h2⟩
    · exact .inr h
  · intro i Y hi hq hY
    have e6 : IntKind.i64.wrap ((i : Int) + 1) = i + 1 := wrap_i64 (by omega) (by omega)
    have e8 : IntKind.i64.wrap 1 = 1 := wrap_i64 (by omega) (by omega)
    obtain ⟨b, o, u, rfl, q1, q2, q3, q4, _, _, qu, qr⟩ := at_Block (h.mono hY) hi
    obtain ⟨ua, uc, rfl⟩ := qu.slen
    have hc := fun N : Mem => c_impl_isBlock (Y ++ N) _ _ (qr.mono (List.prefix_append Y N)) l w
    refine ⟨Y ++ [⟨[.int .i64 xs[i].1, .int .i64 xs[i].2.1, .slice ua (List.length (α := UInt8) xs[i].2.2) uc], 1, 2⟩], hY.trans (List.prefix_append _ _), ?_⟩
    rcases Nat.eq_zero_or_pos i with h0 | h0
    · subst h0
      rw [stepB_zero hi] at hq
      simp only [Int.natCast_zero, Int.ofNat_zero, Nat.zero_mul, Nat.add_zero] at *
      rw [S_impl_areBlocks_0]; unfold B_impl_areBlocks_0; simp [thenD_pp, sliceCells_sl, sliceCells_z, sliceCells_nil, take_full, appS_sl, appK_ok, appS_none, thenD_ag, agP_nil, agP_cons, hi, q4, hc, hq, e6, e8]
    · rw [stepB_pos hi h0, Bool.and_eq_true] at hq
      have hi' : (0 : Int) < (i : Int) := by omega
      have e7 : IntKind.i64.wrap ((i : Int) - 1) = ((i - 1 : Nat) : Int) := by rw [wrap_i64 (by omega) (by omega)]; omega
      obtain ⟨b', o', u', e, q1', _⟩ := at_Block (h.mono hY) (i := i - 1) (by omega)
      cases e
      have q1' := fun N : Mem => rd1_old (N := N) q1'
      have hlt := of_decide_eq_true hq.2
      have hge : ¬ (xs[i].1 ≤ (xs[i - 1]'(by omega)).1) := Int.not_le.2 hlt
      have hi1 : i - 1 < xs.length := by omega
      rw [S_impl_areBlocks_0]; unfold B_impl_areBlocks_0; simp [thenD_pp, sliceCells_sl, sliceCells_z, sliceCells_nil, take_full, appS_sl, appK_ok, appS_none, thenD_ag, agP_nil, agP_cons, hi, q4, hc, hq.1, e6, hi', h0, e7, q1', hge, hi1]
  · intro i Y hi hq hY k
    have e6 : IntKind.i64.wrap ((i : Int) + 1) = i + 1 := wrap_i64 (by omega) (by omega)
    have e8 : IntKind.i64.wrap 1 = 1 := wrap_i64 (by omega) (by omega)
    obtain ⟨b, o, u, rfl, q1, q2, q3, q4, _, _, qu, qr⟩ := at_Block (h.mono hY) hi
    obtain ⟨ua, uc, rfl⟩ := qu.slen
    have hc := fun N : Mem => c_impl_isBlock (Y ++ N) _ _ (qr.mono (List.prefix_append Y N)) l w
    have gb := fun (N : Mem) b => gc_boolp (hY.trans (List.prefix_append Y N)) b
    rcases Nat.eq_zero_or_pos i with h0 | h0
    · subst h0
      rw [stepB_zero hi] at hq
      simp only [Int.natCast_zero, Int.ofNat_zero, Nat.zero_mul, Nat.add_zero] at *
      rw [S_impl_areBlocks_0]; unfold B_impl_areBlocks_0; simp [thenD_pp, sliceCells_sl, sliceCells_z, sliceCells_nil, take_full, appS_sl, appK_ok, appS_none, thenD_ag, agP_nil, agP_cons, hi, q4, hc, hq, e6, e8, gb]
    · rw [stepB_pos hi h0] at hq
      have hi' : (0 : Int) < (i : Int) := by omega
      have e7 : IntKind.i64.wrap ((i : Int) - 1) = ((i - 1 : Nat) : Int) := by rw [wrap_i64 (by omega) (by omega)]; omega
      obtain ⟨b', o', u', e, q1', _⟩ := at_Block (h.mono hY) (i := i - 1) (by omega)
      cases e
      have q1' := fun N : Mem => rd1_old (N := N) q1'
      have hi1 : i - 1 < xs.length := by omega
      cases hb : blockB l w xs[i] with
      | false =>
        rw [hb] at hc
        rw [S_impl_areBlocks_0]; unfold B_impl_areBlocks_0; simp [thenD_pp, sliceCells_sl, sliceCells_z, sliceCells_nil, take_full, appS_sl, appK_ok, appS_none, thenD_ag, agP_nil, agP_cons, hi, q4, hc, e6, gb]
      | true =>
        rw [hb] at hc
        rw [hb, Bool.true_and] at hq
        have hlt := of_decide_eq_false hq
        have hge : xs[i].1 ≤ (xs[i - 1]'(by omega)).1 := Int.not_lt.1 hlt
        rw [S_impl_areBlocks_0]; unfold B_impl_areBlocks_0; simp [thenD_pp, sliceCells_sl, sliceCells_z, sliceCells_nil, take_full, appS_sl, appK_ok, appS_none, thenD_ag, agP_nil, agP_cons, hi, q4, hc, e6, hi', h0, e7, q1', hge, hi1, gb]
theorem c_impl_areBlocks (M : Mem) (v : V) (xs : List ty_Block.D) (l w : Int) (h : Rep (.sl ty_Block) M [v] xs) (hn : xs.length ≤ 1048576) : aCall T0 F_impl_areBlocks [v, .int .i64 l, .int .i64 w] M = some (.bool (blocksB l w xs), M) := by
  obtain ⟨a, c, rfl⟩ := h.slen
  have e1 := fun M => c_impl_isLog M l
  have e2 := fun M => c_impl_within M w 1 200
  unfold blocksB
  rcases l_impl_areBlocks_0 M a c xs l w h hn with ⟨X', hp, ha, e⟩ | ⟨hx, e⟩
  · simp only [Int.natCast_zero, Int.ofNat_zero] at e
    rw [rall_all ha, Bool.and_true]
    have gb := fun b => gc_boolp hp b
    unfold lgB wdB
    cases h1 : (decide (0 ≤ l) && decide (l ≤ 6)) with
    | false =>
      rw [aCall_eq T_impl_areBlocks]; unfold A_impl_areBlocks C_impl_areBlocks; simp [thenD_pp, sliceCells_sl, sliceCells_z, sliceCells_nil, take_full, appS_sl, appK_ok, appS_none, thenD_ag, agP_nil, agP_cons, e]
      rw [S_impl_areBlocks_0]; unfold B_impl_areBlocks_0; simp [thenD_pp, sliceCells_sl, sliceCells_z, sliceCells_nil, take_full, appS_sl, appK_ok, appS_none, thenD_ag, agP_nil, agP_cons, e1, h1, gb]
    | true =>
      rw [aCall_eq T_impl_areBlocks]; unfold A_impl_areBlocks C_impl_areBlocks; simp [thenD_pp, sliceCells_sl, sliceCells_z, sliceCells_nil, take_full, appS_sl, appK_ok, appS_none, thenD_ag, agP_nil, agP_cons, e]
      rw [S_impl_areBlocks_0]; unfold B_impl_areBlocks_0; simp [thenD_pp, sliceCells_sl, sliceCells_z, sliceCells_nil, take_full, appS_sl, appK_ok, appS_none, thenD_ag, agP_nil, agP_cons, e1, h1, e2, gb]
  · simp only [Int.natCast_zero, Int.ofNat_zero] at e
    rw [rall_not hx, Bool.and_false]
    rw [aCall_eq T_impl_areBlocks]; unfold A_impl_areBlocks C_impl_areBlocks; simp [thenD_pp, sliceCells_sl, sliceCells_z, sliceCells_nil, take_full, appS_sl, appK_ok, appS_none, thenD_ag, agP_nil, agP_cons, e]
theorem c_impl_isStash (M : Mem) (v : V) (xs : List ty_Block.D) (l w : Int) (h : Rep (.sl ty_Block) M [v] xs) (hn : xs.length ≤ 1048576) : aCall T0 F_impl_isStash [v, .int .i64 l, .int .i64 w] M = some (.bool (stashB l w xs), M) := by
  have e1 := c_impl_areBlocks M v xs l w h hn
  obtain ⟨a, c, rfl⟩ := h.slen
  unfold stashB
  by_cases hs : xs.length ≤ 128
  · have hs' : (xs.length : Int) ≤ 128 := by omega
    rw [aCall_eq T_impl_isStash]; unfold A_impl_isStash C_impl_isStash; simp [thenD_pp, sliceCells_sl, sliceCells_z, sliceCells_nil, take_full, appS_sl, appK_ok, appS_none, thenD_ag, agP_nil, agP_cons, e1, hs, hs']
  · have hs' : ¬ (xs.length : Int) ≤ 128 := by omega
    rw [aCall_eq T_impl_isStash]; unfold A_impl_isStash C_impl_isStash; simp [thenD_pp, sliceCells_sl, sliceCells_z, sliceCells_nil, take_full, appS_sl, appK_ok, appS_none, thenD_ag, agP_nil, agP_cons, e1, hs, hs']
def Zl (zs : List (List V × ty_Block.D)) : List V := (zs.map (·.1)).flatten
theorem gr0 {t : Ty} {M : Mem} {l : Nat} (hb : M[l]? = some ⟨[], t.w, 2⟩) : Gr (.sl t) M [.slice (some ⟨l, 0, none⟩) 0 0] [] [l] :=
  .inr ⟨l, [], [], rfl, hb, rfl, rfl, by simp, by simp⟩
theorem sl_pre {M X : Mem} {w : Nat} {v : V} {r : Nat × List V} (hp : M <+: X) (h : sliceCells M w v = some r) : sliceCells X w v = some r := by
  unfold sliceCells at h ⊢
  split at h
  · exact h
  · split at h
    · rename_i h0; rw [if_pos h0]; exact h
    · rename_i h0
      rw [if_neg h0]
      obtain ⟨y, hy, rfl⟩ := Option.map_eq_some_iff.1 h
      rw [rn_pre hp hy]
      rfl
  · cases h
/-- A clone of blocks. -/
def ClB (M : Mem) (zs : List (List V × ty_Block.D)) (p : V × Mem) : Prop := M <+: p.2 ∧ ((zs = [] ∧ ∃ La, Gr (.sl ty_Block) p.2 [p.1] [] La ∧ La.Nodup ∧ ∀ l ∈ La, M.length ≤ l) ∨ zs ≠ [] ∧ ∃ l, p.1 = .slice (some ⟨l, 0, none⟩) zs.length zs.length ∧ M.length ≤ l ∧ p.2[l]? = some ⟨Zl zs, 3, 2⟩)
theorem c_clone_Block (M0 M : Mem) (hp0 : M0 <+: M) (v : V) (zs : List (List V × ty_Block.D)) (hv : ∃ a c, v = .slice a zs.length c) (h2 : ∀ z ∈ zs, Rep ty_Block M0 z.1 z.2) (h3 : sliceCells M0 3 v = some (zs.length, Zl zs)) (hn : zs.length ≤ 1048576) :
    Sat (aCall T0 F_slices_Clone_impl_Block_impl_Block [v] M) (ClB M zs) := by
  have hc : ∀ N : Mem, sliceCells (M ++ N) 3 v = some (zs.length, Zl zs) := fun N => sl_pre (hp0.trans (List.prefix_append M N)) h3
  obtain ⟨a, c, rfl⟩ := hv
  have hfl : (Zl zs).length = zs.length * 3 := by
    unfold Zl
    rw [flat_len (w := 3)]
    · simp
    · intro c hc
      obtain ⟨z, hz, rfl⟩ := List.mem_map.1 hc
      exact (h2 z hz).len
  have hone : (Zl zs).all one = true := by
    unfold Zl
    rw [List.all_flatten, List.all_eq_true]
    intro c hc
    obtain ⟨z, hz, rfl⟩ := List.mem_map.1 hc
    exact (h2 z hz).one
  cases a with
  | none =>
    have hx : zs = [] := by
      cases zs with
      | nil => rfl
      | cons z zs => simp [sliceCells] at h3
    subst hx
    rw [aCall_eq T_slices_Clone_impl_Block_impl_Block]; unfold A_slices_Clone_impl_Block_impl_Block C_slices_Clone_impl_Block_impl_Block; simp [thenD_pp, sliceCells_sl, sliceCells_z, sliceCells_nil, take_full, appS_sl, appK_ok, appS_none, thenD_ag, agP_nil, agP_cons]
    exact ⟨_, rfl, List.prefix_refl _, .inl ⟨rfl, [], Gr.nil, by simp, by simp⟩⟩
  | some a =>
    by_cases h0 : zs = []
    · subst h0
      have hz : Zl [] = [] := rfl
      rw [hz] at hc
      simp only [List.length_nil] at hc
      rw [aCall_eq T_slices_Clone_impl_Block_impl_Block]; unfold A_slices_Clone_impl_Block_impl_Block C_slices_Clone_impl_Block_impl_Block; simp [thenD_pp, sliceCells_sl, sliceCells_z, sliceCells_nil, take_full, appS_sl, appK_ok, appS_none, thenD_ag, agP_nil, agP_cons, hc, zeroCells, appS]
      exact ⟨(_, M ++ [⟨[], 3, 2⟩]), rfl, List.prefix_append _ _, .inl ⟨rfl, [M.length], gr0 (t := ty_Block) (by simp [Ty.w]), by simp, by simp⟩⟩
    · have hpos := List.length_pos_iff.2 h0
      rw [aCall_eq T_slices_Clone_impl_Block_impl_Block]; unfold A_slices_Clone_impl_Block_impl_Block C_slices_Clone_impl_Block_impl_Block; simp [thenD_pp, sliceCells_sl, sliceCells_z, sliceCells_nil, take_full, appS_sl, appK_ok, appS_none, thenD_ag, agP_nil, agP_cons, hc, zeroCells]
      generalize hy : appS _ _ _ _ _ _ = xhy
      have hg1 : Grow M.length 3 (M ++ [(⟨[], 3, 2⟩ : Blk)]) (.slice (some ⟨M.length, 0, none⟩) 0 0) 0 [] := Grow.new (Nat.le_refl _) rfl
      obtain ⟨a3, X3, rfl, g3, ag, l3⟩ := hg1.at hy (List.prefix_refl _) (by simp) hfl hpos hone (by omega) (by omega)
      clear hy
      simp [thenD_pp, sliceCells_sl, sliceCells_z, sliceCells_nil, take_full, appS_sl, appK_ok, appS_none, thenD_ag, agP_nil, agP_cons]
      obtain ⟨_, ⟨e, e0⟩ | ⟨l, hl, e, hb⟩⟩ := g3
      · cases e
      · cases e
        simp only [Nat.zero_add, List.nil_append] at hb ⊢
        exact ⟨_, rfl, ag.pre (List.prefix_append _ _) (fun b hb => hg1.ge b hb), .inr ⟨h0, l, rfl, hl, hb⟩⟩
theorem rep_hdz {t : Ty} {M : Mem} {v : V} {xs : List t.D} (h : Rep (.sl t) M [v] xs) : ∃ zs : List (List V × t.D), zs.map (·.2) = xs ∧ (∀ z ∈ zs, Rep t M z.1 z.2) ∧ sliceCells M t.w v = some (xs.length, (zs.map (·.1)).flatten) := by
  rcases h with ⟨e, rfl⟩ | ⟨l, o, c, blk, css, e, h2, h3, h4, h5, h6, h7⟩
  · cases e
    exact ⟨[], rfl, by simp, rfl⟩
  · cases e
    refine ⟨css.zip xs, List.map_snd_zip (by omega), ?_, ?_⟩
    · intro z hz
      obtain ⟨i, hi, rfl⟩ := List.getElem_of_mem hz
      rw [List.length_zip] at hi
      rw [List.getElem_zip]
      exact h6 i _ _ (List.getElem?_eq_getElem (by omega)) (List.getElem?_eq_getElem (by omega))
    · have hm : ((css.zip xs).map (·.1)) = css := List.map_fst_zip (by omega)
      rw [hm]
      have hl : css.flatten.length = xs.length * t.w := by
        rw [flat_len (w := t.w), h5]
        intro ds hd
        obtain ⟨i, hi, rfl⟩ := List.getElem_of_mem hd
        exact (h6 i css[i] (xs[i]'(by omega)) (by simp) (by simp)).len
      by_cases h0 : xs.length * t.w = 0
      · have : css.flatten = [] := List.length_eq_zero_iff.1 (by omega)
        simp [sliceCells, h0, this]
      · obtain ⟨r, hr⟩ := h7
        have hne : xs ≠ [] := by rintro rfl; simp at h0
        have hle : o + xs.length * t.w ≤ blk.cells.length := by
          have := congrArg List.length hr
          rw [List.length_append, List.length_drop, hl] at this
          omega
        have hst : blk.st = 1 ∨ blk.st = 2 := by
          rcases h3 with h | h | h
          · exact .inl h
          · exact .inr h
          · exact absurd h hne
        simp only [sliceCells, h0, if_false, rdn, h2]
        rw [if_pos ⟨hst, hle⟩, ← hr, ← hl, List.take_left]
        rfl
theorem zl_of {M : Mem} {v : V} {xs : List ty_Block.D} (h : Rep (.sl ty_Block) M [v] xs) : ∃ zs : List (List V × ty_Block.D), zs.map (·.2) = xs ∧ (∃ a c, v = .slice a zs.length c) ∧ (∀ z ∈ zs, Rep ty_Block M z.1 z.2) ∧ sliceCells M 3 v = some (zs.length, Zl zs) := by
  obtain ⟨zs, h1, h2, h3⟩ := rep_hdz h
  have hl : xs.length = zs.length := by rw [← h1]; simp
  rw [hl] at h3
  obtain ⟨a, c, rfl⟩ := h.slen
  exact ⟨zs, h1, ⟨a, c, by rw [hl]⟩, h2, h3⟩
theorem gr_Block {M : Mem} {x : ty_Block.D} {u : V} {L : List Nat} (w0 : (Lit.int .i64 x.1).wf = true) (w1 : (Lit.int .i64 x.2.1).wf = true) (r0 : Gr (.sl ty_Byte) M [u] x.2.2 L) : Gr ty_Block M [.int .i64 x.1, .int .i64 x.2.1, u] x L :=
  ⟨[.int .i64 x.1], [.int .i64 x.2.1, u], [], L, rfl, ⟨⟨rfl, w0⟩, rfl⟩, ⟨[.int .i64 x.2.1], [u], [], L, rfl, ⟨⟨rfl, w1⟩, rfl⟩, r0, rfl⟩, rfl⟩
def CkI (M : Mem) (l : Nat) (zs : List (List V × ty_Block.D)) (i : Nat) (X : Mem) : Prop :=
  ∃ (ds : List (List V)) (Ls : List (List Nat)), M <+: X ∧ X[l]? = some ⟨ds.flatten ++ Zl (zs.drop i), 3, 2⟩ ∧ ds.length = i ∧ Ls.length = i ∧ (∀ (k : Nat) (d : List V) (z : List V × ty_Block.D) (K : List Nat), ds[k]? = some d → zs[k]? = some z → Ls[k]? = some K → Gr ty_Block X d z.2 K) ∧ (l :: Ls.flatten).Nodup ∧ ∀ j ∈ Ls.flatten, M.length ≤ j
theorem Zl_cons (z : List V × ty_Block.D) (zs : List (List V × ty_Block.D)) : Zl (z :: zs) = z.1 ++ Zl zs := by simp [Zl]
theorem splice1 {cs : List V} {o : Nat} {v : V} (h : o < cs.length) : splice cs o [v] = cs.set o v := by
  unfold splice
  rw [List.set_eq_take_append_cons_drop, if_pos h]
  simp
theorem splice_mid (A : List V) (x y u w : V) (B : List V) : splice (A ++ ([x, y, u] ++ B)) (A.length + 2) [w] = A ++ ([x, y, w] ++ B) := by
  rw [splice1 (by simp), List.set_append_right _ _ (by omega)]
  have : A.length + 2 - A.length = 2 := by omega
  rw [this]
  rfl
theorem fl_Byte : FlatE .u8 enc_Byte (fun _ => True) := ⟨fun M x _ => ⟨rfl, rfl⟩, fun M cs x h => ⟨h, trivial⟩⟩
theorem l_impl_cloneBlocks_0 (M : Mem) (l : Nat) (zs : List (List V × ty_Block.D)) (hl : M.length ≤ l) (hz : ∀ z ∈ zs, Rep ty_Block M z.1 z.2) (hn : zs.length ≤ 1048576) (hs : ∀ z ∈ zs, List.length (α := UInt8) z.2.2.2 ≤ 1048576) (Z : Mem) (hZ : CkI M l zs 0 Z) :
    ∃ (u : Unit) (X' : Mem), CkI M l zs zs.length X' ∧ lp (aCall T0) K_impl_cloneBlocks_0 L_impl_cloneBlocks_0 [und, und, und, .slice (some ⟨l, 0, none⟩) zs.length zs.length, und, und, und, und, .slice (some ⟨l, 0, none⟩) zs.length zs.length, .int .i64 zs.length, .int .i64 (0 : Nat), und, und, und, und, und, und, und, und, und, und, und, und, und] Z = lp (aCall T0) K_impl_cloneBlocks_0 L_impl_cloneBlocks_0 [und, und, und, .slice (some ⟨l, 0, none⟩) zs.length zs.length, und, und, und, und, .slice (some ⟨l, 0, none⟩) zs.length zs.length, .int .i64 zs.length, .int .i64 zs.length, und, und, und, und, und, und, und, und, und, und, und, und, und] X' := by
  refine loop_to (call := aCall T0) (K := K_impl_cloneBlocks_0) (L := L_impl_cloneBlocks_0) (fun i (_ : Unit) X => CkI M l zs i X) (fun i (_ : Unit) => [und, und, und, .slice (some ⟨l, 0, none⟩) zs.length zs.length, und, und, und, und, .slice (some ⟨l, 0, none⟩) zs.length zs.length, .int .i64 zs.length, .int .i64 i, und, und, und, und, und, und, und, und, und, und, und, und, und]) (n := zs.length) ?_ 0 () Z (by omega) hZ
  intro i _ X hi ⟨ds, Ls, pX, hb, hd, hL, hg, nd, hge⟩
  have e6 : IntKind.i64.wrap ((i : Int) + 1) = i + 1 := wrap_i64 (by omega) (by omega)
  have hzm := List.getElem_mem hi
  have hR := hz _ hzm
  have hsz := hs _ hzm
  obtain ⟨u, hu, w0, w1, qu⟩ := rep_g_Block hR
  have hdr : zs.drop i = zs[i] :: zs.drop (i + 1) := List.drop_eq_getElem_cons hi
  rw [hdr, Zl_cons, hu] at hb
  have hdl : ds.flatten.length = i * 3 := by
    rw [flat_len (w := 3), hd]
    intro c hc
    obtain ⟨k, hk, rfl⟩ := List.getElem_of_mem hc
    exact (hg k _ (zs[k]'(by omega)) (Ls[k]'(by omega)) (by simp) (by simp) (by simp)).len
  generalize hzi : zs[i] = z at *
  obtain ⟨z1, b1, b2, b3⟩ := z
  simp only at hu w0 w1 qu hsz hb hR
  subst hu
  have hl3 : ∀ u : V, (ds.flatten ++ ([(.int .i64 b1 : V), .int .i64 b2, u] ++ Zl (zs.drop (i + 1)))).length = i * 3 + 3 + (Zl (zs.drop (i + 1))).length := fun u => by
    rw [List.length_append, hdl, List.length_append]
    simp only [List.length_cons, List.length_nil]
    omega
  have hrd : rdn X l (i * 3) 3 = some [.int .i64 b1, .int .i64 b2, u] := by
    simp only [rdn, hb]
    rw [if_pos (by rw [hl3]; refine ⟨by simp, by omega⟩), List.drop_left' hdl]
    rfl
  have hrd' := fun N : Mem => rn_pre (List.prefix_append X N) hrd
  have s1 := clone_sl (M := X ++ [(⟨[.int .i64 b1, .int .i64 b2, u], 1, 2⟩ : Blk)]) T_bytes_Clone (t := .u8) fl_Byte rfl (qu.mono (pX.trans (List.prefix_append _ _))) (by omega) (by omega)
  obtain ⟨ua, uc, rfl⟩ := qu.slen
  have hlX := get_lt hb
  rw [S_impl_cloneBlocks_0]; unfold B_impl_cloneBlocks_0; simp [thenD_pp, sliceCells_sl, sliceCells_z, sliceCells_nil, take_full, appS_sl, appK_ok, appS_none, thenD_ag, agP_nil, agP_cons, hi, hrd, hrd', zeroCells, rdJ_ok, rd1_K]
  generalize hx : aCall T0 F_bytes_Clone _ _ = xhx
  obtain ⟨w1', X3, rfl, K2, p3', gb, ndb, geb⟩ := of_call hx s1
  clear hx
  simp only at p3' gb geb
  have p3 : X <+: X3 := (List.prefix_append _ _).trans p3'
  obtain ⟨a7, rfl⟩ := gb.shape
  have hb3 := get_pre p3 hb
  have hwr : wrn X3 l (i * 3 + 2) [.slice a7 (List.length (α := UInt8) b3) (List.length (α := UInt8) b3)] = some (X3.set l ⟨ds.flatten ++ ([.int .i64 b1, .int .i64 b2, .slice a7 (List.length (α := UInt8) b3) (List.length (α := UInt8) b3)] ++ Zl (zs.drop (i + 1))), 3, 2⟩) := by
    simp only [wrn, hb3]
    rw [if_pos (by rw [hl3]; refine ⟨by simp, by simp only [List.length_cons, List.length_nil]; omega, rfl⟩), ← hdl, splice_mid]
  simp [thenD_pp, sliceCells_sl, sliceCells_z, sliceCells_nil, take_full, appS_sl, appK_ok, appS_none, thenD_ag, agP_nil, agP_cons, hi, hwr, e6]
  have hlK : l ∉ K2 := fun hm => by have := geb l hm; simp at this; omega
  have hlt : ∀ K ∈ Ls, ∀ j ∈ K, j < X.length := by
    intro K hK j hj
    obtain ⟨k, hk, rfl⟩ := List.getElem_of_mem hK
    exact (hg k (ds[k]'(by omega)) (zs[k]'(by omega)) _ (by simp) (by simp) (by simp)).lt j hj
  have hnd := List.nodup_cons.1 nd
  refine ⟨_, ⟨ds ++ [[.int .i64 b1, .int .i64 b2, .slice a7 (List.length (α := UInt8) b3) (List.length (α := UInt8) b3)]], Ls ++ [K2], pf_set hl (pX.trans p3), ?_, by simp [hd], by simp [hL], ?_, ?_, ?_⟩, rfl⟩
  · rw [gs_of hb3]; simp
  · intro k d z K hdk hzk hKk
    by_cases hk : k < i
    · rw [List.getElem?_append_left (by omega)] at hdk hKk
      have g := hg k d z K hdk hzk hKk
      refine (g.grow p3).set _ (fun hm => hnd.1 (List.mem_flatten.2 ⟨K, List.mem_of_getElem? hKk, hm⟩))
    · have hki : k = i := by
        have := (List.getElem?_eq_some_iff.1 hdk).1
        simp at this
        omega
      subst hki
      rw [List.getElem?_append_right (by omega)] at hdk hKk
      simp [hd] at hdk
      simp [hL] at hKk
      rw [List.getElem?_eq_getElem hi, hzi] at hzk
      cases hzk
      subst hdk
      subst hKk
      exact gr_Block (x := (b1, b2, b3)) w0 w1 (gb.set _ hlK)
  · rw [List.flatten_append, List.flatten_cons, List.flatten_nil, List.append_nil]
    refine List.nodup_cons.2 ⟨fun hm => ?_, List.nodup_append.2 ⟨hnd.2, ndb, fun a ha b hb2 e => ?_⟩⟩
    · rcases List.mem_append.1 hm with h | h
      · exact hnd.1 h
      · exact hlK h
    · subst e
      obtain ⟨K, hK, ha⟩ := List.mem_flatten.1 ha
      have h1 := hlt K hK a ha
      have h2 := geb a hb2
      simp at h2
      omega
  · intro j hj
    rw [List.flatten_append, List.flatten_cons, List.flatten_nil, List.append_nil] at hj
    rcases List.mem_append.1 hj with h | h
    · exact hge j h
    · have := geb j h
      have := pX.length_le
      simp at *
      omega
theorem c_impl_cloneBlocks (M : Mem) (v : V) (xs : List ty_Block.D) (h : Rep (.sl ty_Block) M [v] xs) (hz : BlkSz xs) : Sat (aCall T0 F_impl_cloneBlocks [v] M) (GrV ty_Block M xs) := by
  obtain ⟨zs, rfl, hv, hz2, h3⟩ := zl_of h
  have hn : zs.length ≤ 1048576 := by have := hz.1; simpa using this
  have hs : ∀ z ∈ zs, List.length (α := UInt8) z.2.2.2 ≤ 1048576 := fun z hm => hz.2 z.2 (List.mem_map_of_mem hm)
  have hC := c_clone_Block M M (List.prefix_refl _) v zs hv hz2 h3 hn
  obtain ⟨av, cv, rfl⟩ := hv
  rw [aCall_eq T_impl_cloneBlocks]; unfold A_impl_cloneBlocks C_impl_cloneBlocks; simp [thenD_pp, sliceCells_sl, sliceCells_z, sliceCells_nil, take_full, appS_sl, appK_ok, appS_none, thenD_ag, agP_nil, agP_cons]
  generalize hx : aCall T0 F_slices_Clone_impl_Block_impl_Block _ _ = xhx
  obtain ⟨v1, X1, rfl, p1, ⟨h0, La, g1, g2, g3⟩ | ⟨h0, l, rfl, hl, hb⟩⟩ := of_call hx hC
  · clear hx
    subst h0
    simp only at p1 g1
    obtain ⟨a, rfl⟩ := g1.shape
    simp only [List.length_nil]
    simp [thenD_pp, sliceCells_sl, sliceCells_z, sliceCells_nil, take_full, appS_sl, appK_ok, appS_none, thenD_ag, agP_nil, agP_cons]
    rw [S_impl_cloneBlocks_0]; unfold B_impl_cloneBlocks_0; simp [thenD_pp, sliceCells_sl, sliceCells_z, sliceCells_nil, take_full, appS_sl, appK_ok, appS_none, thenD_ag, agP_nil, agP_cons]
    exact ⟨(_, X1), rfl, La, p1, g1, g2, g3⟩
  · clear hx
    simp only at p1 hb
    have hlt := get_lt hb
    obtain ⟨_, X', ⟨ds, Ls, pX, hb', hd, hL, hg, nd, hge⟩, e⟩ := l_impl_cloneBlocks_0 M l zs hl hz2 hn hs X1 ⟨[], [], p1, by simpa using hb, rfl, rfl, by simp, by simp, by simp⟩
    simp only [Int.natCast_zero, Int.ofNat_zero] at e
    simp [thenD_pp, sliceCells_sl, sliceCells_z, sliceCells_nil, take_full, appS_sl, appK_ok, appS_none, thenD_ag, agP_nil, agP_cons, e]
    rw [S_impl_cloneBlocks_0]; unfold B_impl_cloneBlocks_0; simp [thenD_pp, sliceCells_sl, sliceCells_z, sliceCells_nil, take_full, appS_sl, appK_ok, appS_none, thenD_ag, agP_nil, agP_cons]
    refine ⟨(_, X'), rfl, l :: Ls.flatten, pX, .inr ⟨l, ds, Ls, by simp, ?_, by simp [hd], by simp [hL], ?_, rfl⟩, nd, ?_⟩
    · show X'[l]? = _
      rw [hb']
      simp [Zl, Ty.w]
    · intro k d x K hdk hxk hKk
      rw [List.getElem?_map] at hxk
      obtain ⟨z, hz, rfl⟩ := Option.map_eq_some_iff.1 hxk
      exact hg k d z K hdk hz hKk
    · intro j hj
      rcases List.mem_cons.1 hj with rfl | hj
      · exact hl
      · exact hge j hj
abbrev FoO (p : Nat) (v : V) (aC : Option Addr) (nC cC : Nat) (i : Nat) : List V := [und, .pointer (some ⟨p, 0, none⟩), und, und, v, und, und, und, und, und, und, und, und, und, und, und, und, und, und, und, und, und, und, und, und, und, und, und, und, und, und, und, und, und, und, und, und, und, und, und, und, und, und, und, und, und, und, und, und, und, und, und, und, und, und, und, und, und, und, und, und, und, und, und, und, und, und, und, und, und, und, und, und, und, und, und, .slice aC nC cC, .int .i64 nC, .int .i64 i, und, und, und, und, und, und, und, und, und, und, und, und, und, und, und, und, und, und, und, und, und, und, und, und, und, und, und, und, und, und, und, und, und, und, und, und, und, und, und, und, und, und, und]
def FoOn (p : Nat) (aC : Option Addr) (nC cC : Nat) (i : Nat) (v : V) : List V := FoO p v aC nC cC i
structure OuI (M : Mem) (all : List ty_Block.D) (v : V) (X : Mem) : Prop where
  pre : M <+: X
  gr : ∃ L, Gr (.sl ty_Block) X [v] all L ∧ L.Nodup ∧ (∀ j ∈ L, M.length ≤ j)
  lt : IdLt all
  rg : IdsR all
def nxO (m : Nat) (w : Int) (nd : Nat) (c : ty_Cell.D) (all : List ty_Block.D) : Option (List ty_Block.D) := if ndOk m w c = true then inO m nd all (ndB (Int.toNat w) c) else none
def RtF (M : Mem) (r : R) : Prop := ∃ fr X', r = some (.ret, fr, X') ∧ resOf fr X' [.tmp 2, .tmp 3] = some (.tuple #[.slice none 0 0, .bool false]) ∧ M <+: X'
def StO (M : Mem) (Lp : List V → Mem → R) (F : V → List V) : Option (List ty_Block.D) → R → Prop
  | some a, r => ∃ v' X', OuI M a v' X' ∧ r = Lp (F v') X'
  | none, r => RtF M r
theorem at_Cell {M : Mem} {a : Option Addr} {n c : Nat} {xs : List ty_Cell.D} (h : Rep (.sl ty_Cell) M [.slice a n c] xs) {i : Nat} (hi : i < xs.length) : ∃ l o u, a = some ⟨l, o, none⟩ ∧ rd1 M l (o + i) = some u ∧ rdn M l (o + i) 1 = some [u] ∧ Rep (.sl ty_Byte) M [u] xs[i] := by
  obtain ⟨_, l, o, rfl, cs, hrd, hrep⟩ := rep_at h hi
  have hl := hrep.len
  have hw1 : ty_Cell.w = 1 := rfl
  rw [hw1, Nat.mul_one] at hrd
  match cs, hl, hrd, hrep with
  | [u], _, hrd, hrep => exact ⟨l, o, u, rfl, rd1_of_one hrd, hrd, hrep⟩
def ndP (w : Nat) (ys : List UInt8) (k : Nat) : List ty_Block.D := (List.range k).map (blkAt w ys)
theorem ndP_len (w : Nat) (ys : List UInt8) (k : Nat) : (ndP w ys k).length = k := by simp [ndP]
theorem nbF_le (w : Nat) (ys : List UInt8) : ∀ (k j : Nat), j ≤ nbF w ys k j ∧ nbF w ys k j ≤ j + k
  | 0, j => by simp [nbF]
  | k + 1, j => by
    have ih := nbF_le w ys k (j + 1)
    unfold nbF
    split <;> omega
theorem nbC_le (w : Nat) (ys : List UInt8) : nbC w ys ≤ 4 := by have := (nbF_le w ys 4 0).2; unfold nbC; omega
theorem ndB_eq (w : Nat) (ys : List UInt8) : ndP w ys (nbC w ys) = ndB w ys := rfl
theorem ndB_len (w : Nat) (ys : List UInt8) : (ndB w ys).length ≤ 4 := by rw [← ndB_eq, ndP_len]; exact nbC_le w ys
def ndX (l w : Int) (ys : List UInt8) : List ty_Block.D := if ndOk l w ys = true then ndB (Int.toNat w) ys else []
theorem pow2_cast (q : Nat) : ((2 : Int) ^ q) = ((2 ^ q : Nat) : Int) := by
  induction q with
  | zero => rfl
  | succ q ih => rw [Int.pow_succ, ih, Nat.pow_succ, Int.natCast_mul]; rfl
theorem leaf_nat {m : Nat} {x : Int} (h : leafB m x = true) : x = ((Int.toNat x : Nat) : Int) ∧ Int.toNat x < 2 ^ m := by
  unfold leafB at h
  simp only [Bool.and_eq_true, decide_eq_true_eq] at h
  obtain ⟨_, h1, h2⟩ := h
  have : ((m : Int).toNat) = m := by omega
  rw [this, pow2_cast] at h2
  omega
/-- Blocks that fit in bytes. -/
def BkOk (w : Nat) (bs : List ty_Block.D) : Prop := ∀ b ∈ bs, (0 ≤ b.1 ∧ b.1 ≤ 255) ∧ (0 ≤ b.2.1 ∧ b.2.1 ≤ 255) ∧ List.length (α := UInt8) b.2.2 = w
theorem bk_of {m w : Nat} {bs : List ty_Block.D} (hm : m ≤ 6) (h : blocksB m w bs = true) : BkOk w bs := fun b hb => by
  have h1 := blocks_of h b hb
  unfold blockB bidB at h1
  simp only [Bool.and_eq_true] at h1
  obtain ⟨_, ⟨h2, h3⟩, h4, h5⟩ := h1
  obtain ⟨h6, h7⟩ := leaf_nat h4
  have h8 : 2 ^ m ≤ 2 ^ 6 := Nat.pow_le_pow_right (by omega) hm
  refine ⟨⟨of_decide_eq_true h2, of_decide_eq_true h3⟩, ?_, by have := of_decide_eq_true h5; omega⟩
  have key : ∀ q : Int, q = ((Int.toNat q : Nat) : Int) → Int.toNat q < 2 ^ m → 0 ≤ q ∧ q ≤ 255 := by
    intro q q1 q2
    omega
  exact key _ h6 h7
theorem blkY_len (b : ty_Block.D) : (blkY b).length = 3 + List.length (α := UInt8) b.2.2 := by
  unfold blkY
  simp only [List.length_cons]
  omega
theorem blksY_len {w : Nat} : ∀ {bs : List ty_Block.D}, BkOk w bs → (blksY bs).length = bs.length * (w + 3)
  | [], _ => by simp [blksY]
  | b :: bs, h => by
    have ih := blksY_len (w := w) (bs := bs) (fun x hx => h x (List.mem_cons_of_mem _ hx))
    have h1 := (h b (by simp)).2.2
    have h2 := blkY_len b
    have e : blksY (b :: bs) = blkY b ++ blksY bs := by simp [blksY]
    rw [e, List.length_append, ih, List.length_cons, Nat.succ_mul]
    omega
theorem blksY_succ {bs : List ty_Block.D} {i : Nat} (hi : i < bs.length) : blksY (bs.take (i + 1)) = blksY (bs.take i) ++ blkY bs[i] := by
  unfold blksY
  rw [List.take_succ_eq_append_getElem hi, List.flatMap_append]
  simp
theorem byte_int {n : Int} (h : 0 ≤ n ∧ n ≤ 255) : byteV (UInt8.ofNat (Int.toNat n)) = .int .u8 n ∧ IntKind.u8.wrap n = n := by
  rw [byteV_len (by omega), Int.toNat_of_nonneg h.1]
  exact ⟨rfl, wrap_u8 (by omega) (by omega)⟩
theorem byteV_one : byteV 1 = .int .u8 1 := rfl
def NoI (M0 : Mem) (bs : List ty_Block.D) (v : V) (X : Mem) : Prop := M0 <+: X ∧ Grow M0.length 1 X v (blksY bs).length ((blksY bs).map byteV)
theorem rep_cells {t : Ty} {M : Mem} {enc : t.D → List V} (henc : ∀ (cs : List V) (x : t.D), Rep t M cs x → cs = enc x) {a : Option Addr} {n c : Nat} {xs : List t.D} (h : Rep (.sl t) M [.slice a n c] xs) {k c2 : Nat} (hk : k ≤ xs.length) :
    sliceCells M t.w (.slice a k c2) = some (k, ((xs.take k).map enc).flatten) := by
  rcases h with ⟨h, rfl⟩ | ⟨l', o', c', blk, css, e, h2, h3, h4, h5, h6, h7⟩
  · simp at h hk
    obtain ⟨rfl, rfl, rfl⟩ := h
    subst hk
    simp [sliceCells]
  · simp only [List.cons.injEq, Value.slice.injEq, and_true] at e
    obtain ⟨rfl, rfl, rfl⟩ := e
    by_cases hk0 : k = 0
    · subst hk0
      simp [sliceCells]
    have hw := Rep.css_w h5 h6
    have hcs : css = xs.map enc := by
      apply List.ext_getElem (by simp [h5])
      intro i h1 h2
      rw [List.getElem_map]
      exact henc _ _ (h6 i _ _ (by simp [h1]) (by simp))
    have hlen := flat_len hw
    have hpos := t.w_pos
    have h3' : blk.st = 1 ∨ blk.st = 2 := by
      rcases h3 with h3 | h3 | h3
      · exact .inl h3
      · exact .inr h3
      · subst h3; simp at hk; omega
    obtain ⟨r, hr⟩ := h7
    have hdl : css.flatten.length + r.length = blk.cells.length - o' := by rw [← List.length_drop, ← hr, List.length_append]
    have hle : k * t.w ≤ css.length * t.w := Nat.mul_le_mul_right _ (by omega)
    have hpos2 : 0 < k * t.w := Nat.mul_pos (by omega) hpos
    unfold sliceCells
    simp only
    rw [if_neg (by omega)]
    unfold rdn
    rw [h2]
    simp only
    rw [if_pos ⟨h3', by omega⟩]
    simp only [Option.map_some]
    congr 2
    rw [← hr, List.take_append_of_le_length (by omega)]
    have e2 : css = (xs.take k).map enc ++ (xs.drop k).map enc := by rw [hcs, ← List.map_append, List.take_append_drop]
    have e3 : (((xs.take k).map enc).flatten).length = k * t.w := by
      rw [flat_len (w := t.w) (fun cs hc => hw cs (by rw [e2]; exact List.mem_append_left _ hc))]
      simp [Nat.min_eq_left hk]
    rw [e2, List.flatten_append, ← e3, List.take_left']
    rfl
theorem flat_Byte (xs : List ty_Byte.D) : (xs.map enc_Byte).flatten = xs.map byteV := by
  induction xs with
  | nil => rfl
  | cons x xs ih => simp [ih]
theorem cells_Byte {M : Mem} {v : V} {ys : List UInt8} (h : Rep (.sl ty_Byte) M [v] ys) : ∃ a c, v = .slice a ys.length c ∧ sliceCells M 1 (.slice a ys.length c) = some (ys.length, ys.map byteV) := by
  obtain ⟨a, c, rfl⟩ := h.slen
  have := rep_cells (enc := enc_Byte) (fun cs x hx => hx) h (k := ys.length) (Nat.le_refl _) (c2 := c)
  rw [List.take_length] at this
  refine ⟨a, c, rfl, ?_⟩
  rw [← flat_Byte]
  exact this
theorem hits_ne {xs ys : List Nat} (h : ∀ x ∈ xs, ∀ y ∈ ys, x ≠ y) : hits xs ys = false := by
  unfold hits
  rw [List.any_eq_false]
  intro x hx
  simp only [Bool.not_eq_true]
  rw [List.any_eq_false]
  intro y hy
  have := h x hx y hy
  simp [this]
set_option maxHeartbeats 1000000 in
theorem l_impl_nodeOf_0 (M0 : Mem) (w : Nat) (a : Option Addr) (c : Nat) (bs : List ty_Block.D) (h : Rep (.sl ty_Block) M0 [.slice a bs.length c] bs) (hn : bs.length ≤ 1000) (hw : w ≤ 200) (hk : BkOk w bs) (v : V) (Z : Mem) (hZ : NoI M0 [] v Z) :
    ∃ v' X', NoI M0 bs v' X' ∧ lp (aCall T0) K_impl_nodeOf_0 L_impl_nodeOf_0 [und, .int .i64 (w : Int), und, und, und, v, und, und, .slice a bs.length c, .int .i64 bs.length, .int .i64 (0 : Nat), und, und, und, und, und, und, und, und, und, und, und, und, und, und, und, und, und, und, und, und, und, und, und, und] Z = lp (aCall T0) K_impl_nodeOf_0 L_impl_nodeOf_0 [und, .int .i64 (w : Int), und, und, und, v', und, und, .slice a bs.length c, .int .i64 bs.length, .int .i64 bs.length, und, und, und, und, und, und, und, und, und, und, und, und, und, und, und, und, und, und, und, und, und, und, und, und] X' := by
  have key := loop_to (call := aCall T0) (K := K_impl_nodeOf_0) (L := L_impl_nodeOf_0) (fun i v X => NoI M0 (bs.take i) v X) (fun i v => [und, .int .i64 (w : Int), und, und, und, v, und, und, .slice a bs.length c, .int .i64 bs.length, .int .i64 i, und, und, und, und, und, und, und, und, und, und, und, und, und, und, und, und, und, und, und, und, und, und, und, und]) (n := bs.length) ?_ 0 v Z (by omega) (by simpa using hZ)
  · rw [List.take_length] at key
    exact key
  intro i v X hi ⟨pX, hg⟩
  have e6 : IntKind.i64.wrap ((i : Int) + 1) = i + 1 := wrap_i64 (by omega) (by omega)
  have hkt : BkOk w (bs.take i) := fun b hb => hk b (List.mem_of_mem_take hb)
  have hlen := blksY_len hkt
  have hle : (bs.take i).length * (w + 3) ≤ 1000 * 203 := Nat.mul_le_mul (by rw [List.length_take]; omega) (by omega)
  obtain ⟨l, o, u, rfl, _, _, _, hrd, _, _, qu, _⟩ := at_Block (h.mono pX) hi
  obtain ⟨_, _, u9, e9, _, _, _, hrd9, _, _, hq0, _⟩ := at_Block h hi
  cases e9
  have hu9 : u9 = u := by have := rn_pre pX hrd9; rw [hrd] at this; simp at this; exact this.symm
  subst hu9
  have hki := hk _ (List.getElem_mem hi)
  unfold NoI
  rw [blksY_succ hi]
  generalize bs[i] = b at *
  generalize blksY (bs.take i) = ys at *
  obtain ⟨b1, b2, b3⟩ := b
  simp only at hrd qu hki hq0
  obtain ⟨h1, h2, h3⟩ := hki
  obtain ⟨y1, z1⟩ := byte_int h1
  obtain ⟨y2, z2⟩ := byte_int h2
  obtain ⟨ua, uc, hu, hsc⟩ := cells_Byte qu
  cases hu
  have hrd' := fun N : Mem => rn_pre (List.prefix_append X N) hrd
  obtain ⟨av, rfl⟩ := hg.shape
  have hll := hg.lt
  rw [S_impl_nodeOf_0]; unfold B_impl_nodeOf_0; simp [thenD_pp, sliceCells_sl, sliceCells_z, sliceCells_nil, take_full, appS_sl, appK_ok, appS_none, thenD_ag, agP_nil, agP_cons, hi, hrd, hrd', zeroCells, z1, z2]
  generalize hy : appS _ _ _ _ _ _ = xhy
  obtain ⟨a2, X2, rfl, hg2, ag2, hl2, hw2⟩ := grow_app hg hy (List.prefix_append _ _) (by have := pX.length_le; omega) (by rfl) (by rfl) (by omega) (by omega)
  clear hy
  have hpX : M0 <+: X2 := ag2.pre (pf_app pX) hg.ge
  have hbx : X2[X.length]? = some ⟨[.int .i64 b1, .int .i64 b2, .slice ua (List.length (α := UInt8) b3) uc], 1, 2⟩ := ag2.get (by simp) (fun hm => by have := hll _ hm; omega)
  have hr2 : rd1 X2 X.length 2 = some (.slice ua (List.length (α := UInt8) b3) uc) := rd1_of_rdn (rdn_box hbx rfl) (k := 2) rfl
  have hA : ∀ zs : List Nat, (∀ y ∈ zs, y = X.length) → hits (wfs (.slice av ys.length ys.length)) zs = false := fun zs hz => hits_ne fun x hx y hy e => by
    have := hll x hx
    have := hz y hy
    omega
  have hA2 := hA [X.length, X.length] (by simp)
  have hB : hits [X.length] (wfs (.slice av ys.length ys.length)) = false := hits_ne fun x hx y hy e => by
    have := hll y hy
    simp at hx
    omega
  have hC : hits (wfs (.slice a2 (ys.length + 3) (ys.length + 3))) [X.length, X.length, X.length] = false := hits_ne fun x hx y hy e => by
    simp at hy
    rcases hw2 x hx with h | h
    · have := hll x h; omega
    · simp at h; omega
  have qu2 : Rep (.sl ty_Byte) X2 [.slice ua (List.length (α := UInt8) b3) uc] b3 := (hq0 : Rep (.sl ty_Byte) M0 _ _).mono hpX
  obtain ⟨_, _, hu2, hsc2⟩ := cells_Byte qu2
  cases hu2
  simp [thenD_pp, sliceCells_sl, sliceCells_z, sliceCells_nil, take_full, appS_sl, appK_ok, appS_none, thenD_ag, agP_nil, agP_cons, thenD_agree, ag2, hA2, hB, hr2, hsc2]
  generalize hy : appS _ _ _ _ _ _ = xhy
  obtain ⟨a3, X3, rfl, hg3, ag3, hl3, hw3⟩ := grow_app hg2 hy (List.prefix_refl _) (by have := hpX.length_le; omega) (by simp) (map_byte_all _) (by omega) (by omega)
  clear hy
  have hpX3 : M0 <+: X3 := ag3.pre hpX hg2.ge
  simp [thenD_pp, sliceCells_sl, sliceCells_z, sliceCells_nil, take_full, appS_sl, appK_ok, appS_none, thenD_ag, agP_nil, agP_cons, thenD_agree, ag3, hC, e6]
  refine ⟨_, X3, ⟨hpX3, ?_⟩, rfl⟩
  have hl4 : (blkY (b1, b2, b3)).length = 3 + List.length (α := UInt8) b3 := blkY_len _
  have hc4 : (blkY (b1, b2, b3)).map byteV = [.int .u8 1, .int .u8 b1, .int .u8 b2] ++ List.map byteV b3 := by
    unfold blkY
    simp only [List.map_cons, byteV_one, y1, y2]
    rfl
  rw [hl4, hc4]
  simpa [Nat.add_assoc] using hg3
def BG (M0 X : Mem) (v : V) (ys : List UInt8) : Prop := ∃ n, ys.length = n ∧ M0 <+: X ∧ Grow M0.length 1 X v n (ys.map byteV)
theorem BG.le {M M0 X : Mem} {v : V} {ys : List UInt8} (h : BG M0 X v ys) (hp : M <+: M0) : BG M X v ys := by
  obtain ⟨n, h1, h2, h3⟩ := h
  exact ⟨n, h1, hp.trans h2, h3.le hp.length_le⟩
theorem BG.pre {M0 X : Mem} {v : V} {ys : List UInt8} (h : BG M0 X v ys) : M0 <+: X := by
  obtain ⟨n, h1, h2, h3⟩ := h
  exact h2
theorem BG.sl {M0 X : Mem} {v : V} {ys : List UInt8} (h : BG M0 X v ys) : ∃ a n, v = .slice a n n ∧ ys.length = n := by
  obtain ⟨n, h1, h2, h3⟩ := h
  obtain ⟨a, e⟩ := h3.shape
  exact ⟨a, n, e, h1⟩
/-- A slice of bytes made anew. -/
def Bytes (M : Mem) (ys : List UInt8) (p : V × Mem) : Prop := BG M p.2 p.1 ys
theorem Bytes.get {M X : Mem} {v : V} {ys : List UInt8} {m : Nat} (h : Bytes M ys (v, X)) (hm : ys.length = m) : M <+: X ∧ (∃ a, v = .slice a m m) ∧ sliceCells X 1 v = some (m, ys.map byteV) := by
  obtain ⟨n, rfl, hp, hg⟩ := h
  subst hm
  exact ⟨hp, hg.shape, hg.cells⟩
theorem bg_app {M0 X X1 : Mem} {v : V} {n m : Nat} {ys zs : List UInt8} (hp : M0 <+: X) (hg : Grow M0.length 1 X v n (ys.map byteV)) (hn : ys.length = n) (hx : X <+: X1) (hz : zs.length = m) (h0 : 0 < m) (hs : n + m ≤ 1000000000) :
    appS X1 1 1 v m (zs.map byteV) = some (.slice (some ⟨X1.length, 0, none⟩) (n + m) (n + m), kill X1 v ++ [⟨(ys ++ zs).map byteV, 1, 2⟩]) ∧ ∀ N, BG M0 (kill X1 v ++ ⟨(ys ++ zs).map byteV, 1, 2⟩ :: N) (.slice (some ⟨X1.length, 0, none⟩) (n + m) (n + m)) (ys ++ zs) := by
  have g := hg.pre hx
  have a1 := g.app (m := m) (bytes := 1) (ys := zs.map byteV) (by simp [hz]) h0 (map_byte_all _) (by omega) (by omega)
  rw [List.map_append]
  refine ⟨a1, fun N => ⟨n + m, by rw [List.length_append, hn, hz], pf_app (pf_kill hg.ge (hp.trans hx)), ?_⟩⟩
  rw [List.map_append]
  exact g.next (m := m) (ys := zs.map byteV) (by simp [hz]) (by have := (hp.trans hx).length_le; omega) N
/-- The zeros at the end. -/
theorem bg_pad {M0 X : Mem} {v : V} {n : Nat} {ys : List UInt8} (hp : M0 <+: X) (hg : Grow M0.length 1 X v n (ys.map byteV)) (hn : ys.length = n) (m : Nat) (hs : n + m ≤ 1000000000) :
    ∃ v' X', appS X 1 1 v m (zc (.int .u8 0) m) = some (v', X') ∧ BG M0 X' v' (ys ++ List.replicate m 0) := by
  by_cases h0 : m = 0
  · subst h0
    refine ⟨v, X, ?_, n, by simpa using hn, hp, by simpa using hg⟩
    obtain ⟨a, rfl⟩ := hg.shape
    unfold appS
    rcases hg.2 with ⟨h1, h2⟩ | ⟨l, _, h1, _⟩
    · cases h1; rfl
    · cases h1; rfl
  · obtain ⟨a1, a2⟩ := bg_app (X1 := X) (m := m) (zs := List.replicate m 0) hp hg hn (List.prefix_refl _) (by simp) (by omega) hs
    rw [map_byte_rep] at a1
    exact ⟨_, _, a1, a2 []⟩
theorem bg_padz {M0 X : Mem} {v : V} {ys : List UInt8} (h : BG M0 X v ys) {n : Nat} (hn : ys.length = n) (m : Nat) (hs : n + m ≤ 1000000000) :
    ∃ v' X', appS X 1 1 v m (zc (.int .u8 0) m) = some (v', X') ∧ BG M0 X' v' (ys ++ List.replicate m 0) := by
  obtain ⟨n', h1, h2, h3⟩ := h
  exact bg_pad h2 h3 h1 m (by omega)
theorem c_impl_nodeOf (M : Mem) (v : V) (bs : List ty_Block.D) (w : Nat) (h : Rep (.sl ty_Block) M [v] bs) (hn : bs.length ≤ 4) (hw : w ≤ 200) (hk : BkOk w bs) : Sat (aCall T0 F_impl_nodeOf [v, .int .i64 (w : Int)] M) (Bytes M (ndY w bs)) := by
  obtain ⟨a, c, rfl⟩ := h.slen
  obtain ⟨v', X', ⟨pX, hg⟩, e⟩ := l_impl_nodeOf_0 M w a c bs h (by omega) hw hk (.slice none 0 0) M ⟨List.prefix_refl _, Grow.nil⟩
  simp only [Int.natCast_zero, Int.ofNat_zero] at e
  have hlen := blksY_len hk
  have hle : bs.length * (w + 3) ≤ 4 * (w + 3) := Nat.mul_le_mul_right _ hn
  have e1 : IntKind.i64.wrap ((w : Int) + 3) = (w : Int) + 3 := wrap_i64 (by omega) (by omega)
  have e2 : IntKind.i64.wrap (4 * ((w : Int) + 3)) = 4 * ((w : Int) + 3) := wrap_i64 (by omega) (by omega)
  have e3 : IntKind.i64.wrap (4 * ((w : Int) + 3) - ((blksY bs).length : Int)) = ((4 * (w + 3) - (blksY bs).length : Nat) : Int) := by rw [wrap_i64 (by omega) (by omega)]; omega
  obtain ⟨v2, X2, q, g2⟩ := bg_padz (⟨_, rfl, pX, hg⟩ : BG M X' v' (blksY bs)) rfl (4 * (w + 3) - (blksY bs).length) (by omega)
  obtain ⟨av, rfl⟩ := hg.shape
  obtain ⟨n2, _, _, hg2⟩ := id g2
  obtain ⟨a2, rfl⟩ := hg2.shape
  have hbd1 : (((4 * (w + 3) - (blksY bs).length : Nat) : Int)) ≤ 9223372036854775807 := by omega
  have hbd2 : (((4 * (w + 3) - (blksY bs).length : Nat) : Int)) ≤ 281474976710656 := by omega
  generalize hm : 4 * (w + 3) - (blksY bs).length = m at *
  rw [aCall_eq T_impl_nodeOf]; unfold A_impl_nodeOf C_impl_nodeOf; simp [thenD_pp, sliceCells_sl, sliceCells_z, sliceCells_nil, take_full, appS_sl, appK_ok, appS_none, thenD_ag, agP_nil, agP_cons, e]
  rw [S_impl_nodeOf_0]; unfold B_impl_nodeOf_0; simp [thenD_pp, sliceCells_sl, sliceCells_z, sliceCells_nil, take_full, appS_sl, appK_ok, appS_none, thenD_ag, agP_nil, agP_cons, e1, e2, e3, q, hbd1, hbd2]
  exact ⟨(_, X2), rfl, by unfold ndY; rw [hm]; exact g2⟩
theorem rep_blk {t : Ty} {M : Mem} {l o n c : Nat} {xs : List t.D} (h : Rep (.sl t) M [.slice (some ⟨l, o, none⟩) n c] xs) : ∃ blk, M[l]? = some blk ∧ blk.w = t.w ∧ n = xs.length := by
  rcases h with ⟨h, _⟩ | ⟨l', o', c', blk, css, e, h2, h3, h4, h5, h6, h7⟩
  · simp at h
  · simp only [List.cons.injEq, Value.slice.injEq, Option.some.injEq, Addr.mk.injEq, and_true, true_and] at e
    obtain ⟨⟨rfl, rfl⟩, rfl, rfl⟩ := e
    exact ⟨blk, h2, h4, rfl⟩
def CbI (M : Mem) (v : V) (xs : List ty_Block.D) (X : Mem) : Prop := ∃ L, M <+: X ∧ Gr (.sl ty_Block) X [v] xs L ∧ L.Nodup ∧ ∀ l ∈ L, M.length ≤ l
theorem wf_mk {z : Int} (h1 : -9223372036854775808 ≤ z) (h2 : z ≤ 9223372036854775807) : (Lit.int .i64 z).wf = true := by
  show (decide (_ ≤ z) && decide (z ≤ _)) = true
  simp only [Bool.and_eq_true, decide_eq_true_eq]
  exact ⟨h1, h2⟩
def rfS : V → List Nat
  | .slice (some a) _ _ => [a.block]
  | _ => []
theorem rfp_slc2 (fr : List V) (w : Nat) (x : Opd) (lo hi : Option Opd) : rfp fr (.slc w x lo hi) = rfS (ev fr x) := by
  unfold rfp rfS
  rfl
theorem rfS_some (l o n c : Nat) : rfS (.slice (some ⟨l, o, none⟩) n c) = [l] := rfl
theorem nbF_one (w : Nat) (ys : List UInt8) : ∀ (k j i : Nat), j ≤ i → i < nbF w ys k j → ys.getD (i * (w + 3)) 0 = 1
  | 0, j, i, h1, h2 => by simp [nbF] at h2; omega
  | k + 1, j, i, h1, h2 => by
    unfold nbF at h2
    split at h2
    · rename_i h
      by_cases e : i = j
      · subst e; exact h
      · exact nbF_one w ys k (j + 1) i (by omega) h2
    · omega
theorem ndP_succ (w : Nat) (ys : List UInt8) (k : Nat) : ndP w ys (k + 1) = ndP w ys k ++ [blkAt w ys k] := by
  unfold ndP
  rw [List.range_succ, List.map_append]
  rfl
theorem byte_at {M : Mem} {l o n c : Nat} {ys : List UInt8} (h : Rep (.sl ty_Byte) M [.slice (some ⟨l, o, none⟩) n c] ys) {i : Nat} (hi : i < ys.length) : rd1 M l (o + i) = some (.int .u8 ((ys.getD i 0).toNat : Int)) := by
  obtain ⟨l', o', e, _, hr⟩ := at_Byte h hi
  cases e
  have : ys.getD i 0 = ys[i] := by rw [List.getD_eq_getElem?_getD, List.getElem?_eq_getElem hi]; rfl
  rw [hr, this]
  rfl
theorem rep_sub {M : Mem} {b o n c : Nat} {ys : List UInt8} (h : Rep (.sl ty_Byte) M [.slice (some ⟨b, o, none⟩) n c] ys) (l k : Nat) (hk : l + k ≤ ys.length) (c2 : Nat) : Rep (.sl ty_Byte) M [.slice (some ⟨b, o + l, none⟩) k c2] ((ys.drop l).take k) := by
  rcases h with ⟨e, rfl⟩ | ⟨l', o', c', blk, css, e, h2, h3, h4, h5, h6, h7⟩
  · simp at e
  · simp only [List.cons.injEq, Value.slice.injEq, Option.some.injEq, Addr.mk.injEq, and_true] at e
    obtain ⟨⟨rfl, rfl⟩, rfl, rfl⟩ := e
    have he : css = ys.map enc_Byte := by
      apply List.ext_getElem (by simp [h5])
      intro i p q
      have hx : i < ys.length := by omega
      have := h6 i css[i] ys[i] (List.getElem?_eq_getElem p) (List.getElem?_eq_getElem hx)
      rw [List.getElem_map]
      exact this
    rw [he, flat_Byte] at h7
    refine .inr ⟨b, o + l, c2, blk, ((ys.drop l).take k).map enc_Byte, ?_, h2, ?_, h4, ?_, ?_, ?_⟩
    · have : ((ys.drop l).take k).length = k := by rw [List.length_take, List.length_drop]; omega
      rw [this]
    · rcases h3 with h3 | h3 | h3
      · exact .inl h3
      · exact .inr (.inl h3)
      · exact .inr (.inr (by subst h3; simp))
    · rw [List.length_map]
    · intro i ds x hd hx
      rw [List.getElem?_map, hx] at hd
      cases hd
      rfl
    · rw [flat_Byte, List.map_take, List.map_drop, ← List.drop_drop]
      obtain ⟨t, ht⟩ := h7
      rw [← ht, List.drop_append]
      exact (List.take_prefix _ _).trans (List.prefix_append _ _)
set_option maxHeartbeats 2000000 in
theorem l_impl_nodeRead_0 (M : Mem) (a : Option Addr) (c : Nat) (ys : List UInt8) (w : Nat) (lg : V) (h : Rep (.sl ty_Byte) M [.slice a ys.length c] ys) (hw : w ≤ 200) (hw1 : 1 ≤ w) (hl : ys.length = 4 * (w + 3)) (v : V) (Z : Mem) (hZ : CbI M v [] Z) :
    ∃ v' X', CbI M v' (ndB w ys) X' ∧ lp (aCall T0) K_impl_nodeRead_0 L_impl_nodeRead_0 [.slice a ys.length c, lg, .int .i64 (w : Int), und, und, und, und, und, v, .int .i64 ((0 * (w + 3) : Nat) : Int), und, und, und, und, und, und, und, und, und, und, und, und, und, und, und, und, und, und, und, und, und, und, und, und, und, und, und, und, und, und, und, und, und, und, und, und, und, und, und, und, und, und, und, und, und, und, und, und, und, und, und, und, und, und, und, und, und, und, und, und, und, und, und, und, und, und, und, und, und, und] Z = lp (aCall T0) K_impl_nodeRead_0 L_impl_nodeRead_0 [.slice a ys.length c, lg, .int .i64 (w : Int), und, und, und, und, und, v', .int .i64 ((nbC w ys * (w + 3) : Nat) : Int), und, und, und, und, und, und, und, und, und, und, und, und, und, und, und, und, und, und, und, und, und, und, und, und, und, und, und, und, und, und, und, und, und, und, und, und, und, und, und, und, und, und, und, und, und, und, und, und, und, und, und, und, und, und, und, und, und, und, und, und, und, und, und, und, und, und, und, und, und, und] X' := by
  refine loop_to (call := aCall T0) (K := K_impl_nodeRead_0) (L := L_impl_nodeRead_0) (fun i v X => CbI M v (ndP w ys i) X) (fun i v => [.slice a ys.length c, lg, .int .i64 (w : Int), und, und, und, und, und, v, .int .i64 ((i * (w + 3) : Nat) : Int), und, und, und, und, und, und, und, und, und, und, und, und, und, und, und, und, und, und, und, und, und, und, und, und, und, und, und, und, und, und, und, und, und, und, und, und, und, und, und, und, und, und, und, und, und, und, und, und, und, und, und, und, und, und, und, und, und, und, und, und, und, und, und, und, und, und, und, und, und, und]) (n := nbC w ys) ?_ 0 v Z (by omega) (by simpa [ndP] using hZ)
  intro i v X hi ⟨L, pX, g0, nd, ge0⟩
  have hi4 := nbC_le w ys
  have hone := nbF_one w ys 4 0 i (by omega) hi
  have hbnd : i * (w + 3) + (w + 3) ≤ 4 * (w + 3) := by rw [← Nat.succ_mul]; exact Nat.mul_le_mul_right _ (by omega)
  rw [ndP_succ]
  have hlen := ndP_len w ys i
  generalize ndP w ys i = xs at g0 hlen ⊢
  obtain ⟨l, o, rfl, _, _⟩ := at_Byte h (i := 0) (by omega)
  have hlM : l < M.length := by obtain ⟨blk, hbk, _⟩ := rep_blk h; exact get_lt hbk
  have b0 := r1_pre pX (byte_at h (i := i * (w + 3)) (by omega))
  have b1 := r1_pre pX (byte_at h (i := i * (w + 3) + 1) (by omega))
  have b2 := r1_pre pX (byte_at h (i := i * (w + 3) + 2) (by omega))
  rw [hone] at b0
  have hnxt : (i + 1) * (w + 3) = i * (w + 3) + (w + 3) := Nat.succ_mul _ _
  have hsub := rep_sub (h.mono pX) (i * (w + 3) + 3) w (by omega)
  have hbd : blkAt w ys i = (((ys.getD (i * (w + 3) + 1) 0).toNat : Int), ((ys.getD (i * (w + 3) + 2) 0).toNat : Int), (ys.drop (i * (w + 3) + 3)).take w) := rfl
  have hdl : List.length (α := UInt8) ((ys.drop (i * (w + 3) + 3)).take w) = w := by rw [List.length_take, List.length_drop]; omega
  have n1 : (ys.getD (i * (w + 3) + 1) 0).toNat < 256 := UInt8.toNat_lt _
  have n2 : (ys.getD (i * (w + 3) + 2) 0).toNat < 256 := UInt8.toNat_lt _
  rw [hbd]
  generalize (ys.drop (i * (w + 3) + 3)).take w = dat at *
  generalize (ys.getD (i * (w + 3) + 1) 0).toNat = q1 at *
  generalize (ys.getD (i * (w + 3) + 2) 0).toNat = q2 at *
  generalize hat : i * (w + 3) = at0 at *
  have e1 : IntKind.i64.wrap ((at0 : Int) + 1) = (at0 : Int) + 1 := wrap_i64 (by omega) (by omega)
  have e2 : IntKind.i64.wrap ((at0 : Int) + 2) = (at0 : Int) + 2 := wrap_i64 (by omega) (by omega)
  have e3 : IntKind.i64.wrap ((at0 : Int) + 3) = (at0 : Int) + 3 := wrap_i64 (by omega) (by omega)
  have e4 : IntKind.i64.wrap ((at0 : Int) + 3 + (w : Int)) = (at0 : Int) + 3 + (w : Int) := wrap_i64 (by omega) (by omega)
  have e5 : IntKind.i64.wrap ((w : Int) + 3) = (w : Int) + 3 := wrap_i64 (by omega) (by omega)
  have e6 : IntKind.i64.wrap ((at0 : Int) + ((w : Int) + 3)) = (at0 : Int) + ((w : Int) + 3) := wrap_i64 (by omega) (by omega)
  have d1 : (0 : Int) ≤ (at0 : Int) + 1 ∧ (at0 : Int) + 1 < (ys.length : Int) := by omega
  have d2 : (0 : Int) ≤ (at0 : Int) + 2 ∧ (at0 : Int) + 2 < (ys.length : Int) := by omega
  have d3 : (0 : Int) ≤ (at0 : Int) + 3 ∧ (at0 : Int) + 3 ≤ (at0 : Int) + 3 + (w : Int) ∧ ((at0 : Int) + 3 + (w : Int) ≤ (ys.length : Int) ∨ (at0 : Int) + 3 + (w : Int) ≤ (c : Int)) := by omega
  have d5 : ((at0 : Int) + 2).toNat = at0 + 2 := by omega
  have d6 : ((at0 : Int) + 3).toNat = at0 + 3 := by omega
  have d7 : ((at0 : Int) + 1).toNat = at0 + 1 := by omega
  have d4 : ((at0 : Int) + 3 + (w : Int) - ((at0 : Int) + 3)).toNat = w := by omega
  have c1 : IntKind.i64.wrap (q1 : Int) = q1 := wrap_i64 (by omega) (by omega)
  have c2 : IntKind.i64.wrap (q2 : Int) = q2 := wrap_i64 (by omega) (by omega)
  have g1 : at0 < ys.length := by omega
  have g2 : at0 + 1 < ys.length := by omega
  have g3 : at0 + 2 < ys.length := by omega
  have g4 : at0 + 3 + w ≤ ys.length := by omega
  obtain ⟨blk, hbk, hbw⟩ := rep_blk h
  have hbX := get_pre pX hbk
  obtain ⟨av, rfl⟩ := g0.shape
  have hwL : ∀ b ∈ wfs (.slice av xs.length xs.length), M.length ≤ b := by
    obtain ⟨_, _, hw⟩ := g0.gr (K := 0) (by simp)
    exact fun b hb => ge0 b (hw b hb)
  have hbw1 : blk.w = 1 := hbw.1
  have s1 := clone_sl (M := X) T_bytes_Clone (t := .u8) fl_Byte rfl (hsub (max ys.length c - (at0 + 3))) (by omega) (by omega)
  have hh2 : ∀ zs : List Nat, (∀ y ∈ zs, y = l) → hits (wfs (.slice av xs.length xs.length)) zs = false := fun zs hy => hits_ge (K := M.length) hwL (fun y h => by rw [hy y h]; exact hlM)
  have t3 := hh2 [l, l, l] (by simp)
  rw [S_impl_nodeRead_0]; unfold B_impl_nodeRead_0; simp [thenD_pp, sliceCells_sl, sliceCells_z, sliceCells_nil, take_full, appS_sl, appK_ok, appS_none, thenD_ag, agP_nil, agP_cons, b0, b1, b2, g1, d1, d2, d3, d4, d5, d6, d7, e1, e2, e3, e4, c1, c2, hbX, hbw1, rfp_slc2, rfS_some]
  generalize hx : aCall T0 F_bytes_Clone _ _ = xhx
  obtain ⟨v1, X3, rfl, K2, p3, gb, ndb, geb⟩ := of_call hx s1
  clear hx
  simp only at p3 gb geb
  obtain ⟨a7, rfl⟩ := gb.shape
  simp [thenD_pp, sliceCells_sl, sliceCells_z, sliceCells_nil, take_full, appS_sl, appK_ok, appS_none, thenD_ag, agP_nil, agP_cons, thenD_pre, p3, zeroCells]
  generalize hy : appS _ _ _ _ _ _ = xhy
  have hdl2 : List.length (α := UInt8) dat = w := hdl
  have w0 : (Lit.int .i64 (q1 : Int)).wf = true := wf_mk (by omega) (by omega)
  have w1 : (Lit.int .i64 (q2 : Int)).wf = true := wf_mk (by omega) (by omega)
  obtain ⟨l4, X4, L', rfl, g4, ag2, len2, hw4, nd4, sub4, hl4⟩ := g0.app (t := ty_Block) hy (p3.trans (List.prefix_append _ _)) (gr_Block (x := ((q1 : Int), (q2 : Int), dat)) w0 w1 (gb.grow (List.prefix_append _ _))) (fun j hj => geb j hj) nd ndb (by rw [hlen]; omega) (by rw [hlen]; omega)
  clear hy
  have pX4 : M <+: X4 := ag2.pre (pf_app (pX.trans p3)) hwL
  simp [thenD_pp, sliceCells_sl, sliceCells_z, sliceCells_nil, take_full, appS_sl, appK_ok, appS_none, thenD_ag, agP_nil, agP_cons, thenD_agree, ag2, t3, e5, e6]
  have hfin : ((i : Int) + 1) * ((w : Int) + 3) = (at0 : Int) + ((w : Int) + 3) := by
    have e9 : ((i * (w + 3) : Nat) : Int) = (i : Int) * ((w : Int) + 3) := by rw [Int.natCast_mul]; rfl
    rw [Int.add_mul, Int.one_mul, ← e9, hat]
  refine ⟨_, _, ⟨L', pX4, g4, nd4, fun j hj => ?_⟩, ?_⟩
  · have hx3 := p3.length_le
    have hpl := pX.length_le
    rcases sub4 j hj with h | h | h
    · exact ge0 j h
    · have := geb j h; omega
    · simp at hl4; omega
  · rw [hfin]
def NrV (M : Mem) (ok : Bool) (bs : List ty_Block.D) (p : V × Mem) : Prop := ∃ r L, p.1 = .tuple #[r, .bool ok] ∧ M <+: p.2 ∧ Gr (.sl ty_Block) p.2 [r] bs L ∧ L.Nodup ∧ ∀ j ∈ L, M.length ≤ j
theorem nbF_not (w : Nat) (ys : List UInt8) : ∀ (k j : Nat), nbF w ys k j < j + k → ¬ ys.getD (nbF w ys k j * (w + 3)) 0 = 1
  | 0, j, h => by simp [nbF] at h
  | k + 1, j, h => by
    unfold nbF at h ⊢
    split
    · rename_i h1
      rw [if_pos h1] at h
      exact nbF_not w ys k (j + 1) (by omega)
    · rename_i h1
      exact h1
theorem exit_byte {M : Mem} {l o c : Nat} {ys : List UInt8} {w : Nat} (h : Rep (.sl ty_Byte) M [.slice (some ⟨l, o, none⟩) ys.length c] ys) (hl : ys.length = 4 * (w + 3)) :
    nbC w ys * (w + 3) = ys.length ∨ (nbC w ys * (w + 3) < ys.length ∧ ∃ b : Nat, rd1 M l (o + nbC w ys * (w + 3)) = some (.int .u8 (b : Int)) ∧ ¬ (b : Int) = 1) := by
  by_cases h4 : nbC w ys = 4
  · left; rw [h4, hl]
  · right
    have hle := nbC_le w ys
    have hlt : nbC w ys * (w + 3) + (w + 3) ≤ 4 * (w + 3) := by rw [← Nat.succ_mul]; exact Nat.mul_le_mul_right _ (by omega)
    refine ⟨by omega, (ys.getD (nbC w ys * (w + 3)) 0).toNat, byte_at h (by omega), ?_⟩
    have hn := nbF_not w ys 4 0 (by show nbC w ys < 0 + 4; omega)
    intro e
    refine hn ?_
    show ys.getD (nbC w ys * (w + 3)) 0 = 1
    have e2 : (ys.getD (nbC w ys * (w + 3)) 0).toNat = 1 := by omega
    exact UInt8.toNat_inj.1 e2
theorem toBytes_map : ∀ ys : List UInt8, toBytes (ys.map byteV) = some ys
  | [] => rfl
  | y :: ys => by
    simp [toBytes, byteV, toBytes_map ys]
theorem c_bytes_Equal (M : Mem) (u v : V) (xs ys : List UInt8) (h : Rep (.sl ty_Byte) M [u] xs) (h2 : Rep (.sl ty_Byte) M [v] ys) : aCall T0 F_bytes_Equal [u, v] M = some (.bool (decide (xs = ys)), M) := by
  obtain ⟨a, c, rfl, s1⟩ := cells_Byte h
  obtain ⟨b, d, rfl, s2⟩ := cells_Byte h2
  rw [aCall_eq T_bytes_Equal]; unfold A_bytes_Equal C_bytes_Equal; simp [s1, s2, toBytes_map]
theorem bg_rep {M0 X : Mem} {v : V} {ys : List UInt8} (h : BG M0 X v ys) : ∃ L, M0 <+: X ∧ Own (.sl ty_Byte) X [v] ys L ∧ Fresh M0 X L := by
  obtain ⟨n, rfl, hp, hg⟩ := h
  rcases hg.2 with ⟨rfl, h0⟩ | ⟨l, hl, rfl, hb⟩
  · have : ys = [] := List.length_eq_zero_iff.1 h0
    subst this
    exact ⟨[], hp, .inl ⟨rfl, rfl, .inl ⟨rfl, rfl⟩⟩, by simp, by simp⟩
  · obtain ⟨L, o1, o2⟩ := own_blk (t := ty_Byte) (M := X) (l := l) (c := ys.length) (enc := enc_Byte) (ys := ys) (by rw [flat_Byte]; exact hb) (fun y _ => own_Byte _ y)
    refine ⟨L, hp, o1, nodup_flat ownf_Byte o1, fun j hj => ?_⟩
    rw [o2 j hj]
    exact ⟨hl, get_lt hb⟩
set_option maxHeartbeats 1000000 in
theorem c_impl_nodeRead (M : Mem) (v : V) (ys : List UInt8) (l w : Int) (h : Rep (.sl ty_Byte) M [v] ys) (hn : ys.length ≤ 1048576) : Sat (aCall T0 F_impl_nodeRead [v, .int .i64 l, .int .i64 w] M) (NrV M (ndOk l w ys) (ndX l w ys)) := by
  have e1 := fun M => c_impl_isLog M l
  have e2 := fun M => c_impl_within M w 1 200
  have hlg : (decide (0 ≤ l) && decide (l ≤ 6)) = lgB l := rfl
  have hwd : (decide (1 ≤ w) && decide (w ≤ 200)) = wdB w := rfl
  rw [hlg] at e1
  rw [hwd] at e2
  obtain ⟨a, c, rfl⟩ := h.slen
  have hnil : ∀ {X : Mem}, Gr (.sl ty_Block) X [.slice none 0 0] [] [] := Gr.nil
  cases h1 : lgB l with
  | false =>
    have hs : ndOk l w ys = false := by simp [ndOk, h1]
    have hx : ndX l w ys = [] := by simp [ndX, hs]
    rw [hs, hx]
    rw [h1] at e1
    rw [aCall_eq T_impl_nodeRead]; unfold A_impl_nodeRead C_impl_nodeRead; simp [thenD_pp, sliceCells_sl, sliceCells_z, sliceCells_nil, take_full, appS_sl, appK_ok, appS_none, thenD_ag, agP_nil, agP_cons, e1]
    exact ⟨(_, _), rfl, _, [], rfl, List.prefix_refl _, hnil, by simp, by simp⟩
  | true =>
    rw [h1] at e1
    cases h2 : wdB w with
    | false =>
      have hs : ndOk l w ys = false := by simp [ndOk, h2]
      have hx : ndX l w ys = [] := by simp [ndX, hs]
      rw [hs, hx]
      rw [h2] at e2
      rw [aCall_eq T_impl_nodeRead]; unfold A_impl_nodeRead C_impl_nodeRead; simp [thenD_pp, sliceCells_sl, sliceCells_z, sliceCells_nil, take_full, appS_sl, appK_ok, appS_none, thenD_ag, agP_nil, agP_cons, e1, e2]
      exact ⟨(_, _), rfl, _, [], rfl, List.prefix_refl _, hnil, by simp, by simp⟩
    | true =>
      rw [h2] at e2
      have hw : 1 ≤ w ∧ w ≤ 200 := by unfold wdB at h2; simpa using h2
      obtain ⟨W, rfl⟩ : ∃ W : Nat, w = (W : Int) := ⟨Int.toNat w, by omega⟩
      have hW : Int.toNat (W : Int) = W := by omega
      have w1 : IntKind.i64.wrap ((W : Int) + 3) = (W : Int) + 3 := wrap_i64 (by omega) (by omega)
      have w2 : IntKind.i64.wrap (4 * ((W : Int) + 3)) = 4 * ((W : Int) + 3) := wrap_i64 (by omega) (by omega)
      by_cases h3 : (ys.length : Int) = 4 * ((W : Int) + 3)
      · have h3n : ys.length = 4 * (W + 3) := by omega
        obtain ⟨m, rfl, hm⟩ := log_nat h1
        obtain ⟨v1, X1, ⟨L1, p1, g1, n1, k1⟩, e⟩ := l_impl_nodeRead_0 M a c ys W (.int .i64 (m : Int)) h (by omega) (by omega) h3n (.slice none 0 0) M ⟨[], List.prefix_refl _, Gr.nil, by simp, by simp⟩
        simp only [Nat.zero_mul, Int.natCast_zero, Int.ofNat_zero] at e
        have hblen := ndB_len W ys
        have e3 := c_impl_areBlocks X1 v1 _ m W g1.rep (by omega)
        obtain ⟨l0, o0, rfl, _, _⟩ := at_Byte h (i := 0) (by omega)
        have hex := exit_byte h h3n
        have hO : ndOk m W ys = (blocksB m W (ndB W ys) && decide (ndY W (ndB W ys) = ys)) := by
          unfold ndOk
          rw [h1, h2, hW]
          simp [h3]
        have hX : ndX m W ys = if ndOk m W ys = true then ndB W ys else [] := by unfold ndX; rw [hW]
        rw [hX, hO]
        have hNO := fun (hb : blocksB m W (ndB W ys) = true) => c_impl_nodeOf X1 v1 (ndB W ys) W g1.rep hblen (by omega) (bk_of hm hb)
        have hyl := fun (hb : blocksB m W (ndB W ys) = true) => ndB_len W ys
        generalize ndB W ys = bs at *
        generalize hat : nbC W ys * (W + 3) = at0 at *
        obtain ⟨a1, rfl⟩ := g1.shape
        have hcase : (((¬ (at0 : Int) < (ys.length : Int)) ∧ (¬ at0 < ys.length)) ∧ (¬ at0 < ys.length)) ∨ (at0 < ys.length ∧ ∃ b : Nat, rd1 X1 l0 (o0 + at0) = some (.int .u8 (b : Int)) ∧ ¬ (b : Int) = 1) := by
          rcases hex with hh | ⟨hh, b, q1, q2⟩
          · exact .inl ⟨⟨by omega, by omega⟩, by omega⟩
          · exact .inr ⟨hh, b, r1_pre p1 q1, q2⟩
        rcases hcase with ⟨⟨F1, F2⟩, F3⟩ | ⟨F1, b, F2, F3⟩
        all_goals
          cases hb : blocksB m W bs with
          | false =>
            rw [hb] at e3
            rw [Bool.false_and, if_neg (by simp)]
            rw [aCall_eq T_impl_nodeRead]; unfold A_impl_nodeRead C_impl_nodeRead; simp [thenD_pp, sliceCells_sl, sliceCells_z, sliceCells_nil, take_full, appS_sl, appK_ok, appS_none, thenD_ag, agP_nil, agP_cons, e1, e2, w1, w2, h3, e]
            rw [S_impl_nodeRead_0]; unfold B_impl_nodeRead_0; simp [thenD_pp, sliceCells_sl, sliceCells_z, sliceCells_nil, take_full, appS_sl, appK_ok, appS_none, thenD_ag, agP_nil, agP_cons, F1, F2, F3, e3]
            exact ⟨(_, X1), rfl, _, [], rfl, p1, hnil, by simp, by simp⟩
          | true =>
            rw [hb] at e3
            rw [Bool.true_and]
            rw [aCall_eq T_impl_nodeRead]; unfold A_impl_nodeRead C_impl_nodeRead; simp [thenD_pp, sliceCells_sl, sliceCells_z, sliceCells_nil, take_full, appS_sl, appK_ok, appS_none, thenD_ag, agP_nil, agP_cons, e1, e2, w1, w2, h3, e]
            rw [S_impl_nodeRead_0]; unfold B_impl_nodeRead_0; simp [thenD_pp, sliceCells_sl, sliceCells_z, sliceCells_nil, take_full, appS_sl, appK_ok, appS_none, thenD_ag, agP_nil, agP_cons, F1, F2, F3, e3]
            generalize hx : aCall T0 F_impl_nodeOf _ _ = xhx
            obtain ⟨v2, X2, rfl, g2⟩ := of_call hx (hNO hb)
            clear hx
            obtain ⟨L2, p2, o2, _⟩ := bg_rep g2
            have e5 := c_bytes_Equal X2 v2 _ _ ys o2.rep (h.mono (p1.trans p2))
            obtain ⟨_, _, rfl⟩ := o2.rep.slen
            by_cases hq : ndY W bs = ys
            · rw [decide_eq_true hq] at e5
              rw [decide_eq_true hq, if_pos hq]
              simp [thenD_pp, sliceCells_sl, sliceCells_z, sliceCells_nil, take_full, appS_sl, appK_ok, appS_none, thenD_ag, agP_nil, agP_cons, e5]
              exact ⟨(_, X2), rfl, _, L1, rfl, p1.trans p2, g1.grow p2, n1, k1⟩
            · rw [decide_eq_false hq] at e5
              rw [decide_eq_false hq, if_neg hq]
              simp [thenD_pp, sliceCells_sl, sliceCells_z, sliceCells_nil, take_full, appS_sl, appK_ok, appS_none, thenD_ag, agP_nil, agP_cons, e5]
              exact ⟨(_, X2), rfl, _, [], rfl, p1.trans p2, hnil, by simp, by simp⟩
      · have hs : ndOk l W ys = false := by simp [ndOk, h3]
        have hx : ndX l W ys = [] := by simp [ndX, hs]
        rw [hs, hx]
        rw [aCall_eq T_impl_nodeRead]; unfold A_impl_nodeRead C_impl_nodeRead; simp [thenD_pp, sliceCells_sl, sliceCells_z, sliceCells_nil, take_full, appS_sl, appK_ok, appS_none, thenD_ag, agP_nil, agP_cons, e1, e2, w1, w2, h3]
        exact ⟨(_, _), rfl, _, [], rfl, List.prefix_refl _, hnil, by simp, by simp⟩
abbrev FoB (p : Nat) (v : V) (nd0 : Nat) (a76 n77 i78 : V) (l2 n : Nat) (i : Nat) : List V := [und, .pointer (some ⟨p, 0, none⟩), und, und, v, .int .i64 nd0, und, und, und, und, und, und, und, und, und, und, und, und, und, und, und, und, und, und, und, und, und, und, und, und, und, und, und, und, und, und, und, und, und, und, und, und, und, und, und, und, und, und, und, und, und, und, und, und, und, und, und, und, und, und, und, und, und, und, und, und, und, und, und, und, und, und, und, und, und, und, a76, n77, i78, und, und, und, und, und, und, und, und, und, und, und, und, und, und, und, und, .slice (some ⟨l2, 0, none⟩) n n, .int .i64 n, .int .i64 i, und, und, und, und, und, und, und, und, und, und, und, und, und, und, und, und, und, und, und, und, und, und, und, und]
structure InI (M : Mem) (bs : List ty_Block.D) (l2 : Nat) (css : List (List V)) (Ls : List (List Nat)) (i : Nat) (all : List ty_Block.D) (v : V) (X : Mem) : Prop where
  pre : M <+: X
  gr : ∃ L, Gr (.sl ty_Block) X [v] all L ∧ L.Nodup ∧ (∀ j ∈ L, M.length ≤ j) ∧ (∀ j ∈ L, j ≠ l2 ∧ ∀ (k : Nat) (K : List Nat), i ≤ k → Ls[k]? = some K → j ∉ K)
  hb : X[l2]? = some ⟨css.flatten, 3, 2⟩
  el : ∀ (k : Nat) (ds : List V) (x : ty_Block.D) (K : List Nat), i ≤ k → css[k]? = some ds → bs[k]? = some x → Ls[k]? = some K → Gr ty_Block X ds x K ∧ (∀ j ∈ K, M.length ≤ j ∧ j ≠ l2)
  lt : IdLt all
  rg : IdsR all
end GoAm
