/- What the functions do that the law reaches; and the law. -/
import Derived.Test.YtdljidfkiopiiaaBookNewt
import Derived.Test.YtdljidfkiopiiaaAmArith
set_option autoImplicit false
set_option linter.unusedVariables false
set_option linter.unusedSimpArgs false
namespace GoAm
open Go
theorem c_impl_within (M : Mem) (x a b : Int) : aCall T0 F_impl_within [.int .i64 x, .int .i64 a, .int .i64 b] M = some (.bool (decide (a ≤ x) && decide (x ≤ b)), M) := by
  rw [aCall_eq T_impl_within]; unfold A_impl_within C_impl_within; simp
  repeat' ((first | rw [selO_some] | rw [condR_bool] | rw [selD_some]); split <;> rename_i hq <;> (have hq2 := hq) <;> (try simp at hq2) <;> (try simp [*]))
theorem c_impl_isDeepLog (M : Mem) (x : Int) : aCall T0 F_impl_isDeepLog [.int .i64 x] M = some (.bool (decide (2 ≤ x) && decide (x ≤ 6)), M) := by
  rw [aCall_eq T_impl_isDeepLog]; unfold A_impl_isDeepLog C_impl_isDeepLog; simp [c_impl_within]
theorem c_spec_l16Log (M : Mem) (x : Int) : aCall T0 F_spec_l16Log [.int .i64 x] M = some (.bool (decide (2 ≤ x) && decide (x ≤ 6)), M) := by
  rw [aCall_eq T_spec_l16Log]; unfold A_spec_l16Log C_spec_l16Log; simp
  repeat' ((first | rw [selO_some] | rw [condR_bool] | rw [selD_some]); split <;> rename_i hq <;> (have hq2 := hq) <;> (try simp at hq2) <;> (try simp [*]))
def confOk (k l b c : Int) : Bool := (decide (0 ≤ k) && decide (k ≤ 4294967295)) && (decide (2 ≤ l) && decide (l ≤ 6)) && (decide (0 ≤ b) && decide (b ≤ 64)) && (decide (1 ≤ c) && decide (c ≤ 64))
theorem c_impl_isConf (M : Mem) (k l b c : Int) : aCall T0 F_impl_isConf [.agg #[.int .i64 k, .int .i64 l, .int .i64 b, .int .i64 c]] M = some (.bool (confOk k l b c), M) := by
  unfold confOk
  rw [aCall_eq T_impl_isConf]; unfold A_impl_isConf C_impl_isConf; simp [c_impl_within, c_impl_isDeepLog]
  repeat' ((first | rw [selO_some] | rw [condR_bool] | rw [selD_some]); split <;> rename_i hq <;> (have hq2 := hq) <;> (try simp at hq2) <;> (try simp [*, c_impl_within, c_impl_isDeepLog]))
theorem c_spec_ConfOk (M : Mem) (k l b c : Int) : aCall T0 F_spec_ConfOk [.agg #[.int .i64 k, .int .i64 l, .int .i64 b, .int .i64 c]] M = some (.bool (confOk k l b c), M) := by
  unfold confOk
  rw [aCall_eq T_spec_ConfOk]; unfold A_spec_ConfOk C_spec_ConfOk; simp [c_spec_l16Log]
  repeat' ((first | rw [selO_some] | rw [condR_bool] | rw [selD_some]); split <;> rename_i hq <;> (have hq2 := hq) <;> (try simp at hq2) <;> (try simp [*, c_spec_l16Log]))
theorem c_laws_toConf (M : Mem) (k l b c : Int) : aCall T0 F_laws_toConf [.agg #[.int .i64 k, .int .i64 l, .int .i64 b, .int .i64 c]] M = some (.agg #[.int .i64 k, .int .i64 l, .int .i64 b, .int .i64 c], M) := by
  rw [aCall_eq T_laws_toConf]; unfold A_laws_toConf C_laws_toConf; simp
abbrev confCs (k l b c : Int) : List V := [.int .i64 k, .int .i64 l, .int .i64 b, .int .i64 c]
abbrev nilV : V := .slice none 0 0
abbrev bookCs (k l b c : Int) (it : V) : List V := [.int .i64 k, .int .i64 l, .int .i64 b, .int .i64 c, it]
def ConfIs (k l b c k' l' b' c' : Int) : Prop := (confOk k l b c = true ∧ k' = k ∧ l' = l ∧ b' = b ∧ c' = c) ∨ (confOk k l b c = false ∧ k' = 0 ∧ l' = 0 ∧ b' = 0 ∧ c' = 0)
theorem c_impl_BookNew (M : Mem) (k l b c k' l' b' c' : Int) (h : ConfIs k l b c k' l' b' c') : aCall T0 F_impl_BookNew [.agg (confCs k l b c).toArray] M = some (.agg (bookCs k' l' b' c' nilV).toArray, M ++ [⟨confCs k l b c, 1, 2⟩, ⟨bookCs k' l' b' c' nilV, 1, 2⟩]) := by
  have e := fun M => c_impl_isConf M k l b c
  rcases h with ⟨hb, rfl, rfl, rfl, rfl⟩ | ⟨hb, rfl, rfl, rfl, rfl⟩
  · rw [aCall_eq T_impl_BookNew]; unfold A_impl_BookNew C_impl_BookNew; simp [e, hb]
  · rw [aCall_eq T_impl_BookNew]; unfold A_impl_BookNew C_impl_BookNew; simp [e, hb]
theorem c_spec_BookNew (M : Mem) (k l b c k' l' b' c' : Int) (h : ConfIs k l b c k' l' b' c') : aCall T0 F_spec_BookNew [.agg (confCs k l b c).toArray] M = some (.agg (bookCs k' l' b' c' nilV).toArray, M ++ [⟨confCs k l b c, 1, 2⟩, ⟨bookCs k' l' b' c' nilV, 1, 2⟩]) := by
  have e := fun M => c_spec_ConfOk M k l b c
  rcases h with ⟨hb, rfl, rfl, rfl, rfl⟩ | ⟨hb, rfl, rfl, rfl, rfl⟩
  · rw [aCall_eq T_spec_BookNew]; unfold A_spec_BookNew C_spec_BookNew; simp [e, hb]
  · rw [aCall_eq T_spec_BookNew]; unfold A_spec_BookNew C_spec_BookNew; simp [e, hb]
theorem n_laws_eqEntryS (M : Mem) : aCall T0 F_laws_eqEntryS [nilV, nilV] M = some (.bool true, M) := by
  rw [aCall_eq T_laws_eqEntryS]; unfold A_laws_eqEntryS C_laws_eqEntryS; simp
  rw [S_laws_eqEntryS_0]; unfold B_laws_eqEntryS_0; simp
theorem n_laws_markEntryS (M : Mem) (k : Int) : aCall T0 F_laws_markEntryS [nilV, .int .i64 k] M = some (.int .i64 k, M) := by
  rw [aCall_eq T_laws_markEntryS]; unfold A_laws_markEntryS C_laws_markEntryS; simp
  rw [S_laws_markEntryS_0]; unfold B_laws_markEntryS_0; simp
theorem n_laws_heldEntryS (M : Mem) (k : Int) : aCall T0 F_laws_heldEntryS [nilV, .int .i64 k] M = some (.int .i64 k, M) := by
  rw [aCall_eq T_laws_heldEntryS]; unfold A_laws_heldEntryS C_laws_heldEntryS; simp
  rw [S_laws_heldEntryS_0]; unfold B_laws_heldEntryS_0; simp
theorem c_laws_eqConf (M : Mem) (k l b c : Int) : aCall T0 F_laws_eqConf [.agg (confCs k l b c).toArray, .agg (confCs k l b c).toArray] M = some (.bool true, M) := by
  rw [aCall_eq T_laws_eqConf]; unfold A_laws_eqConf C_laws_eqConf; simp
theorem n_laws_eqBook (M : Mem) (k l b c : Int) : aCall T0 F_laws_eqBook [.agg (bookCs k l b c nilV).toArray, .agg (bookCs k l b c nilV).toArray] M = some (.bool true, M) := by
  have e := fun M => c_laws_eqConf M k l b c
  rw [aCall_eq T_laws_eqBook]; unfold A_laws_eqBook C_laws_eqBook; simp [e, n_laws_eqEntryS]
theorem n_laws_markBook (M : Mem) (k l b c : Int) (n : Int) : aCall T0 F_laws_markBook [.agg (bookCs k l b c nilV).toArray, .int .i64 n] M = some (.int .i64 n, M) := by
  rw [aCall_eq T_laws_markBook]; unfold A_laws_markBook C_laws_markBook; simp [n_laws_markEntryS]
theorem n_laws_heldBook (M : Mem) (k l b c : Int) (n : Int) (hn : ¬ n < 0) : aCall T0 F_laws_heldBook [.agg (bookCs k l b c nilV).toArray, .int .i64 n] M = some (.int .i64 n, M) := by
  rw [aCall_eq T_laws_heldBook]; unfold A_laws_heldBook C_laws_heldBook; simp [n_laws_heldEntryS, hn]
theorem c_laws_FnExactBookNew (M : Mem) (k l b c : Int) : ∃ M', aCall T0 F_laws_FnExactBookNew [.agg (confCs k l b c).toArray] M = some (.bool true, M') := by
  obtain ⟨k', l', b', c', he⟩ : ∃ k' l' b' c', ConfIs k l b c k' l' b' c' := by
    cases hb : confOk k l b c with
    | true => exact ⟨k, l, b, c, .inl ⟨hb, rfl, rfl, rfl, rfl⟩⟩
    | false => exact ⟨0, 0, 0, 0, .inr ⟨hb, rfl, rfl, rfl, rfl⟩⟩
  have e1 := fun M => c_impl_BookNew M k l b c k' l' b' c' he
  have e2 := fun M => c_spec_BookNew M k l b c k' l' b' c' he
  have e3 := fun M => c_laws_toConf M k l b c
  have e4 := fun M => n_laws_eqBook M k' l' b' c'
  have e5 := fun M => n_laws_markBook M k' l' b' c' 1
  have e6 := fun M => n_laws_heldBook M k' l' b' c' 1 (by omega)
  refine ⟨M, ?_⟩
  rw [aCall_eq T_laws_FnExactBookNew]; unfold A_laws_FnExactBookNew C_laws_FnExactBookNew; simp [e1, e2, e3, e4, e5, e6]
theorem law_laws_FnExactBookNew (M : Mem) (avs : List V) (_ : ∀ b ∈ M, b.st ≠ 2) (h : Ins [(true, (.pr (.int .i64) (.pr (.int .i64) (.pr (.int .i64) (.int .i64)))))] M avs) : ∃ M', aCall T0 F_laws_FnExactBookNew avs M = some (.bool true, M') := by
  obtain ⟨v, vs, x, rfl, h1, f1, h⟩ := ins_cons h
  obtain rfl := ins_nil h
  obtain ⟨cs, rfl, r1⟩ := repv_agg h1
  obtain ⟨c1, c2, rfl, ⟨rfl, _⟩, c3, c4, rfl, ⟨rfl, _⟩, c5, c6, rfl, ⟨rfl, _⟩, ⟨rfl, _⟩⟩ := r1
  exact c_laws_FnExactBookNew M _ _ _ _
end GoAm
