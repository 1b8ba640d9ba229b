/- A region whose order is open: where what may come in either order does not meddle with one another, the text's order tells all. -/
import Derived.Test.YtambjdldjgehkaaAmCode
import Derived.Test.YtambjdldjgehkaaAmEq
import Derived.Orders
set_option autoImplicit false
set_option linter.unusedSimpArgs false
set_option linter.unusedVariables false
namespace GoAm
open Go Go.RowKit

def rdO : Opd → List Nat
  | .t n => [n]
  | .c _ => []
def rdOs (xs : List Opd) : List Nat := xs.flatMap rdO
def rdOO : Option Opd → List Nat
  | some x => rdO x
  | none => []
def rdP (ps : List (Nat × Nat × Opd)) : List Nat := ps.flatMap fun p => rdO p.2.2

/-- The temporaries that an operation reads. -/
def reads : AOp → List Nat
  | .mv x | .box x | .load1 x | .loadn _ x | .eqnil _ x | .not x | .neg x | .bnot x | .conv _ x | .bts x | .stb x | .make _ _ _ x | .slc0 _ x | .fa _ x | .fld1 _ x | .fldn _ _ x
  | .ext x _ | .len x | .slen x | .clr _ _ x | .chk x => rdO x
  | .pick a b c => rdO a ++ rdO b ++ rdO c
  | .new _ => []
  | .build _ ps | .mkl _ _ _ ps => rdP ps
  | .store _ x y | .bin _ x y | .beq _ x y | .eqs _ _ x y | .ia _ x y | .ix x y | .app _ _ x y | .apps x y | .copy _ x y | .copys x y => rdO x ++ rdO y
  | .fn _ xs | .call _ xs => rdOs xs
  | .slc _ x lo hi | .sls x lo hi => rdO x ++ rdOO lo ++ rdOO hi
  | .mins x xs | .maxs x xs | .callv x xs => rdO x ++ rdOs xs

section
variable {call : CallT}

theorem ev_congr {fr fr' : List V} {x : Opd} (h : ∀ t ∈ rdO x, fr[t]? = fr'[t]?) : ev fr x = ev fr' x := by
  cases x with
  | t n => simp only [ev, List.getD_eq_getElem?_getD, h n (by simp [rdO])]
  | c v => rfl

theorem evs_congr {fr fr' : List V} {xs : List Opd} (h : ∀ t ∈ rdOs xs, fr[t]? = fr'[t]?) : xs.map (ev fr) = xs.map (ev fr') :=
  List.map_congr_left fun x hx => ev_congr fun t ht => h t (List.mem_flatMap.2 ⟨x, hx, ht⟩)

theorem parts_congr {fr fr' : List V} {ps : List (Nat × Nat × Opd)} (h : ∀ t ∈ rdP ps, fr[t]? = fr'[t]?) : parts fr ps = parts fr' ps := by
  unfold parts
  refine List.map_congr_left fun p hp => ?_
  rw [ev_congr (fr := fr) (fr' := fr') (x := p.2.2) fun t ht => h t (List.mem_flatMap.2 ⟨p, hp, ht⟩)]

theorem bound_congr {fr fr' : List V} {d : Int} {x : Option Opd} (h : ∀ t ∈ rdOO x, fr[t]? = fr'[t]?) : bound fr d x = bound fr' d x := by
  cases x with
  | none => rfl
  | some x => simp only [bound, ev_congr (fr := fr) (fr' := fr') (x := x) h]

theorem step_congr {fr fr' : List V} {M : Mem} {op : AOp} (h : ∀ t ∈ reads op, fr[t]? = fr'[t]?) : stepOp call fr M op = stepOp call fr' M op := by
  cases op <;> simp only [reads, List.mem_append] at h
  case new => rfl
  case pick a b c => simp only [stepOp, ev_congr (x := a) fun t ht => h t (.inl (.inl ht)), ev_congr (x := b) fun t ht => h t (.inl (.inr ht)), ev_congr (x := c) fun t ht => h t (.inr ht)]
  case build z ps => simp only [stepOp, parts_congr h]
  case mkl w n z ps => simp only [stepOp, parts_congr h]
  case fn f xs => simp only [stepOp, evs_congr h]
  case call f xs => simp only [stepOp, evs_congr h]
  case slc w x lo hi => simp only [stepOp, ev_congr (x := x) fun t ht => h t (.inl (.inl ht)), bound_congr (x := lo) fun t ht => h t (.inl (.inr ht)), bound_congr (x := hi) fun t ht => h t (.inr ht)]
  case sls x lo hi => simp only [stepOp, ev_congr (x := x) fun t ht => h t (.inl (.inl ht)), bound_congr (x := lo) fun t ht => h t (.inl (.inr ht)), bound_congr (x := hi) fun t ht => h t (.inr ht)]
  case mins x xs => simp only [stepOp, ev_congr (x := x) fun t ht => h t (.inl ht), evs_congr (xs := xs) fun t ht => h t (.inr ht)]
  case maxs x xs => simp only [stepOp, ev_congr (x := x) fun t ht => h t (.inl ht), evs_congr (xs := xs) fun t ht => h t (.inr ht)]
  case callv x xs => simp only [stepOp, ev_congr (x := x) fun t ht => h t (.inl ht), evs_congr (xs := xs) fun t ht => h t (.inr ht)]
  case store n x y => simp only [stepOp, ev_congr (x := x) fun t ht => h t (.inl ht), ev_congr (x := y) fun t ht => h t (.inr ht)]
  case bin n x y => simp only [stepOp, ev_congr (x := x) fun t ht => h t (.inl ht), ev_congr (x := y) fun t ht => h t (.inr ht)]
  case beq n x y => simp only [stepOp, ev_congr (x := x) fun t ht => h t (.inl ht), ev_congr (x := y) fun t ht => h t (.inr ht)]
  case eqs n k x y => simp only [stepOp, ev_congr (x := x) fun t ht => h t (.inl ht), ev_congr (x := y) fun t ht => h t (.inr ht)]
  case ia n x y => simp only [stepOp, ev_congr (x := x) fun t ht => h t (.inl ht), ev_congr (x := y) fun t ht => h t (.inr ht)]
  case ix x y => simp only [stepOp, ev_congr (x := x) fun t ht => h t (.inl ht), ev_congr (x := y) fun t ht => h t (.inr ht)]
  case app w b x y => simp only [stepOp, ev_congr (x := x) fun t ht => h t (.inl ht), ev_congr (x := y) fun t ht => h t (.inr ht)]
  case apps x y => simp only [stepOp, ev_congr (x := x) fun t ht => h t (.inl ht), ev_congr (x := y) fun t ht => h t (.inr ht)]
  case copy w x y => simp only [stepOp, ev_congr (x := x) fun t ht => h t (.inl ht), ev_congr (x := y) fun t ht => h t (.inr ht)]
  case copys x y => simp only [stepOp, ev_congr (x := x) fun t ht => h t (.inl ht), ev_congr (x := y) fun t ht => h t (.inr ht)]
  all_goals simp only [stepOp, ev_congr h]

/-- What leaves memory alone does not ask for it, but for four kinds. -/
theorem pure_step {fr : List V} {op : AOp} (h1 : eff op = false) (h2 : mem op = false) : ∃ g : Option V, ∀ M, stepOp call fr M op = g.map (·, M) := by
  refine ⟨(stepOp call fr [] op).map (·.1), fun M => ?_⟩
  cases op <;> simp only [eff, mem, Bool.true_eq_false] at h1 h2
  all_goals simp only [stepOp, Option.map_map]
  all_goals (try rfl)
  all_goals (repeat' split) <;> first | rfl | (simp only [Option.map_map]; rfl) | simp_all

theorem pre_lt {α : Type} {a b : List α} (h : a <+: b) {i : Nat} (hi : i < a.length) : b[i]? = a[i]? := by
  obtain ⟨t, rfl⟩ := h
  rw [List.getElem?_append_left hi]

theorem noeff_M {fr : List V} {M M' : Mem} {op : AOp} {v : V} (h1 : eff op = false) (h : stepOp call fr M op = some (v, M')) : M' = M := by
  by_cases h2 : mem op = false
  · obtain ⟨g, hg⟩ := pure_step (call := call) (fr := fr) h1 h2
    rw [hg] at h
    simp only [Option.map_eq_some_iff, Prod.mk.injEq] at h
    obtain ⟨_, _, _, rfl⟩ := h; rfl
  · cases op <;> simp only [mem, not_true_eq_false] at h2
    all_goals simp only [stepOp] at h
    all_goals (repeat' split at h) <;> simp_all [Option.map_eq_some_iff]
    all_goals (obtain ⟨_, _, _, rfl⟩ := h; rfl)

theorem rd1_pre {M M2 : Mem} {l o : Nat} (h : M2[l]? = M[l]?) : rd1 M2 l o = rd1 M l o := by unfold rd1; rw [h]
theorem rdn_pre {M M2 : Mem} {l o n : Nat} (h : M2[l]? = M[l]?) : rdn M2 l o n = rdn M l o n := by unfold rdn; rw [h]

/-- The places that an operand leads to are in the memory. -/
def inMem (M : Mem) : V → Prop
  | .pointer (some a) => a.block < M.length
  | .slice (some a) _ _ => a.block < M.length
  | _ => True

theorem inMem_of {ρ : List PB} {M : Mem} (hl : ρ.length = M.length) {v c : V} (h : VR ρ v c) : inMem M v := by
  cases h <;> try trivial
  · rename_i p hp _; show _ < _; rw [← hl]; exact (List.getElem?_eq_some_iff.1 hp).1
  · rename_i p hp _; show _ < _; rw [← hl]; exact (List.getElem?_eq_some_iff.1 hp).1

theorem cells_pre {M M2 : Mem} {w : Nat} {x : V} (h : M <+: M2) (hi : inMem M x) : sliceCells M2 w x = sliceCells M w x := by
  unfold sliceCells
  split
  · rfl
  · rename_i l o n c
    rw [rdn_pre (pre_lt h hi)]
  · rfl

/-- What reads memory reads it through a temporary. -/
def isT : AOp → Bool
  | .load1 (.c _) | .loadn _ (.c _) | .bts (.c _) | .slc _ (.c _) _ _ => false
  | _ => true

/-- What only reads reads the same in a greater memory, if its places lie in the lesser one. -/
theorem mem_step {fr : List V} {M M2 : Mem} {op : AOp} (h1 : eff op = false) (hp : M <+: M2) (ht : isT op = true) (hi0 : ∀ n : Nat, inMem M (fr.getD n und)) :
    (stepOp call fr M2 op).map (·.1) = (stepOp call fr M op).map (·.1) := by
  by_cases h2 : mem op = false
  · obtain ⟨g, hg⟩ := pure_step (call := call) (fr := fr) h1 h2
    rw [hg, hg]
    cases g <;> rfl
  · cases op <;> simp only [mem, not_true_eq_false] at h2
    case load1 x =>
      have hx : inMem M (ev fr x) := by
        cases x with
        | t k => exact hi0 k
        | c v => simp [isT] at ht
      simp only [stepOp]
      split
      · rename_i l o he; rw [he] at hx; rw [rd1_pre (pre_lt hp hx)]; cases rd1 M l o <;> rfl
      · rfl
    case loadn n x =>
      have hx : inMem M (ev fr x) := by
        cases x with
        | t k => exact hi0 k
        | c v => simp [isT] at ht
      simp only [stepOp]
      split
      · rename_i l o he; rw [he] at hx; rw [rdn_pre (pre_lt hp hx)]; cases rdn M l o n <;> rfl
      · rfl
    case bts x =>
      have hx : inMem M (ev fr x) := by
        cases x with
        | t k => exact hi0 k
        | c v => simp [isT] at ht
      simp only [stepOp]
      rw [cells_pre hp hx]
      split
      · rename_i cs _; cases toBytes cs <;> rfl
      · rfl
    case slc w x lo hii =>
      have hx : inMem M (ev fr x) := by
        cases x with
        | t k => exact hi0 k
        | c v => simp [isT] at ht
      simp only [stepOp]
      split
      · rename_i a n c he
        split
        · split
          · split
            · rfl
            · rename_i b o
              rw [he] at hx
              rw [pre_lt hp hx]
              cases M[b]? with
              | none => rfl
              | some k => by_cases hk : k.w = w <;> simp [hk]
            · rfl
          · rfl
        · rfl
      · rfl

/-- The text's order, step by step. -/
theorem opsD_steps : ∀ (os : List AOper) (fr : List V) (M : Mem) (fr' : List V) (M' : Mem), aOpsD call os fr M = some (fr', M') →
    ∃ (F : Nat → List V) (G : Nat → Mem) (val : Nat → V), F 0 = fr ∧ G 0 = M ∧ F os.length = fr' ∧ G os.length = M' ∧ ∀ (i : Nat) (o : AOper), os[i]? = some o →
      (G i <+: G (i + 1) ∨ (isSt o.op && quiet (os.drop (i + 1))) = true) ∧ F (i + 1) = setF (F i) o.dst (val i) ∧
      ((wants (F i) o.g = some true ∧ stepOp call (F i) (G i) o.op = some (val i, G (i + 1))) ∨ (wants (F i) o.g = some false ∧ val i = skp ∧ G (i + 1) = G i))
  | [], fr, M, fr', M', h => by
    simp only [aOpsD, Option.some.injEq, Prod.mk.injEq] at h
    obtain ⟨rfl, rfl⟩ := h
    exact ⟨fun _ => fr, fun _ => M, fun _ => und, rfl, rfl, rfl, rfl, fun i o ho => by simp at ho⟩
  | o :: os, fr, M, fr', M', h => by
    simp only [aOpsD] at h
    split at h
    · rename_i hw
      split at h
      · rename_i v M1 hs
        split at h
        · rename_i hp
          obtain ⟨F, G, val, f0, g0, f1, g1, hh⟩ := opsD_steps os _ _ _ _ h
          refine ⟨fun i => match i with | 0 => fr | i + 1 => F i, fun i => match i with | 0 => M | i + 1 => G i, fun i => match i with | 0 => v | i + 1 => val i, rfl, rfl, f1, g1, fun i p hp' => ?_⟩
          cases i with
          | zero =>
            simp at hp'; subst hp'
            simp only [f0, g0]
            exact ⟨by simpa using hp, trivial, .inl ⟨hw, hs⟩⟩
          | succ i => exact hh i p (by simpa using hp')
        · cases h
      · cases h
    · rename_i hw
      obtain ⟨F, G, val, f0, g0, f1, g1, hh⟩ := opsD_steps os _ _ _ _ h
      refine ⟨fun i => match i with | 0 => fr | i + 1 => F i, fun i => match i with | 0 => M | i + 1 => G i, fun i => match i with | 0 => skp | i + 1 => val i, rfl, rfl, f1, g1, fun i p hp' => ?_⟩
      cases i with
      | zero =>
        simp at hp'; subst hp'
        simp only [f0, g0]
        exact ⟨.inl (List.prefix_refl _), trivial, .inr ⟨hw, trivial, trivial⟩⟩
      | succ i => exact hh i p (by simpa using hp')
    · cases h

/-- What must have come before (by the edges). -/
def direct (ops : Array Oper) (i : Nat) : List Nat :=
  match ops[i]? with
  | some o => (o.after.toList.filter (Region.binds .any)).map (·.on)
  | none => []

def reachB (ops : Array Oper) : Nat → Nat → Nat → Bool
  | 0, _, _ => false
  | k + 1, i, j => (direct ops i).any fun m => m == j || reachB ops k m j

def gslot : Option (Nat × Bool) → List Nat
  | some (s, _) => [s]
  | none => []

/-- May the region's open order be walked in the text's? -/
def drOK (ops : Array Oper) (os : List AOper) : Bool :=
  ops.size == os.length &&
  os.all (fun p => isT p.op) &&
  (List.range ops.size).all fun i => (direct ops i).all (fun j => decide (j < i)) &&
    (List.range ops.size).all fun j => match os[i]?, os[j]? with
      | some p, some q => i == j ||
          ((match p.dst, q.dst with
            | some d, some e => d != e
            | _, _ => true) &&
          (match q.dst with
            | some e => !((reads p.op ++ gslot p.g).contains e) || reachB ops ops.size i j || reachB ops ops.size j i
            | none => true) &&
          (!(eff p.op && eff q.op && decide (i < j)) || reachB ops ops.size j i) &&
          (!(isSt p.op && quiet (os.drop (i + 1)) && mem q.op) || reachB ops ops.size i j))
      | _, _ => true

theorem reach_lt {ops : Array Oper} (hd : ∀ i j, j ∈ direct ops i → j < i) : ∀ (k i j : Nat), reachB ops k i j = true → j < i
  | 0, _, _, h => by simp [reachB] at h
  | k + 1, i, j, h => by
    simp only [reachB, List.any_eq_true, Bool.or_eq_true] at h
    obtain ⟨m, hm, h | h⟩ := h
    · have : m = j := by simpa using h
      subst this; exact hd i m hm
    · exact Nat.lt_trans (reach_lt hd k m j h) (hd i m hm)

def Closed (ops : Array Oper) (listed : Array Bool) : Prop := ∀ i j, listed.getD i false = true → j ∈ direct ops i → listed.getD j false = true

theorem reach_listed {ops : Array Oper} {listed : Array Bool} (hc : Closed ops listed) : ∀ (k i j : Nat), (∀ m ∈ direct ops i, listed.getD m false = true) → reachB ops k i j = true → listed.getD j false = true
  | 0, _, _, _, h => by simp [reachB] at h
  | k + 1, i, j, hi, h => by
    simp only [reachB, List.any_eq_true, Bool.or_eq_true] at h
    obtain ⟨m, hm, h | h⟩ := h
    · have : m = j := by simpa using h
      subst this; exact hi m hm
    · exact reach_listed hc k m j (fun q hq => hc m q (hi m hm) hq) h

/-- A frame in which the operations listed have written. -/
theorem fold_get (dst : Nat → Option Nat) (val : Nat → V) : ∀ (n : Nat) (F : Nat → List V), (∀ i, i < n → F (i + 1) = setF (F i) (dst i) (val i)) →
    (F n).length = (F 0).length ∧ ∀ t, (∀ i, i < n → dst i ≠ some t) → (F n)[t]? = (F 0)[t]? := by
  intro n
  induction n with
  | zero => intro F _; exact ⟨rfl, fun _ _ => rfl⟩
  | succ n ih =>
    intro F h
    obtain ⟨h1, h2⟩ := ih F (fun i hi => h i (by omega))
    have e := h n (by omega)
    refine ⟨?_, fun t ht => ?_⟩
    · rw [e]; cases dst n <;> simp [setF, h1]
    · rw [e]
      cases hd : dst n with
      | none => simp only [setF]; exact h2 t (fun i hi => ht i (by omega))
      | some d =>
        simp only [setF]
        rw [List.getElem?_set_ne (by intro e2; subst e2; exact ht n (by omega) hd)]
        exact h2 t (fun i hi => ht i (by omega))

theorem fold_put (dst : Nat → Option Nat) (val : Nat → V) {n : Nat} {F : Nat → List V} (h : ∀ i, i < n → F (i + 1) = setF (F i) (dst i) (val i))
    (hd : ∀ i j, i < n → j < n → i ≠ j → ∀ d, dst i = some d → dst j ≠ some d) {i m t : Nat} (hi : i < m) (hm : m ≤ n) (ht : dst i = some t) : (F m)[t]? = if t < (F 0).length then some (val i) else none := by
  have l0 := (fold_get dst val i F (fun j hj => h j (by omega))).1
  have e1 : (F (i + 1))[t]? = if t < (F 0).length then some (val i) else none := by
    rw [h i (by omega), ht]
    simp only [setF, List.getElem?_set, if_true, l0]
  have key : ∀ k, (F (i + 1 + k))[t]? = (F (i + 1))[t]? ∨ ¬ (i + 1 + k ≤ n) := by
    intro k
    induction k with
    | zero => left; rfl
    | succ k ih =>
      by_cases hk : i + 1 + (k + 1) ≤ n
      · left
        rcases ih with ih | ih
        · rw [← ih, show i + 1 + (k + 1) = (i + 1 + k) + 1 by omega, h (i + 1 + k) (by omega)]
          cases hdd : dst (i + 1 + k) with
          | none => rfl
          | some d =>
            simp only [setF]
            rw [List.getElem?_set_ne]
            intro e2; subst e2
            exact hd i (i + 1 + k) (by omega) (by omega) (by omega) d ht hdd
        · omega
      · right; exact hk
  rcases key (m - (i + 1)) with k | k
  · rw [show i + 1 + (m - (i + 1)) = m by omega] at k
    rw [k, e1]
  · omega


theorem mem_up {fr : List V} {M M1 M2 : Mem} {op : AOp} {v : V} (h1 : eff op = false) (h : stepOp call fr M op = some (v, M1)) (hp : M <+: M2) : (stepOp call fr M2 op).map (·.1) = some v := by
  by_cases h2 : mem op = false
  · obtain ⟨g, hg⟩ := pure_step (call := call) (fr := fr) h1 h2
    rw [hg] at h ⊢
    simp only [Option.map_eq_some_iff, Prod.mk.injEq] at h
    obtain ⟨x, hx, rfl, _⟩ := h
    rw [hx]; rfl
  · cases op <;> simp only [mem, not_true_eq_false] at h2
    case load1 x =>
      simp only [stepOp] at h ⊢
      split at h
      · rename_i l o he
        simp only [Option.map_eq_some_iff, Prod.mk.injEq] at h
        obtain ⟨x, hx, rfl, _⟩ := h
        have hl : M2[l]? = M[l]? := by
          unfold rd1 at hx
          split at hx
          · rename_i b hb; exact pre_lt hp (List.getElem?_eq_some_iff.1 hb).1
          · cases hx
        rw [rd1_pre hl, hx]; rfl
      · cases h
    case loadn n x =>
      simp only [stepOp] at h ⊢
      split at h
      · rename_i l o he
        simp only [Option.map_eq_some_iff, Prod.mk.injEq] at h
        obtain ⟨x, hx, rfl, _⟩ := h
        have hl : M2[l]? = M[l]? := by
          unfold rdn at hx
          split at hx
          · rename_i b hb; exact pre_lt hp (List.getElem?_eq_some_iff.1 hb).1
          · cases hx
        rw [rdn_pre hl, hx]; rfl
      · cases h
    case bts x =>
      simp only [stepOp] at h ⊢
      split at h
      · rename_i n cs hc
        have e : sliceCells M2 1 (ev fr x) = sliceCells M 1 (ev fr x) := by
          rw [hc]
          unfold sliceCells at hc ⊢
          split at hc
          · exact hc
          · rename_i l o n c _
            split at hc
            · rename_i h0; rw [if_pos h0]; exact hc
            · rename_i h0
              rw [if_neg h0]
              simp only [Option.map_eq_some_iff, Prod.mk.injEq] at hc
              obtain ⟨y, hy, rfl, rfl⟩ := hc
              have hl : M2[l]? = M[l]? := by
                unfold rdn at hy
                split at hy
                · rename_i b hb; exact pre_lt hp (List.getElem?_eq_some_iff.1 hb).1
                · cases hy
              rw [rdn_pre hl, hy]; rfl
          · cases hc
        rw [e, hc]
        simp only [Option.map_eq_some_iff, Prod.mk.injEq] at h
        obtain ⟨x, hx, rfl, _⟩ := h
        simp [hx]
      · cases h
    case slc w x lo hii =>
      simp only [stepOp] at h ⊢
      split at h
      · rename_i a n c he
        split at h
        · rename_i l u el eu
          split at h
          · rename_i hc
            rw [if_pos hc]
            split at h
            · cases h; rfl
            · rename_i b o
              split at h
              · rename_i k hk
                have : M2[b]? = some k := by rw [pre_lt hp (List.getElem?_eq_some_iff.1 hk).1, hk]
                simp only [this]
                split at h
                · rename_i hw; cases h; rw [if_pos hw]; rfl
                · cases h
              · cases h
            · cases h
          · cases h
        · cases h
      · cases h

theorem pre_mono {G : Nat → Mem} {i j : Nat} (hij : i ≤ j) (h : ∀ k, i ≤ k → k < j → G k <+: G (k + 1)) : G i <+: G j := by
  induction hij with
  | refl => exact List.prefix_refl _
  | step hij ih => exact (ih (fun k h1 h2 => h k h1 (by omega))).trans (h _ hij (by omega))

theorem G_const {G : Nat → Mem} {i j : Nat} (hij : i ≤ j) (h : ∀ k, i ≤ k → k < j → G (k + 1) = G k) : G j = G i := by
  induction hij with
  | refl => rfl
  | step hij ih => rw [h _ hij (by omega)]; exact ih (fun k h1 h2 => h k h1 (by omega))

theorem okOps_get {P : Program} {ops : Array Oper} : ∀ {l : List Oper} {os : List AOper}, okOps P ops l os = true → l.length = os.length ∧ ∀ (i : Nat) (o : Oper) (p : AOper), l[i]? = some o → os[i]? = some p → o.dst = p.dst ∧ chkOp P o.op p.op = true ∧ okGuard ops o.guard p.g = true
  | [], [], _ => ⟨rfl, fun i o p h => by simp at h⟩
  | [], _ :: _, h => by simp [okOps] at h
  | _ :: _, [], h => by simp [okOps] at h
  | o :: l, p :: os, h => by
    simp only [okOps, Bool.and_eq_true] at h
    obtain ⟨⟨⟨h1, h2⟩, h3⟩, h4⟩ := h
    obtain ⟨e, r⟩ := okOps_get h4
    refine ⟨by simp [e], fun i x y hx hy => ?_⟩
    cases i with
    | zero => simp at hx hy; subst hx; subst hy; exact ⟨by simpa using h1, h2, h3⟩
    | succ i => exact r i x y (by simpa using hx) (by simpa using hy)

theorem draw_sound {P : Program} {B : Nat} {w0 : World} (hm : P.follows .mixedOrders = true) (hcall : CallOK P B w0 call) (hB : B ≤ w0.heap.size) : DrawOK P B w0 call drOK := by
  intro id ops os ρ M M' fr fr' a w Q hdr hok hD hs hb hf hQ
  obtain ⟨F, G, val, f0, g0, f1, g1, hstep⟩ := opsD_steps os fr M fr' M' hD
  obtain ⟨hlen, hget⟩ := okOps_get hok
  have hn : ops.size = os.length := by simpa using hlen
  unfold drOK at hdr
  simp only [Bool.and_eq_true, List.all_eq_true, List.mem_range, decide_eq_true_eq] at hdr
  obtain ⟨⟨_, hisT⟩, hdr⟩ := hdr
  let dst : Nat → Option Nat := fun i => (os[i]?).bind (·.dst)
  have hos : ∀ i, i < os.length → ∃ p, os[i]? = some p := fun i hi => ⟨os[i], by simp [hi]⟩
  have hdir : ∀ i j, j ∈ direct ops i → j < i := by
    intro i j hj
    by_cases hi : i < ops.size
    · exact (hdr i hi).1 j hj
    · unfold direct at hj
      rw [Array.getElem?_eq_none (by omega)] at hj
      simp at hj
  have hpair : ∀ i j p q, i < os.length → j < os.length → i ≠ j → os[i]? = some p → os[j]? = some q →
      (∀ d, p.dst = some d → q.dst ≠ some d) ∧ (∀ e, q.dst = some e → e ∈ reads p.op ++ gslot p.g → reachB ops ops.size i j = true ∨ reachB ops ops.size j i = true) ∧
      (eff p.op = true → eff q.op = true → i < j → reachB ops ops.size j i = true) ∧ (isSt p.op = true → quiet (os.drop (i + 1)) = true → mem q.op = true → reachB ops ops.size i j = true) := by
    intro i j p q hi hj hne hp hq
    have h := (hdr i (by omega)).2 j (by omega)
    rw [hp, hq] at h
    simp only [Bool.or_eq_true, beq_iff_eq] at h
    rcases h with h | h
    · exact absurd h hne
    · simp only [Bool.and_eq_true] at h
      obtain ⟨⟨⟨h1, h2⟩, h3⟩, h4⟩ := h
      refine ⟨?_, ?_, ?_, ?_⟩
      · intro d hd he
        rw [hd, he] at h1
        simp at h1
      · intro e he hmem
        rw [he] at h2
        simp only [Bool.or_eq_true, Bool.not_eq_true'] at h2
        rcases h2 with (h2 | h2) | h2
        · rw [List.contains_iff_mem.2 hmem] at h2; cases h2
        · exact .inl h2
        · exact .inr h2
      · intro e1 e2 hlt
        simp only [e1, e2, Bool.and_self, decide_eq_true hlt, Bool.not_true, Bool.or_eq_true, Bool.false_eq_true, false_or] at h3
        exact h3
      · intro e1 e2 e3
        simp only [e1, e2, e3, Bool.and_self, Bool.not_true, Bool.or_eq_true, Bool.false_eq_true, false_or] at h4
        exact h4
  have hF : ∀ i, i < os.length → F (i + 1) = setF (F i) (dst i) (val i) := by
    intro i hi
    obtain ⟨p, hp⟩ := hos i hi
    have := (hstep i p hp).2.1
    rw [this]
    simp [dst, hp]
  have hdd : ∀ i j, i < os.length → j < os.length → i ≠ j → ∀ d, dst i = some d → dst j ≠ some d := by
    intro i j hi hj hne d h1 h2
    obtain ⟨p, hp⟩ := hos i hi
    obtain ⟨q, hq⟩ := hos j hj
    simp only [dst, hp, hq, Option.bind_some] at h1 h2
    exact (hpair i j p q hi hj hne hp hq).1 d h1 h2
  have hG : ∀ i p, os[i]? = some p → G i <+: G (i + 1) ∨ (isSt p.op = true ∧ quiet (os.drop (i + 1)) = true) := by
    intro i p hp
    have := (hstep i p hp).1
    simpa only [Bool.and_eq_true] using this
  have hGc : ∀ i p, os[i]? = some p → eff p.op = false → G (i + 1) = G i := by
    intro i p hp he
    rcases (hstep i p hp).2.2 with ⟨_, h⟩ | ⟨_, _, h⟩
    · exact noeff_M he h
    · exact h
  apply wp_region_any hm
  have allQ : ∀ (listed : Array Bool) (a' : Act) (w' : World) (ρ' : List PB) (FS : List V) (m : Nat), (∀ i, i < os.length → listed.getD i false = true) → FR ρ' FS a' → FS.length = fr.length →
      (∀ t, (∀ i, i < os.length → listed.getD i false = true → dst i ≠ some t) → FS[t]? = fr[t]?) → (∀ i t, i < os.length → listed.getD i false = true → dst i = some t → FS[t]? = if t < fr.length then some (val i) else none) →
      m ≤ os.length → (∀ i p, i < os.length → os[i]? = some p → eff p.op = true → (listed.getD i false = true ↔ i < m)) → StR B ρ' (G m) w' → Below B w0 w' → ρ <+: ρ' → a'.defers = a.defers → Q .normal a' w' := by
    intro listed a' w' ρ' FS m hall hfr hfl hfn hfy hmn heff hst hbel hpre hdef
    have e1 : FS = fr' := by
      apply List.ext_getElem?
      intro t
      rw [← f1]
      by_cases ht : ∃ i, i < os.length ∧ dst i = some t
      · obtain ⟨i, hi, hdt⟩ := ht
        rw [hfy i t hi (hall i hi) hdt, fold_put dst val hF hdd hi (Nat.le_refl _) hdt, f0]
      · have hno : ∀ i, i < os.length → dst i ≠ some t := fun i hi h => ht ⟨i, hi, h⟩
        rw [hfn t (fun i hi _ => hno i hi), (fold_get dst val os.length F hF).2 t hno, f0]
    have e2 : G m = M' := by
      rw [← g1]
      refine (G_const hmn (fun k h1 h2 => ?_)).symm
      obtain ⟨p, hp⟩ := hos k h2
      refine hGc k p hp ?_
      cases he : eff p.op
      · rfl
      · have := (heff k p h2 hp he).1 (hall k h2); omega
    rw [e1] at hfr
    rw [e2] at hst
    exact hQ a' w' ρ' hpre hfr hst hbel hdef
  have noready : ∀ (listed : Array Bool), listed.size = ops.size → Region.ready .any ops listed = [] → ∀ i, i < ops.size → listed.getD i false = true := by
    intro listed hsz hr i
    induction i using Nat.strongRecOn with
    | _ i ih =>
      intro hi
      cases hl : listed.getD i false with
      | true => rfl
      | false =>
        exfalso
        have : i ∈ Region.ready .any ops listed := by
          rw [mem_ready]
          refine ⟨?_, ops[i], by simp [hi], ?_⟩
          · rw [Array.getD_eq_getD_getElem?] at hl ⊢
            rw [Array.getElem?_eq_getElem (by omega)] at hl ⊢
            exact hl
          · intro e he hbd
            have hj : e.on ∈ direct ops i := by
              unfold direct
              rw [Array.getElem?_eq_getElem hi]
              exact List.mem_map.2 ⟨e, List.mem_filter.2 ⟨by simpa using he, hbd⟩, rfl⟩
            have := hdir i e.on hj
            exact ih e.on this (by omega)
        rw [hr] at this
        cases this
  have main : ∀ (fuel : Nat) (listed : Array Bool) (todo : List Nat) (a' : Act) (w' : World) (ρ' : List PB) (FS : List V) (m : Nat), listed.size = ops.size → Closed ops listed →
      todo.length ≤ fuel → (∀ i, i < ops.size → listed.getD i false = false → i ∈ todo) → FR ρ' FS a' → FS.length = fr.length →
      (∀ t, (∀ i, i < os.length → listed.getD i false = true → dst i ≠ some t) → FS[t]? = fr[t]?) → (∀ i t, i < os.length → listed.getD i false = true → dst i = some t → FS[t]? = if t < fr.length then some (val i) else none) →
      m ≤ os.length → (∀ i p, i < os.length → os[i]? = some p → eff p.op = true → (listed.getD i false = true ↔ i < m)) → StR B ρ' (G m) w' → Below B w0 w' → ρ <+: ρ' → a'.defers = a.defers →
      wpAny P .any ops Q fuel listed a' w' := by
    intro fuel
    induction fuel with
    | zero =>
      intro listed todo a' w' ρ' FS m hsz hcl htodo hin hfr hfl hfn hfy hmn heff hst hbel hpre hdef
      have hall : ∀ i, i < ops.size → listed.getD i false = true := by
        intro i hi
        cases hl : listed.getD i false with
        | true => rfl
        | false => have := hin i hi hl; have : todo = [] := by simpa using htodo
                   subst this; simp at *
      refine ⟨?_, allQ listed a' w' ρ' FS m (fun i hi => hall i (by omega)) hfr hfl hfn hfy hmn heff hst hbel hpre hdef⟩
      cases hr : Region.ready .any ops listed with
      | nil => rfl
      | cons x xs =>
        exfalso
        have hx : x ∈ Region.ready .any ops listed := by rw [hr]; simp
        obtain ⟨h1, o, h2, _⟩ := mem_ready.1 hx
        have hlt : x < ops.size := (Array.getElem?_eq_some_iff.1 h2).1
        have := hall x hlt
        rw [Array.getD_eq_getD_getElem?] at this h1
        rw [Array.getElem?_eq_getElem (by omega)] at this h1
        simp at this h1
        rw [this] at h1; cases h1
    | succ fuel ih =>
      intro listed todo a' w' ρ' FS m hsz hcl htodo hin hfr hfl hfn hfy hmn heff hst hbel hpre hdef
      refine ⟨fun hr => allQ listed a' w' ρ' FS m (fun i hi => noready listed hsz hr i (by omega)) hfr hfl hfn hfy hmn heff hst hbel hpre hdef, ?_⟩
      intro i hi
      obtain ⟨hul0, o, ho, hdl0⟩ := mem_ready.1 hi
      have hio : i < ops.size := (Array.getElem?_eq_some_iff.1 ho).1
      have his : i < os.length := by omega
      have hul : listed.getD i false = false := by
        rw [Array.getD_eq_getD_getElem?] at hul0 ⊢
        rw [Array.getElem?_eq_getElem (by omega)] at hul0 ⊢
        exact hul0
      have hdl : ∀ j ∈ direct ops i, listed.getD j false = true := by
        intro j hj
        unfold direct at hj
        rw [ho] at hj
        obtain ⟨e, he, rfl⟩ := List.mem_map.1 hj
        obtain ⟨he1, he2⟩ := List.mem_filter.1 he
        exact hdl0 e (by simpa using he1) he2
      obtain ⟨p, hp⟩ := hos i his
      obtain ⟨hdst, hchk, hgd⟩ := hget i o p (by simpa using ho) hp
      obtain ⟨_, hFi, hcases⟩ := hstep i p hp
      have hdsti : dst i = p.dst := by simp [dst, hp]
      -- what it reads
      have hread : ∀ t ∈ reads p.op ++ gslot p.g, FS[t]? = (F i)[t]? := by
        intro t ht
        by_cases hw : ∃ j, j < os.length ∧ dst j = some t
        · obtain ⟨j, hj, hjt⟩ := hw
          have honly : ∀ k, k < os.length → k ≠ j → dst k ≠ some t := fun k hk hne => hdd j k hj hk (fun e => hne e.symm) t hjt
          by_cases hji : j = i
          · subst hji
            rw [hfn t (fun k hk hkl => honly k hk (fun e => by subst e; rw [hul] at hkl; cases hkl))]
            rw [(fold_get dst val j F (fun k hk => hF k (by omega))).2 t (fun k hk => honly k (by omega) (by omega)), f0]
          · obtain ⟨q, hq⟩ := hos j hj
            have hqd : q.dst = some t := by simpa [dst, hq] using hjt
            rcases (hpair i j p q his hj (fun e => hji e.symm) hp hq).2.1 t hqd ht with hr | hr
            · have hjl := reach_listed hcl ops.size i j hdl hr
              have hlt := reach_lt hdir _ _ _ hr
              rw [hfy j t hj hjl hjt, fold_put dst val hF hdd hlt (by omega) hjt, f0]
            · have hlt := reach_lt hdir _ _ _ hr
              have hjl : ¬ listed.getD j false = true := by
                intro hjl
                have := reach_listed hcl ops.size j i (fun k hk => hcl j k hjl hk) hr
                rw [hul] at this; cases this
              rw [hfn t (fun k hk hkl => honly k hk (fun e => by subst e; exact hjl hkl))]
              rw [(fold_get dst val i F (fun k hk => hF k (by omega))).2 t (fun k hk => honly k (by omega) (by omega)), f0]
        · have hno : ∀ k, k < os.length → dst k ≠ some t := fun k hk h => hw ⟨k, hk, h⟩
          rw [hfn t (fun k hk _ => hno k hk), (fold_get dst val i F (fun k hk => hF k (by omega))).2 t (fun k hk => hno k (by omega)), f0]
      have hwants : wants FS p.g = wants (F i) p.g := by
        cases hg : p.g with
        | none => rfl
        | some sb =>
          obtain ⟨s, b⟩ := sb
          simp only [wants]
          rw [hread s (by simp [hg, gslot])]
      -- the list behind it
      have hsz' : (listed.setIfInBounds i true).size = ops.size := by simpa using hsz
      have hli : (listed.setIfInBounds i true).getD i false = true := by
        rw [Array.getD_eq_getD_getElem?]
        simp [hsz, hio]
      have hcl' : Closed ops (listed.setIfInBounds i true) := by
        intro k j hk hj
        by_cases hki : k = i
        · subst hki; exact getD_set_true (hdl j hj)
        · rw [getD_set_ne false (fun e => hki e.symm)] at hk
          exact getD_set_true (hcl k j hk hj)
      have hnew : ∀ k, (listed.setIfInBounds i true).getD k false = true → k = i ∨ listed.getD k false = true := by
        intro k hk
        by_cases hki : k = i
        · exact .inl hki
        · rw [getD_set_ne false (fun e => hki e.symm)] at hk; exact .inr hk
      have hfl' : (setF FS p.dst (val i)).length = fr.length := by cases p.dst <;> simp [setF, hfl]
      have hfn' : ∀ t, (∀ k, k < os.length → (listed.setIfInBounds i true).getD k false = true → dst k ≠ some t) → (setF FS p.dst (val i))[t]? = fr[t]? := by
        intro t ht
        have h1 := ht i his hli
        rw [hdsti] at h1
        have h2 := hfn t (fun k hk hkl => ht k hk (getD_set_true hkl))
        cases hpd : p.dst with
        | none => exact h2
        | some d =>
          simp only [setF]
          rw [List.getElem?_set_ne (by intro e; subst e; exact h1 hpd)]
          exact h2
      have hfy' : ∀ k t, k < os.length → (listed.setIfInBounds i true).getD k false = true → dst k = some t → (setF FS p.dst (val i))[t]? = if t < fr.length then some (val k) else none := by
        intro k t hk hkl hkt
        rcases hnew k hkl with rfl | hkl2
        · rw [hdsti] at hkt
          rw [hkt]
          simp only [setF, List.getElem?_set, if_true, hfl]
        · have hki : k ≠ i := fun e => by subst e; rw [hul] at hkl2; cases hkl2
          have h2 := hfy k t hk hkl2 hkt
          cases hpd : p.dst with
          | none => exact h2
          | some d =>
            simp only [setF]
            rw [List.getElem?_set_ne]
            · exact h2
            · intro e; subst e
              exact hdd k i hk his hki d hkt (by rw [hdsti]; exact hpd)
      have htodo' : (todo.erase i).length ≤ fuel := by
        rw [List.length_erase_of_mem (hin i hio hul)]
        omega
      have hin' : ∀ k, k < ops.size → (listed.setIfInBounds i true).getD k false = false → k ∈ todo.erase i := by
        intro k hk hkl
        have hki : k ≠ i := fun e => by subst e; rw [hli] at hkl; cases hkl
        rw [getD_set_ne false (fun e => hki e.symm)] at hkl
        exact (List.mem_erase_of_ne hki).2 (hin k hk hkl)
      -- the memory
      have hmem : ∃ m', m' ≤ os.length ∧ (∀ k q, k < os.length → os[k]? = some q → eff q.op = true → ((listed.setIfInBounds i true).getD k false = true ↔ k < m')) ∧
          ((wants (F i) p.g = some true → stepOp call FS (G m) p.op = some (val i, G m')) ∧ (wants (F i) p.g = some false → G m' = G m)) := by
        cases he : eff p.op with
        | true =>
          have hmi : m ≤ i := by
            by_cases hmi : m ≤ i
            · exact hmi
            · exfalso
              have := (heff i p his hp he).2 (by omega)
              rw [hul] at this; cases this
          have hbefore : ∀ k q, k < os.length → os[k]? = some q → eff q.op = true → k < i → listed.getD k false = true := by
            intro k q hk hq hqe hki
            exact reach_listed hcl ops.size i k hdl ((hpair k i q p hk his (by omega) hq hp).2.2.1 hqe he hki)
          have hGi : G i = G m := by
            refine G_const hmi (fun k h1 h2 => ?_)
            obtain ⟨q, hq⟩ := hos k (by omega)
            refine hGc k q hq ?_
            cases hqe : eff q.op
            · rfl
            · have := (heff k q (by omega) hq hqe).1 (hbefore k q (by omega) hq hqe h2); omega
          refine ⟨i + 1, by omega, ?_, ?_, ?_⟩
          · intro k q hk hq hqe
            constructor
            · intro hkl
              rcases hnew k hkl with rfl | hkl
              · omega
              · have := (heff k q hk hq hqe).1 hkl; omega
            · intro hki
              by_cases hk2 : k = i
              · subst hk2; exact hli
              · exact getD_set_true (hbefore k q hk hq hqe (by omega))
          · intro hw
            rcases hcases with ⟨_, hs'⟩ | ⟨hw', _, _⟩
            · rw [step_congr (fr' := F i) (fun t ht => hread t (by simp [ht])), ← hGi]
              exact hs'
            · rw [hw] at hw'; cases hw'
          · intro hw
            rcases hcases with ⟨hw', _⟩ | ⟨_, _, hg⟩
            · rw [hw] at hw'; cases hw'
            · rw [hg, hGi]
        | false =>
          refine ⟨m, hmn, ?_, ?_, fun _ => rfl⟩
          · intro k q hk hq hqe
            have hki : k ≠ i := by intro e; subst e; rw [hp] at hq; cases hq; rw [he] at hqe; cases hqe
            rw [getD_set_ne false (fun e => hki e.symm)]
            exact heff k q hk hq hqe
          · intro hw
            rcases hcases with ⟨_, hs'⟩ | ⟨hw', _, _⟩
            · have hcg : ∀ X, stepOp call FS X p.op = stepOp call (F i) X p.op := fun X => step_congr (fun t ht => hread t (by simp [ht]))
              have hval : (stepOp call FS (G m) p.op).map (·.1) = some (val i) := by
                by_cases hmm : mem p.op = false
                · obtain ⟨g, hg⟩ := pure_step (call := call) (fr := F i) he hmm
                  rw [hcg]
                  rw [hg] at hs' ⊢
                  simp only [Option.map_eq_some_iff, Prod.mk.injEq] at hs'
                  obtain ⟨x, hx, rfl, _⟩ := hs'
                  rw [hx]; rfl
                have hmm : mem p.op = true := by simpa using hmm
                by_cases him : i ≤ m
                · rw [hcg]
                  refine mem_up he hs' (pre_mono him fun k h1 h2 => ?_)
                  obtain ⟨q, hq⟩ := hos k (by omega)
                  rcases hG k q hq with h3 | ⟨h3, h4⟩
                  · exact h3
                  · exfalso
                    have hqe : eff q.op = true := by cases hqo : q.op <;> rw [hqo] at h3 <;> simp [isSt] at h3; rfl
                    have hki : k ≠ i := by intro e; subst e; rw [hp] at hq; cases hq; rw [he] at hqe; cases hqe
                    have hkl := (heff k q (by omega) hq hqe).2 h2
                    have := reach_listed hcl ops.size k i (fun j hj => hcl k j hkl hj) ((hpair k i q p (by omega) his hki hq hp).2.2.2 h3 h4 hmm)
                    rw [hul] at this; cases this
                · have hpm : G m <+: G i := pre_mono (show m ≤ i by omega) fun k h1 h2 => by
                    obtain ⟨q, hq⟩ := hos k (by omega)
                    rcases hG k q hq with h3 | ⟨h3, h4⟩
                    · exact h3
                    · exfalso
                      have hin : p ∈ os.drop (k + 1) := by
                        apply List.mem_of_getElem? (i := i - (k + 1))
                        rw [List.getElem?_drop, show k + 1 + (i - (k + 1)) = i by omega, hp]
                      have := List.all_eq_true.1 h4 p hin
                      rw [hmm] at this
                      simp at this
                  have := mem_step (call := call) (fr := FS) he hpm (hisT p (List.mem_of_getElem? hp)) (fun n => inMem_of hst.len (hfr.getD n))
                  rw [← this, hcg, hs']; rfl
              cases hx : stepOp call FS (G m) p.op with
              | none => rw [hx] at hval; cases hval
              | some r =>
                obtain ⟨v, M2⟩ := r
                rw [hx] at hval
                simp only [Option.map_some, Option.some.injEq] at hval
                rw [noeff_M he hx, hval]
            · rw [hw] at hw'; cases hw'
      obtain ⟨m', hm1, hm2, hm3, hm4⟩ := hmem
      unfold wpOp
      rw [ho]
      simp only
      rcases hcases with ⟨hw, _⟩ | ⟨hw, hv, _⟩
      · have hwant := wants_sound hfr hgd (by rw [hwants]; exact hw)
        rw [if_pos hwant]
        left
        refine oper_sound hcall hB hst hbel hfr hchk (hm3 hw) ?_
        intro c w2 ρ2 q1 q2 q3 q4
        exact ih _ (todo.erase i) _ _ ρ2 (setF FS p.dst (val i)) m' hsz' hcl' htodo' hin' (by rw [hdst]; exact put_FR (hfr.mono q1) q4 _) hfl' hfn' hfy' hm1 hm2 q2 q3 (hpre.trans q1) (by rw [GoAm.put_defers]; exact hdef)
      · have hwant := wants_sound hfr hgd (by rw [hwants]; exact hw)
        rw [if_neg (by simp [hwant])]
        rw [hv] at hfl' hfn' hfy'
        refine ih _ (todo.erase i) _ _ ρ' (setF FS p.dst skp) m' hsz' hcl' htodo' hin' (by rw [hdst]; exact put_FR hfr .skp _) hfl' hfn' ?_ hm1 hm2 (by rw [hm4 hw]; exact hst) hbel hpre (by rw [GoAm.put_defers]; exact hdef)
        intro k t hk hkl hkt
        have := hfy' k t hk hkl hkt
        exact this
  refine main ops.size (Array.replicate ops.size false) (List.range ops.size) a _ ρ fr 0 (by simp) ?_ (by simp) (fun i hi _ => by simpa using hi) hf rfl (fun t _ => rfl) ?_ (by omega) ?_ (by rw [g0]; exact hs.world (fun k => rfl)) ?_ (List.prefix_refl _) rfl
  · intro i j hi _; simp [Array.getD_eq_getD_getElem?, Array.getElem?_replicate] at hi; split at hi <;> simp at hi
  · intro i t _ hi; simp [Array.getD_eq_getD_getElem?, Array.getElem?_replicate] at hi; split at hi <;> simp at hi
  · intro i p _ _ _
    constructor
    · intro hi; simp [Array.getD_eq_getD_getElem?, Array.getElem?_replicate] at hi; split at hi <;> simp at hi
    · omega
  · exact ⟨hb.os, hb.tape, hb.output, hb.size, hb.block⟩
end
end GoAm
