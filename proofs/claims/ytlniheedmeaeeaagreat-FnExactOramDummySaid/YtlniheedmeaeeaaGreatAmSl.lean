/- Slices in the abstract machine: cells of elements, copies, reading. -/
import Derived.Test.YtlniheedmeaeeaaGreatAmArith
set_option autoImplicit false
set_option linter.unusedVariables false
set_option linter.unusedSimpArgs false
namespace GoAm
open Go
def ZhF {α:Type} (enc:α→List V) (z:List V) (xs:List α) (i:Nat):List V:=((xs.take i).map enc).flatten++zeroCells z (xs.length - i)
theorem Zik (z:List V):∀ n,(zeroCells z n).length=n * z.length
  | 0=>by simp [zeroCells]
  | n+1=>by simp [zeroCells,Zik z n,Nat.add_mul,Nat.add_comm]
theorem Ze3 {α:Type} {enc:α→List V} {w:Nat}:∀ {xs:List α},(∀ x ∈ xs,(enc x).length=w)→((xs.map enc).flatten).length=xs.length * w
  | [],_=>by simp
  | x :: xs,h=>by
    rw [List.map_cons,List.flatten_cons,List.length_append,h x (by simp),Ze3 (xs:=xs) (fun y hy=>h y (by simp [hy]))]
    simp [Nat.add_mul,Nat.add_comm]
section
variable {α:Type} {enc:α→List V} {z:List V} {xs:List α}
theorem ZrY:ZhF enc z xs 0=zeroCells z xs.length:=by simp [ZhF]
theorem ZsZ:ZhF enc z xs xs.length=(xs.map enc).flatten:=by simp [ZhF,zeroCells]
theorem ZuH (hw:∀ x ∈ xs,(enc x).length=z.length) {i:Nat} (hi:i≤xs.length):(ZhF enc z xs i).length=xs.length * z.length:=by
  unfold ZhF
  rw [List.length_append,Ze3 (w:=z.length) (fun x hx=>hw x (List.mem_of_mem_take hx)),Zik,List.length_take,Nat.min_eq_left hi,← Nat.add_mul]
  congr 1
  omega
theorem Zsh (hw:∀ x ∈ xs,(enc x).length=z.length) {i:Nat} (hi:i < xs.length):splice (ZhF enc z xs i) (i * z.length) (enc xs[i])=ZhF enc z xs (i+1):=by
  have hl:(((xs.take i).map enc).flatten).length=i * z.length:=by
    rw [Ze3 (w:=z.length) (fun x hx=>hw x (List.mem_of_mem_take hx)),List.length_take,Nat.min_eq_left (by omega)]
  have e:xs.length - i=(xs.length - (i+1))+1:=by omega
  unfold splice ZhF
  rw [List.take_append_of_le_length (by omega),← hl,List.take_length,hw xs[i] (List.getElem_mem hi),← List.drop_drop,List.drop_left,e,zeroCells,List.drop_left,List.take_succ_eq_append_getElem hi,List.map_append,List.flatten_append]
  simp
end
theorem Zga {t:Ty} {M:Mem} {a:Option Addr} {n c:Nat} {xs:List t.D} (h:Rep (.sl t) M [.slice a n c] xs) {i:Nat} (hi:i < xs.length) :
    n=xs.length∧∃ l o,a=some ⟨l,o,none⟩∧∃ cs,rdn M l (o+i * t.w) t.w=some cs∧Rep t M cs xs[i]:=by
  rcases h.slice with ⟨_,rfl⟩ | ⟨l,o,c',e⟩
  · simp at hi
  · simp at e
    obtain ⟨rfl,rfl,rfl⟩:=e
    exact ⟨rfl,l,o,rfl,h.elem (by simp [hi])⟩
theorem ZjY {M:Mem} {l o:Nat} {v:V} (h:rdn M l o 1=some [v]):rd1 M l o=some v:=by
  have:=Q6 h (k:=0) (v:=v) rfl
  simpa using this
theorem Zsb {α:Type} [DecidableEq α] {xs ys:List α} (hl:xs.length=ys.length):xs=ys∨∃ j,∃ hj:j < xs.length,(∀ i (hi:i < xs.length),i < j→xs[i]=ys[i]'(by omega))∧xs[j] ≠ ys[j]'(by omega):=by
  rcases Zht (fun i=>decide (xs[i]?=ys[i]?)) xs.length with h | ⟨j,h1,h2,h3⟩
  · left
    apply List.ext_getElem? 
    intro i
    by_cases hi:i < xs.length
    · exact of_decide_eq_true (h i hi)
    · rw [List.getElem?_eq_none (by omega),List.getElem?_eq_none (by omega)]
  · right
    refine ⟨j,h1,?_,?_⟩
    · intro i hi hij
      have:=of_decide_eq_true (h2 i hij)
      have hy:i < ys.length:=by omega
      simpa [hi,hy] using this
    · have:=of_decide_eq_false h3
      have hy:j < ys.length:=by omega
      simpa [h1,hy] using this
def ZGV (x y:Option Bool):Option Bool:=match x with
  | some true=>y
  | some false=>some false
  | none=>none
theorem ZqO (k:Nat) (ks:List Nat) (a b:V) (as bs:List V):ZdG (k :: ks) (a :: as) (b :: bs)=ZGV (Zmw k a b) (ZdG ks as bs):=by
  rw [ZdG]
  unfold ZGV
  split
  · rename_i h; rw [h]
  · rename_i h; rw [h]
  · rename_i h; rw [h]
theorem Zsn:ZdG [] [] []=some true:=by rw [ZdG]
theorem Ztb (a b:Bool):Zmw 0 (.bool a) (.bool b)=some (a == b):=rfl
theorem Zvr (k:IntKind) (a b:Int):Zmw 1 (.int k a) (.int k b)=some (decide (a=b)):=by simp [Zmw,ZqC]
theorem Zvt (a b:ByteArray):Zmw 2 (.string a) (.string b)=some (decide (a.data.toList=b.data.toList)):=by
  rw [← Zt4]; rfl
theorem Zx7 (p q:Bool):ZGV (some p) (some q)=some (p && q):=by cases p <;> rfl
attribute [simp] ZqO Zsn Ztb Zvr Zvt Zx7
def idx {α:Type} (p:α→Bool) (xs:List α):Int:=match xs.findIdx? p with
  | some j=>j
  | none=>-1
theorem ZyY {α:Type} {p:α→Bool} {xs:List α} (h:∀ i (hi:i < xs.length),p xs[i]=false):idx p xs=-1:=by
  unfold idx
  have:xs.findIdx? p=none:=by
    rw [List.findIdx?_eq_none_iff]
    intro x hx
    obtain ⟨i,hi,rfl⟩:=List.getElem_of_mem hx
    exact h i hi
  rw [this]
theorem ZyJ {α:Type} {p:α→Bool} {xs:List α} {j:Nat} (hj:j < xs.length) (h1:∀ i (hi:i < xs.length),i < j→p xs[i]=false) (h2:p xs[j]=true):idx p xs=j:=by
  unfold idx
  have:xs.findIdx? p=some j:=by
    rw [List.findIdx?_eq_some_iff_getElem]
    exact ⟨hj,h2,fun i hi=>by simp [h1 i (by omega) hi]⟩
  rw [this]
theorem ZqY {α:Type} (p:α→Bool) (xs:List α):(idx p xs=-1∧∀ i (hi:i < xs.length),p xs[i]=false)∨(∃ j,∃ hj:j < xs.length,idx p xs=j∧(∀ i (hi:i < xs.length),i < j→p xs[i]=false)∧p xs[j]=true):=by
  rcases Zht (fun i=>(xs[i]?).any (fun x=>!p x)) xs.length with h | ⟨j,h1,h2,h3⟩
  · left
    have:∀ i (hi:i < xs.length),p xs[i]=false:=fun i hi=>by have:=h i hi; simpa [hi] using this
    exact ⟨ZyY this,this⟩
  · right
    have h3':p xs[j]=true:=by simpa [h1] using h3
    have h2':∀ i (hi:i < xs.length),i < j→p xs[i]=false:=fun i hi hij=>by have:=h2 i hij; simpa [hi] using this
    exact ⟨j,h1,ZyJ h1 h2' h3',h2',h3'⟩
theorem ZCU {α:Type} (p:α→Bool) (xs:List α):decide (0≤idx p xs)=xs.any p:=by
  rcases ZqY p xs with ⟨ha,h1⟩ | ⟨j,hj,ha,h1,h2⟩
  · rw [ha]
    have:xs.any p=false:=by
      rw [List.any_eq_false]
      intro x hx
      obtain ⟨i,hi,rfl⟩:=List.getElem_of_mem hx
      simp [h1 i hi]
    rw [this]; rfl
  · rw [ha]
    have:xs.any p=true:=List.any_eq_true.2 ⟨xs[j],List.getElem_mem hj,h2⟩
    rw [this]; simp
end GoAm
