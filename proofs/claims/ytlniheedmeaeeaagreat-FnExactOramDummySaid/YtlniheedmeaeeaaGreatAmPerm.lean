/- A region's operations told in another order. -/
import Derived.Test.YtlniheedmeaeeaaGreatAmOp7
import Derived.Orders
set_option autoImplicit false
set_option linter.unusedVariables false
set_option linter.unusedSimpArgs false
namespace GoAm
open Go Go.RowKit
def Zow (pi:List Nat) (i:Nat):Nat:=pi.idxOf i
def ZFE (pi:List Nat) (o:Oper):Oper:={ o with after:=o.after.map (fun e=>{ e with on:=Zow pi e.on }),guard:=o.guard.map fun g=>(Zow pi g.1,g.2) }
def Zds (pi:List Nat) (ops:Array Oper):Array Oper:=((List.range ops.size).map fun k=>match ops[pi.getD k 0]? with
  | some o=>ZFE pi o
  | none=>default).toArray
def ZiS (pi:List Nat) (n:Nat):Bool:=pi.length == n && pi.all (fun i=>decide (i < n)) && (List.range n).all fun i=>pi.getD (Zow pi i) 0 == i && decide (Zow pi i < n) && Zow pi (pi.getD i 0) == i
def Zsj (ops:Array Oper):Bool:=ops.toList.all fun o=>o.after.toList.all (fun e=>decide (e.on < ops.size)) && (match o.guard with
  | some g=>decide (g.1 < ops.size)
  | none=>true)
theorem Zqf (pi:List Nat) (ops:Array Oper):(Zds pi ops).size=ops.size:=by simp [Zds]
section
variable {pi:List Nat} {ops:Array Oper} (hp:ZiS pi ops.size=true) (hr:Zsj ops=true)
theorem Zll {i:Nat} (hi:i < ops.size) (hp:ZiS pi ops.size=true):pi.getD (Zow pi i) 0=i∧Zow pi i < ops.size∧Zow pi (pi.getD i 0)=i:=by
  simp only [ZiS,Bool.and_eq_true,List.all_eq_true,List.mem_range,beq_iff_eq,decide_eq_true_eq] at hp
  obtain ⟨⟨_,_⟩,h⟩:=hp
  have:=h i hi
  exact ⟨this.1.1,this.1.2,this.2⟩
theorem ZBP {k:Nat} (hk:k < ops.size) (hp:ZiS pi ops.size=true):pi.getD k 0 < ops.size:=by
  simp only [ZiS,Bool.and_eq_true,List.all_eq_true,List.mem_range,beq_iff_eq,decide_eq_true_eq] at hp
  obtain ⟨⟨h1,h2⟩,_⟩:=hp
  have hk2:k < pi.length:=by omega
  rw [List.getD_eq_getElem?_getD,List.getElem?_eq_getElem hk2]
  exact h2 _ (List.getElem_mem hk2)
theorem ZpY {i:Nat} (hi:i < ops.size) (hp:ZiS pi ops.size=true):(Zds pi ops)[Zow pi i]?=ops[i]?.map (ZFE pi):=by
  obtain ⟨h1,h2,_⟩:=Zll hi hp
  unfold Zds
  simp only [List.getElem?_toArray,List.getElem?_map]
  rw [List.getElem?_range h2]
  simp only [Option.map_some,h1]
  rw [Array.getElem?_eq_getElem hi]
  rfl
theorem ZuT {i:Nat} (hi:i < ops.size) (hp:ZiS pi ops.size=true) (tmps:Array Value):yielded (Zds pi ops) tmps (Zow pi i)=yielded ops tmps i:=by
  unfold yielded
  rw [ZpY hi hp,Array.getElem?_eq_getElem hi]
  rfl
theorem Ztq {i:Nat} {o:Oper} (hr:Zsj ops=true) (ho:ops[i]?=some o):(∀ e ∈ o.after,e.on < ops.size)∧∀ g b,o.guard=some (g,b)→g < ops.size:=by
  unfold Zsj at hr
  have hm:o ∈ ops.toList:=by
    obtain ⟨h,e⟩:=Array.getElem?_eq_some_iff.1 ho
    rw [← e]
    exact Array.mem_toList_iff.2 (Array.getElem_mem h)
  have:=List.all_eq_true.1 hr o hm
  simp only [Bool.and_eq_true,List.all_eq_true,decide_eq_true_eq] at this
  refine ⟨fun e he=>this.1 e (by simpa using he),fun g b hg=>?_⟩
  have h2:=this.2
  rw [hg] at h2
  simpa using h2
theorem Zr9 {i:Nat} {o:Oper} (hp:ZiS pi ops.size=true) (hr:Zsj ops=true) (ho:ops[i]?=some o) (tmps:Array Value) :
    Region.wanted (ZFE pi o) (yielded (Zds pi ops) tmps)=Region.wanted o (yielded ops tmps):=by
  unfold Region.wanted ZFE
  cases hg:o.guard with
  | none=>rfl
  | some g =>
    obtain ⟨g,b⟩:=g
    simp only [Option.map_some]
    rw [ZuT ((Ztq hr ho).2 g b hg) hp]
theorem ZlW {i:Nat} (hi:i < ops.size) (hp:ZiS pi ops.size=true) (hr:Zsj ops=true) {listed listed2:Array Bool} (hs:listed.size=ops.size) (hs2:listed2.size=ops.size)
    (hl:∀ j,j < ops.size→listed2.getD (Zow pi j) false=listed.getD j false):Zow pi i ∈ Region.ready .any (Zds pi ops) listed2 ↔ i ∈ Region.ready .any ops listed:=by
  rw [mem_ready,mem_ready,ZpY hi hp,Array.getElem?_eq_getElem hi]
  obtain ⟨_,h2,_⟩:=Zll hi hp
  have hd:∀ (l:Array Bool) (j:Nat),j < l.size→l.getD j true=l.getD j false:=by
    intro l j hj
    rw [Array.getD_eq_getD_getElem?,Array.getD_eq_getD_getElem?,Array.getElem?_eq_getElem hj]
    rfl
  rw [hd listed2 _ (by omega),hd listed _ (by omega),hl i hi]
  have ha:=(Ztq (o:=ops[i]) hr (Array.getElem?_eq_getElem hi)).1
  constructor
  · rintro ⟨h0,o,ho,h⟩
    refine ⟨h0,ops[i],rfl,fun e he hb=>?_⟩
    simp only [Option.map_some,Option.some.injEq] at ho
    subst ho
    have:=h { e with on:=Zow pi e.on } (Array.mem_map.2 ⟨e,he,rfl⟩) hb
    rw [hl e.on (ha e he)] at this
    exact this
  · rintro ⟨h0,o,ho,h⟩
    simp only [Option.some.injEq] at ho
    subst ho
    refine ⟨h0,ZFE pi ops[i],rfl,fun e he hb=>?_⟩
    obtain ⟨e',he',rfl⟩:=Array.mem_map.1 he
    show listed2.getD (Zow pi e'.on) false=true
    rw [hl e'.on (ha e' he')]
    exact h e' he' hb
theorem ZEV {listed listed2:Array Bool} (hp:ZiS pi ops.size=true) (hs:listed.size=ops.size) (hs2:listed2.size=ops.size)
    (hl:∀ j,j < ops.size→listed2.getD (Zow pi j) false=listed.getD j false) {i:Nat} (hi:i < ops.size):∀ j,j < ops.size→(listed2.setIfInBounds (Zow pi i) true).getD (Zow pi j) false=(listed.setIfInBounds i true).getD j false:=by
  intro j hj
  obtain ⟨k1,k2,_⟩:=Zll hi hp
  obtain ⟨q1,q2,_⟩:=Zll hj hp
  by_cases e:i=j
  · subst e
    rw [Array.getD_eq_getD_getElem?,Array.getD_eq_getD_getElem?]
    simp [hs,hs2,hi,k2]
  · have hne:Zow pi i ≠ Zow pi j:=fun h=>e (by rw [← k1,← q1,h])
    rw [getD_set_ne false hne,getD_set_ne false e]
    exact hl j hj
theorem Zus {P:Program} {Q:Exit→Act→World→Prop} (hp:ZiS pi ops.size=true) (hr:Zsj ops=true):∀ (fuel:Nat) (listed listed2:Array Bool) (a:Act) (w:World),listed.size=ops.size→listed2.size=ops.size →
    (∀ j,j < ops.size→listed2.getD (Zow pi j) false=listed.getD j false)→wpAny P .any (Zds pi ops) Q fuel listed2 a w→wpAny P .any ops Q fuel listed a w:=by
  have hlt:∀ {listed:Array Bool} {i:Nat},i ∈ Region.ready .any ops listed→i < ops.size:=by
    intro listed i hi
    obtain ⟨_,o,ho,_⟩:=mem_ready.1 hi
    exact (Array.getElem?_eq_some_iff.1 ho).1
  have hnil:∀ {listed listed2:Array Bool},listed.size=ops.size→listed2.size=ops.size→(∀ j,j < ops.size→listed2.getD (Zow pi j) false=listed.getD j false)→Region.ready .any ops listed=[]→Region.ready .any (Zds pi ops) listed2=[]:=by
    intro listed listed2 hs hs2 hl h
    rw [List.eq_nil_iff_forall_not_mem]
    intro k hk
    obtain ⟨_,o,ho,_⟩:=mem_ready.1 hk
    have hk2:k < ops.size:=by have:=(Array.getElem?_eq_some_iff.1 ho).1; rwa [Zqf] at this
    have e:=(Zll hk2 hp).2.2
    rw [← e] at hk
    have:=(ZlW (ZBP hk2 hp) hp hr hs hs2 hl).1 hk
    rw [h] at this
    cases this
  have hnil2:∀ {listed listed2:Array Bool},listed.size=ops.size→listed2.size=ops.size→(∀ j,j < ops.size→listed2.getD (Zow pi j) false=listed.getD j false)→Region.ready .any (Zds pi ops) listed2=[]→Region.ready .any ops listed=[]:=by
    intro listed listed2 hs hs2 hl h
    rw [List.eq_nil_iff_forall_not_mem]
    intro i hi
    have:=(ZlW (hlt hi) hp hr hs hs2 hl).2 hi
    rw [h] at this
    cases this
  intro fuel
  induction fuel with
  | zero =>
    intro listed listed2 a w hs hs2 hl h
    exact ⟨hnil2 hs hs2 hl h.1,h.2⟩
  | succ fuel ih =>
    intro listed listed2 a w hs hs2 hl h
    refine ⟨fun hn=>h.1 (hnil hs hs2 hl hn),fun i hi=>?_⟩
    have hio:=hlt hi
    have h2:=h.2 _ ((ZlW hio hp hr hs hs2 hl).2 hi)
    have hK:∀ a w,wpAny P .any (Zds pi ops) Q fuel (listed2.setIfInBounds (Zow pi i) true) a w→wpAny P .any ops Q fuel (listed.setIfInBounds i true) a w:=fun a w hh =>
      ih _ _ a w (by simpa using hs) (by simpa using hs2) (ZEV hp hs hs2 hl hio) hh
    unfold wpOp at h2 ⊢
    rw [ZpY hio hp,Array.getElem?_eq_getElem hio] at h2
    rw [Array.getElem?_eq_getElem hio]
    simp only [Option.map_some] at h2 ⊢
    rw [Zr9 hp hr (Array.getElem?_eq_getElem hio)] at h2
    split
    · rename_i hw
      rw [if_pos hw] at h2
      rcases h2 with h2 | h2
      · exact .inl (Oper.wp_mono hK h2)
      · exact .inr h2
    · rename_i hw
      rw [if_neg hw] at h2
      exact hK _ _ h2
end
end GoAm
