/- How abstract memory stands to the model's memory. -/
import Derived.Test.YtlniheedmeaeeaaGreatAmDef
set_option autoImplicit false
namespace GoAm
open Go Go.RowKit
structure PB where
  blk:Nat
  base:Nat
  tot:Nat
  w:Nat
  void:Bool
def ZFJ (p:PB) (o n ca:Nat) (a:Addr) (c:Nat):Prop :=
  n≤c∧ca≤c∧((n=0∧c=0)∨(p.void=false∧a=⟨p.blk,p.base+o,none⟩∧p.base+o+c * p.w≤p.tot))
inductive VR (ρ:List PB):V→V→Prop
  | O (c:V):VR ρ (.tuple #[]) c
  | skp:VR ρ (.chan none) (.tuple #[])
  | bool (b:Bool):VR ρ (.bool b) (.bool b)
  | int (k:IntKind) (n:Int):VR ρ (.int k n) (.int k n)
  | str (s:ByteArray):VR ρ (.string s) (.string s)
  | nil:VR ρ (.slice none 0 0) (.slice none 0 0)
  | slice (l o n ca:Nat) (a:Addr) (c:Nat) (p:PB) (hp:ρ[l]?=some p) (h:ZFJ p o n ca a c) :
      VR ρ (.slice (some ⟨l,o,none⟩) n ca) (.slice (some a) n c)
  | ptr (l o:Nat) (p:PB) (hp:ρ[l]?=some p) (hv:p.void=false):VR ρ (.pointer (some ⟨l,o,none⟩)) (.pointer (some ⟨p.blk,p.base+o,none⟩))
  | nilptr:VR ρ (.pointer none) (.pointer none)
  | nilFunc:VR ρ .nilFunc .nilFunc
  | func (f:FuncId) (as bs:Array V) (hl:as.size=bs.size) (h:∀ (i:Nat) (a b:V),as[i]?=some a→bs[i]?=some b→VR ρ a b) :
      VR ρ (.func (.func f) #[] as) (.func (.func f) #[] bs)
  | agg (as bs:Array V) (hl:as.size=bs.size) (h:∀ (i:Nat) (a b:V),as[i]?=some a→bs[i]?=some b→VR ρ a b):VR ρ (.agg as) (.agg bs)
  | tuple (as bs:Array V) (hl:as.size=bs.size) (h:∀ (i:Nat) (a b:V),as[i]?=some a→bs[i]?=some b→VR ρ a b):VR ρ (.tuple as) (.tuple bs)
theorem JR {α:Type} {a b:List α} (h:a <+: b) {i:Nat} {x:α} (hx:a[i]?=some x):b[i]?=some x:=by
  obtain ⟨t,rfl⟩:=h
  rw [List.getElem?_append_left (by have:=List.getElem?_eq_some_iff.1 hx; exact this.1)]
  exact hx
theorem VR.mono {ρ ρ':List PB} (h:ρ <+: ρ') {v c:V} (hv:VR ρ v c):VR ρ' v c:=by
  induction hv with
  | O c=>exact .O c
  | skp=>exact .skp
  | bool b=>exact .bool b
  | int k n=>exact .int k n
  | str s=>exact .str s
  | nil=>exact .nil
  | slice l o n ca a c p hp hs=>exact .slice l o n ca a c p (JR h hp) hs
  | ptr l o p hp hv=>exact .ptr l o p (JR h hp) hv
  | nilptr=>exact .nilptr
  | nilFunc=>exact .nilFunc
  | func f as bs hl _ ih=>exact .func f as bs hl ih
  | agg as bs hl _ ih=>exact .agg as bs hl ih
  | tuple as bs hl _ ih=>exact .tuple as bs hl ih
def VRl (ρ:List PB) (as bs:List V):Prop:=as.length=bs.length∧∀ (i:Nat) (a b:V),as[i]?=some a→bs[i]?=some b→VR ρ a b
theorem VRl.mono {ρ ρ':List PB} (h:ρ <+: ρ') {as bs:List V} (hv:VRl ρ as bs):VRl ρ' as bs :=
  ⟨hv.1,fun i a b ha hb=>(hv.2 i a b ha hb).mono h⟩
theorem VRl.nil {ρ:List PB}:VRl ρ [] []:=⟨rfl,fun i a b h=>by simp at h⟩
theorem VRl.cons {ρ:List PB} {a b:V} {as bs:List V} (h:VR ρ a b) (hs:VRl ρ as bs):VRl ρ (a :: as) (b :: bs):=by
  refine ⟨by simp [hs.1],fun i x y hx hy=>?_⟩
  cases i with
  | zero=>simp at hx hy; subst hx; subst hy; exact h
  | succ i=>simp at hx hy; exact hs.2 i x y hx hy
theorem VRl.append {ρ:List PB} {as bs as' bs':List V} (h:VRl ρ as bs) (h':VRl ρ as' bs'):VRl ρ (as++as') (bs++bs'):=by
  refine ⟨by simp [h.1,h'.1],fun i x y hx hy=>?_⟩
  by_cases hi:i < as.length
  · rw [List.getElem?_append_left hi] at hx
    rw [List.getElem?_append_left (by rw [← h.1]; exact hi)] at hy
    exact h.2 i x y hx hy
  · rw [List.getElem?_append_right (by omega)] at hx
    rw [List.getElem?_append_right (by rw [← h.1]; omega)] at hy
    rw [← h.1] at hy
    exact h'.2 _ x y hx hy
theorem VRl.drop {ρ:List PB} {as bs:List V} (h:VRl ρ as bs) (n:Nat):VRl ρ (as.drop n) (bs.drop n) :=
  ⟨by simp [h.1],fun i x y hx hy=>by rw [List.getElem?_drop] at hx hy; exact h.2 _ x y hx hy⟩
theorem VRl.take {ρ:List PB} {as bs:List V} (h:VRl ρ as bs) (n:Nat):VRl ρ (as.take n) (bs.take n):=by
  refine ⟨by simp [h.1],fun i x y hx hy=>?_⟩
  rw [List.getElem?_take] at hx hy
  split at hx
  · rw [if_pos (by assumption)] at hy; exact h.2 _ x y hx hy
  · simp at hx
theorem VRl.set {ρ:List PB} {as bs:List V} (h:VRl ρ as bs) {v c:V} (hv:VR ρ v c) (d:Nat):VRl ρ (as.set d v) (bs.set d c):=by
  refine ⟨by simp [h.1],fun i x y hx hy=>?_⟩
  rw [List.getElem?_set] at hx hy
  by_cases hd:d=i
  · subst hd
    by_cases hl:d < as.length
    · rw [if_pos rfl,if_pos hl] at hx
      rw [if_pos rfl,if_pos (by rw [← h.1]; exact hl)] at hy
      cases hx; cases hy; exact hv
    · rw [if_pos rfl,if_neg hl] at hx; cases hx
  · rw [if_neg hd] at hx hy; exact h.2 _ x y hx hy
theorem VRl.replicate {ρ:List PB} {v c:V} (h:VR ρ v c) (n:Nat):VRl ρ (List.replicate n v) (List.replicate n c):=by
  refine ⟨by simp,fun i x y hx hy=>?_⟩
  rw [List.getElem?_replicate] at hx hy
  split at hx
  · rw [if_pos (by assumption)] at hy; cases hx; cases hy; exact h
  · cases hx
theorem VRl.getD {ρ:List PB} {as bs:List V} (h:VRl ρ as bs) (n:Nat):VR ρ (as.getD n O) (bs.getD n undef):=by
  by_cases hn:n < as.length
  · have hb:n < bs.length:=by rw [← h.1]; exact hn
    have:=h.2 n as[n] bs[n] (by simp [hn]) (by simp [hb])
    simpa [List.getD,hn,hb] using this
  · have:as.getD n O=O:=by simp [List.getD,List.getElem?_eq_none (Nat.le_of_not_lt hn)]
    rw [this]; exact .O _
theorem VRl.get {ρ:List PB} {as bs:List V} (h:VRl ρ as bs) {n:Nat} {v:V} (hv:as[n]?=some v):∃ c,bs[n]?=some c∧VR ρ v c:=by
  have hn:n < as.length:=(List.getElem?_eq_some_iff.1 hv).1
  have hb:n < bs.length:=by rw [← h.1]; exact hn
  exact ⟨bs[n],by simp [hb],h.2 n v bs[n] hv (by simp [hb])⟩
theorem VRl.of_arrays {ρ:List PB} {as bs:Array V} (hl:as.size=bs.size) (h:∀ (i:Nat) (a b:V),as[i]?=some a→bs[i]?=some b→VR ρ a b) :
    VRl ρ as.toList bs.toList:=⟨by simpa using hl,fun i a b ha hb=>h i a b (by simpa using ha) (by simpa using hb)⟩
theorem VR.aggl {ρ:List PB} {as bs:List V} (h:VRl ρ as bs):VR ρ (.agg as.toArray) (.agg bs.toArray) :=
  .agg _ _ (by simpa using h.1) (fun i a b ha hb=>h.2 i a b (by simpa using ha) (by simpa using hb))
theorem VR.tuplel {ρ:List PB} {as bs:List V} (h:VRl ρ as bs):VR ρ (.tuple as.toArray) (.tuple bs.toArray) :=
  .tuple _ _ (by simpa using h.1) (fun i a b ha hb=>h.2 i a b (by simpa using ha) (by simpa using hb))
theorem VR.one {ρ:List PB} {v c:V} (h:VR ρ v c) (h1:one v=true):c.oneCell'=true:=by
  cases h <;> simp_all [GoAm.one,Value.oneCell']
theorem VR.cellsOf {ρ:List PB} {v c:V} (h:VR ρ v c) (h1:v ≠ .tuple #[]):VRl ρ (cellsOf v) c.cells.toList:=by
  cases h with
  | agg as bs hl h=>exact VRl.of_arrays hl h
  | O c=>exact absurd rfl h1
  | skp=>exact VRl.cons .skp .nil
  | bool b=>exact VRl.cons (.bool b) .nil
  | int k n=>exact VRl.cons (.int k n) .nil
  | str s=>exact VRl.cons (.str s) .nil
  | nil=>exact VRl.cons .nil .nil
  | slice l o n ca a c p hp hs=>exact VRl.cons (.slice l o n ca a c p hp hs) .nil
  | ptr l o p hp hv=>exact VRl.cons (.ptr l o p hp hv) .nil
  | nilptr=>exact VRl.cons .nilptr .nil
  | nilFunc=>exact VRl.cons .nilFunc .nil
  | func f as bs hl h=>exact VRl.cons (.func f as bs hl h) .nil
  | tuple as bs hl h=>exact VRl.cons (.tuple as bs hl h) .nil
theorem Zmb {v:V} (h:(cellsOf v).all GoAm.one=true):v ≠ .tuple #[]:=by
  rintro rfl
  simp [cellsOf,GoAm.one] at h
def Zsf (ρ:List PB) (w:World) (b:Blk) (p:PB):Prop :=
  ∃ (cs:Array V) (T:TypeId) (fr:Nat × Nat),w.heap[p.blk]?=some (.cells cs T fr)∧cs.size=p.tot∧p.base+b.cells.length≤cs.size ∧
    (∀ (i:Nat) (v:V),b.cells[i]?=some v→one v=true∧∃ c,cs[p.base+i]?=some c∧VR ρ v c) ∧
    (b.st=2→∀ i,(i < cs.size∨i=cs.size∧1 < b.w)→¬ (fr.1≤i∧i < fr.2))
theorem Zsf.mono {ρ ρ':List PB} (h:ρ <+: ρ') {w w':World} {b:Blk} {p:PB} (hb:Zsf ρ w b p) (hw:w'.heap[p.blk]?=w.heap[p.blk]?):Zsf ρ' w' b p:=by
  obtain ⟨cs,T,fr,h1,h2,h3,h4,h5⟩:=hb
  refine ⟨cs,T,fr,by rw [hw,h1],h2,h3,fun i v hi=>?_,h5⟩
  obtain ⟨a,c,hc,hv⟩:=h4 i v hi
  exact ⟨a,c,hc,hv.mono h⟩
def Inn (B:Nat→Nat) (w:World):Prop:=∀ k,B k ≠ 0→k < w.heap.size
structure Kept (B:Nat→Nat) (w w':World):Prop where
  os:w'.os=w.os
  tape:w'.tape=w.tape
  output:w'.output=w.output
  size:w.heap.size≤w'.heap.size
  block:∀ k,B k ≠ 0→w'.heap[k]?=w.heap[k]?
theorem Kept.refl (B:Nat→Nat) (w:World):Kept B w w:=⟨rfl,rfl,rfl,Nat.le_refl _,fun _ _=>rfl⟩
theorem Kept.trans {B:Nat→Nat} {a b c:World} (h:Kept B a b) (k:Kept B b c):Kept B a c :=
  ⟨k.os.trans h.os,k.tape.trans h.tape,k.output.trans h.output,Nat.le_trans h.size k.size,fun i hi=>(k.block i hi).trans (h.block i hi)⟩
theorem Kept.drew {B:Nat→Nat} {a w:World} (h:Kept B a w):Kept B a w.drew:=⟨h.os,h.tape,h.output,h.size,h.block⟩
theorem Kept.alloc {B:Nat→Nat} {a w:World} (h:Kept B a w) (hB:Inn B w) (o:Obj):Kept B a (w.alloc o) :=
  h.trans ⟨rfl,rfl,rfl,by simp,fun k hk=>Below.heap_alloc _ _ _ (hB k hk)⟩
theorem Kept.inn {B:Nat→Nat} {a w:World} (h:Kept B a w) (hB:Inn B a):Inn B w:=fun k hk=>Nat.lt_of_lt_of_le (hB k hk) h.size
theorem Kept.less {B C:Nat→Nat} {a w:World} (h:Kept C a w) (hc:∀ k,B k ≠ 0→C k ≠ 0):Kept B a w:=⟨h.os,h.tape,h.output,h.size,fun k hk=>h.block k (hc k hk)⟩
structure StR (B:Nat→Nat) (ρ:List PB) (M:Mem) (w:World):Prop where
  len:ρ.length=M.length
  wd:∀ (l:Nat) (b:Blk) (p:PB),M[l]?=some b→ρ[l]?=some p→p.w=b.w
  vd:∀ (l:Nat) (b:Blk) (p:PB),M[l]?=some b→ρ[l]?=some p→b.st=3→p.void=true
  blk:∀ (l:Nat) (b:Blk) (p:PB),M[l]?=some b→ρ[l]?=some p→(b.st=1∨b.st=2)→p.void=false∧Zsf ρ w b p
  own:∀ (l:Nat) (b:Blk) (p:PB),M[l]?=some b→ρ[l]?=some p→b.st=2→B p.blk=0
  ro:∀ (l:Nat) (b:Blk) (p:PB),M[l]?=some b→ρ[l]?=some p→b.st=1→B p.blk=1
  apart:∀ (l l':Nat) (b b':Blk) (p p':PB),l ≠ l'→M[l]?=some b→M[l']?=some b'→ρ[l]?=some p→ρ[l']?=some p' →
    b.st=2→(b'.st=1∨b'.st=2)→p.blk ≠ p'.blk
theorem StR.at {B:Nat→Nat} {ρ:List PB} {M:Mem} {w:World} (h:StR B ρ M w) {l:Nat} {b:Blk} (hb:M[l]?=some b):∃ p,ρ[l]?=some p:=by
  have hl:l < M.length:=(List.getElem?_eq_some_iff.1 hb).1
  exact ⟨ρ[l]'(by rw [h.len]; exact hl),by simp [h.len,hl]⟩
theorem StR.world {B:Nat→Nat} {ρ:List PB} {M:Mem} {w w':World} (h:StR B ρ M w) (hw:∀ k:Nat,w'.heap[k]?=w.heap[k]?):StR B ρ M w' :=
  ⟨h.len,h.wd,h.vd,fun l b p hb hp hs=>⟨(h.blk l b p hb hp hs).1,(h.blk l b p hb hp hs).2.mono (List.prefix_refl _) (hw _)⟩,h.own,h.ro,h.apart⟩
theorem QF {α:Type} {xs:List α} {x:α} {i:Nat} {y:α} (h:(xs++[x])[i]?=some y):(i < xs.length∧xs[i]?=some y)∨(i=xs.length∧y=x):=by
  by_cases hi:i < xs.length
  · left; rw [List.getElem?_append_left hi] at h; exact ⟨hi,h⟩
  · right
    rw [List.getElem?_append_right (by omega)] at h
    have hl:=(List.getElem?_eq_some_iff.1 h).1
    simp at hl
    have:i=xs.length:=by omega
    subst this
    simp at h
    exact ⟨rfl,h.symm⟩
theorem StR.below {B:Nat→Nat} {ρ:List PB} {M:Mem} {w:World} (h:StR B ρ M w) {l:Nat} {b:Blk} {p:PB} (hb:M[l]?=some b) (hp:ρ[l]?=some p)
    (hs:b.st=1∨b.st=2):p.blk < w.heap.size:=by
  obtain ⟨_,cs,T,fr,h1,_⟩:=h.blk l b p hb hp hs
  exact (Array.getElem?_eq_some_iff.1 h1).1
theorem StR.alloc {B:Nat→Nat} {ρ:List PB} {M:Mem} {w:World} (h:StR B ρ M w) (hB:Inn B w) (cs:List V) (cc:Array V) (T:TypeId) (wd:Nat) (fr:Nat × Nat)
    (h1:cs.all one=true) (hl:cs.length≤cc.size) (hv:∀ (i:Nat) (v:V),cs[i]?=some v→∃ c,cc[i]?=some c∧VR ρ v c)
    (hf:∀ i,(i < cc.size∨i=cc.size∧1 < wd)→¬ (fr.1≤i∧i < fr.2)) {w':World} (hw:w'.heap=w.heap.push (.cells cc T fr)) :
    StR B (ρ++[⟨w.heap.size,0,cc.size,wd,false⟩]) (M++[⟨cs,wd,2⟩]) w':=by
  have hpre:ρ <+: ρ++[⟨w.heap.size,0,cc.size,wd,false⟩]:=List.prefix_append _ _
  have old:∀ k,k < w.heap.size→w'.heap[k]?=w.heap[k]?:=fun k hk=>by rw [hw,Array.getElem?_push,if_neg (by omega)]
  have new:w'.heap[w.heap.size]?=some (.cells cc T fr):=by rw [hw]; simp
  have both:∀ (l:Nat) (b:Blk) (p:PB),(M++[⟨cs,wd,2⟩])[l]?=some b→(ρ++[⟨w.heap.size,0,cc.size,wd,false⟩])[l]?=some p →
      (M[l]?=some b∧ρ[l]?=some p)∨(l=M.length∧b=⟨cs,wd,2⟩∧p=⟨w.heap.size,0,cc.size,wd,false⟩):=by
    intro l b p hb hp
    rcases QF hb with ⟨hl,hb⟩ | ⟨hl,hb⟩
    · left; rcases QF hp with ⟨hl',hp⟩ | ⟨hl',hp⟩
      · exact ⟨hb,hp⟩
      · rw [h.len] at hl'; omega
    · right; rcases QF hp with ⟨hl',hp⟩ | ⟨hl',hp⟩
      · rw [h.len] at hl'; omega
      · exact ⟨hl,hb,hp⟩
  refine ⟨by simp [h.len],?_,?_,?_,?_,?_,?_⟩
  · intro l b p hb hp
    rcases both l b p hb hp with ⟨hb,hp⟩ | ⟨_,rfl,rfl⟩
    · exact h.wd l b p hb hp
    · rfl
  · intro l b p hb hp hs
    rcases both l b p hb hp with ⟨hb,hp⟩ | ⟨_,rfl,rfl⟩
    · exact h.vd l b p hb hp hs
    · simp at hs
  · intro l b p hb hp hs
    rcases both l b p hb hp with ⟨hb,hp⟩ | ⟨_,rfl,rfl⟩
    · exact ⟨(h.blk l b p hb hp hs).1,(h.blk l b p hb hp hs).2.mono hpre (old _ (h.below hb hp hs))⟩
    · refine ⟨rfl,cc,T,fr,new,rfl,by simpa using hl,fun i v hi=>?_,fun _=>hf⟩
      obtain ⟨c,hc,hvc⟩:=hv i v hi
      exact ⟨List.all_eq_true.1 h1 v (List.mem_of_getElem? hi),c,by simpa using hc,hvc.mono hpre⟩
  · intro l b p hb hp hs
    rcases both l b p hb hp with ⟨hb,hp⟩ | ⟨_,rfl,rfl⟩
    · exact h.own l b p hb hp hs
    · exact Classical.byContradiction fun q=>Nat.lt_irrefl _ (hB _ q)
  · intro l b p hb hp hs
    rcases both l b p hb hp with ⟨hb,hp⟩ | ⟨_,rfl,rfl⟩
    · exact h.ro l b p hb hp hs
    · simp at hs
  · intro l l' b b' p p' hne hb hb' hp hp' hs hs'
    rcases both l b p hb hp with ⟨hb,hp⟩ | ⟨hl,rfl,rfl⟩ <;> rcases both l' b' p' hb' hp' with ⟨hb',hp'⟩ | ⟨hl',rfl,rfl⟩
    · exact h.apart l l' b b' p p' hne hb hb' hp hp' hs hs'
    · have:=h.below hb hp (.inr hs); show p.blk ≠ w.heap.size; omega
    · have:=h.below hb' hp' hs'; show w.heap.size ≠ p'.blk; omega
    · omega
theorem ZsW {α:Type} {xs:List α} {x y:α} {l i:Nat} (h:(xs.set l x)[i]?=some y):(i=l∧y=x)∨(i ≠ l∧xs[i]?=some y):=by
  rw [List.getElem?_set] at h
  by_cases e:l=i
  · left; rw [if_pos e] at h; split at h
    · exact ⟨e.symm,(Option.some.inj h).symm⟩
    · cases h
  · right; rw [if_neg e] at h; exact ⟨fun h=>e h.symm,h⟩
theorem StR.upd {B:Nat→Nat} {ρ:List PB} {M:Mem} {w w':World} (h:StR B ρ M w) {l:Nat} {b b':Blk} {p:PB} (hb:M[l]?=some b) (hp:ρ[l]?=some p)
    (hs:b.st=2) (hs':b'.st=2∨b'.st=0) (hwd:b'.w=b.w) (hr:b'.st=2→Zsf ρ w' b' p) (hw:∀ k,k ≠ p.blk→w'.heap[k]?=w.heap[k]?):StR B ρ (M.set l b') w':=by
  have key:∀ (i:Nat) (c:Blk) (q:PB),(M.set l b')[i]?=some c→ρ[i]?=some q→(i=l∧c=b'∧q=p)∨(i ≠ l∧M[i]?=some c):=by
    intro i c q hc hq
    rcases ZsW hc with ⟨rfl,rfl⟩ | ⟨hne,hc⟩
    · left; rw [hp] at hq; exact ⟨rfl,rfl,(Option.some.inj hq).symm⟩
    · right; exact ⟨hne,hc⟩
  refine ⟨by simp [h.len],?_,?_,?_,?_,?_,?_⟩
  · intro i c q hc hq
    rcases key i c q hc hq with ⟨rfl,rfl,rfl⟩ | ⟨_,hc⟩
    · rw [hwd]; exact h.wd _ b _ hb hp
    · exact h.wd i c q hc hq
  · intro i c q hc hq hst
    rcases key i c q hc hq with ⟨rfl,rfl,rfl⟩ | ⟨_,hc⟩
    · omega
    · exact h.vd i c q hc hq hst
  · intro i c q hc hq hst
    rcases key i c q hc hq with ⟨rfl,rfl,rfl⟩ | ⟨hne,hc⟩
    · exact ⟨(h.blk _ b _ hb hp (.inr hs)).1,hr (by omega)⟩
    · exact ⟨(h.blk i c q hc hq hst).1,(h.blk i c q hc hq hst).2.mono (List.prefix_refl _) (hw _ (fun e=>h.apart l i b c p q (fun e=>hne e.symm) hb hc hp hq hs hst e.symm))⟩
  · intro i c q hc hq hst
    rcases key i c q hc hq with ⟨rfl,rfl,rfl⟩ | ⟨_,hc⟩
    · exact h.own _ b _ hb hp hs
    · exact h.own i c q hc hq hst
  · intro i c q hc hq hst
    rcases key i c q hc hq with ⟨rfl,rfl,rfl⟩ | ⟨_,hc⟩
    · omega
    · exact h.ro i c q hc hq hst
  · intro i j c d q r hne hc hd hq hr' hst hst'
    rcases key i c q hc hq with ⟨rfl,rfl,rfl⟩ | ⟨hni,hc2⟩ <;> rcases key j d r hd hr' with ⟨rfl,rfl,rfl⟩ | ⟨hnj,hd2⟩
    · exact absurd rfl hne
    · exact h.apart _ j b d _ r hne hb hd2 hp hr' hs hst'
    · exact fun e=>h.apart _ i b c _ q (fun e=>hne e.symm) hb hc2 hp hq hs (.inr hst) e.symm
    · exact h.apart i j c d q r hne hc2 hd2 hq hr' hst hst'
theorem StR.cut {B:Nat→Nat} {ρ:List PB} {M N:Mem} {w:World} (h:StR B ρ (M++N) w) {ρ0:List PB} (hρ:ρ0 <+: ρ) (hl:ρ0.length=M.length)
    (hc:∀ (l:Nat) (b:Blk) (p:PB),M[l]?=some b→ρ0[l]?=some p→(b.st=1∨b.st=2)→Zsf ρ w b p→Zsf ρ0 w b p):StR B ρ0 M w:=by
  have hM:∀ (i:Nat) (b:Blk),M[i]?=some b→(M++N)[i]?=some b:=fun i b hb=>JR (List.prefix_append _ _) hb
  exact ⟨hl,fun l b p hb hp=>h.wd l b p (hM l b hb) (JR hρ hp),fun l b p hb hp=>h.vd l b p (hM l b hb) (JR hρ hp),
    fun l b p hb hp hs=>⟨(h.blk l b p (hM l b hb) (JR hρ hp) hs).1,hc l b p hb hp hs (h.blk l b p (hM l b hb) (JR hρ hp) hs).2⟩,
    fun l b p hb hp=>h.own l b p (hM l b hb) (JR hρ hp),
    fun l b p hb hp=>h.ro l b p (hM l b hb) (JR hρ hp),
    fun l l' b b' p p' hne hb hb' hp hp'=>h.apart l l' b b' p p' hne (hM l b hb) (hM l' b' hb') (JR hρ hp) (JR hρ hp')⟩
end GoAm
