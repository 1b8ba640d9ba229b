/- Data in abstract memory: numbers, bytes, bools, strings, slices and structs of those. -/
import Derived.Test.YtlniheedmeaeeaaGreatAmEq
set_option autoImplicit false
set_option linter.unusedVariables false
set_option linter.unusedSimpArgs false
namespace GoAm
open Go
inductive Ty where
  | int (k:IntKind)
  | u8
  | bool
  | str
  | sl (t:Ty)
  | pr (a b:Ty)
abbrev Ty.i64:Ty:=.int .i64
abbrev Ty.D:Ty→Type
  | .int _=>Int
  | .u8=>UInt8
  | .bool=>Bool
  | .str=>List UInt8
  | .sl t=>List t.D
  | .pr a b=>a.D × b.D
def Ty.w:Ty→Nat
  | .pr a b=>a.w+b.w
  | _=>1
def Ty.deq:(t:Ty)→DecidableEq t.D
  | .int _=>inferInstanceAs (DecidableEq Int)
  | .u8=>inferInstanceAs (DecidableEq UInt8)
  | .bool=>inferInstanceAs (DecidableEq Bool)
  | .str=>inferInstanceAs (DecidableEq (List UInt8))
  | .sl t=>@instDecidableEqList t.D t.deq
  | .pr a b=>@instDecidableEqProd a.D b.D a.deq b.deq
instance (t:Ty):DecidableEq t.D:=t.deq
def inR (n:Int):Prop:=-9223372036854775808≤n∧n≤9223372036854775807
abbrev ZEz (s:List UInt8):V:=.string ⟨s.toArray⟩
theorem Ty.w_pos:∀ t:Ty,0 < t.w
  | .int _=>Nat.one_pos
  | .u8=>Nat.one_pos
  | .bool=>Nat.one_pos
  | .str=>Nat.one_pos
  | .sl _=>Nat.one_pos
  | .pr a b=>by have:=a.w_pos; simp only [Ty.w]; omega
def Rep:(t:Ty)→Mem→List V→t.D→Prop
  | .int k,_,cs,n=>cs=[.int k n]∧(Lit.int k n).wf=true
  | .u8,_,cs,b=>cs=[Y0 b]
  | .bool,_,cs,b=>cs=[.bool b]
  | .str,_,cs,s=>cs=[ZEz s]
  | .sl t,M,cs,xs=>(cs=[.slice none 0 0]∧xs=[])∨∃ (l o c:Nat) (blk:Blk) (css:List (List V)),cs=[.slice (some ⟨l,o,none⟩) xs.length c]∧M[l]?=some blk∧(blk.st=1∨blk.st=2∨xs=[]) ∧
      blk.w=t.w∧css.length=xs.length∧(∀ (i:Nat) (ds:List V) (x:t.D),css[i]?=some ds→xs[i]?=some x→Rep t M ds x)∧css.flatten <+: blk.cells.drop o
  | .pr a b,M,cs,x=>∃ c1 c2,cs=c1++c2∧Rep a M c1 x.1∧Rep b M c2 x.2
theorem Rep.len:∀ {t:Ty} {M:Mem} {cs:List V} {x:t.D},Rep t M cs x→cs.length=t.w
  | .int _,_,_,_,h=>by rw [h.1]; rfl
  | .u8,_,_,_,h=>by rw [h]; rfl
  | .bool,_,_,_,h=>by rw [h]; rfl
  | .str,_,_,_,h=>by rw [h]; rfl
  | .sl t,_,_,_,h=>by
    rcases h with ⟨rfl,_⟩ | ⟨l,o,c,blk,css,rfl,_⟩ <;> rfl
  | .pr a b,_,_,x,h=>by
    obtain ⟨c1,c2,rfl,h1,h2⟩:=h
    rw [List.length_append,h1.len,h2.len]; rfl
theorem Zh {α:Type} {a b:List α} (h:a <+: b) {i:Nat} {x:α} (hx:a[i]?=some x):b[i]?=some x:=by
  obtain ⟨t,rfl⟩:=h
  rw [List.getElem?_append_left (by have:=List.getElem?_eq_some_iff.1 hx; exact this.1)]
  exact hx
theorem Rep.mono:∀ {t:Ty} {M M':Mem} {cs:List V} {x:t.D},M <+: M'→Rep t M cs x→Rep t M' cs x
  | .int _,_,_,_,_,_,h=>h
  | .u8,_,_,_,_,_,h=>h
  | .bool,_,_,_,_,_,h=>h
  | .str,_,_,_,_,_,h=>h
  | .sl t,M,M',_,_,hm,h=>by
    rcases h with h | ⟨l,o,c,blk,css,h1,h2,h3,h4,h5,h6,h7⟩
    · exact .inl h
    · exact .inr ⟨l,o,c,blk,css,h1,Zh hm h2,h3,h4,h5,fun i ds x hd hx=>(h6 i ds x hd hx).mono hm,h7⟩
  | .pr a b,_,_,_,x,hm,h=>by
    obtain ⟨c1,c2,e,h1,h2⟩:=h
    exact ⟨c1,c2,e,h1.mono hm,h2.mono hm⟩
theorem Rep.one:∀ {t:Ty} {M:Mem} {cs:List V} {x:t.D},Rep t M cs x→cs.all GoAm.one=true
  | .int _,_,_,_,h=>by rw [h.1]; rfl
  | .u8,_,_,_,h=>by rw [h]; rfl
  | .bool,_,_,_,h=>by rw [h]; rfl
  | .str,_,_,_,h=>by rw [h]; rfl
  | .sl t,_,_,_,h=>by
    rcases h with ⟨rfl,_⟩ | ⟨l,o,c,blk,css,rfl,_⟩ <;> rfl
  | .pr a b,_,_,x,h=>by
    obtain ⟨c1,c2,rfl,h1,h2⟩:=h
    rw [List.all_append,h1.one,h2.one]; rfl
theorem YP {w:Nat}:∀ {css:List (List V)},(∀ cs ∈ css,cs.length=w)→css.flatten.length=css.length * w
  | [],_=>by simp
  | c :: css,h=>by
    rw [List.flatten_cons,List.length_append,h c (by simp),YP (css:=css) (fun d hd=>h d (by simp [hd]))]
    simp [Nat.add_mul,Nat.add_comm]
theorem Zsw {w:Nat}:∀ {css:List (List V)} {i:Nat} {cs:List V},(∀ cs ∈ css,cs.length=w)→css[i]?=some cs→(css.flatten.drop (i * w)).take w=cs
  | [],i,cs,_,h=>by simp at h
  | c :: css,0,cs,hw,h=>by
    simp at h; subst h
    have:=hw c (by simp)
    simp [this,List.take_append]
  | c :: css,i+1,cs,hw,h=>by
    have hc:=hw c (by simp)
    have ih:=Zsw (css:=css) (i:=i) (fun d hd=>hw d (by simp [hd])) (by simpa using h)
    rw [List.flatten_cons,show (i+1) * w=c.length+i * w by rw [hc,Nat.add_mul]; omega,List.drop_append,List.drop_eq_nil_of_le (by omega),List.nil_append,Nat.add_sub_cancel_left]
    exact ih
theorem Rep.css_w {t:Ty} {M:Mem} {css:List (List V)} {xs:List t.D} (hl:css.length=xs.length) (h:∀ (i:Nat) (ds:List V) (x:t.D),css[i]?=some ds→xs[i]?=some x→Rep t M ds x) :
    ∀ cs ∈ css,cs.length=t.w:=by
  intro cs hc
  obtain ⟨i,hi⟩:=List.getElem?_of_mem hc
  have hlt:i < xs.length:=by rw [← hl]; exact (List.getElem?_eq_some_iff.1 hi).1
  exact (h i cs xs[i] hi (by simp [hlt])).len
theorem Rep.elem {t:Ty} {M:Mem} {l o n c:Nat} {xs:List t.D} (h:Rep (.sl t) M [.slice (some ⟨l,o,none⟩) n c] xs) {i:Nat} {x:t.D} (hx:xs[i]?=some x) :
    ∃ cs,rdn M l (o+i * t.w) t.w=some cs∧Rep t M cs x:=by
  rcases h with ⟨h,_⟩ | ⟨l',o',c',blk,css,e,h2,h3,h4,h5,h6,h7⟩
  · simp at h
  · simp only [List.cons.injEq,Value.slice.injEq,Option.some.injEq,Addr.mk.injEq,and_true,true_and] at e
    obtain ⟨⟨rfl,rfl⟩,rfl,rfl⟩:=e
    have hw:=Rep.css_w h5 h6
    have hi:i < css.length:=by rw [h5]; exact (List.getElem?_eq_some_iff.1 hx).1
    have hci:css[i]?=some css[i]:=by simp [hi]
    refine ⟨css[i],?_,h6 i _ x hci hx⟩
    have hlen:=YP hw
    have hle:i * t.w+t.w≤css.length * t.w:=by
      have:(i+1) * t.w≤css.length * t.w:=Nat.mul_le_mul_right _ hi
      rw [Nat.add_mul] at this; omega
    obtain ⟨r,hr⟩:=h7
    have hdl:css.flatten.length+r.length=blk.cells.length - o:=by rw [← List.length_drop,← hr,List.length_append]
    have hpos:=t.w_pos
    unfold rdn
    rw [h2]
    simp only
    have h3':blk.st=1∨blk.st=2:=by
      rcases h3 with h3 | h3 | h3
      · exact .inl h3
      · exact .inr h3
      · subst h3; simp at hx
    rw [if_pos ⟨h3',by omega⟩]
    congr 1
    rw [← Zsw hw hci,← List.drop_drop,← hr,List.drop_append_of_le_length (by omega),List.take_append_of_le_length (by rw [List.length_drop,hlen]; omega)]
theorem Q6 {M:Mem} {l o n k:Nat} {cs:List V} {v:V} (h:rdn M l o n=some cs) (hk:cs[k]?=some v):rd1 M l (o+k)=some v:=by
  unfold rdn at h
  unfold rd1
  split at h
  · rename_i b hb
    split at h
    · rename_i hc
      cases h
      rw [if_pos hc.1]
      rw [List.getElem?_take,List.getElem?_drop] at hk
      split at hk
      · exact hk
      · cases hk
    · cases h
  · cases h
def Fit:(t:Ty)→t.D→Prop
  | .str,s=>s.length≤9223372036854775807
  | .sl t,xs=>xs.length≤9223372036854775807∧∀ x ∈ xs,Fit t x
  | .pr a b,x=>Fit a x.1∧Fit b x.2
  | .int _,_=>True
  | .u8,_=>True
  | .bool,_=>True
theorem Rep.slice {t:Ty} {M:Mem} {cs:List V} {xs:List t.D} (h:Rep (.sl t) M cs xs):(cs=[.slice none 0 0]∧xs=[])∨∃ l o c,cs=[.slice (some ⟨l,o,none⟩) xs.length c]:=by
  rcases h with h | ⟨l,o,c,blk,css,e,_⟩
  · exact .inl h
  · exact .inr ⟨l,o,c,e⟩
theorem Rep.slen {t:Ty} {M:Mem} {v:V} {xs:List t.D} (h:Rep (.sl t) M [v] xs):∃ a c,v=.slice a xs.length c:=by
  rcases h.slice with ⟨e,rfl⟩ | ⟨l,o,c,e⟩
  · simp at e; exact ⟨none,0,e⟩
  · simp at e; exact ⟨_,c,e⟩
end GoAm
