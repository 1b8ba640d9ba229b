/- What a law is handed, as data in abstract memory that is only read. -/
import Derived.Test.YtlniheedmeaeeaaGreatAmTy
import Derived.Test.YtlniheedmeaeeaaGreatAmRel
import Derived.OpenShut
set_option autoImplicit false
set_option linter.unusedVariables false
set_option linter.unusedSimpArgs false
namespace GoAm
open Go Go.RowKit
def tyF (P:Program) (g:TypeId→Ty→Bool):List Field→Nat→Ty→Bool
  | [],_,_=>false
  | x :: xs,o,t=>(xs.isEmpty && x.offset == o && g x.type t && P.cellsOf x.type == t.w) || (match t with
    | .pr a b=>x.offset == o && g x.type a && P.cellsOf x.type == a.w && tyF P g xs (o+a.w) b
    | _=>false)
def tyB (P:Program):Nat→TypeId→Ty→Bool
  | 0,_,_=>false
  | n+1,t,ty=>match P.underlying t with
    | some .bool=>match ty with
      | .bool=>true
      | _=>false
    | some .string=>match ty with
      | .str=>true
      | _=>false
    | some (.int k)=>match ty with
      | .int k'=>decide (k=k')
      | .u8=>decide (k=.u8)
      | _=>false
    | some (.slice e)=>match ty with
      | .sl a=>tyB P n e a && P.cellsOf e == a.w
      | _=>false
    | some (.struct fs)=>P.cellsOf t == ty.w && tyF P (tyB P n) fs.toList 0 ty
    | _=>false
structure InS (B:Nat→Nat) (w:World) (ρ:List PB) (M:Mem):Prop where
  st:StR B ρ M w
  ro:∀ b ∈ M,b.st ≠ 2
  col:∀ k,k < w.heap.size→B k=1
theorem StR.snoc {B:Nat→Nat} {w:World} {ρ:List PB} {M:Mem} (h:InS B w ρ M) (b:Blk) (p:PB) (hw:p.w=b.w) (h3:b.st=3→p.void=true) (h2:b.st ≠ 2) (h1:b.st=1→p.void=false∧Zsf (ρ++[p]) w b p):InS B w (ρ++[p]) (M++[b]):=by
  have hpre:ρ <+: ρ++[p]:=List.prefix_append _ _
  have both:∀ (l:Nat) (c:Blk) (q:PB),(M++[b])[l]?=some c→(ρ++[p])[l]?=some q→(M[l]?=some c∧ρ[l]?=some q)∨(c=b∧q=p):=by
    intro l c q hc hq
    rcases QF hc with ⟨hl,hc⟩ | ⟨hl,hc⟩
    · left; rcases QF hq with ⟨hl',hq⟩ | ⟨hl',hq⟩
      · exact ⟨hc,hq⟩
      · rw [h.st.len] at hl'; omega
    · right; rcases QF hq with ⟨hl',hq⟩ | ⟨hl',hq⟩
      · rw [h.st.len] at hl'; omega
      · exact ⟨hc,hq⟩
  have ro:∀ c ∈ M++[b],c.st ≠ 2:=by
    intro c hc
    rcases List.mem_append.1 hc with hc | hc
    · exact h.ro c hc
    · simp at hc; subst hc; exact h2
  refine ⟨⟨by simp [h.st.len],?_,?_,?_,?_,?_,?_⟩,ro,h.col⟩
  · intro l c q hc hq
    rcases both l c q hc hq with ⟨hc,hq⟩ | ⟨rfl,rfl⟩
    · exact h.st.wd l c q hc hq
    · exact hw
  · intro l c q hc hq hs
    rcases both l c q hc hq with ⟨hc,hq⟩ | ⟨rfl,rfl⟩
    · exact h.st.vd l c q hc hq hs
    · exact h3 hs
  · intro l c q hc hq hs
    rcases both l c q hc hq with ⟨hc,hq⟩ | ⟨rfl,rfl⟩
    · exact ⟨(h.st.blk l c q hc hq hs).1,(h.st.blk l c q hc hq hs).2.mono hpre rfl⟩
    · exact h1 (by rcases hs with hs | hs; · exact hs
                   · exact absurd hs h2)
  · intro l c q hc hq hs
    exact absurd hs (ro c (List.mem_of_getElem? hc))
  · intro l c q hc hq hs
    rcases both l c q hc hq with ⟨hc,hq⟩ | ⟨rfl,rfl⟩
    · exact h.st.ro l c q hc hq hs
    · obtain ⟨_,cs,T,fr,e,_⟩:=h1 hs
      exact h.col _ (Array.getElem?_eq_some_iff.1 e).1
  · intro l l' c c' q q' _ hc _ _ _ hs _
    exact absurd hs (ro c (List.mem_of_getElem? hc))
def Ztf (B:Nat→Nat) (w:World) (ty:Ty) (cs:List V):Prop:=∀ (ρ:List PB) (M:Mem),InS B w ρ M→∃ (ρ':List PB) (M':Mem) (acs:List V) (x:ty.D),
  ρ <+: ρ'∧M <+: M'∧InS B w ρ' M'∧VRl ρ' acs cs∧Rep ty M' acs x∧Fit ty x
theorem ZnY {B:Nat→Nat} {w:World} {ty:Ty}:∀ (css:List (List V)),(∀ cs ∈ css,Ztf B w ty cs)→∀ (ρ:List PB) (M:Mem),InS B w ρ M→∃ (ρ':List PB) (M':Mem) (acss:List (List V)) (xs:List ty.D),
    ρ <+: ρ'∧M <+: M'∧InS B w ρ' M'∧acss.length=css.length∧xs.length=css.length∧(∀ (i:Nat) (a c:List V),acss[i]?=some a→css[i]?=some c→VRl ρ' a c) ∧
    (∀ (i:Nat) (a:List V) (x:ty.D),acss[i]?=some a→xs[i]?=some x→Rep ty M' a x)∧(∀ x ∈ xs,Fit ty x)
  | [],_,ρ,M,h=>⟨ρ,M,[],[],List.prefix_refl _,List.prefix_refl _,h,rfl,rfl,fun i a c h=>by simp at h,fun i a c h=>by simp at h,fun x h=>by simp at h⟩
  | cs :: css,hc,ρ,M,h=>by
    obtain ⟨ρ1,M1,acs,x,h1,h2,h3,h4,h5,h6⟩:=hc cs (by simp) ρ M h
    obtain ⟨ρ2,M2,acss,xs,k1,k2,k3,k4,k5,k6,k7,k8⟩:=ZnY css (fun d hd=>hc d (by simp [hd])) ρ1 M1 h3
    refine ⟨ρ2,M2,acs :: acss,x :: xs,h1.trans k1,h2.trans k2,k3,by simp [k4],by simp [k5],?_,?_,?_⟩
    · intro i a c ha hb
      cases i with
      | zero=>simp at ha hb; subst ha; subst hb; exact h4.mono k1
      | succ i=>simp at ha hb; exact k6 i a c ha hb
    · intro i a c ha hb
      cases i with
      | zero=>simp at ha hb; subst ha; subst hb; exact h5.mono k2
      | succ i=>simp at ha hb; exact k7 i a c ha hb
    · intro y hy
      rcases List.mem_cons.1 hy with rfl | hy
      · exact h6
      · exact k8 y hy
section
variable {H:Type} {enc:TypeId × Value→H} {P:Program} {w:World} {B:Nat→Nat}
theorem Zlt {n m:Nat} (ih:∀ (t:TypeId) (ty:Ty),tyB P n t ty=true→∀ (cs:List V) (x:DataW H × List MemPlace),DataW.trod enc P w 0 (fun _=>true) true m t cs=some x→Ztf B w ty cs) (cs:List V) :
    ∀ (fs:List Field) (o:Nat) (ty:Ty),tyF P (tyB P n) fs o ty=true→(∀ f ∈ fs,∃ x,DataW.trod enc P w 0 (fun _=>true) true m f.type ((cs.drop f.offset).take (P.cellsOf f.type))=some x) →
      Ztf B w ty ((cs.drop o).take ty.w)
  | [],o,ty,h,_=>by simp [tyF] at h
  | f :: fs,o,ty,h,hr=>by
    simp only [tyF,Bool.or_eq_true] at h
    rcases h with h | h
    · simp only [Bool.and_eq_true,beq_iff_eq] at h
      obtain ⟨⟨⟨_,rfl⟩,h2⟩,h3⟩:=h
      obtain ⟨x,hx⟩:=hr f (by simp)
      rw [h3] at hx
      exact ih _ _ h2 _ x hx
    · split at h
      · rename_i a b
        simp only [Bool.and_eq_true,beq_iff_eq] at h
        obtain ⟨⟨⟨rfl,h2⟩,h3⟩,h4⟩:=h
        obtain ⟨x,hx⟩:=hr f (by simp)
        rw [h3] at hx
        have hb:=Zlt ih cs fs (f.offset+a.w) b h4 (fun g hg=>hr g (by simp [hg]))
        intro ρ M hin
        obtain ⟨ρ1,M1,acs,x1,q1,q2,q3,q4,q5,q6⟩:=ih _ _ h2 _ x hx ρ M hin
        obtain ⟨ρ2,M2,bcs,x2,r1,r2,r3,r4,r5,r6⟩:=hb ρ1 M1 q3
        refine ⟨ρ2,M2,acs++bcs,(x1,x2),q1.trans r1,q2.trans r2,r3,?_,⟨acs,bcs,rfl,q5.mono r2,r5⟩,q6,r6⟩
        have e:((cs.drop f.offset).take (Ty.pr a b).w)=((cs.drop f.offset).take a.w)++((cs.drop (f.offset+a.w)).take b.w):=by
          rw [← List.drop_drop]
          exact List.take_add
        rw [e]
        exact (q4.mono r1).append r4
      · cases h
theorem Zlr {a:Addr} {n:Nat} {cs:List V} (h:w.cells? 0 a n=some cs):cs.length=n∧∀ i,i < n→w.cell? (a.add i)=cs[i]?:=by
  simp only [World.cells?,Nat.zero_le,if_true] at h
  refine ⟨by simpa using mapM_some_length h,fun i hi=>?_⟩
  exact mapM_some_get h i i (by simp [hi])
theorem Zps {a:Addr} {v:V} (h:w.cell? a=some v):a.spot=none∧∃ cc T fr,w.heap[a.block]?=some (.cells cc T fr)∧cc[a.off]?=some v:=by
  unfold World.cell? at h
  split at h
  · rename_i c T fr hb
    split at h
    · cases h
    · rename_i hs
      exact ⟨by simpa using hs,c,T,fr,hb,h⟩
  · cases h
theorem ZjW (b o n:Nat):(⟨b,o,none⟩:Addr).add n=⟨b,o+n,none⟩:=by
  unfold Addr.add
  split
  · simp_all
  · rfl
theorem VRl.flat {ρ:List PB}:∀ {as bs:List (List V)},as.length=bs.length→(∀ (i:Nat) (a c:List V),as[i]?=some a→bs[i]?=some c→VRl ρ a c)→VRl ρ as.flatten bs.flatten
  | [],[],_,_=>.nil
  | [],_ :: _,h,_=>by simp at h
  | _ :: _,[],h,_=>by simp at h
  | a :: as,b :: bs,hl,h=>by
    rw [List.flatten_cons,List.flatten_cons]
    exact (h 0 a b (by simp) (by simp)).append (VRl.flat (by simpa using hl) (fun i x y hx hy=>h (i+1) x y (by simpa using hx) (by simpa using hy)))
theorem ZFK:∀ (n:Nat) (t:TypeId) (ty:Ty),tyB P n t ty=true→∀ (fuel:Nat) (cs:List V) (x:DataW H × List MemPlace),DataW.trod enc P w 0 (fun _=>true) true fuel t cs=some x→Ztf B w ty cs:=by
  intro n
  induction n with
  | zero=>intro t ty h; simp [tyB] at h
  | succ n ih =>
    intro t ty h fuel cs x hx ρ M hin
    unfold tyB at h
    split at h
    · rename_i ht
      split at h
      · obtain ⟨b,rfl,_⟩:=DataW.trod_bool ht hx
        exact ⟨ρ,M,[.bool b],b,List.prefix_refl _,List.prefix_refl _,hin,VRl.cons (.bool b) .nil,rfl,trivial⟩
      · cases h
    · rename_i ht
      split at h
      · obtain ⟨s,rfl,_,hs⟩:=DataW.trod_string ht hx
        refine ⟨ρ,M,[.string s],s.data.toList,List.prefix_refl _,List.prefix_refl _,hin,VRl.cons (.str s) .nil,?_,?_⟩
        · show [Value.string s]=[ZEz s.data.toList]
          rfl
        · show s.data.toList.length≤_
          have:s.data.toList.length=s.size:=Array.length_toList
          unfold maxLen at hs
          omega
      · cases h
    · rename_i k ht
      split at h
      · have e:=of_decide_eq_true h
        subst e
        obtain ⟨z,rfl,_,hz⟩:=DataW.trod_int ht hx
        exact ⟨ρ,M,[.int _ z],z,List.prefix_refl _,List.prefix_refl _,hin,VRl.cons (.int _ z) .nil,⟨rfl,hz⟩,trivial⟩
      · have e:=of_decide_eq_true h
        subst e
        obtain ⟨z,rfl,_,hz⟩:=DataW.trod_int ht hx
        have hb:=bounds_u8 hz
        refine ⟨ρ,M,[.int _ z],UInt8.ofNat z.toNat,List.prefix_refl _,List.prefix_refl _,hin,VRl.cons (.int _ z) .nil,?_,trivial⟩
        show [Value.int .u8 z]=[Y0 (UInt8.ofNat z.toNat)]
        have e2:((UInt8.ofNat z.toNat).toNat:Int)=z:=by
          rw [UInt8.toNat_ofNat']
          omega
        unfold Y0
        rw [e2]
      · cases h
    · rename_i e ht
      split at h
      · rename_i a
        simp only [Bool.and_eq_true,beq_iff_eq] at h
        obtain ⟨h1,h2⟩:=h
        rcases DataW.trod_slice ht hx with ⟨rfl,_⟩ | ⟨ad,len,cap,elems,rest,m,_,rfl,_,_,hl,hm,hlen,hel,hsp,_⟩
        · exact ⟨ρ,M,[.slice none 0 0],[],List.prefix_refl _,List.prefix_refl _,hin,VRl.cons .nil .nil,.inl ⟨rfl,rfl⟩,by simp [Fit],by simp⟩
        · obtain ⟨hrl,hrest⟩:=hsp rfl
          rw [h2] at hel hrest
          have hsome:∀ i,i < len→∃ ccs,w.cells? 0 (ad.add (i * a.w)) a.w=some ccs∧∃ y,DataW.trod enc P w 0 (fun _=>true) true m e ccs=some y:=by
            intro i hi
            have:=hel i hi
            rw [List.getElem?_eq_getElem (by omega)] at this
            obtain ⟨ccs,hc,hy⟩:=Option.bind_eq_some_iff.1 this
            exact ⟨ccs,hc,_,hy⟩
          have hall:∀ i,i < cap→∃ ccs,w.cells? 0 (ad.add (i * a.w)) a.w=some ccs:=by
            intro i hi
            by_cases hil:i < len
            · obtain ⟨ccs,hc,_⟩:=hsome i hil; exact ⟨ccs,hc⟩
            · have:=hrest (i - len) (by omega)
              rw [List.getElem?_eq_getElem (by omega),show len+(i - len)=i by omega] at this
              obtain ⟨ccs,hc,_⟩:=Option.bind_eq_some_iff.1 this
              exact ⟨ccs,hc⟩
          let css:List (List V):=(List.range len).map fun i=>(w.cells? 0 (ad.add (i * a.w)) a.w).getD []
          have hcss:∀ i,i < len→∃ ccs,css[i]?=some ccs∧w.cells? 0 (ad.add (i * a.w)) a.w=some ccs:=by
            intro i hi
            obtain ⟨ccs,hc,_⟩:=hsome i hi
            exact ⟨ccs,by simp [css,hi,hc],hc⟩
          have hcl:css.length=len:=by simp [css]
          obtain ⟨ρ1,M1,acss,xs,k1,k2,k3,k4,k5,k6,k7,k8⟩:=ZnY (B:=B) (w:=w) (ty:=a) css (by
            intro c hc
            obtain ⟨i,hi⟩:=List.getElem?_of_mem hc
            have hil:i < len:=by rw [← hcl]; exact (List.getElem?_eq_some_iff.1 hi).1
            obtain ⟨ccs,hcc,y,hy⟩:=hsome i hil
            have:c=ccs:=by simp [css,hil,hcc] at hi; exact hi.symm
            subst this
            exact ih e a h1 m c y hy) ρ M hin
          have hxl:xs.length=len:=by rw [k5,hcl]
          have hwid:∀ cs ∈ acss,cs.length=a.w:=Rep.css_w (by omega) k7
          have hfit:Fit (.sl a) xs:=⟨by unfold maxLen at hm; omega,k8⟩
          have hpos:=a.w_pos
          by_cases hc0:cap=0
          · have hl0:len=0:=by omega
            have hx0:xs=[]:=List.length_eq_zero_iff.1 (by omega)
            refine ⟨ρ1++[⟨0,0,0,a.w,true⟩],M1++[⟨[],a.w,3⟩],[.slice (some ⟨M1.length,0,none⟩) len cap],xs,k1.trans (List.prefix_append _ _),k2.trans (List.prefix_append _ _),?_,?_,?_,hfit⟩
            · exact StR.snoc k3 _ _ rfl (fun _=>rfl) (by simp) (by simp)
            · refine VRl.cons (.slice _ _ _ _ _ _ ⟨0,0,0,a.w,true⟩ (by rw [← k3.st.len]; simp) ⟨hl,Nat.le_refl _,.inl ⟨hl0,hc0⟩⟩) .nil
            · exact .inr ⟨M1.length,0,cap,⟨[],a.w,3⟩,[],by rw [hxl],by simp,.inr (.inr hx0),rfl,by simp [hx0],fun i ds x hd=>by simp at hd,by simp⟩
          · obtain ⟨c0,hc0'⟩:=hall 0 (by omega)
            obtain ⟨_,hcell0⟩:=Zlr hc0'
            have h00:=hcell0 0 hpos
            rw [List.getElem?_eq_getElem (by have:=(Zlr hc0').1; omega)] at h00
            obtain ⟨hspot,cc,T,fr,hblk,_⟩:=Zps h00
            obtain ⟨ab,ao,asp⟩:=ad
            have hs0:asp=none:=by
              unfold Addr.add at hspot
              simpa using hspot
            subst hs0
            have hb0:w.heap[ab]?=some (.cells cc T fr):=by simpa [Addr.add] using hblk
            have hat:∀ i ccs,w.cells? 0 ((⟨ab,ao,none⟩:Addr).add (i * a.w)) a.w=some ccs→ccs.length=a.w∧∀ j,j < a.w→∀ v,ccs[j]?=some v→cc[ao+(i * a.w+j)]?=some v:=by
              intro i ccs hc
              obtain ⟨q1,q2⟩:=Zlr hc
              refine ⟨q1,fun j hj v hv=>?_⟩
              have:=q2 j hj
              rw [hv] at this
              obtain ⟨_,cc',T',fr',g1,g2⟩:=Zps this
              have e1:((Addr.add (⟨ab,ao,none⟩:Addr) (i * a.w)).add j).block=ab:=by rw [ZjW,ZjW]
              have e2:((Addr.add (⟨ab,ao,none⟩:Addr) (i * a.w)).add j).off=ao+(i * a.w+j):=by rw [ZjW,ZjW]; exact Nat.add_assoc _ _ _
              rw [e1,hb0] at g1
              cases g1
              rw [e2] at g2
              exact g2
            have hend:ao+cap * a.w≤cc.size:=by
              obtain ⟨ccs,hc⟩:=hall (cap - 1) (by omega)
              obtain ⟨q1,q2⟩:=hat _ _ hc
              have:=q2 (a.w - 1) (by omega) (ccs[a.w - 1]'(by omega)) (by simp)
              have hlt:=(Array.getElem?_eq_some_iff.1 this).1
              have e:cap * a.w=(cap - 1) * a.w+a.w:=by
                have e2:cap * a.w=(cap - 1+1) * a.w:=by rw [show cap - 1+1=cap by omega]
                rw [e2,Nat.add_mul]; omega
              omega
            have hall2:acss.flatten.length=len * a.w:=by rw [YP hwid,k4,hcl]
            have hvf:VRl ρ1 acss.flatten css.flatten:=VRl.flat k4 k6
            have hcw:∀ c ∈ css,c.length=a.w:=by
              intro c hc
              obtain ⟨i,hi⟩:=List.getElem?_of_mem hc
              have hil:i < len:=by rw [← hcl]; exact (List.getElem?_eq_some_iff.1 hi).1
              obtain ⟨ccs,g1,g2⟩:=hcss i hil
              rw [hi] at g1; cases g1
              exact (Zlr g2).1
            have hcf:∀ (i:Nat) (v:V),css.flatten[i]?=some v→cc[ao+i]?=some v:=by
              intro i v hv
              have hilt:=(List.getElem?_eq_some_iff.1 hv).1
              rw [YP hcw,hcl] at hilt
              have hq:i / a.w < len:=by rw [Nat.div_lt_iff_lt_mul hpos]; exact hilt
              obtain ⟨ccs,g1,g2⟩:=hcss _ hq
              have hfa:=Zsw hcw g1
              have hmod:=Nat.mod_lt i hpos
              have hdm:=Nat.div_add_mod i a.w
              have hcomm:i / a.w * a.w=a.w * (i / a.w):=Nat.mul_comm _ _
              have:ccs[i % a.w]?=some v:=by
                rw [← hfa,List.getElem?_take,if_pos hmod,List.getElem?_drop,hcomm,hdm,hv]
              have h5:=(hat _ _ g2).2 (i % a.w) hmod v this
              rw [hcomm,hdm] at h5
              exact h5
            have hmul:len * a.w≤cap * a.w:=Nat.mul_le_mul_right _ hl
            refine ⟨ρ1++[⟨ab,ao,cc.size,a.w,false⟩],M1++[⟨acss.flatten,a.w,1⟩],[.slice (some ⟨M1.length,0,none⟩) len cap],xs,k1.trans (List.prefix_append _ _),k2.trans (List.prefix_append _ _),?_,?_,?_,hfit⟩
            · refine StR.snoc k3 _ _ rfl (by simp) (by simp) (fun _=>⟨rfl,cc,T,fr,hb0,rfl,?_,?_,by simp⟩)
              · show ao+acss.flatten.length≤cc.size
                omega
              · intro i v hv
                have hv':acss.flatten[i]?=some v:=hv
                refine ⟨?_,?_⟩
                · have hm:=List.mem_of_getElem? hv'
                  obtain ⟨cs',hcs',hvm⟩:=List.mem_flatten.1 hm
                  obtain ⟨j,hj⟩:=List.getElem?_of_mem hcs'
                  have hjl:j < xs.length:=by rw [k5,← k4]; exact (List.getElem?_eq_some_iff.1 hj).1
                  exact List.all_eq_true.1 (k7 j cs' xs[j] hj (by simp [hjl])).one v hvm
                · obtain ⟨c,g1,g2⟩:=hvf.get hv'
                  exact ⟨c,hcf i c g1,g2.mono (List.prefix_append _ _)⟩
            · refine VRl.cons (.slice _ _ _ _ _ _ ⟨ab,ao,cc.size,a.w,false⟩ (by rw [← k3.st.len]; simp) ⟨hl,Nat.le_refl _,.inr ⟨rfl,rfl,?_⟩⟩) .nil
              show ao+0+cap * a.w≤cc.size
              omega
            · exact .inr ⟨M1.length,0,cap,⟨acss.flatten,a.w,1⟩,acss,by rw [hxl],by simp,.inl rfl,rfl,by omega,
                fun i ds x hd hx=>(k7 i ds x hd hx).mono (List.prefix_append _ _),by simp⟩
      · cases h
    · rename_i fs ht
      simp only [Bool.and_eq_true,beq_iff_eq] at h
      obtain ⟨h1,h2⟩:=h
      obtain ⟨xs,m,_,_,hcl,hxl,hf⟩:=DataW.trod_struct ht hx
      have:=Zlt (B:=B) (enc:=enc) (w:=w) (P:=P) (n:=n) (m:=m) (fun t ty h cs x hx=>ih t ty h m cs x hx) cs fs.toList 0 ty h2 (by
        intro f hf'
        obtain ⟨i,hi⟩:=List.getElem?_of_mem hf'
        have hlt:i < xs.length:=by
          have:=(List.getElem?_eq_some_iff.1 hi).1
          simp at this; omega
        exact ⟨xs[i],by rw [hf i f (by simpa using hi)]; simp [hlt]⟩)
      have e:(cs.drop 0).take ty.w=cs:=by rw [List.drop_zero,← h1,← hcl,List.take_length]
      rw [e] at this
      exact this ρ M hin
    · cases h
end
end GoAm
