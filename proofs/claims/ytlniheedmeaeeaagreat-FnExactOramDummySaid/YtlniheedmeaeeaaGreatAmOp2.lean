/- The operations, one by one, continued: what reads memory, and what takes values apart. -/
import Derived.Test.YtlniheedmeaeeaaGreatAmOp1
import Derived.Laws.Cells
set_option autoImplicit false
set_option linter.unusedSimpArgs false
set_option linter.unusedVariables false
namespace GoAm
open Go Go.RowKit
theorem ZfX (b o n:Nat):(⟨b,o,none⟩:Addr).add n=⟨b,o+n,none⟩:=by
  unfold Addr.add
  split
  · subst_vars; rfl
  · rfl
section
variable {P:Program} {B:Nat→Nat} {w0 w:World} {ρ:List PB} {M M':Mem} {fr:List V} {a:Act} {o:Oper} {v:V} {call:Yd}
theorem StR.rd1 (hs:StR B ρ M w) {l of:Nat} {v:V} {p:PB} (h:rd1 M l of=some v) (hp:ρ[l]?=some p) :
    ∃ c,w.cell? ⟨p.blk,p.base+of,none⟩=some c∧VR ρ v c:=by
  unfold GoAm.rd1 at h
  split at h
  · rename_i b hb
    split at h
    · rename_i hst
      obtain ⟨_,cs,T,f,h1,h2,h3,h4,h5⟩:=hs.blk l b p hb hp hst
      obtain ⟨_,c,hc,hv⟩:=h4 of v h
      exact ⟨c,by simp [World.cell?,h1,hc],hv⟩
    · cases h
  · cases h
theorem StR.rdn (hs:StR B ρ M w) {l of n:Nat} {vs:List V} {p:PB} (h:rdn M l of n=some vs) (hp:ρ[l]?=some p) :
    ∃ cc:List V,cc.length=n∧VRl ρ vs cc∧(∀ v ∈ vs,one v=true)∧∀ (j:Nat) (v:V),cc[j]?=some v→w.cell? ((⟨p.blk,p.base+of,none⟩:Addr).add j)=some v:=by
  unfold GoAm.rdn at h
  split at h
  · rename_i b hb
    split at h
    · rename_i hst
      obtain ⟨hst,hl⟩:=hst
      cases h
      obtain ⟨_,cs,T,f,h1,h2,h3,h4,h5⟩:=hs.blk l b p hb hp hst
      refine ⟨(cs.toList.drop (p.base+of)).take n,?_,⟨?_,?_⟩,?_,?_⟩
      · simp; omega
      · simp; omega
      · intro i x y hx hy
        rw [List.getElem?_take,List.getElem?_drop] at hx hy
        split at hx
        · rename_i hi
          rw [if_pos hi] at hy
          obtain ⟨_,c,hc,hv⟩:=h4 _ x hx
          rw [Array.getElem?_toList,Nat.add_assoc,hc] at hy
          cases hy; exact hv
        · cases hx
      · intro v hv
        obtain ⟨i,hi⟩:=List.getElem?_of_mem hv
        rw [List.getElem?_take,List.getElem?_drop] at hi
        split at hi
        · exact (h4 _ v hi).1
        · cases hi
      · intro j v hv
        rw [ZfX]
        rw [List.getElem?_take,List.getElem?_drop] at hv
        split at hv
        · simpa [World.cell?,h1] using hv
        · cases hv
    · cases h
  · cases h
theorem ZDI (hs:StR B ρ M w) (hb:Kept B w0 w) (hf:FR ρ fr a) {y:Opd} (hc:ZM P o.op (.load1 y)=true) (h:Ze call fr M (.load1 y)=some (v,M')) :
    Zfe B w0 ρ M' v ((execOp a.eval o).run P w):=by
  unfold ZM at hc
  simp only at hc
  split at hc
  · rename_i t x ho
    simp only [Bool.and_eq_true] at hc
    have k:=Yx hf hc.1
    simp only [Ze] at h
    split at h
    · rename_i l of hp
      rw [hp] at k
      simp only [Option.map_eq_some_iff,Prod.mk.injEq] at h
      obtain ⟨v',hv,rfl,rfl⟩:=h
      cases k':a.eval x <;> rw [k'] at k <;> cases k
      rename_i p hvd hpp
      obtain ⟨c,hcell,hvr⟩:=hs.rd1 hv hpp
      have hg:ZcR P t=some false:=by simpa using hc.2
      unfold ZcR at hg
      refine .pure hs hb (c:=c) ?_ hvr
      split at hg
      · cases hg
      · cases hg
      · rename_i d hn1 hn2 hu
        have:(isAgg t).run P w=.ok false w:=by
          simp only [isAgg,Sem.run_bind,run_underlying hu,Result.andThen_ok]
          rfl
        simp [execOp,ho,k',Instr.loadAt,Instr.sureAddr,loadVar,this,hcell]
      · cases hg
    · cases h
  · cases hc
theorem Zhc {t:TypeId} (hg:ZcR P t=some true):(isAgg t).run P w=.ok true w:=by
  unfold ZcR at hg
  split at hg
  · rename_i hu; simp [isAgg,run_underlying hu]
  · rename_i hu; simp [isAgg,run_underlying hu]
  · cases hg
  · cases hg
theorem Zd5 {t:TypeId} (hg:ZcR P t=some false):(isAgg t).run P w=.ok false w:=by
  unfold ZcR at hg
  split at hg
  · cases hg
  · cases hg
  · rename_i d hn1 hn2 hu
    simp only [isAgg,Sem.run_bind,run_underlying hu,Result.andThen_ok]
    rfl
  · cases hg
theorem Za1 {t:TypeId} {n:Nat} (h:szB P t n=true):(Go.sizeOf t).run P w=.ok n w:=by
  unfold szB at h
  split at h
  · rename_i i hi
    have:i.size=n:=by simpa using h
    simp [Go.sizeOf,typeInfo,hi,this]
  · cases h
theorem ZB6 (hs:StR B ρ M w) (hb:Kept B w0 w) (hf:FR ρ fr a) {n:Nat} {y:Opd} (hc:ZM P o.op (.loadn n y)=true) (h:Ze call fr M (.loadn n y)=some (v,M')) :
    Zfe B w0 ρ M' v ((execOp a.eval o).run P w):=by
  unfold ZM at hc
  simp only at hc
  split at hc
  · rename_i t x ho
    simp only [Bool.and_eq_true] at hc
    have k:=Yx hf hc.1.1
    simp only [Ze] at h
    split at h
    · rename_i l of hp
      rw [hp] at k
      simp only [Option.map_eq_some_iff,Prod.mk.injEq] at h
      obtain ⟨vs,hv,rfl,rfl⟩:=h
      cases k':a.eval x <;> rw [k'] at k <;> cases k
      rename_i p hvd hpp
      obtain ⟨cc,hl,hvr,_,hcell⟩:=hs.rdn hv hpp
      have hg:ZcR P t=some true:=by simpa using hc.1.2
      have:=run_loadCells_list (P:=P) w _ cc hcell
      rw [hl] at this
      refine .pure hs hb (c:=.agg cc.toArray) ?_ (.aggl hvr)
      simp [execOp,ho,k',Instr.loadAt,Instr.sureAddr,loadVar,Zhc hg,Za1 hc.2,this]
    · cases h
  · cases hc
theorem ZEX (hs:StR B ρ M w) (hb:Kept B w0 w) (hf:FR ρ fr a) {k:IntKind} {y:Opd} (hc:ZM P o.op (.conv k y)=true) (h:Ze call fr M (.conv k y)=some (v,M')) :
    Zfe B w0 ρ M' v ((execOp a.eval o).run P w):=by
  unfold ZM at hc
  simp only at hc
  split at hc
  · rename_i s d x ho
    simp only [Bool.and_eq_true] at hc
    have k1:=Yx hf hc.1.1
    simp only [Ze] at h
    split at h
    · rename_i kk p hp
      rw [hp] at k1
      simp only [Option.some.injEq,Prod.mk.injEq] at h
      obtain ⟨rfl,rfl⟩:=h
      cases k':a.eval x <;> rw [k'] at k1 <;> cases k1
      obtain ⟨ds,hds⟩:=Option.isSome_iff_exists.1 hc.1.2
      have hd:=hc.2
      unfold ZEa at hd
      split at hd
      · rename_i kd hkd
        have e:kd=k:=by simpa using hd
        subst e
        refine .pure hs hb (c:=.int kd (kd.wrap p)) ?_ (.int _ _)
        simp [execOp,ho,k',convert,run_underlying hds,run_underlying hkd,Conv.intToInt]
      · cases hd
    · cases h
  · cases hc
theorem ZHj (hs:StR B ρ M w) (hb:Kept B w0 w) (hf:FR ρ fr a) {f:FuncId} {ys:List Opd} (hc:ZM P o.op (.fn f ys)=true) (h:Ze call fr M (.fn f ys)=some (v,M')) :
    Zfe B w0 ρ M' v ((execOp a.eval o).run P w):=by
  unfold ZM at hc
  simp only at hc
  split at hc
  · rename_i f' first cap ho
    simp only [Bool.and_eq_true] at hc
    have e:f=f':=by simpa using hc.1.1
    subst e
    have e2:first=#[]:=by cases first; simp_all
    subst e2
    have k:=ZdQ hf hc.2
    simp only [Ze,Option.some.injEq,Prod.mk.injEq] at h
    obtain ⟨rfl,rfl⟩:=h
    refine .pure hs hb (c:=.func (.func f) #[] (cap.map a.eval)) (by simp [execOp,ho,Instr.makeFunc]) ?_
    refine .func f _ _ ?_ ?_
    · have:=k.1; simpa using this
    · intro i p q hp hq
      exact k.2 i p q (by simpa using hp) (by simpa using hq)
  · cases hc
theorem ZHe (hs:StR B ρ M w) (hb:Kept B w0 w) (hf:FR ρ fr a) {off:Nat} {y:Opd} (hc:ZM P o.op (.fa off y)=true) (h:Ze call fr M (.fa off y)=some (v,M')) :
    Zfe B w0 ρ M' v ((execOp a.eval o).run P w):=by
  unfold ZM at hc
  simp only at hc
  split at hc
  · rename_i s x f ho
    simp only [Bool.and_eq_true] at hc
    have k:=Yx hf hc.1
    simp only [Ze] at h
    split at h
    · rename_i l of hp
      rw [hp] at k
      simp only [Option.some.injEq,Prod.mk.injEq] at h
      obtain ⟨rfl,rfl⟩:=h
      cases k':a.eval x <;> rw [k'] at k <;> cases k
      rename_i p hvd hpp
      have h2:=hc.2
      split at h2
      · rename_i fs hu
        split at h2
        · rename_i fd hfd
          simp only [Bool.and_eq_true] at h2
          obtain ⟨h2,h3⟩:=h2
          have e:fd.offset=off:=by simpa using h2
          split at h3
          · rename_i i hi
            have hz:i.size ≠ 0:=by simpa using h3
            refine .pure hs hb (c:=.pointer (some ⟨p.blk,p.base+(of+off),none⟩)) ?_ (.ptr l (of+off) p hpp hvd)
            simp [execOp,ho,k',Instr.fieldAt,run_underlying hu,hfd,Instr.sureAddr,fieldPlace,Go.sizeOf,typeInfo,hi,hz,ZfX,e,Nat.add_assoc]
          · cases h3
        · cases h2
      · cases h2
    · cases h
  · cases hc
theorem ZEG (hs:StR B ρ M w) (hb:Kept B w0 w) (hf:FR ρ fr a) {off:Nat} {y:Opd} (hc:ZM P o.op (.fld1 off y)=true) (h:Ze call fr M (.fld1 off y)=some (v,M')) :
    Zfe B w0 ρ M' v ((execOp a.eval o).run P w):=by
  unfold ZM at hc
  simp only at hc
  split at hc
  · rename_i s x f ho
    simp only [Bool.and_eq_true] at hc
    have k:=Yx hf hc.1
    simp only [Ze] at h
    split at h
    · rename_i cs hp
      rw [hp] at k
      split at h
      · rename_i v' hv
        simp only [Option.some.injEq,Prod.mk.injEq] at h
        obtain ⟨rfl,rfl⟩:=h
        cases k':a.eval x <;> rw [k'] at k <;> cases k
        rename_i cc hl hh
        obtain ⟨c,hcc,hvr⟩:=(VRl.of_arrays hl hh).get hv
        have h2:=hc.2
        split at h2
        · rename_i fs hu
          split at h2
          · rename_i fd hfd
            simp only [Bool.and_eq_true] at h2
            obtain ⟨h2,h3⟩:=h2
            have e:fd.offset=off:=by simpa using h2
            have hg:ZcR P fd.type=some false:=by simpa using h3
            refine .pure hs hb (c:=c) ?_ hvr
            rw [Array.getElem?_toList] at hcc
            simp [execOp,ho,k',Instr.field,run_underlying hu,hfd,asAgg,part,Zd5 hg,e,hcc]
          · cases h2
        · cases h2
      · cases h
    · cases h
  · cases hc
theorem ZFI (hs:StR B ρ M w) (hb:Kept B w0 w) (hf:FR ρ fr a) {off n:Nat} {y:Opd} (hc:ZM P o.op (.fldn off n y)=true) (h:Ze call fr M (.fldn off n y)=some (v,M')) :
    Zfe B w0 ρ M' v ((execOp a.eval o).run P w):=by
  unfold ZM at hc
  simp only at hc
  split at hc
  · rename_i s x f ho
    simp only [Bool.and_eq_true] at hc
    have k:=Yx hf hc.1
    simp only [Ze] at h
    split at h
    · rename_i cs hp
      rw [hp] at k
      split at h
      · rename_i hle
        simp only [Option.some.injEq,Prod.mk.injEq] at h
        obtain ⟨rfl,rfl⟩:=h
        cases k':a.eval x <;> rw [k'] at k <;> cases k
        rename_i cc hl hh
        have hvr:=((VRl.of_arrays hl hh).drop off).take n
        have h2:=hc.2
        split at h2
        · rename_i fs hu
          split at h2
          · rename_i fd hfd
            simp only [Bool.and_eq_true] at h2
            obtain ⟨⟨h2,h3⟩,h4⟩:=h2
            have e:fd.offset=off:=by simpa using h2
            have hg:ZcR P fd.type=some true:=by simpa using h3
            have e2:cc.extract off (off+n)=((cc.toList.drop off).take n).toArray:=by
              apply Array.ext'
              simp [Array.toList_extract,List.extract_eq_take_drop]
            refine .pure hs hb (c:=.agg ((cc.toList.drop off).take n).toArray) ?_ (.aggl hvr)
            simp only [execOp,ho,k',Instr.field,Sem.run_bind,run_underlying hu,Result.andThen_ok,hfd,asAgg,part,Zhc hg,e,Za1 h4,Sem.run_pure,if_true,e2]
          · cases h2
        · cases h2
      · cases h
    · cases h
  · cases hc
theorem ZGT (hs:StR B ρ M w) (hb:Kept B w0 w) (hf:FR ρ fr a) {i:Nat} {y:Opd} (hc:ZM P o.op (.ext y i)=true) (h:Ze call fr M (.ext y i)=some (v,M')) :
    Zfe B w0 ρ M' v ((execOp a.eval o).run P w):=by
  unfold ZM at hc
  simp only at hc
  split at hc
  · rename_i x i' ho
    simp only [Bool.and_eq_true] at hc
    have k:=Yx hf hc.1
    have e:i=i':=by simpa using hc.2
    subst e
    simp only [Ze] at h
    split at h
    · rename_i vs hp
      rw [hp] at k
      split at h
      · rename_i v' hv
        simp only [Option.some.injEq,Prod.mk.injEq] at h
        obtain ⟨rfl,rfl⟩:=h
        generalize k':a.eval x=cx at k
        cases k with
        | O c=>simp at hv
        | tuple _ cc hl hh =>
          obtain ⟨c,hcc,hvr⟩:=(VRl.of_arrays hl hh).get hv
          rw [Array.getElem?_toList] at hcc
          exact .pure hs hb (c:=c) (by simp [execOp,ho,k',Instr.extract,hcc]) hvr
      · cases h
    · cases h
  · cases hc
theorem ZGG (hs:StR B ρ M w) (hb:Kept B w0 w) (hf:FR ρ fr a) {y:Opd} (hc:ZM P o.op (.chk y)=true) (h:Ze call fr M (.chk y)=some (v,M')) :
    Zfe B w0 ρ M' v ((execOp a.eval o).run P w):=by
  unfold ZM at hc
  simp only at hc
  split at hc
  · rename_i x ho
    have k:=Yx hf hc
    simp only [Ze] at h
    split at h
    · rename_i p hp
      rw [hp] at k
      simp only [Option.some.injEq,Prod.mk.injEq] at h
      obtain ⟨rfl,rfl⟩:=h
      generalize k':a.eval x=cx at k
      cases k with
      | ptr l of p hpp hvd=>exact .pure hs hb (c:=.pointer (some ⟨p.blk,p.base+of,none⟩)) (by simp [execOp,ho,k']) (.ptr l of p hpp hvd)
    · cases h
  · cases hc
theorem ZG9 (hs:StR B ρ M w) (hb:Kept B w0 w) (hf:FR ρ fr a) {wd:Nat} {y z:Opd} (hc:ZM P o.op (.ia wd y z)=true) (h:Ze call fr M (.ia wd y z)=some (v,M')) :
    Zfe B w0 ρ M' v ((execOp a.eval o).run P w):=by
  unfold ZM at hc
  simp only at hc
  split at hc
  · rename_i t x i ho
    simp only [Bool.and_eq_true] at hc
    have k1:=Yx hf hc.1.1
    have k2:=Yx hf hc.1.2
    simp only [Ze] at h
    split at h
    · rename_i l of n ca ki iv hp hq
      rw [hp] at k1; rw [hq] at k2
      split at h
      · rename_i hin
        simp only [Option.some.injEq,Prod.mk.injEq] at h
        obtain ⟨rfl,rfl⟩:=h
        cases e1:a.eval x <;> rw [e1] at k1 <;> cases k1
        cases e2:a.eval i <;> rw [e2] at k2 <;> cases k2
        rename_i ad c p hpp hsl
        obtain ⟨hnc,hcc,hz | ⟨hvd,rfl,htot⟩⟩:=hsl
        · omega
        · have h2:=hc.2
          unfold Zgz at h2
          split at h2
          · rename_i e hu
            refine .pure hs hb (c:=.pointer (some ⟨p.blk,p.base+(of+iv.toNat * wd),none⟩)) ?_ (.ptr l _ p hpp hvd)
            have:0≤iv∧iv < n:=hin
            simp [execOp,ho,e1,e2,Instr.indexAt,asIntOf,run_underlying hu,this,Za1 h2,ZfX,Nat.add_assoc]
          · cases h2
      · cases h
    · cases h
  · cases hc
theorem ZHh (hs:StR B ρ M w) (hb:Kept B w0 w) (hf:FR ρ fr a) {y z:Opd} (hc:ZM P o.op (.ix y z)=true) (h:Ze call fr M (.ix y z)=some (v,M')) :
    Zfe B w0 ρ M' v ((execOp a.eval o).run P w):=by
  unfold ZM at hc
  simp only at hc
  split at hc
  · rename_i t x i ho
    simp only [Bool.and_eq_true] at hc
    have k1:=Yx hf hc.1.1
    have k2:=Yx hf hc.1.2
    simp only [Ze] at h
    split at h
    · rename_i s ki iv hp hq
      rw [hp] at k1; rw [hq] at k2
      split at h
      · rename_i hin
        split at h
        · rename_i b hbb
          simp only [Option.some.injEq,Prod.mk.injEq] at h
          obtain ⟨rfl,rfl⟩:=h
          cases e1:a.eval x <;> rw [e1] at k1 <;> cases k1
          cases e2:a.eval i <;> rw [e2] at k2 <;> cases k2
          have h2:=hc.2
          split at h2
          · rename_i hu
            have e3:s[iv.toNat]?=some b:=by
              have hl:=(List.getElem?_eq_some_iff.1 hbb).1
              have hv:=(List.getElem?_eq_some_iff.1 hbb).2
              have hsz:iv.toNat < s.size:=by simpa using hl
              rw [getElem?_pos s iv.toNat hsz]
              congr 1
            refine .pure hs hb (c:=Y0 b) ?_ (.int _ _)
            simp only [execOp,ho,e1,e2,Instr.index,asIntOf,Sem.run_bind,Sem.run_pure,Result.andThen_ok,run_underlying hu,hin,if_true,e3,Y0]
          · cases h2
        · cases h
      · cases h
    · cases h
  · cases hc
theorem Zs6 {ρ:List PB} {x:V} {args:Array Operand} (k:VRl ρ [x] (args.toList.map a.eval)):∃ z,args=#[z]∧VR ρ x (a.eval z):=by
  have hl:=k.1
  simp at hl
  obtain ⟨l⟩:=args
  match l,hl with
  | [z],_=>exact ⟨z,rfl,k.2 0 _ _ (by simp) (by simp)⟩
theorem Zk7 {ρ:List PB} {x y:V} {args:Array Operand} (k:VRl ρ [x,y] (args.toList.map a.eval)):∃ z u,args=#[z,u]∧VR ρ x (a.eval z)∧VR ρ y (a.eval u):=by
  have hl:=k.1
  simp at hl
  obtain ⟨l⟩:=args
  match l,hl with
  | [z,u],_=>exact ⟨z,u,rfl,k.2 0 _ _ (by simp) (by simp),k.2 1 _ _ (by simp) (by simp)⟩
theorem ZFZ {α:Type} {xs:Array α} {x:α} (h:xs.toList=[x]):xs=#[x]:=by cases xs; simp_all
theorem ZD8 {α:Type} {xs:Array α} {x y:α} (h:xs.toList=[x,y]):xs=#[x,y]:=by cases xs; simp_all
theorem Jk {b:Builtin} {args:Array Operand} {tys:Array TypeId} (ho:o.op=.call { callee:=.builtin b,args:=args,argTypes:=tys }) (s:Sem Value)
    (hs:∀ cs,builtin b tys o.type cs (args.map a.eval)=(do pure (.value (← s)))) :
    (execOp a.eval o).run P w=(s.run P w).andThen fun c w'=>.ok (.value c) w':=by
  have:execOp a.eval o=(do let d ← resolve a.eval { callee:=.builtin b,args:=args,argTypes:=tys } o.type; invoke d.target d.args):=by
    unfold execOp; rw [ho]
  rw [this]
  simp only [resolve,Sem.run_bind,Sem.run_pure,Result.andThen_ok,invoke,hs]
theorem ZGk (hs:StR B ρ M w) (hb:Kept B w0 w) (hf:FR ρ fr a) {y:Opd} (hc:ZM P o.op (.len y)=true) (h:Ze call fr M (.len y)=some (v,M')) :
    Zfe B w0 ρ M' v ((execOp a.eval o).run P w):=by
  unfold ZM at hc
  simp only at hc
  split at hc
  · rename_i args argTypes ho
    simp only [Bool.and_eq_true] at hc
    obtain ⟨h1,h2⟩:=hc
    split at h2
    · rename_i t ht
      obtain ⟨x,rfl,k1⟩:=Zs6 (ZdQ hf h1)
      have:=ZFZ ht; subst this
      have key:=Jk (P:=P) (w:=w) (a:=a) ho (Builtin.len_ #[t] o.type #[a.eval x]) (fun _=>by simp [builtin])
      simp only [Ze] at h
      split at h2
      · rename_i e hu
        split at h
        · rename_i ad n ca hp
          rw [hp] at k1
          simp only [Option.some.injEq,Prod.mk.injEq] at h
          obtain ⟨rfl,rfl⟩:=h
          generalize e1:a.eval x=cx at k1 key
          cases k1 with
          | nil=>exact .pure hs hb (c:=.int .i64 0) (by rw [key]; simp [Builtin.len_,run_underlying hu,goInt]) (.int _ _)
          | slice l of n ca a c p hpp hsl=>exact .pure hs hb (c:=.int .i64 n) (by rw [key]; simp [Builtin.len_,run_underlying hu,goInt]) (.int _ _)
        · cases h
      · cases h2
    · cases h2
  · cases hc
theorem ZEo (hs:StR B ρ M w) (hb:Kept B w0 w) (hf:FR ρ fr a) {y:Opd} (hc:ZM P o.op (.slen y)=true) (h:Ze call fr M (.slen y)=some (v,M')) :
    Zfe B w0 ρ M' v ((execOp a.eval o).run P w):=by
  unfold ZM at hc
  simp only at hc
  split at hc
  · rename_i args argTypes ho
    simp only [Bool.and_eq_true] at hc
    obtain ⟨h1,h2⟩:=hc
    split at h2
    · rename_i t ht
      obtain ⟨x,rfl,k1⟩:=Zs6 (ZdQ hf h1)
      have:=ZFZ ht; subst this
      have key:=Jk (P:=P) (w:=w) (a:=a) ho (Builtin.len_ #[t] o.type #[a.eval x]) (fun _=>by simp [builtin])
      simp only [Ze] at h
      split at h2
      · rename_i hu
        split at h
        · rename_i s hp
          rw [hp] at k1
          simp only [Option.some.injEq,Prod.mk.injEq] at h
          obtain ⟨rfl,rfl⟩:=h
          generalize e1:a.eval x=cx at k1 key
          cases k1
          exact .pure hs hb (c:=.int .i64 s.size) (by rw [key]; simp [Builtin.len_,run_underlying hu,goInt]) (.int _ _)
        · cases h
      · cases h2
    · cases h2
  · cases hc
end
end GoAm
