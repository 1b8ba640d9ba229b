/- The operations, one by one, continued: structs, bytes as strings, new memory. -/
import Derived.Test.YtlniheedmeaeeaaGreatAmOp3
import Derived.Laws.StructEq
import Derived.Laws.CopyRow
set_option autoImplicit false
set_option linter.unusedSimpArgs false
set_option linter.unusedVariables false
namespace GoAm
open Go Go.RowKit
theorem Zob (off:Nat):∀ (vs:List V) (j:Nat) (cells:Array V),off+j+vs.length≤cells.size →
    ((vs.zipIdx j).foldl (fun cs (p:V × Nat)=>cs.setIfInBounds (off+p.2) p.1) cells).toList=splice cells.toList (off+j) vs
  | [],j,cells,h=>by simp [splice]
  | v :: vs,j,cells,h=>by
    simp only [List.length_cons] at h
    simp only [List.zipIdx_cons,List.foldl_cons]
    rw [Zob off vs (j+1) (cells.setIfInBounds (off+j) v) (by simp; omega)]
    have e:=list_seg_step cells.toList (off+j) v vs (by simp; omega)
    unfold splice
    rw [Array.toList_setIfInBounds]
    simpa [Nat.add_assoc,Nat.add_comm 1] using e
theorem VRl.splice {ρ:List PB} {as bs:List V} (h:VRl ρ as bs) {vs cs:List V} (hv:VRl ρ vs cs) (o:Nat):VRl ρ (splice as o vs) (splice bs o cs):=by
  unfold GoAm.splice
  rw [← hv.1]
  exact ((h.take o).append hv).append (h.drop _)
theorem YR (cs:List V) (o:Nat) (vs:List V) (h:o+vs.length≤cs.length):(splice cs o vs).length=cs.length:=by
  simp [splice]; omega
theorem ZpW {ρ:List PB} {place:Nat→Option (Nat × Nat)}:∀ (ps:List (Nat × Nat × V)) (qs:List (Nat × V)) (as:List V) (cc:Array V) (out:List V),
    VRl ρ as cc.toList→ps.length=qs.length→(∀ (i:Nat) (p:Nat × Nat × V) (q:Nat × V),ps[i]?=some p→qs[i]?=some q→place q.1=some (p.1,p.2.1)∧VR ρ p.2.2 q.2) →
    Zi2 as ps=some out→∃ oc:Array V,Instr.fill place cc qs=some oc∧VRl ρ out oc.toList
  | [],[],as,cc,out,h,_,_,he=>by
    simp only [Zi2,Option.some.injEq] at he; subst he; exact ⟨cc,rfl,h⟩
  | [],_ :: _,_,_,_,_,hl,_,_=>by simp at hl
  | _ :: _,[],_,_,_,_,hl,_,_=>by simp at hl
  | (off,n,v) :: ps,(i,c) :: qs,as,cc,out,h,hl,hp,he=>by
    simp only [Zi2] at he
    split at he
    · rename_i hc
      obtain ⟨h1,h2,h3⟩:=hc
      obtain ⟨hpl,hvr⟩:=hp 0 _ _ (by simp; rfl) (by simp; rfl)
      simp only at hpl hvr
      have hcs:=hvr.cellsOf (Zmb h3)
      have hsz:c.cells.size=n:=by have:=hcs.1; simp at this; omega
      have hle:off+n≤cc.size:=by have:=h.1; simp at this; omega
      have key:=Zob off c.cells.toList 0 cc (by simp; omega)
      have harr:(c.cells.zipIdx.foldl (fun cs (p:V × Nat)=>cs.setIfInBounds (off+p.2) p.1) cc).toList=splice cc.toList off c.cells.toList:=by
        rw [Nat.add_zero] at key
        rw [← key,← Array.foldl_toList]
        simp [Array.toList_zipIdx]
      obtain ⟨oc,e1,e2⟩:=ZpW ps qs (splice as off (cellsOf v)) (c.cells.zipIdx.foldl (fun cs (p:V × Nat)=>cs.setIfInBounds (off+p.2) p.1) cc) out
        (by rw [harr]; exact h.splice hcs off) (by simpa using hl) (fun i p q h4 h5=>hp (i+1) p q (by simpa using h4) (by simpa using h5)) he
      refine ⟨oc,?_,e2⟩
      rw [← e1]
      simp only [Instr.fill,hpl]
      rw [if_neg]
      simp [hsz]; omega
    · cases he
section
variable {P:Program} {B:Nat→Nat} {w0 w:World} {ρ:List PB} {M M':Mem} {fr:List V} {a:Act} {o:Oper} {v:V} {call:Yd}
theorem Zim {t:TypeId} {zero:List V} (h:zB P t zero=true):∃ z:V,(zeroValue t).run P w=.ok z w∧z.cells.toList=zero∧∀ ρ,VRl ρ zero z.cells.toList:=by
  unfold zB at h
  split at h
  · rename_i i hi
    split at h
    · rename_i z hz
      exact ⟨z,by simp [zeroValue,typeInfo,hi,hz],ZqR h,fun ρ=>ZwE h⟩
    · cases h
  · cases h
theorem ZoZ {fs:List Field} (h:∀ f ∈ fs,(P.info? f.type).isSome=true) :
    (fs.mapM (m:=Sem) fun f=>do pure (f.offset,← Go.sizeOf f.type)).run P w=.ok (fs.map fun f=>(f.offset,P.cellsOf f.type)) w:=by
  induction fs with
  | nil=>simp
  | cons f fs ih =>
    obtain ⟨i,hi⟩:=Option.isSome_iff_exists.1 (h f (by simp))
    have e:(Go.sizeOf f.type).run P w=.ok (P.cellsOf f.type) w:=by simp [Go.sizeOf,typeInfo,hi,Program.cellsOf]
    simp only [List.mapM_cons,Sem.run_bind,e,Result.andThen_ok,Sem.run_pure,ih (fun g hg=>h g (by simp [hg])),List.map_cons]
theorem Zrb {hf:FR ρ fr a} {fs:Array Field}:∀ {ps:List (Nat × Operand)} {qs:List (Nat × Nat × Opd)},Zen P fs ps qs=true →
    (Zdi fr qs).length=(ps.map fun p=>(p.1,a.eval p.2)).length∧∀ (i:Nat) (p:Nat × Nat × V) (q:Nat × V),(Zdi fr qs)[i]?=some p→(ps.map fun p=>(p.1,a.eval p.2))[i]?=some q →
      ((fs.toList.map fun f=>(f.offset,P.cellsOf f.type)).toArray[q.1]?)=some (p.1,p.2.1)∧VR ρ p.2.2 q.2
  | [],[],_=>by simp [Zdi]
  | [],_ :: _,h=>by simp [Zen] at h
  | _ :: _,[],h=>by simp [Zen] at h
  | (i,x) :: ps,(off,n,y) :: qs,h=>by
    simp only [Zen,Bool.and_eq_true] at h
    obtain ⟨⟨h1,h2⟩,h3⟩:=h
    obtain ⟨l,r⟩:=Zrb (hf:=hf) h3
    refine ⟨by simpa [Zdi] using l,fun j p q hp hq=>?_⟩
    cases j with
    | zero =>
      simp [Zdi] at hp hq
      subst hp; subst hq
      split at h1
      · rename_i f hff
        simp only [Bool.and_eq_true] at h1
        have e1:f.offset=off:=by simpa using h1.1
        have e2:P.cellsOf f.type=n:=by
          have:=h1.2
          unfold szB at this
          split at this
          · rename_i inf hi; simp [Program.cellsOf,hi]; simpa using this
          · cases this
        exact ⟨by simp [hff,e1,e2],Yx hf h2⟩
      · cases h1
    | succ j=>simp [Zdi] at hp hq; exact r j p q (by simpa [Zdi] using hp) (by simpa using hq)
theorem ZDu (hs:StR B ρ M w) (hb:Kept B w0 w) (hf:FR ρ fr a) {zero:List V} {qs:List (Nat × Nat × Opd)} (hc:ZM P o.op (.build zero qs)=true) (h:Ze call fr M (.build zero qs)=some (v,M')) :
    Zfe B w0 ρ M' v ((execOp a.eval o).run P w):=by
  unfold ZM at hc
  simp only at hc
  split at hc
  · rename_i t ps ho
    simp only [Bool.and_eq_true] at hc
    obtain ⟨hz,h2⟩:=hc
    split at h2
    · rename_i fs hu
      simp only [Bool.and_eq_true] at h2
      obtain ⟨h2,h3⟩:=h2
      simp only [Ze,Option.map_eq_some_iff,Prod.mk.injEq] at h
      obtain ⟨out,hfill,rfl,rfl⟩:=h
      obtain ⟨z,hz1,hz2,hz3⟩:=Zim (P:=P) (w:=w) hz
      obtain ⟨l,r⟩:=Zrb (hf:=hf) h3
      obtain ⟨oc,e1,e2⟩:=ZpW (place:=((fs.toList.map fun f=>(f.offset,P.cellsOf f.type)).toArray[·]?)) _ _ _ z.cells out (hz3 ρ) l r hfill
      refine .pure hs hb (c:=.agg oc) ?_ (by have:=VR.aggl e2; simpa using this)
      have hm:(fs.mapM (m:=Sem) fun f=>do pure (f.offset,← Go.sizeOf f.type)).run P w=.ok (fs.toList.map fun f=>(f.offset,P.cellsOf f.type)).toArray w:=by
        rw [Array.mapM_eq_mapM_toList]
        simp only [Sem.run_map,ZoZ (fun f hf=>by simpa using (List.all_eq_true.1 h2 f hf)),Result.andThen_ok]
      simp only [execOp,ho,Instr.build,Sem.run_bind,hz1,Result.andThen_ok,run_underlying hu,hm]
      have e3:(ps.map fun (p:Nat × Operand)=>(p.1,a.eval p.2)).toList=ps.toList.map fun p=>(p.1,a.eval p.2):=by simp
      rw [e3,e1]
      rfl
    · cases h2
  · cases hc
theorem Zx3 {d:Nat} {xs ys:Array V}:∀ (fs:List Field) (ks:List Nat) (i:Nat) (as bs:List V) (r:Bool),Zej P i fs ks=true→VRl ρ as (xs.toList.drop i)→VRl ρ bs (ys.toList.drop i) →
    ZdG ks as bs=some r→(Op.eqFields (d+1) xs ys fs).run P w=.ok r w
  | [],ks,i,as,bs,r,hp,ha,hb,he=>by
    cases ks with
    | cons _ _=>simp [Zej] at hp
    | nil=>cases as with
      | cons _ _=>simp [ZdG] at he
      | nil=>cases bs with
        | cons _ _=>simp [ZdG] at he
        | nil=>simp only [ZdG,Option.some.injEq] at he; subst he; simp [Op.eqFields]
  | f :: fs,ks,i,as,bs,r,hp,ha,hb,he=>by
    cases ks with
    | nil=>simp [Zej] at hp
    | cons kd ks=>cases as with
      | nil=>simp [ZdG] at he
      | cons x as=>cases bs with
        | nil=>simp [ZdG] at he
        | cons y bs =>
          simp only [Zej,Bool.and_eq_true] at hp
          obtain ⟨⟨⟨hof,hn⟩,ht⟩,hp⟩:=hp
          have hof:f.offset=i:=by simpa using hof
          have hn : f.name ≠ "_" := by simpa using hn
          obtain ⟨cx,hcx,hvx⟩:=ha.get (n:=0) (v:=x) (by simp)
          obtain ⟨cy,hcy,hvy⟩:=hb.get (n:=0) (v:=y) (by simp)
          have hcx':xs[f.offset]?=some cx:=by rw [hof]; simpa [List.getElem?_drop] using hcx
          have hcy':ys[f.offset]?=some cy:=by rw [hof]; simpa [List.getElem?_drop] using hcy
          have hag:ZcR P f.type=some false:=by
            unfold ZoA at ht
            unfold ZcR
            split at ht
            · split at ht
              · rename_i e; rw [e]
              · cases ht
            · split at ht
              · rename_i e; rw [e]
              · cases ht
            · split at ht
              · rename_i e; rw [e]
              · cases ht
            · cases ht
          have hpx:(part f.type xs f.offset).run P w=.ok cx w:=by simp [part,Zd5 hag,hcx']
          have hpy:(part f.type ys f.offset).run P w=.ok cy w:=by simp [part,Zd5 hag,hcy']
          have hs1:VRl ρ as (xs.toList.drop (i+1)):=by
            have:=ha.drop 1
            simpa [List.drop_drop,Nat.add_comm] using this
          have hs2:VRl ρ bs (ys.toList.drop (i+1)):=by
            have:=hb.drop 1
            simpa [List.drop_drop,Nat.add_comm] using this
          have key:∀ q:Bool,Zmw kd x y=some q→(Op.equalIn (d+1) f.type cx cy).run P w=.ok q w:=by
            intro q hq
            unfold Zmw at hq
            split at hq
            · cases hvx; cases hvy
              cases hq
              simp only [ZoA] at ht
              split at ht
              · rename_i e; exact run_equalIn_bool w d _ _ _ e
              · cases ht
            · cases hvx; cases hvy
              split at hq
              · rename_i e2; subst e2; cases hq
                simp only [ZoA] at ht
                split at ht
                · rename_i e; exact run_equalIn_int w d _ _ _ _ _ e
                · cases ht
              · cases hq
            · cases hvx; cases hvy
              cases hq
              simp only [ZoA] at ht
              split at ht
              · rename_i e; rw [run_equalIn_string w d _ _ _ e]; simp [ByteArray.toList_eq]
              · cases ht
            · cases hq
          simp only [ZdG] at he
          split at he
          · rename_i hq
            have ih:=Zx3 (d:=d) fs ks (i+1) as bs r hp hs1 hs2 he
            simp only [Op.eqFields,if_pos hn,Sem.run_bind,hpx,hpy,key _ hq,Result.andThen_ok]
            simpa using ih
          · rename_i hq
            cases he
            simp only [Op.eqFields,if_pos hn,Sem.run_bind,hpx,hpy,key _ hq,Result.andThen_ok]
            simp
          · cases he
theorem ZF9 (hs:StR B ρ M w) (hb:Kept B w0 w) (hf:FR ρ fr a) {ng:Bool} {ks:List Nat} {y z:Opd} (hc:ZM P o.op (.eqs ng ks y z)=true) (h:Ze call fr M (.eqs ng ks y z)=some (v,M')) :
    Zfe B w0 ρ M' v ((execOp a.eval o).run P w):=by
  unfold ZM at hc
  simp only at hc
  split at hc
  · rename_i op t x u ty ho
    simp only [Bool.and_eq_true,Bool.not_eq_true'] at hc
    obtain ⟨⟨⟨⟨⟨h1,h2⟩,h3⟩,h4⟩,h5⟩,h6⟩:=hc
    have k1:=Yx hf h2; have k2:=Yx hf h3
    simp only [Ze] at h
    split at h
    · rename_i xs ys hp hq
      rw [hp] at k1; rw [hq] at k2
      simp only [Option.map_eq_some_iff,Prod.mk.injEq] at h
      obtain ⟨r,hr,rfl,rfl⟩:=h
      cases e1:a.eval x <;> rw [e1] at k1 <;> cases k1
      cases e2:a.eval u <;> rw [e2] at k2 <;> cases k2
      rename_i cx hlx hhx cy hly hhy
      split at h4
      · rename_i fs hu
        have hff:P.fieldsOf t=fs:=by simp [Program.fieldsOf,hu]
        have he:(Op.equalIn 10000 t (.agg cx) (.agg cy)).run P w=.ok r w:=by
          rw [run_equalIn_struct (P:=P) w 9999 t cx cy (by rw [hff]; exact hu) h6,hff]
          exact Zx3 (d:=9998) fs.toList ks 0 xs.toList ys.toList r h4 (by simpa using VRl.of_arrays hlx hhx) (by simpa using VRl.of_arrays hly hhy) hr
        have hg:=run_eqGuard_agg (P:=P) w op t x u cx cy h5
        cases ng with
        | true =>
          have e:=ZkJ h1
          subst e
          refine .pure hs hb (c:=.bool (r != true)) ?_ (.bool _)
          simp only [if_true] at hg
          simp only [execOp,ho,e1,e2,Sem.run_bind,if_true,hg,Result.andThen_ok,binOp,Op.equal,Op.maxDepth,he,Sem.run_pure]
          cases r <;> rfl
        | false =>
          have e:=ZkJ h1
          subst e
          refine .pure hs hb (c:=.bool (r != false)) ?_ (.bool _)
          simp only [Bool.false_eq_true,if_false] at hg
          simp only [execOp,ho,e1,e2,Sem.run_bind,Bool.false_eq_true,if_false,hg,Result.andThen_ok,binOp,Op.equal,Op.maxDepth,he,Sem.run_pure]
          cases r <;> rfl
      · cases h4
    · cases h
  · cases hc
theorem StR.cells (hs:StR B ρ M w) {wd:Nat} {x c:V} {n:Nat} {vs:List V} (h:Zj M wd x=some (n,vs)) (hv:VR ρ x c) :
    ∃ (ad:Option Addr) (cp:Nat) (cc:List V),c=.slice ad n cp∧cc.length=n * wd∧VRl ρ vs cc∧(∀ v ∈ vs,one v=true) ∧
      (ad=none→cc=[])∧∀ a,ad=some a→∀ (j:Nat) (v:V),cc[j]?=some v→w.cell? (a.add j)=some v:=by
  unfold Zj at h
  split at h
  · simp only [Option.some.injEq,Prod.mk.injEq] at h
    obtain ⟨rfl,rfl⟩:=h
    cases hv
    exact ⟨none,0,[],rfl,by simp,.nil,by simp,(fun _=>rfl),(fun a ha=>by cases ha)⟩
  · cases hv
    rename_i l of n' ca ad cp p hpp hsl
    split at h
    · rename_i hz
      simp only [Option.some.injEq,Prod.mk.injEq] at h
      obtain ⟨rfl,rfl⟩:=h
      exact ⟨some ad,cp,[],rfl,by simp [hz],.nil,by simp,(fun _=>rfl),(fun a ha j v hj=>by simp at hj)⟩
    · rename_i hz
      simp only [Option.map_eq_some_iff,Prod.mk.injEq] at h
      obtain ⟨vs',hr,rfl,rfl⟩:=h
      obtain ⟨cc,hl,hvr,h1,hcell⟩:=hs.rdn hr hpp
      obtain ⟨_,_,hz' | ⟨_,rfl,_⟩⟩:=hsl
      · rw [hz'.1] at hz; simp at hz
      · refine ⟨some _,cp,cc,rfl,hl,hvr,h1,(fun e=>by cases e),?_⟩
        intro a ha j v hj
        cases ha
        exact hcell j v hj
  · cases h
theorem ZnP:∀ {vs cc:List V} {bs:List UInt8},VRl ρ vs cc→Zf6 vs=some bs→cc=vs
  | [],[],_,_,_=>rfl
  | [],_ :: _,_,h,_=>by have:=h.1; simp at this
  | _ :: _,[],_,h,_=>by have:=h.1; simp at this
  | v :: vs,c :: cc,bs,h,he=>by
    unfold Zf6 at he
    split at he
    · rename_i heq; cases heq
    · rename_i n rest' heq
      cases heq
      simp only [Option.map_eq_some_iff] at he
      obtain ⟨bs',hb,_⟩:=he
      have h0:=h.2 0 _ _ (List.getElem?_cons_zero) (List.getElem?_cons_zero)
      cases h0
      rw [ZnP (vs:=vs) (cc:=cc) ⟨by have:=h.1; simpa using this,fun i p q hp hq=>h.2 (i+1) p q (by simpa using hp) (by simpa using hq)⟩ hb]
    · cases he
end
end GoAm
