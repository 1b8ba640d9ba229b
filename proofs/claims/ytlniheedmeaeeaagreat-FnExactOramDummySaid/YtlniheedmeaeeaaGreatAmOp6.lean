/- The operations, one by one, the last: what writes memory. -/
import Derived.Test.YtlniheedmeaeeaaGreatAmOp5
set_option autoImplicit false
set_option linter.unusedSimpArgs false
set_option linter.unusedVariables false
namespace GoAm
open Go Go.RowKit
section
variable {P:Program} {B:Nat→Nat} {w0 w:World} {ρ:List PB} {M M':Mem} {fr:List V} {a:Act} {o:Oper} {v:V} {call:Yd}
theorem ZgM (P:Program) (g o:Nat) (t:TypeId) (fz:Nat × Nat):∀ (vs:List Value) (i:Nat) (cur:Array Value) (w:World),w.heap[g]?=some (.cells cur t fz) →
    (∀ j,j < cur.size→¬ (fz.1≤j∧j < fz.2))→o+i+vs.length≤cur.size→(∀ v ∈ vs,v.oneCell'=true) →
    (storeCells ⟨g,o,none⟩ vs i).run P w=.ok () (w.setRow g (cur.toList.take (o+i)++vs++cur.toList.drop (o+i+vs.length)).toArray)
  | [],i,cur,w,hg,_,_,_=>by
    simp only [storeCells,List.append_nil,List.length_nil,Nat.add_zero,List.take_append_drop,Array.toArray_toList]
    rw [setRow_self w g cur t fz hg]
    rfl
  | v :: rest,i,cur,w,hg,hfz,hl,h1=>by
    have hi:o+i < cur.size:=by simp at hl; omega
    have hcell:w.cell? ⟨g,o+i,none⟩=some cur[o+i]:=by simp [World.cell?,hg,hi]
    have hfro:w.frozen? ⟨g,o+i,none⟩=false:=by
      obtain ⟨lo,hi'⟩:=fz
      have:=hfz (o+i) hi
      simp only [World.frozen?,hg,Bool.and_eq_false_iff,decide_eq_false_iff_not]
      simp only at this
      omega
    have hst:(store ((⟨g,o,none⟩:Addr).add i) v).run P w=.ok () (w.setRow g (cur.setIfInBounds (o+i) v)):=by
      rw [ZfX,run_store P w _ v _ (h1 v (by simp)),hcell]
      simp [hfro,setCell_eq_setRow w g (o+i) cur t fz v hg]
    have ih:=ZgM P g o t fz rest (i+1) (cur.setIfInBounds (o+i) v) (w.setRow g (cur.setIfInBounds (o+i) v)) (setRow_heap w g cur _ t _ hg) (by simpa using hfz) (by simp at hl ⊢; omega) (fun x hx=>h1 x (by simp [hx]))
    simp only [storeCells,Sem.run_bind,hst,Result.andThen_ok,ih,setRow_setRow]
    congr 3
    have e:=list_seg_step cur.toList (o+i) v rest (by simp at hl ⊢; omega)
    simpa [Array.toList_setIfInBounds,Nat.add_assoc] using e
theorem Zq4 (w:World) {g:Nat} (hg:B g=0) (cs:Array V):Kept B w (w.setRow g cs) :=
  ⟨rfl,rfl,rfl,by simp,fun k hk=>setRow_other w g k cs (fun e=>hk (by rw [e]; exact hg))⟩
theorem StR.write (hs:StR B ρ M w) {l of:Nat} {b:Blk} {p:PB} (hb:M[l]?=some b) (hp:ρ[l]?=some p) (hst:b.st=2) {cc:List V}
    (hone:∀ c ∈ cc,c.oneCell'=true) (hfit:p.base+of+cc.length≤p.tot) :
    ∃ (w':World) (cs:Array V) (T:TypeId) (fz:Nat × Nat),(storeCells ⟨p.blk,p.base+of,none⟩ cc).run P w=.ok () w'∧Kept B w w' ∧
      w.heap[p.blk]?=some (.cells cs T fz)∧w'.heap[p.blk]?=some (.cells (splice cs.toList (p.base+of) cc).toArray T fz)∧(∀ k,k ≠ p.blk→w'.heap[k]?=w.heap[k]?) ∧
      cs.size=p.tot∧p.base+b.cells.length≤cs.size∧(∀ (i:Nat) (v:V),b.cells[i]?=some v→one v=true∧∃ c,cs[p.base+i]?=some c∧VR ρ v c) ∧
      (∀ i,(i < cs.size∨i=cs.size∧1 < b.w)→¬ (fz.1≤i∧i < fz.2)):=by
  obtain ⟨_,cs,T,fz,h1,h2,h3,h4,h5⟩:=hs.blk l b p hb hp (.inr hst)
  have hr:=ZgM P p.blk (p.base+of) T fz cc 0 cs w h1 (fun j hj=>h5 hst j (.inl hj)) (by omega) hone
  simp only [Nat.add_zero] at hr
  exact ⟨_,cs,T,fz,hr,Zq4 w (hs.own l b p hb hp hst) _,h1,setRow_heap w p.blk cs _ T fz h1,fun k hk=>setRow_other w p.blk k _ hk,h2,h3,h4,h5 hst⟩
theorem ZjV (cs:List V) (o:Nat) (vs:List V) (h:o+vs.length≤cs.length) (i:Nat) :
    (splice cs o vs)[i]?=if i < o then cs[i]? else if i < o+vs.length then vs[i - o]? else cs[i]?:=by
  unfold splice
  have hl:(cs.take o).length=o:=by simp; omega
  split
  · rename_i hi
    rw [List.append_assoc,List.getElem?_append_left (by omega),List.getElem?_take,if_pos hi]
  · rename_i hi
    rw [List.append_assoc,List.getElem?_append_right (by omega),hl]
    split
    · rename_i hi2
      rw [List.getElem?_append_left (by omega)]
    · rename_i hi2
      rw [List.getElem?_append_right (by omega),List.getElem?_drop]
      congr 1
      omega
theorem StR.wrn (hs:StR B ρ M w) {l of:Nat} {p:PB} {vs cc:List V} (h:wrn M l of vs=some M') (hp:ρ[l]?=some p) (hv:VRl ρ vs cc) :
    ∃ w',(storeCells ⟨p.blk,p.base+of,none⟩ cc).run P w=.ok () w'∧StR B ρ M' w'∧Kept B w w':=by
  unfold GoAm.wrn at h
  split at h
  · rename_i b hb
    split at h
    · rename_i hcond
      obtain ⟨hst,hle,hone⟩:=hcond
      cases h
      have hone':∀ c ∈ cc,c.oneCell'=true:=by
        intro c hc
        obtain ⟨i,hi⟩:=List.getElem?_of_mem hc
        have hl:i < vs.length:=by rw [hv.1]; exact (List.getElem?_eq_some_iff.1 hi).1
        exact (hv.2 i vs[i] c (by simp [hl]) hi).one (List.all_eq_true.1 hone _ (List.getElem_mem hl))
      have htot:p.base+b.cells.length≤p.tot:=by
        obtain ⟨_,cs,T,fz,h1,h2,h3,_⟩:=hs.blk l b p hb hp (.inr hst)
        omega
      obtain ⟨w',cs,T,fz,hr,hbel,h1,h2,h3,h4,h5,h6,h7⟩:=hs.write (P:=P) hb hp hst (cc:=cc) (of:=of) hone' (by rw [← hv.1]; omega)
      refine ⟨w',hr,?_,hbel⟩
      have hcl:p.base+of+cc.length≤cs.toList.length:=by rw [← hv.1]; simp; omega
      refine hs.upd hb hp hst (.inl hst) rfl (fun _=>⟨_,T,fz,h2,?_,?_,?_,?_⟩) h3
      · rw [List.size_toArray,YR _ _ _ hcl]; simpa using h4
      · rw [List.size_toArray,YR _ _ _ hcl]
        show p.base+(splice b.cells of vs).length≤_
        rw [YR _ _ _ hle]; simpa using h5
      · intro i v hi
        change (splice b.cells of vs)[i]?=some v at hi
        rw [ZjV _ _ _ hle] at hi
        rw [List.getElem?_toArray,ZjV _ _ _ hcl]
        split at hi
        · rename_i hlt
          rw [if_pos (by omega)]
          obtain ⟨x1,c,x2,x3⟩:=h6 i v hi
          exact ⟨x1,c,by simpa using x2,x3⟩
        · rename_i hge
          rw [if_neg (by omega)]
          split at hi
          · rename_i hlt
            rw [if_pos (by rw [← hv.1]; omega)]
            obtain ⟨c,x2,x3⟩:=hv.get hi
            exact ⟨List.all_eq_true.1 hone _ (List.mem_of_getElem? hi),c,by rw [← x2]; congr 1; omega,x3⟩
          · rename_i hge2
            rw [if_neg (by rw [← hv.1]; omega)]
            obtain ⟨x1,c,x2,x3⟩:=h6 i v hi
            exact ⟨x1,c,by simpa using x2,x3⟩
      · intro _ i hi
        rw [List.size_toArray,YR _ _ _ hcl] at hi
        exact h7 i (by simpa using hi)
    · cases h
  · cases h
theorem ZGf {wd l of:Nat} {vs:List V} (h:wre wd M l of vs=some M'):∃ b,M[l]?=some b∧b.w=wd:=by
  unfold GoAm.wre at h
  split at h
  · rename_i b hb
    split at h
    · rename_i hc; exact ⟨b,hb,hc.2.1⟩
    · cases h
  · cases h
theorem StR.wre (hs:StR B ρ M w) {wd l of:Nat} {p:PB} {vs cc:List V} (h:wre wd M l of vs=some M') (hp:ρ[l]?=some p) (hv:VRl ρ vs cc) (hfit:p.base+of+vs.length≤p.tot) :
    ∃ w',(storeCells ⟨p.blk,p.base+of,none⟩ cc).run P w=.ok () w'∧StR B ρ M' w'∧Kept B w w':=by
  unfold GoAm.wre at h
  split at h
  · rename_i b hb
    split at h
    · rename_i hcond
      obtain ⟨hst,hbw,hle,hge,hone⟩:=hcond
      cases h
      have hone':∀ c ∈ cc,c.oneCell'=true:=by
        intro c hc
        obtain ⟨i,hi⟩:=List.getElem?_of_mem hc
        have hl:i < vs.length:=by rw [hv.1]; exact (List.getElem?_eq_some_iff.1 hi).1
        exact (hv.2 i vs[i] c (by simp [hl]) hi).one (List.all_eq_true.1 hone _ (List.getElem_mem hl))
      obtain ⟨w',cs,T,fz,hr,hbel,h1,h2,h3,h4,h5,h6,h7⟩:=hs.write (P:=P) hb hp hst (cc:=cc) (of:=of) hone' (by rw [← hv.1]; exact hfit)
      refine ⟨w',hr,?_,hbel⟩
      have hcl:p.base+of+cc.length≤cs.toList.length:=by rw [← hv.1]; simp; omega
      refine hs.upd hb hp hst (.inl hst) rfl (fun _=>⟨_,T,fz,h2,?_,?_,?_,?_⟩) h3
      · rw [List.size_toArray,YR _ _ _ hcl]; simpa using h4
      · rw [List.size_toArray,YR _ _ _ hcl]
        show p.base+(b.cells.take of++vs).length≤_
        simp only [List.length_append,List.length_take,Array.length_toList]
        omega
      · intro i v hi
        change (b.cells.take of++vs)[i]?=some v at hi
        rw [List.getElem?_toArray,ZjV _ _ _ hcl]
        have htl:(b.cells.take of).length=of:=by simp; omega
        by_cases hlt:i < of
        · rw [List.getElem?_append_left (by omega),List.getElem?_take,if_pos hlt] at hi
          rw [if_pos (by omega)]
          obtain ⟨x1,c,x2,x3⟩:=h6 i v hi
          exact ⟨x1,c,by simpa using x2,x3⟩
        · rw [List.getElem?_append_right (by omega),htl] at hi
          have hlv:=(List.getElem?_eq_some_iff.1 hi).1
          rw [if_neg (by omega),if_pos (by rw [← hv.1]; omega)]
          obtain ⟨c,x2,x3⟩:=hv.get hi
          exact ⟨List.all_eq_true.1 hone _ (List.mem_of_getElem? hi),c,by rw [← x2]; congr 1; omega,x3⟩
      · intro _ i hi
        rw [List.size_toArray,YR _ _ _ hcl] at hi
        exact h7 i (by simpa using hi)
    · cases h
  · cases h
theorem ZFp {l of:Nat} {vs:List V} (h:wrn M l of vs=some M'):vs.all one=true:=by
  unfold GoAm.wrn at h
  split at h
  · split at h
    · rename_i hc; exact hc.2.2
    · cases h
  · cases h
theorem ZB3 (hs:StR B ρ M w) (hb:Kept B w0 w) (hf:FR ρ fr a) {n:Nat} {y z:Opd} (hc:ZM P o.op (.store n y z)=true) (h:Ze call fr M (.store n y z)=some (v,M')) :
    Zfe B w0 ρ M' v ((execOp a.eval o).run P w):=by
  unfold ZM at hc
  simp only at hc
  split at hc
  · rename_i t x u ho
    simp only [Bool.and_eq_true] at hc
    obtain ⟨⟨h1,h2⟩,h3⟩:=hc
    have k1:=Yx hf h1; have k2:=Yx hf h2
    simp only [Ze] at h
    split at h
    · rename_i l of hp
      rw [hp] at k1
      split at h
      · rename_i hn
        simp only [Option.map_eq_some_iff,Prod.mk.injEq] at h
        obtain ⟨M2,hw,rfl,rfl⟩:=h
        cases e1:a.eval x <;> rw [e1] at k1 <;> cases k1
        rename_i p hvd hpp
        have hcs:=k2.cellsOf (Zmb (ZFp hw))
        obtain ⟨w',hr,hst,hbel⟩:=hs.wrn (P:=P) hw hpp hcs
        refine ⟨undef,w',ρ,.inr ⟨?_,rfl⟩,List.prefix_refl _,hst,hb.trans hbel,.O _⟩
        have hsz:(a.eval u).cells.size=n:=by have:=hcs.1; simp at this; omega
        simp only [execOp,ho,e1,Instr.storeAt,Instr.sureAddr,storeVar,Sem.run_bind,Sem.run_pure,Result.andThen_ok,Za1 h3]
        rw [if_neg (by simp [hsz])]
        rw [hr]
        rfl
      · cases h
    · cases h
  · cases hc
theorem ZcK {P:Program} {w:World} {ad:Option Addr} {n cp wd m:Nat} {cc:List V} (hl:cc.length=m * wd) (hn:ad=none→cc=[])
    (hcell:∀ a,ad=some a→∀ (j:Nat) (v:V),cc[j]?=some v→w.cell? (a.add j)=some v) :
    (Builtin.firstCells wd m (.slice ad n cp)).run P w=.ok cc.toArray w:=by
  cases ad with
  | none=>rw [hn rfl]; rfl
  | some a =>
    have:=run_loadCells_list (P:=P) w a cc (hcell a rfl)
    rw [hl] at this
    simpa [Builtin.firstCells] using this
theorem ZEl (hs:StR B ρ M w) (hb:Kept B w0 w) (hf:FR ρ fr a) {wd:Nat} {y z:Opd} (hc:ZM P o.op (.copy wd y z)=true) (h:Ze call fr M (.copy wd y z)=some (v,M')) :
    Zfe B w0 ρ M' v ((execOp a.eval o).run P w):=by
  unfold ZM at hc
  simp only at hc
  split at hc
  · rename_i args tys ho
    simp only [Bool.and_eq_true] at hc
    obtain ⟨h1,h2⟩:=hc
    obtain ⟨x,u,rfl,k1,k2⟩:=Zk7 (ZdQ hf h1)
    split at h2
    · rename_i t t' htl
      have:=ZD8 htl; subst this
      unfold Zgz at h2
      split at h2
      · rename_i e hu
        have key:=Jk (P:=P) (w:=w) (a:=a) ho (Builtin.copy_ #[t,t'] o.type #[a.eval x,a.eval u]) (fun _=>by simp [builtin])
        simp only [Ze] at h
        split at h
        · rename_i ad n ca bd m cb hp hq
          rw [hp] at k1; rw [hq] at k2
          split at h
          · rename_i kk cs hsc
            have hdst:∃ (ad':Option Addr) (c':Nat),a.eval x=.slice ad' n c':=by
              generalize a.eval x=cx at k1
              cases k1
              · exact ⟨_,_,rfl⟩
              · exact ⟨_,_,rfl⟩
            obtain ⟨ad',c',e1⟩:=hdst
            have hsrc:∃ (bd':Option Addr) (c':Nat),a.eval u=.slice bd' m c'∧VR ρ (.slice bd (min m n) 0) (.slice bd' (min m n) c'):=by
              generalize a.eval u=cu at k2
              cases k2 with
              | nil=>exact ⟨none,0,rfl,by simpa using .nil⟩
              | slice l of _ _ ad' c' p hpp hsl =>
                refine ⟨some ad',c',rfl,.slice l of _ _ ad' c' p hpp ⟨by have:=hsl.1; omega,by omega,?_⟩⟩
                rcases hsl.2.2 with ⟨hz1,hz2⟩ | h'
                · exact .inl ⟨by omega,hz2⟩
                · exact .inr h'
            obtain ⟨bd',c2,e2,hvs⟩:=hsrc
            obtain ⟨ad2,cp,cc,e3,hl,hvr,hone,hn,hcell⟩:=hs.cells hsc hvs
            cases e3
            have hfc:=ZcK (P:=P) (w:=w) (n:=m) (cp:=c2) (wd:=wd) (m:=min m n) hl hn hcell
            have hrun:∀ w',(match ad' with
                | some ad'=>(storeCells ad' cc).run P w
                | none=>.ok () w)=.ok () w'→(execOp a.eval o).run P w=.ok (.value (.int .i64 (min m n:Nat))) w':=by
              intro w' hst
              rw [key,e1,e2]
              have hmin:Nat.min m n=min m n:=rfl
              cases ad' with
              | none =>
                cases hst
                simp [Builtin.copy_,run_underlying hu,Builtin.lenOf,Za1 h2,hmin,hfc,goInt]
              | some ad' =>
                simp only at hst
                simp [Builtin.copy_,run_underlying hu,Builtin.lenOf,Za1 h2,hmin,hfc,goInt,hst]
            rw [e1] at k1
            cases k1 with
            | nil =>
              simp only [Option.some.injEq,Prod.mk.injEq] at h
              obtain ⟨rfl,rfl⟩:=h
              exact .pure hs hb (hrun w rfl) (.int _ _)
            | slice l of _ _ ad3 c3 p hpp hsl =>
              simp only at h
              split at h
              · rename_i hcs
                simp only [Option.some.injEq,Prod.mk.injEq] at h
                obtain ⟨rfl,rfl⟩:=h
                have:cc=[]:=by have:=hvr.1; rw [hcs] at this; simpa using this.symm
                subst this
                exact .pure hs hb (hrun w (by simp [storeCells])) (.int _ _)
              · rename_i hcs
                simp only [Option.map_eq_some_iff,Prod.mk.injEq] at h
                obtain ⟨M2,hw,rfl,rfl⟩:=h
                have hne:cs ≠ []:=hcs
                have hn0:min m n ≠ 0:=by
                  intro h0
                  have:=hvr.1
                  rw [hl,h0] at this
                  simp at this
                  exact hne (by simpa using this)
                have hsl0:=hsl
                obtain ⟨_,_,⟨hz1,hz2⟩ | ⟨hv,rfl,htt⟩⟩:=hsl
                · omega
                · rcases Option.or_eq_some_iff.1 hw with hw | ⟨_,hw⟩
                  · obtain ⟨w',hr,hst,hbel⟩:=hs.wrn (P:=P) hw hpp hvr
                    exact ⟨_,w',ρ,.inl (hrun w' hr),List.prefix_refl _,hst,hb.trans hbel,.int _ _⟩
                  · obtain ⟨w',hr,hst,hbel⟩:=hs.wre (P:=P) hw hpp hvr (by
                      have h1:=hvr.1
                      rw [hl] at h1
                      have h2:min m n * wd≤c' * wd:=Nat.mul_le_mul_right _ (by have:=hsl0.1; omega)
                      obtain ⟨b,hb2,hbw⟩:=ZGf hw
                      have h3:=(hs.wd l b p hb2 hpp).trans hbw
                      rw [h3] at htt
                      omega)
                    exact ⟨_,w',ρ,.inl (hrun w' hr),List.prefix_refl _,hst,hb.trans hbel,.int _ _⟩
          · cases h
        · cases h
      · cases h2
    · cases h2
  · cases hc
theorem Zrn (bs:List UInt8):VRl ρ (bs.map Y0) (bs.map Y0):=by
  refine ⟨rfl,fun i p q hp hq=>?_⟩
  rw [hp] at hq
  cases hq
  simp only [List.getElem?_map,Option.map_eq_some_iff] at hp
  obtain ⟨b,_,rfl⟩:=hp
  exact .int _ _
theorem ZCo (hs:StR B ρ M w) (hb:Kept B w0 w) (hf:FR ρ fr a) {y z:Opd} (hc:ZM P o.op (.copys y z)=true) (h:Ze call fr M (.copys y z)=some (v,M')) :
    Zfe B w0 ρ M' v ((execOp a.eval o).run P w):=by
  unfold ZM at hc
  simp only at hc
  split at hc
  · rename_i args tys ho
    simp only [Bool.and_eq_true] at hc
    obtain ⟨h1,h2⟩:=hc
    obtain ⟨x,u,rfl,k1,k2⟩:=Zk7 (ZdQ hf h1)
    split at h2
    · rename_i t t' htl
      have:=ZD8 htl; subst this
      unfold Zgz at h2
      split at h2
      · rename_i e hu
        have key:=Jk (P:=P) (w:=w) (a:=a) ho (Builtin.copy_ #[t,t'] o.type #[a.eval x,a.eval u]) (fun _=>by simp [builtin])
        simp only [Ze] at h
        split at h
        · rename_i ad n ca s hp hq
          rw [hp] at k1; rw [hq] at k2
          have e2:a.eval u=.string s:=by
            generalize a.eval u=cu at k2
            cases k2; rfl
          have hdst:∃ (ad':Option Addr) (c':Nat),a.eval x=.slice ad' n c':=by
            generalize a.eval x=cx at k1
            cases k1
            · exact ⟨_,_,rfl⟩
            · exact ⟨_,_,rfl⟩
          obtain ⟨ad',c',e1⟩:=hdst
          have hfc:(Builtin.firstCells 1 (min s.size n) (.string s)).run P w=.ok ((s.data.toList.take (min s.size n)).map Y0).toArray w:=by
            simp only [Builtin.firstCells,Sem.run_pure]
            congr 1
            apply Array.ext'
            simp [List.extract_eq_take_drop]
            rfl
          have hrun:∀ w',(match ad' with
              | some ad'=>(storeCells ad' ((s.data.toList.take (min s.size n)).map Y0)).run P w
              | none=>.ok () w)=.ok () w'→(execOp a.eval o).run P w=.ok (.value (.int .i64 (min s.size n:Nat))) w':=by
            intro w' hst
            rw [key,e1,e2]
            have hmin:Nat.min s.size n=min s.size n:=rfl
            cases ad' with
            | none =>
              cases hst
              simp [Builtin.copy_,run_underlying hu,Builtin.lenOf,Za1 h2,hmin,hfc,goInt]
            | some ad' =>
              simp only [List.map_take] at hst
              simp [Builtin.copy_,run_underlying hu,Builtin.lenOf,Za1 h2,hmin,hfc,goInt,hst]
          rw [e1] at k1
          cases k1 with
          | nil =>
            simp only [Option.some.injEq,Prod.mk.injEq] at h
            obtain ⟨rfl,rfl⟩:=h
            have:=hrun w rfl
            exact .pure hs hb this (.int _ _)
          | slice l of _ _ ad3 c3 p hpp hsl =>
            simp only at h
            split at h
            · rename_i hz
              simp only [Option.some.injEq,Prod.mk.injEq] at h
              obtain ⟨rfl,rfl⟩:=h
              have h3:=hrun w (by simp [hz,storeCells])
              rw [hz] at h3
              exact .pure hs hb h3 (.int _ _)
            · rename_i hz
              simp only [Option.map_eq_some_iff,Prod.mk.injEq] at h
              obtain ⟨M2,hw,rfl,rfl⟩:=h
              obtain ⟨_,_,⟨hz1,hz2⟩ | ⟨hv,rfl,_⟩⟩:=hsl
              · omega
              · obtain ⟨w',hr,hst,hbel⟩:=hs.wrn (P:=P) hw hpp (Zrn _)
                exact ⟨_,w',ρ,.inl (hrun w' hr),List.prefix_refl _,hst,hb.trans hbel,.int _ _⟩
        · cases h
      · cases h2
    · cases h2
  · cases hc
theorem ZbO (z:Array V) (n:Nat):Builtin.zeroCells z n=(zeroCells z.toList n).toArray:=Zn8 z n
theorem ZGP (hs:StR B ρ M w) (hb:Kept B w0 w) (hf:FR ρ fr a) {wd:Nat} {zero:List V} {y:Opd} (hc:ZM P o.op (.clr wd zero y)=true) (h:Ze call fr M (.clr wd zero y)=some (v,M')) :
    Zfe B w0 ρ M' v ((execOp a.eval o).run P w):=by
  unfold ZM at hc
  simp only at hc
  split at hc
  · rename_i args tys ho
    simp only [Bool.and_eq_true] at hc
    obtain ⟨h1,h2⟩:=hc
    split at h2
    · rename_i t htl
      obtain ⟨x,rfl,k1⟩:=Zs6 (ZdQ hf h1)
      have:=ZFZ htl; subst this
      have key:=Jk (P:=P) (w:=w) (a:=a) ho (Builtin.clear_ #[t] o.type #[a.eval x]) (fun _=>by simp [builtin])
      split at h2
      · rename_i e hu
        simp only [Bool.and_eq_true] at h2
        obtain ⟨z,hz1,hz2,hz3⟩:=Zim (P:=P) (w:=w) h2.1.2
        simp only [Ze] at h
        split at h
        · rename_i n ca hp
          rw [hp] at k1
          simp only [Option.some.injEq,Prod.mk.injEq] at h
          obtain ⟨rfl,rfl⟩:=h
          generalize e1:a.eval x=cx at k1 key
          cases k1
          exact .pure hs hb (c:=.tuple #[]) (by rw [key]; simp [Builtin.clear_,run_underlying hu]) (.O _)
        · rename_i l of n ca hp
          rw [hp] at k1
          generalize e1:a.eval x=cx at k1 key
          cases k1 with
          | slice _ _ _ _ ad c p hpp hsl =>
            split at h
            · rename_i hz
              simp only [Option.some.injEq,Prod.mk.injEq] at h
              obtain ⟨rfl,rfl⟩:=h
              subst hz
              exact .pure hs hb (c:=.tuple #[]) (by rw [key]; simp [Builtin.clear_,run_underlying hu]) (.O _)
            · rename_i hz
              simp only [Option.map_eq_some_iff,Prod.mk.injEq] at h
              obtain ⟨M2,hw,rfl,rfl⟩:=h
              obtain ⟨_,_,⟨hz1,hz2⟩ | ⟨hv,rfl,_⟩⟩:=hsl
              · omega
              · have hzr:=ZdX (hz3 ρ) n
                obtain ⟨w',hr,hst,hbel⟩:=hs.wrn (P:=P) hw hpp hzr
                refine ⟨.tuple #[],w',ρ,.inl ?_,List.prefix_refl _,hst,hb.trans hbel,.O _⟩
                rw [key]
                have hb0:=ZbO z.cells n
                simp [Builtin.clear_,run_underlying hu,hz1,hb0,hr]
        · cases h
      · cases h2
    · cases h2
  · cases hc
end
end GoAm
