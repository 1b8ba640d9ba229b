/- The operations, one by one: append. -/
import Derived.Test.YtlniheedmeaeeaaGreatAmOp6
set_option autoImplicit false
set_option linter.unusedSimpArgs false
set_option linter.unusedVariables false
namespace GoAm
open Go Go.RowKit
section
variable {P:Program} {B:Nat→Nat} {w0 w:World} {ρ:List PB} {M M':Mem} {fr:List V} {a:Act} {o:Oper} {v:V} {call:Yd}
def Zxz (P:Program) (w:World) (t':TypeId) (i:TypeInfo) (z u:V) (m:Nat) (cc:List V):Prop :=
  (((∃ e',P.underlying t'=some (.slice e'))∨P.underlying t'=some .string)∧(Builtin.lenOf u).run P w=.ok m w∧(Builtin.firstCells i.size m u).run P w=.ok cc.toArray w∧(Builtin.firstCells i.size m u).run P w.drew=.ok cc.toArray w.drew) ∨
  ∃ k kk,P.underlying t'=some (.int k)∧u=.int kk (m:Int)∧m≤9223372036854775807∧m * i.bytes≤281474976710656∧i.size=z.cells.toList.length∧cc=zeroCells z.cells.toList m
theorem ZpE {m:Nat} (h:m≤9223372036854775807):IntKind.i64.wrap (m:Int)=m:=by
  simp [IntKind.wrap,IntKind.min,IntKind.max,IntKind.signed,IntKind.bits]
  omega
theorem ZgC {t t' ty e:TypeId} {i:TypeInfo} {z:V} (ht:P.underlying t=some (.slice e)) (hi:P.info? e=some i) (hz:i.zero=some z)
    {base:Option Addr} {n c m:Nat} {u:V} {cc:List V} (hg:Zxz P w t' i z u m cc) (hroom:n+m≤c) {w':World}
    (hst:(match base with
      | some a=>(storeCells (a.add (n * i.size)) cc).run P w
      | none=>.ok () w)=.ok () w') :
    (Builtin.append_ #[t,t'] ty #[.slice base n c,u]).run P w=.ok (.slice base (n+m) c) w':=by
  rcases hg with ⟨hd,hlen,hfc,_⟩ | ⟨k,kk,hd,rfl,h63,hby,hsz,rfl⟩
  · rcases hd with ⟨e',hd⟩ | hd <;> cases base with
    | none=>cases hst; simp [Builtin.append_,run_underlying ht,run_underlying hd,Go.sizeOf,typeInfo,hi,hlen,hroom,hfc]
    | some a=>simp only at hst; simp [Builtin.append_,run_underlying ht,run_underlying hd,Go.sizeOf,typeInfo,hi,hlen,hroom,hfc,hst]
  · have h1:¬ ((m:Int) < 0):=by omega
    have h2:¬ (281474976710656 < (m:Int) * (i.bytes:Int)):=by omega
    have h0:m * i.size=0→zeroCells z.cells.toList m=[]:=by
      intro h
      rw [hsz] at h
      apply List.length_eq_zero_iff.1
      rw [Qw]; exact h
    by_cases hc:m * i.size=0
    · have h0':=h0 hc
      cases base with
      | none=>cases hst; simp [Builtin.append_,run_underlying ht,run_underlying hd,Go.sizeOf,typeInfo,zeroValue,hi,hz,asInt,asIntOf,ZpE h63,h1,h2,hroom,hc]
      | some a=>simp only [h0'] at hst; simp [Builtin.append_,run_underlying ht,run_underlying hd,Go.sizeOf,typeInfo,zeroValue,hi,hz,asInt,asIntOf,ZpE h63,h1,h2,hroom,hc,hst]
    · cases base with
      | none=>cases hst; simp [Builtin.append_,run_underlying ht,run_underlying hd,Go.sizeOf,typeInfo,zeroValue,hi,hz,asInt,asIntOf,ZpE h63,h1,h2,hroom,hc,ZbO]
      | some a=>simp only at hst; simp [Builtin.append_,run_underlying ht,run_underlying hd,Go.sizeOf,typeInfo,zeroValue,hi,hz,asInt,asIntOf,ZpE h63,h1,h2,hroom,hc,hst,ZbO]
theorem ZgB {t t' ty e:TypeId} {i:TypeInfo} {z:V} (ht:P.underlying t=some (.slice e)) (hi:P.info? e=some i)
    (hz:i.zero=some z) {base:Option Addr} {n c m:Nat} {u:V} {oc cc:List V} (hg:Zxz P w t' i z u m cc)
    (hfo:(Builtin.firstCells i.size n (.slice base n c)).run P w.drew=.ok oc.toArray w.drew) (hroom:c < n+m) (h63:n+m≤9223372036854775807) (hby:(n+m) * i.bytes≤140737488355328) :
    (Builtin.append_ #[t,t'] ty #[.slice base n c,u]).run P w=.ok (.slice (some ⟨w.heap.size,0,none⟩) (n+m) (grownCap w (n+m) c e))
      (w.drew.alloc (.cells (oc++cc++zeroCells z.cells.toList (grownCap w (n+m) c e - (n+m))).toArray e)):=by
  have h1:¬ (n+m≤c):=by omega
  have h2:¬ (9223372036854775807 < ((n:Int)+(m:Int))):=by omega
  have h3:¬ (281474976710656 < Builtin.nextslicecap (n+m) c * i.bytes):=by have:=growslice_fits hroom hby; omega
  rcases hg with ⟨hd,hlen,hfc',hfc⟩ | ⟨k,kk,hd,rfl,hm63,hmby,hsz,rfl⟩
  · rcases hd with ⟨e',hd⟩ | hd
    · simp [Builtin.append_,run_underlying ht,run_underlying hd,Go.sizeOf,typeInfo,zeroValue,hi,hz,hlen,h1,h2,h3,Question.forced,hfc,hfo,newRow,grownCap,ZbO]
    · simp [Builtin.append_,run_underlying ht,run_underlying hd,Go.sizeOf,typeInfo,zeroValue,hi,hz,hlen,h1,h2,h3,Question.forced,hfc,hfo,newRow,grownCap,ZbO]
  · have h4:¬ ((m:Int) < 0):=by omega
    have h5:¬ (281474976710656 < (m:Int) * (i.bytes:Int)):=by omega
    by_cases hc:m * i.size=0
    · have h0':zeroCells z.cells.toList m=[]:=by
        rw [hsz] at hc
        apply List.length_eq_zero_iff.1
        rw [Qw]; exact hc
      simp [Builtin.append_,run_underlying ht,run_underlying hd,Go.sizeOf,typeInfo,zeroValue,hi,hz,asInt,asIntOf,ZpE hm63,h4,h5,h1,h2,h3,Question.forced,hfo,newRow,grownCap,ZbO,hc,h0']
    · simp [Builtin.append_,run_underlying ht,run_underlying hd,Go.sizeOf,typeInfo,zeroValue,hi,hz,asInt,asIntOf,ZpE hm63,h4,h5,h1,h2,h3,Question.forced,hfo,newRow,grownCap,ZbO,hc]
theorem Zne (w:World) (need old:Nat) (e:TypeId):need≤grownCap w need old e:=by simp only [grownCap,Question.cut]; omega
theorem StR.appGrow (hs:StR B ρ M w) (hB:Inn B w) {os ys oc cc:List V} (ho:VRl ρ os oc) (hy:VRl ρ ys cc) (h1:os.all one=true) (h2:ys.all one=true) (z:List V) (T:TypeId) (wd n c:Nat)
    (hn:n≤c) (hlen:(os++ys).length=n * wd) (hzl:z.length=wd) :
    let w':=w.drew.alloc (.cells (oc++cc++zeroCells z (c - n)).toArray T)
    ∃ ρ',ρ <+: ρ'∧StR B ρ' (M++[⟨os++ys,wd,2⟩]) w'∧Kept B w w'∧VR ρ' (.slice (some ⟨M.length,0,none⟩) n n) (.slice (some ⟨w.heap.size,0,none⟩) n c):=by
  intro w'
  have hoy:=ho.append hy
  have hcl:(oc++cc).length=n * wd:=by rw [← hoy.1]; exact hlen
  refine ⟨ρ++[⟨w.heap.size,0,(oc++cc++zeroCells z (c - n)).toArray.size,wd,false⟩],List.prefix_append _ _,
    hs.alloc hB (os++ys) _ T wd (0,0) (by simp only [List.all_append,h1,h2,Bool.and_self]) ?_ ?_ (by simp) rfl,?_,?_⟩
  · rw [hlen]
    simp only [List.size_toArray,List.length_append] at hcl ⊢
    omega
  · intro i v hi
    obtain ⟨x,hx,hvr⟩:=hoy.get hi
    refine ⟨x,?_,hvr⟩
    have hlt:=(List.getElem?_eq_some_iff.1 hx).1
    rw [List.getElem?_toArray,List.getElem?_append_left hlt]
    exact hx
  · exact (Kept.refl B w).drew.alloc hB _
  · refine Zh7 hs.len _ _ _ _ _ hn ?_
    simp only [List.size_toArray,List.length_append,Qw,hzl] at hcl ⊢
    have:c=n+(c - n):=by omega
    have h7:c * wd=n * wd+(c - n) * wd:=by rw [← Nat.add_mul,← this]
    omega
theorem ZsN (hs:StR B ρ M w) (hB:Inn B w) {t t' ty e:TypeId} {i:TypeInfo} {z:V} (ht:P.underlying t=some (.slice e))
    (hi:P.info? e=some i) (hz:i.zero=some z) (hzc:z.cells.toList.length=i.size) (hw0:0 < i.size) {x cx u:V} {m:Nat} {ys cc:List V} (hy:VRl ρ ys cc) (hym:ys.length=m * i.size)
    (hg:Zxz P w t' i z u m cc)
    (hx:VR ρ x cx) (h:Zdq M i.size i.bytes x m ys=some (v,M')) :
    ∃ (c:V) (w':World) (ρ':List PB),(Builtin.append_ #[t,t'] ty #[cx,u]).run P w=.ok c w'∧ρ <+: ρ'∧StR B ρ' M' w'∧Kept B w w'∧VR ρ' v c:=by
  have hym':cc.length=m * i.size:=by rw [← hy.1]; exact hym
  unfold Zdq at h
  split at h
  · -- nil
    cases hx
    split at h
    · rename_i hm
      cases h
      subst hm
      have hc0:cc=[]:=by simpa using hym'
      subst hc0
      have:=ZgC (P:=P) (w:=w) (ty:=ty) ht hi hz (base:=none) (n:=0) (c:=0) hg (by omega) (w':=w) rfl
      exact ⟨_,w,ρ,this,List.prefix_refl _,hs,Kept.refl _ _,by simpa using .nil⟩
    · rename_i hm
      split at h
      · rename_i hc
        obtain ⟨hby,h63,hone⟩:=hc
        cases h
        have hr:=ZgB (P:=P) (w:=w) (ty:=ty) ht hi hz (base:=none) (n:=0) (c:=0) (oc:=[]) hg (by rfl) (by omega) (by omega) (by simpa using hby)
        simp only [Nat.zero_add,List.nil_append] at hr
        obtain ⟨ρ',p1,p2,p3,p4⟩:=hs.appGrow hB (os:=[]) (oc:=[]) .nil hy (by rfl) hone z.cells.toList e i.size m (grownCap w m 0 e) (Zne _ _ _ _) (by simpa using hym) hzc
        simp only [List.nil_append] at p2 p3
        exact ⟨_,_,ρ',hr,p1,p2,p3,p4⟩
      · cases h
  · -- a slice
    rename_i l of n ca
    cases hx with
    | slice _ _ _ _ ad c p hpp hsl =>
      split at h
      · rename_i hm
        cases h
        subst hm
        have hc0:cc=[]:=by simpa using hym'
        subst hc0
        have:=ZgC (P:=P) (w:=w) (ty:=ty) ht hi hz (base:=some ad) (n:=n) (c:=c) hg (by have:=hsl.1; omega) (w':=w) (by simp [storeCells])
        exact ⟨_,w,ρ,this,List.prefix_refl _,hs,Kept.refl _ _,.slice l of n ca ad c p hpp hsl⟩
      · rename_i hm
        split at h
        · rename_i b hb
          split at h
          · cases h
          · rename_i hcond
            have hone:ys.all one=true:=by
              cases hh:ys.all one
              · exact absurd (.inl hh) hcond
              · rfl
            have hbw:b.w=i.size:=by
              apply Classical.byContradiction; intro hh; exact hcond (.inr (.inl hh))
            have hby:(n+m) * i.bytes≤140737488355328:=by
              apply Classical.byContradiction; intro hh; exact hcond (.inr (.inr (.inl hh)))
            have h63:n+m≤9223372036854775807:=by
              apply Classical.byContradiction; intro hh; exact hcond (.inr (.inr (.inr hh)))
            have hpw:p.w=i.size:=(hs.wd l b p hb hpp).trans hbw
            have hone':∀ c ∈ cc,c.oneCell'=true:=by
              intro c hc
              obtain ⟨j,hj⟩:=List.getElem?_of_mem hc
              have hl:j < ys.length:=by rw [hy.1]; exact (List.getElem?_eq_some_iff.1 hj).1
              exact (hy.2 j ys[j] c (by simp [hl]) hj).one (List.all_eq_true.1 hone _ (List.getElem_mem hl))
            split at h
            · -- void
              rename_i hst
              split at h
              · rename_i hn0
                cases h
                subst hn0
                have hv:=hs.vd l b p hb hpp hst
                obtain ⟨_,_,⟨_,hc0⟩ | ⟨hv',_,_⟩⟩:=hsl
                · subst hc0
                  have hr:=ZgB (P:=P) (w:=w) (ty:=ty) ht hi hz (base:=some ad) (n:=0) (c:=0) (oc:=[]) hg (by simp [Builtin.firstCells,loadCells,loadCellsFrom]) (by omega) (by omega) (by simpa using hby)
                  simp only [Nat.zero_add,List.nil_append] at hr
                  obtain ⟨ρ',p1,p2,p3,p4⟩:=hs.appGrow hB (os:=[]) (oc:=[]) .nil hy (by rfl) hone z.cells.toList e i.size m (grownCap w m 0 e) (Zne _ _ _ _) (by simpa using hym) hzc
                  simp only [List.nil_append] at p2 p3
                  exact ⟨_,_,ρ',hr,p1,p2,p3,p4⟩
                · rw [hv] at hv'; cases hv'
              · cases h
            · rename_i hst3
              split at h
              · rename_i hst
                split at h
                · -- within the cells that are there
                  rename_i hca
                  split at h
                  · rename_i hfit
                    cases h
                    have hcc:=hsl.2.1
                    have hnc:=hsl.1
                    obtain ⟨_,_,⟨hz1,hz2⟩ | ⟨hvd,rfl,htot⟩⟩:=hsl
                    · omega
                    · have hsp:(n+m) * i.size=n * i.size+m * i.size:=Nat.add_mul _ _ _
                      have hwr:wrn M l (of+n * i.size) ys=some (M.set l { b with cells:=splice b.cells (of+n * i.size) ys }):=by
                        unfold GoAm.wrn
                        rw [hb]
                        simp only
                        rw [if_pos ⟨hst,by omega,hone⟩]
                      obtain ⟨w',hr,hst',hbel⟩:=hs.wrn (P:=P) hwr hpp hy
                      have:=ZgC (P:=P) (w:=w) (ty:=ty) ht hi hz (base:=some ⟨p.blk,p.base+of,none⟩) (n:=n) (c:=c) hg (by omega) (w':=w') (by
                        show (storeCells ((⟨p.blk,p.base+of,none⟩:Addr).add (n * i.size)) cc).run P w=_
                        rw [ZfX,Nat.add_assoc]; exact hr)
                      exact ⟨_,w',ρ,this,List.prefix_refl _,hst',hbel,.slice l of (n+m) ca _ c p hpp ⟨by omega,hcc,.inr ⟨hvd,rfl,htot⟩⟩⟩
                  · cases h
                · rename_i hca
                  split at h
                  · -- at the end
                    rename_i hend
                    cases h
                    have hnw:b.cells.drop of=(b.cells.drop of).take (n * i.size):=by
                      rw [List.take_of_length_le]; simp; omega
                    have hrd:rdn M l of (n * i.size)=some (b.cells.drop of):=by
                      unfold GoAm.rdn
                      rw [hb]
                      simp only
                      rw [if_pos ⟨.inr hst,by omega⟩,← hnw]
                    obtain ⟨oc,hol,hovr,hoone,hocell⟩:=hs.rdn hrd hpp
                    have hoall:(b.cells.drop of).all one=true:=List.all_eq_true.2 hoone
                    by_cases hroom:n+m≤c
                    · -- in place
                      obtain ⟨_,_,⟨hz1,hz2⟩ | ⟨hvd,rfl,htot⟩⟩:=hsl
                      · omega
                      · have hsp:(n+m) * i.size=n * i.size+m * i.size:=Nat.add_mul _ _ _
                        have hcw:(n+m) * i.size≤c * i.size:=Nat.mul_le_mul_right _ hroom
                        rw [hpw] at htot
                        obtain ⟨w',cs,T,fz,hr,hbel,g1,g2,g3,g4,g5,g6,g7⟩:=hs.write (P:=P) hb hpp hst (cc:=cc) (of:=of+n * i.size) hone' (by omega)
                        have hrun:=ZgC (P:=P) (w:=w) (ty:=ty) ht hi hz (base:=some ⟨p.blk,p.base+of,none⟩) (n:=n) (c:=c) hg hroom (w':=w') (by
                          show (storeCells ((⟨p.blk,p.base+of,none⟩:Addr).add (n * i.size)) cc).run P w=_
                          rw [ZfX,Nat.add_assoc]; exact hr)
                        have hcl:p.base+(of+n * i.size)+cc.length≤cs.toList.length:=by simp; omega
                        have hk:=hs.upd hb hpp hst (b':={ b with st:=0 }) (.inr rfl) rfl (by simp) g3
                        refine ⟨_,w',ρ++[⟨p.blk,p.base+of,p.tot,i.size,false⟩],hrun,List.prefix_append _ _,?_,hbel,?_⟩
                        · have hpre:ρ <+: ρ++[⟨p.blk,p.base+of,p.tot,i.size,false⟩]:=List.prefix_append _ _
                          have hML:(M.set l { b with st:=0 }).length=M.length:=by simp
                          have both:∀ (j:Nat) (d:Blk) (q:PB),(M.set l { b with st:=0 }++[⟨b.cells.drop of++ys,i.size,2⟩])[j]?=some d→(ρ++[⟨p.blk,p.base+of,p.tot,i.size,false⟩])[j]?=some q →
                              ((M.set l { b with st:=0 })[j]?=some d∧ρ[j]?=some q)∨(j=M.length∧d=⟨b.cells.drop of++ys,i.size,2⟩∧q=⟨p.blk,p.base+of,p.tot,i.size,false⟩):=by
                            intro j d q hd' hq
                            rcases QF hd' with ⟨hl,hd'⟩ | ⟨hl,hd'⟩
                            · left; rcases QF hq with ⟨hl',hq⟩ | ⟨hl',hq⟩
                              · exact ⟨hd',hq⟩
                              · rw [hs.len] at hl'; rw [hML] at hl; omega
                            · right; rcases QF hq with ⟨hl',hq⟩ | ⟨hl',hq⟩
                              · rw [hs.len] at hl'; rw [hML] at hl; omega
                              · rw [hML] at hl; exact ⟨hl,hd',hq⟩
                          have alive:∀ (j:Nat) (d:Blk) (q:PB),(M.set l { b with st:=0 })[j]?=some d→ρ[j]?=some q→(d.st=1∨d.st=2)→q.blk ≠ p.blk:=by
                            intro j d q hd' hq hs'
                            rcases ZsW hd' with ⟨rfl,rfl⟩ | ⟨hne,hd'⟩
                            · simp at hs'
                            · exact fun e=>hs.apart l j b d p q (fun e=>hne e.symm) hb hd' hpp hq hst hs' e.symm
                          refine ⟨by simp [hs.len],?_,?_,?_,?_,?_,?_⟩
                          · intro j d q hd' hq
                            rcases both j d q hd' hq with ⟨hd',hq⟩ | ⟨_,rfl,rfl⟩
                            · exact hk.wd j d q hd' hq
                            · rfl
                          · intro j d q hd' hq hs'
                            rcases both j d q hd' hq with ⟨hd',hq⟩ | ⟨_,rfl,rfl⟩
                            · exact hk.vd j d q hd' hq hs'
                            · simp at hs'
                          · intro j d q hd' hq hs'
                            rcases both j d q hd' hq with ⟨hd',hq⟩ | ⟨_,rfl,rfl⟩
                            · exact ⟨(hk.blk j d q hd' hq hs').1,(hk.blk j d q hd' hq hs').2.mono hpre rfl⟩
                            · refine ⟨rfl,_,T,fz,g2,?_,?_,?_,?_⟩
                              · rw [List.size_toArray,YR _ _ _ hcl]; simpa using g4
                              · rw [List.size_toArray,YR _ _ _ hcl]
                                show p.base+of+(b.cells.drop of++ys).length≤_
                                simp only [List.length_append,List.length_drop,Array.length_toList]
                                omega
                              · intro k v hv
                                change (b.cells.drop of++ys)[k]?=some v at hv
                                show _∧∃ c,(splice cs.toList (p.base+(of+n * i.size)) cc).toArray[p.base+of+k]?=some c∧_
                                rw [List.getElem?_toArray,ZjV _ _ _ hcl]
                                have hdl:(b.cells.drop of).length=n * i.size:=by simp; omega
                                by_cases hkn:k < n * i.size
                                · rw [List.getElem?_append_left (by omega),List.getElem?_drop] at hv
                                  rw [if_pos (by omega)]
                                  obtain ⟨x1,c',x2,x3⟩:=g6 _ v hv
                                  exact ⟨x1,c',by rw [← x2,Array.getElem?_toList]; congr 1; omega,x3.mono hpre⟩
                                · rw [List.getElem?_append_right (by omega),hdl] at hv
                                  obtain ⟨c',x2,x3⟩:=hy.get hv
                                  have hlt:=(List.getElem?_eq_some_iff.1 x2).1
                                  rw [if_neg (by omega),if_pos (by omega)]
                                  exact ⟨List.all_eq_true.1 hone _ (List.mem_of_getElem? hv),c',by rw [← x2]; congr 1; omega,x3.mono hpre⟩
                              · intro _ k hk'
                                rw [List.size_toArray,YR _ _ _ hcl] at hk'
                                exact g7 k (by rw [hbw]; simpa using hk')
                          · intro j d q hd' hq hs'
                            rcases both j d q hd' hq with ⟨hd',hq⟩ | ⟨_,rfl,rfl⟩
                            · exact hk.own j d q hd' hq hs'
                            · exact hs.own l b p hb hpp hst
                          · intro j d q hd' hq hs'
                            rcases both j d q hd' hq with ⟨hd',hq⟩ | ⟨_,rfl,rfl⟩
                            · exact hk.ro j d q hd' hq hs'
                            · simp at hs'
                          · intro j j' d d' q q' hne hd1 hd2 hq1 hq2 hs1 hs2
                            rcases both j d q hd1 hq1 with ⟨hd1,hq1⟩ | ⟨hj,rfl,rfl⟩ <;> rcases both j' d' q' hd2 hq2 with ⟨hd2,hq2⟩ | ⟨hj',rfl,rfl⟩
                            · exact hk.apart j j' d d' q q' hne hd1 hd2 hq1 hq2 hs1 hs2
                            · exact alive j d q hd1 hq1 (.inr hs1)
                            · exact fun e=>alive j' d' q' hd2 hq2 hs2 e.symm
                            · omega
                        · refine .slice M.length 0 (n+m) (n+m) _ c ⟨p.blk,p.base+of,p.tot,i.size,false⟩ (by rw [← hs.len]; simp) ⟨hroom,hroom,.inr ⟨rfl,rfl,by simpa using htot⟩⟩
                    · -- anew
                      have hfo:(Builtin.firstCells i.size n (.slice (some ad) n c)).run P w.drew=.ok oc.toArray w.drew:=by
                        by_cases hn0:n=0
                        · subst hn0
                          have:oc=[]:=by simpa using hol
                          subst this
                          simp [Builtin.firstCells,loadCells,loadCellsFrom]
                        · obtain ⟨_,_,⟨hz1,hz2⟩ | ⟨hvd,rfl,htot⟩⟩:=hsl
                          · omega
                          · exact ZcK hol (fun e=>by cases e) (fun a ha j v hj=>by cases ha; exact hocell j v hj)
                      have hr:=ZgB (P:=P) (w:=w) (ty:=ty) ht hi hz (base:=some ad) (n:=n) (c:=c) (oc:=oc) hg hfo (by omega) h63 hby
                      have hk:=hs.upd hb hpp hst (b':={ b with st:=0 }) (.inr rfl) rfl (by simp) (w':=w) (fun _ _=>rfl)
                      obtain ⟨ρ',p1,p2,p3,p4⟩:=hk.appGrow hB hovr hy hoall hone z.cells.toList e i.size (n+m) (grownCap w (n+m) c e) (Zne _ _ _ _) (by rw [List.length_append,hym,Nat.add_mul]; simp; omega) hzc
                      simp only [List.length_set] at p4
                      exact ⟨_,_,ρ',hr,p1,p2,p3,p4⟩
                  · cases h
              · cases h
        · cases h
  · cases h
theorem Znx {t:TypeId} {wd by':Nat} (h:ZE6 P t wd by'=true):∃ (e:TypeId) (i:TypeInfo) (z:V),P.underlying t=some (.slice e)∧P.info? e=some i∧i.zero=some z ∧
    z.cells.toList.length=i.size∧0 < i.size∧i.size=wd∧i.bytes=by':=by
  unfold ZE6 at h
  split at h
  · rename_i e hu
    split at h
    · rename_i i hi
      simp only [Bool.and_eq_true,decide_eq_true_eq] at h
      obtain ⟨⟨⟨h1,h2⟩,h3⟩,h4⟩:=h
      split at h3
      · rename_i z hz
        have h1:i.size=wd:=by simpa using h1
        have h2:i.bytes=by':=by simpa using h2
        have h3:z.cells.size=wd:=by simpa using h3
        exact ⟨e,i,z,hu,hi,hz,by simp [h3,h1],by omega,h1,h2⟩
      · cases h3
    · cases h
  · cases h
theorem ZGU (hs:StR B ρ M w) (hb:Kept B w0 w) (hB:Inn B w) (hf:FR ρ fr a) {wd by':Nat} {y z:Opd} (hc:ZM P o.op (.app wd by' y z)=true) (h:Ze call fr M (.app wd by' y z)=some (v,M')) :
    Zfe B w0 ρ M' v ((execOp a.eval o).run P w):=by
  unfold ZM at hc
  simp only at hc
  split at hc
  · rename_i args tys ho
    simp only [Bool.and_eq_true] at hc
    obtain ⟨h1,h2⟩:=hc
    obtain ⟨x,u,rfl,k1,k2⟩:=Zk7 (ZdQ hf h1)
    split at h2
    · rename_i t t' htl
      have:=ZD8 htl; subst this
      simp only [Bool.and_eq_true] at h2
      obtain ⟨h2,h3⟩:=h2
      obtain ⟨e,i,zv,hu,hi,hz,hzl,hpos,rfl,rfl⟩:=Znx h2
      split at h3
      · rename_i e' hu'
        have key:=Jk (P:=P) (w:=w) (a:=a) ho (Builtin.append_ #[t,t'] o.type #[a.eval x,a.eval u]) (fun _=>by simp [builtin])
        simp only [Ze] at h
        split at h
        · rename_i m ys hsc
          obtain ⟨ad,cp,cc,e1,hl,hvr,hone,hn,hcell⟩:=hs.cells hsc k2
          have hfc:=ZcK (P:=P) (w:=w) (n:=m) (cp:=cp) hl hn hcell
          have hfd:=ZcK (P:=P) (w:=w.drew) (n:=m) (cp:=cp) hl hn hcell
          obtain ⟨c,w',ρ',r1,r2,r3,r4,r5⟩:=ZsN (P:=P) (ty:=o.type) (u:=a.eval u) hs hB hu hi hz hzl hpos hvr (by rw [hvr.1]; exact hl) (.inl ⟨.inl ⟨e',hu'⟩,by rw [e1]; simp [Builtin.lenOf],by rw [e1]; exact hfc,by rw [e1]; exact hfd⟩) k1 h
          exact ⟨c,w',ρ',.inl (by rw [key,r1]; rfl),r2,r3,hb.trans r4,r5⟩
        · cases h
      · cases h3
    · cases h2
  · cases hc
theorem ZE7 (hs:StR B ρ M w) (hb:Kept B w0 w) (hB:Inn B w) (hf:FR ρ fr a) {y z:Opd} (hc:ZM P o.op (.apps y z)=true) (h:Ze call fr M (.apps y z)=some (v,M')) :
    Zfe B w0 ρ M' v ((execOp a.eval o).run P w):=by
  unfold ZM at hc
  simp only at hc
  split at hc
  · rename_i args tys ho
    simp only [Bool.and_eq_true] at hc
    obtain ⟨h1,h2⟩:=hc
    obtain ⟨x,u,rfl,k1,k2⟩:=Zk7 (ZdQ hf h1)
    split at h2
    · rename_i t t' htl
      have:=ZD8 htl; subst this
      simp only [Bool.and_eq_true] at h2
      obtain ⟨h2,h3⟩:=h2
      obtain ⟨e,i,zv,hu,hi,hz,hzl,hpos,hsz,hby⟩:=Znx h2
      split at h3
      · rename_i hu'
        have key:=Jk (P:=P) (w:=w) (a:=a) ho (Builtin.append_ #[t,t'] o.type #[a.eval x,a.eval u]) (fun _=>by simp [builtin])
        simp only [Ze] at h
        split at h
        · rename_i s hq
          rw [hq] at k2
          have e2:a.eval u=.string s:=by
            generalize a.eval u=cu at k2
            cases k2; rfl
          have hfc:∀ W:World,(Builtin.firstCells i.size s.size (.string s)).run P W=.ok (s.data.toList.map Y0).toArray W:=by
            intro W
            simp only [Builtin.firstCells,Sem.run_pure]
            congr 1
            apply Array.ext'
            simp [List.extract_eq_take_drop]
            intro b _
            rfl
          have h':Zdq M i.size i.bytes (ev fr y) s.size (s.data.toList.map Y0)=some (v,M'):=by rw [hsz,hby]; exact h
          obtain ⟨c,w',ρ',r1,r2,r3,r4,r5⟩:=ZsN (P:=P) (ty:=o.type) (u:=a.eval u) hs hB hu hi hz hzl hpos (Zrn s.data.toList) (by rw [hsz]; simp) (.inl ⟨.inr hu',by rw [e2]; simp [Builtin.lenOf],by rw [e2]; exact hfc _,by rw [e2]; exact hfc _⟩) k1 h'
          exact ⟨c,w',ρ',.inl (by rw [key,r1]; rfl),r2,r3,hb.trans r4,r5⟩
        · cases h
      · cases h3
    · cases h2
  · cases hc
theorem ZFL (hs:StR B ρ M w) (hb:Kept B w0 w) (hB:Inn B w) (hf:FR ρ fr a) {wd by':Nat} {zero:List V} {y z:Opd} (hc:ZM P o.op (.appz wd by' zero y z)=true) (h:Ze call fr M (.appz wd by' zero y z)=some (v,M')) :
    Zfe B w0 ρ M' v ((execOp a.eval o).run P w):=by
  unfold ZM at hc
  simp only at hc
  split at hc
  · rename_i args tys ho
    simp only [Bool.and_eq_true] at hc
    obtain ⟨h1,h2⟩:=hc
    obtain ⟨x,u,rfl,k1,k2⟩:=Zk7 (ZdQ hf h1)
    split at h2
    · rename_i t t' htl
      have:=ZD8 htl; subst this
      simp only [Bool.and_eq_true] at h2
      obtain ⟨⟨h2,hzz⟩,h3⟩:=h2
      obtain ⟨e,i,zv,hu,hi,hz,hzl,hpos,rfl,rfl⟩:=Znx h2
      rw [hu] at hzz
      simp only at hzz
      obtain ⟨z',hz1,hz2,hz3⟩:=Zim (P:=P) (w:=w) hzz
      unfold zB at hzz
      rw [hi] at hzz
      simp only [hz] at hzz
      have hzz':zv.cells.toList=zero:=ZqR hzz
      have hz4:z'.cells=zv.cells:=Array.ext' (by rw [hzz',hz2])
      split at h3
      · rename_i kk' hu'
        have key:=Jk (P:=P) (w:=w) (a:=a) ho (Builtin.append_ #[t,t'] o.type #[a.eval x,a.eval u]) (fun _=>by simp [builtin])
        simp only [Ze] at h
        split at h
        · rename_i kk n hq
          rw [hq] at k2
          split at h
          · rename_i hcond
            obtain ⟨c1,c2,c3⟩:=hcond
            have e2:a.eval u=.int kk (n.toNat:Int):=by
              generalize a.eval u=cu at k2
              cases k2
              rw [Int.toNat_of_nonneg c1]
            have c3':n.toNat * i.bytes≤281474976710656:=by
              have:((n.toNat * i.bytes:Nat):Int)≤281474976710656:=by
                rw [Int.natCast_mul,Int.toNat_of_nonneg c1]; exact c3
              omega
            have hrl:VRl ρ (zeroCells zero n.toNat) (zeroCells zv.cells.toList n.toNat):=by
              have:=ZdX (hz3 ρ) n.toNat
              rw [hz4] at this
              exact this
            obtain ⟨c,w',ρ',r1,r2,r3,r4,r5⟩:=ZsN (P:=P) (ty:=o.type) (u:=a.eval u) hs hB hu hi hz hzl hpos hrl (by rw [Qw,← hzz',hzl])
              (.inr ⟨kk',kk,hu',e2,by omega,c3',hzl.symm,rfl⟩) k1 h
            exact ⟨c,w',ρ',.inl (by rw [key,r1]; rfl),r2,r3,hb.trans r4,r5⟩
          · cases h
        · cases h
      · cases h3
    · cases h2
  · cases hc
theorem ZGE (hs:StR B ρ M w) (hb:Kept B w0 w) (hB:Inn B w) (hf:FR ρ fr a) {op:AOp} (hc:ZM P o.op op=true) (h:Ze call fr M op=some (v,M'))
    (n1:∀ f args,op ≠ .call f args) (n2:∀ f args,op ≠ .callv f args):Zfe B w0 ρ M' v ((execOp a.eval o).run P w):=by
  cases op with
  | mv _=>exact ZG8 hs hb hf hc h
  | pick _ _ _=>exact ZFr hs hb hf hc h
  | new _=>exact ZGC hs hb hB hf hc h
  | box _=>exact ZGy hs hb hB hf hc h
  | build _ _=>exact ZDu hs hb hf hc h
  | mkl _ _ _ _=>exact ZGF hs hb hB hf hc h
  | load1 _=>exact ZDI hs hb hf hc h
  | loadn _ _=>exact ZB6 hs hb hf hc h
  | store _ _ _=>exact ZB3 hs hb hf hc h
  | bin _ _ _=>exact ZGr hs hb hf hc h
  | beq _ _ _=>exact ZGi hs hb hf hc h
  | eqs _ _ _ _=>exact ZF9 hs hb hf hc h
  | eqnil _ _=>exact ZCc hs hb hf hc h
  | not _=>exact ZGg hs hb hf hc h
  | neg _=>exact ZGb hs hb hf hc h
  | bnot _=>exact ZE3 hs hb hf hc h
  | conv _ _=>exact ZEX hs hb hf hc h
  | bts _=>exact ZGH hs hb hf hc h
  | stb _=>exact ZGQ hs hb hB hf hc h
  | fn _ _=>exact ZHj hs hb hf hc h
  | make _ _ _ _=>exact ZFu hs hb hB hf hc h
  | slc _ _ _ _=>exact ZGN hs hb hf hc h
  | slc0 _ _=>exact ZEU hs hb hf hc h
  | sls _ _ _=>exact ZGA hs hb hf hc h
  | fa _ _=>exact ZHe hs hb hf hc h
  | fld1 _ _=>exact ZEG hs hb hf hc h
  | fldn _ _ _=>exact ZFI hs hb hf hc h
  | ia _ _ _=>exact ZG9 hs hb hf hc h
  | ix _ _=>exact ZHh hs hb hf hc h
  | ext _ _=>exact ZGT hs hb hf hc h
  | len _=>exact ZGk hs hb hf hc h
  | slen _=>exact ZEo hs hb hf hc h
  | app _ _ _ _=>exact ZGU hs hb hB hf hc h
  | apps _ _=>exact ZE7 hs hb hB hf hc h
  | appz _ _ _ _ _=>exact ZFL hs hb hB hf hc h
  | copy _ _ _=>exact ZEl hs hb hf hc h
  | copys _ _=>exact ZCo hs hb hf hc h
  | clr _ _ _=>exact ZGP hs hb hf hc h
  | mins _ _=>exact ZFt hs hb hf hc h
  | maxs _ _=>exact ZE8 hs hb hf hc h
  | sel _ _ _ _ _ _ _ _=>simp [ZM] at hc
  | bad=>cases h
  | chk _=>exact ZGG hs hb hf hc h
  | call f args=>exact absurd rfl (n1 f args)
  | callv f args=>exact absurd rfl (n2 f args)
end
end GoAm
