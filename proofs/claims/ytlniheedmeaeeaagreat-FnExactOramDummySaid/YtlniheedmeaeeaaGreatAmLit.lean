/- Lists that a region of open order tells and of which it takes one element: the list itself is told nowhere. -/
import Derived.Test.YtlniheedmeaeeaaGreatAmDraw
set_option autoImplicit false
set_option linter.unusedSimpArgs false
set_option linter.unusedVariables false
namespace GoAm
open Go Go.RowKit
def ZxJ:AOp→Bool
  | .mv (.c (.tuple a))=>a.size == 0
  | _=>false
theorem ZtY {op:AOp} (h:ZxJ op=true):op=.mv (.c O):=by
  cases op <;> simp only [ZxJ,Bool.false_eq_true] at h
  rename_i x
  cases x with
  | t _=>cases h
  | c v =>
    cases v <;> simp only [ZxJ,Bool.false_eq_true] at h
    rename_i a
    have:a=#[]:=by simpa using h
    subst this; rfl
structure Sel where
  k:Nat
  j:Nat
  d:Nat
  e:Nat
  n:Nat
  zero:List V
  ps:List (Nat × Nat × Opd)
  y:Opd
def ZAF:AOp→Option Sel
  | .sel k j d e n zero ps y=>some ⟨k,j,d,e,n,zero,ps,y⟩
  | _=>none
theorem ZAn {op:AOp} {s:Sel} (h:ZAF op=some s):op=.sel s.k s.j s.d s.e s.n s.zero s.ps s.y:=by
  cases op <;> simp only [ZAF,reduceCtorEq,Option.some.injEq] at h
  subst h; rfl
def Zha (os:List AOper) (l:Nat):Option Sel:=(os[l]?).bind fun q=>ZAF q.op
def ZF3 (os:List AOper) (i:Nat):Bool:=(List.range os.length).any fun l=>match Zha os l with
  | some s=>i == s.k || i == s.j || i == l
  | none=>false
def ZsE (ops:Array Oper) (os:List AOper) (ts:List Nat) (i:Nat):Bool:=(List.range os.length).all fun x=>match os[x]? with
  | some q=>match q.dst with
    | some t=>!ts.contains t || (Jn ops ops.size i x && !ZqH q.op)
    | none=>true
  | none=>true
def Zwv (P:Program) (ops:Array Oper) (os:List AOper) (l:Nat) (s:Sel):Bool:=match os[l]?,os[s.k]?,os[s.j]?,ops[s.k]?,ops[s.j]?,ops[l]? with
  | some q,some qk,some qj,some ok,some oj,some ol=>q.g.isNone && qk.g.isNone && qj.g.isNone && ZxJ qk.op && ZxJ qj.op &&
      (match qk.dst,qj.dst with
        | some d,some e=>d == s.d && e == s.e && ZM P ok.op (.mkl 1 s.n s.zero s.ps) && ZM P oj.op (.ia 1 (.t d) s.y) && ZM P ol.op (.load1 (.t e)) && !(rdO s.y).contains d
        | _,_=>false) &&
      (Jn ops ops.size s.j s.k && Jn ops ops.size l s.j) && (ZsE ops os (rdP s.ps) s.k && ZsE ops os (rdO s.y) s.j)
  | _,_,_,_,_,_=>false
def Zwc (os:List AOper):Bool:=(List.range os.length).all fun l=>(List.range os.length).all fun l'=>match Zha os l,Zha os l' with
  | some s,some s'=>(l == l' || (s.k != s'.k && s.j != s'.j)) && s.k != s'.j
  | _,_=>true
def ZDw (P:Program) (ops:Array Oper) (os:List AOper):Bool:=ZEc ops os && Zwc os &&
  (List.range os.length).all (fun i=>match ops[i]?,os[i]? with
    | some o,some p=>o.dst == p.dst && Zl9 ops o.guard p.g && (ZM P o.op p.op || ZF3 os i)
    | _,_=>false) &&
  (List.range os.length).all fun l=>match Zha os l with
    | some s=>Zwv P ops os l s
    | none=>true
def drA (P:Program) (ops:Array Oper) (os:List AOper):Bool:=(Zca P ops ops.toList os && ZEc ops os) || ZDw P ops os
structure Linked (P:Program) (ops:Array Oper) (os:List AOper) (l:Nat) (s:Sel):Prop where
  out:∃ (q qk qj:AOper) (ok oj ol:Oper),os[l]?=some q∧os[s.k]?=some qk∧os[s.j]?=some qj∧ops[s.k]?=some ok∧ops[s.j]?=some oj∧ops[l]?=some ol ∧
    q.op=.sel s.k s.j s.d s.e s.n s.zero s.ps s.y∧q.g=none∧qk.g=none∧qj.g=none∧qk.op=.mv (.c O)∧qj.op=.mv (.c O)∧qk.dst=some s.d∧qj.dst=some s.e ∧
    ZM P ok.op (.mkl 1 s.n s.zero s.ps)=true∧ZM P oj.op (.ia 1 (.t s.d) s.y)=true∧ZM P ol.op (.load1 (.t s.e))=true∧s.d ∉ rdO s.y ∧
    Jn ops ops.size s.j s.k=true∧Jn ops ops.size l s.j=true ∧
    (∀ (x:Nat) (p:AOper) (t:Nat),os[x]?=some p→p.dst=some t→t ∈ rdP s.ps→Jn ops ops.size s.k x=true∧ZqH p.op=false) ∧
    (∀ (x:Nat) (p:AOper) (t:Nat),os[x]?=some p→p.dst=some t→t ∈ rdO s.y→Jn ops ops.size s.j x=true∧ZqH p.op=false)
theorem ZpA {ops:Array Oper} {os:List AOper} {ts:List Nat} {i:Nat} (h:ZsE ops os ts i=true):∀ (x:Nat) (p:AOper) (t:Nat),os[x]?=some p→p.dst=some t→t ∈ ts→Jn ops ops.size i x=true∧ZqH p.op=false:=by
  intro x p t hp ht hm
  have h1:=List.all_eq_true.1 h x (List.mem_range.2 (List.getElem?_eq_some_iff.1 hp).1)
  rw [hp] at h1
  simp only [ht,List.contains_iff_mem.2 hm,Bool.not_true,Bool.false_or,Bool.and_eq_true,Bool.not_eq_true'] at h1
  exact h1
theorem ZEC {P:Program} {ops:Array Oper} {os:List AOper} {l:Nat} {s:Sel} (hs:Zha os l=some s) (h:Zwv P ops os l s=true):Linked P ops os l s:=by
  unfold Zwv at h
  split at h
  · rename_i q qk qj ok oj ol e1 e2 e3 e4 e5 e6
    simp only [Bool.and_eq_true] at h
    obtain ⟨⟨⟨⟨⟨⟨⟨h1,h2⟩,h3⟩,h4⟩,h5⟩,h6⟩,h7,h8⟩,h9,h10⟩:=h
    split at h6
    · rename_i d e hd he
      simp only [Bool.and_eq_true,Bool.not_eq_true'] at h6
      obtain ⟨⟨⟨⟨⟨hd2,he2⟩,c1⟩,c2⟩,c3⟩,c4⟩:=h6
      have hd2:d=s.d:=by simpa using hd2
      have he2:e=s.e:=by simpa using he2
      subst hd2 he2
      have hq:ZAF q.op=some s:=by
        unfold Zha at hs
        rw [e1] at hs
        exact hs
      refine ⟨q,qk,qj,ok,oj,ol,e1,e2,e3,e4,e5,e6,ZAn hq,by simpa using h1,by simpa using h2,by simpa using h3,ZtY h4,ZtY h5,hd,he,c1,c2,c3,?_,h7,h8,ZpA h9,ZpA h10⟩
      intro hm
      rw [List.contains_iff_mem.2 hm] at c4
      cases c4
    · cases h6
  · cases h
section
variable {P:Program} {call:Yd}
theorem ZE9 {ρ:List PB} {M M':Mem} {fr:List V} {a:Act} {w:World} {o:Oper} {v:V} (hf:FR ρ fr a) {wd:Nat} {y z:Opd} (hc:ZM P o.op (.ia wd y z)=true) (h:Ze call fr M (.ia wd y z)=some (v,M')) :
    ∃ c,(execOp a.eval o).run P w=.ok (.value c) w∧VR ρ v c:=by
  unfold ZM at hc
  simp only at hc
  split at hc
  · rename_i t x i ho
    simp only [Bool.and_eq_true] at hc
    have k1:=Yx hf hc.1.1
    have k2:=Yx hf hc.1.2
    simp only [Ze] at h
    split at h
    · rename_i l of n ca ki iv hp hq
      rw [hp] at k1; rw [hq] at k2
      split at h
      · rename_i hin
        simp only [Option.some.injEq,Prod.mk.injEq] at h
        obtain ⟨rfl,rfl⟩:=h
        cases e1:a.eval x <;> rw [e1] at k1 <;> cases k1
        cases e2:a.eval i <;> rw [e2] at k2 <;> cases k2
        rename_i ad c p hpp hsl
        obtain ⟨hnc,hcc,hz | ⟨hvd,rfl,htot⟩⟩:=hsl
        · omega
        · have h2:=hc.2
          unfold Zgz at h2
          split at h2
          · rename_i e hu
            refine ⟨.pointer (some ⟨p.blk,p.base+(of+iv.toNat * wd),none⟩),?_,.ptr l _ p hpp hvd⟩
            have:0≤iv∧iv < n:=hin
            simp [execOp,ho,e1,e2,Instr.indexAt,asIntOf,run_underlying hu,this,Za1 h2,ZfX,Nat.add_assoc]
          · cases h2
      · cases h
    · cases h
  · cases hc
theorem ZAP {B:Nat→Nat} {ρ:List PB} {M M':Mem} {fr:List V} {a:Act} {w:World} {o:Oper} {v:V} (hs:StR B ρ M w) (hf:FR ρ fr a) {y:Opd} (hc:ZM P o.op (.load1 y)=true) (h:Ze call fr M (.load1 y)=some (v,M')) :
    ∃ c,(execOp a.eval o).run P w=.ok (.value c) w∧VR ρ v c:=by
  unfold ZM at hc
  simp only at hc
  split at hc
  · rename_i t x ho
    simp only [Bool.and_eq_true] at hc
    have k:=Yx hf hc.1
    simp only [Ze] at h
    split at h
    · rename_i l of hp
      rw [hp] at k
      simp only [Option.map_eq_some_iff,Prod.mk.injEq] at h
      obtain ⟨v',hv,rfl,rfl⟩:=h
      cases k':a.eval x <;> rw [k'] at k <;> cases k
      rename_i p hvd hpp
      obtain ⟨c,hcell,hvr⟩:=hs.rd1 hv hpp
      have hg:ZcR P t=some false:=by simpa using hc.2
      unfold ZcR at hg
      refine ⟨c,?_,hvr⟩
      split at hg
      · cases hg
      · cases hg
      · rename_i d hn1 hn2 hu
        have:(isAgg t).run P w=.ok false w:=by
          simp only [isAgg,Sem.run_bind,run_underlying hu,Result.andThen_ok]
          rfl
        simp [execOp,ho,k',Instr.loadAt,Instr.sureAddr,loadVar,this,hcell]
      · cases hg
    · cases h
  · cases hc
end
structure SelF (F:Nat→List V) (val:Nat→V) (l:Nat) (s:Sel) (cs:List V) (m:Nat):Prop where
  fill:Zi2 (zeroCells s.zero s.n) (Zdi (F l) s.ps)=some cs
  ix:∃ kk,ev (F l) s.y=.int kk (m:Int)
  ints:∀ v ∈ cs,Zkw v=true
  len:cs.length=s.n
  lt:m < s.n
  got:cs[m]?=some (val l)
  dl:s.d < (F l).length
  el:s.e < (F l).length
theorem ZAz {call:Yd} {fr:List V} {M M':Mem} {v:V} {s:Sel} (h:Ze call fr M (.sel s.k s.j s.d s.e s.n s.zero s.ps s.y)=some (v,M')) :
    ∃ (cs:List V) (m:Nat) (kk:IntKind),Zi2 (zeroCells s.zero s.n) (Zdi fr s.ps)=some cs∧ev fr s.y=.int kk (m:Int)∧(∀ v ∈ cs,Zkw v=true)∧cs.length=s.n∧m < s.n∧cs[m]?=some v∧s.d < fr.length∧s.e < fr.length:=by
  simp only [Ze] at h
  split at h
  · rename_i cs kk i h1 h2
    split at h
    · rename_i h3
      obtain ⟨q1,q2,q3,q4,q5,q6⟩:=h3
      simp only [Option.map_eq_some_iff,Prod.mk.injEq] at h
      obtain ⟨u,hu,rfl,_⟩:=h
      exact ⟨cs,i.toNat,kk,h1,by rw [h2,Int.toNat_of_nonneg q3],fun v hv=>List.all_eq_true.1 q1 v hv,q2,by omega,hu,by simpa using q5,by simpa using q6⟩
    · cases h
  · cases h
theorem ZC6 {cs:List V} (h:∀ v ∈ cs,Zkw v=true):cs.all one=true:=by
  rw [List.all_eq_true]
  intro v hv
  have:=h v hv
  cases v <;> simp only [Zkw,Bool.false_eq_true] at this
  rfl
theorem ZBo {ρ ρ2:List PB} {v c:V} (h:Zkw v=true) (hv:VR ρ v c):VR ρ2 v c:=by
  cases v <;> simp only [Zkw,Bool.false_eq_true] at h
  cases hv
  exact .int _ _
theorem ZBL {ρ ρ2:List PB} {w:World} {cs:List V} {p:PB} (h:∀ v ∈ cs,Zkw v=true) (hb:Zsf ρ w ⟨cs,1,2⟩ p):Zsf ρ2 w ⟨cs,1,2⟩ p:=by
  obtain ⟨a,T,f,g1,g2,g3,g4,g5⟩:=hb
  refine ⟨a,T,f,g1,g2,g3,fun i v hi=>?_,g5⟩
  obtain ⟨x1,c,x2,x3⟩:=g4 i v hi
  exact ⟨x1,c,x2,ZBo (h v (List.mem_of_getElem? hi)) x3⟩
def ZGK (B2:Nat→Nat) (os:List AOper) (F:Nat→List V) (val:Nat→V) (listed:Nat→Bool) (a':Act) (w':World) (pl2:Nat→PB):Prop :=
  ∀ (l:Nat) (s:Sel),Zha os l=some s→∀ (qk qj:AOper) (d e:Nat),os[s.k]?=some qk→os[s.j]?=some qj→qk.dst=some d→qj.dst=some e→∀ (cs:List V) (m:Nat),SelF F val l s cs m →
    (listed s.k=true→∃ c,a'.tmps[d]?=some c∧(∀ (ρ3:List PB) (i:Nat),ρ3[i]?=some (pl2 s.k)→VR ρ3 (.slice (some ⟨i,0,none⟩) s.n s.n) c)∧(∀ ρ3,Zsf ρ3 w' ⟨cs,1,2⟩ (pl2 s.k))∧(pl2 s.k).w=1∧(pl2 s.k).void=false∧B2 (pl2 s.k).blk=2) ∧
    (listed s.j=true→∃ c,a'.tmps[e]?=some c∧∀ (ρ3:List PB) (i:Nat),ρ3[i]?=some (pl2 s.k)→VR ρ3 (.pointer (some ⟨i,m,none⟩)) c)
structure LS (B:Nat→Nat) (w0:World) (os:List AOper) (F:Nat→List V) (val:Nat→V) (listed:Nat→Bool) (a':Act) (w':World) (B2:Nat→Nat) (w1:World) (pl2:Nat→PB):Prop where
  inn:Inn B2 w1
  k0:Kept B w0 w'
  up:∀ k,B k ≠ 0→B2 k ≠ 0
  lo:∀ k,B2 k ≠ 2→B2 k=B k
  lit:ZGK B2 os F val listed a' w' pl2
section
variable {B:Nat→Nat} {w0:World} {os:List AOper} {fr:List V} {F:Nat→List V} {G:Nat→Mem} {val:Nat→V} {ρ0:List PB} {a:Act} {listed listed':Nat→Bool} {a':Act} {w':World} {ρ':List PB} {FS:List V} {m:Nat} {pl:Nat→PB} {B2:Nat→Nat} {w1:World} {pl2:Nat→PB}
theorem LS.keep (h:LS B w0 os F val listed a' w' B2 w1 pl2) (hdd:∀ (i j:Nat) (p q:AOper),os[i]?=some p→os[j]?=some q→i ≠ j→∀ d,p.dst=some d→q.dst ≠ some d)
    {i:Nat} {o:AOper} (ho:os[i]?=some o) (hl1:∀ k,k ≠ i→listed' k=listed k) {w2:World} {c:V} (q3:Kept (Znj B2 os F listed m pl) w' w2)
    (hn:∀ l s,Zha os l=some s→s.k ≠ i∧s.j ≠ i):LS B w0 os F val listed' (a'.put o.dst c) w2 B2 w1 pl2:=by
  refine ⟨h.inn,h.k0.trans (q3.less fun k hk=>Zgu (h.up k hk)),h.up,h.lo,?_⟩
  intro l s hs qk qj d e hk hj hd he cs m' hF
  obtain ⟨n1,n2⟩:=hn l s hs
  obtain ⟨g1,g2⟩:=h.lit l s hs qk qj d e hk hj hd he cs m' hF
  rw [hl1 _ n1,hl1 _ n2]
  refine ⟨fun hl=>?_,fun hl=>?_⟩
  · obtain ⟨c0,c1,c2,c3,c4,c5,c6⟩:=g1 hl
    exact ⟨c0,by rw [ZeS (hdd _ _ _ _ hk ho n1 d hd)]; exact c1,c2,fun ρ3=>(c3 ρ3).mono (List.prefix_refl _) (q3.block _ (Zgu (by rw [c6]; decide))),c4,c5,c6⟩
  · obtain ⟨c0,c1,c2⟩:=g2 hl
    exact ⟨c0,by rw [ZeS (hdd _ _ _ _ hj ho n2 e he)]; exact c1,c2⟩
theorem Inv.recolour (h:Inv B w0 os fr F G val ρ0 a listed a' w' ρ' FS m pl) {b0:Nat}
    (h1:∀ (l:Nat) (b:Blk) (q:PB),(G m)[l]?=some b→ρ'[l]?=some q→(b.st=1∨b.st=2)→b0 ≠ q.blk)
    (h2:∀ (k:Nat) (o:AOper),os[k]?=some o→Zio F listed m k o→(pl k).blk ≠ b0)
    (h3:∀ (k:Nat) (o:AOper),os[k]?=some o→Zio F listed m k o→∃ r,Q4 (F k) o.op=some r) :
    Inv (fun b=>if b=b0 then 2 else B b) w' os fr F G val ρ0 a listed a' w' ρ' FS m pl:=by
  refine ⟨h.le,h.ef,h.al,h.frr,h.fl,h.fn,h.fy,h.fu,⟨h.st.len,h.st.wd,h.st.vd,h.st.blk,?_,?_,h.st.apart⟩,Kept.refl _ _,h.pre,h.df,?_,h.pd⟩
  · intro l b q hb hq hs
    rw [if_neg (h1 l b q hb hq (.inr hs)).symm]
    exact h.st.own l b q hb hq hs
  · intro l b q hb hq hs
    rw [if_neg (h1 l b q hb hq (.inl hs)).symm]
    exact h.st.ro l b q hb hq hs
  · intro k o r ho hp hr
    obtain ⟨b1,b2,b3,b4,b5⟩:=h.pb k o r ho hp hr
    exact ⟨b1,b2,b3,by rw [if_neg (h2 k o ho hp)]; exact b4,b5⟩
theorem ZGK.commit (hI:Inv B2 w1 os fr F G val ρ0 a listed a' w' ρ' FS m pl) {p:PB} {cs:List V} (hb:∀ ρ3,Zsf ρ3 w' ⟨cs,1,2⟩ p) (hw:p.w=1) (hv:p.void=false) (hc:B2 p.blk=2) :
    StR (fun b=>if b=p.blk then 0 else B2 b) (ρ'++[p]) (G m++[⟨cs,1,2⟩]) w':=by
  have ne:∀ (l:Nat) (b:Blk) (q:PB),(G m)[l]?=some b→ρ'[l]?=some q→(b.st=1∨b.st=2)→p.blk ≠ q.blk:=by
    intro l b q hb hq hs e
    rcases hs with hs | hs
    · have:=hI.st.ro l b q hb hq hs
      rw [← e,hc] at this; cases this
    · have:=hI.st.own l b q hb hq hs
      rw [← e,hc] at this; cases this
  have h0:StR (fun b=>if b=p.blk then 0 else B2 b) ρ' (G m) w':=by
    refine ⟨hI.st.len,hI.st.wd,hI.st.vd,hI.st.blk,?_,?_,hI.st.apart⟩
    · intro l b q hb hq hs
      rw [if_neg (ne l b q hb hq (.inr hs)).symm]
      exact hI.st.own l b q hb hq hs
    · intro l b q hb hq hs
      rw [if_neg (ne l b q hb hq (.inl hs)).symm]
      exact hI.st.ro l b q hb hq hs
  exact h0.commit (hb _) hw hv (if_pos rfl) rfl ne
theorem Zrw {a:Act} {c:V} {o:Option Nat} {t:Nat} (h:o=some t) (ht:t < a.tmps.size):(a.put o c).tmps[t]?=some c:=by subst h; exact Zts ht
theorem ZER {d t:Nat} {v:V} {FS:List V} (h:t ≠ d):(FS.set d v)[t]?=FS[t]?:=by
  rw [List.getElem?_set_ne (fun e=>h e.symm)]
end
section
variable {call:Yd}
theorem ZGa {B B2:Nat→Nat} {ρ:List PB} {M:Mem} {w:World} (h:∀ k,B2 k ≠ 2→B2 k=B k) (hs:StR B2 ρ M w):StR B ρ M w:=by
  refine ⟨hs.len,hs.wd,hs.vd,hs.blk,?_,?_,hs.apart⟩
  · intro l b q hb hq hst
    have:=hs.own l b q hb hq hst
    rw [← h _ (by rw [this]; decide)]; exact this
  · intro l b q hb hq hst
    have:=hs.ro l b q hb hq hst
    rw [← h _ (by rw [this]; decide)]; exact this
theorem Znq {os:List AOper} (h:Zwc os=true) {l l':Nat} {s s':Sel} (h1:Zha os l=some s) (h2:Zha os l'=some s'):(l=l'∨(s.k ≠ s'.k∧s.j ≠ s'.j))∧s.k ≠ s'.j:=by
  have hlt:∀ {l:Nat} {s:Sel},Zha os l=some s→l < os.length:=by
    intro l s h
    unfold Zha at h
    cases hq:os[l]? with
    | none=>rw [hq] at h; cases h
    | some q=>exact (List.getElem?_eq_some_iff.1 hq).1
  have h3:=List.all_eq_true.1 (List.all_eq_true.1 h l (List.mem_range.2 (hlt h1))) l' (List.mem_range.2 (hlt h2))
  rw [h1,h2] at h3
  simpa using h3
theorem ZB7 {os:List AOper} {i:Nat} (h:ZF3 os i=true):∃ l s,Zha os l=some s∧(i=s.k∨i=s.j∨i=l):=by
  unfold ZF3 at h
  rw [List.any_eq_true] at h
  obtain ⟨l,_,h⟩:=h
  cases hs:Zha os l with
  | none=>rw [hs] at h; cases h
  | some s =>
    rw [hs] at h
    simp only [Bool.or_eq_true,beq_iff_eq] at h
    exact ⟨l,s,hs,by rcases h with (h | h) | h <;> simp [h]⟩
theorem ZxU {P:Program} {B:Nat→Nat} {w0:World} (hm:P.follows .mixedOrders=true) (hcalls:Zmu P call) (hB:Inn B w0):Zkf P B w0 call (ZDw P):=by
  intro id ops os ρ M M' fr fr' a w Q hdr0 hD hs hb hf hQ
  unfold ZDw at hdr0
  simp only [Bool.and_eq_true] at hdr0
  obtain ⟨⟨⟨hdr,hapt⟩,hokk⟩,hlk⟩:=hdr0
  obtain ⟨F,G,val,f0,g0,f1,g1,hst0,_,hfp⟩:=ZjU [] [] os fr M fr' M' hD
  unfold ZEc at hdr
  simp only [Bool.and_eq_true,List.all_eq_true,List.mem_range,decide_eq_true_eq] at hdr
  obtain ⟨⟨⟨hlen,hisT⟩,hlate⟩,hdr⟩:=hdr
  have hn:ops.size=os.length:=by simpa using hlen
  have hget:∀ (i:Nat) (o:Oper) (p:AOper),ops[i]?=some o→os[i]?=some p→o.dst=p.dst∧(ZM P o.op p.op=true∨ZF3 os i=true)∧Zl9 ops o.guard p.g=true:=by
    intro i o p ho hp
    have h:=List.all_eq_true.1 hokk i (List.mem_range.2 (List.getElem?_eq_some_iff.1 hp).1)
    rw [ho,hp] at h
    simp only [Bool.and_eq_true,Bool.or_eq_true] at h
    exact ⟨by simpa using h.1.1,h.2,h.1.2⟩
  have hlink:∀ l s,Zha os l=some s→Linked P ops os l s:=by
    intro l s hsl
    have hl:l < os.length:=by
      unfold Zha at hsl
      cases hq:os[l]? with
      | none=>rw [hq] at hsl; cases hsl
      | some q=>exact (List.getElem?_eq_some_iff.1 hq).1
    have h:=List.all_eq_true.1 hlk l (List.mem_range.2 hl)
    rw [hsl] at h
    exact ZEC hsl h
  let dst:Nat→Option Nat:=fun i=>(os[i]?).bind (·.dst)
  have hos:∀ i,i < os.length→∃ p,os[i]?=some p:=fun i hi=>⟨os[i],by simp [hi]⟩
  have hltO:∀ {i:Nat} {p:AOper},os[i]?=some p→i < os.length:=fun h=>(List.getElem?_eq_some_iff.1 h).1
  have hdir:∀ i j,j ∈ ZdL ops i→j < i:=by
    intro i j hj
    by_cases hi:i < ops.size
    · exact (hdr i hi).1 j hj
    · unfold ZdL at hj
      rw [Array.getElem?_eq_none (by omega)] at hj
      simp at hj
  have hpair:∀ i j p q,os[i]?=some p→os[j]?=some q→i ≠ j →
      (∀ d,p.dst=some d→q.dst ≠ some d)∧(∀ e,q.dst=some e→e ∈ ZkG p.op++ZoP p.g→Jn ops ops.size i j=true∨Jn ops ops.size j i=true) ∧
      (eff p.op=true→eff q.op=true→i < j→ZqH q.op=true∨Jn ops ops.size j i=true)∧(fin p.op (os.drop (i+1))=true→mem q.op=true→Jn ops ops.size i j=true):=by
    intro i j p q hp hq hne
    have h:=(hdr i (by have:=hltO hp; omega)).2 j (by have:=hltO hq; omega)
    rw [hp,hq] at h
    simp only [Bool.or_eq_true,beq_iff_eq] at h
    rcases h with h | h
    · exact absurd h hne
    · simp only [Bool.and_eq_true] at h
      obtain ⟨⟨⟨h1,h2⟩,h3⟩,h4⟩:=h
      refine ⟨?_,?_,?_,?_⟩
      · intro d hd he
        rw [hd,he] at h1
        simp at h1
      · intro e he hmem
        rw [he] at h2
        simp only [Bool.or_eq_true,Bool.not_eq_true'] at h2
        rcases h2 with (h2 | h2) | h2
        · rw [List.contains_iff_mem.2 hmem] at h2; cases h2
        · exact .inl h2
        · exact .inr h2
      · intro e1 e2 hlt
        simp only [e1,e2,Bool.and_self,decide_eq_true hlt,Bool.not_true,Bool.or_eq_true,Bool.false_eq_true,false_or] at h3
        exact h3
      · intro e1 e3
        simp only [e1,e3,Bool.and_self,Bool.not_true,Bool.or_eq_true,Bool.false_eq_true,false_or] at h4
        exact h4
  have hlate':∀ j q,os[j]?=some q→ZqH q.op=true→(∀ i p,os[i]?=some p→eff p.op=true→i < j→Jn ops ops.size j i=true) ∨
      ∀ r p d,os[r]?=some p→q.dst=some d→d ∈ ZkG p.op++ZoP p.g→∀ i s,os[i]?=some s→eff s.op=true→i < j→Jn ops ops.size r i=true:=by
    intro j q hq hal
    have h:=hlate j (by have:=hltO hq; omega)
    rw [hq] at h
    simp only [hal,Bool.not_true,Bool.false_or,Bool.or_eq_true] at h
    rcases h with h | h
    · exact .inl fun i p hp he hij=>Zns h hp (by have:=hltO hp; omega) he hij
    · right
      intro r p d hp hd hmem i s hs' he hij
      have:=List.all_eq_true.1 h r (List.mem_range.2 (by have:=hltO hp; omega))
      rw [hp,hd] at this
      simp only [Bool.or_eq_true,Bool.not_eq_true'] at this
      rcases this with this | this
      · rw [List.contains_iff_mem.2 hmem] at this; cases this
      · exact Zns this hs' (by have:=hltO hs'; omega) he hij
  have hstep:∀ (i:Nat) (o:AOper),os[i]?=some o→(Zbh (F i) o.g=some true∧Ze call (F i) (G i) o.op=some (val i,G (i+1)))∨(Zbh (F i) o.g=some false∧val i=skp∧G (i+1)=G i):=fun i o ho=>(hst0 i o ho).2.2
  have hdd:∀ (i j:Nat) (p q:AOper),os[i]?=some p→os[j]?=some q→i ≠ j→∀ d,p.dst=some d→q.dst ≠ some d:=fun i j p q hp hq hne=>(hpair i j p q hp hq hne).1
  have hF:∀ i,i < os.length→F (i+1)=JC (F i) (dst i) (val i):=by
    intro i hi
    obtain ⟨p,hp⟩:=hos i hi
    rw [(hst0 i p hp).2.1]
    simp [dst,hp]
  have hdd2:∀ i j,i < os.length→j < os.length→i ≠ j→∀ d,dst i=some d→dst j ≠ some d:=by
    intro i j hi hj hne d h1 h2
    obtain ⟨p,hp⟩:=hos i hi
    obtain ⟨q,hq⟩:=hos j hj
    simp only [dst,hp,hq,Option.bind_some] at h1 h2
    exact hdd i j p q hp hq hne d h1 h2
  have hGl:∀ (i j:Nat),i≤j→j≤os.length→(G i).length≤(G j).length:=by
    intro i j hij
    induction hij with
    | refl=>intro _; exact Nat.le_refl _
    | step hij ih =>
      intro hj
      obtain ⟨p,hp⟩:=hos _ (show _ < os.length from hj)
      exact Nat.le_trans (ih (by omega)) (hst0 _ p hp).1
  have hGc:∀ i p,os[i]?=some p→eff p.op=false→G (i+1)=G i:=by
    intro i p hp he
    rcases hstep i p hp with ⟨_,h⟩ | ⟨_,_,h⟩
    · exact ZlY he h
    · exact h
  refine ⟨hm,?_⟩
  have hsel:∀ l s,Zha os l=some s→∃ cs m,SelF F val l s cs m:=by
    intro l s hsl
    obtain ⟨q,qk,qj,ok,oj,ol,e1,e2,e3,e4,e5,e6,hop,hg,_⟩:=(hlink l s hsl).out
    rcases hstep l q e1 with ⟨_,hst⟩ | ⟨hw,_⟩
    · rw [hop] at hst
      obtain ⟨cs,m,kk,q1,q2,q3,q4,q5,q6,q7,q8⟩:=ZAz hst
      exact ⟨cs,m,q1,⟨kk,q2⟩,q3,q4,q5,q6,q7,q8⟩
    · rw [hg] at hw; cases hw
  have allQ:∀ (listed:Array Bool) (a':Act) (w':World) (ρ':List PB) (FS:List V) (m:Nat) (pl:Nat→PB) (B2:Nat→Nat) (w1:World) (pl2:Nat→PB),(∀ i,i < os.length→listed.getD i false=true) →
      Inv B2 w1 os fr F G val ρ a (fun k=>listed.getD k false) a' w' ρ' FS m pl→LS B w0 os F val (fun k=>listed.getD k false) a' w' B2 w1 pl2→(m=os.length∨∃ o,os[m]?=some o∧eff o.op=true∧listed.getD m false=false)→Q .normal a' w':=by
    intro listed a' w' ρ' FS m pl B2 w1 pl2 hall hI hL hmax
    have hmn:m=os.length:=by
      rcases hmax with h | ⟨o,ho,_,h⟩
      · exact h
      · rw [hall m (hltO ho)] at h; cases h
    subst hmn
    have hnp:∀ k o,os[k]?=some o→¬ Zio F (fun k=>listed.getD k false) os.length k o:=fun k o ho hp=>by have:=hltO ho; have:=hp.2.1; omega
    have e1:FS=fr':=by
      apply List.ext_getElem?
      intro t
      rw [← f1]
      by_cases ht:∃ i,i < os.length∧dst i=some t
      · obtain ⟨i,hi,hdt⟩:=ht
        obtain ⟨p,hp⟩:=hos i hi
        have hpt:p.dst=some t:=by simpa [dst,hp] using hdt
        rw [hI.fy i p t hp (hall i hi) hpt (hnp i p hp),Zln dst val hF hdd2 hi (Nat.le_refl _) hdt,f0]
      · have hno:∀ i,i < os.length→dst i ≠ some t:=fun i hi h=>ht ⟨i,hi,h⟩
        rw [hI.fn t (fun k o ho _ e=>hno k (hltO ho) (by simp [dst,ho,e])),(Zc0 dst val os.length F hF).2 t hno,f0]
    have h1:=hI.frr
    have h2:=hI.st
    rw [e1] at h1
    rw [g1] at h2
    exact hQ a' w' ρ' hI.pre h1 (ZGa hL.lo h2) hL.k0 hI.df
  have noready:∀ (listed:Array Bool),listed.size=ops.size→Region.ready .any ops listed=[]→∀ i,i < ops.size→listed.getD i false=true:=by
    intro listed hsz hr i
    induction i using Nat.strongRecOn with
    | _ i ih =>
      intro hi
      cases hl:listed.getD i false with
      | true=>rfl
      | false =>
        exfalso
        have:i ∈ Region.ready .any ops listed:=by
          rw [mem_ready]
          refine ⟨?_,ops[i],by simp [hi],?_⟩
          · rw [Array.getD_eq_getD_getElem?] at hl ⊢
            rw [Array.getElem?_eq_getElem (by omega)] at hl ⊢
            exact hl
          · intro e he hbd
            have hj:e.on ∈ ZdL ops i:=by
              unfold ZdL
              rw [Array.getElem?_eq_getElem hi]
              exact List.mem_map.2 ⟨e,List.mem_filter.2 ⟨by simpa using he,hbd⟩,rfl⟩
            have:=hdir i e.on hj
            exact ih e.on this (by omega)
        rw [hr] at this
        cases this
  have main:∀ (fuel:Nat) (listed:Array Bool) (todo:List Nat) (a':Act) (w':World) (ρ':List PB) (FS:List V) (m:Nat) (pl:Nat→PB) (B2:Nat→Nat) (w1:World) (pl2:Nat→PB),listed.size=ops.size→ZqP ops listed →
      todo.length≤fuel→(∀ i,i < ops.size→listed.getD i false=false→i ∈ todo)→Inv B2 w1 os fr F G val ρ a (fun k=>listed.getD k false) a' w' ρ' FS m pl→LS B w0 os F val (fun k=>listed.getD k false) a' w' B2 w1 pl2 →
      (m=os.length∨∃ o,os[m]?=some o∧eff o.op=true∧listed.getD m false=false)→wpAny P .any ops Q fuel listed a' w':=by
    intro fuel
    induction fuel with
    | zero =>
      intro listed todo a' w' ρ' FS m pl B2 w1 pl2 hsz hcl htodo hin hI hL hmax
      have hall:∀ i,i < ops.size→listed.getD i false=true:=by
        intro i hi
        cases hl:listed.getD i false with
        | true=>rfl
        | false =>
          have:=hin i hi hl
          have:todo=[]:=by simpa using htodo
          subst this; simp at *
      refine ⟨?_,allQ listed a' w' ρ' FS m pl B2 w1 pl2 (fun i hi=>hall i (by omega)) hI hL hmax⟩
      cases hr:Region.ready .any ops listed with
      | nil=>rfl
      | cons x xs =>
        exfalso
        have hx:x ∈ Region.ready .any ops listed:=by rw [hr]; simp
        obtain ⟨h1,o,h2,_⟩:=mem_ready.1 hx
        have hlt:x < ops.size:=(Array.getElem?_eq_some_iff.1 h2).1
        have:=hall x hlt
        rw [Array.getD_eq_getD_getElem?] at this h1
        rw [Array.getElem?_eq_getElem (by omega)] at this h1
        simp at this h1
        rw [this] at h1; cases h1
    | succ fuel ih =>
      intro listed todo a' w' ρ' FS m pl B2 w1 pl2 hsz hcl htodo hin hI hL hmax
      refine ⟨fun hr=>allQ listed a' w' ρ' FS m pl B2 w1 pl2 (fun i hi=>noready listed hsz hr i (by omega)) hI hL hmax,?_⟩
      intro i hi
      obtain ⟨hul0,o,ho,hdl0⟩:=mem_ready.1 hi
      have hio:i < ops.size:=(Array.getElem?_eq_some_iff.1 ho).1
      have his:i < os.length:=by omega
      have hul:listed.getD i false=false:=by
        rw [Array.getD_eq_getD_getElem?] at hul0 ⊢
        rw [Array.getElem?_eq_getElem (by omega)] at hul0 ⊢
        exact hul0
      have hdl:∀ j ∈ ZdL ops i,listed.getD j false=true:=by
        intro j hj
        unfold ZdL at hj
        rw [ho] at hj
        obtain ⟨e,he,rfl⟩:=List.mem_map.1 hj
        obtain ⟨he1,he2⟩:=List.mem_filter.1 he
        exact hdl0 e (by simpa using he1) he2
      obtain ⟨p,hp⟩:=hos i his
      obtain ⟨hdst,hchk0,hgd⟩:=hget i o p (by simpa using ho) hp
      have hreach:∀ j,Jn ops ops.size i j=true→listed.getD j false=true:=fun j hj=>ZgS hcl ops.size i j hdl hj
      have hreachK:∀ k j,listed.getD k false=true→Jn ops ops.size k j=true→listed.getD j false=true:=fun k j hk hj=>ZgS hcl ops.size k j (fun q hq=>hcl k q hk hq) hj
      have hread:∀ t ∈ ZkG p.op++ZoP p.g,FS[t]?=(F i)[t]?:=by
        intro t ht
        by_cases hw:∃ j,j < os.length∧dst j=some t
        · obtain ⟨j,hj,hjt⟩:=hw
          have honly:∀ k,k < os.length→k ≠ j→dst k ≠ some t:=fun k hk hne=>hdd2 j k hj hk (fun e=>hne e.symm) t hjt
          obtain ⟨q,hq⟩:=hos j hj
          have hqd:q.dst=some t:=by simpa [dst,hq] using hjt
          have hdk:∀ k o',os[k]?=some o'→o'.dst=some t→k=j:=by
            intro k o' hk hd
            apply Classical.byContradiction
            intro hne
            exact honly k (hltO hk) hne (by simp [dst,hk,hd])
          by_cases hji:j=i
          · subst hji
            rw [hI.fn t (fun k o' hk hkl e=>by have:=hdk k o' hk e; subst this; rw [hul] at hkl; cases hkl)]
            rw [(Zc0 dst val j F (fun k hk=>hF k (by omega))).2 t (fun k hk=>honly k (by omega) (by omega)),f0]
          · rcases (hpair i j p q hp hq (fun e=>hji e.symm)).2.1 t hqd ht with hr | hr
            · have hjl:=hreach j hr
              have hlt:=ZfG hdir _ _ _ hr
              have hnp:¬ Zio F (fun k=>listed.getD k false) m j q:=by
                intro hpd
                have hal:=hI.al j q hq hpd
                rcases hmax with hmx | ⟨om,hom,hem,hlm⟩
                · have:=hpd.2.1; omega
                · have hmj:m < j:=by
                    have:=hpd.2.1
                    rcases Nat.lt_or_ge m j with h | h
                    · exact h
                    · exfalso
                      have e:m=j:=by omega
                      subst e
                      rw [hjl] at hlm; cases hlm
                  have:listed.getD m false=true:=by
                    rcases hlate' j q hq hal with h | h
                    · exact hreachK j m hjl (h m om hom hem hmj)
                    · exact hreach m (h i p t hp hqd ht m om hom hem hmj)
                  rw [hlm] at this; cases this
              rw [hI.fy j q t hq hjl hqd hnp,Zln dst val hF hdd2 hlt (by omega) hjt,f0]
            · have hlt:=ZfG hdir _ _ _ hr
              have hjl:¬ listed.getD j false=true:=by
                intro hjl
                have:=hreachK j i hjl hr
                rw [hul] at this; cases this
              rw [hI.fn t (fun k o' hk hkl e=>by have:=hdk k o' hk e; subst this; exact hjl hkl)]
              rw [(Zc0 dst val i F (fun k hk=>hF k (by omega))).2 t (fun k hk=>honly k (by omega) (by omega)),f0]
        · have hno:∀ k,k < os.length→dst k ≠ some t:=fun k hk h=>hw ⟨k,hk,h⟩
          rw [hI.fn t (fun k o' hk _ e=>hno k (hltO hk) (by simp [dst,hk,e])),(Zc0 dst val i F (fun k hk=>hF k (by omega))).2 t (fun k hk=>hno k (by omega)),f0]
      have hreadW:∀ (ts:List Nat) (l:Nat),i≤l→l < os.length→(∀ (x:Nat) (p:AOper) (t:Nat),os[x]?=some p→p.dst=some t→t ∈ ts→Jn ops ops.size i x=true∧ZqH p.op=false)→∀ t ∈ ts,FS[t]?=(F l)[t]?:=by
        intro ts l hil hll hW t ht
        by_cases hw:∃ j,j < os.length∧dst j=some t
        · obtain ⟨j,hj,hjt⟩:=hw
          obtain ⟨q,hq⟩:=hos j hj
          have hqd:q.dst=some t:=by simpa [dst,hq] using hjt
          obtain ⟨hr,hal⟩:=hW j q t hq hqd ht
          have hjl:=hreach j hr
          have hlt:=ZfG hdir _ _ _ hr
          have hnp:¬ Zio F (fun k=>listed.getD k false) m j q:=fun hpd=>by
            have:=hI.al j q hq hpd
            rw [hal] at this; cases this
          rw [hI.fy j q t hq hjl hqd hnp,Zln dst val hF hdd2 (show j < l by omega) (by omega) hjt,f0]
        · have hno:∀ k,k < os.length→dst k ≠ some t:=fun k hk h=>hw ⟨k,hk,h⟩
          rw [hI.fn t (fun k o' hk _ e=>hno k (hltO hk) (by simp [dst,hk,e])),(Zc0 dst val l F (fun k hk=>hF k (by omega))).2 t (fun k hk=>hno k (by omega)),f0]
      have hwants:Zbh FS p.g=Zbh (F i) p.g:=by
        cases hg:p.g with
        | none=>rfl
        | some sb =>
          obtain ⟨s,b⟩:=sb
          simp only [Zbh]
          rw [hread s (by simp [hg,ZoP])]
      have hcg:∀ X,Ze call FS X p.op=Ze call (F i) X p.op:=fun X=>Zpz (fun t ht=>hread t (by simp [ht]))
      have hsz':(listed.setIfInBounds i true).size=ops.size:=by simpa using hsz
      have hli:(listed.setIfInBounds i true).getD i false=true:=by
        rw [Array.getD_eq_getD_getElem?]
        simp [hsz,hio]
      have hcl':ZqP ops (listed.setIfInBounds i true):=by
        intro k j hk hj
        by_cases hki:k=i
        · subst hki; exact getD_set_true (hdl j hj)
        · rw [getD_set_ne false (fun e=>hki e.symm)] at hk
          exact getD_set_true (hcl k j hk hj)
      have hl1:∀ k,k ≠ i→(listed.setIfInBounds i true).getD k false=listed.getD k false:=fun k hk=>getD_set_ne false (fun e=>hk e.symm)
      have htodo':(todo.erase i).length≤fuel:=by
        rw [List.length_erase_of_mem (hin i hio hul)]
        omega
      have hin':∀ k,k < ops.size→(listed.setIfInBounds i true).getD k false=false→k ∈ todo.erase i:=by
        intro k hk hkl
        have hki:k ≠ i:=fun e=>by subst e; rw [hli] at hkl; cases hkl
        rw [getD_set_ne false (fun e=>hki e.symm)] at hkl
        exact (List.mem_erase_of_ne hki).2 (hin k hk hkl)
      have next:∀ (a2:Act) (w2:World) (ρ2:List PB) (FS2:List V) (m2:Nat) (plx:Nat→PB) (B3:Nat→Nat) (w3:World) (pl3:Nat→PB),Inv B3 w3 os fr F G val ρ a (fun k=>(listed.setIfInBounds i true).getD k false) a2 w2 ρ2 FS2 m2 plx →
          LS B w0 os F val (fun k=>(listed.setIfInBounds i true).getD k false) a2 w2 B3 w3 pl3→wpAny P .any ops Q fuel (listed.setIfInBounds i true) a2 w2:=by
        intro a2 w2 ρ2 FS2 m2 plx B3 w3 pl3 hI2 hL2
        obtain ⟨ρ3,FS3,m3,hI3,hmax3⟩:=Inv.on hstep hdd os.length ρ2 FS2 m2 (by omega) hI2
        exact ih _ (todo.erase i) a2 w2 ρ3 FS3 m3 plx B3 w3 pl3 hsz' hcl' htodo' hin' hI3 hL2 hmax3
      unfold wpOp
      have hkp0:∀ w2,Kept (Znj B2 os F (fun k=>listed.getD k false) m pl) w' w2→Kept B2 w1 w2:=fun w2 h=>hI.kp.trans (h.less fun k hk=>Zgu hk)
      rw [ho]
      simp only
      by_cases hK:∃ l s,Zha os l=some s∧s.k=i
      · -- the list is told
        obtain ⟨l,s,hsl,rfl⟩:=hK
        obtain ⟨q,qk,qj,ok,oj,ol,e1,e2,e3,e4,e5,e6,hop,hg,hgk,hgj,hok1,hoj1,hd,he,c1,c2,c3,hdy,r1,r2,W1,W2⟩:=(hlink l s hsl).out
        rw [ho] at e4; cases e4
        rw [hp] at e2; cases e2
        obtain ⟨cs,mm,hSF⟩:=hsel l s hsl
        have hjk:=ZfG hdir _ _ _ r1
        have hlj:=ZfG hdir _ _ _ r2
        have hFS:=hreadW (rdP s.ps) l (by omega) (hltO e1) W1
        have hpe:Zdi FS s.ps=Zdi (F l) s.ps:=Zf9 hFS
        have hwt:Zbh (F s.k) p.g=some true:=by rw [hgk]; rfl
        have hwant:=JH hI.frr hgd (by rw [hwants]; exact hwt)
        rw [if_pos hwant]
        left
        obtain ⟨hinn,hstc⟩:=hI.colours hL.inn hstep
        have hval:Ze call FS (G m) (.mkl 1 s.n s.zero s.ps)=some (.slice (some ⟨(G m).length,0,none⟩) s.n s.n,G m++[⟨cs,1,2⟩]):=by
          simp only [Ze,hpe,hSF.fill,ZC6 hSF.ints,if_true]
        refine Zcl (hcalls _ w' hinn) hinn hstc (Kept.refl _ _) hI.frr c1 hval ?_
        intro c w2 ρ2 q1 q2 q3 q4
        have hat:(G m++[(⟨cs,1,2⟩:Blk)])[(G m).length]?=some ⟨cs,1,2⟩:=by simp
        obtain ⟨pb,hpb⟩:=q2.at hat
        obtain ⟨hv,hblk⟩:=q2.blk _ _ _ hat hpb (.inr rfl)
        have hcol:=q2.own _ _ _ hat hpb rfl
        have hwd:=q2.wd _ _ _ hat hpb
        have hpn:∀ j q,os[j]?=some q→Zio F (fun k=>listed.getD k false) m j q→(pl j).blk ≠ pb.blk:=ZsV (by rw [hcol]; decide)
        have hst2:StR B2 ρ' (G m) w2:=hI.st.gc q1 (Zdl q2).1
        have hapn:∀ (l:Nat) (b:Blk) (q:PB),(G m)[l]?=some b→ρ'[l]?=some q→(b.st=1∨b.st=2)→pb.blk ≠ q.blk:=by
          intro l b q hb hq hs
          have hl:=(List.getElem?_eq_some_iff.1 hb).1
          exact q2.apart _ l ⟨cs,1,2⟩ b pb q (by omega) hat (Zw hb) hpb (JR q1 hq) rfl hs
        have hap:∀ (k:Nat) (o:AOper),os[k]?=some o→Zio F (fun k=>listed.getD k false) m k o→∀ (l:Nat) (b:Blk) (q:PB),(G m)[l]?=some b→ρ'[l]?=some q→(b.st=1∨b.st=2)→(pl k).blk ≠ q.blk:=by
          intro k o' ho' hpd
          obtain ⟨r,hr⟩:=hI.block hstep ho' hpd
          exact (hI.pb k o' r ho' hpd hr).2.2.2.2
        have hvu:val s.k=O:=by
          rcases hstep s.k p hp with ⟨_,h⟩ | ⟨h,_⟩
          · rw [hok1] at h
            simp only [Ze,ev,Option.some.injEq,Prod.mk.injEq] at h
            exact h.1.symm
          · rw [hwt] at h; cases h
        have hef:eff p.op=false:=by rw [hok1]; rfl
        have hI2:=hI.op hdd hp hli hl1 (.inl ⟨rfl,.inl hef⟩) (List.prefix_refl _) hst2 q3 (c:=c) (by rw [hvu]; exact .O _) (hkp0 w2 q3) hap
        have hnew:∀ (ρ3:List PB) (x:Nat),ρ3[x]?=some pb→VR ρ3 (.slice (some ⟨x,0,none⟩) s.n s.n) c:=by
          intro ρ3 x hx
          cases q4 with
          | slice _ _ _ _ a' c' q hq hsr =>
            rw [hpb] at hq; cases hq
            exact .slice x 0 s.n s.n a' c' pb hx hsr
        rw [hdst]
        refine next _ _ _ _ _ _ _ w2 (fun x=>if x=s.k then pb else pl2 x) (hI2.recolour (b0:=pb.blk) hapn ?_ ?_) ⟨?_,?_,?_,?_,?_⟩
        · intro k o' ho' hpd
          have hk:k ≠ s.k:=by
            rintro rfl
            rw [hp] at ho'; cases ho'
            have:=hpd.2.2.1
            rw [hef] at this; cases this
          exact hpn k o' ho' ⟨by have:=hpd.1; simp only [hl1 k hk] at this; exact this,hpd.2.1,hpd.2.2.1,hpd.2.2.2⟩
        · intro k o' ho' hpd
          exact hI2.block hstep ho' hpd
        · intro k hk
          by_cases hkb:k=pb.blk
          · subst hkb
            obtain ⟨aa,T,f,g1,_⟩:=hblk
            exact (Array.getElem?_eq_some_iff.1 g1).1
          · simp only [if_neg hkb] at hk
            exact (hkp0 w2 q3).inn hL.inn k hk
        · exact hL.k0.trans (q3.less fun k hk=>Zgu (hL.up k hk))
        · intro k hk
          show (if k=pb.blk then 2 else B2 k) ≠ 0
          split
          · decide
          · exact hL.up k hk
        · intro k hk
          by_cases hkb:k=pb.blk
          · exact absurd (if_pos hkb) hk
          · simp only [if_neg hkb] at hk ⊢
            exact hL.lo k hk
        · intro l' s' hs' qk' qj' d' e' hk' hj' hd' he' cs' m' hF'
          by_cases hll:l'=l
          · subst hll
            rw [hsl] at hs'; cases hs'
            rw [hp] at hk'; cases hk'
            have hcs:cs'=cs:=by have:=hF'.fill; rw [hSF.fill] at this; exact (Option.some.inj this).symm
            subst hcs
            rw [hd] at hd'; cases hd'
            refine ⟨fun _=>?_,fun hlj'=>?_⟩
            · simp only [if_true]
              refine ⟨c,Zrw hd ?_,hnew,fun ρ3=>ZBL hSF.ints hblk,hwd,hv,trivial⟩
              have h1:=hI.frr.1
              rw [hI.fl] at h1
              have h2:=hSF.dl
              rw [(Zc0 dst val l' F (fun k hk=>hF k (by have:=hltO e1; omega))).1,f0] at h2
              simp at h1
              omega
            · exfalso
              simp only [hl1 s.j (by omega)] at hlj'
              have:=hreachK s.j s.k hlj' r1
              rw [hul] at this; cases this
          · obtain ⟨hx1,hx2⟩:=Znq hapt hs' hsl
            have hx1:=hx1.resolve_left hll
            obtain ⟨hy1,hy2⟩:=Znq hapt hsl hs'
            obtain ⟨g1,g2⟩:=hL.lit l' s' hs' qk' qj' d' e' hk' hj' hd' he' cs' m' hF'
            simp only [hl1 s'.k hx1.1,hl1 s'.j (fun e=>hy2 e.symm),if_neg hx1.1]
            refine ⟨fun hl=>?_,fun hl=>?_⟩
            · obtain ⟨c0,k1,k2,k3,k4,k5,k6⟩:=g1 hl
              refine ⟨c0,by rw [ZeS (hdd _ _ _ _ hk' hp hx1.1 d' hd')]; exact k1,k2,fun ρ3=>(k3 ρ3).mono (List.prefix_refl _) (q3.block _ (Zgu (by rw [k6]; decide))),k4,k5,?_⟩
              split
              · rfl
              · exact k6
            · obtain ⟨c0,k1,k2⟩:=g2 hl
              exact ⟨c0,by rw [ZeS (hdd _ _ _ _ hj' hp (fun e=>hy2 e.symm) e' he')]; exact k1,k2⟩
      by_cases hJ:∃ l s,Zha os l=some s∧s.j=i
      · -- the place in it is told
        obtain ⟨l,s,hsl,rfl⟩:=hJ
        obtain ⟨q,qk,qj,ok,oj,ol,e1,e2,e3,e4,e5,e6,hop,hg,hgk,hgj,hok1,hoj1,hd,he,c1,c2,c3,hdy,r1,r2,W1,W2⟩:=(hlink l s hsl).out
        rw [ho] at e5; cases e5
        rw [hp] at e3; cases e3
        obtain ⟨cs,mm,hSF⟩:=hsel l s hsl
        have hjk:=ZfG hdir _ _ _ r1
        have hlj:=ZfG hdir _ _ _ r2
        have hFS:=hreadW (rdO s.y) l (by omega) (hltO e1) W2
        obtain ⟨kk,hix⟩:=hSF.ix
        have hye:ev FS s.y=.int kk (mm:Int):=by rw [ZL hFS]; exact hix
        have hwt:Zbh (F s.j) p.g=some true:=by rw [hgj]; rfl
        have hwant:=JH hI.frr hgd (by rw [hwants]; exact hwt)
        rw [if_pos hwant]
        left
        obtain ⟨g1,_⟩:=hL.lit l s hsl qk p s.d s.e e2 hp hd he cs mm hSF
        obtain ⟨c0,k1,k2,k3,k4,k5,k6⟩:=g1 (hreach s.k r1)
        have hpl:(ρ'++[pl2 s.k])[(G m).length]?=some (pl2 s.k):=by rw [← hI.st.len]; simp
        have hdl:s.d < FS.length:=by
          have h1:=hI.frr.1
          have h2:=(Array.getElem?_eq_some_iff.1 k1).1
          simp at h1
          omega
        have hfx:FR (ρ'++[pl2 s.k]) (FS.set s.d (.slice (some ⟨(G m).length,0,none⟩) s.n s.n)) a':=VRl.put (hI.frr.mono (List.prefix_append _ _)) (by rw [Array.getElem?_toList]; exact k1) (k2 _ _ hpl)
        have hvx:Ze call (FS.set s.d (.slice (some ⟨(G m).length,0,none⟩) s.n s.n)) (G m) (.ia 1 (.t s.d) s.y)=some (.pointer (some ⟨(G m).length,mm,none⟩),G m):=by
          have h1:ev (FS.set s.d (.slice (some ⟨(G m).length,0,none⟩) s.n s.n)) (.t s.d)=.slice (some ⟨(G m).length,0,none⟩) s.n s.n:=by simp [ev,hdl]
          have h2:ev (FS.set s.d (.slice (some ⟨(G m).length,0,none⟩) s.n s.n)) s.y=.int kk (mm:Int):=by
            rw [ZL (fr':=FS) (fun t ht=>ZER (fun e=>hdy (by subst e; exact ht)))]; exact hye
          simp only [Ze,h1,h2]
          rw [if_pos ⟨by omega,by have:=hSF.lt; omega⟩]
          simp
        obtain ⟨c,hrun,hcv⟩:=ZE9 (P:=P) (w:=w') hfx c2 hvx
        have hvu:val s.j=O:=by
          rcases hstep s.j p hp with ⟨_,h⟩ | ⟨h,_⟩
          · rw [hoj1] at h
            simp only [Ze,ev,Option.some.injEq,Prod.mk.injEq] at h
            exact h.1.symm
          · rw [hwt] at h; cases h
        have hef:eff p.op=false:=by rw [hoj1]; rfl
        have hap:∀ (k:Nat) (o:AOper),os[k]?=some o→Zio F (fun k=>listed.getD k false) m k o→∀ (l:Nat) (b:Blk) (q:PB),(G m)[l]?=some b→ρ'[l]?=some q→(b.st=1∨b.st=2)→(pl k).blk ≠ q.blk:=by
          intro k o' ho' hpd
          obtain ⟨r,hr⟩:=hI.block hstep ho' hpd
          exact (hI.pb k o' r ho' hpd hr).2.2.2.2
        unfold Oper.wp
        rw [hrun,Oper.upon_value]
        have hI2:=hI.op hdd hp hli hl1 (.inl ⟨rfl,.inl hef⟩) (List.prefix_refl _) hI.st (Kept.refl _ _) (c:=c) (by rw [hvu]; exact .O _) hI.kp hap
        rw [hdst]
        refine next _ _ _ _ _ _ _ _ pl2 hI2 ⟨hL.inn,hL.k0,hL.up,hL.lo,?_⟩
        intro l' s' hs' qk' qj' d' e' hk' hj' hd' he' cs' m' hF'
        obtain ⟨g1,g2⟩:=hL.lit l' s' hs' qk' qj' d' e' hk' hj' hd' he' cs' m' hF'
        have hkn:s'.k ≠ s.j:=(Znq hapt hs' hsl).2
        refine ⟨fun hl=>?_,fun hl=>?_⟩
        · simp only [hl1 s'.k hkn] at hl
          obtain ⟨c0,k1,k2⟩:=g1 hl
          exact ⟨c0,by rw [ZeS (hdd _ _ _ _ hk' hp hkn d' hd')]; exact k1,k2⟩
        · by_cases hll:l'=l
          · subst hll
            rw [hsl] at hs'; cases hs'
            rw [hp] at hj'; cases hj'
            have hmm:m'=mm:=by
              have h1:=hF'.ix
              obtain ⟨kk2,h2⟩:=h1
              rw [hix] at h2
              cases h2
              rfl
            subst hmm
            rw [he] at he'; cases he'
            refine ⟨c,Zrw he ?_,?_⟩
            · have h1:=hI.frr.1
              rw [hI.fl] at h1
              have h2:=hSF.el
              rw [(Zc0 dst val l' F (fun k hk=>hF k (by have:=hltO e1; omega))).1,f0] at h2
              simp at h1
              omega
            · intro ρ3 x hx
              cases hcv with
              | ptr _ _ q hq hvd =>
                rw [hpl] at hq; cases hq
                exact .ptr x m' _ hx hvd
          · have hx1:=((Znq hapt hs' hsl).1).resolve_left hll
            simp only [hl1 s'.j hx1.2] at hl
            obtain ⟨c0,k1,k2⟩:=g2 hl
            exact ⟨c0,by rw [ZeS (hdd _ _ _ _ hj' hp hx1.2 e' he')]; exact k1,k2⟩
      have hnt:∀ l s,Zha os l=some s→s.k ≠ i∧s.j ≠ i:=fun l s h=>⟨fun e=>hK ⟨l,s,h,e⟩,fun e=>hJ ⟨l,s,h,e⟩⟩
      by_cases hS:∃ s,Zha os i=some s
      · -- the element is taken
        obtain ⟨s,hsl⟩:=hS
        obtain ⟨q,qk,qj,ok,oj,ol,e1,e2,e3,e4,e5,e6,hop,hg,hgk,hgj,hok1,hoj1,hd,he,c1,c2,c3,hdy,r1,r2,W1,W2⟩:=(hlink i s hsl).out
        rw [ho] at e6; cases e6
        rw [hp] at e1; cases e1
        obtain ⟨cs,mm,hSF⟩:=hsel i s hsl
        have hwt:Zbh (F i) p.g=some true:=by rw [hg]; rfl
        have hwant:=JH hI.frr hgd (by rw [hwants]; exact hwt)
        rw [if_pos hwant]
        left
        obtain ⟨g1,g2⟩:=hL.lit i s hsl qk qj s.d s.e e2 e3 hd he cs mm hSF
        obtain ⟨_,_,_,k3,k4,k5,k6⟩:=g1 (hreachK s.j s.k (hreach s.j r2) r1)
        obtain ⟨c0,k1,k2⟩:=g2 (hreach s.j r2)
        have hpl:(ρ'++[pl2 s.k])[(G m).length]?=some (pl2 s.k):=by rw [← hI.st.len]; simp
        have hel:s.e < FS.length:=by
          have h1:=hI.frr.1
          have h2:=(Array.getElem?_eq_some_iff.1 k1).1
          simp at h1
          omega
        have hfx:FR (ρ'++[pl2 s.k]) (FS.set s.e (.pointer (some ⟨(G m).length,mm,none⟩))) a':=VRl.put (hI.frr.mono (List.prefix_append _ _)) (by rw [Array.getElem?_toList]; exact k1) (k2 _ _ hpl)
        have hstx:=ZGK.commit hI k3 k4 k5 k6
        have hvx:Ze call (FS.set s.e (.pointer (some ⟨(G m).length,mm,none⟩))) (G m++[⟨cs,1,2⟩]) (.load1 (.t s.e))=some (val i,G m++[⟨cs,1,2⟩]):=by
          have h1:ev (FS.set s.e (.pointer (some ⟨(G m).length,mm,none⟩))) (.t s.e)=.pointer (some ⟨(G m).length,mm,none⟩):=by simp [ev,hel]
          simp only [Ze,h1]
          simp [rd1,hSF.got]
        obtain ⟨c,hrun,hcv⟩:=ZAP (P:=P) hstx hfx c3 hvx
        have hvi:Zkw (val i)=true:=hSF.ints _ (List.mem_of_getElem? hSF.got)
        have hef:eff p.op=false:=by rw [hop]; rfl
        have hap:∀ (k:Nat) (o:AOper),os[k]?=some o→Zio F (fun k=>listed.getD k false) m k o→∀ (l:Nat) (b:Blk) (q:PB),(G m)[l]?=some b→ρ'[l]?=some q→(b.st=1∨b.st=2)→(pl k).blk ≠ q.blk:=by
          intro k o' ho' hpd
          obtain ⟨r,hr⟩:=hI.block hstep ho' hpd
          exact (hI.pb k o' r ho' hpd hr).2.2.2.2
        unfold Oper.wp
        rw [hrun,Oper.upon_value,hdst]
        exact next _ _ _ _ _ _ _ _ _ (hI.op hdd hp hli hl1 (.inl ⟨rfl,.inl hef⟩) (List.prefix_refl _) hI.st (Kept.refl _ _) (ZBo hvi hcv) hI.kp hap) (hL.keep hdd hp hl1 (Kept.refl (Znj B2 os F (fun k=>listed.getD k false) m pl) _) hnt)
      have hchk:ZM P o.op p.op=true:=by
        rcases hchk0 with h | h
        · exact h
        · obtain ⟨l,s,h1,h2⟩:=ZB7 h
          rcases h2 with h2 | h2 | h2
          · exact absurd ⟨l,s,h1,h2.symm⟩ hK
          · exact absurd ⟨l,s,h1,h2.symm⟩ hJ
          · subst h2; exact absurd ⟨s,h1⟩ hS
      rcases hstep i p hp with ⟨hw,hs'⟩ | ⟨hw,hv,hGi⟩
      · have hwant:=JH hI.frr hgd (by rw [hwants]; exact hw)
        rw [if_pos hwant]
        left
        obtain ⟨hinn,hstc⟩:=hI.colours hL.inn hstep
        have hkp:∀ w2,Kept (Znj B2 os F (fun k=>listed.getD k false) m pl) w' w2→Kept B2 w1 w2:=fun w2 h=>hI.kp.trans (h.less fun k hk=>Zgu hk)
        cases he:eff p.op with
        | false =>
          have hval:Ze call FS (G m) p.op=some (val i,G m):=by
            have hv1:(Ze call FS (G m) p.op).map (·.1)=some (val i):=by
              rw [hcg]
              cases hmm:mem p.op with
              | false =>
                obtain ⟨g,hg⟩:=Zny (call:=call) (fr:=F i) he hmm
                rw [hg] at hs' ⊢
                simp only [Option.map_eq_some_iff,Prod.mk.injEq] at hs'
                obtain ⟨x,hx,rfl,_⟩:=hs'
                rw [hx]; rfl
              | true =>
                have hsame:∀ b ∈ rfp (F i) p.op,(G m)[b]?=(G i)[b]?:=by
                  intro b hb'
                  have hblt:=ZBy hmm hs' b hb'
                  have hstill:=(hfp i p hp hw b hb').2
                  by_cases him:i≤m
                  · have key:∀ j,i≤j→j≤m→(G j)[b]?=(G i)[b]?:=by
                      intro j hij
                      induction hij with
                      | refl=>intro _; rfl
                      | @step k hik ihk =>
                        intro hjm
                        obtain ⟨q,hq⟩:=hos k (by have:=hI.le; omega)
                        rcases hstill k q hq with h3 | h3
                        · exfalso
                          have hqe:eff q.op=true:=ZxF h3
                          have hki:k ≠ i:=by intro e; subst e; rw [hp] at hq; cases hq; rw [he] at hqe; cases hqe
                          have hkl:=hI.ef k q hq hqe (by omega)
                          have:=hreachK k i hkl ((hpair k i q p hq hp hki).2.2.2 h3 hmm)
                          rw [hul] at this; cases this
                        · rw [h3 (Nat.lt_of_lt_of_le hblt (hGl i k hik (by have:=hI.le; omega)))]
                          exact ihk (by omega)
                    exact key m him (Nat.le_refl _)
                  · have hbm:b < (G m).length:=by
                      have hpl:∀ (n:Nat),ZwU (G m) (FS.getD n O):=fun n=>ZtO hI.st.len (hI.frr.getD n)
                      have hrf:rfp FS p.op=rfp (F i) p.op:=ZrK (fun t ht=>hread t (by simp [ht]))
                      rw [← hrf] at hb'
                      exact Zxv (hisT p (List.mem_of_getElem? hp)).1 hpl b hb'
                    have key:∀ j,m≤j→j≤i→(G j)[b]?=(G m)[b]?:=by
                      intro j hij
                      induction hij with
                      | refl=>intro _; rfl
                      | @step k hik ihk =>
                        intro hjm
                        obtain ⟨q,hq⟩:=hos k (by omega)
                        rcases hstill k q hq with h3 | h3
                        · exfalso
                          have hin2:p ∈ os.drop (k+1):=by
                            apply List.mem_of_getElem? (i:=i - (k+1))
                            rw [List.getElem?_drop,show k+1+(i - (k+1))=i by omega,hp]
                          have:=Zrc h3 p hin2
                          rw [hmm] at this
                          simp at this
                        · rw [h3 (Nat.lt_of_lt_of_le hbm (hGl m k hik (by omega)))]
                          exact ihk (by omega)
                    exact (key i (by omega) (Nat.le_refl _)).symm
                rw [Zxi hmm hsame,hs']; rfl
            cases hx:Ze call FS (G m) p.op with
            | none=>rw [hx] at hv1; cases hv1
            | some r =>
              obtain ⟨v,M2⟩:=r
              rw [hx] at hv1
              simp only [Option.map_some,Option.some.injEq] at hv1
              rw [ZlY he hx,hv1]
          refine Zcl (hcalls _ w' hinn) hinn hstc (Kept.refl _ _) hI.frr hchk hval ?_
          intro c w2 ρ2 q1 q2 q3 q4
          obtain ⟨q2',hap⟩:=Zdl q2
          rw [hdst]
          exact next _ _ _ _ _ _ _ _ _ (hI.op hdd hp hli hl1 (.inl ⟨rfl,.inl he⟩) q1 q2' q3 q4 (hkp w2 q3) hap) (hL.keep hdd hp hl1 q3 hnt)
        | true =>
          have hmi:m≤i:=by
            rcases Nat.lt_or_ge i m with h | h
            · have:=hI.ef i p hp he h
              rw [hul] at this; cases this
            · exact h
          by_cases e:m=i
          · subst e
            have hval:Ze call FS (G m) p.op=some (val m,G (m+1)):=by rw [hcg]; exact hs'
            refine Zcl (hcalls _ w' hinn) hinn hstc (Kept.refl _ _) hI.frr hchk hval ?_
            intro c w2 ρ2 q1 q2 q3 q4
            obtain ⟨q2',hap⟩:=Zdl q2
            rw [hdst]
            exact next _ _ _ _ _ _ _ _ _ (hI.op hdd hp hli hl1 (.inr ⟨rfl,rfl⟩) q1 q2' q3 q4 (hkp w2 q3) hap) (hL.keep hdd hp hl1 q3 hnt)
          · have hal:ZqH p.op=true:=by
              rcases hmax with hmx | ⟨om,hom,hem,hlm⟩
              · omega
              · rcases (hpair m i om p hom hp e).2.2.1 hem he (by omega) with h | h
                · exact h
                · have:=hreach m h
                  rw [hlm] at this; cases this
            have hcl2:=(hisT p (List.mem_of_getElem? hp)).2
            have hs2:=hs'
            rw [Zf0 hal] at hs2
            cases hr:Q4 (F i) p.op with
            | none=>rw [hr] at hs2; cases hs2
            | some r =>
              have hr2:Q4 FS p.op=some r:=by rw [Zlq (fun t ht=>hread t (by simp [ht])),hr]
              have hval:Ze call FS (G m) p.op=some (r.2 (G m).length,G m++[r.1]):=by rw [Zf0 hal,hr2]; rfl
              refine Zcl (hcalls _ w' hinn) hinn hstc (Kept.refl _ _) hI.frr hchk hval ?_
              intro c w2 ρ2 q1 q2 q3 q4
              rw [hdst]
              obtain ⟨pl2,hI2⟩:=hI.early hdd hp hli hul hl1 hmi hal hw hcl2 hr hr2 q1 q2 q3 q4 (hkp w2 q3)
              exact next _ _ _ _ _ _ _ _ _ hI2 (hL.keep hdd hp hl1 q3 hnt)
      · have hwant:=JH hI.frr hgd (by rw [hwants]; exact hw)
        rw [if_neg (by simp [hwant])]
        rw [hdst]
        have hap:∀ (k:Nat) (o:AOper),os[k]?=some o→Zio F (fun k=>listed.getD k false) m k o→∀ (l:Nat) (b:Blk) (q:PB),(G m)[l]?=some b→ρ'[l]?=some q→(b.st=1∨b.st=2)→(pl k).blk ≠ q.blk:=by
          intro k o' ho' hpd
          obtain ⟨r,hr⟩:=hI.block hstep ho' hpd
          exact (hI.pb k o' r ho' hpd hr).2.2.2.2
        exact next _ _ _ _ _ _ _ _ _ (hI.op hdd hp hli hl1 (.inl ⟨rfl,.inr (by rw [hw]; simp)⟩) (List.prefix_refl _) hI.st (Kept.refl _ _) (by rw [hv]; exact .skp) hI.kp hap) (hL.keep hdd hp hl1 (Kept.refl (Znj B2 os F (fun k=>listed.getD k false) m pl) _) hnt)
  have none_listed:∀ k,¬ (Array.replicate ops.size false).getD k false=true:=by
    intro k hi
    simp [Array.getD_eq_getD_getElem?,Array.getElem?_replicate] at hi
    split at hi <;> simp at hi
  have inv0:Inv B w0 os fr F G val ρ a (fun k=>(Array.replicate ops.size false).getD k false) a { w with drawn:=w.drawn+1 } ρ fr 0 (fun _=>⟨0,0,0,0,false⟩):=by
    refine ⟨Nat.zero_le _,fun k o _ _ hk=>by omega,?_,hf,rfl,fun t _=>rfl,?_,?_,by rw [g0]; exact hs.world (fun k=>rfl),⟨hb.os,hb.tape,hb.output,hb.size,hb.block⟩,List.prefix_refl _,rfl,?_,?_⟩
    · intro k o _ hp; exact absurd hp.1 (none_listed k)
    · intro k o t _ hl; exact absurd hl (none_listed k)
    · intro k o t _ hp; exact absurd hp.1 (none_listed k)
    · intro k o r _ hp; exact absurd hp.1 (none_listed k)
    · intro k j o q _ _ hp; exact absurd hp.1 (none_listed k)
  obtain ⟨ρ2,FS2,m2,hI2,hmax2⟩:=Inv.on hstep hdd os.length ρ fr 0 (by omega) inv0
  refine main ops.size (Array.replicate ops.size false) (List.range ops.size) a _ ρ2 FS2 m2 _ B w0 (fun _=>⟨0,0,0,0,false⟩) (by simp) ?_ (by simp) (fun i hi _=>by simpa using hi) hI2 ⟨hB,⟨hb.os,hb.tape,hb.output,hb.size,hb.block⟩,fun _ h=>h,fun _ _=>rfl,?_⟩ hmax2
  rotate_left
  · intro l s _ qk qj d e _ _ _ _ cs m' _
    exact ⟨fun h=>absurd h (none_listed _),fun h=>absurd h (none_listed _)⟩
  intro i j hi _
  exact absurd hi (none_listed i)
theorem Zzm {P:Program} {B:Nat→Nat} {w0:World} (hm:P.follows .mixedOrders=true) (hcalls:Zmu P call) (hB:Inn B w0):Zkf P B w0 call (drA P):=by
  intro id ops os ρ M M' fr fr' a w Q h
  unfold drA at h
  rw [Bool.or_eq_true] at h
  rcases h with h | h
  · exact ZuD hm hcalls hB id ops os ρ M M' fr fr' a w Q h
  · exact ZxU hm hcalls hB id ops os ρ M M' fr fr' a w Q h
end
end GoAm
