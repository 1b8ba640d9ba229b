/- Calls: a call that the abstract machine tells, the model ends so. And how a call unfolds. -/
import Derived.Test.YtlniheedmeaeeaaGreatAmIns
set_option autoImplicit false
set_option linter.unusedSimpArgs false
set_option linter.unusedVariables false
namespace GoAm
open Go Go.RowKit
def Zj8 (P:Program):List ResultVar→List ARes→Bool
  | [],[]=>true
  | .tmp t :: rs,.tmp t' :: as=>t == t' && Zj8 P rs as
  | .cell a t :: rs,.cell1 a' :: as=>a == a' && ZcR P t == some false && Zj8 P rs as
  | .cell a t :: rs,.celln a' n :: as=>a == a' && ZcR P t == some true && szB P t n && Zj8 P rs as
  | _,_=>false
def Zye (P:Program) (dr:Array Oper→List AOper→Bool) (T:Tab):Prop :=
  ∀ (f : FuncId) (af : AFun), T f = some af → ∃ (fn : Func) (c : Code), P.funcs[f]? = some fn ∧ fn.body = some c ∧ Zdn P dr c af.code = true ∧ fn.ntmps = af.ntmps ∧ Zj8 P fn.results.toList af.res = true ∧ (fn.name == "runtime.NumGoroutine") = false
section
variable {P:Program} {B:Nat→Nat} {w0:World}
def ZrD (a:Act):ResultVar→Sem V
  | .tmp t=>pure (a.tmps.getD t undef)
  | .cell ad t=>do loadVar t (← asAddr (a.tmps.getD ad undef))
theorem Zuw (fn:Func) (a:Act):results fn a.tmps=(do
    let vs ← fn.results.mapM (ZrD a)
    pure (if h:vs.size=1 then vs[0] else .tuple vs)):=rfl
theorem ZzO {ρ:List PB} {M:Mem} {w:World} {fr:List V} {a:Act} (hs:StR B ρ M w) (hf:FR ρ fr a) {r:ResultVar} {x:ARes} (hok:Zj8 P [r] [x]=true) {v:V} (h:ZEd fr M x=some v) :
    ∃ c,(ZrD a r).run P w=.ok c w∧VR ρ v c:=by
  have hg:∀ t,VR ρ (fr.getD t O) (a.tmps.getD t undef):=by
    intro t
    have:=hf.getD t
    have e:a.tmps.getD t undef=a.tmps.toList.getD t undef:=by
      rw [Array.getD_eq_getD_getElem?,List.getD_eq_getElem?_getD,Array.getElem?_toList]
    rw [e]; exact this
  cases r with
  | tmp t =>
    cases x <;> simp only [Zj8,Bool.false_eq_true,Bool.and_eq_true] at hok
    rename_i t'
    have e:t=t':=by simpa using hok.1
    subst e
    simp only [ZEd,Option.some.injEq] at h
    subst h
    exact ⟨_,rfl,hg t⟩
  | cell ad t =>
    cases x <;> simp only [Zj8,Bool.false_eq_true,Bool.and_eq_true] at hok
    · rename_i t'
      have e:ad=t':=by simpa using hok.1.1
      subst e
      have hag:ZcR P t=some false:=by simpa using hok.1.2
      simp only [ZEd] at h
      split at h
      · rename_i l o hp
        have k:=hg ad
        rw [hp] at k
        generalize e1:a.tmps.getD ad undef=cx at k
        cases k with
        | ptr _ _ p hpp hvd =>
          obtain ⟨c,hcell,hvr⟩:=hs.rd1 h hpp
          exact ⟨c,by simp only [ZrD,e1,asAddr,Sem.run_bind,Sem.run_pure,Result.andThen_ok,loadVar,Zd5 hag]; simp [hcell],hvr⟩
      · cases h
    · rename_i t' n
      have e:ad=t':=by simpa using hok.1.1.1
      subst e
      have hag:ZcR P t=some true:=by simpa using hok.1.1.2
      simp only [ZEd] at h
      split at h
      · rename_i l o hp
        simp only [Option.map_eq_some_iff] at h
        obtain ⟨vs,hr,rfl⟩:=h
        have k:=hg ad
        rw [hp] at k
        generalize e1:a.tmps.getD ad undef=cx at k
        cases k with
        | ptr _ _ p hpp hvd =>
          obtain ⟨cc,hl,hvr,_,hcell⟩:=hs.rdn hr hpp
          have:=run_loadCells_list (P:=P) w _ cc hcell
          rw [hl] at this
          exact ⟨.agg cc.toArray,by simp only [ZrD,e1,asAddr,Sem.run_bind,Sem.run_pure,Result.andThen_ok,loadVar,Zhc hag,Za1 hok.1.2,this,if_true],.aggl hvr⟩
      · cases h
theorem Zrg {ρ:List PB} {M:Mem} {w:World} {fr:List V} {a:Act} (hs:StR B ρ M w) (hf:FR ρ fr a):∀ {rs:List ResultVar} {xs:List ARes},Zj8 P rs xs=true→∀ {vs:List V},Zr5 fr M xs=some vs →
    ∃ cs:List V,(rs.mapM (m:=Sem) (ZrD a)).run P w=.ok cs w∧VRl ρ vs cs
  | [],[],_,vs,h=>by simp only [Zr5,Option.some.injEq] at h; subst h; exact ⟨[],rfl,.nil⟩
  | [],_ :: _,hok,_,_=>by simp [Zj8] at hok
  | r :: rs,[],hok,_,_=>by cases r <;> simp [Zj8] at hok
  | r :: rs,x :: xs,hok,vs,h=>by
    have hok2:Zj8 P [r] [x]=true∧Zj8 P rs xs=true:=by
      cases r <;> cases x <;> simp_all [Zj8]
    simp only [Zr5] at h
    split at h
    · rename_i v vs' hv hvs
      cases h
      obtain ⟨c,h1,h2⟩:=ZzO hs hf hok2.1 hv
      obtain ⟨cs,h3,h4⟩:=Zrg hs hf hok2.2 hvs
      refine ⟨c :: cs,?_,VRl.cons h2 h4⟩
      simp only [List.mapM_cons,Sem.run_bind,h1,h3,Result.andThen_ok,Sem.run_pure]
    · cases h
theorem Zso {ρ:List PB} {M:Mem} {w:World} {fr:List V} {a:Act} {fn:Func} (hs:StR B ρ M w) (hf:FR ρ fr a) {xs:List ARes} (hok:Zj8 P fn.results.toList xs=true) {v:V} (h:Zmd fr M xs=some v) :
    ∃ c,(results fn a.tmps).run P w=.ok c w∧VR ρ v c:=by
  unfold Zmd at h
  have key:∀ vs,Zr5 fr M xs=some vs→∃ cs:List V,(results fn a.tmps).run P w=.ok (if h:cs.toArray.size=1 then cs.toArray[0] else .tuple cs.toArray) w∧VRl ρ vs cs:=by
    intro vs hvs
    obtain ⟨cs,h1,h2⟩:=Zrg (P:=P) hs hf hok hvs
    refine ⟨cs,?_,h2⟩
    rw [Zuw,Array.mapM_eq_mapM_toList]
    simp only [Sem.run_bind,Sem.run_map,h1,Result.andThen_ok,Sem.run_pure]
  split at h
  · rename_i u hvs
    cases h
    obtain ⟨cs,h1,h2⟩:=key _ hvs
    match cs,h2 with
    | [c],h2=>exact ⟨c,by simpa using h1,h2.2 0 _ _ (by simp) (by simp)⟩
    | [],h2=>have:=h2.1; simp at this
    | _ :: _ :: _,h2=>have:=h2.1; simp at this
  · rename_i vs hne hvs
    cases h
    obtain ⟨cs,h1,h2⟩:=key _ hvs
    have hl:cs.length ≠ 1:=by
      rw [← h2.1]
      intro hl
      match vs,hl with
      | [u],_=>exact hne u rfl
    refine ⟨.tuple cs.toArray,?_,.tuplel h2⟩
    rw [h1]
    rw [dif_neg (by simpa using hl)]
  · cases h
theorem Zyh {ρ ρ':List PB} {v c:V} (hs:ZqG v=true) (hv:VR ρ' v c):VR ρ v c:=by
  have key:∀ (x c:V),Zu3 x=true→VR ρ' x c→VR ρ x c:=by
    intro x c hx hv
    cases hv <;> simp only [Zu3,Bool.false_eq_true] at hx
    · exact .bool _
    · exact .int _ _
    · exact .str _
  cases hv with
  | O c=>exact .O c
  | bool b=>exact .bool b
  | int k n=>exact .int k n
  | str s=>exact .str s
  | agg as bs hl h =>
    simp only [ZqG] at hs
    exact .agg as bs hl (fun i a b ha hb=>key a b (List.all_eq_true.1 hs a (List.mem_of_getElem? (by simpa using ha))) (h i a b ha hb))
  | tuple as bs hl h =>
    simp only [ZqG] at hs
    exact .tuple as bs hl (fun i a b ha hb=>key a b (List.all_eq_true.1 hs a (List.mem_of_getElem? (by simpa using ha))) (h i a b ha hb))
  | skp=>simp [ZqG] at hs
  | nil=>simp [ZqG] at hs
  | slice=>simp [ZqG] at hs
  | ptr=>simp [ZqG] at hs
  | nilptr=>simp [ZqG] at hs
  | nilFunc=>simp [ZqG] at hs
  | func=>simp [ZqG] at hs
theorem ZG0 {ρ ρ':List PB} (hp:ρ <+: ρ') {v c0:V} (h0:VR ρ v c0):∀ {c:V},VR ρ' v c→VR ρ v c:=by
  have same:∀ {l:Nat} {p p':PB},ρ[l]?=some p→ρ'[l]?=some p'→p'=p:=by
    intro l p p' h h'
    rw [JR hp h] at h'
    exact (Option.some.inj h').symm
  induction h0 with
  | O c0=>intro c _; exact .O c
  | skp=>intro c h; cases h; exact .skp
  | bool b=>intro c h; cases h; exact .bool b
  | int k n=>intro c h; cases h; exact .int k n
  | str s=>intro c h; cases h; exact .str s
  | nil=>intro c h; cases h; exact .nil
  | slice l o n ca a c0 p hpp hs =>
    intro c h
    cases h with
    | slice _ _ _ _ a' c' p' hpp' hs' =>
      have:=same hpp hpp'
      subst this
      exact .slice l o n ca a' c' _ hpp hs'
  | ptr l o p hpp hv =>
    intro c h
    cases h with
    | ptr _ _ p' hpp' hv' =>
      have:=same hpp hpp'
      subst this
      exact .ptr l o _ hpp hv
  | nilptr=>intro c h; cases h; exact .nilptr
  | nilFunc=>intro c h; cases h; exact .nilFunc
  | func f as bs hl _ ih =>
    intro c h
    cases h with
    | func _ _ bs' hl' h' =>
      refine .func f as bs' hl' (fun i a b ha hb=>?_)
      have hi:i < bs.size:=by rw [← hl]; exact (Array.getElem?_eq_some_iff.1 ha).1
      exact ih i a bs[i] ha (by simp [hi]) (h' i a b ha hb)
  | agg as bs hl _ ih =>
    intro c h
    cases h with
    | agg _ bs' hl' h' =>
      refine .agg as bs' hl' (fun i a b ha hb=>?_)
      have hi:i < bs.size:=by rw [← hl]; exact (Array.getElem?_eq_some_iff.1 ha).1
      exact ih i a bs[i] ha (by simp [hi]) (h' i a b ha hb)
  | tuple as bs hl _ ih =>
    intro c h
    cases h with
    | O c=>exact .O c
    | tuple _ bs' hl' h' =>
      refine .tuple as bs' hl' (fun i a b ha hb=>?_)
      have hi:i < bs.size:=by rw [← hl]; exact (Array.getElem?_eq_some_iff.1 ha).1
      exact ih i a bs[i] ha (by simp [hi]) (h' i a b ha hb)
theorem StR.gc {ρ ρ':List PB} {M N:Mem} {w w':World} (h0:StR B ρ M w) (hp:ρ <+: ρ') (h:StR B ρ' (M++N) w'):StR B ρ M w':=by
  refine h.cut hp h0.len ?_
  rintro l b p hb hpp hst ⟨cs,T,fr,g1,g2,g3,g4,g5⟩
  obtain ⟨_,cs0,T0,fr0,k1,k2,k3,k4,k5⟩:=h0.blk l b p hb hpp hst
  refine ⟨cs,T,fr,g1,g2,g3,fun i v hi=>?_,g5⟩
  obtain ⟨x1,c,x2,x3⟩:=g4 i v hi
  obtain ⟨_,c0,_,y3⟩:=k4 i v hi
  exact ⟨x1,c,x2,ZG0 hp y3 x3⟩
theorem Zsq {dr:Array Oper→List AOper→Bool} {T:Tab} (hT:Zye P dr T) (hdr:∀ k,Zmu P (Jv T k)→∀ (B:Nat→Nat) (w0:World),Inn B w0→Zkf P B w0 (Jv T k) dr):∀ k,Zmu P (Jv T k):=by
  intro k
  induction k with
  | zero=>intro B w0 hB f args M v M' h; simp [Jv] at h
  | succ k ih =>
    intro B w0 hB f args M v M' h ρ w cargs hs hb hv
    simp only [Jv] at h
    split at h
    · rename_i af haf
      obtain ⟨fn,c,h1,h2,h3,h4,h5,h6⟩:=hT f af haf
      refine ⟨⟨fn,h1,by rw [h2]; rfl,h6⟩,?_⟩
      refine calls_of_wp h1 h2 ?_
      have hf:FR ρ (args++List.replicate (af.ntmps - args.length) O) { tmps:=cargs++Array.replicate (fn.ntmps - cargs.size) undef,defers:=[] }:=by
        show VRl ρ _ (cargs++Array.replicate (fn.ntmps - cargs.size) undef).toList
        have hl:args.length=cargs.size:=by have:=hv.1; simpa using this
        rw [h4,hl,Array.toList_append,Array.toList_replicate]
        exact hv.append (VRl.replicate (.O _) _)
      have main:∀ (ex:Ex) (fr':List V) (M1:Mem) (u:V),Zu (Jv T k) af.code (args++List.replicate (af.ntmps - args.length) O) M=some (ex,fr',M1)→(ex=.norm∨ex=.ret) →
          Zmd fr' M1 af.res=some u→gc M (some (u,M1))=some (v,M') →
          c.wp P (bodyPost P fn fun e w'=>∃ (c:V) (ρ':List PB),e=.returned c∧ρ <+: ρ'∧StR B ρ' M' w'∧Kept B w0 w'∧VR ρ' v c) { tmps:=cargs++Array.replicate (fn.ntmps - cargs.size) undef,defers:=[] } w:=by
        intro ex fr' M1 u hcode hex hres hgc
        refine ZuF (ih B w0 hB) hB (hdr k ih B w0 hB) (ZwP (ih B w0 hB) hB (hdr k ih B w0 hB)) af.code c ρ M M1 _ fr' ex _ w _ h3 hcode hs hb hf ?_
        intro a' w' ρ' q1 q2 q3 q4 q5
        obtain ⟨cv,r1,r2⟩:=Zso (P:=P) (fn:=fn) q3 q2 h5 hres
        have fin:∃ (c:V) (ρ':List PB),Ending.returned cv=.returned c∧ρ <+: ρ'∧StR B ρ' M' w'∧Kept B w0 w'∧VR ρ' v c:=by
          simp only [gc] at hgc
          split at hgc
          · rename_i hcond
            cases hgc
            obtain ⟨hsc,N,rfl⟩:=hcond
            exact ⟨cv,ρ,rfl,List.prefix_refl _,hs.gc q1 q3,q4,Zyh hsc r2⟩
          · cases hgc
            exact ⟨cv,ρ',rfl,q1,q3,q4,r2⟩
        rcases hex with rfl | rfl
        · exact ⟨q5,cv,r1,fin⟩
        · exact ⟨q5,cv,r1,fin⟩
      simp only [Zyw] at h
      split at h
      · rename_i fr' M1 hcode
        cases hr:Zmd fr' M1 af.res with
        | none=>rw [hr] at h; simp [gc] at h
        | some u=>rw [hr] at h; exact main .norm fr' M1 u hcode (.inl rfl) hr h
      · rename_i fr' M1 hcode
        cases hr:Zmd fr' M1 af.res with
        | none=>rw [hr] at h; simp [gc] at h
        | some u=>rw [hr] at h; exact main .ret fr' M1 u hcode (.inr rfl) hr h
      · simp [gc] at h
    · cases h
theorem ZuM {T:Tab} {f:FuncId} {args:List V} {M:Mem} {r:V × Mem} (h:Zb T f args M=some r):∃ k,Jv T k f args M=some r:=by
  unfold Zb at h
  split at h
  · exact ⟨_,h⟩
  · cases h
theorem ZGp {dr:Array Oper→List AOper→Bool} {T:Tab} (hT:Zye P dr T) (hB:Inn B w0) (hdr:∀ k,Zmu P (Jv T k)→∀ (B:Nat→Nat) (w0:World),Inn B w0→Zkf P B w0 (Jv T k) dr) {f:FuncId} {args:List V} {M M':Mem} {v:V}
    (h:Zb T f args M=some (v,M')) {ρ:List PB} {w:World} {cargs:Array V} (hs:StR B ρ M w) (hb:Kept B w0 w) (hv:VRl ρ args cargs.toList) :
    Calls P f cargs w fun e w'=>∃ (c:V) (ρ':List PB),e=.returned c∧ρ <+: ρ'∧StR B ρ' M' w'∧Kept B w0 w'∧VR ρ' v c:=by
  obtain ⟨k,hk⟩:=ZuM h
  exact (Zsq hT hdr k B w0 hB f args M v M' hk ρ w cargs hs hb hv).2
end
end GoAm
