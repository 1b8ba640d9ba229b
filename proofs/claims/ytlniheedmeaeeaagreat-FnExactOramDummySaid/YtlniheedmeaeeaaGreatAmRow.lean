/- From what the abstract machine tells of a law's call to what the row asks. -/
import Derived.Test.YtlniheedmeaeeaaGreatAmIn
import Derived.Test.YtlniheedmeaeeaaGreatAmDraw
import Derived.Test.YtlniheedmeaeeaaGreatAmLit
import Derived.Test.YtlniheedmeaeeaaGreatAmCall
import Derived.Test.YtlniheedmeaeeaaGreatAmEq
import Derived.WalkKit
import Derived.ProofKit
import Derived.Carry
import Derived.ChangeOld
set_option autoImplicit false
set_option linter.unusedVariables false
set_option linter.unusedSimpArgs false
namespace GoAm
open Go Go.RowKit Go.WideShapes
def Zxx (ag:Bool) (ty:Ty) (M:Mem) (v:V) (x:ty.D):Prop:=if ag=true then ∃ cs:List V,v=.agg cs.toArray∧Rep ty M cs x else Rep ty M [v] x
def Ins:List (Bool × Ty)→Mem→List V→Prop
  | [],_,[]=>True
  | g :: gs,M,v :: vs=>(∃ x,Zxx g.1 g.2 M v x∧Fit g.2 x)∧Ins gs M vs
  | _,_,_=>False
theorem ZtA {g:Bool × Ty} {gs:List (Bool × Ty)} {M:Mem} {avs:List V} (h:Ins (g :: gs) M avs):∃ v vs x,avs=v :: vs∧Zxx g.1 g.2 M v x∧Fit g.2 x∧Ins gs M vs:=by
  cases avs with
  | nil=>cases h
  | cons v vs=>obtain ⟨⟨x,h1,h2⟩,h3⟩:=h; exact ⟨v,vs,x,rfl,h1,h2,h3⟩
theorem ZCI {M:Mem} {avs:List V} (h:Ins [] M avs):avs=[]:=by
  cases avs with
  | nil=>rfl
  | cons v vs=>cases h
theorem Zzi {ty:Ty} {M:Mem} {v:V} {x:ty.D} (h:Zxx true ty M v x):∃ cs:List V,v=.agg cs.toArray∧Rep ty M cs x:=h
theorem ZAo {ty:Ty} {M:Mem} {v:V} {x:ty.D} (h:Zxx false ty M v x):Rep ty M [v] x:=h
theorem Zxx.mono {ag:Bool} {ty:Ty} {M M':Mem} {v:V} {x:ty.D} (hm:M <+: M') (h:Zxx ag ty M v x):Zxx ag ty M' v x:=by
  unfold Zxx at h ⊢
  split at h
  · obtain ⟨cs,e,h⟩:=h
    rw [if_pos (by assumption)]
    exact ⟨cs,e,h.mono hm⟩
  · rw [if_neg (by assumption)]
    exact h.mono hm
def ZDE (P:Program) (t:TypeId) (g:Bool × Ty):Bool :=
  tyB P 12 t g.2 && (match P.underlying t with
    | some (.struct _)=>g.1
    | some (.array _ _)=>false
    | _=>!g.1)
def ZCa (P:Program):List TypeId→List (Bool × Ty)→Bool
  | [],[]=>true
  | t :: ts,g :: gs=>ZDE P t g && ZCa P ts gs
  | _,_=>false
section
variable {H:Type} {enc:TypeId × Value→H} {P:Program} {w:World} {B:Nat→Nat}
theorem ZEQ {t:TypeId} {g:Bool × Ty} (hp:ZDE P t g=true) {b0:Nat} {v:V} {d:DataW H} {ps:List MemPlace} (hval:Value.okWide P w .any b0 t v) (hd:DataW.Trod enc P w 0 (fun _=>true) true t v d ps)
    {ρ:List PB} {M:Mem} (hin:InS B w ρ M):∃ (ρ':List PB) (M':Mem) (av:V),ρ <+: ρ'∧M <+: M'∧InS B w ρ' M'∧VR ρ' av v∧∃ x,Zxx g.1 g.2 M' av x∧Fit g.2 x:=by
  simp only [ZDE,Bool.and_eq_true] at hp
  obtain ⟨h1,h2⟩:=hp
  obtain ⟨fuel,hf⟩:=hd
  obtain ⟨ρ',M',acs,x,q1,q2,q3,q4,q5,q6⟩:=ZFK _ _ _ h1 _ _ _ hf ρ M hin
  split at h2
  · rename_i fs ht
    unfold Value.okWide at hval
    rw [ht] at hval
    obtain ⟨cs,rfl,_⟩:=hval
    refine ⟨ρ',M',.agg acs.toArray,q1,q2,q3,?_,x,?_,q6⟩
    · have:=VR.aggl q4
      simpa [Value.cells] using this
    · unfold Zxx
      rw [if_pos h2]
      exact ⟨acs,rfl,q5⟩
  · cases h2
  · rename_i hns hna
    have hg:g.1=false:=by simpa using h2
    have hv1:v.cells.toList=[v]:=by
      have h1':=h1
      unfold tyB at h1'
      split at h1'
      · rename_i ht; obtain ⟨b,rfl⟩:=okWide_bool ht hval; rfl
      · rename_i ht; obtain ⟨b,rfl⟩:=okWide_string ht hval; rfl
      · rename_i ht; obtain ⟨b,rfl⟩:=okWide_int ht hval; rfl
      · rename_i ht; obtain ⟨a,n,c,rfl⟩:=okWide_slice ht hval; rfl
      · rename_i fs ht; exact absurd ht (hns fs)
      · cases h1'
    rw [hv1] at q4
    match acs,q4 with
    | [av],q4 =>
      refine ⟨ρ',M',av,q1,q2,q3,q4.2 0 _ _ rfl rfl,x,?_,q6⟩
      unfold Zxx
      rw [if_neg (by simp [hg])]
      exact q5
    | [],q4=>have:=q4.1; simp at this
    | _ :: _ :: _,q4=>have:=q4.1; simp at this
theorem ZxN:∀ {ts:List TypeId} {gs:List (Bool × Ty)} {vs:List V} {ds:List (DataW H)} {ps:List MemPlace} {b0:Nat},ZCa P ts gs=true→(∀ (j:Nat) t v,ts[j]?=some t→vs[j]?=some v→Value.okWide P w .any b0 t v) →
    DataW.TrodAll enc P w 0 (fun _=>true) true ts vs ds ps→∀ {ρ:List PB} {M:Mem},InS B w ρ M→∃ (ρ':List PB) (M':Mem) (avs:List V),ρ <+: ρ'∧M <+: M'∧InS B w ρ' M'∧VRl ρ' avs vs∧Ins gs M' avs
  | [],[],[],[],_,_,_,_,_,ρ,M,hin=>⟨ρ,M,[],List.prefix_refl _,List.prefix_refl _,hin,.nil,trivial⟩
  | t :: ts,g :: gs,v :: vs,d :: ds,ps,b0,hp,hval,hA,ρ,M,hin=>by
    simp only [ZCa,Bool.and_eq_true] at hp
    obtain ⟨p,q,h1,h2,rfl⟩:=hA
    obtain ⟨ρ1,M1,av,k1,k2,k3,k4,x,k5,k6⟩:=ZEQ (B:=B) hp.1 (hval 0 t v rfl rfl) h1 hin
    obtain ⟨ρ2,M2,avs,r1,r2,r3,r4,r5⟩:=ZxN hp.2 (fun j t v ht hv=>hval (j+1) t v (by simpa using ht) (by simpa using hv)) h2 k3
    exact ⟨ρ2,M2,av :: avs,k1.trans r1,k2.trans r2,r3,VRl.cons (k4.mono r1) r4,⟨x,k5.mono r2,k6⟩,r5⟩
  | [],_ :: _,_,_,_,_,hp,_,_,_,_,_=>by simp [ZCa] at hp
  | _ :: _,[],_,_,_,_,hp,_,_,_,_,_=>by simp [ZCa] at hp
  | [],[],_ :: _,_,_,_,_,_,hA,_,_,_=>by simp [DataW.TrodAll] at hA
  | [],[],[],_ :: _,_,_,_,_,hA,_,_,_=>by simp [DataW.TrodAll] at hA
  | _ :: _,_ :: _,[],_,_,_,_,_,hA,_,_,_=>by simp [DataW.TrodAll] at hA
  | _ :: _,_ :: _,_ :: _,[],_,_,_,_,hA,_,_,_=>by simp [DataW.TrodAll] at hA
theorem ZpC (hl:laidOutB P=true) {W':World} (hb:Below w.heap.size w W'):∀ {ts:List TypeId} {vs:List V} {ds:List (DataW H)} {ps:List MemPlace},(ts.all fun t=>P.readableRec t && decide (t < P.types.size))=true →
    DataW.TrodAll enc P w 0 (fun _=>true) true ts vs ds ps→DataW.TrodAll enc P W' 0 (fun b=>decide (b < w.heap.size)) true ts vs ds ps
  | [],[],[],_,_,h=>h
  | t :: ts,v :: vs,d :: ds,_,hr,h=>by
    simp only [List.all_cons,Bool.and_eq_true,decide_eq_true_eq] at hr
    have hlt:=DataW.TrodAll.lt h
    obtain ⟨p,q,h1,h2,rfl⟩:=h
    exact ⟨p,q,Below.trod hl hr.1.1 hr.1.2 h1 hb (fun x hx=>hlt x (List.mem_append_left _ hx)),ZpC hl hb hr.2 h2,rfl⟩
  | [],_ :: _,_,_,_,h=>by simp [DataW.TrodAll] at h
  | [],[],_ :: _,_,_,h=>by simp [DataW.TrodAll] at h
  | _ :: _,[],_,_,_,h=>by simp [DataW.TrodAll] at h
  | _ :: _,_ :: _,[],_,_,h=>by simp [DataW.TrodAll] at h
theorem Zto {base:Nat} {spare:Nat→Bool} {held:Bool}:∀ {ts:List TypeId} {vs:List V} {ds:List (DataW H)} {ps:List MemPlace},DataW.TrodAll enc P w base spare held ts vs ds ps→ds.length=ts.length
  | [],[],[],_,_=>rfl
  | t :: ts,v :: vs,d :: ds,_,h=>by
    obtain ⟨p,q,_,h2,_⟩:=h
    simp [Zto h2]
  | [],_ :: _,_,_,h=>by simp [DataW.TrodAll] at h
  | [],[],_ :: _,_,h=>by simp [DataW.TrodAll] at h
  | _ :: _,[],_,_,h=>by simp [DataW.TrodAll] at h
  | _ :: _,_ :: _,[],_,h=>by simp [DataW.TrodAll] at h
theorem Zx2 {α:Type}:∀ {l:List α},l.length=2→∃ a0 a1,l=[a0,a1]
  | [a0,a1],_=>⟨a0,a1,rfl⟩
theorem Zx5 {T:Tab} (hm:P.follows .mixedOrders=true) (hT:Zye P (drA P) T) {f:FuncId} {ts:List TypeId} {gs:List (Bool × Ty)} (hp:ZCa P ts gs=true)
    (law:∀ (M:Mem) (avs:List V),(∀ b ∈ M,b.st ≠ 2)→Ins gs M avs→∃ M',Zb T f avs M=some (.bool true,M'))
    {b0:Nat} {args:Array V} {ds:List (DataW H)} {ps:List MemPlace} (hval:∀ (j:Nat) t v,ts[j]?=some t→args[j]?=some v→Value.okWide P w .any b0 t v)
    (hA:DataW.TrodAll enc P w 0 (fun _=>true) true ts args.toList ds ps):Calls P f args w fun e W'=>e=.returned (.bool true)∧Below w.heap.size w W':=by
  let col:Nat→Nat:=fun k=>if k < w.heap.size then 1 else 0
  have hin:InS col w [] []:=⟨⟨rfl,fun l b p h=>by simp at h,fun l b p h=>by simp at h,fun l b p h=>by simp at h,fun l b p h=>by simp at h,fun l b p h=>by simp at h,fun l l' b b' p p' _ h=>by simp at h⟩,fun b h=>by simp at h,fun k hk=>if_pos hk⟩
  have hinn:Inn col w:=fun k hk=>Classical.byContradiction fun q=>hk (if_neg q)
  obtain ⟨ρ,M,avs,_,_,k3,k4,k5⟩:=ZxN (B:=col) hp (fun j t v ht hv=>hval j t v ht (by simpa using hv)) hA hin
  obtain ⟨M',hc⟩:=law M avs k3.ro k5
  refine (ZGp hT hinn (fun k hk B w0 hB=>Zzm hm hk hB) hc k3.st (Kept.refl _ _) k4).mono ?_
  rintro e W' ⟨c,ρ',rfl,_,_,h4,h5⟩
  cases h5
  exact ⟨rfl,h4.os,h4.tape,h4.output,h4.size,fun k hk=>h4.block k (by show (if k < w.heap.size then 1 else 0) ≠ 0; rw [if_pos hk]; decide)⟩
end
end GoAm
