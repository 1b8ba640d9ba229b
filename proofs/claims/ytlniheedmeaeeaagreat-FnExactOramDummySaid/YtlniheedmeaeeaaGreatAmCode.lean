/- Code and calls: what the abstract machine tells, the model does. -/
import Derived.Test.YtlniheedmeaeeaaGreatAmPerm
set_option autoImplicit false
set_option linter.unusedSimpArgs false
set_option linter.unusedVariables false
namespace GoAm
open Go Go.RowKit
def Zl9 (ops:Array Oper):Option (Nat × Bool)→Option (Nat × Bool)→Bool
  | none,none=>true
  | some (j,b),some (s,b')=>b == b' && ((ops[j]?).bind (·.dst) == some s)
  | _,_=>false
def Zca (P:Program) (ops:Array Oper):List Oper→List AOper→Bool
  | [],[]=>true
  | o :: os,p :: ps=>o.dst == p.dst && ZM P o.op p.op && Zl9 ops o.guard p.g && Zca P ops os ps
  | _,_=>false
def a8:List AOper:=[⟨some 26,.mv (.t 8),none⟩,⟨some 27,.mv (.t 7),none⟩,⟨some 28,.bin .add (.t 26) (.t 27),none⟩]
def a8b:List AOper:=[⟨some 31,.bin .gtr (.t 28) (.t 30),none⟩]
def a9a:List AOper:=[⟨some 33,.mv (.t 1),none⟩]
def a9:List AOper:=[⟨some 35,.mv (.t 8),none⟩,⟨some 36,.mv (.t 7),none⟩,⟨some 37,.bin .add (.t 35) (.t 36),none⟩,⟨some 38,.mv (.t 1),none⟩,⟨some 39,.bin .sub (.t 37) (.t 38),none⟩]
def a9b:List AOper:=[⟨some 9,.mv (.t 40),none⟩]
def a10 (w:Nat):List AOper:=[⟨some 41,.mv (.t 9),none⟩,⟨some 42,.mv (.t 1),none⟩,⟨some 43,.slc w (.t 41) (some (.t 42)) none,none⟩,⟨some 44,.mv (.t 2),none⟩,⟨some 45,.copy w (.t 43) (.t 44),none⟩]
def a11 (w:Nat):List AOper:=[⟨some 46,.mv (.t 9),none⟩,⟨some 47,.mv (.t 1),none⟩,⟨some 48,.mv (.t 7),none⟩,⟨some 49,.bin .add (.t 47) (.t 48),none⟩,⟨some 50,.slc w (.t 46) (some (.t 49)) none,none⟩,⟨some 51,.mv (.t 0),none⟩,⟨some 52,.mv (.t 1),none⟩,⟨some 53,.slc w (.t 51) (some (.t 52)) none,none⟩,⟨some 54,.copy w (.t 50) (.t 53),none⟩]
def a12:List AOper:=[⟨some 55,.mv (.t 9),none⟩,⟨some 6,.mv (.t 55),none⟩]
def a13 (w:Nat):List AOper:=[⟨some 56,.mv (.t 0),none⟩,⟨some 57,.mv (.t 8),none⟩,⟨some 58,.mv (.t 7),none⟩,⟨some 59,.bin .add (.t 57) (.t 58),none⟩,⟨some 60,.slc w (.t 56) none (some (.t 59)),none⟩,⟨some 0,.mv (.t 60),none⟩]
def a14 (w:Nat):List AOper:=[⟨some 61,.mv (.t 2),none⟩,⟨some 62,.mv (.t 0),none⟩,⟨some 63,.mv (.t 1),none⟩,⟨some 64,.mv (.t 7),none⟩,⟨some 65,.bin .add (.t 63) (.t 64),none⟩,⟨some 66,.slc w (.t 62) (some (.t 65)) none,none⟩]
def ZF1:List AOper:=[⟨some 68,.not (.t 67),none⟩]
def a15 (w:Nat):List AOper:=[⟨some 69,.mv (.t 0),none⟩,⟨some 70,.mv (.t 1),none⟩,⟨some 71,.mv (.t 7),none⟩,⟨some 72,.bin .add (.t 70) (.t 71),none⟩,⟨some 73,.slc w (.t 69) (some (.t 72)) none,none⟩,⟨some 74,.mv (.t 0),none⟩,⟨some 75,.mv (.t 1),none⟩,⟨some 76,.slc w (.t 74) (some (.t 75)) none,none⟩,⟨some 77,.copy w (.t 73) (.t 76),none⟩]
def a16 (w:Nat):List AOper:=[⟨some 78,.mv (.t 0),none⟩,⟨some 79,.mv (.t 1),none⟩,⟨some 80,.slc w (.t 78) (some (.t 79)) none,none⟩,⟨some 81,.mv (.t 2),none⟩,⟨some 82,.copy w (.t 80) (.t 81),none⟩]
def a17:List AOper:=[⟨some 83,.mv (.t 0),none⟩,⟨some 6,.mv (.t 83),none⟩]
def ZC5 (P:Program) (o:Oper):Bool:=match o.op with
  | .call { callee:=.builtin .cap,args,argTypes }=>Zlv args.toList [.t 29] && (match argTypes.toList with
    | [t]=>(match P.underlying t with
      | some (.slice _)=>true
      | _=>false)
    | _=>false) && o.dst == some 30 && o.guard.isNone
  | _=>false
def ZF7 (P:Program) (f:FuncId) (w:Nat):Bool:=match P.funcs[f]? with
  | some fn => fn.body.isNone && (fn.name == "runtime.NumGoroutine") == false && (Extern.findNext fn).isNone && (Extern.allGenericRows.lookup fn.name).isNone && (Extern.allTypedRows.lookup fn.name).isNone && (Extern.allRows.lookup fn.name).isNone && fn.origin == "slices.overlaps" && (match fn.params[0]? with
    | some t=>Zgz P t w
    | none=>false)
  | none=>false
def ZEY (P:Program) (o:Oper) (w:Nat):Bool:=match o.op with
  | .call { callee:=.value (.func f),args,argTypes:=_ }=>Zlv args.toList [.t 61,.t 66] && o.dst == some 67 && o.guard.isNone && ZF7 P f w
  | _=>false
def ZF4 (P:Program) (o:Oper) (d x:Nat):Bool:=ZM P o.op (.mv (.t x)) && o.dst == some d && o.guard.isNone
def ZG2 (P:Program) (o:Oper) (w:Nat):Bool:=ZM P o.op (.slc w (.t 32) none (some (.t 33))) && o.dst == some 34 && o.guard.isNone
def ZFO (P:Program) (o:Oper) (w by':Nat) (zero:List V):Bool:=ZM P o.op (.appz w by' zero (.t 34) (.t 39)) && o.dst == some 40 && o.guard.isNone
def ok8 (P:Program) (ops:Array Oper):Bool:=match ops.toList with
  | [o1,o2,o3,o4,o5,o6]=>Zca P ops [o1,o2,o3] a8 && ZF4 P o4 29 0 && ZC5 P o5 && Zca P ops [o6] a8b
  | _=>false
def ok9 (P:Program) (ops:Array Oper) (w by':Nat) (zero:List V):Bool:=match ops.toList with
  | [o1,o2,o3,o4,o5,o6,o7,o8,o9,o10]=>zero.all one && ZF4 P o1 32 0 && Zca P ops [o2] a9a && ZG2 P o3 w && Zca P ops [o4,o5,o6,o7,o8] a9 && ZFO P o9 w by' zero && Zca P ops [o10] a9b
  | _=>false
def ZGI (P:Program) (ops:Array Oper) (w:Nat):Bool:=match ops.toList with
  | [o1,o2,o3,o4,o5,o6,o7,o8]=>Zca P ops [o1,o2,o3,o4,o5,o6] (a14 w) && ZEY P o7 w && Zca P ops [o8] ZF1
  | _=>false
def ZCQ (P:Program) (dr:Array Oper→List AOper→Bool) (c:Code) (w by':Nat) (zero:List V):Bool :=
  match c with
  | .seq (.seq (.region _ r8 false) (.cond c31 (.seq (.region _ r9 false) (.seq (.region _ r10 false) (.seq (.region _ r11 true) (.seq (.region _ r12 false) .ret)))) .skip))
      (.seq (.region _ r13 false) (.seq (.seq (.region _ r14 false) (.cond c68 (.seq (.region _ r15 true) (.seq (.region _ r16 false) (.seq (.region _ r17 false) .ret))) .skip)) _)) =>
    okO c31 (.t 31) && okO c68 (.t 68) && ok8 P r8 && ok9 P r9 w by' zero && Zca P r10 r10.toList (a10 w) && dr r11 (a11 w) && Zca P r12 r12.toList a12 && Zca P r13 r13.toList (a13 w) && ZGI P r14 w && dr r15 (a15 w) &&
      Zca P r16 r16.toList (a16 w) && Zca P r17 r17.toList a17
  | _=>false
def Zdn (P:Program) (dr:Array Oper→List AOper→Bool):Code→ACode→Bool
  | .region _ ops draw,.reg d os=>(draw == d) && (if d then dr ops os else Zca P ops ops.toList os)
  | .region _ ops draw,.perm pi os=>draw && (ZiS pi ops.size && Zsj ops) && dr (Zds pi ops) os
  | .seq a b,.seq a' b'=>Zdn P dr a a' && Zdn P dr b b'
  | .cond c a b,.cond c' a' b'=>okO c c' && Zdn P dr a a' && Zdn P dr b b'
  | .block i b,.block i' b'=>i == i' && Zdn P dr b b'
  | .loop b,.loop _ b'=>Zdn P dr b b'
  | .exit i,.exit i'=>i == i'
  | .ret,.ret=>true
  | .skip,.skip=>true
  | c,.ins w by' zero=>ZCQ P dr c w by' zero
  | _,_=>false
def Zyr:Ex→Exit
  | .norm=>.normal
  | .exit i=>.exit i
  | .ret=>.ret
def ZtS (P : Program) (f : FuncId) : Prop := ∃ fn, P.funcs[f]? = some fn ∧ fn.body.isSome = true ∧ (fn.name == "runtime.NumGoroutine") = false
def ZlF (P:Program) (B:Nat→Nat) (w0:World) (call:Yd):Prop :=
  ∀ (f:FuncId) (args:List V) (M:Mem) (v:V) (M':Mem),call f args M=some (v,M')→∀ (ρ:List PB) (w:World) (cargs:Array V),StR B ρ M w→Kept B w0 w→VRl ρ args cargs.toList →
    ZtS P f∧Calls P f cargs w fun e w'=>∃ (c:V) (ρ':List PB),e=.returned c∧ρ <+: ρ'∧StR B ρ' M' w'∧Kept B w0 w'∧VR ρ' v c
def Zmu (P:Program) (call:Yd):Prop:=∀ (B:Nat→Nat) (w0:World),Inn B w0→ZlF P B w0 call
section
variable {P:Program} {B:Nat→Nat} {w0:World} {call:Yd}
theorem ZiX {ρ:List PB} {fr:List V} {a:Act} (hf:FR ρ fr a) {v c:V} (hv:VR ρ v c) (d:Option Nat):FR ρ (JC fr d v) (a.put d c):=by
  cases d with
  | none=>exact hf
  | some d =>
    show VRl ρ (fr.set d v) (a.tmps.setIfInBounds d c).toList
    rw [Array.toList_setIfInBounds]
    exact hf.set hv d
theorem put_defers (a:Act) (d:Option Nat) (c:V):(a.put d c).defers=a.defers:=by cases d <;> rfl
theorem Zu2 {w:World} {a:Act} {o:Oper} {x:Operand} {args:Array Operand} {tys:Array TypeId} (ho:o.op=.call { callee:=.value x,args:=args,argTypes:=tys })
    {f:FuncId} {first cap:Array V} (hx:a.eval x=.func (.func f) first cap) (hc:ZtS P f) :
    (execOp a.eval o).run P w=.ok (.enter f (first++args.map a.eval++cap)) w:=by
  obtain ⟨fn,h1,h2,h3⟩:=hc
  have h4:fn.body.isNone=false:=by cases hb:fn.body <;> simp_all
  have:execOp a.eval o=(do let d ← resolve a.eval { callee:=.value x,args:=args,argTypes:=tys } o.type; invoke d.target d.args):=by
    unfold execOp; rw [ho]
  rw [this]
  simp only [resolve,hx,Deferred.ofValue,Sem.run_bind,Sem.run_pure,Result.andThen_ok,invoke,callFunc,run_program,h1,h3,h4,Bool.false_eq_true,if_false]
theorem Zcl (hcall:ZlF P B w0 call) (hB:Inn B w0) {ρ:List PB} {M M':Mem} {fr:List V} {a:Act} {w:World} {o:Oper} {op:AOp} {v:V}
    (hs:StR B ρ M w) (hb:Kept B w0 w) (hf:FR ρ fr a) (hc:ZM P o.op op=true) (h:Ze call fr M op=some (v,M')) {K:Act→World→Prop} {Q:Exit→Act→World→Prop}
    (hK:∀ (c:V) (w':World) (ρ':List PB),ρ <+: ρ'→StR B ρ' M' w'→Kept B w0 w'→VR ρ' v c→K (a.put o.dst c) w'):o.wp P a w K Q:=by
  have hB':Inn B w:=hb.inn hB
  have enter:∀ (f:FuncId) (avs:List V) (x:Operand) (args:Array Operand) (tys:Array TypeId) (first cap:Array V),o.op=.call { callee:=.value x,args:=args,argTypes:=tys } →
      a.eval x=.func (.func f) first cap→call f avs M=some (v,M')→VRl ρ avs (first++args.map a.eval++cap).toList→o.wp P a w K Q:=by
    intro f avs x args tys first cap ho hx hcl hv
    obtain ⟨hc1,hc2⟩:=hcall f avs M v M' hcl ρ w _ hs hb hv
    unfold Oper.wp
    rw [Zu2 ho hx hc1,Oper.upon_enter]
    refine hc2.mono ?_
    rintro e w' ⟨c,ρ',rfl,h1,h2,h3,h4⟩
    exact hK c w' ρ' h1 h2 h3 h4
  by_cases n1:∃ f args,op=.call f args
  · obtain ⟨f,args,rfl⟩:=n1
    unfold ZM at hc
    simp only at hc
    split at hc
    · rename_i f' args' tys ho
      simp only [Bool.and_eq_true] at hc
      have e:f=f':=by simpa using hc.1
      subst e
      have hv:=ZdQ hf hc.2
      simp only [Ze] at h
      exact enter f _ _ _ _ #[] #[] ho rfl h (by simpa using hv)
    · cases hc
  · by_cases n2:∃ f args,op=.callv f args
    · obtain ⟨g,args,rfl⟩:=n2
      unfold ZM at hc
      simp only at hc
      split at hc
      · rename_i x args' tys ho
        simp only [Bool.and_eq_true] at hc
        have k:=Yx hf hc.1
        have hv:=ZdQ hf hc.2
        simp only [Ze] at h
        split at h
        · rename_i f first cap hp
          rw [hp] at k
          generalize e1:a.eval x=cx at k
          cases k with
          | func _ _ bs hl hh =>
            refine enter f _ x _ _ #[] bs ho e1 h ?_
            have:=hv.append (VRl.of_arrays hl hh)
            simpa using this
        · cases h
      · cases hc
    · obtain ⟨c,w',ρ',hr,h1,h2,h3,h4⟩:=ZGE (P:=P) hs hb hB' hf hc h (fun f args e=>n1 ⟨f,args,e⟩) (fun f args e=>n2 ⟨f,args,e⟩)
      unfold Oper.wp
      rcases hr with hr | ⟨hr,rfl⟩
      · rw [hr,Oper.upon_value]; exact hK c w' ρ' h1 h2 h3 h4
      · rw [hr,Oper.upon_skip]; exact hK _ w' ρ' h1 h2 h3 h4
theorem JH {ρ:List PB} {fr:List V} {a:Act} (hf:FR ρ fr a) {ops:Array Oper} {o:Oper} {g:Option (Nat × Bool)} (hg:Zl9 ops o.guard g=true) {q:Bool} (h:Zbh fr g=some q) :
    Region.wanted o (yielded ops a.tmps)=q:=by
  unfold Zl9 at hg
  split at hg
  · rename_i e; simp only [Zbh,Option.some.injEq] at h; subst h; simp [Region.wanted,e]
  · rename_i j b s b' e
    simp only [Bool.and_eq_true] at hg
    have e1:b=b':=by simpa using hg.1
    have e2:(ops[j]?).bind (·.dst)=some s:=by simpa using hg.2
    simp only [Zbh] at h
    split at h
    · rename_i p hp
      cases h
      obtain ⟨c,hc,hv⟩:=hf.get hp
      cases hv
      rw [Array.getElem?_toList] at hc
      simp [Region.wanted,e,yielded,e2,hc,e1]
    · rename_i hp
      cases h
      obtain ⟨c,hc,hv⟩:=hf.get hp
      cases hv
      rw [Array.getElem?_toList] at hc
      simp [Region.wanted,e,yielded,e2,hc]
    · cases h
  · cases hg
theorem Zlj (hcall:ZlF P B w0 call) (hB:Inn B w0) {ops:Array Oper}:∀ (l:List Oper) (os:List AOper) (ρ:List PB) (M M':Mem) (fr fr':List V) (a:Act) (w:World) (Q:Exit→Act→World→Prop),
    Zca P ops l os=true→Zhn call os fr M=some (fr',M')→StR B ρ M w→Kept B w0 w→FR ρ fr a →
    (∀ (a':Act) (w':World) (ρ':List PB),ρ <+: ρ'→FR ρ' fr' a'→StR B ρ' M' w'→Kept B w0 w'→a'.defers=a.defers→Q .normal a' w')→wpList P ops Q l a w
  | [],os,ρ,M,M',fr,fr',a,w,Q,hok,he,hs,hb,hf,hQ=>by
    cases os with
    | cons _ _=>simp [Zca] at hok
    | nil =>
      simp only [Zhn,Option.some.injEq,Prod.mk.injEq] at he
      obtain ⟨rfl,rfl⟩:=he
      exact hQ a w ρ (List.prefix_refl _) hf hs hb rfl
  | o :: l,os,ρ,M,M',fr,fr',a,w,Q,hok,he,hs,hb,hf,hQ=>by
    cases os with
    | nil=>simp [Zca] at hok
    | cons p os =>
      simp only [Zca,Bool.and_eq_true] at hok
      obtain ⟨⟨⟨hd,hc⟩,hg⟩,hok⟩:=hok
      have hd:o.dst=p.dst:=by simpa using hd
      simp only [Zhn] at he
      split at he
      · rename_i hw
        have hwant:=JH hf hg hw
        split at he
        · rename_i v M1 hstep
          unfold wpList
          rw [if_pos hwant]
          left
          refine Zcl hcall hB hs hb hf hc hstep ?_
          intro c w' ρ' h1 h2 h3 h4
          refine Zlj hcall hB l os ρ' M1 M' _ fr' _ w' Q hok he h2 h3 (by rw [hd]; exact ZiX (hf.mono h1) h4 _) ?_
          intro a' w'' ρ'' q1 q2 q3 q4 q5
          exact hQ a' w'' ρ'' (h1.trans q1) q2 q3 q4 (by rw [q5,put_defers])
        · cases he
      · rename_i hw
        have hwant:=JH hf hg hw
        unfold wpList
        rw [if_neg (by simp [hwant])]
        refine Zlj hcall hB l os ρ M M' _ fr' _ w Q hok he hs hb (by rw [hd]; exact ZiX hf .skp _) ?_
        intro a' w'' ρ'' q1 q2 q3 q4 q5
        exact hQ a' w'' ρ'' q1 q2 q3 q4 (by rw [q5,put_defers])
      · cases he
theorem Zqg {ρ:List PB}:∀ (m:List Bool) {fr cs:List V},VRl ρ fr cs→VRl ρ (Zs m fr) cs
  | [],fr,cs,h=>h
  | b :: m,[],cs,h=>by cases b <;> exact h
  | b :: m,v :: fr,[],h=>by have:=h.1; simp at this
  | b :: m,v :: fr,c :: cs,h=>by
    have h0:=h.2 0 _ _ (List.getElem?_cons_zero) (List.getElem?_cons_zero)
    have ht:VRl ρ fr cs:=⟨by have:=h.1; simpa using this,fun i p q hp hq=>h.2 (i+1) p q (by simpa using hp) (by simpa using hq)⟩
    cases b with
    | true=>exact VRl.cons h0 (Zqg m ht)
    | false=>exact VRl.cons (.O _) (Zqg m ht)
theorem Zx9 {ρ:List PB} {a:Act} (m:List Bool) {fr:List V} (h:FR ρ fr a):FR ρ (Zs m fr) a:=Zqg m h
theorem Zur {step:List V→Mem→R} {fr:List V} {M:Mem} {r:Ex × List V × Mem} (h:ZqJ step fr M=some r):∃ n,Zcm step n fr M=some r:=by
  unfold ZqJ at h
  split at h
  · rename_i he; exact ⟨_,h⟩
  · cases h
def Zkf (P:Program) (B:Nat→Nat) (w0:World) (call:Yd) (dr:Array Oper→List AOper→Bool):Prop :=
  ∀ (id:Nat) (ops:Array Oper) (os:List AOper) (ρ:List PB) (M M':Mem) (fr fr':List V) (a:Act) (w:World) (Q:Exit→Act→World→Prop),dr ops os=true →
    JP call [] [] os fr M=some (fr',M')→StR B ρ M w→Kept B w0 w→FR ρ fr a →
    (∀ (a':Act) (w':World) (ρ':List PB),ρ <+: ρ'→FR ρ' fr' a'→StR B ρ' M' w'→Kept B w0 w'→a'.defers=a.defers→Q .normal a' w')→P.follows .mixedOrders=true∧wpAny P .any ops Q ops.size (Array.replicate ops.size false) a { w with drawn:=w.drawn+1 }
def ZFo (P:Program) (B:Nat→Nat) (w0:World) (call:Yd) (dr:Array Oper→List AOper→Bool):Prop :=
  ∀ (wd by':Nat) (zero:List V) (c:Code) (ρ:List PB) (M M':Mem) (fr fr':List V) (ex:Ex) (a:Act) (w:World) (Q:Exit→Act→World→Prop),
    ZCQ P dr c wd by' zero=true→Zu call (.ins wd by' zero) fr M=some (ex,fr',M')→StR B ρ M w→Kept B w0 w→FR ρ fr a →
    (∀ (a':Act) (w':World) (ρ':List PB),ρ <+: ρ'→FR ρ' fr' a'→StR B ρ' M' w'→Kept B w0 w'→a'.defers=a.defers→Q (Zyr ex) a' w')→c.wp P Q a w
theorem ZuF (hcall:ZlF P B w0 call) (hB:Inn B w0) {dr:Array Oper→List AOper→Bool} (hdr:Zkf P B w0 call dr) (hins:ZFo P B w0 call dr):∀ (cc:ACode) (c:Code) (ρ:List PB) (M M':Mem) (fr fr':List V) (ex:Ex) (a:Act) (w:World) (Q:Exit→Act→World→Prop),
    Zdn P dr c cc=true→Zu call cc fr M=some (ex,fr',M')→StR B ρ M w→Kept B w0 w→FR ρ fr a →
    (∀ (a':Act) (w':World) (ρ':List PB),ρ <+: ρ'→FR ρ' fr' a'→StR B ρ' M' w'→Kept B w0 w'→a'.defers=a.defers→Q (Zyr ex) a' w')→c.wp P Q a w:=by
  intro cc
  induction cc with
  | reg d os =>
    intro c ρ M M' fr fr' ex a w Q hok he hs hb hf hQ
    cases c <;> simp only [Zdn,Bool.false_eq_true] at hok
    rename_i id ops draw
    simp only [Bool.and_eq_true] at hok
    obtain ⟨h1,h2⟩:=hok
    have e:draw=d:=by simpa using h1
    subst e
    simp only [Zu] at he
    split at he
    · rename_i fr1 M1 hops
      simp only [Option.some.injEq,Prod.mk.injEq] at he
      obtain ⟨rfl,rfl,rfl⟩:=he
      cases draw with
      | true =>
        simp only [if_true] at hops
        obtain ⟨hm,h⟩:=hdr id ops os ρ M M1 fr fr1 a w Q (by simpa using h2) hops hs hb hf hQ
        exact wp_region_any hm h
      | false =>
        simp only [Bool.false_eq_true,if_false] at hops
        exact wp_region_list (Zlj hcall hB ops.toList os ρ M M1 fr fr1 a w Q (by simpa using h2) hops hs hb hf hQ)
    · cases he
  | perm pi os =>
    intro c ρ M M' fr fr' ex a w Q hok he hs hb hf hQ
    cases c <;> simp only [Zdn,Bool.false_eq_true] at hok
    rename_i id ops draw
    simp only [Bool.and_eq_true] at hok
    obtain ⟨⟨h0,h1,h1'⟩,h3⟩:=hok
    subst h0
    simp only [Zu] at he
    split at he
    · rename_i fr1 M1 hops
      simp only [Option.some.injEq,Prod.mk.injEq] at he
      obtain ⟨rfl,rfl,rfl⟩:=he
      obtain ⟨hm,h⟩:=hdr id (Zds pi ops) os ρ M M1 fr fr1 a w Q h3 hops hs hb hf hQ
      refine wp_region_any hm (Zus h1 h1' ops.size _ (Array.replicate (Zds pi ops).size false) a _ (by simp) (by simp [Zqf]) (fun j hj=>?_) (by rw [Zqf] at h ⊢; exact h))
      rw [Array.getD_eq_getD_getElem?,Array.getD_eq_getD_getElem?,Array.getElem?_replicate,Array.getElem?_replicate]
      repeat' split
      all_goals rfl
    · cases he
  | seq x y ihx ihy =>
    intro c ρ M M' fr fr' ex a w Q hok he hs hb hf hQ
    cases c <;> simp only [Zdn,Bool.false_eq_true] at hok
    rename_i cx cy
    simp only [Bool.and_eq_true] at hok
    simp only [Zu] at he
    apply wp_seq
    split at he
    · rename_i fr1 M1 hx
      refine ihx cx ρ M M1 fr fr1 .norm a w _ hok.1 hx hs hb hf ?_
      intro a1 w1 ρ1 q1 q2 q3 q4 q5
      show cy.wp P Q a1 w1
      refine ihy cy ρ1 M1 M' fr1 fr' ex a1 w1 Q hok.2 he q3 q4 q2 ?_
      intro a2 w2 ρ2 r1 r2 r3 r4 r5
      exact hQ a2 w2 ρ2 (q1.trans r1) r2 r3 r4 (r5.trans q5)
    · rename_i r hne
      refine ihx cx ρ M M' fr fr' ex a w _ hok.1 he hs hb hf ?_
      intro a1 w1 ρ1 q1 q2 q3 q4 q5
      cases ex with
      | norm=>exact absurd he (hne _ _)
      | exit i=>exact hQ a1 w1 ρ1 q1 q2 q3 q4 q5
      | ret=>exact hQ a1 w1 ρ1 q1 q2 q3 q4 q5
  | cond x y z ihy ihz =>
    intro c ρ M M' fr fr' ex a w Q hok he hs hb hf hQ
    cases c <;> simp only [Zdn,Bool.false_eq_true] at hok
    rename_i cx cy cz
    simp only [Bool.and_eq_true] at hok
    have k:=Yx hf hok.1.1
    simp only [Zu] at he
    split at he
    · rename_i p hp
      rw [hp] at k
      generalize e1:a.eval cx=cv at k
      cases k
      cases p with
      | true=>exact wp_cond_true e1 (ihy cy ρ M M' fr fr' ex a w Q hok.1.2 (by simpa using he) hs hb hf hQ)
      | false=>exact wp_cond_false e1 (ihz cz ρ M M' fr fr' ex a w Q hok.2 (by simpa using he) hs hb hf hQ)
    · cases he
  | block i x ih =>
    intro c ρ M M' fr fr' ex a w Q hok he hs hb hf hQ
    cases c <;> simp only [Zdn,Bool.false_eq_true] at hok
    rename_i i' cx
    simp only [Bool.and_eq_true] at hok
    have e:i'=i:=by simpa using hok.1
    subst e
    simp only [Zu] at he
    apply wp_block
    split at he
    · rename_i j fr1 M1 hx
      refine ih cx ρ M M1 fr fr1 (.exit j) a w _ hok.2 hx hs hb hf ?_
      intro a1 w1 ρ1 q1 q2 q3 q4 q5
      show (if j=i' then Q .normal a1 w1 else Q (.exit j) a1 w1)
      split at he
      · rename_i hj
        cases he
        rw [if_pos hj]; exact hQ a1 w1 ρ1 q1 q2 q3 q4 q5
      · rename_i hj
        cases he
        rw [if_neg hj]; exact hQ a1 w1 ρ1 q1 q2 q3 q4 q5
    · rename_i r hne
      refine ih cx ρ M M' fr fr' ex a w _ hok.2 he hs hb hf ?_
      intro a1 w1 ρ1 q1 q2 q3 q4 q5
      cases ex with
      | norm=>exact hQ a1 w1 ρ1 q1 q2 q3 q4 q5
      | exit j=>exact absurd he (hne _ _ _)
      | ret=>exact hQ a1 w1 ρ1 q1 q2 q3 q4 q5
  | loop m x ih =>
    intro c ρ M M' fr fr' ex a w Q hok he hs hb hf hQ
    cases c <;> simp only [Zdn,Bool.false_eq_true] at hok
    rename_i cx
    simp only [Zu] at he
    obtain ⟨n,hn⟩:=Zur he
    refine wp_loop_rounds n ?_
    have key:∀ (n:Nat) (ρ:List PB) (M:Mem) (fr:List V) (a:Act) (w:World),Zcm (fun fr M=>Zu call x (Zs m fr) M) n fr M=some (ex,fr',M')→StR B ρ M w→Kept B w0 w→FR ρ fr a →
        (∀ (a':Act) (w':World) (ρ':List PB),ρ <+: ρ'→FR ρ' fr' a'→StR B ρ' M' w'→Kept B w0 w'→a'.defers=a.defers→Q (Zyr ex) a' w')→Code.rounds P cx Q n a w:=by
      intro n
      induction n with
      | zero=>intro ρ M fr a w hn; simp [Zcm] at hn
      | succ n ihn =>
        intro ρ M fr a w hn hs hb hf hQ
        simp only [Zcm] at hn
        show cx.wp P (Exit.then (Code.rounds P cx Q n) Q) a w
        split at hn
        · rename_i fr1 M1 hx
          refine ih cx ρ M M1 _ fr1 .norm a w _ hok hx hs hb (Zx9 m hf) ?_
          intro a1 w1 ρ1 q1 q2 q3 q4 q5
          show Code.rounds P cx Q n a1 w1
          refine ihn ρ1 M1 fr1 a1 w1 hn q3 q4 q2 ?_
          intro a2 w2 ρ2 r1 r2 r3 r4 r5
          exact hQ a2 w2 ρ2 (q1.trans r1) r2 r3 r4 (r5.trans q5)
        · rename_i r hne
          refine ih cx ρ M M' _ fr' ex a w _ hok hn hs hb (Zx9 m hf) ?_
          intro a1 w1 ρ1 q1 q2 q3 q4 q5
          cases ex with
          | norm=>exact absurd hn (hne _ _)
          | exit i=>exact hQ a1 w1 ρ1 q1 q2 q3 q4 q5
          | ret=>exact hQ a1 w1 ρ1 q1 q2 q3 q4 q5
    exact key n ρ M fr a w hn hs hb hf hQ
  | exit i =>
    intro c ρ M M' fr fr' ex a w Q hok he hs hb hf hQ
    cases c <;> simp only [Zdn,Bool.false_eq_true] at hok
    rename_i i'
    have e:i'=i:=by simpa using hok
    subst e
    simp only [Zu,Option.some.injEq,Prod.mk.injEq] at he
    obtain ⟨rfl,rfl,rfl⟩:=he
    exact wp_exit (hQ a w ρ (List.prefix_refl _) hf hs hb rfl)
  | ret =>
    intro c ρ M M' fr fr' ex a w Q hok he hs hb hf hQ
    cases c <;> simp only [Zdn,Bool.false_eq_true] at hok
    simp only [Zu,Option.some.injEq,Prod.mk.injEq] at he
    obtain ⟨rfl,rfl,rfl⟩:=he
    exact wp_ret (hQ a w ρ (List.prefix_refl _) hf hs hb rfl)
  | skip =>
    intro c ρ M M' fr fr' ex a w Q hok he hs hb hf hQ
    cases c <;> simp only [Zdn,Bool.false_eq_true] at hok
    simp only [Zu,Option.some.injEq,Prod.mk.injEq] at he
    obtain ⟨rfl,rfl,rfl⟩:=he
    exact wp_skip (hQ a w ρ (List.prefix_refl _) hf hs hb rfl)
  | ins wd by' zero =>
    intro c ρ M M' fr fr' ex a w Q hok he hs hb hf hQ
    exact hins wd by' zero c ρ M M' fr fr' ex a w Q (by cases c <;> simpa [Zdn] using hok) he hs hb hf hQ
end
end GoAm
