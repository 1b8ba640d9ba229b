/- The laws' helpers over slices of structs: written once for all. -/
import Derived.Test.YtlniheedmeaeeaaGreatAmUpd
set_option autoImplicit false
set_option linter.unusedVariables false
set_option linter.unusedSimpArgs false
namespace GoAm
open Go
def ZEh:List Bool:=[true,false,false,true,true,false,false,false,false,false,false,false,false,false,false,false,false,false,false,false,false,false,false]
def ZDM (w bytes:Nat) (zero:List V) (f:FuncId):ACode:=.seq (.seq (.reg false [⟨some 8,.mv (.t 4),none⟩,⟨some 9,.mv (.t 0),none⟩,⟨some 10,.len (.t 9),none⟩,⟨some 11,.bin .lss (.t 8) (.t 10),none⟩]) (.cond (.t 11) (.skip) (.exit 0))) (.seq (.block 1 (.reg false [⟨some 14,.mv (.t 3),none⟩,⟨some 15,.mv (.t 4),none⟩,⟨some 16,.mv (.t 0),none⟩,⟨some 17,.mv (.t 4),none⟩,⟨some 18,.ia w (.t 16) (.t 17),none⟩,⟨some 19,.loadn w (.t 18),none⟩,⟨some 20,.call f [(.t 19)],none⟩,⟨some 21,.ia w (.t 14) (.t 15),none⟩,⟨none,.store w (.t 21) (.t 20),none⟩])) (.reg false [⟨some 12,.mv (.t 4),none⟩,⟨some 13,.bin .add (.t 12) (.c (.int .i64 1)),none⟩,⟨some 4,.mv (.t 13),none⟩]))
def ZG5 (w bytes:Nat) (zero:List V) (f:FuncId):ACode:=.seq (.reg false [⟨some 2,.mv (.c (.slice none 0 0)),none⟩]) (.seq (.reg false [⟨some 5,.mv (.t 0),none⟩,⟨some 6,.len (.t 5),none⟩,⟨some 7,.make w bytes zero (.t 6),none⟩,⟨some 3,.mv (.t 7),none⟩]) (.seq (.seq (.reg false [⟨some 4,.mv (.c (.int .i64 0)),none⟩]) (.block 0 (.loop ZEh (ZDM w bytes zero f)))) (.seq (.reg false [⟨some 22,.mv (.t 3),none⟩,⟨some 2,.mv (.t 22),none⟩]) (.ret))))
def ZGW (w bytes:Nat) (zero:List V) (f:FuncId):AFun:=⟨ZG5 w bytes zero f,23,[.tmp 2]⟩
theorem ZEH (T:Tab) (w bytes:Nat) (zero:List V) (f:FuncId) (fr:List V) (M:Mem):lp (Zb T) ZEh (ZDM w bytes zero f) fr M=Yv (Zu (Zb T) (ZDM w bytes zero f) (Zs ZEh fr) M) (Zb T) ZEh (ZDM w bytes zero f):=YA _ _ _ _ _
@[simp] theorem ZHm (a0 a1 a2 a3 a4 a5 a6 a7 a8 a9 a10 a11 a12 a13 a14 a15 a16 a17 a18 a19 a20 a21 a22:V):Zs ZEh [a0,a1,a2,a3,a4,a5,a6,a7,a8,a9,a10,a11,a12,a13,a14,a15,a16,a17,a18,a19,a20,a21,a22]=[a0,O,O,a3,a4,O,O,O,O,O,O,O,O,O,O,O,O,O,O,O,O,O,O]:=rfl
def ZzZ:List Bool:=[true,true,false,false,false,true,false,false,false,false,false,false,false,false,false,false,false,false,false,false,false,false,false,false,false,false,false]
def ZxD (w:Nat) (f:FuncId):ACode:=.seq (.seq (.reg false [⟨some 11,.mv (.t 5),none⟩,⟨some 12,.mv (.t 0),none⟩,⟨some 13,.len (.t 12),none⟩,⟨some 14,.bin .lss (.t 11) (.t 13),none⟩]) (.cond (.t 14) (.skip) (.exit 0))) (.seq (.block 1 (.seq (.reg true [⟨some 17,.mv (.t 0),none⟩,⟨some 18,.mv (.t 5),none⟩,⟨some 19,.ia w (.t 17) (.t 18),none⟩,⟨some 20,.loadn w (.t 19),none⟩,⟨some 21,.mv (.t 1),none⟩,⟨some 22,.mv (.t 5),none⟩,⟨some 23,.ia w (.t 21) (.t 22),none⟩,⟨some 24,.loadn w (.t 23),none⟩,⟨some 25,.call f [(.t 20),(.t 24)],none⟩,⟨some 26,.not (.t 25),none⟩]) (.cond (.t 26) (.seq (.reg false [⟨some 4,.mv (.c (.bool false)),none⟩]) (.ret)) (.skip)))) (.reg false [⟨some 15,.mv (.t 5),none⟩,⟨some 16,.bin .add (.t 15) (.c (.int .i64 1)),none⟩,⟨some 5,.mv (.t 16),none⟩]))
def ZFT (w:Nat) (f:FuncId):ACode:=.seq (.reg false [⟨some 4,.mv (.c (.bool false)),none⟩]) (.seq (.seq (.reg false [⟨some 6,.mv (.t 0),none⟩,⟨some 7,.len (.t 6),none⟩,⟨some 8,.mv (.t 1),none⟩,⟨some 9,.len (.t 8),none⟩,⟨some 10,.bin .neq (.t 7) (.t 9),none⟩]) (.cond (.t 10) (.seq (.reg false [⟨some 4,.mv (.c (.bool false)),none⟩]) (.ret)) (.skip))) (.seq (.seq (.reg false [⟨some 5,.mv (.c (.int .i64 0)),none⟩]) (.block 0 (.loop ZzZ (ZxD w f)))) (.seq (.reg false [⟨some 4,.mv (.c (.bool true)),none⟩]) (.ret))))
def ZF2 (w:Nat) (f:FuncId):AFun:=⟨ZFT w f,27,[.tmp 4]⟩
theorem ZDK (T:Tab) (w:Nat) (f:FuncId) (fr:List V) (M:Mem):lp (Zb T) ZzZ (ZxD w f) fr M=Yv (Zu (Zb T) (ZxD w f) (Zs ZzZ fr) M) (Zb T) ZzZ (ZxD w f):=YA _ _ _ _ _
@[simp] theorem ZHk (a0 a1 a2 a3 a4 a5 a6 a7 a8 a9 a10 a11 a12 a13 a14 a15 a16 a17 a18 a19 a20 a21 a22 a23 a24 a25 a26:V):Zs ZzZ [a0,a1,a2,a3,a4,a5,a6,a7,a8,a9,a10,a11,a12,a13,a14,a15,a16,a17,a18,a19,a20,a21,a22,a23,a24,a25,a26]=[a0,a1,O,O,O,a5,O,O,O,O,O,O,O,O,O,O,O,O,O,O,O,O,O,O,O,O,O]:=rfl
def ZEe:List Bool:=[true,true,false,false,false,true,false,false,false,false,false,false,false,false,false,false,false,false,false,false,false,false,false,false,false,false,false]
def ZBr (w:Nat) (f:FuncId):ACode:=.seq (.seq (.reg false [⟨some 12,.mv (.t 5),none⟩,⟨some 13,.mv (.t 0),none⟩,⟨some 14,.len (.t 13),none⟩,⟨some 15,.bin .lss (.t 12) (.t 14),none⟩]) (.cond (.t 15) (.skip) (.exit 0))) (.seq (.block 1 (.seq (.reg false [⟨some 18,.mv (.t 0),none⟩,⟨some 19,.mv (.t 5),none⟩,⟨some 20,.ia w (.t 18) (.t 19),none⟩,⟨some 21,.loadn w (.t 20),none⟩,⟨some 22,.mv (.t 1),none⟩,⟨some 23,.call f [(.t 21),(.t 22)],none⟩,⟨some 1,.mv (.t 23),none⟩]) (.seq (.reg false [⟨some 24,.mv (.t 1),none⟩,⟨some 25,.bin .lss (.t 24) (.c (.int .i64 0)),none⟩]) (.cond (.t 25) (.seq (.reg false [⟨some 4,.mv (.c (.int .i64 (-1))),none⟩]) (.ret)) (.skip))))) (.reg false [⟨some 16,.mv (.t 5),none⟩,⟨some 17,.bin .add (.t 16) (.c (.int .i64 1)),none⟩,⟨some 5,.mv (.t 17),none⟩]))
def ZGR (w:Nat) (f:FuncId):ACode:=.seq (.reg false [⟨some 4,.mv (.c (.int .i64 0)),none⟩]) (.seq (.reg false [⟨some 6,.mv (.t 1),none⟩,⟨some 7,.mv (.t 0),none⟩,⟨some 8,.len (.t 7),none⟩,⟨some 9,.bin .sub (.t 6) (.t 8),none⟩,⟨some 1,.mv (.t 9),none⟩]) (.seq (.seq (.reg false [⟨some 10,.mv (.t 1),none⟩,⟨some 11,.bin .lss (.t 10) (.c (.int .i64 0)),none⟩]) (.cond (.t 11) (.seq (.reg false [⟨some 4,.mv (.c (.int .i64 (-1))),none⟩]) (.ret)) (.skip))) (.seq (.seq (.reg false [⟨some 5,.mv (.c (.int .i64 0)),none⟩]) (.block 0 (.loop ZEe (ZBr w f)))) (.seq (.reg false [⟨some 26,.mv (.t 1),none⟩,⟨some 4,.mv (.t 26),none⟩]) (.ret)))))
def ZGv (w:Nat) (f:FuncId):AFun:=⟨ZGR w f,27,[.tmp 4]⟩
theorem ZBX (T:Tab) (w:Nat) (f:FuncId) (fr:List V) (M:Mem):lp (Zb T) ZEe (ZBr w f) fr M=Yv (Zu (Zb T) (ZBr w f) (Zs ZEe fr) M) (Zb T) ZEe (ZBr w f):=YA _ _ _ _ _
@[simp] theorem ZHp (a0 a1 a2 a3 a4 a5 a6 a7 a8 a9 a10 a11 a12 a13 a14 a15 a16 a17 a18 a19 a20 a21 a22 a23 a24 a25 a26:V):Zs ZEe [a0,a1,a2,a3,a4,a5,a6,a7,a8,a9,a10,a11,a12,a13,a14,a15,a16,a17,a18,a19,a20,a21,a22,a23,a24,a25,a26]=[a0,a1,O,O,O,a5,O,O,O,O,O,O,O,O,O,O,O,O,O,O,O,O,O,O,O,O,O]:=rfl
def Bd (N:Nat):(t:Ty)→t.D→Prop
  | .sl t,xs=>List.length xs≤N∧∀ x,x ∈ (xs:List t.D)→Bd N t x
  | .pr a b,x=>Bd N a x.1∧Bd N b x.2
  | .str,s=>List.length (α:=UInt8) s≤N
  | .int _,_=>True
  | .u8,_=>True
  | .bool,_=>True
def Zlh (M M':Mem) (L:List Nat):Prop:=L.Nodup∧∀ l ∈ L,M.length≤l∧l < M'.length
def ToF (T:Tab) (t:Ty) (F:FuncId):Prop:=∀ (M:Mem) (cs:List V) (x:t.D),Rep t M cs x→Bd 1048576 t x→∃ M' ds L,M <+: M'∧Zb T F [.agg cs.toArray] M=some (.agg ds.toArray,M')∧Own t M' ds x L∧Zlh M M' L
def ToS (T:Tab) (t:Ty) (F:FuncId):Prop:=∀ (M:Mem) (v:V) (xs:List t.D),Rep (.sl t) M [v] xs→Bd 1048576 (.sl t) xs→∃ M' u L,M <+: M'∧Zb T F [v] M=some (u,M')∧Own (.sl t) M' [u] xs L∧Zlh M M' L
def EqF (T:Tab) (t:Ty) (F:FuncId):Prop:=∀ (M:Mem) (cs ds:List V) (x y:t.D),Rep t M cs x→Rep t M ds y→Bd 1000000000 t x→Zb T F [.agg cs.toArray,.agg ds.toArray] M=some (.bool (decide (x=y)),M)
def EqS (T:Tab) (t:Ty) (F:FuncId):Prop:=∀ (M:Mem) (v u:V) (xs ys:List t.D),Rep (.sl t) M [v] xs→Rep (.sl t) M [u] ys→Bd 1000000000 (.sl t) xs→Zb T F [v,u] M=some (.bool (decide (xs=ys)),M)
def SzF (T:Tab) (t:Ty) (F:FuncId):Prop:=∀ (M:Mem) (cs:List V) (x:t.D) (left:Int),Rep t M cs x→Bd 9223372036854775807 t x→0≤left→left≤1048576→∃ l:Int,l≤left∧Zb T F [.agg cs.toArray,.int .i64 left] M=some (.int .i64 l,M)∧(0≤l→Bd 1048576 t x)
def SzS (T:Tab) (t:Ty) (F:FuncId):Prop:=∀ (M:Mem) (v:V) (xs:List t.D) (left:Int),Rep (.sl t) M [v] xs→Bd 9223372036854775807 (.sl t) xs→0≤left→left≤1048576→∃ l:Int,l≤left∧Zb T F [v,.int .i64 left] M=some (.int .i64 l,M)∧(0≤l→Bd 1048576 (.sl t) xs)
theorem Zz6 {z:List V} {css:List (List V)} {ds:List V} {w k:Nat} (hw:∀ cs ∈ css,cs.length=w) (hz:z.length=w) (hd:ds.length=w) :
    splice (css.flatten++zeroCells z (k+1)) (css.length * w) ds=(css++[ds]).flatten++zeroCells z k:=by
  have hl:=YP hw
  unfold splice
  rw [← hl,List.take_left,← List.drop_drop,List.drop_left]
  have:zeroCells z (k+1)=z++zeroCells z k:=rfl
  rw [this,List.drop_left' (by omega)]
  simp
theorem Own.set {M:Mem} {l:Nat} {b b2:Blk} (hb:M[l]?=some b) (hw:b2.w=b.w) {t:Ty} {cs:List V} {x:t.D} {L:List Nat} (h:Own t M cs x L) (hn:l ∉ L):Own t (M.set l b2) cs x L:=by
  have hu:Upd M (M.set l b2) (·=l):=by
    refine ⟨by simp,fun i hi=>List.getElem?_set_ne (fun e=>hi e.symm),fun i c hc=>?_⟩
    by_cases e:l=i
    · subst e
      refine ⟨b2,List.getElem?_set_self (ZI hb),?_⟩
      rw [hb] at hc; cases hc; exact hw
    · exact ⟨c,by rw [List.getElem?_set_ne e]; exact hc,rfl⟩
  exact h.upd hu (fun j hj e=>hn (e ▸ hj))
theorem ZCq {T:Tab} {t:Ty} {w bytes:Nat} {zero:List V} {f g:FuncId} (hT:T g=some (ZGW w bytes zero f)) (hw:t.w=w) (hz:zero.length=w) (h1:zero.all one=true) (hby:bytes≤1000) (he:ToF T t f):ToS T t g:=by
  intro M v xs h hbd
  obtain ⟨a,c,rfl⟩:=h.slen
  obtain ⟨n,hn⟩:∃ n,n=xs.length:=⟨_,rfl⟩
  have hn1:n≤1048576:=by rw [hn]; exact hbd.1
  have hnb:n * bytes≤281474976710656:=Nat.le_trans (Nat.mul_le_mul hn1 hby) (by decide)
  have hnb':(n:Int) * (bytes:Int)≤281474976710656:=by
    have:((n * bytes:Nat):Int)≤281474976710656:=by omega
    simpa using this
  have hn2:(n:Int)≤9223372036854775807:=by omega
  let Inv:Nat→List (List V) × List (List Nat)→Mem→Prop:=fun i s X=>M <+: X∧X[M.length]?=some ⟨s.1.flatten++zeroCells zero (n - i),w,2⟩∧s.1.length=i∧s.2.length=i ∧
    (∀ (j:Nat) (ds:List V) (x:t.D) (K:List Nat),s.1[j]?=some ds→xs[j]?=some x→s.2[j]?=some K→Own t X ds x K)∧s.2.flatten.Nodup∧(∀ l ∈ s.2.flatten,M.length < l∧l < X.length)∧∀ ds ∈ s.1,ds.length=w
  have key:=YT (call:=Zb T) (K:=ZEh) (L:=ZDM w bytes zero f) Inv (fun i _=>[.slice a n c,O,O,.slice (some ⟨M.length,0,none⟩) n n,.int .i64 i,O,O,O,O,O,O,O,O,O,O,O,O,O,O,O,O,O,O]) (n:=n) ?_ 0 ([],[]) (M++[⟨zeroCells zero n,w,2⟩]) (by omega)
    ⟨List.prefix_append _ _,by simp,rfl,rfl,fun j ds x K h=>by simp at h,by simp,by simp,by simp⟩
  · obtain ⟨s,X,⟨q1,q2,q3,q4,q5,q6,q7,q8⟩,e⟩:=key
    simp only [Int.natCast_zero,Int.ofNat_zero] at e
    have hfl:=YP q8
    refine ⟨X,.slice (some ⟨M.length,0,none⟩) n n,if n=0 then [] else M.length :: s.2.flatten,q1,?_,?_,?_⟩
    · rw [← hn,Zc hT]
      unfold ZGW ZG5
      simp [hn2,hnb',h1,e]
      rw [ZEH]
      unfold ZDM
      simp
    · split
      · rename_i h0
        have:xs=[]:=List.length_eq_zero_iff.1 (by omega)
        subst this
        refine .inl ⟨rfl,rfl,.inr ⟨M.length,0,n,_,[],by rw [h0]; rfl,q2,.inr (.inl rfl),hw.symm,rfl,fun i ds x hd=>by simp at hd,by simp⟩⟩
      · refine .inr ⟨M.length,0,n,_,s.1,s.2,fun h0=>?_,by rw [← hn],q2,rfl,hw.symm,by rw [q3,hn],by rw [q4,hn],q5,by simp,rfl⟩
        subst h0
        simp at hn
        omega
    · split
      · exact ⟨by simp,by simp⟩
      · refine ⟨List.nodup_cons.2 ⟨fun hm=>by have:=q7 _ hm; omega,q6⟩,fun l hl=>?_⟩
        rcases List.mem_cons.1 hl with rfl | hl
        · exact ⟨Nat.le_refl _,ZI q2⟩
        · have:=q7 l hl; omega
  · rintro i ⟨css,Ls⟩ X hi ⟨q1,q2,q3,q4,q5,q6,q7,q8⟩
    simp only at q2 q3 q4 q5 q6 q7 q8
    have hix:i < xs.length:=by omega
    obtain ⟨_,l,o,rfl,cs,hrd,hrep⟩:=Zga h hix
    rw [hw] at hrd
    have hrd':=ZjS q1 hrd
    obtain ⟨X1,ds,L,p1,e1,o1,f1,f2⟩:=he X cs xs[i] (hrep.mono q1) (hbd.2 _ (List.getElem_mem hix))
    have hdl:=o1.rep.len
    have hd1:=o1.rep.one
    rw [hw] at hdl
    have hb1:=Zh p1 q2
    have hcl:=YP q8
    have hzl:=Zik zero (n - i)
    have hsub:n - i=(n - (i+1))+1:=by omega
    have e6:IntKind.i64.wrap ((i:Int)+1)=i+1:=Zd (by omega) (by omega)
    have hfit:i * w+ds.length≤(css.flatten++zeroCells zero (n - i)).length:=by
      rw [List.length_append,hcl,hzl,hdl,q3,hz,hsub,Nat.add_mul]; omega
    have hwr:=ZdU (o:=i * w) hb1 rfl hfit hd1
    have hsp:=Zz6 (z:=zero) (k:=n - (i+1)) q8 hz hdl
    rw [q3,← hsub] at hsp
    simp only [hsp] at hwr
    refine ⟨(css++[ds],Ls++[L]),X1.set M.length ⟨(css++[ds]).flatten++zeroCells zero (n - (i+1)),w,2⟩,⟨QQ (Nat.le_refl _) (q1.trans p1),List.getElem?_set_self (ZI hb1),by simp [q3],by simp [q4],?_,?_,?_,?_⟩,?_⟩
    · intro j ds' x K hd hx hK
      simp only at hd hK
      by_cases hj:j < i
      · rw [List.getElem?_append_left (by omega)] at hd hK
        have:=q5 j ds' x K hd hx hK
        refine (this.grow p1).set (b2:=⟨(css++[ds]).flatten++zeroCells zero (n - (i+1)),w,2⟩) hb1 rfl fun hm=>?_
        have:=q7 _ (List.mem_flatten.2 ⟨K,List.mem_of_getElem? hK,hm⟩)
        omega
      · by_cases hj2:j=i
        · subst hj2
          rw [List.getElem?_append_right (by omega),q3] at hd
          rw [List.getElem?_append_right (by omega),q4] at hK
          simp at hd hK
          subst hd hK
          rw [List.getElem?_eq_getElem hix] at hx
          cases hx
          refine o1.set (b2:=⟨(css++[ds]).flatten++zeroCells zero (n - (j+1)),w,2⟩) hb1 rfl fun hm=>?_
          have:=f2 _ hm
          have:=ZI q2
          omega
        · rw [List.getElem?_eq_none (by simp; omega)] at hd
          cases hd
    · simp only [List.flatten_append,List.flatten_cons,List.flatten_nil,List.append_nil]
      refine List.nodup_append.2 ⟨q6,f1,fun x hx y hy e=>?_⟩
      subst e
      have:=q7 x hx
      have:=f2 x hy
      omega
    · intro l hl
      simp only [List.flatten_append,List.flatten_cons,List.flatten_nil,List.append_nil,List.mem_append] at hl
      rw [List.length_set]
      have:=p1.length_le
      rcases hl with hl | hl
      · have:=q7 l hl; omega
      · have:=f2 l hl; have:=ZI q2; omega
    · intro d hd
      rcases List.mem_append.1 hd with hd | hd
      · exact q8 d hd
      · simp at hd; subst hd; exact hdl
    · rw [ZEH]
      unfold ZDM
      simp [hi,hrd',e1,hwr,hdl,e6]
theorem ZCj {T:Tab} {t:Ty} {w:Nat} {f g:FuncId} (hT:T g=some (ZF2 w f)) (hw:t.w=w) (he:EqF T t f):EqS T t g:=by
  intro M v u xs ys h h2 hbd
  obtain ⟨a,c,rfl⟩:=h.slen
  obtain ⟨b,d,rfl⟩:=h2.slen
  by_cases hl:xs.length=ys.length
  rotate_left
  · have hne:xs ≠ ys:=fun e=>hl (by rw [e])
    have hl2:¬ ((xs.length:Int)=ys.length):=by omega
    rw [decide_eq_false hne,Zc hT]
    unfold ZF2 ZFT
    simp [hl2]
  obtain ⟨n,hn⟩:∃ n,n=xs.length:=⟨_,rfl⟩
  have hny:ys.length=n:=by omega
  have hn1:n≤1000000000:=by rw [hn]; exact hbd.1
  rw [← hn,hny]
  have rd:∀ i (hi:i < n),∃ cs ds l o l2 o2,a=some ⟨l,o,none⟩∧b=some ⟨l2,o2,none⟩∧rdn M l (o+i * w) w=some cs∧rdn M l2 (o2+i * w) w=some ds∧Zb T f [.agg cs.toArray,.agg ds.toArray] M=some (.bool (decide (xs[i]?=ys[i]?)),M):=by
    intro i hi
    have hix:i < xs.length:=by omega
    have hiy:i < ys.length:=by omega
    obtain ⟨_,l,o,e1,cs,hrd,hrep⟩:=Zga h hix
    obtain ⟨_,l2,o2,e2,ds,hrd2,hrep2⟩:=Zga h2 hiy
    rw [hw] at hrd hrd2
    have:=he M cs ds xs[i] ys[i] hrep hrep2 (hbd.2 _ (List.getElem_mem hix))
    refine ⟨cs,ds,l,o,l2,o2,e1,e2,hrd,hrd2,?_⟩
    rw [this,List.getElem?_eq_getElem hix,List.getElem?_eq_getElem hiy]
    simp
  have step:∀ i,i < n→xs[i]?=ys[i]?→lp (Zb T) ZzZ (ZxD w f) [.slice a n c,.slice b n d,O,O,O,.int .i64 i,O,O,O,O,O,O,O,O,O,O,O,O,O,O,O,O,O,O,O,O,O] M =
      lp (Zb T) ZzZ (ZxD w f) [.slice a n c,.slice b n d,O,O,O,.int .i64 ((i+1:Nat):Int),O,O,O,O,O,O,O,O,O,O,O,O,O,O,O,O,O,O,O,O,O] M:=by
    intro i hi hxy
    obtain ⟨cs,ds,l,o,l2,o2,rfl,rfl,r1,r2,r3⟩:=rd i hi
    have e6:IntKind.i64.wrap ((i:Int)+1)=i+1:=Zd (by omega) (by omega)
    rw [decide_eq_true hxy] at r3
    rw [ZDK]
    unfold ZxD
    simp [hi,r1,r2,r3,e6]
  rcases Zht (fun i=>decide (xs[i]?=ys[i]?)) n with hg | ⟨j,hj,h1,h3⟩
  · have hxy:xs=ys:=by
      apply List.ext_getElem?
      intro i
      by_cases hi:i < n
      · exact of_decide_eq_true (hg i hi)
      · rw [List.getElem?_eq_none (by omega),List.getElem?_eq_none (by omega)]
    have hc:=Zl2 (g:=fun i:Nat=>lp (Zb T) ZzZ (ZxD w f) [.slice a n c,.slice b n d,O,O,O,.int .i64 i,O,O,O,O,O,O,O,O,O,O,O,O,O,O,O,O,O,O,O,O,O] M) (n:=n) fun i hi=>step i hi (of_decide_eq_true (hg i hi))
    simp only [Int.natCast_zero,Int.ofNat_zero] at hc
    rw [decide_eq_true hxy,Zc hT]
    unfold ZF2 ZFT
    simp [hc]
    rw [ZDK]
    unfold ZxD
    simp
  · have hne:xs ≠ ys:=fun e=>by subst e; simp at h3
    have hc:=Zl2 (g:=fun i:Nat=>lp (Zb T) ZzZ (ZxD w f) [.slice a n c,.slice b n d,O,O,O,.int .i64 i,O,O,O,O,O,O,O,O,O,O,O,O,O,O,O,O,O,O,O,O,O] M) (n:=j) fun i hi=>step i (by omega) (of_decide_eq_true (h1 i hi))
    simp only [Int.natCast_zero,Int.ofNat_zero] at hc
    obtain ⟨cs,ds,l,o,l2,o2,rfl,rfl,r1,r2,r3⟩:=rd j hj
    rw [h3] at r3
    rw [decide_eq_false hne,Zc hT]
    unfold ZF2 ZFT
    simp [hc]
    rw [ZDK]
    unfold ZxD
    simp [hj,r1,r2,r3]
theorem ZFg {T:Tab} {t:Ty} {w:Nat} {f g:FuncId} (hT:T g=some (ZGv w f)) (hw:t.w=w) (he:SzF T t f):SzS T t g:=by
  intro M v xs left h hfit h0 h1
  obtain ⟨a,c,rfl⟩:=h.slen
  obtain ⟨n,hn⟩:∃ n,n=xs.length:=⟨_,rfl⟩
  have hn1:n≤9223372036854775807:=by rw [hn]; exact hfit.1
  rw [← hn]
  have e:IntKind.i64.wrap (left - (n:Int))=left - n:=Zd (by omega) (by omega)
  by_cases hl:left - (n:Int) < 0
  · refine ⟨-1,by omega,?_,by omega⟩
    have hl2:left < (n:Int):=by omega
    rw [Zc hT]
    unfold ZGv ZGR
    simp [e,hl,hl2]
  have hn2:n≤1048576:=by omega
  have rd:∀ i (hi:i < n) (lf:Int),0≤lf→lf≤1048576→∃ cs l o l2,a=some ⟨l,o,none⟩∧rdn M l (o+i * w) w=some cs∧l2≤lf∧Zb T f [.agg cs.toArray,.int .i64 lf] M=some (.int .i64 l2,M)∧(0≤l2→∀ x,xs[i]?=some x→Bd 1048576 t x):=by
    intro i hi lf g1 g2
    have hix:i < xs.length:=by omega
    obtain ⟨_,l,o,e1,cs,hrd,hrep⟩:=Zga h hix
    rw [hw] at hrd
    obtain ⟨l2,q1,q3,q4⟩:=he M cs xs[i] lf hrep (hfit.2 _ (List.getElem_mem hix)) g1 g2
    refine ⟨cs,l,o,l2,e1,hrd,q1,q3,fun hh x hx=>?_⟩
    rw [List.getElem?_eq_getElem hix] at hx
    cases hx
    exact q4 hh
  have main:∀ k i (lf:Int),i+k=n→0≤lf→lf≤left→(∀ j x,j < i→xs[j]?=some x→Bd 1048576 t x) →
      ∃ l:Int,l≤left∧(0≤l→∀ j x,j < n→xs[j]?=some x→Bd 1048576 t x) ∧
      ZjG M [.tmp 4] (Zjx (Ze1 0 (lp (Zb T) ZEe (ZBr w f) [.slice a n c,.int .i64 lf,O,O,O,.int .i64 i,O,O,O,O,O,O,O,O,O,O,O,O,O,O,O,O,O,O,O,O,O] M)) (Zb T) (.seq (.reg false [⟨some 26,.mv (.t 1),none⟩,⟨some 4,.mv (.t 26),none⟩]) (.ret)))=some (.int .i64 l,M):=by
    intro k
    induction k with
    | zero =>
      intro i lf hi g1 g2 hx
      obtain rfl:i=n:=by omega
      refine ⟨lf,g2,fun _=>hx,?_⟩
      rw [ZBX]
      unfold ZBr
      simp
    | succ k ih =>
      intro i lf hi g1 g2 hx
      have hin:i < n:=by omega
      obtain ⟨cs,l,o,l2,rfl,r1,q1,q3,q4⟩:=rd i hin lf g1 (by omega)
      have e6:IntKind.i64.wrap ((i:Int)+1)=i+1:=Zd (by omega) (by omega)
      by_cases hl2:l2 < 0
      · refine ⟨-1,by omega,by omega,?_⟩
        rw [ZBX]
        unfold ZBr
        simp [hin,r1,q3,hl2]
      · obtain ⟨l3,y1,y3,y4⟩:=ih (i+1) l2 (by omega) (by omega) (by omega) (fun j x hj hjx=>by
          by_cases hji:j < i
          · exact hx j x hji hjx
          · obtain rfl:j=i:=by omega
            exact q4 (by omega) x hjx)
        refine ⟨l3,y1,y3,?_⟩
        rw [ZBX]
        unfold ZBr at y4 ⊢
        simp only [Int.natCast_add,Int.natCast_one] at y4
        simp [hin,r1,q3,hl2,e6,y4]
  obtain ⟨l,y1,y3,y4⟩:=main n 0 (left - n) (by omega) (by omega) (by omega) (fun j x hj=>by omega)
  refine ⟨l,y1,?_,fun hh=>⟨by omega,fun x hx=>?_⟩⟩
  · have hl2:¬ left < (n:Int):=by omega
    simp only [Int.natCast_zero,Int.ofNat_zero] at y4
    rw [Zc hT]
    unfold ZGv ZGR
    simp [e,hl,hl2,y4]
  · obtain ⟨i,hi,rfl⟩:=List.getElem_of_mem hx
    exact y3 hh i _ (by omega) (List.getElem?_eq_getElem hi)
def ZEZ (T:Tab) (t:Ty) (F:FuncId) (mk:Int→t.D→t.D) (tot:t.D→Int):Prop:=∀ (M:Mem) (cs:List V) (x:t.D) (L:List Nat) (k:Int),Own t M cs x L→L.Nodup→Bd 1048576 t x→0 < k→k+tot x≤4611686018427387904→∃ M',Zb T F [.agg cs.toArray,.int .i64 k] M=some (.int .i64 (k+tot x),M')∧ZfO M M' (· ∈ L)∧Own t M' cs (mk k x) L
def Zy1 (T:Tab) (t:Ty) (F:FuncId) (mk:Int→List t.D→List t.D) (tot:List t.D→Int):Prop:=∀ (M:Mem) (v:V) (xs:List t.D) (L:List Nat) (k:Int),Own (.sl t) M [v] xs L→L.Nodup→Bd 1048576 (.sl t) xs→0 < k→k+tot xs≤4611686018427387904→∃ M',Zb T F [v,.int .i64 k] M=some (.int .i64 (k+tot xs),M')∧ZfO M M' (· ∈ L)∧Own (.sl t) M' [v] (mk k xs) L
def ZEF (T:Tab) (t:Ty) (F:FuncId) (mk:Int→t.D→t.D) (tot:t.D→Int):Prop:=∀ (M:Mem) (cs:List V) (x:t.D) (k:Int),Rep t M cs (mk k x)→Bd 1048576 t x→0 < k→k+tot x≤4611686018427387904→Zb T F [.agg cs.toArray,.int .i64 k] M=some (.int .i64 (k+tot x),M)
def Zzk (T:Tab) (t:Ty) (F:FuncId) (mk:Int→List t.D→List t.D) (tot:List t.D→Int):Prop:=∀ (M:Mem) (v:V) (xs:List t.D) (k:Int),Rep (.sl t) M [v] (mk k xs)→Bd 1048576 (.sl t) xs→0 < k→k+tot xs≤4611686018427387904→Zb T F [v,.int .i64 k] M=some (.int .i64 (k+tot xs),M)
def ZFb (t:Ty) (tot:t.D→Int) (B:Int):Prop:=∀ x,Bd 1048576 t x→0≤tot x∧tot x≤B
theorem Bd.mono {N N':Nat} (h:N≤N'):∀ {t:Ty} {x:t.D},Bd N t x→Bd N' t x
  | .sl t,xs,hb=>⟨Nat.le_trans hb.1 h,fun x hx=>(hb.2 x hx).mono h⟩
  | .pr a b,x,hb=>⟨hb.1.mono h,hb.2.mono h⟩
  | .str,s,hb=>Nat.le_trans hb h
  | .int _,_,_=>trivial
  | .u8,_,_=>trivial
  | .bool,_,_=>trivial
def rdJ (ob:Option Blk) (o:Nat):Option V:=match ob with
  | some b=>if b.st=1∨b.st=2 then b.cells[o]? else none
  | none=>none
theorem Y1 (M:Mem) (l o:Nat):rd1 M l o=rdJ M[l]? o:=rfl
theorem Z3 (cs:List V) (w o:Nat):rdJ (some ⟨cs,w,2⟩) o=cs[o]?:=by simp [rdJ]
def rnJ (ob:Option Blk) (o n:Nat):Option (List V):=match ob with
  | some b=>if (b.st=1∨b.st=2)∧o+n≤b.cells.length then some ((b.cells.drop o).take n) else none
  | none=>none
theorem Zm7 (M:Mem) (l o n:Nat):rdn M l o n=rnJ M[l]? o n:=rfl
theorem ZiG (cs:List V) (w o n:Nat):rnJ (some ⟨cs,w,2⟩) o n=if o+n≤cs.length then some ((cs.drop o).take n) else none:=by simp [rnJ]
def wrJ (ob:Option Blk) (M:Mem) (l o:Nat) (vs:List V):Option Mem:=match ob with
  | some b=>if b.st=2∧o+vs.length≤b.cells.length∧vs.all one=true then some (M.set l { b with cells:=splice b.cells o vs }) else none
  | none=>none
theorem ZhB (M:Mem) (l o:Nat) (vs:List V):wrn M l o vs=wrJ M[l]? M l o vs:=rfl
theorem Zdj (cs:List V) (w:Nat) (M:Mem) (l o:Nat) (vs:List V):wrJ (some ⟨cs,w,2⟩) M l o vs=if o+vs.length≤cs.length∧vs.all one=true then some (M.set l ⟨splice cs o vs,w,2⟩) else none:=by simp [wrJ]
theorem ZfO.get {M M':Mem} {K:Nat→Prop} (h:ZfO M M' K) {l:Nat} {b:Blk} (hb:M[l]?=some b) (hn:¬ K l):M'[l]?=some b:=by rw [h.2.1 l hn (ZI hb)]; exact hb
theorem Ztn {M M':Mem} {K:Nat→Prop} (hu:ZfO M M' K) {t:Ty} {cs:List V} {x y:t.D} {L:List Nat} (h:Own t M cs x L) (o:Own t M' cs y L) (n:Int):∃ M2,gc M (some (.int .i64 n,M'))=some (.int .i64 n,M2)∧ZfO M M2 K∧Own t M2 cs y L:=ZCd hu h o _
theorem Zlh.app {M M1 M1' M2:Mem} {K1 K2:List Nat} (h1:Zlh M M1 K1) (hl:M1.length=M1'.length) (h2:Zlh M1' M2 K2) (h0:M.length≤M1.length) (hp:M1' <+: M2):Zlh M M2 (K1++K2):=by
  have:=hp.length_le
  refine ⟨List.nodup_append.2 ⟨h1.1,h2.1,fun a ha b hb e=>?_⟩,fun l hl2=>?_⟩
  · have:=h1.2 a ha; have:=h2.2 b hb; omega
  · rcases List.mem_append.1 hl2 with h | h
    · have:=h1.2 l h; omega
    · have:=h2.2 l h; omega
theorem Zlh.of {M M0 M1:Mem} {K:List Nat} (h:Zlh M0 M1 K) (hp:M.length≤M0.length):Zlh M M1 K:=⟨h.1,fun l hl=>by have:=h.2 l hl; omega⟩
theorem ZK {v:V} (h:[v].all one=true):one v=true:=by simpa using h
theorem ZfO.weak {M M':Mem} {K K':Nat→Prop} (h:ZfO M M' K) (hk:∀ l,K l→K' l):ZfO M M' K':=⟨h.1,fun l hl=>h.2.1 l (fun q=>hl (hk l q)),h.2.2⟩
theorem ToS.at {T:Tab} {t:Ty} {F:FuncId} (hk:ToS T t F) {M:Mem} {v:V} {x:Option (V × Mem)} (hx:Zb T F [v] M=x) {xs:List t.D} (h:Rep (.sl t) M [v] xs) (hb:Bd 1048576 (.sl t) xs):∃ M' u L,x=some (u,M')∧M <+: M'∧Own (.sl t) M' [u] xs L∧Zlh M M' L:=by
  obtain ⟨M',u,L,p,e,o,f⟩:=hk M v xs h hb
  exact ⟨M',u,L,hx.symm.trans e,p,o,f⟩
theorem ToF.at {T:Tab} {t:Ty} {F:FuncId} (hk:ToF T t F) {M:Mem} {cs:List V} {x:Option (V × Mem)} (hx:Zb T F [.agg cs.toArray] M=x) {xs:t.D} (h:Rep t M cs xs) (hb:Bd 1048576 t xs):∃ M' ds L,x=some (.agg ds.toArray,M')∧M <+: M'∧Own t M' ds xs L∧Zlh M M' L:=by
  obtain ⟨M',u,L,p,e,o,f⟩:=hk M cs xs h hb
  exact ⟨M',u,L,hx.symm.trans e,p,o,f⟩
theorem Zm6 {r:Option (V × Mem)} {M:Mem} {P:Prop} [Decidable P] (h:¬ P) (e:r=some (.bool false,M)):r=some (.bool (decide P),M):=by rw [decide_eq_false h]; exact e
theorem ZAU {r:Option (V × Mem)} {M:Mem} {P:Prop} [Decidable P] (h:P) (e:r=some (.bool true,M)):r=some (.bool (decide P),M):=by rw [decide_eq_true h]; exact e
theorem Zfz {r:Option (V × Mem)} {M:Mem} {P:Prop} [Decidable P] (e:r=some (.bool (decide P),M)):(P→r=some (.bool true,M))∧(¬ P→r=some (.bool false,M)):=⟨fun h=>by rw [e,decide_eq_true h],fun h=>by rw [e,decide_eq_false h]⟩
def ToG (t:Ty) (M:Mem) (x:t.D) (r:Option (V × Mem)):Prop:=∃ M' ds L,M <+: M'∧r=some (.agg (ds:List V).toArray,M')∧Own t M' ds x L∧Zlh M M' L
theorem ZbN {M:Mem} {l:Nat} {b:Blk} (hb:M[l]?=some b) (c:Blk):(M.set l c)[l]?=some c:=List.getElem?_set_self (ZI hb)
theorem Zia {t:Ty} {M:Mem} {v:V} {xs:List t.D} {L:List Nat} (h:Own (.sl t) M [v] xs L):cellsOf v=[v]:=by
  obtain ⟨a,c,rfl⟩:=h.rep.slen
  rfl
theorem Zty:∀ {t:Ty} {x:t.D},Fit t x→Bd 9223372036854775807 t x
  | .sl t,xs,hb=>⟨hb.1,fun x hx=>Zty (hb.2 x hx)⟩
  | .pr a b,x,hb=>⟨Zty hb.1,Zty hb.2⟩
  | .str,s,hb=>hb
  | .int _,_,_=>trivial
  | .u8,_,_=>trivial
  | .bool,_,_=>trivial
end GoAm
