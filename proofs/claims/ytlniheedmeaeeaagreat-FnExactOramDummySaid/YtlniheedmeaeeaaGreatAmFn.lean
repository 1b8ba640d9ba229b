/- slices.IndexFunc and slices.ContainsFunc over slices of structs: written once for all. -/
import Derived.Test.YtlniheedmeaeeaaGreatAmLaw
set_option autoImplicit false
set_option linter.unusedVariables false
set_option linter.unusedSimpArgs false
namespace GoAm
open Go
def ZyG:List Bool:=[true,true,false,false,false,false,false,true,true,false,false,false,false,false,false,false,false,false,false]
def ZxC (w:Nat):ACode:=.seq (.reg false [⟨some 9,.bin .lss (.t 8) (.t 7),none⟩]) (.seq (.cond (.t 9) (.skip) (.exit 0)) (.seq (.block 1 (.seq (.reg false [⟨some 10,.mv (.t 8),none⟩,⟨some 5,.mv (.t 10),none⟩]) (.seq (.reg false [⟨some 11,.mv (.t 1),none⟩,⟨some 12,.mv (.t 0),none⟩,⟨some 13,.mv (.t 5),none⟩,⟨some 14,.ia w (.t 12) (.t 13),none⟩,⟨some 15,.loadn w (.t 14),none⟩,⟨some 16,.callv (.t 11) [(.t 15)],none⟩]) (.cond (.t 16) (.seq (.reg false [⟨some 17,.mv (.t 5),none⟩,⟨some 4,.mv (.t 17),none⟩]) (.ret)) (.skip))))) (.reg false [⟨some 18,.bin .add (.t 8) (.c (.int .i64 1)),none⟩,⟨some 8,.mv (.t 18),none⟩])))
def ZGl (w:Nat):ACode:=.seq (.reg false [⟨some 4,.mv (.c (.int .i64 0)),none⟩]) (.seq (.seq (.reg false [⟨some 6,.mv (.t 0),none⟩,⟨some 7,.len (.t 6),none⟩,⟨some 8,.mv (.c (.int .i64 0)),none⟩]) (.block 0 (.loop ZyG (ZxC w)))) (.seq (.reg false [⟨some 4,.mv (.c (.int .i64 (-1))),none⟩]) (.ret)))
def ZFX (w:Nat):AFun:=⟨ZGl w,19,[.tmp 4]⟩
theorem ZDi (T:Tab) (w:Nat) (fr:List V) (M:Mem):lp (Zb T) ZyG (ZxC w) fr M=Yv (Zu (Zb T) (ZxC w) (Zs ZyG fr) M) (Zb T) ZyG (ZxC w):=YA _ _ _ _ _
@[simp] theorem ZHq (a0 a1 a2 a3 a4 a5 a6 a7 a8 a9 a10 a11 a12 a13 a14 a15 a16 a17 a18:V):Zs ZyG [a0,a1,a2,a3,a4,a5,a6,a7,a8,a9,a10,a11,a12,a13,a14,a15,a16,a17,a18]=[a0,a1,O,O,O,O,O,a7,a8,O,O,O,O,O,O,O,O,O,O]:=rfl
def ZGY (g:FuncId):AFun:=⟨.seq (.reg false [⟨some 4,.mv (.c (.bool false)),none⟩]) (.seq (.reg false [⟨some 5,.mv (.t 0),none⟩,⟨some 6,.mv (.t 1),none⟩,⟨some 7,.call g [(.t 5),(.t 6)],none⟩,⟨some 8,.bin .geq (.t 7) (.c (.int .i64 0)),none⟩,⟨some 4,.mv (.t 8),none⟩]) (.ret)),9,[.tmp 4]⟩
theorem ZED {T:Tab} {t:Ty} {w:Nat} {g:FuncId} (hT:T g=some (ZFX w)) (hw:t.w=w) {M:Mem} {v:V} {xs:List t.D} (h:Rep (.sl t) M [v] xs) (hn:xs.length≤9223372036854775807) (f:FuncId) (cap:List V) (p:t.D→Bool)
    (hp:∀ i (hi:i < xs.length) (cs:List V),Rep t M cs xs[i]→Zb T f (.agg cs.toArray :: cap) M=some (.bool (p xs[i]),M)) :
    Zb T g [v,.func (.func f) #[] cap.toArray] M=some (.int .i64 (idx p xs),M):=by
  obtain ⟨a,c,rfl⟩:=h.slen
  have rd:∀ i (hi:i < xs.length),∃ cs l o,a=some ⟨l,o,none⟩∧rdn M l (o+i * w) w=some cs∧Zb T f (.agg cs.toArray :: cap) M=some (.bool (p xs[i]),M):=by
    intro i hi
    obtain ⟨_,l,o,e1,cs,hrd,hrep⟩:=Zga h hi
    rw [hw] at hrd
    exact ⟨cs,l,o,e1,hrd,hp i hi cs hrep⟩
  have step:∀ i (hi:i < xs.length),p xs[i]=false→lp (Zb T) ZyG (ZxC w) [.slice a xs.length c,.func (.func f) #[] cap.toArray,O,O,O,O,O,.int .i64 xs.length,.int .i64 i,O,O,O,O,O,O,O,O,O,O] M=lp (Zb T) ZyG (ZxC w) [.slice a xs.length c,.func (.func f) #[] cap.toArray,O,O,O,O,O,.int .i64 xs.length,.int .i64 ((i+1:Nat):Int),O,O,O,O,O,O,O,O,O,O] M:=by
    intro i hi hq
    obtain ⟨cs,l,o,rfl,hrd,ec⟩:=rd i hi
    have e6:IntKind.i64.wrap ((i:Int)+1)=i+1:=Zd (by omega) (by omega)
    rw [ZDi]
    unfold ZxC
    simp [hrd,ec,e6,hi,hq]
  rcases ZqY p xs with ⟨ha,h1⟩ | ⟨j,hj,ha,h1,h2⟩
  · have hc:=Zl2 (g:=fun i:Nat=>lp (Zb T) ZyG (ZxC w) [.slice a xs.length c,.func (.func f) #[] cap.toArray,O,O,O,O,O,.int .i64 xs.length,.int .i64 i,O,O,O,O,O,O,O,O,O,O] M) (n:=xs.length) fun i hi=>step i hi (h1 i hi)
    simp only [Int.natCast_zero,Int.ofNat_zero] at hc
    rw [ha,Zc hT]
    unfold ZFX ZGl
    simp [hc]
    rw [ZDi]
    unfold ZxC
    simp
  · have hc:=Zl2 (g:=fun i:Nat=>lp (Zb T) ZyG (ZxC w) [.slice a xs.length c,.func (.func f) #[] cap.toArray,O,O,O,O,O,.int .i64 xs.length,.int .i64 i,O,O,O,O,O,O,O,O,O,O] M) (n:=j) fun i hi=>step i (by omega) (h1 i (by omega) hi)
    simp only [Int.natCast_zero,Int.ofNat_zero] at hc
    obtain ⟨cs,l,o,rfl,hrd,ec⟩:=rd j hj
    rw [ha,Zc hT]
    unfold ZFX ZGl
    simp [hc]
    rw [ZDi]
    unfold ZxC
    simp [hrd,ec,hj,h2]
theorem ZEW {T:Tab} {t:Ty} {w:Nat} {g k:FuncId} (hk:T k=some (ZGY g)) (hT:T g=some (ZFX w)) (hw:t.w=w) {M:Mem} {v:V} {xs:List t.D} (h:Rep (.sl t) M [v] xs) (hn:xs.length≤9223372036854775807) (f:FuncId) (cap:List V) (p:t.D→Bool)
    (hp:∀ i (hi:i < xs.length) (cs:List V),Rep t M cs xs[i]→Zb T f (.agg cs.toArray :: cap) M=some (.bool (p xs[i]),M)) :
    Zb T k [v,.func (.func f) #[] cap.toArray] M=some (.bool (xs.any p),M):=by
  have h1:=ZED hT hw h hn f cap p hp
  rw [← ZCU p xs,Zc hk]
  unfold ZGY
  simp [h1]
theorem Zl1 {call:Yd} {K:List Bool} {L:ACode} (Inv:Nat→Mem→Prop) (F:Nat→List V) (p:Nat→Bool) {n:Nat} {M0:Mem} {rs:List ARes} {k0:Nat} {a:V} (X:Mem) (h:Inv 0 X)
    (good:∀ i X,i < n→p i=true→Inv i X→∃ X',Inv (i+1) X'∧lp call K L (F i) X=lp call K L (F (i+1)) X')
    (bad:∀ i X,i < n→p i=false→Inv i X→∀ k,ZjG M0 rs (Zjx (Ze1 k0 (lp call K L (F i) X)) call k)=some (a,M0)) :
    (∃ X',Inv n X'∧(∀ i,i < n→p i=true)∧lp call K L (F 0) X=lp call K L (F n) X')∨((∃ i,i < n∧p i=false)∧∀ k,ZjG M0 rs (Zjx (Ze1 k0 (lp call K L (F 0) X)) call k)=some (a,M0)):=by
  have go:∀ m,m≤n→(∀ i,i < m→p i=true)→∃ X',Inv m X'∧lp call K L (F 0) X=lp call K L (F m) X':=by
    intro m
    induction m with
    | zero=>intro _ _; exact ⟨X,h,rfl⟩
    | succ m ih =>
      intro hm hp
      obtain ⟨X1,h1,e1⟩:=ih (by omega) (fun i hi=>hp i (by omega))
      obtain ⟨X2,h2,e2⟩:=good m X1 (by omega) (hp m (by omega)) h1
      exact ⟨X2,h2,e1.trans e2⟩
  rcases Zht p n with hg | ⟨j,hj,h1,h2⟩
  · obtain ⟨X',i1,i2⟩:=go n (Nat.le_refl _) hg
    exact .inl ⟨X',i1,hg,i2⟩
  · obtain ⟨X',i1,i2⟩:=go j (by omega) h1
    refine .inr ⟨⟨j,hj,h2⟩,fun k=>?_⟩
    rw [i2]
    exact bad j X' hj h2 i1 k
theorem Zs7 {α:Type} {call:Yd} {K:List Bool} {L:ACode} (Inv:Nat→α→Mem→Prop) (F:Nat→α→List V) (p:Nat→Bool) (Q:V × Mem→Prop) {n:Nat} {M0:Mem} {rs:List ARes} {k0:Nat} (s:α) (X:Mem) (h:Inv 0 s X)
    (good:∀ i s X,i < n→p i=true→Inv i s X→∃ s' X',Inv (i+1) s' X'∧lp call K L (F i s) X=lp call K L (F (i+1) s') X')
    (bad:∀ i s X,i < n→p i=false→Inv i s X→∀ k,Sat (ZjG M0 rs (Zjx (Ze1 k0 (lp call K L (F i s) X)) call k)) Q) :
    (∃ s' X',Inv n s' X'∧(∀ i,i < n→p i=true)∧lp call K L (F 0 s) X=lp call K L (F n s') X')∨((∃ i,i < n∧p i=false)∧∀ k,Sat (ZjG M0 rs (Zjx (Ze1 k0 (lp call K L (F 0 s) X)) call k)) Q):=by
  have go:∀ m,m≤n→(∀ i,i < m→p i=true)→∃ s' X',Inv m s' X'∧lp call K L (F 0 s) X=lp call K L (F m s') X':=by
    intro m
    induction m with
    | zero=>intro _ _; exact ⟨s,X,h,rfl⟩
    | succ m ih =>
      intro hm hp
      obtain ⟨s1,X1,h1,e1⟩:=ih (by omega) (fun i hi=>hp i (by omega))
      obtain ⟨s2,X2,h2,e2⟩:=good m s1 X1 (by omega) (hp m (by omega)) h1
      exact ⟨s2,X2,h2,e1.trans e2⟩
  rcases Zht p n with hg | ⟨j,hj,h1,h2⟩
  · obtain ⟨s',X',i1,i2⟩:=go n (Nat.le_refl _) hg
    exact .inl ⟨s',X',i1,hg,i2⟩
  · obtain ⟨s',X',i1,i2⟩:=go j (by omega) h1
    refine .inr ⟨⟨j,hj,h2⟩,fun k=>?_⟩
    rw [i2]
    exact bad j s' X' hj h2 i1 k
end GoAm
