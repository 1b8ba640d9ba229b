/- Data in blocks of its own, all of them full: what may be appended to, set, and handed on. -/
import Derived.Test.YtlniheedmeaeeaaGreatAmFn
set_option autoImplicit false
set_option linter.unusedVariables false
set_option linter.unusedSimpArgs false
namespace GoAm
open Go
def Gr:(t:Ty)→Mem→List V→t.D→List Nat→Prop
  | .int k,_,cs,n,L=>(cs=[.int k n]∧(Lit.int k n).wf=true)∧L=[]
  | .u8,_,cs,b,L=>cs=[Y0 b]∧L=[]
  | .bool,_,cs,b,L=>cs=[.bool b]∧L=[]
  | .str,_,cs,s,L=>cs=[ZEz s]∧L=[]
  | .sl t,M,cs,xs,L=>(cs=[.slice none 0 0]∧xs=[]∧L=[])∨∃ (l:Nat) (css:List (List V)) (Ls:List (List Nat)),cs=[.slice (some ⟨l,0,none⟩) xs.length xs.length]∧M[l]?=some ⟨css.flatten,t.w,2⟩ ∧
      css.length=xs.length∧Ls.length=xs.length∧(∀ (i:Nat) (ds:List V) (x:t.D) (K:List Nat),css[i]?=some ds→xs[i]?=some x→Ls[i]?=some K→Gr t M ds x K)∧L=l :: Ls.flatten
  | .pr a b,M,cs,x,L=>∃ c1 c2 L1 L2,cs=c1++c2∧Gr a M c1 x.1 L1∧Gr b M c2 x.2 L2∧L=L1++L2
theorem ZqA {α:Type}:∀ {As Bs:List (List α)},As.length=Bs.length→(∀ (i:Nat) (a b:List α),As[i]?=some a→Bs[i]?=some b→List.Sublist a b)→List.Sublist As.flatten Bs.flatten
  | [],[],_,_=>by simp
  | a :: As,b :: Bs,hl,h=>by
    rw [List.flatten_cons,List.flatten_cons]
    exact List.Sublist.append (h 0 a b rfl rfl) (ZqA (by simpa using hl) (fun i x y hx hy=>h (i+1) x y hx hy))
  | [],_ :: _,hl,_=>by simp at hl
  | _ :: _,[],hl,_=>by simp at hl
theorem ZkI {α β:Type} {P:Nat→α→β→Prop}:∀ (xs:List α),(∀ (i:Nat) (x:α),xs[i]?=some x→∃ b,P i x b)→∃ bs:List β,bs.length=xs.length∧∀ (i:Nat) (x:α) (b:β),xs[i]?=some x→bs[i]?=some b→P i x b
  | [],_=>⟨[],rfl,fun i x b h=>by simp at h⟩
  | x :: xs,h=>by
    obtain ⟨b,hb⟩:=h 0 x rfl
    obtain ⟨bs,q1,q2⟩:=ZkI (P:=fun i=>P (i+1)) xs (fun i y hy=>h (i+1) y hy)
    refine ⟨b :: bs,by simp [q1],fun i y c hy hc=>?_⟩
    cases i with
    | zero=>simp at hy hc; subst hy; subst hc; exact hb
    | succ i=>exact q2 i y c (by simpa using hy) (by simpa using hc)
theorem Gr.own:∀ {t:Ty} {M:Mem} {cs:List V} {x:t.D} {L:List Nat},Gr t M cs x L→∃ L',Own t M cs x L'∧List.Sublist L' L
  | .int _,_,_,_,_,h=>⟨[],⟨h.1,rfl⟩,by rw [h.2]; simp⟩
  | .u8,_,_,_,_,h=>⟨[],⟨h.1,rfl⟩,by rw [h.2]; simp⟩
  | .bool,_,_,_,_,h=>⟨[],⟨h.1,rfl⟩,by rw [h.2]; simp⟩
  | .str,_,_,_,_,h=>⟨[],⟨h.1,rfl⟩,by rw [h.2]; simp⟩
  | .sl t,M,cs,xs,L,h=>by
    rcases h with ⟨rfl,rfl,rfl⟩ | ⟨l,css,Ls,rfl,hb,h1,h2,h3,rfl⟩
    · exact ⟨[],.inl ⟨rfl,rfl,.inl ⟨rfl,rfl⟩⟩,by simp⟩
    · by_cases h0:xs=[]
      · subst h0
        have hc:css=[]:=List.length_eq_zero_iff.1 h1
        subst hc
        exact ⟨[],.inl ⟨rfl,rfl,.inr ⟨l,0,0,_,[],rfl,hb,.inr (.inl rfl),rfl,rfl,fun i ds x hd=>by simp at hd,by simp⟩⟩,by simp⟩
      · have ch:∀ (i:Nat) (x:t.D),xs[i]?=some x→∃ K':List Nat,(∀ (ds:List V) (K:List Nat),css[i]?=some ds→Ls[i]?=some K→Own t M ds x K'∧List.Sublist K' K):=by
          intro i x hx
          have hi:i < xs.length:=(List.getElem?_eq_some_iff.1 hx).1
          have hd:css[i]?=some (css[i]'(by omega)):=by simp
          have hK:Ls[i]?=some (Ls[i]'(by omega)):=by simp
          obtain ⟨K',q1,q2⟩:=(h3 i _ x _ hd hx hK).own
          refine ⟨K',fun ds K hd2 hK2=>?_⟩
          rw [hd] at hd2; cases hd2
          rw [hK] at hK2; cases hK2
          exact ⟨q1,q2⟩
        obtain ⟨Ks,q1,q2⟩:=ZkI xs ch
        refine ⟨l :: Ks.flatten,.inr ⟨l,0,xs.length,_,css,Ks,h0,rfl,hb,rfl,rfl,h1,q1,fun i ds x K hd hx hK=>?_,by simp,rfl⟩,?_⟩
        · have hi:i < xs.length:=(List.getElem?_eq_some_iff.1 hx).1
          exact (q2 i x K hx hK ds (Ls[i]'(by omega)) hd (by simp)).1
        · refine List.Sublist.cons_cons l (ZqA (by omega) fun i a b ha hb2=>?_)
          have hi:i < xs.length:=by have:=(List.getElem?_eq_some_iff.1 ha).1; omega
          exact (q2 i xs[i] a (by simp) ha (css[i]'(by omega)) b (by simp) hb2).2
  | .pr a b,_,_,x,_,h=>by
    obtain ⟨c1,c2,L1,L2,e,h1,h2,rfl⟩:=h
    obtain ⟨K1,o1,s1⟩:=h1.own
    obtain ⟨K2,o2,s2⟩:=h2.own
    exact ⟨K1++K2,⟨c1,c2,K1,K2,e,o1,o2,rfl⟩,s1.append s2⟩
theorem Gr.rep {t:Ty} {M:Mem} {cs:List V} {x:t.D} {L:List Nat} (h:Gr t M cs x L):Rep t M cs x:=by
  obtain ⟨_,o,_⟩:=h.own
  exact o.rep
theorem Gr.keep {M M':Mem}:∀ {t:Ty} {cs:List V} {x:t.D} {L:List Nat},Gr t M cs x L→(∀ l ∈ L,M'[l]?=M[l]?)→Gr t M' cs x L
  | .int _,_,_,_,h,_=>h
  | .u8,_,_,_,h,_=>h
  | .bool,_,_,_,h,_=>h
  | .str,_,_,_,h,_=>h
  | .sl t,_,_,_,h,hk=>by
    rcases h with h | ⟨l,css,Ls,h0,hb,h1,h2,h3,rfl⟩
    · exact .inl h
    · exact .inr ⟨l,css,Ls,h0,by rw [hk l (by simp),hb],h1,h2,fun i ds x K hd hx hK=>(h3 i ds x K hd hx hK).keep (fun j hj=>hk j (List.mem_cons_of_mem _ (List.mem_flatten.2 ⟨K,List.mem_of_getElem? hK,hj⟩))),rfl⟩
  | .pr a b,_,x,_,h,hk=>by
    obtain ⟨c1,c2,L1,L2,e,h1,h2,rfl⟩:=h
    exact ⟨c1,c2,L1,L2,e,h1.keep (fun l hl=>hk l (List.mem_append_left _ hl)),h2.keep (fun l hl=>hk l (List.mem_append_right _ hl)),rfl⟩
theorem Gr.lt {M:Mem}:∀ {t:Ty} {cs:List V} {x:t.D} {L:List Nat},Gr t M cs x L→∀ l ∈ L,l < M.length
  | .int _,_,_,_,h=>by rw [h.2]; simp
  | .u8,_,_,_,h=>by rw [h.2]; simp
  | .bool,_,_,_,h=>by rw [h.2]; simp
  | .str,_,_,_,h=>by rw [h.2]; simp
  | .sl t,_,xs,_,h=>by
    rcases h with ⟨_,_,rfl⟩ | ⟨l,css,Ls,h0,hb,h1,h2,h3,rfl⟩
    · simp
    · intro j hj
      rcases List.mem_cons.1 hj with rfl | hj
      · exact ZI hb
      · obtain ⟨K,hK,hjK⟩:=List.mem_flatten.1 hj
        obtain ⟨i,hi,rfl⟩:=List.getElem_of_mem hK
        exact (h3 i (css[i]'(by omega)) (xs[i]'(by omega)) Ls[i] (by simp) (by simp) (by simp)).lt j hjK
  | .pr a b,_,x,_,h=>by
    obtain ⟨c1,c2,L1,L2,e,h1,h2,rfl⟩:=h
    intro j hj
    rcases List.mem_append.1 hj with hj | hj
    · exact h1.lt j hj
    · exact h2.lt j hj
theorem Gr.grow {t:Ty} {M M':Mem} {cs:List V} {x:t.D} {L:List Nat} (h:Gr t M cs x L) (hp:M <+: M'):Gr t M' cs x L:=h.keep fun l hl=>by
  obtain ⟨r,rfl⟩:=hp
  rw [List.getElem?_append_left (h.lt l hl)]
theorem Gr.agree {t:Ty} {M M':Mem} {w:List Nat} {cs:List V} {x:t.D} {L:List Nat} (h:Gr t M cs x L) (ha:JQ M M' w) (hn:∀ l ∈ L,l ∉ w):Gr t M' cs x L:=h.keep fun l hl=>ha.2 l (h.lt l hl) (hn l hl)
theorem Gr.set {t:Ty} {M:Mem} {cs:List V} {x:t.D} {L:List Nat} (h:Gr t M cs x L) {l:Nat} (b:Blk) (hn:l ∉ L):Gr t (M.set l b) cs x L:=h.keep fun j hj=>List.getElem?_set_ne fun e=>hn (by rw [e]; exact hj)
theorem Gr.len {t:Ty} {M:Mem} {cs:List V} {x:t.D} {L:List Nat} (h:Gr t M cs x L):cs.length=t.w:=h.rep.len
theorem Gr.one {t:Ty} {M:Mem} {cs:List V} {x:t.D} {L:List Nat} (h:Gr t M cs x L):cs.all one=true:=h.rep.one
theorem Gr.nil {t:Ty} {M:Mem}:Gr (.sl t) M [.slice none 0 0] [] []:=.inl ⟨rfl,rfl,rfl⟩
theorem Gr.shape {t:Ty} {M:Mem} {v:V} {xs:List t.D} {L:List Nat} (h:Gr (.sl t) M [v] xs L):∃ a,v=.slice a xs.length xs.length:=by
  rcases h with ⟨e,rfl,_⟩ | ⟨l,_,_,e,_⟩
  · cases e; exact ⟨none,rfl⟩
  · cases e; exact ⟨_,rfl⟩
theorem Gr.els {t:Ty} {M:Mem} {css:List (List V)} {xs:List t.D} {Ls:List (List Nat)} (h1:css.length=xs.length) (h2:Ls.length=xs.length) (h3:∀ (i:Nat) (ds:List V) (x:t.D) (K:List Nat),css[i]?=some ds→xs[i]?=some x→Ls[i]?=some K→Gr t M ds x K):∀ ds ∈ css,ds.length=t.w:=by
  intro ds hd
  obtain ⟨i,hi,rfl⟩:=List.getElem_of_mem hd
  exact (h3 i css[i] (xs[i]'(by omega)) (Ls[i]'(by omega)) (by simp) (by simp) (by simp)).len
theorem Gr.gr {t:Ty} {M:Mem} {v:V} {xs:List t.D} {L:List Nat} (h:Gr (.sl t) M [v] xs L) {K:Nat} (hK:∀ l ∈ L,K≤l):∃ cs,Zdg K t.w M v xs.length cs∧∀ b ∈ wfs v,b ∈ L:=by
  rcases h with ⟨e,rfl,rfl⟩ | ⟨l,css,Ls,e,hb,h1,h2,h3,rfl⟩
  · cases e
    exact ⟨[],Zdg.nil,by simp [wfs]⟩
  · cases e
    refine ⟨css.flatten,⟨?_,.inr ⟨l,hK l (by simp),rfl,hb⟩⟩,by simp [wfs]⟩
    rw [YP (Gr.els h1 h2 h3),h1]
theorem Gr.app2 {t:Ty} {X X2:Mem} {v:V} {xs:List t.D} {L:List Nat} (h:Gr (.sl t) X [v] xs L) {bytes:Nat} {ds:List V} {y:t.D} {J:List Nat} {x:Option (V × Mem)} (hx:Zdq X2 t.w bytes v 1 ds=x) (hp:X <+: X2)
    (hy:Gr t X2 ds y J) (hj:∀ l ∈ J,l ∉ L) (hn:L.Nodup) (hnj:J.Nodup) (hs:(xs.length+1) * bytes≤140737488355328) (hs2:xs.length+1≤9223372036854775807) :
    ∃ l X3 L',x=some (.slice (some ⟨l,0,none⟩) (xs.length+1) (xs.length+1),X3)∧Gr (.sl t) X3 [.slice (some ⟨l,0,none⟩) (xs.length+1) (xs.length+1)] (xs++[y]) L'∧JQ X2 X3 (wfs v)∧X2.length < X3.length∧(∀ b ∈ wfs v,b ∈ L)∧L'.Nodup∧(∀ j ∈ L',j ∈ L∨j ∈ J∨j=l)∧X2.length≤l:=by
  obtain ⟨cs,hg,hw⟩:=h.gr (K:=0) (by simp)
  have h2:=h.grow hp
  have g2:=hg.pre hp
  have e:=g2.app (m:=1) (bytes:=bytes) (ys:=ds) (by rw [hy.len]; omega) (by omega) hy.one hs hs2
  have hag:=ZjX X2 [(⟨cs++ds,t.w,2⟩:Blk)] v
  have hlen:X2.length < (ZrR X2 v++[(⟨cs++ds,t.w,2⟩:Blk)]).length:=by rw [List.length_append,Zdx]; simp
  have hJ:∀ j ∈ J,j ∉ wfs v:=fun j hj2 hm=>hj j hj2 (hw j hm)
  have hy3:=hy.agree hag hJ
  have hnew:(ZrR X2 v++[(⟨cs++ds,t.w,2⟩:Blk)])[X2.length]?=some ⟨cs++ds,t.w,2⟩:=by
    rw [List.getElem?_append_right (by rw [Zdx]; exact Nat.le_refl _),Zdx]; simp
  rcases h with ⟨e0,rfl,rfl⟩ | ⟨l,css,Ls,e0,hb,h1,h2',h3,rfl⟩
  · cases e0
    have hc:cs=[]:=by
      have:=hg.1
      simp at this
      exact this
    subst hc
    refine ⟨X2.length,_,X2.length :: J,hx.symm.trans e,.inr ⟨X2.length,[ds],[J],rfl,by rw [hnew]; simp,rfl,rfl,fun i a b K ha hb2 hK=>?_,by simp⟩,hag,hlen,hw,?_,?_,Nat.le_refl _⟩
    · cases i with
      | zero=>simp at ha hb2 hK; subst ha; subst hb2; subst hK; exact hy3
      | succ i=>simp at ha
    · exact List.nodup_cons.2 ⟨fun hm=>by have:=hy.lt _ hm; omega,hnj⟩
    · intro j hj2
      rcases List.mem_cons.1 hj2 with rfl | hj2
      · exact .inr (.inr rfl)
      · exact .inr (.inl hj2)
  · cases e0
    have hc:cs=css.flatten:=by
      rcases hg.2 with ⟨q,_⟩ | ⟨l',_,q,hb2⟩
      · cases q
      · cases q
        rw [hb] at hb2
        cases hb2
        rfl
    subst hc
    obtain ⟨hln,hnf⟩:=List.nodup_cons.1 hn
    have hlX:=ZI hb
    have hXX:=hp.length_le
    refine ⟨X2.length,_,X2.length :: (Ls.flatten++J),hx.symm.trans e,.inr ⟨X2.length,css++[ds],Ls++[J],by simp,by rw [hnew]; simp,by simp [h1],by simp [h2'],fun i a b K ha hb2 hK=>?_,by simp⟩,hag,hlen,hw,?_,?_,Nat.le_refl _⟩
    · by_cases hi:i < xs.length
      · rw [List.getElem?_append_left (by omega)] at ha hb2 hK
        have q:=h3 i a b K ha hb2 hK
        refine (q.grow hp).agree hag fun j hj2 hm=>?_
        simp only [wfs,List.mem_singleton] at hm
        subst hm
        exact hln (List.mem_flatten.2 ⟨K,List.mem_of_getElem? hK,hj2⟩)
      · by_cases hi2:i=xs.length
        · subst hi2
          rw [List.getElem?_append_right (by omega),h1] at ha
          rw [List.getElem?_append_right (Nat.le_refl _)] at hb2
          rw [List.getElem?_append_right (by omega),h2'] at hK
          simp at ha hb2 hK
          subst ha; subst hb2; subst hK
          exact hy3
        · rw [List.getElem?_eq_none (by simp; omega)] at ha
          cases ha
    · refine List.nodup_cons.2 ⟨fun hm=>?_,List.nodup_append.2 ⟨hnf,hnj,fun a ha b hb2 e=>?_⟩⟩
      · rcases List.mem_append.1 hm with hm | hm
        · have:X2.length < X.length:=by
            obtain ⟨K,hK,hjK⟩:=List.mem_flatten.1 hm
            obtain ⟨i,hi,rfl⟩:=List.getElem_of_mem hK
            exact (h3 i (css[i]'(by omega)) (xs[i]'(by omega)) Ls[i] (by simp) (by simp) (by simp)).lt _ hjK
          omega
        · have:=hy.lt _ hm; omega
      · subst e
        exact hj a hb2 (List.mem_cons_of_mem _ ha)
    · intro j hj2
      rcases List.mem_cons.1 hj2 with rfl | hj2
      · exact .inr (.inr rfl)
      · rcases List.mem_append.1 hj2 with hj2 | hj2
        · exact .inl (List.mem_cons_of_mem _ hj2)
        · exact .inr (.inl hj2)
theorem Gr.app {t:Ty} {X X2:Mem} {v:V} {xs:List t.D} {L:List Nat} (h:Gr (.sl t) X [v] xs L) {bytes:Nat} {ds:List V} {y:t.D} {J:List Nat} {x:Option (V × Mem)} (hx:Zdq X2 t.w bytes v 1 ds=x) (hp:X <+: X2)
    (hy:Gr t X2 ds y J) (hj:∀ l ∈ J,X.length≤l) (hn:L.Nodup) (hnj:J.Nodup) (hs:(xs.length+1) * bytes≤140737488355328) (hs2:xs.length+1≤9223372036854775807) :
    ∃ l X3 L',x=some (.slice (some ⟨l,0,none⟩) (xs.length+1) (xs.length+1),X3)∧Gr (.sl t) X3 [.slice (some ⟨l,0,none⟩) (xs.length+1) (xs.length+1)] (xs++[y]) L'∧JQ X2 X3 (wfs v)∧X2.length < X3.length∧(∀ b ∈ wfs v,b ∈ L)∧L'.Nodup∧(∀ j ∈ L',j ∈ L∨j ∈ J∨j=l)∧X2.length≤l :=
  h.app2 hx hp hy (fun l hl hm=>by have:=hj l hl; have:=h.lt l hm; omega) hn hnj hs hs2
theorem Gr.at {t:Ty} {M:Mem} {v:V} {xs:List t.D} {L:List Nat} (h:Gr (.sl t) M [v] xs L) {i:Nat} (hi:i < xs.length):∃ (l:Nat) (ds:List V) (K:List Nat),v=.slice (some ⟨l,0,none⟩) xs.length xs.length∧rdn M l (i * t.w) t.w=some ds∧Gr t M ds xs[i] K∧∀ j ∈ K,j ∈ L:=by
  rcases h with ⟨_,rfl,_⟩ | ⟨l,css,Ls,e,hb,h1,h2,h3,rfl⟩
  · simp at hi
  · cases e
    have hq:=h3 i (css[i]'(by omega)) xs[i] (Ls[i]'(by omega)) (by simp) (by simp) (by simp)
    refine ⟨l,css[i]'(by omega),Ls[i]'(by omega),rfl,?_,hq,fun j hj=>List.mem_cons_of_mem _ (List.mem_flatten.2 ⟨_,List.getElem_mem _,hj⟩)⟩
    have hw:=Gr.els h1 h2 h3
    have hl:=YP hw
    have hle:i * t.w+t.w≤css.length * t.w:=by
      rw [← Nat.succ_mul]
      exact Nat.mul_le_mul_right _ (by omega)
    unfold rdn
    rw [hb]
    simp only
    rw [if_pos ⟨.inr trivial,by omega⟩]
    congr 1
    have key:∀ (css:List (List V)) (i:Nat) (hi:i < css.length),(∀ c ∈ css,c.length=t.w)→(css.flatten.drop (i * t.w)).take t.w=css[i]:=by
      intro css
      induction css with
      | nil=>intro i hi; simp at hi
      | cons c cs ih =>
        intro i hi hc
        cases i with
        | zero =>
          rw [Nat.zero_mul,List.drop_zero,List.flatten_cons,List.take_left' (hc c (by simp))]
          rfl
        | succ i =>
          rw [List.flatten_cons,Nat.add_mul,Nat.one_mul,Nat.add_comm,← List.drop_drop,List.drop_left' (hc c (by simp))]
          exact ih i (by simpa using hi) (fun d hd=>hc d (by simp [hd]))
    exact key css i (by omega) hw
theorem Zn0:∀ (css:List (List V)) (i w:Nat) (ds:List V),i < css.length→(∀ c ∈ css,c.length=w)→ds.length=w→splice css.flatten (i * w) ds=(css.set i ds).flatten
  | c :: css,0,w,ds,_,hc,hd=>by
    have:=hc c (by simp)
    unfold splice
    simp only [List.flatten_cons,List.set_cons_zero,Nat.zero_mul,List.take_zero,List.nil_append,Nat.zero_add]
    rw [List.drop_left' (by omega)]
  | c :: css,i+1,w,ds,hi,hc,hd=>by
    have:=hc c (by simp)
    have ih:=Zn0 css i w ds (by simpa using hi) (fun d hd=>hc d (by simp [hd])) hd
    unfold splice at ih ⊢
    simp only [List.flatten_cons,List.set_cons_succ]
    rw [← ih]
    have e1:(i+1) * w=c.length+i * w:=by rw [Nat.add_mul,Nat.one_mul,this,Nat.add_comm]
    have e2:c.length+i * w+ds.length=c.length+(i * w+ds.length):=by omega
    rw [e1,List.take_length_add_append,e2,List.drop_length_add_append]
    simp [List.append_assoc]
theorem Gr.put {t:Ty} {M:Mem} {v:V} {xs:List t.D} {L:List Nat} (h:Gr (.sl t) M [v] xs L) {i:Nat} (hi:i < xs.length) {ds:List V} {y:t.D} {J:List Nat} (hy:Gr t M ds y J) (hj:∀ j ∈ J,j ∉ L) (hn:L.Nodup) (hnj:J.Nodup) :
    ∃ (l:Nat) (cs:List V) (L':List Nat),v=.slice (some ⟨l,0,none⟩) xs.length xs.length∧M[l]?=some ⟨cs,t.w,2⟩∧i * t.w+ds.length≤cs.length∧l ∈ L∧Gr (.sl t) (M.set l ⟨splice cs (i * t.w) ds,t.w,2⟩) [v] (xs.set i y) L'∧L'.Nodup∧∀ j ∈ L',j ∈ L∨j ∈ J:=by
  rcases h with ⟨_,rfl,_⟩ | ⟨l,css,Ls,e,hb,h1,h2,h3,rfl⟩
  · simp at hi
  · cases e
    have hw:=Gr.els h1 h2 h3
    have hl:=YP hw
    have hle:i * t.w+t.w≤css.length * t.w:=by
      rw [← Nat.succ_mul]
      exact Nat.mul_le_mul_right _ (by omega)
    have hdl:=hy.len
    obtain ⟨hln,hnf⟩:=List.nodup_cons.1 hn
    have hsub:∀ j,j ∈ (Ls.set i J).flatten→j ∈ Ls.flatten∨j ∈ J:=by
      intro j hj2
      obtain ⟨K,hK,hjK⟩:=List.mem_flatten.1 hj2
      rcases List.mem_or_eq_of_mem_set hK with hK | rfl
      · exact .inl (List.mem_flatten.2 ⟨K,hK,hjK⟩)
      · exact .inr hjK
    have hlJ:l ∉ J:=fun hm=>hj l hm (by simp)
    refine ⟨l,css.flatten,l :: (Ls.set i J).flatten,rfl,hb,by omega,by simp,.inr ⟨l,css.set i ds,Ls.set i J,by simp,?_,by simp [h1],by simp [h2],fun k a b K ha hb2 hK=>?_,rfl⟩,?_,?_⟩
    · rw [List.getElem?_set_self (ZI hb),Zn0 css i t.w ds (by omega) hw hdl]
    · by_cases hk:i=k
      · subst hk
        rw [List.getElem?_set_self (by omega)] at ha hb2 hK
        cases ha; cases hb2; cases hK
        exact hy.set _ hlJ
      · rw [List.getElem?_set_ne hk] at ha hb2 hK
        exact (h3 k a b K ha hb2 hK).set _ (fun hm=>hln (List.mem_flatten.2 ⟨K,List.mem_of_getElem? hK,hm⟩))
    · refine List.nodup_cons.2 ⟨fun hm=>?_,?_⟩
      · rcases hsub l hm with hm | hm
        · exact hln hm
        · exact hlJ hm
      · have key:∀ (Ls:List (List Nat)) (i:Nat),Ls.flatten.Nodup→(∀ j ∈ J,j ∉ Ls.flatten)→(Ls.set i J).flatten.Nodup:=by
          intro Ls
          induction Ls with
          | nil=>intro i _ _; simp
          | cons K Ks ih =>
            intro i hn2 hd
            rw [List.flatten_cons] at hn2
            have hn3:=List.nodup_append.1 hn2
            cases i with
            | zero =>
              simp only [List.set_cons_zero,List.flatten_cons]
              refine List.nodup_append.2 ⟨hnj,hn3.2.1,fun a ha b hb2 e=>?_⟩
              subst e
              exact hd a ha (by simp [hb2] )
            | succ i =>
              simp only [List.set_cons_succ,List.flatten_cons]
              refine List.nodup_append.2 ⟨hn3.1,ih i hn3.2.1 (fun j hj2 hm=>hd j hj2 (by rw [List.flatten_cons]; exact List.mem_append_right _ hm)),fun a ha b hb2 e=>?_⟩
              subst e
              obtain ⟨K2,hK2,hjK⟩:=List.mem_flatten.1 hb2
              rcases List.mem_or_eq_of_mem_set hK2 with hK2 | rfl
              · exact hn3.2.2 a ha a (List.mem_flatten.2 ⟨K2,hK2,hjK⟩) rfl
              · exact hd a hjK (by rw [List.flatten_cons]; exact List.mem_append_left _ ha)
        exact key Ls i hnf (fun j hj2 hm=>hj j hj2 (List.mem_cons_of_mem _ hm))
    · intro j hj2
      rcases List.mem_cons.1 hj2 with rfl | hj2
      · exact .inl (by simp)
      · rcases hsub j hj2 with hj2 | hj2
        · exact .inl (List.mem_cons_of_mem _ hj2)
        · exact .inr hj2
def Zri (t:Ty) (enc:t.D→List V) (P:t.D→Prop):Prop:=(∀ (M:Mem) (x:t.D),P x→Gr t M (enc x) x [])∧(∀ (M:Mem) (cs:List V) (x:t.D),Rep t M cs x→cs=enc x∧P x)
theorem Zeg {t:Ty} {enc:t.D→List V} {P:t.D→Prop} (hf:Zri t enc P) {M:Mem} {v:V} {xs:List t.D} (h:Rep (.sl t) M [v] xs):(∃ a c,v=.slice a xs.length c)∧Zj M t.w v=some (xs.length,(xs.map enc).flatten)∧∀ x ∈ xs,P x:=by
  rcases h with ⟨e,rfl⟩ | ⟨l,o,c,blk,css,e,hb,h3,hw,h4,h5,h6⟩
  · cases e
    exact ⟨⟨none,0,rfl⟩,rfl,by simp⟩
  · cases e
    have hc:css=xs.map enc:=by
      apply List.ext_getElem (by simp [h4])
      intro i hi hi2
      have:=(hf.2 M css[i] (xs[i]'(by omega)) (h5 i _ _ (by simp) (by simp))).1
      simp [this]
    refine ⟨⟨_,_,rfl⟩,?_,fun x hx=>?_⟩
    · subst hc
      have hfl:((xs.map enc).flatten).length=xs.length * t.w:=by
        rw [YP (w:=t.w) (fun c hc=>?_)]
        · simp
        · obtain ⟨i,hi,rfl⟩:=List.getElem_of_mem hc
          have hi2:i < xs.length:=by simpa using hi
          exact (h5 i _ xs[i] (List.getElem?_eq_getElem hi) (by simp)).len
      unfold Zj
      simp only
      split
      · rename_i h0
        have:(xs.map enc).flatten=[]:=List.length_eq_zero_iff.1 (by omega)
        rw [this]
      · have hl6:=h6.length_le
        rw [List.length_drop,hfl] at hl6
        have hne:xs ≠ []:=by
          intro e
          subst e
          simp at *
        unfold rdn
        rw [hb]
        simp only
        rw [if_pos ⟨(show blk.st=1∨blk.st=2 by rcases h3 with h3 | h3 | h3 <;> simp_all),by omega⟩]
        simp only [Option.map_some,Option.some.injEq,Prod.mk.injEq,true_and]
        rw [← hfl]
        exact (List.prefix_iff_eq_take.1 h6).symm
    · obtain ⟨i,hi,rfl⟩:=List.getElem_of_mem hx
      exact (hf.2 M (css[i]'(by omega)) xs[i] (h5 i _ _ (by simp) (by simp))).2
theorem Zr4 {t:Ty} {enc:t.D→List V} {P:t.D→Prop} (hf:Zri t enc P) {M:Mem} {l:Nat} {xs:List t.D} (hb:M[l]?=some ⟨(xs.map enc).flatten,t.w,2⟩) (hp:∀ x ∈ xs,P x):Gr (.sl t) M [.slice (some ⟨l,0,none⟩) xs.length xs.length] xs [l]:=by
  refine .inr ⟨l,xs.map enc,xs.map (fun _=>[]),rfl,hb,by simp,by simp,fun i ds x K hd hx hK=>?_,by rw [ZnX]⟩
  rw [List.getElem?_map,hx] at hd hK
  simp only [Option.map_some,Option.some.injEq] at hd hK
  subst hd; subst hK
  exact hf.1 M x (hp x (List.mem_of_getElem? hx))
theorem ZCi {t:Ty} {enc:t.D→List V} {P:t.D→Prop} (hf:Zri t enc P) {K n:Nat} {M:Mem} {v:V} {xs:List t.D} (hg:Zdg K t.w M v n (xs.map enc).flatten) (hn:xs.length=n) (hp:∀ x ∈ xs,P x):∃ L,Gr (.sl t) M [v] xs L∧L.Nodup∧∀ l ∈ L,K≤l:=by
  subst hn
  rcases hg.2 with ⟨rfl,h0⟩ | ⟨l,hl,rfl,hb⟩
  · have:xs=[]:=List.length_eq_zero_iff.1 h0
    subst this
    exact ⟨[],Gr.nil,by simp,by simp⟩
  · exact ⟨[l],Zr4 hf hb hp,by simp,by simpa using hl⟩
theorem Zq5 {t:Ty} {enc:t.D→List V} {P:t.D→Prop} (hf:Zri t enc P) {X:Mem} {l bytes:Nat} {xs:List t.D} {x:Option (V × Mem)} (hx:Zdq X t.w bytes (.slice (some ⟨l,0,none⟩) 0 0) xs.length (xs.map enc).flatten=x) (hb:X[l]?=some ⟨[],t.w,2⟩) (hp:∀ y ∈ xs,P y)
    (hs:xs.length * bytes≤140737488355328) (hs2:xs.length≤9223372036854775807) :
    ∃ l2 X3,x=some (.slice (some ⟨l2,0,none⟩) xs.length xs.length,X3)∧l≤l2∧Gr (.sl t) X3 [.slice (some ⟨l2,0,none⟩) xs.length xs.length] xs [l2]∧JQ X X3 [l]:=by
  by_cases h0:xs=[]
  · subst h0
    refine ⟨l,X,by rw [← hx]; rfl,Nat.le_refl _,Zr4 hf hb (by simp),Nat.le_refl _,fun _ _ _=>rfl⟩
  · have hpos:0 < xs.length:=List.length_pos_iff.2 h0
    have hg:Zdg l t.w X (.slice (some ⟨l,0,none⟩) 0 0) 0 []:=⟨by simp,.inr ⟨l,Nat.le_refl _,rfl,hb⟩⟩
    have hfl:((xs.map enc).flatten).length=xs.length * t.w:=by
      rw [YP (w:=t.w) (fun c hc=>?_)]
      · simp
      · obtain ⟨y,hy,rfl⟩:=List.mem_map.1 hc
        exact (hf.1 X y (hp y hy)).len
    have hone:((xs.map enc).flatten).all one=true:=by
      rw [List.all_flatten,List.all_eq_true]
      intro c hc
      obtain ⟨y,hy,rfl⟩:=List.mem_map.1 hc
      exact (hf.1 X y (hp y hy)).one
    have e:=hg.app (m:=xs.length) (bytes:=bytes) hfl hpos hone (by simpa using hs) (by simpa using hs2)
    simp only [List.nil_append,Nat.zero_add] at e
    refine ⟨X.length,_,hx.symm.trans e,Nat.le_of_lt (ZI hb),Zr4 hf ?_ hp,ZjX _ _ _⟩
    rw [List.getElem?_append_right (by rw [Zdx]; exact Nat.le_refl _),Zdx]
    simp
def GrD (t:Ty) (M:Mem) (x:t.D) (p:V × Mem):Prop:=∃ (ds:List V) (L:List Nat),p.1=.agg ds.toArray∧M <+: p.2∧Gr t p.2 ds x L∧L.Nodup∧∀ l ∈ L,M.length≤l
def GrV (t:Ty) (M:Mem) (xs:List t.D) (p:V × Mem):Prop:=∃ (L:List Nat),M <+: p.2∧Gr (.sl t) p.2 [p.1] xs L∧L.Nodup∧∀ l ∈ L,M.length≤l
def Zx0 (w bytes:Nat):AFun:=⟨.seq (.reg false [⟨some 2,.mv (.c (.slice none 0 0)),none⟩]) (.seq (.seq (.reg false [⟨some 3,.mv (.t 0),none⟩,⟨some 4,.eqnil false (.t 3),none⟩]) (.cond (.t 4) (.seq (.reg false [⟨some 2,.mv (.c (.slice none 0 0)),none⟩]) (.ret)) (.skip))) (.seq (.reg false [⟨some 5,.mkl w 0 [] [],none⟩,⟨some 6,.mv (.t 0),none⟩,⟨some 7,.app w bytes (.t 5) (.t 6),none⟩,⟨some 2,.mv (.t 7),none⟩]) (.ret))),8,[.tmp 2]⟩
theorem ZlB {T:Tab} {t:Ty} {w bytes:Nat} {g:FuncId} (hT:T g=some (Zx0 w bytes)) {enc:t.D→List V} {P:t.D→Prop} (hf:Zri t enc P) (hw:t.w=w) {M:Mem} {v:V} {xs:List t.D} (h:Rep (.sl t) M [v] xs) (hs:xs.length * bytes≤140737488355328) (hs2:xs.length≤9223372036854775807) :
    Sat (Zb T g [v] M) (GrV t M xs):=by
  subst hw
  obtain ⟨⟨a,c,rfl⟩,hc,hp⟩:=Zeg hf h
  have hc2:Zj (M++[(⟨[],t.w,2⟩:Blk)]) t.w (.slice a xs.length c)=some (xs.length,(xs.map enc).flatten):=by
    have:=Zeg hf (h.mono (List.prefix_append M [(⟨[],t.w,2⟩:Blk)]))
    exact this.2.1
  cases a with
  | none =>
    have hx:xs=[]:=by
      rcases h with ⟨e,rfl⟩ | ⟨l,o,c,blk,css,e,_⟩
      · rfl
      · cases e
    subst hx
    rw [Zc hT]
    unfold Zx0
    simp
    refine Zcw ⟨[],List.prefix_refl _,?_,by simp,by simp⟩
    exact Gr.nil
  | some a =>
    rw [Zc hT]
    unfold Zx0
    simp [zeroCells,hc2]
    generalize hx:Zdq _ _ _ _ _ _=x
    obtain ⟨l2,X3,rfl,q1,q2,q3⟩:=Zq5 hf hx (by simp) hp hs hs2
    simp
    refine Zcw ⟨[l2],?_,q2,by simp,by simpa using q1⟩
    exact q3.pre (List.prefix_append _ _) (by simp)
theorem ZCG {w bytes l o n ca i l2 o2 c2:Nat} {M:Mem} {b:Blk} {k:Nat} {ys:List V} (hb:M[l]?=some b) (hsc:Zj M w (.slice (some ⟨l2,o2,none⟩) 1 c2)=some (k,ys)) (hne:l2 ≠ l) (hw:1 < w) (hst:b.st=2) (hbw:b.w=w) (hfill:o+n * w=b.cells.length) (hin:i < n)
    (h1:(n+1) * bytes≤140737488355328) (h2:n+1≤9223372036854775807) (hone:ys.all one=true) :
    ZEg w bytes (.slice (some ⟨l,o,none⟩) n ca) (.int .i64 (i:Int)) (.slice (some ⟨l2,o2,none⟩) 1 c2) (.int .i64 1) (.int .i64 (n:Int)) 95 M =
      some (.slice (some ⟨M.length,0,none⟩) (n+1) (n+1),M.set l { b with st:=0 }++[⟨(b.cells.drop o).take (i * w)++ys++(b.cells.drop o).drop (i * w),w,2⟩]):=by
  unfold ZEg
  simp only [hb,hsc]
  rw [if_pos (by refine ⟨?_,hne,hw,hst,hbw,hfill,by omega,by omega,h1,h2,hone,?_,?_,?_⟩ <;> trivial)]
  rfl
theorem Zug {css:List (List V)} {w i:Nat} (hw:∀ c ∈ css,c.length=w) (hi:i≤css.length):css.flatten.take (i * w)=(css.take i).flatten∧css.flatten.drop (i * w)=(css.drop i).flatten:=by
  have e:css.flatten=(css.take i).flatten++(css.drop i).flatten:=by rw [← List.flatten_append,List.take_append_drop]
  have hl:(css.take i).flatten.length=i * w:=by
    rw [YP (w:=w) (fun c hc=>hw c (List.mem_of_mem_take hc)),List.length_take,Nat.min_eq_left hi]
  rw [e]
  exact ⟨List.take_left' hl,List.drop_left' hl⟩
theorem Gr.ins {t:Ty} {X:Mem} {v:V} {xs:List t.D} {L:List Nat} (h:Gr (.sl t) X [v] xs L) {bytes i l2:Nat} {ds:List V} {y:t.D} {J:List Nat} (hi:i < xs.length) (hy:Gr t X ds y J) (hb2:X[l2]?=some ⟨ds,t.w,2⟩) (hl2:l2 ∉ L) (hw:1 < t.w) (hj:∀ j ∈ J,j ∉ L) (hn:L.Nodup) (hnj:J.Nodup)
    (hs:(xs.length+1) * bytes≤140737488355328) (hs2:xs.length+1≤9223372036854775807) :
    ∃ (X':Mem) (L':List Nat),ZEg t.w bytes v (.int .i64 (i:Int)) (.slice (some ⟨l2,0,none⟩) 1 1) (.int .i64 1) (.int .i64 (xs.length:Int)) 95 X=some (.slice (some ⟨X.length,0,none⟩) (xs.length+1) (xs.length+1),X') ∧
      Gr (.sl t) X' [.slice (some ⟨X.length,0,none⟩) (xs.length+1) (xs.length+1)] (xs.take i++y :: xs.drop i) L'∧JQ X X' (wfs v)∧X'.length=X.length+1∧(∀ b ∈ wfs v,b ∈ L)∧L'.Nodup∧∀ j ∈ L',j ∈ L∨j ∈ J∨j=X.length:=by
  have hgr:=h
  rcases h with ⟨_,rfl,_⟩ | ⟨l,css,Ls,e,hb,h1,h2,h3,rfl⟩
  · simp at hi
  cases e
  have hel:=Gr.els h1 h2 h3
  have hl:=YP hel
  have hdl:=hy.len
  obtain ⟨hln,hnf⟩:=List.nodup_cons.1 hn
  have hll:=ZI hb
  obtain ⟨f1,f2⟩:=Zug (i:=i) hel (by omega)
  have hsc:Zj X t.w (.slice (some ⟨l2,0,none⟩) 1 1)=some (1,ds):=by
    have hne:¬ 1 * t.w=0:=by omega
    simp only [Zj,hne,if_false,rdn,hb2]
    rw [if_pos ⟨.inr (by trivial),by omega⟩,List.drop_zero,List.take_of_length_le (by omega)]
    rfl
  have hins:=ZCG (w:=t.w) (bytes:=bytes) (o:=0) (n:=xs.length) (ca:=xs.length) (i:=i) hb hsc (fun e=>hl2 (by simp [e])) hw rfl rfl (by rw [Nat.zero_add,hl,h1]) hi hs hs2 hy.one
  rw [List.drop_zero,f1,f2] at hins
  have hcell:(css.take i).flatten++ds++(css.drop i).flatten=(css.take i++ds :: css.drop i).flatten:=by simp
  simp only [hcell] at hins
  have hlJ:l ∉ J:=fun hm=>hj l hm (by simp)
  have up:∀ {d:List V} {x:t.D} {K:List Nat},Gr t X d x K→l ∉ K→Gr t (X.set l ⟨css.flatten,t.w,0⟩++[⟨(css.take i++ds :: css.drop i).flatten,t.w,2⟩]) d x K:=fun g hk=>(g.set _ hk).grow (List.prefix_append _ _)
  have hKl:∀ (k:Nat) (K:List Nat),Ls[k]?=some K→l ∉ K:=fun k K hK hm=>hln (List.mem_flatten.2 ⟨K,List.mem_of_getElem? hK,hm⟩)
  have hperm:(Ls.take i++J :: Ls.drop i).flatten.Perm (J++Ls.flatten):=by
    have e:Ls.flatten=(Ls.take i).flatten++(Ls.drop i).flatten:=by rw [← List.flatten_append,List.take_append_drop]
    rw [e,List.flatten_append,List.flatten_cons,← List.append_assoc,← List.append_assoc]
    exact (List.perm_append_comm).append_right _
  have hlt:∀ j,j ∈ J++Ls.flatten→j < X.length:=fun j hm=>by
    rcases List.mem_append.1 hm with hm | hm
    · exact hy.lt j hm
    · exact hgr.lt j (List.mem_cons_of_mem _ hm)
  have hnd:(J++Ls.flatten).Nodup:=List.nodup_append.2 ⟨hnj,hnf,fun a ha b hb e=>hj a ha (by rw [e]; exact List.mem_cons_of_mem _ hb)⟩
  refine ⟨_,X.length :: (Ls.take i++J :: Ls.drop i).flatten,hins,.inr ⟨X.length,css.take i++ds :: css.drop i,Ls.take i++J :: Ls.drop i,?_,?_,?_,?_,?_,rfl⟩,?_,by simp,by simp [wfs],?_,?_⟩
  · have:(xs.take i++y :: xs.drop i).length=xs.length+1:=by simp; omega
    rw [this]
  · rw [List.getElem?_append_right (by simp)]; simp
  · simp; omega
  · simp; omega
  · intro k d x K hd hx hK
    have c1:(css.take i).length=i:=by simp; omega
    have c2:(xs.take i).length=i:=by simp; omega
    have c3:(Ls.take i).length=i:=by simp; omega
    by_cases hk:k < i
    · rw [List.getElem?_append_left (by omega),List.getElem?_take_of_lt hk] at hd hx hK
      exact up (h3 k d x K hd hx hK) (hKl k K hK)
    · rw [List.getElem?_append_right (by omega)] at hd hx hK
      rw [c1] at hd
      rw [c2] at hx
      rw [c3] at hK
      generalize hq:k - i=q at hd hx hK
      cases q with
      | zero =>
        rw [List.getElem?_cons_zero] at hd hx hK
        cases hd; cases hx; cases hK
        exact up hy hlJ
      | succ q =>
        rw [List.getElem?_cons_succ,List.getElem?_drop] at hd hx hK
        exact up (h3 _ d x K hd hx hK) (hKl _ K hK)
  · refine ⟨by simp,fun b hb1 hb2=>?_⟩
    have hbl:l ≠ b:=fun e=>hb2 (by simp [wfs,e])
    rw [List.getElem?_append_left (by simpa using hb1),List.getElem?_set_ne hbl]
  · refine List.nodup_cons.2 ⟨fun hm=>?_,hperm.nodup_iff.2 hnd⟩
    have:=hlt _ (hperm.mem_iff.1 hm)
    omega
  · intro j hm
    rcases List.mem_cons.1 hm with rfl | hm
    · exact .inr (.inr rfl)
    · rcases List.mem_append.1 (hperm.mem_iff.1 hm) with hm | hm
      · exact .inr (.inl hm)
      · exact .inl (List.mem_cons_of_mem _ hm)
theorem apA:type_of% (And.intro @Zt1 (And.intro @Zk1 (And.intro @Zmx (And.intro @Zka (And.intro @ZrF (And.intro @ZrS (And.intro @ZxH (And.intro @Zrk (And.intro @ZtP (And.intro @ZvX @ZtC)))))))))):=And.intro @Zt1 (And.intro @Zk1 (And.intro @Zmx (And.intro @Zka (And.intro @ZrF (And.intro @ZrS (And.intro @ZxH (And.intro @Zrk (And.intro @ZtP (And.intro @ZvX @ZtC)))))))))
end GoAm
