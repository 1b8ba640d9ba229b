/- Memory that is not told in full: what stays where, step by step. -/
import Derived.Test.YtlniheedmeaeeaaGreatAmOwn
set_option autoImplicit false
set_option linter.unusedVariables false
set_option linter.unusedSimpArgs false
namespace GoAm
open Go
def Sat {α:Type} (r:Option α) (Q:α→Prop):Prop:=∃ a,r=some a∧Q a
theorem Zcw {α:Type} {a:α} {Q:α→Prop} (h:Q a):Sat (some a) Q:=⟨a,rfl,h⟩
theorem Sat.mono {α:Type} {r:Option α} {P Q:α→Prop} (h:Sat r P) (hq:∀ a,P a→Q a):Sat r Q:=by
  obtain ⟨a,e,p⟩:=h
  exact ⟨a,e,hq a p⟩
theorem ZQ {α β:Type} {r:Option (α × β)} {x:Option (α × β)} {Q:α × β→Prop} (hx:r=x) (h:Sat r Q):∃ a b,x=some (a,b)∧Q (a,b):=by
  obtain ⟨⟨a,b⟩,e,p⟩:=h
  exact ⟨a,b,by rw [← hx,e],p⟩
theorem ZI {M:Mem} {l:Nat} {b:Blk} (h:M[l]?=some b):l < M.length:=(List.getElem?_eq_some_iff.1 h).1
theorem ZvU {M:Mem} {l o:Nat} {v:V} (h:rd1 M l o=some v):l < M.length:=by
  unfold rd1 at h
  split at h
  · rename_i b hb; exact ZI hb
  · cases h
theorem ZEI {M M':Mem} {l o:Nat} (h:M'[l]?=M[l]?):rd1 M' l o=rd1 M l o:=by unfold rd1; rw [h]
theorem ZdU {M:Mem} {l o:Nat} {vs:List V} {b:Blk} (hb:M[l]?=some b) (h2:b.st=2) (h3:o+vs.length≤b.cells.length) (h4:vs.all one=true):wrn M l o vs=some (M.set l { b with cells:=splice b.cells o vs }):=by
  unfold wrn
  rw [hb]
  simp only
  rw [if_pos ⟨h2,h3,h4⟩]
theorem Je {M:Mem} {l i:Nat} {b:Blk} (h:l ≠ i):(M.set l b)[i]?=M[i]?:=List.getElem?_set_ne h
theorem Qt {M X:Mem} {l o:Nat} {v:V} (h:M <+: X) (hr:rd1 M l o=some v):rd1 X l o=some v:=by
  obtain ⟨t,rfl⟩:=h
  exact Zhe hr
theorem ZjS {M X:Mem} {l o n:Nat} {v:List V} (h:M <+: X) (hr:rdn M l o n=some v):rdn X l o n=some v:=by
  obtain ⟨t,rfl⟩:=h
  exact ZkH hr
theorem JZ {M0 M N:Mem} (h:M0 <+: M):M0 <+: M++N:=h.trans (List.prefix_append _ _)
theorem QQ {M0 M:Mem} {l:Nat} {b:Blk} (hl:M0.length≤l) (h:M0 <+: M):M0 <+: M.set l b:=by
  rw [List.prefix_iff_eq_take] at h ⊢
  apply List.ext_getElem?
  intro i
  rw [List.getElem?_take]
  split
  · rename_i hi
    rw [List.getElem?_set_ne (by omega)]
    have:=congrArg (fun L=>L[i]?) h
    simp only [List.getElem?_take,hi,if_true] at this
    exact this
  · rw [List.getElem?_eq_none (by omega)]
theorem Zt1 {st cl:Bool} {r w c R W:List Nat} {v:V} {M N N':Mem} (h:N <+: N') (call:Yd) (d:Option Nat) (os:List AOper) (fr:List V):Zj6 st cl r w c R W (some (v,M++N')) call d os fr (M++N)=JP call (r++R) (w++W) os (JC fr d v) (M++N'):=by
  obtain ⟨t,rfl⟩:=h
  rw [← List.append_assoc]
  exact Zpw st cl r w c R W v (M++N) t call d os fr
def ZFW (ob:Option Blk) (M:Mem) (w bytes l o n c m:Nat) (ys:List V):Option (V × Mem):=match ob with
  | some b =>
      if ys.all one=false∨b.w ≠ w∨¬ (n+m) * bytes≤140737488355328∨¬ n+m≤9223372036854775807 then none
      else if b.st=3 then (if n=0 then some (.slice (some ⟨M.length,0,none⟩) m m,M++[⟨ys,w,2⟩]) else none)
      else if b.st=2 then
        if n+m≤c then
          (if o+(n+m) * w≤b.cells.length then some (.slice (some ⟨l,o,none⟩) (n+m) c,M.set l { b with cells:=splice b.cells (o+n * w) ys }) else none)
        else if o+n * w=b.cells.length then
          some (.slice (some ⟨M.length,0,none⟩) (n+m) (n+m),M.set l { b with st:=0 }++[⟨b.cells.drop o++ys,w,2⟩])
        else none
      else none
  | none=>none
theorem ZrS (M:Mem) (w bytes l o n c m:Nat) (ys:List V) (h:0 < m):Zdq M w bytes (.slice (some ⟨l,o,none⟩) n c) m ys=ZFW M[l]? M w bytes l o n c m ys:=by
  unfold Zdq ZFW
  simp only
  rw [if_neg (by omega)]
  split <;> (rename_i h2; rw [h2])
theorem Zrk (M:Mem) (w bytes:Nat) (a:Option Addr) (n c:Nat) (ys:List V):Zdq M w bytes (.slice none 0 0) 0 ys=some (.slice none 0 0,M):=rfl
theorem ZxH (M:Mem) (w bytes l n m:Nat) (cs ys:List V) (h1:ys.all one=true) (hs:(n+m) * bytes≤140737488355328) (hs2:n+m≤9223372036854775807) (h4:cs.length=n * w) (h5:0 < m) :
    ZFW (some ⟨cs,w,2⟩) M w bytes l 0 n n m ys=some (.slice (some ⟨M.length,0,none⟩) (n+m) (n+m),M.set l ⟨cs,w,0⟩++[⟨cs++ys,w,2⟩]):=by
  unfold ZFW
  simp only
  rw [if_neg (by simp only [h1]; simp; omega),if_neg (by omega),if_pos trivial,if_neg (by omega),if_pos (by omega)]
  rfl
theorem Zk1 (M:Mem) (w l o n c:Nat) (h:0 < n * w):Zj M w (.slice (some ⟨l,o,none⟩) n c)=(rdn M l o (n * w)).map (n,·):=by
  unfold Zj
  simp only
  rw [if_neg (by omega)]
theorem Zmx (M:Mem) (w l o c:Nat):Zj M w (.slice (some ⟨l,o,none⟩) 0 c)=some (0,[]):=by
  unfold Zj
  simp
theorem Zka (M:Mem) (w:Nat):Zj M w (.slice none 0 0)=some (0,[]):=rfl
theorem ZrF {α:Type} {l:List α} {n:Nat} (h:l.length≤n):l.take n=l:=List.take_of_length_le h
def ZrR (M:Mem):V→Mem
  | .slice (some a) _ _=>match M[a.block]? with
    | some b=>M.set a.block { b with st:=0 }
    | none=>M
  | _=>M
theorem Zdx (M:Mem) (v:V):(ZrR M v).length=M.length:=by
  unfold ZrR
  split
  · split <;> simp
  · rfl
theorem ZD0 {M:Mem} {v:V} {i:Nat} (h:i ∉ wfs v):(ZrR M v)[i]?=M[i]?:=by
  unfold ZrR
  split
  · rename_i a n c
    split
    · exact List.getElem?_set_ne (fun e=>h (by simp [wfs,e]))
    · rfl
  · rfl
theorem ZCh {M0 M:Mem} {v:V} (hl:∀ b ∈ wfs v,M0.length≤b) (h:M0 <+: M):M0 <+: ZrR M v:=by
  unfold ZrR
  split
  · rename_i a n c
    split
    · exact QQ (hl _ (by simp [wfs])) h
    · exact h
  · exact h
theorem Zzt (M:Mem) (l o n c:Nat) (b:Blk) (h:M[l]?=some b):ZrR M (.slice (some ⟨l,o,none⟩) n c)=M.set l { b with st:=0 }:=by
  unfold ZrR
  simp only [h]
theorem ZjX (M N:Mem) (v:V):JQ M (ZrR M v++N) (wfs v):=by
  refine ⟨by rw [List.length_append,Zdx]; omega,fun b hb hn=>?_⟩
  rw [List.getElem?_append_left (by rw [Zdx]; exact hb),ZD0 hn]
def agP:Nat→Mem→Mem→List Nat→Prop
  | _,[],_,_=>True
  | _,_ :: _,[],_=>False
  | k,a :: N,b :: N',ws=>(b=a∨k ∈ ws)∧agP (k+1) N N' ws
structure AgP (k:Nat) (N N':Mem) (ws:List Nat):Prop where
  out:agP k N N' ws
theorem ZvX (k:Nat) (N:Mem) (ws:List Nat):AgP k [] N ws:=⟨by cases N <;> trivial⟩
theorem ZtC (k:Nat) (a b:Blk) (N N':Mem) (ws:List Nat):AgP k (a :: N) (b :: N') ws ↔ ((b=a∨k ∈ ws)∧AgP (k+1) N N' ws):=⟨fun h=>⟨h.out.1,⟨h.out.2⟩⟩,fun h=>⟨⟨h.1,h.2.out⟩⟩⟩
theorem Zrq (M:Mem) (ws:List Nat):∀ (N N':Mem) (k:Nat),agP (M.length+k) N N' ws→N.length≤N'.length∧∀ i,i < N.length→M.length+k+i ∉ ws→N'[i]?=N[i]?
  | [],N',k,_=>⟨by simp,fun i hi=>by simp at hi⟩
  | a :: N,[],k,h=>by cases h
  | a :: N,b :: N',k,h=>by
    obtain ⟨h1,h2⟩:=h
    obtain ⟨q1,q2⟩:=Zrq M ws N N' (k+1) h2
    refine ⟨by simp only [List.length_cons]; omega,fun i hi hn=>?_⟩
    cases i with
    | zero =>
      rcases h1 with rfl | h1
      · rfl
      · exact absurd h1 (by simpa using hn)
    | succ i =>
      simp only [List.getElem?_cons_succ]
      exact q2 i (by simpa using hi) (by rw [show M.length+(k+1)+i=M.length+k+(i+1) by omega]; exact hn)
theorem ZtP {st cl:Bool} {r w c R W:List Nat} {v:V} {M N N':Mem} (h:AgP M.length N N' w) (h2:Zfx w R=false) (call:Yd) (d:Option Nat) (os:List AOper) (fr:List V) :
    Zj6 st cl r w c R W (some (v,M++N')) call d os fr (M++N)=JP call (r++R) (w++W) os (JC fr d v) (M++N'):=by
  obtain ⟨q1,q2⟩:=Zrq M w N N' 0 h.out
  refine YD ⟨by simpa using q1,fun b hb hn=>?_⟩ h2 call d os fr
  by_cases hl:b < M.length
  · rw [List.getElem?_append_left hl,List.getElem?_append_left hl]
  · rw [List.getElem?_append_right (by omega),List.getElem?_append_right (by omega)]
    exact q2 _ (by simp at hb; omega) (by rw [show M.length+0+(b - M.length)=b by omega]; exact hn)
def Zdg (K w:Nat) (M:Mem) (v:V) (n:Nat) (cs:List V):Prop:=cs.length=n * w∧((v=.slice none 0 0∧n=0)∨∃ l,K≤l∧v=.slice (some ⟨l,0,none⟩) n n∧M[l]?=some ⟨cs,w,2⟩)
theorem Zdg.shape {K w:Nat} {M:Mem} {v:V} {n:Nat} {cs:List V} (h:Zdg K w M v n cs):∃ a,v=.slice a n n:=by
  rcases h.2 with ⟨rfl,rfl⟩ | ⟨l,_,rfl,_⟩
  · exact ⟨_,rfl⟩
  · exact ⟨_,rfl⟩
theorem Zdg.ge {K w:Nat} {M:Mem} {v:V} {n:Nat} {cs:List V} (h:Zdg K w M v n cs):∀ b ∈ wfs v,K≤b:=by
  rcases h.2 with ⟨rfl,rfl⟩ | ⟨l,_,rfl,_⟩ <;> intro b hb <;> simp [wfs] at hb <;> omega
theorem Zdg.lt {K w:Nat} {M:Mem} {v:V} {n:Nat} {cs:List V} (h:Zdg K w M v n cs):∀ b ∈ wfs v,b < M.length:=by
  rcases h.2 with ⟨rfl,rfl⟩ | ⟨l,_,rfl,hb⟩ <;> intro b hb2 <;> simp [wfs] at hb2
  have:=ZI hb
  omega
theorem Zdg.keep {K w:Nat} {M X:Mem} {v:V} {n:Nat} {cs:List V} (h:Zdg K w M v n cs) (hx:∀ b ∈ wfs v,X[b]?=M[b]?):Zdg K w X v n cs:=by
  refine ⟨h.1,?_⟩
  rcases h.2 with h | ⟨l,h1,rfl,h2⟩
  · exact .inl h
  · exact .inr ⟨l,h1,rfl,by rw [hx l (by simp [wfs]),h2]⟩
theorem Zdg.pre {K w:Nat} {M X:Mem} {v:V} {n:Nat} {cs:List V} (h:Zdg K w M v n cs) (hx:M <+: X):Zdg K w X v n cs:=by
  refine h.keep fun b hb=>?_
  have:=h.lt b hb
  obtain ⟨t,rfl⟩:=hx
  rw [List.getElem?_append_left this]
theorem Zdg.le {K K' w:Nat} {M:Mem} {v:V} {n:Nat} {cs:List V} (h:Zdg K w M v n cs) (hk:K'≤K):Zdg K' w M v n cs:=by
  refine ⟨h.1,?_⟩
  rcases h.2 with h | ⟨l,h1,h2⟩
  · exact .inl h
  · exact .inr ⟨l,by omega,h2⟩
theorem Zdg.app {K w:Nat} {X:Mem} {v:V} {n:Nat} {cs:List V} (h:Zdg K w X v n cs) {m bytes:Nat} {ys:List V} (hm:ys.length=m * w) (h0:0 < m) (h1:ys.all one=true) (hs:(n+m) * bytes≤140737488355328) (hs2:n+m≤9223372036854775807) :
    Zdq X w bytes v m ys=some (.slice (some ⟨X.length,0,none⟩) (n+m) (n+m),ZrR X v++[⟨cs++ys,w,2⟩]):=by
  obtain ⟨hl,h⟩:=h
  rcases h with ⟨rfl,rfl⟩ | ⟨l,_,rfl,hb⟩
  · have:cs=[]:=List.length_eq_zero_iff.1 (by omega)
    subst this
    unfold Zdq
    simp only
    rw [if_neg (by omega),if_pos ⟨by simpa using hs,by omega,h1⟩]
    simp [ZrR]
  · rw [ZyT hb hl h0 h1 hs hs2,Zzt _ _ _ _ _ _ hb]
theorem Zdg.next {K w:Nat} {X:Mem} {v:V} {n:Nat} {cs:List V} (h:Zdg K w X v n cs) {m:Nat} {ys:List V} (hm:ys.length=m * w) (hk:K≤X.length) (N:Mem) :
    Zdg K w (ZrR X v++⟨cs++ys,w,2⟩ :: N) (.slice (some ⟨X.length,0,none⟩) (n+m) (n+m)) (n+m) (cs++ys):=by
  refine ⟨by rw [List.length_append,h.1,hm,Nat.add_mul],.inr ⟨X.length,hk,rfl,?_⟩⟩
  rw [List.getElem?_append_right (by rw [Zdx]; exact Nat.le_refl _),Zdx]
  simp
theorem Zdg.at {K w:Nat} {X X2:Mem} {v:V} {n:Nat} {cs:List V} (h:Zdg K w X v n cs) {m bytes:Nat} {ys:List V} {x:Option (V × Mem)} (hx:Zdq X2 w bytes v m ys=x) (hp:X <+: X2) (hk:K≤X.length) (hm:ys.length=m * w) (h0:0 < m) (h1:ys.all one=true) (hs:(n+m) * bytes≤140737488355328) (hs2:n+m≤9223372036854775807) :
    ∃ a X3,x=some (.slice (some a) (n+m) (n+m),X3)∧Zdg K w X3 (.slice (some a) (n+m) (n+m)) (n+m) (cs++ys)∧JQ X2 X3 (wfs v)∧X2.length < X3.length:=by
  have h2:=h.pre hp
  have e:=h2.app hm h0 h1 hs hs2
  refine ⟨_,_,hx.symm.trans e,?_,ZjX _ _ _,by rw [List.length_append,Zdx]; simp⟩
  exact h2.next hm (by have:=hp.length_le; omega) []
theorem JQ.get {M M':Mem} {w:List Nat} (h:JQ M M' w) {i:Nat} {b:Blk} (hb:M[i]?=some b) (hn:i ∉ w):M'[i]?=some b:=by rw [h.2 i (ZI hb) hn]; exact hb
theorem JQ.pre {M0 M M':Mem} {w:List Nat} (h:JQ M M' w) (hp:M0 <+: M) (hw:∀ b ∈ w,M0.length≤b):M0 <+: M':=by
  rw [List.prefix_iff_eq_take]
  have hl:M0.length≤M'.length:=Nat.le_trans hp.length_le h.1
  apply List.ext_getElem?
  intro i
  rw [List.getElem?_take]
  split
  · rename_i hi
    rw [h.2 i (Nat.lt_of_lt_of_le hi hp.length_le) (fun hin=>by have:=hw i hin; omega)]
    obtain ⟨r,rfl⟩:=hp
    rw [List.getElem?_append_left hi]
  · rename_i hi
    rw [List.getElem?_eq_none (by omega)]
theorem Zdg.set {K w:Nat} {M:Mem} {v:V} {n:Nat} {cs:List V} (h:Zdg K w M v n cs) {l:Nat} (hl:l < K) (b:Blk):Zdg K w (M.set l b) v n cs:=by
  refine h.keep fun i hi=>List.getElem?_set_ne fun e=>?_
  have:=h.ge i hi
  omega
theorem Zdg.nil {K w:Nat} {M:Mem}:Zdg K w M (.slice none 0 0) 0 []:=⟨by simp,.inl ⟨rfl,rfl⟩⟩
theorem Zdg.new {K w n:Nat} {M N:Mem} {cs:List V} (hk:K≤M.length) (hl:cs.length=n * w):Zdg K w (M++⟨cs,w,2⟩ :: N) (.slice (some ⟨M.length,0,none⟩) n n) n cs:=⟨hl,.inr ⟨M.length,hk,rfl,by simp⟩⟩
theorem Zdg.cells {K w:Nat} {M:Mem} {v:V} {n:Nat} {cs:List V} (h:Zdg K w M v n cs):Zj M w v=some (n,cs):=by
  obtain ⟨hl,h⟩:=h
  rcases h with ⟨rfl,rfl⟩ | ⟨l,_,rfl,hb⟩
  · have:cs=[]:=List.length_eq_zero_iff.1 (by omega)
    subst this
    rfl
  · unfold Zj
    simp only
    split
    · rename_i h0
      have:cs=[]:=List.length_eq_zero_iff.1 (by omega)
      rw [this]
    · unfold rdn
      rw [hb]
      simp only
      rw [if_pos ⟨.inr trivial,by omega⟩]
      simp [← hl]
theorem YT {α:Type} {call:Yd} {K:List Bool} {L:ACode} (Inv:Nat→α→Mem→Prop) (F:Nat→α→List V) {n:Nat}
    (step:∀ i s X,i < n→Inv i s X→∃ s' X',Inv (i+1) s' X'∧lp call K L (F i s) X=lp call K L (F (i+1) s') X') :
    ∀ i s X,i≤n→Inv i s X→∃ s' X',Inv n s' X'∧lp call K L (F i s) X=lp call K L (F n s') X':=by
  have:∀ k i s X,i+k=n→Inv i s X→∃ s' X',Inv n s' X'∧lp call K L (F i s) X=lp call K L (F n s') X':=by
    intro k
    induction k with
    | zero => intro i s X hi h; have e : i = n := by omega
              subst e; exact ⟨s,X,h,rfl⟩
    | succ k ih =>
      intro i s X hi h
      obtain ⟨s1,X1,h1,e1⟩:=step i s X (by omega) h
      obtain ⟨s2,X2,h2,e2⟩:=ih (i+1) s1 X1 (by omega) h1
      exact ⟨s2,X2,h2,e1.trans e2⟩
  intro i s X hi h
  exact this (n - i) i s X (by omega) h
theorem Zif {xs ys:List Nat} {K:Nat} (h:∀ b ∈ xs,K≤b) (h2:∀ b ∈ ys,b < K):Zfx xs ys=false:=by
  unfold Zfx
  rw [List.any_eq_false]
  intro x hx
  simp only [Bool.not_eq_true]
  rw [List.any_eq_false]
  intro y hy
  have:=h x hx
  have:=h2 y hy
  simp; omega
end GoAm
