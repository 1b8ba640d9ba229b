/- Data in abstract memory, and the blocks that it lies in. -/
import Derived.Test.YtlniheedmeaeeaaGreatAmSl
set_option autoImplicit false
set_option linter.unusedVariables false
set_option linter.unusedSimpArgs false
namespace GoAm
open Go
def ZAD (S:Nat→Prop):(t:Ty)→Mem→List V→t.D→Prop
  | .int k,_,cs,n=>cs=[.int k n]∧(Lit.int k n).wf=true
  | .u8,_,cs,b=>cs=[Y0 b]
  | .bool,_,cs,b=>cs=[.bool b]
  | .str,_,cs,s=>cs=[ZEz s]
  | .sl t,M,cs,xs=>(cs=[.slice none 0 0]∧xs=[])∨∃ (l o c:Nat) (blk:Blk) (css:List (List V)),cs=[.slice (some ⟨l,o,none⟩) xs.length c]∧S l∧M[l]?=some blk∧(blk.st=1∨blk.st=2∨xs=[]) ∧
      blk.w=t.w∧css.length=xs.length∧(∀ (i:Nat) (ds:List V) (x:t.D),css[i]?=some ds→xs[i]?=some x→ZAD S t M ds x)∧css.flatten <+: blk.cells.drop o
  | .pr a b,M,cs,x=>∃ c1 c2,cs=c1++c2∧ZAD S a M c1 x.1∧ZAD S b M c2 x.2
theorem ZAD.rep {S:Nat→Prop}:∀ {t:Ty} {M:Mem} {cs:List V} {x:t.D},ZAD S t M cs x→Rep t M cs x
  | .int _,_,_,_,h=>h
  | .u8,_,_,_,h=>h
  | .bool,_,_,_,h=>h
  | .str,_,_,_,h=>h
  | .sl t,_,_,_,h=>by
    rcases h with h | ⟨l,o,c,blk,css,h1,_,h2,h3,h4,h5,h6,h7⟩
    · exact .inl h
    · exact .inr ⟨l,o,c,blk,css,h1,h2,h3,h4,h5,fun i ds x hd hx=>(h6 i ds x hd hx).rep,h7⟩
  | .pr a b,_,_,x,h=>by
    obtain ⟨c1,c2,e,h1,h2⟩:=h
    exact ⟨c1,c2,e,h1.rep,h2.rep⟩
theorem Rep.all:∀ {t:Ty} {M:Mem} {cs:List V} {x:t.D},Rep t M cs x→ZAD (fun l=>l < M.length) t M cs x
  | .int _,_,_,_,h=>h
  | .u8,_,_,_,h=>h
  | .bool,_,_,_,h=>h
  | .str,_,_,_,h=>h
  | .sl t,_,_,_,h=>by
    rcases h with h | ⟨l,o,c,blk,css,h1,h2,h3,h4,h5,h6,h7⟩
    · exact .inl h
    · exact .inr ⟨l,o,c,blk,css,h1,(List.getElem?_eq_some_iff.1 h2).1,h2,h3,h4,h5,fun i ds x hd hx=>(h6 i ds x hd hx).all,h7⟩
  | .pr a b,_,_,x,h=>by
    obtain ⟨c1,c2,e,h1,h2⟩:=h
    exact ⟨c1,c2,e,h1.all,h2.all⟩
theorem ZAD.upd {S S':Nat→Prop} {M M':Mem} (hs:∀ l,S l→S' l) (hu:∀ l,S l→l < M.length→M'[l]?=M[l]?):∀ {t:Ty} {cs:List V} {x:t.D},ZAD S t M cs x→ZAD S' t M' cs x
  | .int _,_,_,h=>h
  | .u8,_,_,h=>h
  | .bool,_,_,h=>h
  | .str,_,_,h=>h
  | .sl t,_,_,h=>by
    rcases h with h | ⟨l,o,c,blk,css,h1,h0,h2,h3,h4,h5,h6,h7⟩
    · exact .inl h
    · exact .inr ⟨l,o,c,blk,css,h1,hs l h0,by rw [hu l h0 (List.getElem?_eq_some_iff.1 h2).1,h2],h3,h4,h5,fun i ds x hd hx=>(h6 i ds x hd hx).upd hs hu,h7⟩
  | .pr a b,_,x,h=>by
    obtain ⟨c1,c2,e,h1,h2⟩:=h
    exact ⟨c1,c2,e,h1.upd hs hu,h2.upd hs hu⟩
def Upd (M M':Mem) (L:Nat→Prop):Prop:=M'.length=M.length∧(∀ l,¬ L l→M'[l]?=M[l]?)∧∀ (l:Nat) (b:Blk),M[l]?=some b→∃ b':Blk,M'[l]?=some b'∧b'.w=b.w
def Own:(t:Ty)→Mem→List V→t.D→List Nat→Prop
  | .int k,_,cs,n,L=>(cs=[.int k n]∧(Lit.int k n).wf=true)∧L=[]
  | .u8,_,cs,b,L=>cs=[Y0 b]∧L=[]
  | .bool,_,cs,b,L=>cs=[.bool b]∧L=[]
  | .str,_,cs,s,L=>cs=[ZEz s]∧L=[]
  | .sl t,M,cs,xs,L=>(xs=[]∧L=[]∧Rep (.sl t) M cs xs)∨∃ (l o c:Nat) (blk:Blk) (css:List (List V)) (Ls:List (List Nat)),xs ≠ []∧cs=[.slice (some ⟨l,o,none⟩) xs.length c]∧M[l]?=some blk∧blk.st=2 ∧
      blk.w=t.w∧css.length=xs.length∧Ls.length=xs.length∧(∀ (i:Nat) (ds:List V) (x:t.D) (K:List Nat),css[i]?=some ds→xs[i]?=some x→Ls[i]?=some K→Own t M ds x K)∧css.flatten <+: blk.cells.drop o∧L=l :: Ls.flatten
  | .pr a b,M,cs,x,L=>∃ c1 c2 L1 L2,cs=c1++c2∧Own a M c1 x.1 L1∧Own b M c2 x.2 L2∧L=L1++L2
theorem Own.rep:∀ {t:Ty} {M:Mem} {cs:List V} {x:t.D} {L:List Nat},Own t M cs x L→Rep t M cs x
  | .int _,_,_,_,_,h=>h.1
  | .u8,_,_,_,_,h=>h.1
  | .bool,_,_,_,_,h=>h.1
  | .str,_,_,_,_,h=>h.1
  | .sl t,_,_,_,_,h=>by
    rcases h with ⟨rfl,_,h⟩ | ⟨l,o,c,blk,css,Ls,hne,h1,h2,h3,h4,h5,hL,h6,h7,_⟩
    · exact h
    · refine .inr ⟨l,o,c,blk,css,h1,h2,.inr (.inl h3),h4,h5,fun i ds x hd hx=>?_,h7⟩
      have hi:i < Ls.length:=by rw [hL]; exact (List.getElem?_eq_some_iff.1 hx).1
      exact (h6 i ds x Ls[i] hd hx (by simp [hi])).rep
  | .pr a b,_,_,x,_,h=>by
    obtain ⟨c1,c2,L1,L2,e,h1,h2,_⟩:=h
    exact ⟨c1,c2,e,h1.rep,h2.rep⟩
theorem Zwx {t:Ty} {M M':Mem} {L:Nat→Prop} (hu:Upd M M' L) {cs:List V} (h:Rep (.sl t) M cs []):Rep (.sl t) M' cs []:=by
  rcases h with h | ⟨l,o,c,blk,css,h1,h2,h3,h4,h5,h6,h7⟩
  · exact .inl h
  · obtain ⟨b',hb,hw⟩:=hu.2.2 l blk h2
    have hc:css=[]:=List.length_eq_zero_iff.1 h5
    subst hc
    exact .inr ⟨l,o,c,b',[],h1,hb,.inr (.inr rfl),by rw [hw,h4],rfl,fun i ds x hd=>by simp at hd,by simp⟩
theorem Own.upd {M M':Mem} {K:Nat→Prop} (hu:Upd M M' K):∀ {t:Ty} {cs:List V} {x:t.D} {L:List Nat},Own t M cs x L→(∀ l ∈ L,¬ K l)→Own t M' cs x L
  | .int _,_,_,_,h,_=>h
  | .u8,_,_,_,h,_=>h
  | .bool,_,_,_,h,_=>h
  | .str,_,_,_,h,_=>h
  | .sl t,_,_,_,h,hk=>by
    rcases h with ⟨rfl,hL,h⟩ | ⟨l,o,c,blk,css,Ls,hne,h1,h2,h3,h4,h5,hL,h6,h7,rfl⟩
    · exact .inl ⟨rfl,hL,Zwx hu h⟩
    · refine .inr ⟨l,o,c,blk,css,Ls,hne,h1,by rw [hu.2.1 l (hk l (by simp)),h2],h3,h4,h5,hL,fun i ds x J hd hx hJ=>?_,h7,rfl⟩
      exact (h6 i ds x J hd hx hJ).upd hu (fun j hj=>hk j (List.mem_cons_of_mem _ (List.mem_flatten.2 ⟨J,List.mem_of_getElem? hJ,hj⟩)))
  | .pr a b,_,x,_,h,hk=>by
    obtain ⟨c1,c2,L1,L2,e,h1,h2,rfl⟩:=h
    exact ⟨c1,c2,L1,L2,e,h1.upd hu (fun l hl=>hk l (List.mem_append_left _ hl)),h2.upd hu (fun l hl=>hk l (List.mem_append_right _ hl)),rfl⟩
theorem Own.grow {M M':Mem} (hp:M <+: M'):∀ {t:Ty} {cs:List V} {x:t.D} {L:List Nat},Own t M cs x L→Own t M' cs x L
  | .int _,_,_,_,h=>h
  | .u8,_,_,_,h=>h
  | .bool,_,_,_,h=>h
  | .str,_,_,_,h=>h
  | .sl t,_,_,_,h=>by
    rcases h with ⟨rfl,hL,h⟩ | ⟨l,o,c,blk,css,Ls,hne,h1,h2,h3,h4,h5,hL,h6,h7,rfl⟩
    · exact .inl ⟨rfl,hL,h.mono hp⟩
    · exact .inr ⟨l,o,c,blk,css,Ls,hne,h1,Zh hp h2,h3,h4,h5,hL,fun i ds x J hd hx hJ=>(h6 i ds x J hd hx hJ).grow hp,h7,rfl⟩
  | .pr a b,_,x,_,h=>by
    obtain ⟨c1,c2,L1,L2,e,h1,h2,rfl⟩:=h
    exact ⟨c1,c2,L1,L2,e,h1.grow hp,h2.grow hp,rfl⟩
theorem Upd.pre {M0 M M':Mem} {K:Nat→Prop} (hu:Upd M M' K) (hp:M0 <+: M) (hk:∀ l,K l→M0.length≤l):M0 <+: M':=by
  have hl:M0.length≤M'.length:=by rw [hu.1]; exact hp.length_le
  rw [List.prefix_iff_eq_take]
  apply List.ext_getElem?
  intro i
  rw [List.getElem?_take]
  split
  · rename_i hi
    rw [hu.2.1 i (fun h=>by have:=hk i h; omega)]
    obtain ⟨r,rfl⟩:=hp
    rw [List.getElem?_append_left hi]
  · rename_i hi
    rw [List.getElem?_eq_none (by omega)]
theorem ZBn {M M':Mem} {v:V} (h:M'.length=M.length):gc M (some (v,M'))=some (v,M'):=by
  simp only [gc]
  split
  · rename_i h2
    rw [h2.2.eq_of_length h.symm]
  · rfl
theorem ZyT {M:Mem} {w bytes l n:Nat} {cs ys:List V} {m:Nat} (hb:M[l]?=some ⟨cs,w,2⟩) (hl:cs.length=n * w) (hm:0 < m) (h1:ys.all one=true) (hs:(n+m) * bytes≤140737488355328) (hs2:n+m≤9223372036854775807) :
    Zdq M w bytes (.slice (some ⟨l,0,none⟩) n n) m ys=some (.slice (some ⟨M.length,0,none⟩) (n+m) (n+m),M.set l ⟨cs,w,0⟩++[⟨cs++ys,w,2⟩]):=by
  unfold Zdq
  simp only
  rw [if_neg (by omega),hb]
  simp only
  rw [if_neg (by simp only [h1]; simp; omega),if_neg (by omega),if_pos trivial,if_neg (by omega),if_pos (by omega)]
  simp
end GoAm
