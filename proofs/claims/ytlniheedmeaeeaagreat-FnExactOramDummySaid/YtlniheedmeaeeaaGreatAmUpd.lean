/- Data that is owned; what changes and what stays. -/
import Derived.Test.YtlniheedmeaeeaaGreatAmAs
set_option autoImplicit false
set_option linter.unusedVariables false
set_option linter.unusedSimpArgs false
namespace GoAm
open Go
theorem Zta (cs ys:List V) (o:Nat) (y:V) (h:o+ys.length+1≤cs.length):splice (splice cs o ys) (o+ys.length) [y]=splice cs o (ys++[y]):=by
  have e1:(cs.take o++ys).length=o+ys.length:=by simp; omega
  unfold splice
  rw [← e1,List.take_left',List.append_assoc (cs.take o) ys]
  · simp only [List.length_append,List.length_cons,List.length_nil,List.append_assoc]
    congr 2
    rw [← List.append_assoc,List.drop_append,List.drop_eq_nil_of_le (by simp)]
    simp
    congr 1
    omega
  · rfl
theorem ZuS (cs ys:List V) (o:Nat) (h:o+ys.length≤cs.length):(splice cs o ys).length=cs.length:=by
  unfold splice; simp; omega
def spB (blk:Blk) (o:Nat) (ys:List V):Blk:={ blk with cells:=splice blk.cells o ys }
theorem Zrt (M:Mem) (l o:Nat) (blk:Blk) (hb:M[l]?=some blk) (h2:blk.st=2) (ys:List V) (y:V) (hy:one y=true) (ho:o+ys.length+1≤blk.cells.length):wrn (M.set l (spB blk o ys)) l (o+ys.length) [y]=some (M.set l (spB blk o (ys++[y]))):=by
  have hl:=(List.getElem?_eq_some_iff.1 hb).1
  have e0:(M.set l (spB blk o ys))[l]?=some (spB blk o ys):=by simp [hl]
  unfold wrn
  rw [e0]
  simp only
  have e2:(spB blk o ys).cells.length=blk.cells.length:=ZuS _ _ _ (by omega)
  rw [if_pos ⟨h2,by rw [e2]; simp; omega,by simp [hy]⟩,List.set_set]
  congr 2
  unfold spB
  simp only
  congr 1
  exact Zta blk.cells ys o y (by omega)
theorem ZxG (blk:Blk) (o:Nat):spB blk o []=blk:=by simp [spB,splice]
theorem Ztg {M:Mem} {l:Nat} {blk:Blk} (hb:M[l]?=some blk):M.set l blk=M:=by
  exact List.ext_getElem? fun j=>by
    rw [List.getElem?_set]
    split
    · rename_i e; subst e; split
      · exact hb.symm
      · rename_i hlt; rw [List.getElem?_eq_none (by omega)]
    · rfl
theorem Zs8 {M:Mem} {l:Nat} {blk b2:Blk} (hb:M[l]?=some blk) (hw:b2.w=blk.w):Upd M (M.set l b2) (· ∈ [l]):=by
  have hlt:=(List.getElem?_eq_some_iff.1 hb).1
  refine ⟨by simp,fun j hj=>?_,fun j b' hj=>?_⟩
  · rw [List.getElem?_set_ne (fun e=>hj (by simp [e]))]
  · by_cases e:l=j
    · subst e
      rw [hb] at hj
      cases hj
      exact ⟨b2,by simp [hlt],hw⟩
    · exact ⟨b',by rw [List.getElem?_set_ne e,hj],rfl⟩
theorem ZpP {t:Ty} (hf:∀ (M:Mem) (cs:List V) (x:t.D) (K:List Nat),Own t M cs x K→K=[]) {M:Mem} {v:V} {xs:List t.D} {L:List Nat} (h:Own (.sl t) M [v] xs L):(xs=[]∧L=[]∧Rep (.sl t) M [v] [])∨∃ l o c blk,xs ≠ []∧v=.slice (some ⟨l,o,none⟩) xs.length c∧M[l]?=some blk∧blk.st=2∧blk.w=t.w∧o+xs.length * t.w≤blk.cells.length∧L=[l]:=by
  rcases h with ⟨rfl,hL,hr⟩ | ⟨l,o,c,blk,css,Ls,hne,e,hb,h2,hw,hc,hLs,hel,hp,rfl⟩
  · exact .inl ⟨rfl,hL,hr⟩
  · right
    simp only [List.cons.injEq,and_true] at e
    refine ⟨l,o,c,blk,hne,e,hb,h2,hw,?_,?_⟩
    · have hone:∀ cs ∈ css,cs.length=t.w:=by
        intro cs hcs
        obtain ⟨i,hi,rfl⟩:=List.getElem_of_mem hcs
        exact (hel i css[i] (xs[i]'(by omega)) (Ls[i]'(by omega)) (by simp) (by simp) (by simp)).rep.len
      have:=YP hone
      have hl:=hp.length_le
      rw [this,List.length_drop,hc] at hl
      have h0:=List.length_pos_iff.2 hne
      have h1:0 < xs.length * t.w:=Nat.mul_pos h0 t.w_pos
      omega
    · have:Ls.flatten=[]:=by
        rw [List.flatten_eq_nil_iff]
        intro K hK
        obtain ⟨i,hi,rfl⟩:=List.getElem_of_mem hK
        exact hf _ _ _ _ (hel i (css[i]'(by omega)) (xs[i]'(by omega)) Ls[i] (by simp) (by simp) (by simp))
      rw [this]
theorem ZtV {t:Ty} {M:Mem} {enc:t.D→List V} {ys:List t.D} (he:∀ y ∈ ys,Own t M (enc y) y []):∀ (i:Nat) (ds:List V) (x:t.D) (K:List Nat),(ys.map enc)[i]?=some ds→ys[i]?=some x→(ys.map (fun _=>([]:List Nat)))[i]?=some K→Own t M ds x K:=by
  intro i ds x K h1 h2 h3
  rw [List.getElem?_map,h2] at h1
  rw [List.getElem?_map,h2] at h3
  simp only [Option.map_some,Option.some.injEq] at h1 h3
  subst h1; subst h3
  exact he x (List.mem_of_getElem? h2)
theorem ZnX {α:Type} (ys:List α):(ys.map (fun _=>([]:List Nat))).flatten=[]:=by
  rw [List.flatten_eq_nil_iff]
  intro K hK
  obtain ⟨_,_,rfl⟩:=List.mem_map.1 hK
  rfl
theorem ZBf {t:Ty} {M:Mem} {l o n c:Nat} {blk:Blk} {enc:t.D→List V} {ys:List t.D} (hy:ys ≠ []) (hn:ys.length=n) (hb:M[l]?=some (spB blk o (ys.map enc).flatten)) (h2:blk.st=2) (hw:blk.w=t.w) (ho:o≤blk.cells.length) (he:∀ y ∈ ys,Own t M (enc y) y []) :
    Own (.sl t) M [.slice (some ⟨l,o,none⟩) n c] ys [l]:=by
  refine .inr ⟨l,o,c,spB blk o (ys.map enc).flatten,ys.map enc,ys.map (fun _=>[]),hy,by rw [hn],hb,h2,hw,by simp,by simp,ZtV he,?_,by rw [ZnX]⟩
  unfold spB splice
  simp only
  rw [List.append_assoc,List.drop_append,List.drop_eq_nil_of_le (by simp; omega)]
  have:o - (List.take o blk.cells).length=0:=by simp; omega
  rw [this]
  exact List.prefix_append _ _
theorem ZwW {t:Ty} {M:Mem} {l c:Nat} {enc:t.D→List V} {ys:List t.D} (hb:M[l]?=some ⟨(ys.map enc).flatten,t.w,2⟩) (he:∀ y ∈ ys,Own t M (enc y) y []):∃ L,Own (.sl t) M [.slice (some ⟨l,0,none⟩) ys.length c] ys L∧∀ j ∈ L,j=l:=by
  by_cases hy:ys=[]
  · subst hy
    exact ⟨[],.inl ⟨rfl,rfl,.inr ⟨l,0,c,_,[],rfl,hb,.inr (.inr rfl),rfl,rfl,fun i ds x hd=>by simp at hd,by simp⟩⟩,by simp⟩
  · exact ⟨[l],.inr ⟨l,0,c,_,ys.map enc,ys.map (fun _=>[]),hy,rfl,hb,rfl,rfl,by simp,by simp,ZtV he,by simp,by rw [ZnX]⟩,by simp⟩
def ZfO (M M':Mem) (L:Nat→Prop):Prop:=M.length≤M'.length∧(∀ l,¬ L l→l < M.length→M'[l]?=M[l]?)∧∀ (l:Nat) (b:Blk),M[l]?=some b→∃ b':Blk,M'[l]?=some b'∧b'.w=b.w
theorem Upd.g {M M':Mem} {L:Nat→Prop} (h:Upd M M' L):ZfO M M' L:=⟨Nat.le_of_eq h.1.symm,fun l hl _=>h.2.1 l hl,h.2.2⟩
theorem ZfO.grow {M M1 M':Mem} {L:Nat→Prop} (h:ZfO M1 M' L) (hp:M <+: M1):ZfO M M' L:=by
  refine ⟨Nat.le_trans hp.length_le h.1,fun l hl hlt=>?_,fun l b hb=>h.2.2 l b (Zh hp hb)⟩
  rw [h.2.1 l hl (Nat.lt_of_lt_of_le hlt hp.length_le)]
  obtain ⟨r,rfl⟩:=hp
  rw [List.getElem?_append_left hlt]
theorem ZwG {M M':Mem} (hp:M <+: M') (L:Nat→Prop):ZfO M M' L:=by
  refine ⟨hp.length_le,fun l _ hlt=>?_,fun l b hb=>⟨b,Zh hp hb,rfl⟩⟩
  obtain ⟨r,rfl⟩:=hp
  rw [List.getElem?_append_left hlt]
theorem ZfO.trans {M M1 M2:Mem} {K L:Nat→Prop} (h:ZfO M M1 K) (h2:ZfO M1 M2 L):ZfO M M2 (fun l=>K l∨L l):=by
  refine ⟨Nat.le_trans h.1 h2.1,fun l hl hlt=>?_,fun l b hb=>?_⟩
  · rw [h2.2.1 l (fun q=>hl (.inr q)) (Nat.lt_of_lt_of_le hlt h.1),h.2.1 l (fun q=>hl (.inl q)) hlt]
  · obtain ⟨b1,q1,q2⟩:=h.2.2 l b hb
    obtain ⟨b2,q3,q4⟩:=h2.2.2 l b1 q1
    exact ⟨b2,q3,by rw [q4,q2]⟩
theorem Zu4 {t:Ty} {M M':Mem} {L:Nat→Prop} (hu:ZfO M M' L) {cs:List V} (h:Rep (.sl t) M cs []):Rep (.sl t) M' cs []:=by
  rcases h with h | ⟨l,o,c,blk,css,h1,h2,h3,h4,h5,h6,h7⟩
  · exact .inl h
  · obtain ⟨b',hb,hw⟩:=hu.2.2 l blk h2
    have hc:css=[]:=List.length_eq_zero_iff.1 h5
    subst hc
    exact .inr ⟨l,o,c,b',[],h1,hb,.inr (.inr rfl),by rw [hw,h4],rfl,fun i ds x hd=>by simp at hd,by simp⟩
theorem Own.updg {M M':Mem} {K:Nat→Prop} (hu:ZfO M M' K):∀ {t:Ty} {cs:List V} {x:t.D} {L:List Nat},Own t M cs x L→(∀ l ∈ L,¬ K l)→Own t M' cs x L
  | .int _,_,_,_,h,_=>h
  | .u8,_,_,_,h,_=>h
  | .bool,_,_,_,h,_=>h
  | .str,_,_,_,h,_=>h
  | .sl t,_,_,_,h,hk=>by
    rcases h with ⟨rfl,hL,h⟩ | ⟨l,o,c,blk,css,Ls,hne,h1,h2,h3,h4,h5,hL,h6,h7,rfl⟩
    · exact .inl ⟨rfl,hL,Zu4 hu h⟩
    · refine .inr ⟨l,o,c,blk,css,Ls,hne,h1,by rw [hu.2.1 l (hk l (by simp)) (List.getElem?_eq_some_iff.1 h2).1,h2],h3,h4,h5,hL,fun i ds x J hd hx hJ=>?_,h7,rfl⟩
      exact (h6 i ds x J hd hx hJ).updg hu (fun j hj=>hk j (List.mem_cons_of_mem _ (List.mem_flatten.2 ⟨J,List.mem_of_getElem? hJ,hj⟩)))
  | .pr a b,_,x,_,h,hk=>by
    obtain ⟨c1,c2,L1,L2,e,h1,h2,rfl⟩:=h
    exact ⟨c1,c2,L1,L2,e,h1.updg hu (fun l hl=>hk l (List.mem_append_left _ hl)),h2.updg hu (fun l hl=>hk l (List.mem_append_right _ hl)),rfl⟩
theorem ZfO.pre {M0 M M':Mem} {K:Nat→Prop} (hu:ZfO M M' K) (hp:M0 <+: M) (hk:∀ l,K l→M0.length≤l):M0 <+: M':=by
  have hl:M0.length≤M'.length:=Nat.le_trans hp.length_le hu.1
  rw [List.prefix_iff_eq_take]
  apply List.ext_getElem?
  intro i
  rw [List.getElem?_take]
  split
  · rename_i hi
    rw [hu.2.1 i (fun h=>by have:=hk i h; omega) (Nat.lt_of_lt_of_le hi hp.length_le)]
    obtain ⟨r,rfl⟩:=hp
    rw [List.getElem?_append_left hi]
  · rename_i hi
    rw [List.getElem?_eq_none (by omega)]
theorem Rep.inj:∀ {t:Ty} {M:Mem} {cs:List V} {x y:t.D},Rep t M cs x→Rep t M cs y→x=y
  | .int _,_,_,_,_,h,h2=>by
    have e:=h.1.symm.trans h2.1
    simpa using e
  | .u8,_,_,x,y,h,h2=>by
    have e:=h.symm.trans h2
    simp [Y0] at e
    exact UInt8.toNat_inj.1 (by omega)
  | .bool,_,_,_,_,h,h2=>by
    have e:=h.symm.trans h2
    simpa using e
  | .str,_,_,_,_,h,h2=>by
    have e:=h.symm.trans h2
    simpa using e
  | .sl t,M,cs,x,y,h,h2=>by
    rcases h.slice with ⟨e,hx⟩ | ⟨l,o,c,e⟩
    · rcases h2.slice with ⟨e2,hy⟩ | ⟨l2,o2,c2,e2⟩
      · rw [hx,hy]
      · rw [e] at e2; simp at e2
    · rcases h2.slice with ⟨e2,hy⟩ | ⟨l2,o2,c2,e2⟩
      · rw [e] at e2; simp at e2
      · rw [e] at e2 h
        simp only [List.cons.injEq,Value.slice.injEq,Option.some.injEq,Addr.mk.injEq,and_true] at e2
        obtain ⟨⟨rfl,rfl⟩,hl,rfl⟩:=e2
        rw [e] at h2
        apply List.ext_getElem hl
        intro i h3 h4
        obtain ⟨d1,r1,q1⟩:=h.elem (i:=i) (x:=x[i]) (by simp [h3])
        obtain ⟨d2,r2,q2⟩:=h2.elem (i:=i) (x:=y[i]) (by simp [h4])
        rw [r1] at r2
        cases r2
        exact q1.inj q2
  | .pr a b,_,_,x,y,h,h2=>by
    obtain ⟨c1,c2,e,p1,p2⟩:=h
    obtain ⟨d1,d2,e2,q1,q2⟩:=h2
    rw [e] at e2
    obtain ⟨rfl,rfl⟩:=List.append_inj e2 (by rw [p1.len,q1.len])
    exact Prod.ext (p1.inj q1) (p2.inj q2)
theorem ZCd {M M':Mem} {K:Nat→Prop} (hu:ZfO M M' K) {t:Ty} {cs:List V} {x y:t.D} {L:List Nat} (h:Own t M cs x L) (o:Own t M' cs y L) (v:V):∃ M2,gc M (some (v,M'))=some (v,M2)∧ZfO M M2 K∧Own t M2 cs y L:=by
  by_cases hp:M <+: M'
  · by_cases hs:ZqG v=true
    · refine ⟨M,?_,ZwG (List.prefix_refl _) _,?_⟩
      · simp only [gc]
        exact if_pos ⟨hs,hp⟩
      · have e:=Rep.inj (h.rep.mono hp) o.rep
        rw [← e]
        exact h
    · exact ⟨M',by simp only [gc]; exact if_neg (fun q=>hs q.1),hu,o⟩
  · exact ⟨M',by simp only [gc]; exact if_neg (fun q=>hp q.2),hu,o⟩
theorem Zrv:∀ {t:Ty} {M:Mem} {cs:List V} {x:t.D} {L:List Nat},Own t M cs x L→∀ l ∈ L,l < M.length
  | .int _,_,_,_,_,h=>by rw [h.2]; simp
  | .u8,_,_,_,_,h=>by rw [h.2]; simp
  | .bool,_,_,_,_,h=>by rw [h.2]; simp
  | .str,_,_,_,_,h=>by rw [h.2]; simp
  | .sl t,_,_,_,_,h=>by
    rcases h with ⟨_,rfl,_⟩ | ⟨l,o,c,blk,css,Ls,hne,h1,h2,h3,h4,h5,hL,h6,h7,rfl⟩
    · simp
    · intro q hq
      rcases List.mem_cons.1 hq with rfl | hq
      · exact (List.getElem?_eq_some_iff.1 h2).1
      · obtain ⟨K,hK,hqK⟩:=List.mem_flatten.1 hq
        obtain ⟨i,hi,rfl⟩:=List.getElem_of_mem hK
        exact Zrv (h6 i (css[i]'(by omega)) _ Ls[i] (by simp) (by rw [List.getElem?_eq_getElem (by omega)]) (by simp)) q hqK
  | .pr a b,_,_,x,_,h=>by
    obtain ⟨c1,c2,L1,L2,_,h1,h2,rfl⟩:=h
    intro q hq
    rcases List.mem_append.1 hq with hq | hq
    · exact Zrv h1 q hq
    · exact Zrv h2 q hq
end GoAm
