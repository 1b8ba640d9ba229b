/- What the functions do that the law reaches; and the law. -/
import Derived.Test.YtlniheedmeaeeaaGreatOramDummyl2
set_option autoImplicit false
set_option linter.unusedVariables false
set_option linter.unusedSimpArgs false
namespace GoAm
open Go
theorem Zoj {M M':Mem} {a:Option Addr} {n c:Nat} {xs:List Za.D} {K:List Nat} (h:Own (.sl Za) M [.slice a n c] xs K) (hk:∀ l ∈ K,M'[l]?=M[l]?) (ha:∀ l o,a=some ⟨l,o,none⟩→M'[l]?=M[l]?) (hd:∀ x ∈ xs,List.length (α:=UInt8) x.2.2 ≠ 0):Own (.sl Za) M' [.slice a n c] xs K:=by
  rcases h with ⟨e,eK,hr⟩ | ⟨l,o,c',blk,css,Ls,hne,e,hb,h1,h2,h3,h4,hel,hpre,hL⟩
  · subst e
    refine .inl ⟨rfl,eK,?_⟩
    rcases hr with hr | ⟨l,o,c',blk,css,e1,hb,hrest⟩
    · exact .inl hr
    · obtain ⟨t1,t2,t3,_,t5⟩:=hrest
      refine .inr ⟨l,o,c',blk,css,e1,?_,t1,t2,t3,fun _ _ _ _ hh=>by simp at hh,t5⟩
      simp only [List.cons.injEq,Value.slice.injEq,and_true] at e1
      rw [ha l o e1.1]
      exact hb
  · refine .inr ⟨l,o,c',blk,css,Ls,hne,e,?_,h1,h2,h3,h4,fun i ds x K' q1 q2 q3=>?_,hpre,hL⟩
    · rw [hk l (by rw [hL]; simp)]
      exact hb
    · have hx:=hd x (List.mem_of_getElem? q2)
      have hK':∀ j ∈ K',j ∈ K:=fun j hj=>by
        rw [hL]
        exact List.mem_cons_of_mem _ (List.mem_flatten.2 ⟨K',List.mem_of_getElem? q3,hj⟩)
      obtain ⟨c1,c2,L1,L2,e1,o1,⟨c3,c4,L3,L4,e2,o2,o3,e3⟩,e4⟩:=hel i ds x K' q1 q2 q3
      refine ⟨c1,c2,L1,L2,e1,o1,⟨c3,c4,L3,L4,e2,o2,?_,e3⟩,e4⟩
      rcases o3 with ⟨e5,_⟩ | ⟨l2,o4,c5,blk2,css2,Ls2,hne2,e6,hb2,t1,t2,t3,t4,t5,t6,t7⟩
      · exact absurd (by rw [e5]; rfl) hx
      · refine .inr ⟨l2,o4,c5,blk2,css2,Ls2,hne2,e6,?_,t1,t2,t3,t4,t5,t6,t7⟩
        rw [hk l2 (hK' l2 (by rw [e4,e3,t7]; simp))]
        exact hb2
def AcV (M:Mem) (p m w:Nat) (b sz:Int) (uC:V) (cells':List Zi.D) (log':List Zf.D) (rest:List Za.D) (code:Int) (W:List Nat) (r:V × Mem):Prop:=r.1=.tuple #[.slice none 0 0,.int .i64 code]∧JQ M r.2 W ∧
  (code=0→∃ uT uS L0 L1 K,r.2[p]?=some ⟨[.int .i64 m,.int .i64 w,.int .i64 b,.int .i64 sz,uC,uT,uS],1,2⟩∧Gr (.sl Zi) r.2 [uC] cells' L0∧Gr (.sl Zf) r.2 [uT] log' L1∧Own (.sl Za) r.2 [uS] rest K∧((L0++L1)++K).Nodup∧p ∉ (L0++L1)++K∧∀ j ∈ (L0++L1)++K,(j ∈ W∨M.length≤j)∧j < r.2.length)
theorem ZqW {M X:Mem} (h:M <+: X) (W:List Nat):JQ M X W:=⟨h.length_le,fun j hj _=>by
  obtain ⟨R,rfl⟩:=h
  exact List.getElem?_append_left hj⟩
theorem ZF0 {M X:Mem} {p m w:Nat} {b sz:Int} {uC:V} {cells':List Zi.D} {log':List Zf.D} {rest:List Za.D} {code:Int} {W:List Nat} (hc:code ≠ 0) (h:M <+: X):AcV M p m w b sz uC cells' log' rest code W (.tuple #[.slice none 0 0,.int .i64 code],X):=⟨rfl,ZqW h W,fun e=>absurd e hc⟩
theorem Zqt {X Y Z:Mem} {w:List Nat} (h:JQ X Y w) (h2:JQ Y Z w):JQ X Z w:=⟨Nat.le_trans h.1 h2.1,fun j hj hn=>by rw [h2.2 j (Nat.lt_of_lt_of_le hj h.1) hn,h.2 j hj hn]⟩
theorem ZBw {X X':Mem} {v:V} {P:V × Mem→Prop} (h1:P (v,X)) (h2:P (v,X')):Sat (gc X (some (v,X'))) P:=by
  unfold gc
  simp only
  split
  · exact Zcw h1
  · exact Zcw h2
set_option maxRecDepth 20000 in
set_option maxHeartbeats 8000000 in
theorem ZoD (M:Mem) (p m a w:Nat) (b sz:Int) (uC uT uS:V) (cells:List Zi.D) (log:List Zf.D) (st:List Za.D) (L0 L1 L2:List Nat) (hb:M[p]?=some ⟨[.int .i64 m,.int .i64 w,.int .i64 b,.int .i64 sz,uC,uT,uS],1,2⟩) (g0:Gr (.sl Zi) M [uC] cells L0) (g1:Gr (.sl Zf) M [uT] log L1) (g2:Gr (.sl Za) M [uS] st L2) (nd:(L0++L1).Nodup) (hp:p ∉ L0++L1) (hm:m≤6) (ha:a < 2 ^ m) (hw:1≤w∧w≤200) (hlen:cells.length+1=2 * 2 ^ m) (hok:∀ c ∈ cells,ZfD m w c=true) (hsz:∀ c ∈ cells,List.length (α:=UInt8) c≤1048576) (hst:Z4 m w st=true) (hsl:st.length≤64) (hlg:log.length≤6000) (hwf:(Lit.int .i64 sz).wf=true) (hbz:Zcz st)
    (xs:List Za.D) (hxs:xs=Zl4 w cells (2 ^ m+a) m st (m+1)) (plan:List ZB.D) (hplan:plan=(ZS m a xs (m+1)).1) (rest:List Za.D) (hrest:rest=(ZS m a xs (m+1)).2) (out:List Zi.D × List Zf.D) (hout:out=wrS w sz (2 ^ m+a) m xs plan cells (lgR sz (2 ^ m+a) m log (m+1)) (m+1)) :
    Sat (Zb T0 Zac [.pointer (some ⟨p,0,none⟩),.int .i64 a,.int .i64 (-1),.int .i64 0,.int .i64 0,.slice none 0 0] M) (AcV M p m w b sz uC out.1 out.2 rest (acC log m rest b) (p :: (L0++L1))):=by
  have hpM:=ZI hb
  obtain ⟨hxb,hxl⟩:=ZtH ha hlen hok hst (m+1) (Nat.le_refl _)
  rw [← hxs] at hxb hxl
  have r0:rd1 M p 0=some (.int .i64 m):=Jw hb rfl
  have hPN:=ZmQ M m a hm ha
  rw [Zc Zk0]; unfold ZdW ZgO; simp [apA,r0]
  generalize hx:Zb T0 Zbj _ _=xhx
  obtain ⟨_,X1,rfl,av,rfl,p1,gP⟩:=ZQ hx hPN
  clear hx
  simp only at p1 gP
  rcases gP.2 with ⟨_,h0⟩ | ⟨lP,hlP,e,hPb⟩
  · omega
  cases e
  have hb1:=Zh p1 hb
  obtain ⟨aT,hT⟩:=g1.shape
  have r5:rd1 X1 p 5=some (.slice aT log.length log.length):=by rw [← hT]; exact Jw hb1 rfl
  have w1:IntKind.i64.wrap (2 * ((m:Int)+1))=2 * ((m:Int)+1):=Zd (by omega) (by omega)
  have w2:IntKind.i64.wrap ((log.length:Int)+2 * ((m:Int)+1))=(log.length:Int)+2 * ((m:Int)+1):=Zd (by omega) (by omega)
  by_cases hf:6000 < log.length+2 * (m+1)
  · have hc:acC log m rest b=4:=by unfold acC; rw [if_pos hf]
    have hf':(6000:Int) < (log.length:Int)+2 * ((m:Int)+1):=by omega
    rw [hc]
    simp [apA,r5,w1,w2,hf']
    exact ZBw (ZF0 (by decide) (List.prefix_refl _)) (ZF0 (by decide) p1)
  have hf':¬ (6000:Int) < (log.length:Int)+2 * ((m:Int)+1):=by omega
  have r6:rd1 X1 p 6=some uS:=Jw hb1 rfl
  have hCB:=Zdw X1 uS st (g2.rep.mono p1) hbz
  obtain ⟨aS,hS⟩:=g2.shape
  simp [apA,r5,w1,w2,hf',r6]
  generalize hx:Zb T0 Yt _ _=xhx
  obtain ⟨vL,X2,rfl,LL,p2,gL,nL,kL⟩:=ZQ hx hCB
  clear hx
  simp only at p2 gL
  obtain ⟨aC,hC⟩:=g0.shape
  have gC0:=g0.grow p1
  rw [hC] at gC0 hb1
  have r4:rd1 X1 p 4=some (.slice aC cells.length cells.length):=Jw hb1 rfl
  have r01:=Qt p1 r0
  have r11:rd1 X1 p 1=some (.int .i64 (w:Int)):=Jw hb1 rfl
  obtain ⟨vL',X3,hO,e⟩:=ZuP X1 p m a (w:Int) (.int .i64 a) (.int .i64 (-1)) (.int .i64 0) (.int .i64 0) (.slice none 0 0) (.slice (some ⟨lP,0,none⟩) (m+1) (m+1)) lP aC cells.length cells gC0.rep hm ha (fun i hi=>ZnE hPb hi) r01 r11 r4 hlen hsz hok st vL X2 ⟨p2,⟨LL,gL,nL,kL⟩,Zgh hst,ZjI hst⟩
  rw [← hxs] at hO
  simp only [FaO] at e
  push_cast at e
  obtain ⟨p3,⟨LX,gX,nX,kX⟩,hlt,hrg⟩:=hO
  have hxl2:xs.length≤128:=by omega
  have hLf:ZzN m xs:=fun x hx=>by
    have:=hxb x hx
    unfold ZbS at this
    simp only [Bool.and_eq_true] at this
    exact ZfS this.2.2.1
  have hEv:=ZqL X3 vL' xs LX m a gX nX hm ha hLf hxl2 (ZGO hlt)
  rw [← hplan,← hrest] at hEv
  obtain ⟨aX,hX⟩:=gX.shape
  subst hX
  have pM3:=p1.trans p3
  have r03:=Qt p3 r01
  simp [apA,e]
  rw [Zfy]; unfold Zan; simp [apA,r03]
  generalize hx:Zb T0 J9 _ _=xhx
  obtain ⟨_,X4,rfl,vp,aR,cR,Lp,K,rfl,p4,gPl,kPl,oR,nK,kK,kR⟩:=ZQ hx hEv
  clear hx
  simp only at p4 gPl oR kK
  obtain ⟨aP,hPl⟩:=gPl.shape
  subst hPl
  have pM4:=pM3.trans p4
  have p14:=p3.trans p4
  have hb4:=Zh pM4 hb
  have r24:rd1 X4 p 2=some (.int .i64 b):=Jw hb4 rfl
  by_cases hbd:b < (rest.length:Int)
  · have hc:acC log m rest b=3:=by unfold acC; rw [if_neg hf,if_pos hbd]
    rw [hc]
    simp [apA,r24,hbd]
    exact ZBw (ZF0 (by decide) (List.prefix_refl _)) (ZF0 (by decide) pM4)
  have hc:acC log m rest b=0:=by unfold acC; rw [if_neg hf,if_neg hbd]
  rw [hc]
  have hM1:=p1.length_le
  have h14:=p14.length_le
  have hW:∀ j ∈ p :: (L0++L1),j < M.length:=fun j hj=>by
    rcases List.mem_cons.1 hj with rfl | hj
    · exact hpM
    · rcases List.mem_append.1 hj with hj | hj
      · exact g0.lt j hj
      · exact g1.lt j hj
  have hO0:OmI X4 (p :: (L0++L1)) p m (w:Int) b sz uC uS cells log X4:=⟨uT,L0,L1,hb4,g0.grow pM4,g1.grow pM4,nd,hp,Zsm _ _,fun j hj=>.inl hj⟩
  have hlPW:lP ∉ p :: (L0++L1):=fun hm=>by have:=hW lP hm; omega
  have hPb4:=Zh p14 hPb
  obtain ⟨X5,hO5,e5⟩:=Zvk X4 (p :: (L0++L1)) p m a m (w:Int) b sz uC uS cells (.slice (some ⟨lP,0,none⟩) (m+1) (m+1)) (.slice aX xs.length xs.length) (.slice none 0 0) (.slice aP plan.length plan.length) (.slice aR rest.length cR) lP hm ha hPb4 hlPW hlen hwf log (by omega) X4 hO0
  simp only [FaR] at e5
  push_cast at e5
  have hpm:=Zp1 m a xs (m+1)
  rw [← hplan] at hpm
  have hsub:∀ j:Nat,j≤m→(Zgp xs (j:Int) plan).length≤4∧Zys w (Zgp xs (j:Int) plan):=fun j hj=>by
    obtain ⟨s1,s2⟩:=Zr8 (m:=m) (leaf:=a) hlt hj
    rw [← hplan] at s1 s2
    refine ⟨s2,fun b hb=>?_⟩
    have:=hxb b (s1.subset hb)
    unfold ZbS ZBh at this
    simp only [Bool.and_eq_true,decide_eq_true_eq] at this
    have hl2:=ZfS this.2.2.1
    have hp6:2 ^ m≤2 ^ 6:=Nat.pow_le_pow_right (by omega) hm
    refine ⟨this.2.1,?_,by have:=this.2.2.2; omega⟩
    have aux:∀ z:Int,z=((Int.toNat z:Nat):Int)→Int.toNat z < 2 ^ m→0≤z∧z≤255:=fun z h1 h2=>by omega
    exact aux _ hl2.1 hl2.2
  obtain ⟨X6,hO6,e6⟩:=Zuo X4 (p :: (L0++L1)) p m a w b sz uC uS lP hm ha hw.2 hPb4 hlPW hwf (.slice none 0 0) (.slice aR rest.length cR) aX xs.length xs LX (gX.grow p4) (fun j hj hm=>by have:=kX j hj; have:=hW j hm; omega) (by omega) aP plan.length plan Lp gPl (fun j hj hm=>by have:=kPl j hj; have:=hW j hm; have:=p3.length_le; omega) (by omega) hpm.2 hsub cells _ hlen (by rw [Zox]; omega) X5 hO5
  rw [← hout] at hO6
  try simp only [FaW] at e6
  obtain ⟨uT5,_,_,hb5,_⟩:=hO5
  have r05:rd1 X5 p 0=some (.int .i64 m):=Jw hb5 rfl
  obtain ⟨uT6,L0',L1',hb6,gC6,gT6,nd6,hp6,ag6,hV6⟩:=hO6
  have hwr:wrn X6 p 6 [.slice aR rest.length cR]=some (X6.set p ⟨[.int .i64 m,.int .i64 w,.int .i64 b,.int .i64 sz,uC,uT6,.slice aR rest.length cR],1,2⟩):=by
    rw [ZdU hb6 rfl (by simp) rfl]
    rfl
  simp [apA,r24,hbd,e5]
  rw [Zfu]; unfold Zao; simp [apA,r05,e6]
  rw [Zfw]; unfold Zam; simp [apA,hwr]
  have agW:JQ M (X6.set p ⟨[.int .i64 m,.int .i64 w,.int .i64 b,.int .i64 sz,uC,uT6,.slice aR rest.length cR],1,2⟩) (p :: (L0++L1)):=Zqt (ZqW pM4 _) (Zqt ag6 ⟨by simp,fun j _ hn=>Je (fun e=>hn (by rw [← e]; exact List.mem_cons_self ..))⟩)
  have ag46:JQ X4 (X6.set p ⟨[.int .i64 m,.int .i64 w,.int .i64 b,.int .i64 sz,uC,uT6,.slice aR rest.length cR],1,2⟩) (p :: (L0++L1)):=Zqt ag6 ⟨by simp,fun j _ hn=>Je (fun e=>hn (by rw [← e]; exact List.mem_cons_self ..))⟩
  have hKW:∀ j ∈ K,j ∉ p :: (L0++L1)∧M.length≤j∧j < X4.length:=fun j hj=>by
    have h3l:=p3.length_le
    have hge:M.length≤j:=by
      rcases (kK j hj).1 with h | h
      · have:=kX j h; omega
      · omega
    exact ⟨fun hm=>by have:=hW j hm; omega,hge,(kK j hj).2⟩
  have hO6:Own (.sl Za) (X6.set p ⟨[.int .i64 m,.int .i64 w,.int .i64 b,.int .i64 sz,uC,uT6,.slice aR rest.length cR],1,2⟩) [.slice aR rest.length cR] rest K:=by
    refine Zoj oR (fun l hl=>ag46.2 l (hKW l hl).2.2 (hKW l hl).1) (fun l o ea=>?_) (fun x hx=>?_)
    · have h1:=kR l o ea
      have h3l:=p3.length_le
      have hlX:l < X4.length:=by
        obtain ⟨blk,hbk,_⟩:=Zij (by rw [ea] at oR; exact oR.rep)
        exact ZI hbk
      exact ag46.2 l hlX (fun hm=>by have:=hW l hm; omega)
    · have hsubR:rest.Sublist xs:=by rw [hrest,Zih]; exact Zlf _ _
      have:=hxb x (hsubR.subset hx)
      unfold ZbS at this
      simp only [Bool.and_eq_true,decide_eq_true_eq] at this
      omega
  have hpX6:=ZI hb6
  have hcl:∀ j ∈ L0'++L1',(j ∈ p :: (L0++L1)∨X4.length≤j)∧j < X6.length:=fun j hj=>⟨hV6 j (List.mem_cons_of_mem _ hj),by
    rcases List.mem_append.1 hj with h | h
    · exact gC6.lt j h
    · exact gT6.lt j h⟩
  refine Zcw ⟨rfl,agW,fun _=>⟨uT6,_,L0',L1',K,ZbN hb6 _,gC6.set _ (fun h=>hp6 (List.mem_append_left _ h)),gT6.set _ (fun h=>hp6 (List.mem_append_right _ h)),hO6,?_,?_,fun j hj=>?_⟩⟩
  · refine List.nodup_append.2 ⟨nd6,nK,fun x hx y hy e=>?_⟩
    subst e
    obtain ⟨k1,k2,k3⟩:=hKW x hy
    rcases (hcl x hx).1 with h | h
    · exact k1 h
    · omega
  · intro hm
    rcases List.mem_append.1 hm with h | h
    · exact hp6 h
    · exact (hKW p h).1 (List.mem_cons_self ..)
  · rw [List.length_set]
    rcases List.mem_append.1 hj with h | h
    · obtain ⟨h1,h2⟩:=hcl j h
      refine ⟨?_,h2⟩
      rcases h1 with h1 | h1
      · exact .inl h1
      · right; have:=pM4.length_le; omega
    · obtain ⟨k1,k2,k3⟩:=hKW j h
      exact ⟨.inr k2,by have:=ag6.1; omega⟩
theorem ZoV (M:Mem) (v:V) (xs:List Za.D) (l w:Int) (h:Rep (.sl Za) M [v] xs) (hn:xs.length≤1048576):Zb T0 ZeA [v,.int .i64 l,.int .i64 w] M=some (.bool (ZeV l w xs),M):=by
  have e1:=ZiF M v xs l w h hn
  obtain ⟨a,c,rfl⟩:=h.slen
  unfold ZeV
  by_cases hs:xs.length≤128
  · have hs':(xs.length:Int)≤128:=by omega
    rw [Zc Zkx]; unfold Zey Zg9; simp [apA,e1,hs,hs']
  · have hs':¬ (xs.length:Int)≤128:=by omega
    rw [Zc Zkx]; unfold Zey Zg9; simp [apA,e1,hs,hs']
abbrev FoO (p:Nat) (v:V) (aC:Option Addr) (nC cC:Nat) (i:Nat):List V:=[O,.pointer (some ⟨p,0,none⟩),O,O,v,O,O,O,O,O,O,O,O,O,O,O,O,O,O,O,O,O,O,O,O,O,O,O,O,O,O,O,O,O,O,O,O,O,O,O,O,O,O,O,O,O,O,O,O,O,O,O,O,O,O,O,O,O,O,O,O,O,O,O,O,O,O,O,O,O,O,O,O,O,O,O,.slice aC nC cC,.int .i64 nC,.int .i64 i,O,O,O,O,O,O,O,O,O,O,O,O,O,O,O,O,O,O,O,O,O,O,O,O,O,O,O,O,O,O,O,O,O,O,O,O,O,O,O,O,O,O,O]
def ZGw (p:Nat) (aC:Option Addr) (nC cC:Nat) (i:Nat) (v:V):List V:=FoO p v aC nC cC i
def nxO (m:Nat) (w:Int) (nd:Nat) (c:Zi.D) (all:List Za.D):Option (List Za.D):=if ZfD m w c=true then inO m nd all (ndB (Int.toNat w) c) else none
def RtF (M:Mem) (r:R):Prop:=∃ fr X',r=some (.ret,fr,X')∧Zmd fr X' [.tmp 2,.tmp 3]=some (.tuple #[.slice none 0 0,.bool false])∧M <+: X'
def StO (M:Mem) (Lp:List V→Mem→R) (F:V→List V):Option (List Za.D)→R→Prop
  | some a,r=>∃ v' X',OuI M a v' X'∧r=Lp (F v') X'
  | none,r=>RtF M r
abbrev FoB (p:Nat) (v:V) (nd0:Nat) (a76 n77 i78:V) (l2 n:Nat) (i:Nat):List V:=[O,.pointer (some ⟨p,0,none⟩),O,O,v,.int .i64 nd0,O,O,O,O,O,O,O,O,O,O,O,O,O,O,O,O,O,O,O,O,O,O,O,O,O,O,O,O,O,O,O,O,O,O,O,O,O,O,O,O,O,O,O,O,O,O,O,O,O,O,O,O,O,O,O,O,O,O,O,O,O,O,O,O,O,O,O,O,O,O,a76,n77,i78,O,O,O,O,O,O,O,O,O,O,O,O,O,O,O,O,.slice (some ⟨l2,0,none⟩) n n,.int .i64 n,.int .i64 i,O,O,O,O,O,O,O,O,O,O,O,O,O,O,O,O,O,O,O,O,O,O,O,O]
theorem Zqn (M:Mem) (m node leaf:Nat) (hm:m≤6) (hl:leaf < 2 ^ m) (h1:1≤node) (h2:node < 2 * 2 ^ m):Zb T0 Zcu [.int .i64 m,.int .i64 node,.int .i64 leaf] M=some (.bool (onP m node leaf),M):=by
  have hp:2 ^ m≤2 ^ 6:=Nat.pow_le_pow_right (by omega) hm
  have hb:ZgA node≤m+1:=ZjC.2 (by rw [Nat.pow_succ]; omega)
  have hb1:=ZtE (x:=node) (by omega)
  have e1:IntKind.u64.wrap (node:Int)=node:=Zp9 (by omega) (by omega)
  have e2:=fun M=>Zi7 M node (by omega)
  have e3:IntKind.i64.wrap (((ZgA node:Nat):Int) - 1)=((ZgA node - 1:Nat):Int):=by rw [Zd (by omega) (by omega)]; omega
  have e4:=fun M=>Zlg M m leaf (ZgA node - 1) hm hl (by omega)
  unfold onP
  generalize (2 ^ m+leaf) / 2 ^ (m - (ZgA node - 1))=q at *
  by_cases hq:q=node
  · have hq':(q:Int)=(node:Int):=by omega
    rw [decide_eq_true hq]
    rw [Zc Zk3]; unfold ZfU Zit; simp [apA,e1,e2,e3,e4,hq,hq']
  · have hq':¬ (q:Int)=(node:Int):=by omega
    rw [decide_eq_false hq]
    rw [Zc Zk3]; unfold ZfU Zit; simp [apA,e1,e2,e3,e4,hq,hq']
theorem Zmo (M:Mem) (v:V) (xs:List Za.D) (id:Int) (h:Rep (.sl Za) M [v] xs) (hn:xs.length≤1048576):∃ r:Int,Zb T0 Qc [v,.int .i64 id] M=some (.int .i64 r,M)∧decide (0≤r)=ZaP id xs∧(0≤r∨r=-1):=by
  obtain ⟨a,c,rfl⟩:=h.slen
  have hm:=h.mono (List.prefix_append M [(⟨[.int .i64 id],1,2⟩:Blk)])
  have hp:rd1 (M++[(⟨[.int .i64 id],1,2⟩:Blk)]) M.length 0=some (.int .i64 id):=by simp [rd1]
  cases hh:ZaP id xs with
  | false =>
    have hlt:∀ k (hk:k < xs.length),k < xs.length→xs[k].1 ≠ id:=fun k hk _ e=>by
      have:ZaP id xs=true:=List.any_eq_true.2 ⟨xs[k],List.getElem_mem hk,decide_eq_true e⟩
      rw [hh] at this
      cases this
    have e:=Zyd _ M.length id a c xs hm hp hn xs.length (Nat.le_refl _) hlt
    simp only [Int.natCast_zero,Int.ofNat_zero] at e
    have e2:Zb T0 Zn [.slice a xs.length c,.func (.func Z6) #[] #[.pointer (some ⟨M.length,0,none⟩)]] (M++[(⟨[.int .i64 id],1,2⟩:Blk)])=some (.int .i64 (-1),M++[(⟨[.int .i64 id],1,2⟩:Blk)]):=by
      rw [Zc ZH]; unfold Zt Zz; simp [apA,e]
      rw [Zr]; unfold Zm; simp [apA]
    refine ⟨-1,?_,by simp,.inr rfl⟩
    rw [Zc Zev]; unfold ZaA Zcj; simp [apA,e2]
  | true =>
    obtain ⟨b,hb1,hb2⟩:=List.any_eq_true.1 hh
    obtain ⟨i0,hi0,rfl⟩:=List.getElem_of_mem hb1
    obtain ⟨i,hi,hq,hlt⟩:=Zqi (p:=fun k=>match xs[k]? with | some b=>decide (b.1=id) | none=>false) (n:=xs.length) ⟨i0,hi0,by rw [List.getElem?_eq_getElem hi0]; exact hb2⟩
    rw [List.getElem?_eq_getElem hi] at hq
    have hq:xs[i].1=id:=of_decide_eq_true hq
    have hlt2:∀ k (hk:k < xs.length),k < i→xs[k].1 ≠ id:=fun k hk hki e=>by
      have:=hlt k hki
      rw [List.getElem?_eq_getElem hk] at this
      exact absurd e (of_decide_eq_false this)
    have e:=Zyd _ M.length id a c xs hm hp hn i (by omega) hlt2
    simp only [Int.natCast_zero,Int.ofNat_zero] at e
    obtain ⟨l,o,u,rfl,_,_,_,hrd,_,_,qu,_⟩:=Y5 hm hi
    generalize xs[i]=b at *
    obtain ⟨b1,b2,b3⟩:=b
    simp only at *
    obtain ⟨ua,uc,rfl⟩:=qu.slen
    have s1:=Zde _ M.length id b1 b2 ua (List.length (α:=UInt8) b3) uc hp
    simp only [tgB] at s1
    rw [decide_eq_true hq] at s1
    have e2:Zb T0 Zn [.slice (some ⟨l,o,none⟩) xs.length c,.func (.func Z6) #[] #[.pointer (some ⟨M.length,0,none⟩)]] (M++[(⟨[.int .i64 id],1,2⟩:Blk)])=some (.int .i64 (i:Int),M++[(⟨[.int .i64 id],1,2⟩:Blk)]):=by
      rw [Zc ZH]; unfold Zt Zz; simp [apA,e]
      rw [Zr]; unfold Zm; simp [apA,hi,hrd,s1]
    refine ⟨i,?_,by simp,.inl (by omega)⟩
    rw [Zc Zev]; unfold ZaA Zcj; simp [apA,e2]
set_option maxHeartbeats 2000000 in
theorem Zpd (M:Mem) (p m nd0:Nat) (a76 n77 i78:V) (bs:List Za.D) (l2:Nat) (css:List (List V)) (Ls:List (List Nat)) (i:Nat) (hi:i < bs.length) (hp:rd1 M p 0=some (.int .i64 (m:Int))) (hm:m≤6) (hnd:nd0+1 < 2 * 2 ^ m) (h1:css.length=bs.length) (h2:Ls.length=bs.length) (hw:∀ c ∈ css,c.length=3)
    (hbs:∀ b ∈ bs,(0≤b.1∧b.1≤255)∧b.2.1=((Int.toNat b.2.1:Nat):Int)∧Int.toNat b.2.1 < 2 ^ m) (hnl:bs.length≤4) (hnd2:Ls.flatten.Nodup) (hj:∀ (a b:Nat) (A B:List Nat),a ≠ b→Ls[a]?=some A→Ls[b]?=some B→∀ j ∈ A,j ∉ B)
    (all:List Za.D) (hal:all.length≤5000) (v:V) (X:Mem) (h:InI M bs l2 css Ls i all v X) :
    ((onP m (nd0+1) (Int.toNat bs[i].2.1) && !(ZaP bs[i].1 all))=true∧∃ v' X',InI M bs l2 css Ls (i+1) (Zj7 bs[i] all) v' X'∧lp (Zb T0) ZX Yg (FoB p v nd0 a76 n77 i78 l2 bs.length i) X=lp (Zb T0) ZX Yg (FoB p v' nd0 a76 n77 i78 l2 bs.length (i+1)) X') ∨
    ((onP m (nd0+1) (Int.toNat bs[i].2.1) && !(ZaP bs[i].1 all))=false∧RtF M (lp (Zb T0) ZX Yg (FoB p v nd0 a76 n77 i78 l2 bs.length i) X)):=by
  obtain ⟨L,g,nd,hge,hdis⟩:=h.gr
  have hp6:2 ^ m≤2 ^ 6:=Nat.pow_le_pow_right (by omega) hm
  have hki:=hbs _ (List.getElem_mem hi)
  have hds:=h.el i (css[i]'(by omega)) bs[i] (Ls[i]'(by omega)) (Nat.le_refl _) (by simp) (by simp) (by simp)
  have hfl:css.flatten.length=bs.length * 3:=by rw [YP hw,h1]
  have hrd:rdn X l2 (i * 3) 3=some (css[i]'(by omega)):=by
    have:=ZkW (w:=3) css i (by omega) [] hw
    simp only [rdn,h.hb]
    rw [List.append_nil] at this
    rw [if_pos (by refine ⟨by simp,by omega⟩),this]
  obtain ⟨gb,gk⟩:=hds
  obtain ⟨u,hu,w0,w1,qu⟩:=YE gb.rep
  obtain ⟨ua,uc,rfl⟩:=qu.slen
  have hon:∀ Y,Zb T0 Zcu [.int .i64 m,.int .i64 ((nd0:Int)+1),.int .i64 (Int.toNat bs[i].2.1:Int)] Y=some (.bool (onP m (nd0+1) (Int.toNat bs[i].2.1)),Y):=fun Y=>Zqn Y m (nd0+1) (Int.toNat bs[i].2.1) hm (by exact hki.2.2) (by omega) hnd
  obtain ⟨a,rfl⟩:=g.shape
  have e6:IntKind.i64.wrap ((i:Int)+1)=i+1:=Zd (by omega) (by omega)
  have e7:IntKind.i64.wrap ((nd0:Int)+1)=nd0+1:=Zd (by omega) (by omega)
  have hp':=fun N:Mem=>Qt (h.pre.trans (List.prefix_append X N)) hp
  rw [hu] at hrd gb
  have hlf:=hki.2.1
  have hidR:=hki.1
  have hnbi:=hdis
  generalize hbi:bs[i]=b at *
  obtain ⟨b1,b2,b3⟩:=b
  simp only at hlf hidR hon hrd gb w0 w1 qu ⊢
  generalize Int.toNat b2=lf at *
  subst hlf
  have hxp:X <+: X++[(⟨[.int .i64 b1,.int .i64 (lf:Int),.slice ua (List.length (α:=UInt8) b3) uc],1,2⟩:Blk)]:=List.prefix_append _ _
  obtain ⟨r,hr1,hr2,hr3⟩:=Zmo _ _ all b1 (g.grow hxp).rep (by omega)
  have hpr:rdn (X++[(⟨[.int .i64 b1,.int .i64 (lf:Int),.slice ua (List.length (α:=UInt8) b3) uc],1,2⟩:Blk)]) X.length 0 3=some [.int .i64 b1,.int .i64 (lf:Int),.slice ua (List.length (α:=UInt8) b3) uc]:=Qf (by simp) rfl
  cases h3:onP m (nd0+1) lf with
  | false =>
    rw [h3] at hon
    right
    refine ⟨rfl,?_⟩
    rw [JI]; unfold Y7; simp [apA,hi,hrd,hp',e7,hon,zeroCells]
    refine ⟨_,_,rfl,?_,h.pre.trans hxp⟩
    rfl
  | true =>
    rw [h3] at hon
    cases h4:ZaP b1 all with
    | true =>
      rw [h4] at hr2
      have hr2:=of_decide_eq_true hr2
      right
      refine ⟨rfl,?_⟩
      rw [JI]; unfold Y7; simp [apA,hi,hrd,hp',e7,hon,hr1,hr2,zeroCells]
      refine ⟨_,_,rfl,?_,h.pre.trans hxp⟩
      rfl
    | false =>
      rw [h4] at hr2
      have hr2:¬ 0≤r:=of_decide_eq_false hr2
      have hB:=Zju _ (.slice a all.length all.length) all L [.int .i64 b1,.int .i64 (lf:Int),.slice ua (List.length (α:=UInt8) b3) uc] (b1,(lf:Int),b3) _ (g.grow hxp) (gb.grow hxp) (fun j hj hm=>by
        have q1:=(hdis j hm).2 i _ (Nat.le_refl _) (List.getElem?_eq_getElem (by omega))
        exact q1 hj) nd (ZkN gb) (by omega) h.lt h.rg hidR
      left
      refine ⟨rfl,?_⟩
      rw [JI]; unfold Y7; simp [apA,hi,hrd,hp',e7,hon,hr1,hr2,hpr,zeroCells]
      generalize hx:Zb T0 QZ _ _=xhx
      obtain ⟨v3,X3,rfl,L3,g3,n3,hL3,ag,hl3⟩:=ZQ hx hB
      clear hx
      simp only at g3 ag hl3
      simp [apA,e6]
      have hlX:=ZI h.hb
      have hlen:(X++[(⟨[.int .i64 b1,.int .i64 (lf:Int),.slice ua (List.length (α:=UInt8) b3) uc],1,2⟩:Blk)]).length=X.length+1:=by simp
      have hL2:l2 ∉ L:=fun hm=>(hdis l2 hm).1 rfl
      have hpM:=(h.pre.trans hxp).length_le
      have hgetL:Ls[i]?=some (Ls[i]'(by omega)):=List.getElem?_eq_getElem (by omega)
      refine ⟨v3,X3,⟨ag.pre (h.pre.trans hxp) hge,⟨L3,g3,n3,fun j hm=>?_,fun j hm=>?_⟩,?_,?_,Zqe h.lt h4,Zj0 h.rg hidR⟩,rfl⟩
      · rcases hL3 j hm with q | q | q
        · exact hge j q
        · exact (gk j q).1
        · have:=h.pre.length_le; omega
      · rcases hL3 j hm with q | q | q
        · exact ⟨(hdis j q).1,fun k K hk hK=>(hdis j q).2 k K (by omega) hK⟩
        · exact ⟨(gk j q).2,fun k K hk hK=>hj i k _ K (by omega) hgetL hK j q⟩
        · refine ⟨by omega,fun k K hk hK hjK=>?_⟩
          have hk2:k < Ls.length:=(List.getElem?_eq_some_iff.1 hK).1
          have:=(h.el k (css[k]'(by omega)) (bs[k]'(by omega)) K (by omega) (List.getElem?_eq_getElem (by omega)) (List.getElem?_eq_getElem (by omega)) hK).1.lt j hjK
          omega
      · rw [ag.2 l2 (by omega) hL2]
        exact Zh hxp h.hb
      · intro k ds x K hk hd hx hK
        obtain ⟨q1,q2⟩:=h.el k ds x K (by omega) hd hx hK
        exact ⟨(q1.grow hxp).agree ag (fun j hm hmL=>(hdis j hmL).2 k K (by omega) hK hm),q2⟩
theorem Zkm (M:Mem) (p m nd0:Nat) (a76 n77 i78:V) (bs:List Za.D) (l2:Nat) (css:List (List V)) (Ls:List (List Nat)) (hp:rd1 M p 0=some (.int .i64 (m:Int))) (hm:m≤6) (hnd:nd0+1 < 2 * 2 ^ m) (h1:css.length=bs.length) (h2:Ls.length=bs.length) (hw:∀ c ∈ css,c.length=3)
    (hbs:∀ b ∈ bs,(0≤b.1∧b.1≤255)∧b.2.1=((Int.toNat b.2.1:Nat):Int)∧Int.toNat b.2.1 < 2 ^ m) (hnl:bs.length≤4) (hnd2:Ls.flatten.Nodup) (hj:∀ (a b:Nat) (A B:List Nat),a ≠ b→Ls[a]?=some A→Ls[b]?=some B→∀ j ∈ A,j ∉ B) :
    ∀ (d i:Nat),i+d=bs.length→∀ (all:List Za.D) (v:V) (X:Mem),InI M bs l2 css Ls i all v X →
    (∃ all' v' X',inO m (nd0+1) all (bs.drop i)=some all'∧InI M bs l2 css Ls bs.length all' v' X'∧lp (Zb T0) ZX Yg (FoB p v nd0 a76 n77 i78 l2 bs.length i) X=lp (Zb T0) ZX Yg (FoB p v' nd0 a76 n77 i78 l2 bs.length bs.length) X') ∨
    (inO m (nd0+1) all (bs.drop i)=none∧RtF M (lp (Zb T0) ZX Yg (FoB p v nd0 a76 n77 i78 l2 bs.length i) X))
  | 0,i,hd,all,v,X,h=>by
    have e:i=bs.length:=by omega
    subst e
    exact .inl ⟨all,v,X,by simp [inO],h,rfl⟩
  | d+1,i,hd,all,v,X,h=>by
    have hi:i < bs.length:=by omega
    have hlen:=ZBj h.lt h.rg
    have hdr:bs.drop i=bs[i] :: bs.drop (i+1):=List.drop_eq_getElem_cons hi
    rw [hdr]
    unfold inO
    rcases Zpd M p m nd0 a76 n77 i78 bs l2 css Ls i hi hp hm hnd h1 h2 hw hbs hnl hnd2 hj all (by omega) v X h with ⟨q,v',X',h',e⟩ | ⟨q,r⟩
    · rw [if_pos q,e]
      exact Zkm M p m nd0 a76 n77 i78 bs l2 css Ls hp hm hnd h1 h2 hw hbs hnl hnd2 hj d (i+1) (by omega) _ v' X' h'
    · rw [if_neg (by rw [q]; simp)]
      exact .inr ⟨rfl,r⟩
theorem ZtN {M:Mem} {Lp:List V→Mem→R} {F:V→List V} {o:Option (List Za.D)} {a:List Za.D} {r:R} (ho:o=some a) (h:∃ v' X',OuI M a v' X'∧r=Lp (F v') X'):StO M Lp F o r:=by subst ho; exact h
theorem ZtJ {M:Mem} {Lp:List V→Mem→R} {F:V→List V} {o:Option (List Za.D)} {r:R} (ho:o=none) (h:RtF M r):StO M Lp F o r:=by subst ho; exact h
set_option maxHeartbeats 2000000 in
theorem Zpg (M:Mem) (p m:Nat) (w:Int) (aC:Option Addr) (cC:Nat) (cells:List Zi.D) (hC:Rep (.sl Zi) M [.slice aC cells.length cC] cells) (i:Nat) (hi:i < cells.length) (hp:rd1 M p 0=some (.int .i64 (m:Int))) (hpw:rd1 M p 1=some (.int .i64 w)) (hm:m≤6) (hlen:cells.length+1=2 * 2 ^ m) (hsz:∀ c ∈ cells,List.length (α:=UInt8) c≤1048576)
    (all:List Za.D) (v:V) (X:Mem) (h:OuI M all v X) :
    StO M (lp (Zb T0) Yh Y8) (ZGw p aC cells.length cC (i+1)) (nxO m w (i+1) cells[i] all) (lp (Zb T0) Yh Y8 (FoO p v aC cells.length cC i) X):=by
  obtain ⟨L,g,nd,hge⟩:=h.gr
  obtain ⟨l,o,u,rfl,hrd,hrn,hu⟩:=Zic (hC.mono h.pre) hi
  have hszi:=hsz _ (List.getElem_mem hi)
  have hp6:2 ^ m≤2 ^ 6:=Nat.pow_le_pow_right (by omega) hm
  obtain ⟨ua,uc,rfl⟩:=hu.slen
  generalize hcl:cells[i]=c at *
  have e6:IntKind.i64.wrap ((i:Int)+1)=i+1:=Zd (by omega) (by omega)
  have hp':=fun N:Mem=>Qt (h.pre.trans (List.prefix_append X N)) hp
  have hpw':=fun N:Mem=>Qt (h.pre.trans (List.prefix_append X N)) hpw
  have hNR:=ZjR (X++[(⟨[.slice ua (List.length (α:=UInt8) c) uc],1,2⟩:Blk)]) (.slice ua (List.length (α:=UInt8) c) uc) c m w (hu.mono (List.prefix_append _ _)) hszi
  rw [Zf1]; unfold ZaY; simp [apA,hi,hrd,hrn,hp',hpw',zeroCells]
  generalize hx:Zb T0 Q1 _ _=xhx
  obtain ⟨_,X1,rfl,r,L1,rfl,p1,g1,n1,k1⟩:=ZQ hx hNR
  clear hx
  simp only at p1 g1
  have pX:X <+: X1:=(List.prefix_append _ _).trans p1
  have pM:=h.pre.trans pX
  have hk1:∀ j ∈ L1,X.length≤j:=fun j hj=>by have:=k1 j hj; simp at this; omega
  unfold nxO
  cases hok:ZfD m w c with
  | false =>
    refine ZtJ (by simp) ?_
    simp [apA]
    refine ⟨_,_,rfl,?_,pM⟩
    rfl
  | true =>
    have hx:ndX m w c=ndB (Int.toNat w) c:=by unfold ndX; rw [if_pos hok]
    have hbl:Z4 m w (ndB (Int.toNat w) c)=true:=by
      unfold ZfD at hok
      simp only [Bool.and_eq_true] at hok
      exact hok.2.2.1
    have hbs:=Zqq hbl
    have hnl:=Zh6 (Int.toNat w) c
    rw [hx] at g1
    rw [if_pos rfl]
    generalize ndB (Int.toNat w) c=bs at *
    obtain ⟨a1,rfl⟩:=g1.shape
    have g':=g.grow pX
    by_cases hne:bs=[]
    · subst hne
      refine ZtN (a:=all) rfl ?_
      simp only [List.length_nil]
      simp [apA]
      rw [JI]; unfold Y7; simp [apA,e6]
      exact ⟨_,X1,⟨pM,⟨L,g',nd,hge⟩,h.lt,h.rg⟩,rfl⟩
    · obtain ⟨l2,css,Ls,e,h1,h2,hw,hj,hfl,rfl,hI⟩:=ZFz pM g1 n1 (fun j hj=>by have:=hk1 j hj; have:=h.pre.length_le; omega) hne
      cases e
      have hI0:=hI all v L g' nd hge (fun j hj hm=>by have:=hk1 j hm; have:=g.lt j hj; omega) h.lt h.rg
      have key:=Zkm M p m i (.slice (some ⟨l,o,none⟩) cells.length cC) (.int .i64 cells.length) (.int .i64 i) bs l2 css Ls hp hm (by omega) h1 h2 hw hbs hnl hfl hj bs.length 0 (by omega) all v X1 hI0
      rw [List.drop_zero] at key
      simp only [FoB,Int.natCast_zero,Int.ofNat_zero] at key
      rcases key with ⟨all',v',X',q1,q2,e⟩ | ⟨q1,fr,X',e,q2,q3⟩
      · refine ZtN q1 ?_
        simp [apA,e]
        rw [JI]; unfold Y7; simp [apA,e6]
        obtain ⟨L',g2,n2,k2,_⟩:=q2.gr
        exact ⟨_,X',⟨q2.pre,⟨L',g2,n2,k2⟩,q2.lt,q2.rg⟩,rfl⟩
      · refine ZtJ q1 ?_
        simp [apA,e]
        exact ⟨fr,X',rfl,q2,q3⟩
theorem Zkc (M:Mem) (p m:Nat) (w:Int) (aC:Option Addr) (cC:Nat) (cells:List Zi.D) (hC:Rep (.sl Zi) M [.slice aC cells.length cC] cells) (hp:rd1 M p 0=some (.int .i64 (m:Int))) (hpw:rd1 M p 1=some (.int .i64 w)) (hm:m≤6) (hlen:cells.length+1=2 * 2 ^ m) (hsz:∀ c ∈ cells,List.length (α:=UInt8) c≤1048576) :
    ∀ (d i:Nat),i+d=cells.length→∀ (all:List Za.D) (v:V) (X:Mem),OuI M all v X →
    StO M (lp (Zb T0) Yh Y8) (ZGw p aC cells.length cC cells.length) (ZpM m w (i+1) (cells.drop i) all) (lp (Zb T0) Yh Y8 (FoO p v aC cells.length cC i) X)
  | 0,i,hd,all,v,X,h=>by
    have e:i=cells.length:=by omega
    subst e
    rw [List.drop_length]
    exact ⟨v,X,h,rfl⟩
  | d+1,i,hd,all,v,X,h=>by
    have hi:i < cells.length:=by omega
    have hdr:cells.drop i=cells[i] :: cells.drop (i+1):=List.drop_eq_getElem_cons hi
    rw [hdr]
    have key:=Zpg M p m w aC cC cells hC i hi hp hpw hm hlen hsz all v X h
    unfold ZpM
    unfold nxO at key
    by_cases hok:ZfD m w cells[i]=true
    · rw [if_pos hok] at key ⊢
      cases hq:inO m (i+1) all (ndB (Int.toNat w) cells[i]) with
      | none =>
        rw [hq] at key
        exact key
      | some a =>
        rw [hq] at key
        obtain ⟨v',X',h',e⟩:=key
        rw [e]
        exact Zkc M p m w aC cC cells hC hp hpw hm hlen hsz d (i+1) (by omega) a v' X' h'
    · rw [if_neg hok] at key ⊢
      exact key
def OrV (M:Mem) (o:Option (List Za.D)) (p:V × Mem):Prop:=∃ r L,p.1=.tuple #[r,.bool o.isSome]∧M <+: p.2∧Gr (.sl Za) p.2 [r] (o.getD []) L∧L.Nodup∧∀ j ∈ L,M.length≤j
theorem Znb (M:Mem) (m n:Nat) (h:m≤6) (hn:n=2 * 2 ^ m - 1):Zb T0 Zdc [.int .i64 m] M=some (.int .i64 n,M):=by
  subst hn
  match m,h with
  | 0,_=>rw [Zc Jj]; unfold Y6 QA; simp; decide
  | 1,_=>rw [Zc Jj]; unfold Y6 QA; simp; decide
  | 2,_=>rw [Zc Jj]; unfold Y6 QA; simp; decide
  | 3,_=>rw [Zc Jj]; unfold Y6 QA; simp; decide
  | 4,_=>rw [Zc Jj]; unfold Y6 QA; simp; decide
  | 5,_=>rw [Zc Jj]; unfold Y6 QA; simp; decide
  | 6,_=>rw [Zc Jj]; unfold Y6 QA; simp; decide
theorem Zrl (M:Mem) (x a b:Int):Zb T0 Ye [.int .i64 x,.int .i64 a,.int .i64 b] M=some (.bool (decide (a≤x∧x≤b)),M):=by
  rw [Js,Bool.decide_and]
theorem ZdB {a lo hi:Int} (h1:lo≤a) (h2:a≤hi):decide (lo≤a∧a≤hi)=true:=decide_eq_true ⟨h1,h2⟩
theorem Zpi (M X:Mem) (m:ZT.D) (a b:Option Addr) (c d p:Nat) (hM:M <+: X) (hb:X[p]?=some ⟨[.int .i64 m.1,.slice a m.2.1.length c,.slice b m.2.2.length d],1,2⟩) (h:Rep (.sl Zf) M [.slice b m.2.2.length d] m.2.2) (hn:m.2.2.length≤6000) (hn2:m.2.1.length≤128) :
    (∃ X',M <+: X'∧X <+: X'∧(∀ i,i < m.2.2.length→atB (ZnO m) m.2.2 i=true)∧lp (Zb T0) QR Zae [O,.pointer (some ⟨p,0,none⟩),O,O,O,O,O,O,O,O,O,O,O,O,O,O,O,O,O,O,O,O,.slice b m.2.2.length d,.int .i64 m.2.2.length,.int .i64 (0:Nat),O,O,O,O,O,O,O,O,O,O,O,O,O,O,O,O,O,O,O,O,O,O,O,O,O,O,O,O,O,O] X=lp (Zb T0) QR Zae [O,.pointer (some ⟨p,0,none⟩),O,O,O,O,O,O,O,O,O,O,O,O,O,O,O,O,O,O,O,O,.slice b m.2.2.length d,.int .i64 m.2.2.length,.int .i64 m.2.2.length,O,O,O,O,O,O,O,O,O,O,O,O,O,O,O,O,O,O,O,O,O,O,O,O,O,O,O,O,O,O] X'∧X'[p]?=some ⟨[.int .i64 m.1,.slice a m.2.1.length c,.slice b m.2.2.length d],1,2⟩) ∨
    ((∃ i,i < m.2.2.length∧atB (ZnO m) m.2.2 i=false)∧∀ k,ZjG M [.tmp 2] (Zjx (Ze1 0 (lp (Zb T0) QR Zae [O,.pointer (some ⟨p,0,none⟩),O,O,O,O,O,O,O,O,O,O,O,O,O,O,O,O,O,O,O,O,.slice b m.2.2.length d,.int .i64 m.2.2.length,.int .i64 (0:Nat),O,O,O,O,O,O,O,O,O,O,O,O,O,O,O,O,O,O,O,O,O,O,O,O,O,O,O,O,O,O] X)) (Zb T0) k)=some (.bool false,M)):=by
  have key:=Zl1 (call:=Zb T0) (K:=QR) (L:=Zae) (fun _ Y=>X <+: Y) (fun i=>[O,.pointer (some ⟨p,0,none⟩),O,O,O,O,O,O,O,O,O,O,O,O,O,O,O,O,O,O,O,O,.slice b m.2.2.length d,.int .i64 m.2.2.length,.int .i64 i,O,O,O,O,O,O,O,O,O,O,O,O,O,O,O,O,O,O,O,O,O,O,O,O,O,O,O,O,O,O]) (atB (ZnO m) m.2.2) (n:=m.2.2.length) (M0:=M) (rs:=[.tmp 2]) (k0:=0) (a:=.bool false) X (List.prefix_refl _) ?_ ?_
  · rcases key with ⟨X',h0,h1,h2⟩ | h
    · exact .inl ⟨X',hM.trans h0,h0,h1,h2,Zh h0 hb⟩
    · exact .inr h
  · intro i Y hi hq hY
    obtain ⟨l,o,rfl,_,q1,_⟩:=Zlo (h.mono (hM.trans hY)) hi
    have hbY:=Zh hY hb
    have hbY2:∀ N:Mem,(Y++N)[p]?=some ⟨[.int .i64 m.1,.slice a m.2.1.length c,.slice (some ⟨l,o,none⟩) m.2.2.length d],1,2⟩:=fun N=>Zw hbY
    rw [Zdr _ hi] at hq
    have hq:=ZtK hq
    generalize m.2.2[i]=t at q1 hq
    obtain ⟨t1,t2,t3⟩:=t
    simp only at hq q1
    obtain ⟨g1,g2,g2',g3,g3',g3'',g4⟩:=hq
    have e5:IntKind.i64.wrap ((m.2.1.length:Int) - 1)=m.2.1.length - 1:=Zd (by omega) (by omega)
    have e6:IntKind.i64.wrap ((i:Int)+1)=i+1:=Zd (by omega) (by omega)
    have w1:=fun N:Mem=>Zrl (Y++N) t1 1 2
    rw [ZdB (by omega) (by omega)] at w1
    have w2:=fun N:Mem=>Zrl (Y++N) t2 0 (m.2.1.length - 1)
    rw [ZdB g2' g3''] at w2
    refine ⟨Y++[⟨Z7 (t1,t2,t3),1,2⟩],hY.trans (List.prefix_append _ _),?_⟩
    clear g1
    rw [Zai]; unfold QX; simp [apA,hbY,hbY2,hi,q1,w1,w2,e5,g4,e6,Y1,Z3]
  · intro i Y hi hq hY k
    obtain ⟨l,o,rfl,_,q1,_⟩:=Zlo (h.mono (hM.trans hY)) hi
    have hbY:=Zh hY hb
    have hbY2:∀ N:Mem,(Y++N)[p]?=some ⟨[.int .i64 m.1,.slice a m.2.1.length c,.slice (some ⟨l,o,none⟩) m.2.2.length d],1,2⟩:=fun N=>Zw hbY
    rw [Zdr _ hi] at hq
    have hq:=Zon hq
    generalize m.2.2[i]=t at q1 hq
    obtain ⟨t1,t2,t3⟩:=t
    simp only at hq q1
    have gb:=fun (cs:List V) b=>ZbH (hM.trans (hY.trans (List.prefix_append Y [⟨cs,1,2⟩]))) b
    have e5:IntKind.i64.wrap ((m.2.1.length:Int) - 1)=m.2.1.length - 1:=Zd (by omega) (by omega)
    have w1:=fun N:Mem=>Zrl (Y++N) t1 1 2
    have w2:=fun N:Mem=>Zrl (Y++N) t2 0 (m.2.1.length - 1)
    rcases hq with ⟨g1,g2⟩ | ⟨g1,_,g2⟩ | ⟨g1,⟨_,g2⟩,_,_,g3⟩ | ⟨g1,⟨_,g2⟩,⟨_,_,g3⟩,g4⟩
    · rw [decide_eq_false (by omega)] at w1
      rw [Zai]; unfold QX; simp [apA,hbY,hbY2,hi,q1,w1,gb,Y1,Z3]
    · rw [ZdB (by omega) (by omega)] at w1
      rw [decide_eq_false (by omega)] at w2
      clear g1
      rw [Zai]; unfold QX; simp [apA,hbY,hbY2,hi,q1,w1,w2,e5,gb,Y1,Z3]
    · rw [ZdB (by omega) (by omega)] at w1
      rw [decide_eq_false (by omega)] at w2
      clear g1
      rw [Zai]; unfold QX; simp [apA,hbY,hbY2,hi,q1,w1,w2,e5,gb,Y1,Z3]
    · rw [ZdB (by omega) (by omega)] at w1
      rw [ZdB g2 g3] at w2
      clear g1
      rw [Zai]; unfold QX; simp [apA,hbY,hbY2,hi,q1,w1,w2,e5,g4,gb,Y1,Z3]
theorem ZoI (M:Mem) (u:V) (x:Zi.D) (h:Rep (.sl ZD) M [u] x) (p:Nat) (sz:Int) (hp:rd1 M p 0=some (.int .i64 sz)):Zb T0 ZcF [.agg #[u],.pointer (some ⟨p,0,none⟩)] M=some (.bool (decide (¬ ((List.length (α:=UInt8) x:Nat):Int)=sz)),M):=by
  have h2:∀ N,rd1 (M++N) p 0=some (.int .i64 sz):=fun N=>Zhe hp
  obtain ⟨_,_,rfl⟩:=h.slen
  rw [Zc ZoU]; unfold ZgZ Zkq; simp [apA,h2]
theorem ZwF {M:Mem} {cs:List V} {x:Zi.D} (h:Rep Zi M cs x):∃ u,cs=[u]:=by
  rcases h with ⟨rfl,_⟩ | ⟨_,_,_,_,_,rfl,_⟩
  · exact ⟨_,rfl⟩
  · exact ⟨_,rfl⟩
theorem Zq7 (M:Mem) (cs:List V) (m:ZT.D) (h:Rep ZT M cs m):Zb T0 Zgx [.agg cs.toArray] M=some (.bool (ZAO m),M):=by
  obtain ⟨a,b,c,d,rfl,r0,r1⟩:=ZkX h
  unfold ZAO
  have hp:M <+: M++[⟨[.int .i64 m.1,.slice a m.2.1.length c,.slice b m.2.2.length d],1,2⟩]:=List.prefix_append _ _
  have w1:=fun N:Mem=>Zrl (M++N) m.1 1 1000
  rcases ZqZ m.1 m.2.1.length m.2.2.length with ⟨h0,hh⟩ | ⟨h0,⟨h1,_⟩,⟨_,h2⟩,⟨h3,h3'⟩,⟨h4,h4'⟩⟩
  · rw [h0,Bool.false_and]
    clear h0
    rcases hh with ⟨_,h1⟩ | ⟨⟨h1,_⟩,_,h2⟩ | ⟨⟨h1,_⟩,⟨_,h2⟩,h3,h3'⟩ | ⟨⟨h1,_⟩,⟨_,h2⟩,⟨h3,h3'⟩,h4,h4'⟩
    · rw [decide_eq_false (fun q=>h1 q.1)] at w1
      rw [Zc Zb2]; unfold Zaa ZaK; simp [apA,w1]
    · rw [decide_eq_false (fun q=>h2 q.2)] at w1
      rw [Zc Zb2]; unfold Zaa ZaK; simp [apA,w1]
    · rw [ZdB h1 h2] at w1
      rw [Zc Zb2]; unfold Zaa ZaK; simp [apA,w1,h3,h3']
    · rw [ZdB h1 h2] at w1
      rw [Zc Zb2]; unfold Zaa ZaK; simp [apA,w1,h3,h3',h4,h4']
  rw [h0,Bool.true_and]
  rw [ZdB h1 h2] at w1
  rcases Zpi M _ m a b c d M.length hp (by simp) r1 (by omega) (by omega) with ⟨X',hX,hX2,ha2,e2,hb⟩ | ⟨hn2,e2⟩
  · simp only [Int.natCast_zero,Int.ofNat_zero] at e2
    rw [Zs0 ha2,Bool.and_true]
    have gb:=fun b=>ZbH hX b
    have ha:=ZEW Zbu Zcq rfl (r0.mono hX) (by omega) ZcF [.pointer (some ⟨M.length,0,none⟩)] (fun x=>decide (¬ ((List.length (α:=UInt8) x:Nat):Int)=m.1)) (fun i hi cs hr=>by
      obtain ⟨u,rfl⟩:=ZwF hr
      exact ZoI X' u _ hr M.length m.1 (by rw [Y1,hb]; rfl))
    have hall:(m.2.1.any (fun x=>decide (¬ ((List.length (α:=UInt8) x:Nat):Int)=m.1)))=!(m.2.1.all (Zq0 m)):=by
      rw [List.any_eq_not_all_not]
      congr 2
      funext x
      unfold Zq0
      simp
    rw [hall] at ha
    cases hq:m.2.1.all (Zq0 m) with
    | true =>
      rw [hq] at ha
      rw [Zc Zb2]; unfold Zaa ZaK; simp [apA,w1,h3,h3',h4,h4',e2]
      rw [Zai]; unfold QX; simp [apA,Y1,Z3,hb,gb,ha]
    | false =>
      rw [hq] at ha
      rw [Zc Zb2]; unfold Zaa ZaK; simp [apA,w1,h3,h3',h4,h4',e2]
      rw [Zai]; unfold QX; simp [apA,Y1,Z3,hb,gb,ha]
  · simp only [Int.natCast_zero,Int.ofNat_zero] at e2
    rw [ZsH hn2,Bool.and_false]
    rw [Zc Zb2]; unfold Zaa ZaK; simp [apA,w1,h3,h3',h4,h4',e2]
set_option maxRecDepth 20000 in
set_option maxHeartbeats 2000000 in
theorem ZlT (M:Mem) (l w b:Int) (m:ZT.D) (st:List Za.D) (aC:Option Addr) (cC:Nat) (aT:Option Addr) (cT:Nat) (aS:Option Addr) (cS:Nat)
    (hM:Rep ZT M [.int .i64 m.1,.slice aC m.2.1.length cC,.slice aT m.2.2.length cT] m) (hS:Rep (.sl Za) M [.slice aS st.length cS] st) (hz:Zcz st) (hcz:m.2.1.length≤1048576) :
    Sat (Zb T0 ZaH [.agg (aO l w b m.1 aC m.2.1.length cC aT m.2.2.length cT aS st.length cS).toArray] M) (OrV M (orX l w b m st)):=by
  have e1:=fun M=>Ze4 M l
  have e2:=fun M=>Js M w 1 200
  have e3:=fun M=>Js M b 0 64
  have hlg:(decide (0≤l) && decide (l≤6))=lgB l:=rfl
  have hwd:(decide (1≤w) && decide (w≤200))=wdB w:=rfl
  have hbd:(decide (0≤b) && decide (b≤64))=bdB b:=rfl
  rw [hlg] at e1
  rw [hwd] at e2
  rw [hbd] at e3
  have e4:=fun N:Mem=>Zq7 (M++N) _ m (hM.mono (List.prefix_append _ _))
  have e5:=fun N:Mem=>ZoV (M++N) _ st l w (hS.mono (List.prefix_append _ _)) hz.1
  have hnil:∀ {X:Mem},Gr (.sl Za) X [.slice none 0 0] [] []:=Gr.nil
  have hpre:M <+: M++[(⟨aO l w b m.1 aC m.2.1.length cC aT m.2.2.length cT aS st.length cS,1,2⟩:Blk)]:=List.prefix_append _ _
  have fin:∀ {o:Option (List Za.D)} {r},o=none→r=some (.tuple #[.slice none 0 0,.bool false],M++[(⟨aO l w b m.1 aC m.2.1.length cC aT m.2.2.length cT aS st.length cS,1,2⟩:Blk)])→Sat r (OrV M o):=fun ho hr=>by
    subst ho
    subst hr
    exact ⟨(_,_),rfl,_,[],rfl,hpre,hnil,by simp,by simp⟩
  have hf:frO l w b m st=false→orX l w b m st=none:=fun h=>by unfold orX; rw [h]; rfl
  cases h1:lgB l with
  | false =>
    rw [h1] at e1
    refine fin (hf (by unfold frO; simp [h1])) ?_
    rw [Zc YN]; unfold Z9 Yi; simp [apA,e1]
  | true =>
  rw [h1] at e1
  cases h2:wdB w with
  | false =>
    rw [h2] at e2
    refine fin (hf (by unfold frO; simp [h2])) ?_
    rw [Zc YN]; unfold Z9 Yi; simp [apA,e1,e2]
  | true =>
  rw [h2] at e2
  cases h3:bdB b with
  | false =>
    rw [h3] at e3
    refine fin (hf (by unfold frO; simp [h3])) ?_
    rw [Zc YN]; unfold Z9 Yi; simp [apA,e1,e2,e3]
  | true =>
  rw [h3] at e3
  have hw:1≤w∧w≤200:=by unfold wdB at h2; simpa using h2
  have hb:0≤b∧b≤64:=by unfold bdB at h3; simpa using h3
  obtain ⟨k,rfl,hk⟩:=ZjF h1
  have hk0:Int.toNat (k:Int)=k:=by omega
  have e6:=fun M=>Znb M k _ hk rfl
  have w1:IntKind.i64.wrap (w+3)=w+3:=Zd (by omega) (by omega)
  have w2:IntKind.i64.wrap (4 * (w+3))=4 * (w+3):=Zd (by omega) (by omega)
  have hp6:2 ^ k≤2 ^ 6:=Nat.pow_le_pow_right (by omega) hk
  have hp0:0 < 2 ^ k:=Nat.two_pow_pos k
  have hN:∃ N,N=2 * 2 ^ k - 1:=⟨_,rfl⟩
  obtain ⟨N,hN⟩:=hN
  cases h4:ZAO m with
  | false =>
    rw [h4] at e4
    refine fin (hf (by unfold frO; simp [h4])) ?_
    rw [Zc YN]; unfold Z9 Yi; simp [apA,e1,e2,e3,e4]
  | true =>
  rw [h4] at e4
  by_cases h5:m.2.1.length=N
  · have hmb:=ZpS h4
    rw [← hN,← h5] at e6
    by_cases h6:(m.1:Int)=4 * (w+3)
    · have w2:IntKind.i64.wrap (4 * (w+3))=m.1:=w2.trans h6.symm
      by_cases h7:(st.length:Int)≤b
      · have h7':¬ b < (st.length:Int):=by omega
        cases h8:ZeV k w st with
        | false =>
          rw [h8] at e5
          refine fin (hf (by unfold frO; simp [h8])) ?_
          rw [Zc YN]; unfold Z9 Yi; simp [apA,e1,e2,e3,e4,e5,e6,w1,w2,h7']
        | true =>
          rw [h8] at e5
          have hX:orX k w b m st=ZpM k w 1 m.2.1 st:=by
            unfold orX
            rw [hk0,if_pos]
            unfold frO
            rw [h1,h2,h3,h4,hk0,← hN,decide_eq_true h5,decide_eq_true h6,decide_eq_true h7,h8]
            rfl
          rw [hX]
          have hCB:=fun N:Mem=>Zdw (M++N) _ st (hS.mono (List.prefix_append _ _)) hz
          rw [Zc YN]; unfold Z9 Yi; simp [apA,e1,e2,e3,e4,e5,e6,w1,w2,h7']
          generalize hx:Zb T0 Yt _ _=xhx
          obtain ⟨v1,X1,rfl,L1,p1,g1,n1,k1⟩:=ZQ hx (hCB _)
          clear hx
          simp only at p1 g1
          have hbx:=Zh p1 (show (M++[(⟨aO k w b m.1 aC m.2.1.length cC aT m.2.2.length cT aS st.length cS,1,2⟩:Blk)])[M.length]?=some _ from List.getElem?_concat_length)
          have hb4:rd1 X1 M.length 4=some (.slice aC m.2.1.length cC):=by simp [rd1,hbx]
          have st8:st.length≤128∧Z4 k w st=true:=by unfold ZeV at h8; simpa using h8
          have key:=Zkc (M++[(⟨aO k w b m.1 aC m.2.1.length cC aT m.2.2.length cT aS st.length cS,1,2⟩:Blk)]) M.length k w aC cC m.2.1 ((ZbW hM).elim fun u0 h=>by
            obtain ⟨u1,e,_,r0,_⟩:=h
            cases e
            exact r0.mono hpre) (by simp [rd1]) (by simp [rd1]) hk (by omega) (fun c hc=>by have:=hmb.2.2 c hc; omega) m.2.1.length 0 (by omega) st v1 X1 ⟨p1,⟨L1,g1,n1,k1⟩,Zgh st8.2,ZjI st8.2⟩
          rw [List.drop_zero] at key
          simp only [FoO,Int.natCast_zero,Int.ofNat_zero] at key
          cases ho:ZpM k w (0+1) m.2.1 st with
          | none =>
            rw [ho] at key
            obtain ⟨fr,X',e,q2,q3⟩:=key
            have pX:=hpre.trans q3
            simp [apA,hb4,e]
            have q2:(fr[2]?.getD O)=.slice none 0 0∧(fr[3]?.getD O)=.bool false:=by simpa [Zmd] using q2
            rw [q2.1,q2.2,ZBA rfl]
            exact ⟨(_,X'),rfl,_,[],rfl,pX,hnil,by simp,by simp⟩
          | some a =>
            rw [ho] at key
            obtain ⟨v',X',⟨q1,⟨L',g2,n2,k2⟩,_,_⟩,e⟩:=key
            simp only [ZGw,FoO] at e
            have pX:=hpre.trans q1
            simp [apA,hb4,e]
            obtain ⟨a5,rfl⟩:=g2.shape
            rw [Zf1]; unfold ZaY; simp [apA,pX]
            exact ⟨(_,X'),rfl,_,L',rfl,pX,g2,n2,fun j hj=>by have:=k2 j hj; simp at this; omega⟩
      · have h7':b < (st.length:Int):=by omega
        refine fin (hf (by unfold frO; rw [decide_eq_false h7]; simp)) ?_
        rw [Zc YN]; unfold Z9 Yi; simp [apA,e1,e2,e3,e4,e6,w1,w2,h7']
    · refine fin (hf (by unfold frO; rw [decide_eq_false h6]; simp)) ?_
      rw [Zc YN]; unfold Z9 Yi; simp [apA,e1,e2,e3,e4,e6,w1,w2,h6]
  · have h5':¬ (m.2.1.length:Int)=(N:Int):=by omega
    refine fin (hf (by unfold frO; rw [hk0,← hN,decide_eq_false h5]; simp)) ?_
    rw [← hN] at e6
    generalize m.2.1.length=nC at *
    rw [Zc YN]; unfold Z9 Yi; simp [apA,e1,e2,e3,e4,e6,h5',h5]
theorem ZlM (M:Mem) (cs:List V) (x:Zx.D) (lf:Int) (h:Rep Zx M cs x) (hz:Zcz x.2.2.2.2) (hc:x.2.2.2.1.2.1.length≤1048576):Zb T0 Zby [.agg cs.toArray,.int .i64 lf] M=some (.bool ((orO x).isSome && ZeU x.1 lf),M):=by
  obtain ⟨aC,cC,aT,cT,aS,cS,rfl,hM,hS⟩:=Zj3 h
  have hpre:M <+: M++[(⟨aO x.1 x.2.1 x.2.2.1 x.2.2.2.1.1 aC x.2.2.2.1.2.1.length cC aT x.2.2.2.1.2.2.length cT aS x.2.2.2.2.length cS,1,2⟩:Blk)]:=List.prefix_append _ _
  have key:=ZlT _ x.1 x.2.1 x.2.2.1 x.2.2.2.1 x.2.2.2.2 aC cC aT cT aS cS (hM.mono hpre) (hS.mono hpre) hz hc
  have e1:=fun M=>Zk6 M x.1 lf
  have hbx:(M++[(⟨aO x.1 x.2.1 x.2.2.1 x.2.2.2.1.1 aC x.2.2.2.1.2.1.length cC aT x.2.2.2.1.2.2.length cT aS x.2.2.2.2.length cS,1,2⟩:Blk)])[M.length]?=some ⟨aO x.1 x.2.1 x.2.2.1 x.2.2.2.1.1 aC x.2.2.2.1.2.1.length cC aT x.2.2.2.1.2.2.length cT aS x.2.2.2.2.length cS,1,2⟩:=List.getElem?_concat_length
  unfold orO
  generalize orX x.1 x.2.1 x.2.2.1 x.2.2.2.1 x.2.2.2.2=o at *
  rw [Zc ZlJ]; unfold ZdM ZgF; simp [apA]
  generalize hx:Zb T0 ZaH _ _=xhx
  obtain ⟨v1,X1,rfl,r,L1,rfl,p1,g1,n1,k1⟩:=ZQ hx key
  clear hx
  simp only at p1 g1
  have gb:=fun b=>ZbH (hpre.trans p1) b
  have r0:rd1 X1 M.length 0=some (.int .i64 x.1):=Jw (Zh p1 hbx) rfl
  cases o with
  | none =>
    simp only [Option.isSome_none,Bool.false_and]
    simp [apA,gb]
  | some r =>
    simp only [Option.isSome_some,Bool.true_and]
    simp [apA,r0,e1,gb]
def GrO (M:Mem) (x:Zx.D) (p:V × Mem):Prop:=∃ uC uT uS L0 L1 L2,p.1=.agg [(.int .i64 x.1:V),.int .i64 x.2.1,.int .i64 x.2.2.1,.int .i64 x.2.2.2.1.1,uC,uT,uS].toArray∧M <+: p.2∧Gr (.sl Zi) p.2 [uC] x.2.2.2.1.2.1 L0∧Gr (.sl Zf) p.2 [uT] x.2.2.2.1.2.2 L1∧Gr (.sl Za) p.2 [uS] x.2.2.2.2 L2∧((L0++L1)++L2).Nodup∧∀ j ∈ (L0++L1)++L2,M.length≤j
def CpI (M:Mem) (m:ZT.D) (p:Nat) (L1:List Nat) (X:Mem) (u0 u1:V) (xs:List Zi.D):Prop:=∃ L,M <+: X∧X[M.length+1]?=some ⟨[.int .i64 0,.slice none 0 0,.slice none 0 0],1,2⟩∧X[p]?=some ⟨[.int .i64 m.1,u0,u1],1,2⟩∧Gr (.sl Zi) X [u0] xs L∧L.Nodup∧(∀ l ∈ L,p < l)∧Gr (.sl Zf) X [u1] m.2.2 L1
theorem Zmm (M:Mem) (m:ZT.D) (a:Option Addr) (c p:Nat) (L1:List Nat) (h:Rep (.sl Zi) M [.slice a m.2.1.length c] m.2.1) (hn:m.2.1.length≤128) (hm:∀ x ∈ m.2.1,x.length≤1048576) (u0 u1:V) (Z:Mem) (hp:M.length+2≤p) (hl2:∀ l ∈ L1,l < p) (hZ:CpI M m p L1 Z u0 u1 []) :
    ∃ u0' X',CpI M m p L1 X' u0' u1 m.2.1∧lp (Zb T0) Qb Jy [O,O,.pointer (some ⟨M.length+1,0,none⟩),.pointer (some ⟨p,0,none⟩),O,O,O,O,O,O,O,O,O,.slice a m.2.1.length c,.int .i64 m.2.1.length,.int .i64 (0:Nat),O,O,O,O,O,O,O,O,O,O,O,O,O,O] Z=lp (Zb T0) Qb Jy [O,O,.pointer (some ⟨M.length+1,0,none⟩),.pointer (some ⟨p,0,none⟩),O,O,O,O,O,O,O,O,O,.slice a m.2.1.length c,.int .i64 m.2.1.length,.int .i64 m.2.1.length,O,O,O,O,O,O,O,O,O,O,O,O,O,O] X':=by
  have key:=YT (call:=Zb T0) (K:=Qb) (L:=Jy) (fun i u0 X=>CpI M m p L1 X u0 u1 (m.2.1.take i)) (fun i _=>[O,O,.pointer (some ⟨M.length+1,0,none⟩),.pointer (some ⟨p,0,none⟩),O,O,O,O,O,O,O,O,O,.slice a m.2.1.length c,.int .i64 m.2.1.length,.int .i64 i,O,O,O,O,O,O,O,O,O,O,O,O,O,O]) (n:=m.2.1.length) ?_ 0 u0 Z (by omega) (by simpa using hZ)
  · rw [List.take_length] at key
    exact key
  intro i u X hi hX
  obtain ⟨L,pX,b1,b2,g0,hnd,hge,g1⟩:=hX
  obtain ⟨l,o,w,rfl,_,q1,q3⟩:=Zic (h.mono pX) hi
  rw [List.take_succ_eq_append_getElem hi]
  have hlen:(m.2.1.take i).length=i:=by rw [List.length_take]; omega
  generalize m.2.1.take i=xs at g0 hlen ⊢
  have hmc:=hm _ (List.getElem_mem hi)
  generalize m.2.1[i]=cell at q3 hmc ⊢
  have e6:IntKind.i64.wrap ((i:Int)+1)=i+1:=Zd (by omega) (by omega)
  have hlX:=ZI b2
  have s1:=ZlB (M:=X++[(⟨[w],1,2⟩:Blk)]) ZfI (t:=.u8) Zfs rfl (q3.mono (List.prefix_append _ _)) (by omega) (by omega)
  have b2':=fun N:Mem=>Zw (N:=N) b2
  obtain ⟨_,_,rfl⟩:=q3.slen
  obtain ⟨a3,rfl⟩:=g0.shape
  rw [Zhq]; unfold Zck; simp [apA,b2,b2',hi,q1,Y1,Z3]
  generalize hx:Zb T0 Qk _ _=xhx
  obtain ⟨w1,X3,rfl,K2,p3',gb,ndb,geb⟩:=ZQ hx s1
  clear hx
  simp only at p3' gb geb
  have p3:X <+: X3:=(List.prefix_append _ _).trans p3'
  obtain ⟨a7,rfl⟩:=gb.shape
  have hwL:∀ b ∈ wfs (.slice a3 xs.length xs.length),p < b:=by
    obtain ⟨_,_,hw⟩:=g0.gr (K:=0) (by simp)
    exact fun b hb=>hge b (hw b hb)
  have hh2:∀ ys:List Nat,(∀ y ∈ ys,y≤p)→Zfx (wfs (.slice a3 xs.length xs.length)) ys=false:=fun ys hy=>Zif (K:=p+1) (fun b hb=>hwL b hb) (fun y h=>by have:=hy y h; omega)
  simp [apA,Jo,p3',zeroCells]
  generalize hy:Zdq _ _ _ _ _ _=xhy
  have hcg:Gr Zi (X3++[(⟨[.slice a7 (List.length (α:=UInt8) cell) (List.length (α:=UInt8) cell)],1,2⟩:Blk)]) [.slice a7 (List.length (α:=UInt8) cell) (List.length (α:=UInt8) cell)] cell K2:=gb.grow (List.prefix_append _ _)
  obtain ⟨l4,X4,L',rfl,g4,ag2,len2,hw4,nd4,sub4,hl4⟩:=g0.app (t:=Zi) hy (p3.trans (List.prefix_append _ _)) hcg (fun l hl=>by have:=geb l hl; simp at this; omega) hnd ndb (by rw [hlen]; omega) (by rw [hlen]; omega)
  clear hy
  have hnw:∀ j,j≤p→j ∉ wfs (.slice a3 xs.length xs.length):=fun j hj hm=>by have:=hwL j hm; omega
  have y1:=ag2.get (Zw (Zh p3 b1)) (hnw _ (by omega))
  have y2:=ag2.get (Zw (Zh p3 b2)) (hnw _ (Nat.le_refl _))
  have gl:=(((g1.grow p3).grow (List.prefix_append X3 [(⟨[.slice a7 (List.length (α:=UInt8) cell) (List.length (α:=UInt8) cell)],1,2⟩:Blk)])).agree ag2 (by
    intro j hj hm
    have:=hwL j hm
    have:=hl2 j hj
    omega))
  have pX4:M <+: X4:=ag2.pre (JZ (pX.trans p3)) (fun j hj=>by have:=hwL j hj; omega)
  have hgt:∀ j ∈ L',p < j:=fun j hj=>by
    have hx3:=p3.length_le
    rcases sub4 j hj with h | h | h
    · exact hge j h
    · have:=geb j h; simp at this; omega
    · simp at hl4; omega
  have hwX:∀ b ∈ wfs (.slice a3 xs.length xs.length),b < X.length:=by
    obtain ⟨_,_,hw⟩:=g0.gr (K:=0) (by simp)
    exact fun b hb=>g0.lt b (hw b hb)
  have hh3:Zfx (wfs (.slice a3 xs.length xs.length)) [X.length,p]=false:=Zg7 fun x hx y hy e=>by
    have:=hwL x hx
    have:=hwX x hx
    simp at hy
    omega
  simp [apA,y2,e6,YD,ag2,hh3,Y1,Z3,ZhB,Zdj]
  refine ⟨_,_,⟨L',QQ (by omega) pX4,?_,ZbN y2 _,?_,nd4,hgt,?_⟩,rfl⟩
  · rw [Je (by omega)]; exact y1
  · exact g4.set _ (fun hm=>by have:=hgt _ hm; omega)
  · exact gl.set _ (fun hm=>by have:=hl2 _ hm; omega)
set_option maxHeartbeats 1000000 in
theorem Zn1 (M:Mem) (cs:List V) (m:ZT.D) (h:Rep ZT M cs m) (hz:ZCJ m):Sat (Zb T0 Zb3 [.agg cs.toArray] M) (GrD ZT M m):=by
  have hw:=ZBv h
  obtain ⟨a,b,c,d,rfl,r0,r1⟩:=ZkX h
  obtain ⟨z1,z2,z3⟩:=hz
  have s1:=fun N:Mem=>ZlB (M:=M++N) ZcP (t:=Zf) Zir rfl (r1.mono (List.prefix_append _ _)) (by omega) (by omega)
  rw [Zc Zoh]; unfold Zgr ZjB; simp [apA]
  generalize hx:Zb T0 Ya _ _=xhx
  obtain ⟨u1,X3,rfl,L1,p3,g1,nd1,ge1⟩:=ZQ hx (s1 _)
  clear hx
  simp only at p3 g1 ge1
  have b0:X3[M.length]?=some ⟨[.int .i64 m.1,.slice a m.2.1.length c,.slice b m.2.2.length d],1,2⟩:=Zh p3 (by simp)
  have b1:X3[M.length+1]?=some ⟨[.int .i64 0,.slice none 0 0,.slice none 0 0],1,2⟩:=Zh p3 (by simp)
  have p3':M <+: X3:=(List.prefix_append _ _).trans p3
  obtain ⟨a6,rfl⟩:=g1.shape
  simp [apA,Jo,p3,zeroCells]
  have hZ:CpI M m X3.length L1 (X3++[⟨[.int .i64 m.1,.slice none 0 0,.slice a6 m.2.2.length m.2.2.length],1,2⟩]) (.slice none 0 0) (.slice a6 m.2.2.length m.2.2.length) [] :=
    ⟨[],JZ p3',Zw b1,by simp,Gr.nil,by simp,by simp,g1.grow (List.prefix_append _ _)⟩
  obtain ⟨u0',X',⟨L,q1,q3,q4,q5,q6,q7,q8⟩,e⟩:=Zmm M m a c X3.length L1 r0 z1 z3 (.slice none 0 0) (.slice a6 m.2.2.length m.2.2.length) _ (by have:=ZI b1; omega) (fun l hl=>g1.lt l hl) hZ
  simp only [Int.natCast_zero,Int.ofNat_zero] at e
  have b0':=fun N:Mem=>Zw (N:=N) b0
  simp [apA,e,b0',Y1,Z3]
  obtain ⟨a5,rfl⟩:=q5.shape
  rw [Zhq]; unfold Zck; simp [apA,q4,Y1,Z3]
  simp [apA,q3,q4,ZbN q3,Y1,Z3,Zm7,ZiG,ZhB,Zdj]
  have hlb:=ZI b1
  simp at ge1
  refine Zcw ⟨_,L++L1,rfl,QQ (by omega) q1,?_,?_,?_⟩
  · refine ZBm hw (q5.set _ fun hm=>?_) (q8.set _ fun hm=>?_)
    · have:=q7 _ hm
      omega
    · have:=ge1 _ hm
      omega
  · refine List.nodup_append.2 ⟨q6,nd1,fun x hx y hy e=>?_⟩
    have:=q7 x hx
    have:=g1.lt y hy
    omega
  · intro l hl
    rcases List.mem_append.1 hl with hl | hl
    · have:=q7 l hl
      omega
    · have:=ge1 l hl
      omega
set_option maxHeartbeats 2000000 in
theorem ZmU (M:Mem) (cs:List V) (x:Zx.D) (h:Rep Zx M cs x) (hz:Zcz x.2.2.2.2) (hms:ZCJ x.2.2.2.1):Sat (Zb T0 Za6 [.agg cs.toArray] M) (GrO M x):=by
  obtain ⟨aC,cC,aT,cT,aS,cS,rfl,hM,hS⟩:=Zj3 h
  obtain ⟨l,w,b,m,st⟩:=x
  simp only at hM hS hz hms ⊢
  have hpre:M <+: M++[(⟨aO l w b m.1 aC m.2.1.length cC aT m.2.2.length cT aS st.length cS,1,2⟩:Blk),⟨[.int .i64 0,.int .i64 0,.int .i64 0,.int .i64 0,.slice none 0 0,.slice none 0 0,.slice none 0 0],1,2⟩]:=List.prefix_append _ _
  have hbx:(M++[(⟨aO l w b m.1 aC m.2.1.length cC aT m.2.2.length cT aS st.length cS,1,2⟩:Blk),⟨[.int .i64 0,.int .i64 0,.int .i64 0,.int .i64 0,.slice none 0 0,.slice none 0 0,.slice none 0 0],1,2⟩])[M.length]?=some ⟨aO l w b m.1 aC m.2.1.length cC aT m.2.2.length cT aS st.length cS,1,2⟩:=by simp
  have hby:(M++[(⟨aO l w b m.1 aC m.2.1.length cC aT m.2.2.length cT aS st.length cS,1,2⟩:Blk),⟨[.int .i64 0,.int .i64 0,.int .i64 0,.int .i64 0,.slice none 0 0,.slice none 0 0,.slice none 0 0],1,2⟩])[M.length+1]?=some ⟨[.int .i64 0,.int .i64 0,.int .i64 0,.int .i64 0,.slice none 0 0,.slice none 0 0,.slice none 0 0],1,2⟩:=by simp
  have hCM:=Zn1 _ _ m (hM.mono hpre) hms
  have g3:=Zfv (k:=3) (n:=3) hbx (by simp) rfl
  have g6:rd1 (M++[(⟨aO l w b m.1 aC m.2.1.length cC aT m.2.2.length cT aS st.length cS,1,2⟩:Blk),⟨[.int .i64 0,.int .i64 0,.int .i64 0,.int .i64 0,.slice none 0 0,.slice none 0 0,.slice none 0 0],1,2⟩]) M.length 6=some (.slice aS st.length cS):=Jw hbx rfl
  rw [Zc Zm9]; unfold Ze7 ZiH; simp [apA,zeroCells]
  generalize hx:Zb T0 Zb3 _ _=xhx
  obtain ⟨_,X1,rfl,ds,L1,rfl,p1,g1,n1,k1⟩:=ZQ hx hCM
  clear hx
  simp only at p1 g1
  have hCB:=Zdw X1 _ st ((hS.mono hpre).mono p1) hz
  have hb1:=Zh p1 hbx
  have g61:rd1 X1 M.length 6=some (.slice aS st.length cS):=Jw hb1 rfl
  simp [apA,Jo,p1,g61]
  generalize hx:Zb T0 Yt _ _=xhx
  obtain ⟨vS,X2,rfl,L2,p2,g2,n2,k2⟩:=ZQ hx hCB
  clear hx
  simp only at p2 g2
  obtain ⟨uC,uT,J0,J1,rfl,hwf,gC,gT,rfl⟩:=Zpr g1
  have hb2:=Zh p2 hb1
  have hy2:=Zh p2 (Zh p1 hby)
  obtain ⟨a1,rfl⟩:=gC.shape
  obtain ⟨a2,rfl⟩:=gT.shape
  obtain ⟨a3,rfl⟩:=g2.shape
  have hM2:=(hpre.trans (p1.trans p2))
  have hl1:=p1.length_le
  have hl2:=p2.length_le
  simp at hl1
  have gC2:=gC.grow p2
  have gT2:=gT.grow p2
  have kk1:∀ j ∈ J0++J1,M.length+2≤j:=fun j hj=>by have:=k1 j hj; simp at this; omega
  have kk2:∀ j ∈ L2,M.length+2≤j:=fun j hj=>by have:=k2 j hj; omega
  obtain ⟨W1,hW1,e1⟩:∃ W1,W1=X2.set M.length ⟨[.int .i64 l,.int .i64 w,.int .i64 b,.int .i64 m.1,.slice a1 m.2.1.length m.2.1.length,.slice a2 m.2.2.length m.2.2.length,.slice aS st.length cS],1,2⟩∧wrn X2 M.length 3 [.int .i64 m.1,.slice a1 m.2.1.length m.2.1.length,.slice a2 m.2.2.length m.2.2.length]=some W1:=⟨_,rfl,by rw [ZdU hb2 rfl (by simp) rfl]; rfl⟩
  have q1:W1[M.length]?=some ⟨[.int .i64 l,.int .i64 w,.int .i64 b,.int .i64 m.1,.slice a1 m.2.1.length m.2.1.length,.slice a2 m.2.2.length m.2.2.length,.slice aS st.length cS],1,2⟩:=by rw [hW1]; exact ZbN hb2 _
  obtain ⟨W2,hW2,e2⟩:∃ W2,W2=W1.set M.length ⟨[.int .i64 l,.int .i64 w,.int .i64 b,.int .i64 m.1,.slice a1 m.2.1.length m.2.1.length,.slice a2 m.2.2.length m.2.2.length,.slice a3 st.length st.length],1,2⟩∧wrn W1 M.length 6 [.slice a3 st.length st.length]=some W2:=⟨_,rfl,by rw [ZdU q1 rfl (by simp) rfl]; rfl⟩
  have q2:W2[M.length]?=some ⟨[.int .i64 l,.int .i64 w,.int .i64 b,.int .i64 m.1,.slice a1 m.2.1.length m.2.1.length,.slice a2 m.2.2.length m.2.2.length,.slice a3 st.length st.length],1,2⟩:=by rw [hW2]; exact ZbN q1 _
  have y2:W2[M.length+1]?=some ⟨[.int .i64 0,.int .i64 0,.int .i64 0,.int .i64 0,.slice none 0 0,.slice none 0 0,.slice none 0 0],1,2⟩:=by rw [hW2,Je (by omega),hW1,Je (by omega)]; exact hy2
  have e3:rdn W2 M.length 0 7=some [.int .i64 l,.int .i64 w,.int .i64 b,.int .i64 m.1,.slice a1 m.2.1.length m.2.1.length,.slice a2 m.2.2.length m.2.2.length,.slice a3 st.length st.length]:=Zfv q2 (by simp) rfl
  obtain ⟨W3,hW3,e4⟩:∃ W3,W3=W2.set (M.length+1) ⟨[.int .i64 l,.int .i64 w,.int .i64 b,.int .i64 m.1,.slice a1 m.2.1.length m.2.1.length,.slice a2 m.2.2.length m.2.2.length,.slice a3 st.length st.length],1,2⟩∧wrn W2 (M.length+1) 0 [.int .i64 l,.int .i64 w,.int .i64 b,.int .i64 m.1,.slice a1 m.2.1.length m.2.1.length,.slice a2 m.2.2.length m.2.2.length,.slice a3 st.length st.length]=some W3:=⟨_,rfl,by rw [ZdU y2 rfl (by simp) rfl]; rfl⟩
  have q3:W3[M.length+1]?=some ⟨[.int .i64 l,.int .i64 w,.int .i64 b,.int .i64 m.1,.slice a1 m.2.1.length m.2.1.length,.slice a2 m.2.2.length m.2.2.length,.slice a3 st.length st.length],1,2⟩:=by rw [hW3]; exact ZbN y2 _
  have e5:rdn W3 (M.length+1) 0 7=some [.int .i64 l,.int .i64 w,.int .i64 b,.int .i64 m.1,.slice a1 m.2.1.length m.2.1.length,.slice a2 m.2.2.length m.2.2.length,.slice a3 st.length st.length]:=Zfv q3 (by simp) rfl
  have n0:∀ {J:List Nat},(∀ j ∈ J,M.length+2≤j)→M.length ∉ J∧M.length+1 ∉ J:=fun h=>⟨fun hm=>by have:=h _ hm; omega,fun hm=>by have:=h _ hm; omega⟩
  have pW:M <+: W3:=by rw [hW3,hW2,hW1]; exact QQ (by omega) (QQ (Nat.le_refl _) (QQ (Nat.le_refl _) hM2))
  have kA:∀ j ∈ J0,M.length+2≤j:=fun j hj=>kk1 j (List.mem_append_left _ hj)
  have kB:∀ j ∈ J1,M.length+2≤j:=fun j hj=>kk1 j (List.mem_append_right _ hj)
  have gCW:Gr (.sl Zi) W3 [.slice a1 m.2.1.length m.2.1.length] m.2.1 J0:=by rw [hW3,hW2,hW1]; exact ((gC2.set _ (n0 kA).1).set _ (n0 kA).1).set _ (n0 kA).2
  have gTW:Gr (.sl Zf) W3 [.slice a2 m.2.2.length m.2.2.length] m.2.2 J1:=by rw [hW3,hW2,hW1]; exact ((gT2.set _ (n0 kB).1).set _ (n0 kB).1).set _ (n0 kB).2
  have gSW:Gr (.sl Za) W3 [.slice a3 st.length st.length] st L2:=by rw [hW3,hW2,hW1]; exact ((g2.set _ (n0 kk2).1).set _ (n0 kk2).1).set _ (n0 kk2).2
  clear hW1 hW2 hW3
  simp [apA,Jo,p2,e1,e2]
  simp [apA,e3,e4,e5]
  refine Zcw ⟨_,_,_,J0,J1,L2,rfl,pW,gCW,gTW,gSW,?_,fun j hj=>?_⟩
  · refine List.nodup_append.2 ⟨n1,n2,fun x hx y hy e=>?_⟩
    subst e
    have h1:x < X1.length:=by
      rcases List.mem_append.1 hx with h | h
      · exact gC.lt x h
      · exact gT.lt x h
    have:=k2 x hy
    omega
  · rcases List.mem_append.1 hj with h | h
    · have:=kk1 j h; omega
    · have:=kk2 j h; omega
def DmV (M:Mem) (x:Zx.D) (lf:Int) (r:V × Mem):Prop:=∃ cs L,r.1=.tuple #[.agg cs.toArray,.int .i64 (dmC x lf)]∧M <+: r.2∧Own Zx r.2 cs (dmO x lf) L∧L.Nodup∧∀ j ∈ L,M.length≤j∧j < r.2.length
theorem ZGX {M X:Mem} {x:Zx.D} {lf:Int} {c:Int} (h:dmC x lf=c) (hc:c ≠ 0) (hp:M <+: X):DmV M x lf (.tuple #[.agg #[.int .i64 0,.int .i64 0,.int .i64 0,.int .i64 0,.slice none 0 0,.slice none 0 0,.slice none 0 0],.int .i64 c],X):=by
  refine ⟨_,[],by rw [h],hp,?_,by simp,by simp⟩
  have e:dmO x lf=Zm2:=by unfold dmO; rw [if_neg (by rw [h]; exact hc)]
  rw [e]
  exact ZCn X
set_option maxRecDepth 20000 in
set_option maxHeartbeats 4000000 in
theorem Zm4 (M:Mem) (cs:List V) (x:Zx.D) (lf:Int) (h:Rep Zx M cs x) (hz:Zcz x.2.2.2.2) (hc:x.2.2.2.1.2.1.length≤1048576) (hs:∀ c ∈ x.2.2.2.1.2.1,List.length (α:=UInt8) c≤1048576):Sat (Zb T0 JY [.agg cs.toArray,.int .i64 lf] M) (DmV M x lf):=by
  have ho:=h.one
  have hl:cs.length=7:=h.len
  have hpre:M <+: M++[(⟨cs,1,2⟩:Blk),⟨[.int .i64 0,.int .i64 0,.int .i64 0,.int .i64 0,.slice none 0 0,.slice none 0 0,.slice none 0 0],1,2⟩]:=List.prefix_append _ _
  have hbx:(M++[(⟨cs,1,2⟩:Blk),⟨[.int .i64 0,.int .i64 0,.int .i64 0,.int .i64 0,.slice none 0 0,.slice none 0 0,.slice none 0 0],1,2⟩])[M.length]?=some ⟨cs,1,2⟩:=by simp
  have hby:(M++[(⟨cs,1,2⟩:Blk),⟨[.int .i64 0,.int .i64 0,.int .i64 0,.int .i64 0,.slice none 0 0,.slice none 0 0,.slice none 0 0],1,2⟩])[M.length+1]?=some ⟨[.int .i64 0,.int .i64 0,.int .i64 0,.int .i64 0,.slice none 0 0,.slice none 0 0,.slice none 0 0],1,2⟩:=by simp
  have gA:=Zfv (k:=0) (n:=7) hbx (by omega) (by rw [List.drop_zero,List.take_of_length_le (by omega)])
  have eA:=ZlM _ cs x lf (h.mono hpre) hz hc
  have hdc:dmC x lf=if ((orO x).isSome && ZeU x.1 lf)=true then acC x.2.2.2.1.2.2 (Int.toNat x.1) (Zpq x lf) x.2.2.1 else 1:=rfl
  have zst:∀ (X:Mem),X[M.length+1]?=some ⟨[.int .i64 0,.int .i64 0,.int .i64 0,.int .i64 0,.slice none 0 0,.slice none 0 0,.slice none 0 0],1,2⟩→wrn X (M.length+1) 0 [.int .i64 0,.int .i64 0,.int .i64 0,.int .i64 0,.slice none 0 0,.slice none 0 0,.slice none 0 0]=some X∧rdn X (M.length+1) 0 7=some [.int .i64 0,.int .i64 0,.int .i64 0,.int .i64 0,.slice none 0 0,.slice none 0 0,.slice none 0 0]:=fun X hX=>by
    refine ⟨?_,Zfv hX (by simp) rfl⟩
    rw [ZdU hX rfl (by simp) rfl]
    congr 1
    apply List.ext_getElem?
    intro j
    by_cases e:j=M.length+1
    · subst e
      rw [ZbN hX,hX]
      rfl
    · rw [Je (fun e2=>e e2.symm)]
  have z0:=zst _ hby
  cases hv:((orO x).isSome && ZeU x.1 lf) with
  | false =>
    rw [hv] at eA
    have h1:dmC x lf=1:=by rw [hdc,hv]; rfl
    rw [Zc ZiW]; unfold Zc6 Zfi; simp [apA,ho,hl,gA,eA,z0.1,z0.2]
    exact ⟨_,rfl,ZGX h1 (by decide) hpre⟩
  | true =>
  rw [hv] at eA hdc
  rw [if_pos rfl] at hdc
  have hv2:=hv
  rw [Bool.and_eq_true] at hv2
  obtain ⟨r,hr⟩:=Option.isSome_iff_exists.1 hv2.1
  obtain ⟨k,hk,hk6,hfr,hout,q3,q4,q1,q5⟩:=Znu hr
  have hlf:=hv2.2
  have hwf:=h
  obtain ⟨_,_,_,_,y0,y1,y2,y3,_⟩:=Zdk hwf
  obtain ⟨l,w,b,m,st⟩:=x
  obtain ⟨sz,cells,log⟩:=m
  simp only at hk hfr hout q1 q5 hlf hz hc hs hdc y0 y1 y2 y3
  subst hk
  obtain ⟨hlf1,hlf2⟩:=ZfS hlf
  unfold frO at hfr
  simp only [Bool.and_eq_true,decide_eq_true_eq] at hfr
  obtain ⟨f1,f2,f3,f4,f5,f6,f7,f8⟩:=hfr
  obtain ⟨m1,m2,m3⟩:=ZpS f4
  simp only at m1 m2 m3 f5 f6
  have st8:st.length≤128∧Z4 k w st=true:=by unfold ZeV at f8; simpa using f8
  unfold wdB at f2
  unfold bdB at f3
  simp only [Bool.and_eq_true,decide_eq_true_eq] at f2 f3
  obtain ⟨wn,hwn⟩:∃ wn:Nat,w=(wn:Int):=⟨Int.toNat w,(show ∀ z:Int,1≤z→z=((Int.toNat z:Nat):Int) from fun z hz=>by omega) w f2.1⟩
  subst hwn
  obtain ⟨a,ha⟩:∃ a:Nat,Int.toNat lf=a:=⟨_,rfl⟩
  have hk0:Int.toNat (k:Int)=k:=by omega
  have hw0:Int.toNat (wn:Int)=wn:=by omega
  rw [ha] at hlf1 hlf2
  have hCl:=ZmU _ cs _ (h.mono hpre) hz ⟨m1,m2,hs⟩
  rw [Zc ZiW]; unfold Zc6 Zfi; simp [apA,ho,hl,gA,eA,zeroCells]
  generalize hx:Zb T0 Za6 _ _=xhx
  obtain ⟨_,X1,rfl,uC,uT,uS,L0,L1,L2,rfl,p1,gC,gT,gS,nd,ge⟩:=ZQ hx hCl
  clear hx
  simp only at p1 gC gT gS
  obtain ⟨aC,hC⟩:=gC.shape
  obtain ⟨aT,hT⟩:=gT.shape
  obtain ⟨aS,hS⟩:=gS.shape
  subst hC hT hS
  simp [apA,zeroCells]
  have hX1:X1 <+: X1++[(⟨[.int .i64 k,.int .i64 wn,.int .i64 b,.int .i64 sz,.slice aC cells.length cells.length,.slice aT log.length log.length,.slice aS st.length st.length],1,2⟩:Blk)]:=List.prefix_append _ _
  have hbP:(X1++[(⟨[.int .i64 k,.int .i64 wn,.int .i64 b,.int .i64 sz,.slice aC cells.length cells.length,.slice aT log.length log.length,.slice aS st.length st.length],1,2⟩:Blk)])[X1.length]?=some ⟨[.int .i64 k,.int .i64 wn,.int .i64 b,.int .i64 sz,.slice aC cells.length cells.length,.slice aT log.length log.length,.slice aS st.length st.length],1,2⟩:=List.getElem?_concat_length
  have hp6:2 ^ k≤2 ^ 6:=Nat.pow_le_pow_right (by omega) hk6
  have hp0:0 < 2 ^ k:=Nat.two_pow_pos k
  have hok:∀ c ∈ cells,ZfD k wn c=true:=fun c hc=>List.all_eq_true.1 q1 c hc
  have ndd:=List.nodup_append.1 nd
  rw [hk0] at f5
  have hAc:=ZoD _ X1.length k a wn b sz _ _ _ cells log st L0 L1 L2 hbP (gC.grow hX1) (gT.grow hX1) (gS.grow hX1) ndd.1 (fun hm=>by
    rcases List.mem_append.1 hm with h | h
    · have:=gC.lt _ h; omega
    · have:=gT.lt _ h; omega) hk6 hlf2 (by omega) (by omega) hok hs st8.2 (by omega) m2 y3 hz _ rfl _ rfl _ rfl _ rfl
  rw [← hlf1] at hAc
  have eX:Znv ((k:Int),(wn:Int),b,(sz,cells,log),st) lf=Zl4 wn cells (2 ^ k+a) k st (k+1):=by unfold Znv; simp only [hk0,ha]
  have eR:Zpq ((k:Int),(wn:Int),b,(sz,cells,log),st) lf=(ZS k a (Zl4 wn cells (2 ^ k+a) k st (k+1)) (k+1)).2:=by unfold Zpq; rw [eX]; simp only [hk0,ha]
  have eP:Zth ((k:Int),(wn:Int),b,(sz,cells,log),st) lf=(ZS k a (Zl4 wn cells (2 ^ k+a) k st (k+1)) (k+1)).1:=by unfold Zth; rw [eX]; simp only [hk0,ha]
  have eO:ZhN ((k:Int),(wn:Int),b,(sz,cells,log),st) lf=wrS wn sz (2 ^ k+a) k (Zl4 wn cells (2 ^ k+a) k st (k+1)) (ZS k a (Zl4 wn cells (2 ^ k+a) k st (k+1)) (k+1)).1 cells (lgR sz (2 ^ k+a) k log (k+1)) (k+1):=by unfold ZhN; rw [eX,eP]; simp only [hk0,hw0,ha]
  rw [← eO,← eR] at hAc
  rw [hk0] at hdc
  rw [← hdc] at hAc
  generalize hx:Zb T0 Zac _ _=xhx
  obtain ⟨⟨v3,X3⟩,e3,hr3,ag,hgood⟩:=hAc
  rw [e3] at hx
  subst hx
  simp only at hr3 ag hgood
  subst hr3
  have hMl:M.length+2≤X1.length:=by have:=p1.length_le; simp at this; omega
  have hWM:∀ j ∈ X1.length :: (L0++L1),M.length+2≤j:=fun j hj=>by
    rcases List.mem_cons.1 hj with rfl | hj
    · exact hMl
    · have:=ge j (List.mem_append_left _ hj)
      simp at this
      omega
  have pM3:M <+: X3:=ag.pre ((hpre.trans p1).trans hX1) (fun j hj=>by have:=hWM j hj; omega)
  have hy3:X3[M.length+1]?=some ⟨[.int .i64 0,.int .i64 0,.int .i64 0,.int .i64 0,.slice none 0 0,.slice none 0 0,.slice none 0 0],1,2⟩:=ag.get (Zh (p1.trans hX1) hby) (fun hm=>by have:=hWM _ hm; omega)
  have z3:=zst _ hy3
  by_cases hcz:dmC ((k:Int),(wn:Int),b,(sz,cells,log),st) lf=0
  rotate_left
  · have hfin:=ZGX (M:=M) (X:=X3) rfl hcz pM3
    generalize dmC ((k:Int),(wn:Int),b,(sz,cells,log),st) lf=cc at *
    simp [apA,hcz,z3.1,z3.2]
    exact ⟨_,rfl,hfin⟩
  obtain ⟨uT',uS',J0,J1,K,hb3,gC3,gT3,oS3,nd3,hpn,hj3⟩:=hgood hcz
  obtain ⟨aT',hT'⟩:=gT3.shape
  obtain ⟨aS',cS',hS'⟩:=oS3.rep.slen
  subst hT' hS'
  rw [hcz]
  have e7:rdn X3 X1.length 0 7=some [.int .i64 k,.int .i64 wn,.int .i64 b,.int .i64 sz,.slice aC cells.length cells.length,.slice aT' (ZhN ((k:Int),(wn:Int),b,(sz,cells,log),st) lf).2.length (ZhN ((k:Int),(wn:Int),b,(sz,cells,log),st) lf).2.length,.slice aS' (Zpq ((k:Int),(wn:Int),b,(sz,cells,log),st) lf).length cS']:=Zfv hb3 (by simp) rfl
  have hdO:dmO ((k:Int),(wn:Int),b,(sz,cells,log),st) lf=((k:Int),(wn:Int),b,(sz,(ZhN ((k:Int),(wn:Int),b,(sz,cells,log),st) lf).1,(ZhN ((k:Int),(wn:Int),b,(sz,cells,log),st) lf).2),Zpq ((k:Int),(wn:Int),b,(sz,cells,log),st) lf):=by unfold dmO; rw [if_pos hcz]
  have kJ:∀ j ∈ (J0++J1)++K,M.length+2≤j∧j < X3.length:=fun j hj=>by
    obtain ⟨h1,h2⟩:=hj3 j hj
    refine ⟨?_,h2⟩
    rcases h1 with h1 | h1
    · exact hWM j h1
    · simp at h1; omega
  generalize (ZhN ((k:Int),(wn:Int),b,(sz,cells,log),st) lf).1=out1 at *
  generalize (ZhN ((k:Int),(wn:Int),b,(sz,cells,log),st) lf).2=out2 at *
  generalize hRs:Zpq ((k:Int),(wn:Int),b,(sz,cells,log),st) lf=rs at *
  obtain ⟨W4,hW4,e8⟩:∃ W4,W4=X3.set (M.length+1) ⟨[.int .i64 k,.int .i64 wn,.int .i64 b,.int .i64 sz,.slice aC cells.length cells.length,.slice aT' out2.length out2.length,.slice aS' rs.length cS'],1,2⟩∧wrn X3 (M.length+1) 0 [.int .i64 k,.int .i64 wn,.int .i64 b,.int .i64 sz,.slice aC cells.length cells.length,.slice aT' out2.length out2.length,.slice aS' rs.length cS']=some W4:=⟨_,rfl,by rw [ZdU hy3 rfl (by simp) rfl]; rfl⟩
  have hb4:W4[M.length+1]?=some ⟨[.int .i64 k,.int .i64 wn,.int .i64 b,.int .i64 sz,.slice aC cells.length cells.length,.slice aT' out2.length out2.length,.slice aS' rs.length cS'],1,2⟩:=by rw [hW4]; exact ZbN hy3 _
  have e9:rdn W4 (M.length+1) 0 7=some [.int .i64 k,.int .i64 wn,.int .i64 b,.int .i64 sz,.slice aC cells.length cells.length,.slice aT' out2.length out2.length,.slice aS' rs.length cS']:=Zfv hb4 (by simp) rfl
  have pW:M <+: W4:=by rw [hW4]; exact QQ (by omega) pM3
  have gC4:Gr (.sl Zi) W4 [.slice aC cells.length cells.length] out1 J0:=by rw [hW4]; exact gC3.set _ (fun hm=>by have:=kJ _ (List.mem_append_left _ (List.mem_append_left _ hm)); omega)
  have gT4:Gr (.sl Zf) W4 [.slice aT' out2.length out2.length] out2 J1:=by rw [hW4]; exact gT3.set _ (fun hm=>by have:=kJ _ (List.mem_append_left _ (List.mem_append_right _ hm)); omega)
  have oS4:Own (.sl Za) W4 [.slice aS' rs.length cS'] rs K:=by rw [hW4]; exact Own.set hy3 (by rfl) oS3 (fun hm=>by have:=kJ _ (List.mem_append_right _ hm); omega)
  obtain ⟨J0',oC,sC⟩:=gC4.own
  obtain ⟨J1',oT,sT⟩:=gT4.own
  have hsub:=(sC.append sT).append (List.Sublist.refl K)
  have hlen4:W4.length=X3.length:=by rw [hW4,List.length_set]
  clear hW4
  simp [apA,e7,e8,e9]
  refine ⟨_,rfl,[.int .i64 k,.int .i64 wn,.int .i64 b,.int .i64 sz,.slice aC cells.length cells.length,.slice aT' out2.length out2.length,.slice aS' rs.length cS'],(J0'++J1')++K,?_,pW,?_,hsub.nodup nd3,fun j hj=>?_⟩
  · rw [hcz]
  · rw [hdO]
    exact Ze0 (x:=((k:Int),(wn:Int),b,(sz,out1,out2),rs)) y0 y1 y2 y3 oC oT oS4
  · have:=kJ j (hsub.subset hj)
    show M.length≤j∧j < W4.length
    omega
theorem ZiC (M:Mem) (cs:List V) (x:Zx.D) (h:Rep Zx M cs x) (hb:Bd 1048576 Zx x) (lf:Int) :
    ∃ M' r L,M <+: M'∧Zb T0 JY [.agg cs.toArray,.int .i64 lf] M=some (.tuple #[.agg r.toArray,.int .i64 (dmC x lf)],M')∧Own Zx M' r (dmO x lf) L∧Zlh M M' L:=by
  obtain ⟨h1,h2,h3⟩:=ZsY hb
  obtain ⟨⟨p,M'⟩,e,r,L,rfl,q1,q2,q3,q4⟩:=Zm4 M cs x lf h h1 h2 h3
  exact ⟨M',r,L,q1,e,q2,q3,q4⟩
theorem Zxd {w m N:Nat} {sz:Int} {xs:List Za.D} {plan:List ZB.D} {cells:List Zi.D} {log:List Zf.D} (hb:∀ j:Nat,j≤m→(ndY w (Zgp xs (j:Int) plan)).length≤1048576):∀ k,∀ c ∈ (wrS w sz N m xs plan cells log k).1,c ∈ cells∨List.length (α:=UInt8) c≤1048576
  | 0,c,hc=>.inl hc
  | k+1,c,hc=>by
    rcases List.mem_or_eq_of_mem_set (show c ∈ (wrS w sz N m xs plan cells log k).1.set _ _ from hc) with h | rfl
    · exact Zxd hb k c h
    · exact .inr (hb (m - k) (by omega))
theorem ZEA (x:Zx.D) (lf:Int) (hb:Bd 1048576 Zx x):Bd 1048576 Zx (dmO x lf):=by
  unfold dmO
  split
  rotate_left
  · exact ⟨trivial,trivial,trivial,⟨trivial,⟨by simp [Zm2],by simp [Zm2]⟩,⟨by simp [Zm2],by simp [Zm2]⟩⟩,⟨by simp [Zm2],by simp [Zm2]⟩⟩
  rename_i hdm
  have hdc:dmC x lf=if ((orO x).isSome && ZeU x.1 lf)=true then acC x.2.2.2.1.2.2 (Int.toNat x.1) (Zpq x lf) x.2.2.1 else 1:=rfl
  rw [hdm] at hdc
  cases hv:((orO x).isSome && ZeU x.1 lf) with
  | false=>rw [hv] at hdc; simp at hdc
  | true =>
  rw [hv,if_pos rfl] at hdc
  rw [Bool.and_eq_true] at hv
  obtain ⟨hc1,hc2,hc3⟩:=ZsY hb
  obtain ⟨r,hr⟩:=Option.isSome_iff_exists.1 hv.1
  obtain ⟨k,hk,hk6,hfr,hout,q3,q4,q1,q5⟩:=Znu hr
  have hv2:=hv.2
  clear hb hr hv hdm
  obtain ⟨l,w,b,m,st⟩:=x
  obtain ⟨sz,cells,log⟩:=m
  simp only at hk hfr q1 hv2 hdc hc1 hc2 hc3 ⊢
  subst hk
  obtain ⟨hlf1,hlf2⟩:=ZfS hv2
  unfold frO at hfr
  simp only [Bool.and_eq_true,decide_eq_true_eq] at hfr
  obtain ⟨f1,f2,f3,f4,f5,f6,f7,f8⟩:=hfr
  obtain ⟨m1,m2,m3⟩:=ZpS f4
  simp only at m1 m2 m3 f5 f6
  have st8:st.length≤128∧Z4 k w st=true:=by unfold ZeV at f8; simpa using f8
  unfold wdB at f2
  simp only [Bool.and_eq_true,decide_eq_true_eq] at f2
  obtain ⟨wn,hwn⟩:∃ wn:Nat,w=(wn:Int):=⟨Int.toNat w,(show ∀ z:Int,1≤z→z=((Int.toNat z:Nat):Int) from fun z hz=>by omega) w f2.1⟩
  subst hwn
  obtain ⟨a,ha⟩:∃ a:Nat,Int.toNat lf=a:=⟨_,rfl⟩
  have hk0:Int.toNat (k:Int)=k:=by omega
  have hw0:Int.toNat (wn:Int)=wn:=by omega
  rw [ha] at hlf1 hlf2
  rw [hk0] at f5 hdc
  have hp0:0 < 2 ^ k:=Nat.two_pow_pos k
  have hlen:cells.length+1=2 * 2 ^ k:=by omega
  obtain ⟨hxb,hxl⟩:=ZtH (w:=wn) hlf2 hlen (fun c hc=>List.all_eq_true.1 q1 c hc) st8.2 (k+1) (Nat.le_refl _)
  have eX:Znv ((k:Int),(wn:Int),b,(sz,cells,log),st) lf=Zl4 wn cells (2 ^ k+a) k st (k+1):=by unfold Znv; simp only [hk0,ha]
  rw [← eX] at hxb hxl
  have hlt:ZhP (Znv ((k:Int),(wn:Int),b,(sz,cells,log),st) lf):=by
    rw [eX]
    have:∀ i,i≤k+1→ZhP (Zl4 wn cells (2 ^ k+a) k st i)∧Zgv (Zl4 wn cells (2 ^ k+a) k st i):=fun i=>by
      induction i with
      | zero=>exact fun _=>⟨Zgh st8.2,ZjI st8.2⟩
      | succ i ih =>
        intro hi
        obtain ⟨g1,g2⟩:=ih (by omega)
        obtain ⟨b1,b2⟩:=ZiA (m:=k) (a:=a) (i:=i) hlf2 (by omega)
        exact Zqa _ _ g1 g2 (ZjI (Zw1 (fun c hc=>List.all_eq_true.1 q1 c hc) b1 (by omega)).1)
    exact (this (k+1) (Nat.le_refl _)).1
  have hdat:∀ y ∈ Znv ((k:Int),(wn:Int),b,(sz,cells,log),st) lf,List.length (α:=UInt8) y.2.2≤1048576:=fun y hy=>by
    have:=hxb y hy
    unfold ZbS at this
    simp only [Bool.and_eq_true,decide_eq_true_eq] at this
    omega
  have eR:Zpq ((k:Int),(wn:Int),b,(sz,cells,log),st) lf=(ZS k a (Znv ((k:Int),(wn:Int),b,(sz,cells,log),st) lf) (k+1)).2:=by unfold Zpq; simp only [hk0,ha]
  have eP:Zth ((k:Int),(wn:Int),b,(sz,cells,log),st) lf=(ZS k a (Znv ((k:Int),(wn:Int),b,(sz,cells,log),st) lf) (k+1)).1:=by unfold Zth; simp only [hk0,ha]
  have hsubR:(Zpq ((k:Int),(wn:Int),b,(sz,cells,log),st) lf).Sublist (Znv ((k:Int),(wn:Int),b,(sz,cells,log),st) lf):=by rw [eR,Zih]; exact Zlf _ _
  have hlg':lgB k=true:=f1
  have hwd':wdB wn=true:=by unfold wdB; simp; omega
  have hnd:∀ j:Nat,j≤k→(ndY wn (Zgp (Znv ((k:Int),(wn:Int),b,(sz,cells,log),st) lf) (j:Int) (Zth ((k:Int),(wn:Int),b,(sz,cells,log),st) lf))).length≤1048576:=fun j hj=>by
    obtain ⟨s1,s2⟩:=Zr8 (m:=k) (leaf:=a) hlt hj
    rw [← eP] at s1 s2
    have hBk:=ZAT hk6 (Zoy hlg' hwd' (fun b hb=>hxb b (s1.subset hb)) (hlt.sublist s1))
    unfold ndY
    rw [List.length_append,List.length_replicate,Ze2 hBk]
    have:(Zgp (Znv ((k:Int),(wn:Int),b,(sz,cells,log),st) lf) (j:Int) (Zth ((k:Int),(wn:Int),b,(sz,cells,log),st) lf)).length * (wn+3)≤4 * 203:=Nat.mul_le_mul s2 (by omega)
    omega
  have hlogs:¬ 6000 < log.length+2 * (k+1):=fun h=>by
    unfold acC at hdc
    rw [if_pos h] at hdc
    omega
  have hwl:=ZsD wn sz (2 ^ k+a) k (Znv ((k:Int),(wn:Int),b,(sz,cells,log),st) lf) (Zth ((k:Int),(wn:Int),b,(sz,cells,log),st) lf) cells (lgR sz (2 ^ k+a) k log (k+1)) (k+1)
  rw [Zox] at hwl
  have eO:ZhN ((k:Int),(wn:Int),b,(sz,cells,log),st) lf=wrS wn sz (2 ^ k+a) k (Znv ((k:Int),(wn:Int),b,(sz,cells,log),st) lf) (Zth ((k:Int),(wn:Int),b,(sz,cells,log),st) lf) cells (lgR sz (2 ^ k+a) k log (k+1)) (k+1):=by unfold ZhN; simp only [hk0,hw0,ha]
  rw [eO]
  refine ⟨trivial,trivial,trivial,⟨trivial,⟨by rw [hwl.1]; omega,fun c hc=>⟨?_,fun _ _=>trivial⟩⟩,⟨by rw [hwl.2]; omega,fun _ _=>⟨trivial,trivial,trivial⟩⟩⟩,⟨by have:=hsubR.length_le; show (Zpq _ _).length≤1048576; omega,fun y hy=>⟨trivial,trivial,hdat y (hsubR.subset hy),fun _ _=>trivial⟩⟩⟩
  rcases Zxd hnd (k+1) c hc with h | h
  · exact hc3 c h
  · exact h
set_option maxHeartbeats 8000000 in
set_option maxRecDepth 20000 in
theorem Zh0 (M:Mem) (v_o:List V) (o:Zx.D) (h_o:Rep Zx M v_o o) (hb_o:Bd 9223372036854775807 Zx o) (leaf:Int):∃ M',Zb T0 Ju [.agg v_o.toArray,.int .i64 leaf] M=some (.bool true,M'):=by
  have hl_v_o:v_o.length=7:=(h_o).len
  have ho_v_o:=(h_o).one
  obtain ⟨l_o,s1_o,s2_o,s3_o⟩:=Zqz (M++[⟨v_o,1,2⟩]) v_o o 1048576 (h_o.mono ((List.prefix_refl _).trans (List.prefix_append _ _))) hb_o (by omega) (by omega)
  have r1:rdn (M++[⟨v_o,1,2⟩]) (M.length) 0 7=some v_o:=Qf (by first | simp | rfl) hl_v_o.symm
  by_cases hl_o:l_o < 0
  · refine ⟨M,?_⟩
    rw [Zc Zd6]; unfold Jt ZaQ; simp [apA,hl_v_o,ho_v_o,r1,s2_o,hl_o]
  have hb1_o:=s3_o (by omega)
  have hr_0:Bd 1048576 Zx (dmO o leaf):=ZEA o leaf hb1_o
  have ht_0:=ZtZ _ hr_0
  have ht_o:=ZtZ _ hb1_o
  have r2:rdn (M++[⟨v_o,1,2⟩]) (M.length) 0 7=some v_o:=Qf (by first | simp | rfl) hl_v_o.symm
  obtain ⟨M3,u4,L5,p6,t7,o8,F9⟩:=ZfP (M++[⟨v_o,1,2⟩]) v_o o (h_o.mono ((List.prefix_refl _).trans (List.prefix_append _ _))) hb1_o
  have f10:∀ l ∈ L5,M.length+1≤l∧l < M3.length:=by intro l hl; have:=F9.2 l hl; (try simp only [List.length_append,List.length_cons,List.length_nil] at this); omega
  have q11:M <+: M3:=(List.prefix_append _ _).trans p6
  have ln12:M.length+1≤M3.length:=by have:=p6.length_le; (try simp only [List.length_append,List.length_cons,List.length_nil] at this); omega
  have b13:M3[M.length]?=some ⟨v_o,1,2⟩:=Zh p6 (by simp)
  have z14:M <+: M3:=(List.prefix_refl _).trans q11
  have hl_u4:u4.length=7:=(o8.rep).len
  have ho_u4:=(o8.rep).one
  obtain ⟨M16,g19,p17,s18,o20⟩:=Zm1 M3 u4 o ((Own.grow (List.prefix_refl _) o8)).rep hb1_o leaf
  have q21:M3 <+: M16:=(List.prefix_refl _).trans p17
  have ln22:M3.length≤M16.length:=by have:=p17.length_le; (try simp only [List.length_append,List.length_cons,List.length_nil] at this); omega
  have b23:M16[M.length]?=some ⟨v_o,1,2⟩:=Zh q21 b13
  have o24:=Own.grow q21 o8
  have z25:M <+: M16:=z14.trans q21
  have hl_g19:g19.length=7:=(o20).len
  have ho_g19:=(o20).one
  have r27:rdn (M16++[⟨g19,1,2⟩]) (M.length) 0 7=some v_o:=ZkH (Qf b23 hl_v_o.symm)
  obtain ⟨M28,u29,L30,p31,t32,o33,F34⟩:=ZfP (M16++[⟨g19,1,2⟩]) v_o o (h_o.mono (z25.trans (List.prefix_append _ _))) hb1_o
  have f35:∀ l ∈ L30,M16.length+1≤l∧l < M28.length:=by intro l hl; have:=F34.2 l hl; (try simp only [List.length_append,List.length_cons,List.length_nil] at this); omega
  have q36:M16 <+: M28:=(List.prefix_append _ _).trans p31
  have ln37:M16.length+1≤M28.length:=by have:=p31.length_le; (try simp only [List.length_append,List.length_cons,List.length_nil] at this); omega
  have b38:M28[M.length]?=some ⟨v_o,1,2⟩:=Zh q36 b23
  have b39:M28[M16.length]?=some ⟨g19,1,2⟩:=Zh p31 (by simp)
  have z40:M <+: M28:=z25.trans q36
  have y41:M16 <+: M28:=(List.prefix_refl _).trans q36
  have hl_u29:u29.length=7:=(o33.rep).len
  have ho_u29:=(o33.rep).one
  have r43:rdn (M28++[⟨u29,1,2⟩]) (M28.length) 0 7=some u29:=Qf (by first | simp | rfl) hl_u29.symm
  obtain ⟨M44,g47,L48,p45,s46,o49,F50⟩:=ZiC (M28++[⟨u29,1,2⟩]) u29 o ((Own.grow (List.prefix_append _ _) o33)).rep hb1_o leaf
  have q51:M28 <+: M44:=(List.prefix_append _ _).trans p45
  have ln52:M28.length+1≤M44.length:=by have:=p45.length_le; (try simp only [List.length_append,List.length_cons,List.length_nil] at this); omega
  have b53:M44[M.length]?=some ⟨v_o,1,2⟩:=Zh q51 b38
  have b54:M44[M16.length]?=some ⟨g19,1,2⟩:=Zh q51 b39
  have b55:M44[M28.length]?=some ⟨u29,1,2⟩:=Zh p45 (by simp)
  have o56:=Own.grow q51 o33
  have z57:M <+: M44:=z40.trans q51
  have y58:M16 <+: M44:=y41.trans q51
  have f59:∀ l ∈ L48,M28.length+1≤l∧l < M44.length:=by intro l hl; have:=F50.2 l (by simp [hl]); (try simp only [List.length_append,List.length_cons,List.length_nil] at this); omega
  have nd60:L48.Nodup:=by have:=F50.1; first | exact this | (simp only [List.nodup_append] at this; simp [this])
  have hl_g47:g47.length=7:=(o49.rep).len
  have ho_g47:=(o49.rep).one
  have r62:rdn (M44++[⟨g47,1,2⟩]) (M44.length) 0 7=some g47:=Qf (by first | simp | rfl) hl_g47.symm
  have r63:rdn (M44++[⟨g47,1,2⟩]) (M16.length) 0 7=some g19:=ZkH (Qf b54 hl_g19.symm)
  have e64:=(Zfz (ZfQ (M44++[⟨g47,1,2⟩]) _ _ _ _ ((Own.grow (List.prefix_append _ _) o49)).rep (o20.mono (y58.trans (List.prefix_append _ _))) (hr_0.mono (by decide)))).1 rfl
  have r65:rdn (M44++[⟨g47,1,2⟩]) (M28.length) 0 7=some u29:=ZkH (Qf b55 hl_u29.symm)
  have r66:rdn (M44++[⟨g47,1,2⟩]) (M.length) 0 7=some v_o:=ZkH (Qf b53 hl_v_o.symm)
  obtain ⟨M67,u68,L69,p70,t71,o72,F73⟩:=ZfP (M44++[⟨g47,1,2⟩]) v_o o (h_o.mono (z57.trans (List.prefix_append _ _))) hb1_o
  have f74:∀ l ∈ L69,M44.length+1≤l∧l < M67.length:=by intro l hl; have:=F73.2 l hl; (try simp only [List.length_append,List.length_cons,List.length_nil] at this); omega
  have q75:M44 <+: M67:=(List.prefix_append _ _).trans p70
  have ln76:M44.length+1≤M67.length:=by have:=p70.length_le; (try simp only [List.length_append,List.length_cons,List.length_nil] at this); omega
  have b77:M67[M.length]?=some ⟨v_o,1,2⟩:=Zh q75 b53
  have b78:M67[M16.length]?=some ⟨g19,1,2⟩:=Zh q75 b54
  have b79:M67[M28.length]?=some ⟨u29,1,2⟩:=Zh q75 b55
  have b80:M67[M44.length]?=some ⟨g47,1,2⟩:=Zh p70 (by simp)
  have o81:=Own.grow q75 o56
  have o82:=Own.grow q75 o49
  have z83:M <+: M67:=z57.trans q75
  have y84:M16 <+: M67:=y58.trans q75
  have hl_u68:u68.length=7:=(o72.rep).len
  have ho_u68:=(o72.rep).one
  have e86:=(Zfz (ZfQ M67 _ _ _ _ ((Own.grow (List.prefix_refl _) o81)).rep ((Own.grow (List.prefix_refl _) o72)).rep (hb1_o.mono (by decide)))).1 rfl
  have r87:rdn M67 (M28.length) 0 7=some u29:=Qf b79 hl_u29.symm
  obtain ⟨M88,m89,up90,o91⟩:=Zjj M67 _ _ _ (1) (Own.grow (List.prefix_refl _) o81) F34.1 hb1_o (by omega) (by omega)
  have ln92:M67.length≤M88.length:=by have:=up90.1; (try simp only [List.length_append,List.length_cons,List.length_nil] at this); omega
  have hh94:M67[M.length]?=some ⟨v_o,1,2⟩:=Zh (List.prefix_refl _) b77
  have b93:M88[M.length]?=some ⟨v_o,1,2⟩:=ZfO.get up90 hh94 (fun hl=>by have:=f35 _ hl; omega)
  have hh96:M67[M16.length]?=some ⟨g19,1,2⟩:=Zh (List.prefix_refl _) b78
  have b95:M88[M16.length]?=some ⟨g19,1,2⟩:=ZfO.get up90 hh96 (fun hl=>by have:=f35 _ hl; omega)
  have hh98:M67[M28.length]?=some ⟨u29,1,2⟩:=Zh (List.prefix_refl _) b79
  have b97:M88[M28.length]?=some ⟨u29,1,2⟩:=ZfO.get up90 hh98 (fun hl=>by have:=f35 _ hl; omega)
  have hh100:M67[M44.length]?=some ⟨g47,1,2⟩:=Zh (List.prefix_refl _) b80
  have b99:M88[M44.length]?=some ⟨g47,1,2⟩:=ZfO.get up90 hh100 (fun hl=>by have:=f35 _ hl; omega)
  have o101:=Own.updg up90 (Own.grow (List.prefix_refl _) o82) (fun l hl hk=>(by have:=f59 l hl; have:=f35 l hk; omega))
  have z102:M <+: M88:=ZfO.pre up90 (z83.trans (List.prefix_refl _)) (fun l hl=>by have:=f35 l hl; omega)
  have y103:M16 <+: M88:=ZfO.pre up90 (y84.trans (List.prefix_refl _)) (fun l hl=>by have:=f35 l hl; omega)
  have c104:¬ (1+Zg1 o < 0):=by omega
  have r105:rdn M88 (M44.length) 0 7=some g47:=Qf b99 hl_g47.symm
  have r106:rdn M88 (M16.length) 0 7=some g19:=Qf b95 hl_g19.symm
  have e107:=(Zfz (ZfQ M88 _ _ _ _ ((Own.grow (List.prefix_refl _) o101)).rep (o20.mono (y103.trans (List.prefix_refl _))) (hr_0.mono (by decide)))).1 rfl
  have r108:rdn M88 (M44.length) 0 7=some g47:=Qf b99 hl_g47.symm
  obtain ⟨M109,m110,up111,o112⟩:=Zjj M88 _ _ _ (1) (Own.grow (List.prefix_refl _) o101) nd60 hr_0 (by omega) (by omega)
  have ln113:M88.length≤M109.length:=by have:=up111.1; (try simp only [List.length_append,List.length_cons,List.length_nil] at this); omega
  have hh115:M88[M.length]?=some ⟨v_o,1,2⟩:=Zh (List.prefix_refl _) b93
  have b114:M109[M.length]?=some ⟨v_o,1,2⟩:=ZfO.get up111 hh115 (fun hl=>by have:=f59 _ hl; omega)
  have hh117:M88[M16.length]?=some ⟨g19,1,2⟩:=Zh (List.prefix_refl _) b95
  have b116:M109[M16.length]?=some ⟨g19,1,2⟩:=ZfO.get up111 hh117 (fun hl=>by have:=f59 _ hl; omega)
  have hh119:M88[M28.length]?=some ⟨u29,1,2⟩:=Zh (List.prefix_refl _) b97
  have b118:M109[M28.length]?=some ⟨u29,1,2⟩:=ZfO.get up111 hh119 (fun hl=>by have:=f59 _ hl; omega)
  have hh121:M88[M44.length]?=some ⟨g47,1,2⟩:=Zh (List.prefix_refl _) b99
  have b120:M109[M44.length]?=some ⟨g47,1,2⟩:=ZfO.get up111 hh121 (fun hl=>by have:=f59 _ hl; omega)
  have o122:=Own.updg up111 (Own.grow (List.prefix_refl _) o91) (fun l hl hk=>(by have:=f35 l hl; have:=f59 l hk; omega))
  have z123:M <+: M109:=ZfO.pre up111 (z102.trans (List.prefix_refl _)) (fun l hl=>by have:=f59 l hl; omega)
  have y124:M16 <+: M109:=ZfO.pre up111 (y103.trans (List.prefix_refl _)) (fun l hl=>by have:=f59 l hl; omega)
  have c125:¬ (1+Zg1 (dmO o leaf) < 0):=by omega
  have r126:rdn M109 (M44.length) 0 7=some g47:=Qf b120 hl_g47.symm
  have d127:=ZjQ M109 _ _ (1) ((Own.grow (List.prefix_refl _) o112)).rep hr_0 (by omega) (by omega)
  have c128:¬ (1+Zg1 (dmO o leaf) < 0):=by omega
  have r129:rdn M109 (M.length) 0 7=some v_o:=Qf b114 hl_v_o.symm
  obtain ⟨M130,u131,L132,p133,t134,o135,F136⟩:=ZfP M109 v_o o (h_o.mono (z123.trans (List.prefix_refl _))) hb1_o
  have f137:∀ l ∈ L132,M109.length≤l∧l < M130.length:=by intro l hl; have:=F136.2 l hl; (try simp only [List.length_append,List.length_cons,List.length_nil] at this); omega
  have q138:M109 <+: M130:=(List.prefix_refl _).trans p133
  have ln139:M109.length≤M130.length:=by have:=p133.length_le; (try simp only [List.length_append,List.length_cons,List.length_nil] at this); omega
  have b140:M130[M.length]?=some ⟨v_o,1,2⟩:=Zh q138 b114
  have b141:M130[M16.length]?=some ⟨g19,1,2⟩:=Zh q138 b116
  have b142:M130[M28.length]?=some ⟨u29,1,2⟩:=Zh q138 b118
  have b143:M130[M44.length]?=some ⟨g47,1,2⟩:=Zh q138 b120
  have o144:=Own.grow q138 o122
  have o145:=Own.grow q138 o112
  have z146:M <+: M130:=z123.trans q138
  have y147:M16 <+: M130:=y124.trans q138
  have hl_u131:u131.length=7:=(o135.rep).len
  have ho_u131:=(o135.rep).one
  obtain ⟨M149,g152,L153,p150,s151,o154,F155⟩:=ZiC M130 u131 o ((Own.grow (List.prefix_refl _) o135)).rep hb1_o leaf
  have q156:M130 <+: M149:=(List.prefix_refl _).trans p150
  have ln157:M130.length≤M149.length:=by have:=p150.length_le; (try simp only [List.length_append,List.length_cons,List.length_nil] at this); omega
  have b158:M149[M.length]?=some ⟨v_o,1,2⟩:=Zh q156 b140
  have b159:M149[M16.length]?=some ⟨g19,1,2⟩:=Zh q156 b141
  have b160:M149[M28.length]?=some ⟨u29,1,2⟩:=Zh q156 b142
  have b161:M149[M44.length]?=some ⟨g47,1,2⟩:=Zh q156 b143
  have o162:=Own.grow q156 o144
  have o163:=Own.grow q156 o145
  have o164:=Own.grow q156 o135
  have z165:M <+: M149:=z146.trans q156
  have y166:M16 <+: M149:=y147.trans q156
  have f167:∀ l ∈ L153,M130.length≤l∧l < M149.length:=by intro l hl; have:=F155.2 l (by simp [hl]); (try simp only [List.length_append,List.length_cons,List.length_nil] at this); omega
  have nd168:L153.Nodup:=by have:=F155.1; first | exact this | (simp only [List.nodup_append] at this; simp [this])
  have hl_g152:g152.length=7:=(o154.rep).len
  have ho_g152:=(o154.rep).one
  have r170:rdn (M149++[⟨g152,1,2⟩]) (M149.length) 0 7=some g152:=Qf (by first | simp | rfl) hl_g152.symm
  have r171:rdn (M149++[⟨g152,1,2⟩]) (M16.length) 0 7=some g19:=ZkH (Qf b159 hl_g19.symm)
  have e172:=(Zfz (ZfQ (M149++[⟨g152,1,2⟩]) _ _ _ _ ((Own.grow (List.prefix_append _ _) o154)).rep (o20.mono (y166.trans (List.prefix_append _ _))) (hr_0.mono (by decide)))).1 rfl
  have r173:rdn (M149++[⟨g152,1,2⟩]) (M44.length) 0 7=some g47:=ZkH (Qf b161 hl_g47.symm)
  have d174:=ZjQ (M149++[⟨g152,1,2⟩]) _ _ (1) ((Own.grow (List.prefix_append _ _) o163)).rep hr_0 (by omega) (by omega)
  have c175:¬ (1+Zg1 (dmO o leaf) < 0):=by omega
  rw [Zc Zd6]; unfold Jt ZaQ; simp (maxSteps:=4000000) [apA,hl_v_o,ho_v_o,r1,s2_o,hl_o,r2,t7,p6,hl_u4,ho_u4,s18,p17,hl_g19,ho_g19,r27,t32,p31,hl_u29,ho_u29,r43,s46,p45,hl_g47,ho_g47,r62,r63,e64,r65,r66,t71,p70,hl_u68,ho_u68,e86,r87,m89,c104,r105,r106,e107,r108,m110,c125,r126,d127,c128,r129,t134,p133,hl_u131,ho_u131,s151,p150,hl_g152,ho_g152,r170,r171,e172,r173,d174,c175,Jo]
  all_goals exact ZGe _ _ _
theorem Zg4 (M:Mem) (avs:List V) (_:∀ b ∈ M,b.st ≠ 2) (h:Ins [(true,(.pr (.int .i64) (.pr (.int .i64) (.pr (.int .i64) (.pr (.pr (.int .i64) (.pr (.sl (.sl .u8)) (.sl (.pr (.int .i64) (.pr (.int .i64) (.int .i64)))))) (.sl (.pr (.int .i64) (.pr (.int .i64) (.sl .u8))))))))),(false,(.int .i64))] M avs):∃ M',Zb T0 Ju avs M=some (.bool true,M'):=by
  obtain ⟨v_o,_,o,rfl,h_o,f_o,h⟩:=ZtA h
  obtain ⟨v_leaf,_,leaf,rfl,h_leaf,f_leaf,h⟩:=ZtA h
  obtain rfl:=ZCI h
  obtain ⟨c_o,rfl,h2_o⟩:=Zzi h_o
  obtain ⟨h_leaf,_⟩:=ZAo h_leaf
  cases h_leaf
  exact Zh0 M c_o o h2_o (Zty f_o) leaf
end GoAm
