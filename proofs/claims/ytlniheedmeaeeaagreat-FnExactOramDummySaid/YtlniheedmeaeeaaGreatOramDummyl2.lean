/- What the functions do that the law reaches. -/
import Derived.Test.YtlniheedmeaeeaaGreatOramDummyl1
set_option autoImplicit false
set_option linter.unusedVariables false
set_option linter.unusedSimpArgs false
namespace GoAm
open Go
set_option maxRecDepth 20000 in
set_option maxHeartbeats 4000000 in
theorem ZmR (M:Mem) (cs:List V) (x:Zx.D) (lf:Int) (h:Rep Zx M cs x) (hz:Zcz x.2.2.2.2) (hc:x.2.2.2.1.2.1.length≤1048576) (hs:∀ c ∈ x.2.2.2.1.2.1,List.length (α:=UInt8) c≤1048576) :
    Sat (Zb T0 Zbd [.agg cs.toArray,.int .i64 lf] M) (DsV M x lf):=by
  have ho:=h.one
  have hl:cs.length=7:=h.len
  have hpre:M <+: M++[(⟨cs,1,2⟩:Blk),⟨[.int .i64 0,.int .i64 0,.int .i64 0,.int .i64 0,.slice none 0 0,.slice none 0 0,.slice none 0 0],1,2⟩]:=List.prefix_append _ _
  have hbx:(M++[(⟨cs,1,2⟩:Blk),⟨[.int .i64 0,.int .i64 0,.int .i64 0,.int .i64 0,.slice none 0 0,.slice none 0 0,.slice none 0 0],1,2⟩])[M.length]?=some ⟨cs,1,2⟩:=by simp
  have hby:(M++[(⟨cs,1,2⟩:Blk),⟨[.int .i64 0,.int .i64 0,.int .i64 0,.int .i64 0,.slice none 0 0,.slice none 0 0,.slice none 0 0],1,2⟩])[M.length+1]?=some ⟨[.int .i64 0,.int .i64 0,.int .i64 0,.int .i64 0,.slice none 0 0,.slice none 0 0,.slice none 0 0],1,2⟩:=by simp
  have gA:=Zfv (k:=0) (n:=7) hbx (by omega) (by rw [List.drop_zero,List.take_of_length_le (by omega)])
  have eA:=Zp8 _ cs x (h.mono hpre) hz hc hs
  have eL:=fun M=>Zak M x.1 lf
  have hdc:dmC x lf=if ((orO x).isSome && ZeU x.1 lf)=true then acC x.2.2.2.1.2.2 (Int.toNat x.1) (Zpq x lf) x.2.2.1 else 1:=rfl
  have z0:=ZxY hby
  have hsh:=Zdk h
  have r0:rd1 (M++[(⟨cs,1,2⟩:Blk),⟨[.int .i64 0,.int .i64 0,.int .i64 0,.int .i64 0,.slice none 0 0,.slice none 0 0,.slice none 0 0],1,2⟩]) M.length 0=some (.int .i64 x.1):=by
    obtain ⟨_,_,_,e,_⟩:=hsh
    exact Jw hbx (by rw [e]; rfl)
  cases hv1:(orO x).isSome with
  | false =>
    have hb:dmC x lf=1:=by rw [hdc,hv1]; rfl
    rw [hv1] at eA
    rw [Zc Zfj]; unfold Zba Zc2; simp [apA,ho,hl,gA,eA,z0.1,z0.2]
    exact ⟨_,rfl,ZG3 hb hpre⟩
  | true =>
  rw [hv1] at eA
  cases hv2:ZeU x.1 lf with
  | false =>
    have hb:dmC x lf=1:=by rw [hdc,hv1,hv2]; rfl
    rw [hv2] at eL
    rw [Zc Zfj]; unfold Zba Zc2; simp [apA,ho,hl,gA,eA,r0,eL,z0.1,z0.2]
    exact ⟨_,rfl,ZG3 hb hpre⟩
  | true =>
  rw [hv2] at eL
  obtain ⟨r,hr⟩:=Option.isSome_iff_exists.1 hv1
  obtain ⟨k,hk,hk6,hfr,hout,q3,q4,q1,q5⟩:=Znu hr
  obtain ⟨_,_,_,_,y0,y1,y2,y3,_⟩:=hsh
  obtain ⟨aC,cC,aT,cT,aS,cS,hcs,hM,hS⟩:=Zj3 (h.mono hpre)
  obtain ⟨l,w,b,m,st⟩:=x
  obtain ⟨sz,cells,log⟩:=m
  simp only at hk hfr hout q1 q5 hv2 hz hc hs hdc y0 y1 y2 y3 hM hS hcs
  subst hk
  obtain ⟨hlf1,hlf2⟩:=ZfS hv2
  unfold frO at hfr
  simp only [Bool.and_eq_true,decide_eq_true_eq] at hfr
  obtain ⟨f1,f2,f3,f4,f5,f6,f7,f8⟩:=hfr
  obtain ⟨m1,m2,m3⟩:=ZpS f4
  simp only at m1 m2 m3 f5 f6
  have st8:st.length≤128∧Z4 k w st=true:=by unfold ZeV at f8; simpa using f8
  unfold wdB at f2
  unfold bdB at f3
  simp only [Bool.and_eq_true,decide_eq_true_eq] at f2 f3
  obtain ⟨wn,hwn⟩:∃ wn:Nat,w=(wn:Int):=⟨Int.toNat w,(show ∀ z:Int,1≤z→z=((Int.toNat z:Nat):Int) from fun z hz=>by omega) w f2.1⟩
  subst hwn
  obtain ⟨a,ha⟩:∃ a:Nat,Int.toNat lf=a:=⟨_,rfl⟩
  have hk0:Int.toNat (k:Int)=k:=by omega
  rw [ha] at hlf1 hlf2
  rw [hk0] at f5
  have hp0:0 < 2 ^ k:=Nat.two_pow_pos k
  obtain ⟨_,_,eM,_,hC,_⟩:=ZbW hM
  cases eM
  have hWk:=Zru _ k wn a b sz cells log st r aC cC aT cT aS cS hM hS hC hk6 hlf2 (by omega) (by omega) m1 (fun c hc=>List.all_eq_true.1 q1 c hc) hs st8.2 (by omega) m2 y0 y1 y2 y3 hz hr (by rw [← hlf1]; exact hv2)
  rw [← hcs,← hlf1] at hWk
  rw [Zc Zfj]; unfold Zba Zc2; simp [apA,ho,hl,gA,eA,r0,eL]
  generalize hx:Zb T0 ZcG _ _=xhx
  obtain ⟨_,X1,rfl,rs,v3,rfl,i3,p1,L,oW,geL⟩:=ZQ hx hWk
  clear hx
  simp only at p1 oW
  have hrl:rs.length=7:=oW.rep.len
  have hro:=oW.rep.one
  have hX:X1 <+: X1++[(⟨rs,1,2⟩:Blk)]:=List.prefix_append _ _
  have hbr:(X1++[(⟨rs,1,2⟩:Blk)])[X1.length]?=some ⟨rs,1,2⟩:=List.getElem?_concat_length
  have hy1:=Zh (p1.trans hX) hby
  have e1:rdn (X1++[(⟨rs,1,2⟩:Blk)]) X1.length 0 7=some rs:=Zfv hbr (by omega) (by rw [List.drop_zero,List.take_of_length_le (by omega)])
  have hspl:splice [(.int .i64 0:V),.int .i64 0,.int .i64 0,.int .i64 0,.slice none 0 0,.slice none 0 0,.slice none 0 0] 0 rs=rs:=by
    unfold splice
    rw [hrl]
    simp
  obtain ⟨W,hW,e2⟩:∃ W,W=(X1++[(⟨rs,1,2⟩:Blk)]).set (M.length+1) ⟨rs,1,2⟩∧wrn (X1++[(⟨rs,1,2⟩:Blk)]) (M.length+1) 0 rs=some W:=⟨_,rfl,by rw [ZdU hy1 rfl (by simp only [List.length_cons,List.length_nil]; omega) hro,hspl]⟩
  have hbW:W[M.length+1]?=some ⟨rs,1,2⟩:=by rw [hW]; exact ZbN hy1 _
  have e3:rdn W (M.length+1) 0 7=some rs:=Zfv hbW (by omega) (by rw [List.drop_zero,List.take_of_length_le (by omega)])
  have pW:M <+: W:=by rw [hW]; exact QQ (by omega) ((hpre.trans p1).trans hX)
  have oW4:Own Zx W rs (dmO ((k:Int),(wn:Int),b,(sz,cells,log),st) lf) L:=by
    rw [hW]
    exact Own.set hy1 (by rfl) (Own.grow hX oW) (fun hm=>by have:=geL _ hm; simp at this; try omega)
  clear hW
  simp [apA,hrl,hro,i3,e1,e2,e3,zeroCells]
  exact ⟨_,rfl,rs,rfl,pW,oW4.rep⟩
theorem Zm1 (M:Mem) (cs:List V) (x:Zx.D) (h:Rep Zx M cs x) (hb:Bd 1048576 Zx x) (lf:Int) :
    ∃ M' r,M <+: M'∧Zb T0 Zbd [.agg cs.toArray,.int .i64 lf] M=some (.tuple #[.agg r.toArray,.int .i64 (dmC x lf)],M')∧Rep Zx M' r (dmO x lf):=by
  obtain ⟨h1,h2,h3⟩:=ZsY hb
  obtain ⟨⟨p,M'⟩,e,r,rfl,q1,q2⟩:=ZmR M cs x lf h h1 h2 h3
  exact ⟨M',r,q1,e,q2⟩
theorem ZEK {M X:Mem} {w:Nat} {v:V} {r:Nat × List V} (hp:M <+: X) (h:Zj M w v=some r):Zj X w v=some r:=by
  unfold Zj at h ⊢
  split at h
  · exact h
  · split at h
    · rename_i h0; rw [if_pos h0]; exact h
    · rename_i h0
      rw [if_neg h0]
      obtain ⟨y,hy,rfl⟩:=Option.map_eq_some_iff.1 h
      rw [ZjS hp hy]
      rfl
  · cases h
def ClB (M:Mem) (zs:List (List V × Za.D)) (p:V × Mem):Prop:=M <+: p.2∧((zs=[]∧∃ La,Gr (.sl Za) p.2 [p.1] [] La∧La.Nodup∧∀ l ∈ La,M.length≤l)∨zs ≠ []∧∃ l,p.1=.slice (some ⟨l,0,none⟩) zs.length zs.length∧M.length≤l∧p.2[l]?=some ⟨Zl zs,3,2⟩)
theorem Zig (M0 M:Mem) (hp0:M0 <+: M) (v:V) (zs:List (List V × Za.D)) (hv:∃ a c,v=.slice a zs.length c) (h2:∀ z ∈ zs,Rep Za M0 z.1 z.2) (h3:Zj M0 3 v=some (zs.length,Zl zs)) (hn:zs.length≤1048576) :
    Sat (Zb T0 Zy [v] M) (ClB M zs):=by
  have hc:∀ N:Mem,Zj (M++N) 3 v=some (zs.length,Zl zs):=fun N=>ZEK (hp0.trans (List.prefix_append M N)) h3
  obtain ⟨a,c,rfl⟩:=hv
  have hfl:(Zl zs).length=zs.length * 3:=by
    unfold Zl
    rw [YP (w:=3)]
    · simp
    · intro c hc
      obtain ⟨z,hz,rfl⟩:=List.mem_map.1 hc
      exact (h2 z hz).len
  have hone:(Zl zs).all one=true:=by
    unfold Zl
    rw [List.all_flatten,List.all_eq_true]
    intro c hc
    obtain ⟨z,hz,rfl⟩:=List.mem_map.1 hc
    exact (h2 z hz).one
  cases a with
  | none =>
    have hx:zs=[]:=by
      cases zs with
      | nil=>rfl
      | cons z zs=>simp [Zj] at h3
    subst hx
    rw [Zc Y4]; unfold ZV Yc; simp [apA]
    exact ⟨_,rfl,List.prefix_refl _,.inl ⟨rfl,[],Gr.nil,by simp,by simp⟩⟩
  | some a =>
    by_cases h0:zs=[]
    · subst h0
      have hz:Zl []=[]:=rfl
      rw [hz] at hc
      simp only [List.length_nil] at hc
      rw [Zc Y4]; unfold ZV Yc; simp [apA,hc,zeroCells,Zdq]
      exact ⟨(_,M++[⟨[],3,2⟩]),rfl,List.prefix_append _ _,.inl ⟨rfl,[M.length],gr0 (t:=Za) (by simp [Ty.w]),by simp,by simp⟩⟩
    · have hpos:=List.length_pos_iff.2 h0
      rw [Zc Y4]; unfold ZV Yc; simp [apA,hc,zeroCells]
      generalize hy:Zdq _ _ _ _ _ _=xhy
      have hg1:Zdg M.length 3 (M++[(⟨[],3,2⟩:Blk)]) (.slice (some ⟨M.length,0,none⟩) 0 0) 0 []:=Zdg.new (Nat.le_refl _) rfl
      obtain ⟨a3,X3,rfl,g3,ag,l3⟩:=hg1.at hy (List.prefix_refl _) (by simp) hfl hpos hone (by omega) (by omega)
      clear hy
      simp [apA]
      obtain ⟨_,⟨e,e0⟩ | ⟨l,hl,e,hb⟩⟩:=g3
      · cases e
      · cases e
        simp only [Nat.zero_add,List.nil_append] at hb ⊢
        exact ⟨_,rfl,ag.pre (List.prefix_append _ _) (fun b hb=>hg1.ge b hb),.inr ⟨h0,l,rfl,hl,hb⟩⟩
theorem ZDg {t:Ty} {M:Mem} {v:V} {xs:List t.D} (h:Rep (.sl t) M [v] xs):∃ zs:List (List V × t.D),zs.map (·.2)=xs∧(∀ z ∈ zs,Rep t M z.1 z.2)∧Zj M t.w v=some (xs.length,(zs.map (·.1)).flatten):=by
  rcases h with ⟨e,rfl⟩ | ⟨l,o,c,blk,css,e,h2,h3,h4,h5,h6,h7⟩
  · cases e
    exact ⟨[],rfl,by simp,rfl⟩
  · cases e
    refine ⟨css.zip xs,List.map_snd_zip (by omega),?_,?_⟩
    · intro z hz
      obtain ⟨i,hi,rfl⟩:=List.getElem_of_mem hz
      rw [List.length_zip] at hi
      rw [List.getElem_zip]
      exact h6 i _ _ (List.getElem?_eq_getElem (by omega)) (List.getElem?_eq_getElem (by omega))
    · have hm:((css.zip xs).map (·.1))=css:=List.map_fst_zip (by omega)
      rw [hm]
      have hl:css.flatten.length=xs.length * t.w:=by
        rw [YP (w:=t.w),h5]
        intro ds hd
        obtain ⟨i,hi,rfl⟩:=List.getElem_of_mem hd
        exact (h6 i css[i] (xs[i]'(by omega)) (by simp) (by simp)).len
      by_cases h0:xs.length * t.w=0
      · have:css.flatten=[]:=List.length_eq_zero_iff.1 (by omega)
        simp [Zj,h0,this]
      · obtain ⟨r,hr⟩:=h7
        have hne:xs ≠ []:=by rintro rfl; simp at h0
        have hle:o+xs.length * t.w≤blk.cells.length:=by
          have:=congrArg List.length hr
          rw [List.length_append,List.length_drop,hl] at this
          omega
        have hst:blk.st=1∨blk.st=2:=by
          rcases h3 with h | h | h
          · exact .inl h
          · exact .inr h
          · exact absurd h hne
        simp only [Zj,h0,if_false,rdn,h2]
        rw [if_pos ⟨hst,hle⟩,← hr,← hl,List.take_left]
        rfl
theorem ZFj {M:Mem} {v:V} {xs:List Za.D} (h:Rep (.sl Za) M [v] xs):∃ zs:List (List V × Za.D),zs.map (·.2)=xs∧(∃ a c,v=.slice a zs.length c)∧(∀ z ∈ zs,Rep Za M z.1 z.2)∧Zj M 3 v=some (zs.length,Zl zs):=by
  obtain ⟨zs,h1,h2,h3⟩:=ZDg h
  have hl:xs.length=zs.length:=by rw [← h1]; simp
  rw [hl] at h3
  obtain ⟨a,c,rfl⟩:=h.slen
  exact ⟨zs,h1,⟨a,c,by rw [hl]⟩,h2,h3⟩
def CkI (M:Mem) (l:Nat) (zs:List (List V × Za.D)) (i:Nat) (X:Mem):Prop :=
  ∃ (ds:List (List V)) (Ls:List (List Nat)),M <+: X∧X[l]?=some ⟨ds.flatten++Zl (zs.drop i),3,2⟩∧ds.length=i∧Ls.length=i∧(∀ (k:Nat) (d:List V) (z:List V × Za.D) (K:List Nat),ds[k]?=some d→zs[k]?=some z→Ls[k]?=some K→Gr Za X d z.2 K)∧(l :: Ls.flatten).Nodup∧∀ j ∈ Ls.flatten,M.length≤j
theorem ZBU (z:List V × Za.D) (zs:List (List V × Za.D)):Zl (z :: zs)=z.1++Zl zs:=by simp [Zl]
theorem Zul (A:List V) (x y u w:V) (B:List V):splice (A++([x,y,u]++B)) (A.length+2) [w]=A++([x,y,w]++B):=by
  rw [Zx8 (by simp),List.set_append_right _ _ (by omega)]
  have:A.length+2 - A.length=2:=by omega
  rw [this]
  rfl
theorem Zj9 (M:Mem) (l:Nat) (zs:List (List V × Za.D)) (hl:M.length≤l) (hz:∀ z ∈ zs,Rep Za M z.1 z.2) (hn:zs.length≤1048576) (hs:∀ z ∈ zs,List.length (α:=UInt8) z.2.2.2≤1048576) (Z:Mem) (hZ:CkI M l zs 0 Z) :
    ∃ (u:Unit) (X':Mem),CkI M l zs zs.length X'∧lp (Zb T0) Yl Qr [O,O,O,.slice (some ⟨l,0,none⟩) zs.length zs.length,O,O,O,O,.slice (some ⟨l,0,none⟩) zs.length zs.length,.int .i64 zs.length,.int .i64 (0:Nat),O,O,O,O,O,O,O,O,O,O,O,O,O] Z=lp (Zb T0) Yl Qr [O,O,O,.slice (some ⟨l,0,none⟩) zs.length zs.length,O,O,O,O,.slice (some ⟨l,0,none⟩) zs.length zs.length,.int .i64 zs.length,.int .i64 zs.length,O,O,O,O,O,O,O,O,O,O,O,O,O] X':=by
  refine YT (call:=Zb T0) (K:=Yl) (L:=Qr) (fun i (_:Unit) X=>CkI M l zs i X) (fun i (_:Unit)=>[O,O,O,.slice (some ⟨l,0,none⟩) zs.length zs.length,O,O,O,O,.slice (some ⟨l,0,none⟩) zs.length zs.length,.int .i64 zs.length,.int .i64 i,O,O,O,O,O,O,O,O,O,O,O,O,O]) (n:=zs.length) ?_ 0 () Z (by omega) hZ
  intro i _ X hi ⟨ds,Ls,pX,hb,hd,hL,hg,nd,hge⟩
  have e6:IntKind.i64.wrap ((i:Int)+1)=i+1:=Zd (by omega) (by omega)
  have hzm:=List.getElem_mem hi
  have hR:=hz _ hzm
  have hsz:=hs _ hzm
  obtain ⟨u,hu,w0,w1,qu⟩:=YE hR
  have hdr:zs.drop i=zs[i] :: zs.drop (i+1):=List.drop_eq_getElem_cons hi
  rw [hdr,ZBU,hu] at hb
  have hdl:ds.flatten.length=i * 3:=by
    rw [YP (w:=3),hd]
    intro c hc
    obtain ⟨k,hk,rfl⟩:=List.getElem_of_mem hc
    exact (hg k _ (zs[k]'(by omega)) (Ls[k]'(by omega)) (by simp) (by simp) (by simp)).len
  generalize hzi:zs[i]=z at *
  obtain ⟨z1,b1,b2,b3⟩:=z
  simp only at hu w0 w1 qu hsz hb hR
  subst hu
  have hl3:∀ u:V,(ds.flatten++([(.int .i64 b1:V),.int .i64 b2,u]++Zl (zs.drop (i+1)))).length=i * 3+3+(Zl (zs.drop (i+1))).length:=fun u=>by
    rw [List.length_append,hdl,List.length_append]
    simp only [List.length_cons,List.length_nil]
    omega
  have hrd:rdn X l (i * 3) 3=some [.int .i64 b1,.int .i64 b2,u]:=by
    simp only [rdn,hb]
    rw [if_pos (by rw [hl3]; refine ⟨by simp,by omega⟩),List.drop_left' hdl]
    rfl
  have hrd':=fun N:Mem=>ZjS (List.prefix_append X N) hrd
  have s1:=ZlB (M:=X++[(⟨[.int .i64 b1,.int .i64 b2,u],1,2⟩:Blk)]) ZfI (t:=.u8) Zfs rfl (qu.mono (pX.trans (List.prefix_append _ _))) (by omega) (by omega)
  obtain ⟨ua,uc,rfl⟩:=qu.slen
  have hlX:=ZI hb
  rw [Zcx]; unfold Jq; simp [apA,hi,hrd,hrd',zeroCells,Z3,Y1]
  generalize hx:Zb T0 Qk _ _=xhx
  obtain ⟨w1',X3,rfl,K2,p3',gb,ndb,geb⟩:=ZQ hx s1
  clear hx
  simp only at p3' gb geb
  have p3:X <+: X3:=(List.prefix_append _ _).trans p3'
  obtain ⟨a7,rfl⟩:=gb.shape
  have hb3:=Zh p3 hb
  have hwr:wrn X3 l (i * 3+2) [.slice a7 (List.length (α:=UInt8) b3) (List.length (α:=UInt8) b3)]=some (X3.set l ⟨ds.flatten++([.int .i64 b1,.int .i64 b2,.slice a7 (List.length (α:=UInt8) b3) (List.length (α:=UInt8) b3)]++Zl (zs.drop (i+1))),3,2⟩):=by
    simp only [wrn,hb3]
    rw [if_pos (by rw [hl3]; refine ⟨by simp,by simp only [List.length_cons,List.length_nil]; omega,rfl⟩),← hdl,Zul]
  simp [apA,hi,hwr,e6]
  have hlK:l ∉ K2:=fun hm=>by have:=geb l hm; simp at this; omega
  have hlt:∀ K ∈ Ls,∀ j ∈ K,j < X.length:=by
    intro K hK j hj
    obtain ⟨k,hk,rfl⟩:=List.getElem_of_mem hK
    exact (hg k (ds[k]'(by omega)) (zs[k]'(by omega)) _ (by simp) (by simp) (by simp)).lt j hj
  have hnd:=List.nodup_cons.1 nd
  refine ⟨_,⟨ds++[[.int .i64 b1,.int .i64 b2,.slice a7 (List.length (α:=UInt8) b3) (List.length (α:=UInt8) b3)]],Ls++[K2],QQ hl (pX.trans p3),?_,by simp [hd],by simp [hL],?_,?_,?_⟩,rfl⟩
  · rw [ZbN hb3]; simp
  · intro k d z K hdk hzk hKk
    by_cases hk:k < i
    · rw [List.getElem?_append_left (by omega)] at hdk hKk
      have g:=hg k d z K hdk hzk hKk
      refine (g.grow p3).set _ (fun hm=>hnd.1 (List.mem_flatten.2 ⟨K,List.mem_of_getElem? hKk,hm⟩))
    · have hki:k=i:=by
        have:=(List.getElem?_eq_some_iff.1 hdk).1
        simp at this
        omega
      subst hki
      rw [List.getElem?_append_right (by omega)] at hdk hKk
      simp [hd] at hdk
      simp [hL] at hKk
      rw [List.getElem?_eq_getElem hi,hzi] at hzk
      cases hzk
      subst hdk
      subst hKk
      exact Znt (x:=(b1,b2,b3)) w0 w1 (gb.set _ hlK)
  · rw [List.flatten_append,List.flatten_cons,List.flatten_nil,List.append_nil]
    refine List.nodup_cons.2 ⟨fun hm=>?_,List.nodup_append.2 ⟨hnd.2,ndb,fun a ha b hb2 e=>?_⟩⟩
    · rcases List.mem_append.1 hm with h | h
      · exact hnd.1 h
      · exact hlK h
    · subst e
      obtain ⟨K,hK,ha⟩:=List.mem_flatten.1 ha
      have h1:=hlt K hK a ha
      have h2:=geb a hb2
      simp at h2
      omega
  · intro j hj
    rw [List.flatten_append,List.flatten_cons,List.flatten_nil,List.append_nil] at hj
    rcases List.mem_append.1 hj with h | h
    · exact hge j h
    · have:=geb j h
      have:=pX.length_le
      simp at *
      omega
theorem Zdw (M:Mem) (v:V) (xs:List Za.D) (h:Rep (.sl Za) M [v] xs) (hz:Zcz xs):Sat (Zb T0 Yt [v] M) (GrV Za M xs):=by
  obtain ⟨zs,rfl,hv,hz2,h3⟩:=ZFj h
  have hn:zs.length≤1048576:=by have:=hz.1; simpa using this
  have hs:∀ z ∈ zs,List.length (α:=UInt8) z.2.2.2≤1048576:=fun z hm=>hz.2 z.2 (List.mem_map_of_mem hm)
  have hC:=Zig M M (List.prefix_refl _) v zs hv hz2 h3 hn
  obtain ⟨av,cv,rfl⟩:=hv
  rw [Zc Zk8]; unfold ZdO ZgH; simp [apA]
  generalize hx:Zb T0 Zy _ _=xhx
  obtain ⟨v1,X1,rfl,p1,⟨h0,La,g1,g2,g3⟩ | ⟨h0,l,rfl,hl,hb⟩⟩:=ZQ hx hC
  · clear hx
    subst h0
    simp only at p1 g1
    obtain ⟨a,rfl⟩:=g1.shape
    simp only [List.length_nil]
    simp [apA]
    rw [Zcx]; unfold Jq; simp [apA]
    exact ⟨(_,X1),rfl,La,p1,g1,g2,g3⟩
  · clear hx
    simp only at p1 hb
    have hlt:=ZI hb
    obtain ⟨_,X',⟨ds,Ls,pX,hb',hd,hL,hg,nd,hge⟩,e⟩:=Zj9 M l zs hl hz2 hn hs X1 ⟨[],[],p1,by simpa using hb,rfl,rfl,by simp,by simp,by simp⟩
    simp only [Int.natCast_zero,Int.ofNat_zero] at e
    simp [apA,e]
    rw [Zcx]; unfold Jq; simp [apA]
    refine ⟨(_,X'),rfl,l :: Ls.flatten,pX,.inr ⟨l,ds,Ls,by simp,?_,by simp [hd],by simp [hL],?_,rfl⟩,nd,?_⟩
    · show X'[l]?=_
      rw [hb']
      simp [Zl,Ty.w]
    · intro k d x K hdk hxk hKk
      rw [List.getElem?_map] at hxk
      obtain ⟨z,hz,rfl⟩:=Option.map_eq_some_iff.1 hxk
      exact hg k d z K hdk hz hKk
    · intro j hj
      rcases List.mem_cons.1 hj with rfl | hj
      · exact hl
      · exact hge j hj
theorem ZDA {x k:Nat} (hx:x < 9223372036854775807) (hk:k≤63):ZFc .i64 (x:Int) (k:Int)=((x / 2 ^ k:Nat):Int):=by
  unfold ZFc
  have h1:min ((k:Int).toNat) IntKind.i64.bits=k:=by
    have:((k:Int).toNat)=k:=by omega
    rw [this]
    show min k 64=k
    omega
  rw [h1,Int.fdiv_eq_ediv_of_nonneg _ (by exact_mod_cast Nat.zero_le _)]
  have e:((2:Int) ^ k)=((2 ^ k:Nat):Int):=by simp
  rw [e]
  rfl
theorem Zlg (M:Mem) (m leaf lv:Nat) (hm:m≤6) (hl:leaf < 2 ^ m) (hv:lv≤m):Zb T0 ZdY [.int .i64 m,.int .i64 leaf,.int .i64 lv] M=some (.int .i64 (((2 ^ m+leaf) / 2 ^ (m - lv):Nat):Int),M):=by
  have hp:2 ^ m≤2 ^ 6:=Nat.pow_le_pow_right (by omega) hm
  have e1:ZFl .i64 1 m=((2 ^ m:Nat):Int):=by
    unfold ZFl
    have h1:min ((m:Int).toNat) IntKind.i64.bits=m:=by
      have:((m:Int).toNat)=m:=by omega
      rw [this]
      show min m 64=m
      omega
    rw [h1]
    have e:(1:Int) * 2 ^ m=((2 ^ m:Nat):Int):=by simp
    rw [e]
    exact Zd (by omega) (by omega)
  have e2:IntKind.i64.wrap (((2 ^ m:Nat):Int)+(leaf:Int))=((2 ^ m+leaf:Nat):Int):=by rw [Zd (by omega) (by omega)]; omega
  have e3:IntKind.i64.wrap ((m:Int) - (lv:Int))=((m - lv:Nat):Int):=by rw [Zd (by omega) (by omega)]; omega
  have e4:=ZDA (x:=2 ^ m+leaf) (k:=m - lv) (by omega) (by omega)
  have h0:¬ ((m - lv:Nat):Int) < 0:=by omega
  have h00:¬ (m:Int) < 0:=by omega
  generalize 2 ^ m+leaf=N at *
  generalize (2:Nat) ^ m=q at *
  generalize m - lv=k at *
  generalize N / 2 ^ k=r at *
  rw [Zc Zp0]; unfold Zh9 ZlC; simp [apA,e1,e2,e3,e4,h0,h00]
theorem Zx1 (N j i:Nat) (hi:i < j):(ZkO N j).take (i+1)=(ZkO N j).take i++[((N / 2 ^ (j - 1 - i):Nat):Int)]:=by
  have hl:i < (ZkO N j).length:=by rw [ZhS]; exact hi
  rw [List.take_succ_eq_append_getElem hl,Znn hl]
theorem ZmQ (M:Mem) (m a:Nat) (hm:m≤6) (ha:a < 2 ^ m):Sat (Zb T0 Zbj [.int .i64 m,.int .i64 a] M) (PnD M m a):=by
  have hp:2 ^ m≤2 ^ 6:=Nat.pow_le_pow_right (by omega) hm
  have key:=YT (call:=Zb T0) (K:=Q7) (L:=ZbE) (fun i (v:V) X=>M <+: X∧Zdg M.length 1 X v i (Ic ((ZkO (2 ^ m+a) (m+1)).take i))) (fun i v=>[.int .i64 m,.int .i64 a,O,O,O,v,O,O,.int .i64 ((m:Int)+1),.int .i64 i,O,O,O,O,O,O,O,O,O,O,O]) (n:=m+1) ?_ 0 (.slice none 0 0) M (by omega) ⟨List.prefix_refl _,by simp [Ic]; exact Zdg.nil⟩
  · obtain ⟨v',X',⟨pX,gX⟩,e⟩:=key
    rw [List.take_of_length_le (by rw [ZhS]; exact Nat.le_refl _)] at gX
    simp only [Int.natCast_zero,Int.ofNat_zero] at e
    obtain ⟨av,rfl⟩:=gX.shape
    have e2:IntKind.i64.wrap ((m:Int)+1)=m+1:=Zd (by omega) (by omega)
    unfold PnD
    rw [Zc Zm0]; unfold Zfn ZiJ; simp [apA,e2,e]
    rw [ZgI]; unfold ZbD; simp [apA]
    exact ⟨(_,X'),rfl,av,rfl,pX,gX⟩
  intro i v X hi ⟨pX,g⟩
  have eN:=fun M=>Zlg M m a i hm ha (by omega)
  have e6:IntKind.i64.wrap ((i:Int)+1)=i+1:=Zd (by omega) (by omega)
  have hi':(i:Int) < (m:Int)+1:=by omega
  rw [Zx1 _ _ _ hi]
  have hs:m+1 - 1 - i=m - i:=by omega
  rw [hs]
  have hy:Ic ((ZkO (2 ^ m+a) (m+1)).take i++[(((2 ^ m+a) / 2 ^ (m - i):Nat):Int)])=Ic ((ZkO (2 ^ m+a) (m+1)).take i)++[.int .i64 (((2 ^ m+a) / 2 ^ (m - i):Nat):Int)]:=by simp [Ic]
  rw [hy]
  generalize Ic ((ZkO (2 ^ m+a) (m+1)).take i)=cs at *
  generalize (2 ^ m+a) / 2 ^ (m - i)=nd at *
  rw [ZgI]; unfold ZbD; simp [apA,hi',hi,eN,zeroCells]
  generalize hy2:Zdq _ _ _ _ _ _=xhy2
  obtain ⟨a2,X3,rfl,g3,ag,hl3,hw3⟩:=ZgG g hy2 (List.prefix_append _ _) pX.length_le (by simp) (by simp [GoAm.one]) (by omega) (by omega)
  clear hy2
  simp [apA,e6]
  exact ⟨_,_,⟨ag.pre (JZ pX) fun b hb=>g.ge b hb,g3⟩,rfl⟩
abbrev FaO (p:Nat) (v1 v2 v3 v4 v5 v14 v:V) (lP n:Nat) (i:Nat):List V:=[.pointer (some ⟨p,0,none⟩),v1,v2,v3,v4,v5,O,O,O,O,O,O,O,O,v14,v,O,O,O,O,O,O,O,O,O,O,O,O,O,O,O,O,O,O,O,O,O,O,O,O,O,O,O,O,O,O,O,O,O,O,O,O,O,O,O,O,O,O,O,O,O,O,O,.slice (some ⟨lP,0,none⟩) n n,.int .i64 n,.int .i64 i,O,O,O,O,O,O,O,O,O,O,O,O,O,O,O,O,O,O,O,O,O,O,O,O,O,O,O,O,O,O,O,O,O,O,O,O,O,O,O,O,O,O,O,O,O,O,O,O,O,O,O,O,O,O,O,O,O,O,O,O,O,O,O,O,O,O,O,O,O,O,O,O,O,O,O,O,O,O,O,O,O,O,O,O,O,O,O,O,O,O,O,O,O,O,O,O,O,O,O,O,O,O,O,O,O,O,O,O,O,O,O,O,O,O,O,O,O,O,O,O,O,O,O,O,O,O,O,O,O,O,O,O,O,O,O,O,O,O,O,O,O,O,O,O,O,O,O]
structure OuI (M:Mem) (all:List Za.D) (v:V) (X:Mem):Prop where
  pre:M <+: X
  gr:∃ L,Gr (.sl Za) X [v] all L∧L.Nodup∧(∀ j ∈ L,M.length≤j)
  lt:ZhP all
  rg:Zgv all
theorem Js (M:Mem) (x a b:Int):Zb T0 Ye [.int .i64 x,.int .i64 a,.int .i64 b] M=some (.bool (decide (a≤x) && decide (x≤b)),M):=by
  rw [Zc ZpV]; unfold ZhY ZlP; simp
  repeat' ((first | rw [ZnD] | rw [Zl6] | rw [Zoo]); split <;> rename_i hq <;> (have hq2:=hq) <;> (try simp at hq2) <;> (try simp [*]))
theorem Ze4 (M:Mem) (x:Int):Zb T0 Zb1 [.int .i64 x] M=some (.bool (decide (0≤x) && decide (x≤6)),M):=by
  rw [Zc ZqV]; unfold ZjP Zmv; simp [Js]
theorem ZHn {m:Nat} (h:m≤6):(1:Int)≤2 ^ m∧(2:Int) ^ m≤64:=⟨by have:=Ztk m; omega,by have:=Zs1 h; omega⟩
theorem Zk6 (M:Mem) (l x:Int):Zb T0 Zd3 [.int .i64 l,.int .i64 x] M=some (.bool (ZeU l x),M):=by
  unfold ZeU
  cases h:lgB l with
  | false =>
    have e:(decide (0≤l) && decide (l≤6))=false:=h
    rw [Zc Zk9]; unfold ZfC Zip; simp [Ze4,e]
  | true =>
    have e:(decide (0≤l) && decide (l≤6))=true:=h
    obtain ⟨m,rfl,hm⟩:=ZjF h
    have e2:=fun M=>(Ze4 M m).trans (by rw [e])
    have hp:=ZHn hm
    have e1:ZFl .i64 1 m=2 ^ m:=by
      unfold ZFl
      have h:min (m:Int).toNat IntKind.i64.bits=m:=by show min _ 64=m; omega
      rw [h,Zd (by omega) (by omega)]
      omega
    have e3:IntKind.i64.wrap ((2:Int) ^ m - 1)=2 ^ m - 1:=Zd (by omega) (by omega)
    have e4:decide (x≤2 ^ m - 1)=decide (x < 2 ^ m):=by
      by_cases h:x < 2 ^ m
      · rw [decide_eq_true h,decide_eq_true (by omega)]
      · rw [decide_eq_false h,decide_eq_false (by omega)]
    rw [Zc Zk9]; unfold ZfC Zip; simp [e2,e1,e3,Js,e4]
theorem Zky (M:Mem) (cs:List V) (b:Za.D) (h:Rep Za M cs b) (l w:Int):Zb T0 ZeP [.agg cs.toArray,.int .i64 l,.int .i64 w] M=some (.bool (ZbS l w b),M):=by
  obtain ⟨u,rfl,w0,w1,hr⟩:=YE h
  obtain ⟨a,c,rfl⟩:=hr.slen
  have e2:=fun M=>Zk6 M l b.2.1
  have e3:=fun M=>Js M w 1 200
  have e4:=fun M=>Js M b.1 0 255
  have hb:ZbS l w b=(ZeU l b.2.1 && wdB w && ZBh b.1 && decide ((List.length (α:=UInt8) b.2.2:Int)=w)):=by
    unfold ZbS ZeU
    cases lgB l <;> cases wdB w <;> cases ZBh b.1 <;> simp
  rw [hb]
  clear hb
  cases h4:ZeU l b.2.1 with
  | false=>rw [Zc ZeE]; unfold Zbo ZcQ; simp [e2,h4]
  | true =>
    cases h5:wdB w with
    | false =>
      have h5:(decide (1≤w) && decide (w≤200))=false:=h5
      rw [Zc ZeE]; unfold Zbo ZcQ; simp [e2,h4,e3,h5]
    | true =>
      have h5:(decide (1≤w) && decide (w≤200))=true:=h5
      cases h6:ZBh b.1 with
      | false =>
        have h6:(decide (0≤b.1) && decide (b.1≤255))=false:=h6
        rw [Zc ZeE]; unfold Zbo ZcQ; simp [e2,h4,e3,h5,e4,h6]
      | true =>
        have h6:(decide (0≤b.1) && decide (b.1≤255))=true:=h6
        rw [Zc ZeE]; unfold Zbo ZcQ; simp [e2,h4,e3,h5,e4,h6]
theorem Zle (M:Mem) (a:Option Addr) (c:Nat) (xs:List Za.D) (l w:Int) (h:Rep (.sl Za) M [.slice a xs.length c] xs) (hn:xs.length≤1048576) :
    (∃ X',M <+: X'∧(∀ i,i < xs.length→Zl3 l w xs i=true)∧lp (Zb T0) Yr Ql [.slice a xs.length c,.int .i64 l,.int .i64 w,O,O,O,O,O,O,.slice a xs.length c,.int .i64 xs.length,.int .i64 (0:Nat),O,O,O,O,O,O,O,O,O,O,O,O,O,O,O,O,O,O,O,O,O,O,O,O,O,O,O,O,O,O,O] M=lp (Zb T0) Yr Ql [.slice a xs.length c,.int .i64 l,.int .i64 w,O,O,O,O,O,O,.slice a xs.length c,.int .i64 xs.length,.int .i64 xs.length,O,O,O,O,O,O,O,O,O,O,O,O,O,O,O,O,O,O,O,O,O,O,O,O,O,O,O,O,O,O,O] X') ∨
    ((∃ i,i < xs.length∧Zl3 l w xs i=false)∧∀ k,ZjG M [.tmp 6] (Zjx (Ze1 0 (lp (Zb T0) Yr Ql [.slice a xs.length c,.int .i64 l,.int .i64 w,O,O,O,O,O,O,.slice a xs.length c,.int .i64 xs.length,.int .i64 (0:Nat),O,O,O,O,O,O,O,O,O,O,O,O,O,O,O,O,O,O,O,O,O,O,O,O,O,O,O,O,O,O,O] M)) (Zb T0) k)=some (.bool false,M)):=by
  have key:=Zl1 (call:=Zb T0) (K:=Yr) (L:=Ql) (fun _ Y=>M <+: Y) (fun i=>[.slice a xs.length c,.int .i64 l,.int .i64 w,O,O,O,O,O,O,.slice a xs.length c,.int .i64 xs.length,.int .i64 i,O,O,O,O,O,O,O,O,O,O,O,O,O,O,O,O,O,O,O,O,O,O,O,O,O,O,O,O,O,O,O]) (Zl3 l w xs) (n:=xs.length) (M0:=M) (rs:=[.tmp 6]) (k0:=0) (a:=.bool false) M (List.prefix_refl _) ?_ ?_
  · rcases key with ⟨X',hp,h1,h2⟩ | h
    · exact .inl ⟨X',hp,h1,h2⟩
    · exact .inr h
  · intro i Y hi hq hY
    have e6:IntKind.i64.wrap ((i:Int)+1)=i+1:=Zd (by omega) (by omega)
    have e8:IntKind.i64.wrap 1=1:=Zd (by omega) (by omega)
    obtain ⟨b,o,u,rfl,q1,q2,q3,q4,_,_,qu,qr⟩:=Y5 (h.mono hY) hi
    obtain ⟨ua,uc,rfl⟩:=qu.slen
    have hc:=fun N:Mem=>Zky (Y++N) _ _ (qr.mono (List.prefix_append Y N)) l w
    refine ⟨Y++[⟨[.int .i64 xs[i].1,.int .i64 xs[i].2.1,.slice ua (List.length (α:=UInt8) xs[i].2.2) uc],1,2⟩],hY.trans (List.prefix_append _ _),?_⟩
    rcases Nat.eq_zero_or_pos i with h0 | h0
    · subst h0
      rw [Zj2 hi] at hq
      simp only [Int.natCast_zero,Int.ofNat_zero,Nat.zero_mul,Nat.add_zero] at *
      rw [Qj]; unfold Ys; simp [apA,hi,q4,hc,hq,e6,e8]
    · rw [ZjH hi h0,Bool.and_eq_true] at hq
      have hi':(0:Int) < (i:Int):=by omega
      have e7:IntKind.i64.wrap ((i:Int) - 1)=((i - 1:Nat):Int):=by rw [Zd (by omega) (by omega)]; omega
      obtain ⟨b',o',u',e,q1',_⟩:=Y5 (h.mono hY) (i:=i - 1) (by omega)
      cases e
      have q1':=fun N:Mem=>Zhe (N:=N) q1'
      have hlt:=of_decide_eq_true hq.2
      have hge:¬ (xs[i].1≤(xs[i - 1]'(by omega)).1):=Int.not_le.2 hlt
      have hi1:i - 1 < xs.length:=by omega
      rw [Qj]; unfold Ys; simp [apA,hi,q4,hc,hq.1,e6,hi',h0,e7,q1',hge,hi1]
  · intro i Y hi hq hY k
    have e6:IntKind.i64.wrap ((i:Int)+1)=i+1:=Zd (by omega) (by omega)
    have e8:IntKind.i64.wrap 1=1:=Zd (by omega) (by omega)
    obtain ⟨b,o,u,rfl,q1,q2,q3,q4,_,_,qu,qr⟩:=Y5 (h.mono hY) hi
    obtain ⟨ua,uc,rfl⟩:=qu.slen
    have hc:=fun N:Mem=>Zky (Y++N) _ _ (qr.mono (List.prefix_append Y N)) l w
    have gb:=fun (N:Mem) b=>ZbH (hY.trans (List.prefix_append Y N)) b
    rcases Nat.eq_zero_or_pos i with h0 | h0
    · subst h0
      rw [Zj2 hi] at hq
      simp only [Int.natCast_zero,Int.ofNat_zero,Nat.zero_mul,Nat.add_zero] at *
      rw [Qj]; unfold Ys; simp [apA,hi,q4,hc,hq,e6,e8,gb]
    · rw [ZjH hi h0] at hq
      have hi':(0:Int) < (i:Int):=by omega
      have e7:IntKind.i64.wrap ((i:Int) - 1)=((i - 1:Nat):Int):=by rw [Zd (by omega) (by omega)]; omega
      obtain ⟨b',o',u',e,q1',_⟩:=Y5 (h.mono hY) (i:=i - 1) (by omega)
      cases e
      have q1':=fun N:Mem=>Zhe (N:=N) q1'
      have hi1:i - 1 < xs.length:=by omega
      cases hb:ZbS l w xs[i] with
      | false =>
        rw [hb] at hc
        rw [Qj]; unfold Ys; simp [apA,hi,q4,hc,e6,gb]
      | true =>
        rw [hb] at hc
        rw [hb,Bool.true_and] at hq
        have hlt:=of_decide_eq_false hq
        have hge:xs[i].1≤(xs[i - 1]'(by omega)).1:=Int.not_lt.1 hlt
        rw [Qj]; unfold Ys; simp [apA,hi,q4,hc,e6,hi',h0,e7,q1',hge,hi1,gb]
theorem ZiF (M:Mem) (v:V) (xs:List Za.D) (l w:Int) (h:Rep (.sl Za) M [v] xs) (hn:xs.length≤1048576):Zb T0 Za5 [v,.int .i64 l,.int .i64 w] M=some (.bool (Z4 l w xs),M):=by
  obtain ⟨a,c,rfl⟩:=h.slen
  have e1:=fun M=>Ze4 M l
  have e2:=fun M=>Js M w 1 200
  unfold Z4
  rcases Zle M a c xs l w h hn with ⟨X',hp,ha,e⟩ | ⟨hx,e⟩
  · simp only [Int.natCast_zero,Int.ofNat_zero] at e
    rw [ZqE ha,Bool.and_true]
    have gb:=fun b=>ZbH hp b
    unfold lgB wdB
    cases h1:(decide (0≤l) && decide (l≤6)) with
    | false =>
      rw [Zc Zfp]; unfold Zbi ZcZ; simp [apA,e]
      rw [Qj]; unfold Ys; simp [apA,e1,h1,gb]
    | true =>
      rw [Zc Zfp]; unfold Zbi ZcZ; simp [apA,e]
      rw [Qj]; unfold Ys; simp [apA,e1,h1,e2,gb]
  · simp only [Int.natCast_zero,Int.ofNat_zero] at e
    rw [ZtT hx,Bool.and_false]
    rw [Zc Zfp]; unfold Zbi ZcZ; simp [apA,e]
set_option maxHeartbeats 1000000 in
theorem ZoB (M0:Mem) (w:Nat) (a:Option Addr) (c:Nat) (bs:List Za.D) (h:Rep (.sl Za) M0 [.slice a bs.length c] bs) (hn:bs.length≤1000) (hw:w≤200) (hk:Zys w bs) (v:V) (Z:Mem) (hZ:NoI M0 [] v Z) :
    ∃ v' X',NoI M0 bs v' X'∧lp (Zb T0) Q2 ZaG [O,.int .i64 (w:Int),O,O,O,v,O,O,.slice a bs.length c,.int .i64 bs.length,.int .i64 (0:Nat),O,O,O,O,O,O,O,O,O,O,O,O,O,O,O,O,O,O,O,O,O,O,O,O] Z=lp (Zb T0) Q2 ZaG [O,.int .i64 (w:Int),O,O,O,v',O,O,.slice a bs.length c,.int .i64 bs.length,.int .i64 bs.length,O,O,O,O,O,O,O,O,O,O,O,O,O,O,O,O,O,O,O,O,O,O,O,O] X':=by
  have key:=YT (call:=Zb T0) (K:=Q2) (L:=ZaG) (fun i v X=>NoI M0 (bs.take i) v X) (fun i v=>[O,.int .i64 (w:Int),O,O,O,v,O,O,.slice a bs.length c,.int .i64 bs.length,.int .i64 i,O,O,O,O,O,O,O,O,O,O,O,O,O,O,O,O,O,O,O,O,O,O,O,O]) (n:=bs.length) ?_ 0 v Z (by omega) (by simpa using hZ)
  · rw [List.take_length] at key
    exact key
  intro i v X hi ⟨pX,hg⟩
  have e6:IntKind.i64.wrap ((i:Int)+1)=i+1:=Zd (by omega) (by omega)
  have hkt:Zys w (bs.take i):=fun b hb=>hk b (List.mem_of_mem_take hb)
  have hlen:=Ze2 hkt
  have hle:(bs.take i).length * (w+3)≤1000 * 203:=Nat.mul_le_mul (by rw [List.length_take]; omega) (by omega)
  obtain ⟨l,o,u,rfl,_,_,_,hrd,_,_,qu,_⟩:=Y5 (h.mono pX) hi
  obtain ⟨_,_,u9,e9,_,_,_,hrd9,_,_,hq0,_⟩:=Y5 h hi
  cases e9
  have hu9:u9=u:=by have:=ZjS pX hrd9; rw [hrd] at this; simp at this; exact this.symm
  subst hu9
  have hki:=hk _ (List.getElem_mem hi)
  unfold NoI
  rw [ZpD hi]
  generalize bs[i]=b at *
  generalize ZdR (bs.take i)=ys at *
  obtain ⟨b1,b2,b3⟩:=b
  simp only at hrd qu hki hq0
  obtain ⟨h1,h2,h3⟩:=hki
  obtain ⟨y1,z1⟩:=Znl h1
  obtain ⟨y2,z2⟩:=Znl h2
  obtain ⟨ua,uc,hu,hsc⟩:=Zdm qu
  cases hu
  have hrd':=fun N:Mem=>ZjS (List.prefix_append X N) hrd
  obtain ⟨av,rfl⟩:=hg.shape
  have hll:=hg.lt
  rw [Zjd]; unfold Zdz; simp [apA,hi,hrd,hrd',zeroCells,z1,z2]
  generalize hy:Zdq _ _ _ _ _ _=xhy
  obtain ⟨a2,X2,rfl,hg2,ag2,hl2,hw2⟩:=ZgG hg hy (List.prefix_append _ _) (by have:=pX.length_le; omega) (by rfl) (by rfl) (by omega) (by omega)
  clear hy
  have hpX:M0 <+: X2:=ag2.pre (JZ pX) hg.ge
  have hbx:X2[X.length]?=some ⟨[.int .i64 b1,.int .i64 b2,.slice ua (List.length (α:=UInt8) b3) uc],1,2⟩:=ag2.get (by simp) (fun hm=>by have:=hll _ hm; omega)
  have hr2:rd1 X2 X.length 2=some (.slice ua (List.length (α:=UInt8) b3) uc):=Q6 (Qf hbx rfl) (k:=2) rfl
  have hA:∀ zs:List Nat,(∀ y ∈ zs,y=X.length)→Zfx (wfs (.slice av ys.length ys.length)) zs=false:=fun zs hz=>Zg7 fun x hx y hy e=>by
    have:=hll x hx
    have:=hz y hy
    omega
  have hA2:=hA [X.length,X.length] (by simp)
  have hB:Zfx [X.length] (wfs (.slice av ys.length ys.length))=false:=Zg7 fun x hx y hy e=>by
    have:=hll y hy
    simp at hx
    omega
  have hC:Zfx (wfs (.slice a2 (ys.length+3) (ys.length+3))) [X.length,X.length,X.length]=false:=Zg7 fun x hx y hy e=>by
    simp at hy
    rcases hw2 x hx with h | h
    · have:=hll x h; omega
    · simp at h; omega
  have qu2:Rep (.sl ZD) X2 [.slice ua (List.length (α:=UInt8) b3) uc] b3:=(hq0:Rep (.sl ZD) M0 _ _).mono hpX
  obtain ⟨_,_,hu2,hsc2⟩:=Zdm qu2
  cases hu2
  simp [apA,YD,ag2,hA2,hB,hr2,hsc2]
  generalize hy:Zdq _ _ _ _ _ _=xhy
  obtain ⟨a3,X3,rfl,hg3,ag3,hl3,hw3⟩:=ZgG hg2 hy (List.prefix_refl _) (by have:=hpX.length_le; omega) (by simp) (Zjy _) (by omega) (by omega)
  clear hy
  have hpX3:M0 <+: X3:=ag3.pre hpX hg2.ge
  simp [apA,YD,ag3,hC,e6]
  refine ⟨_,X3,⟨hpX3,?_⟩,rfl⟩
  have hl4:(Zxe (b1,b2,b3)).length=3+List.length (α:=UInt8) b3:=Zqy _
  have hc4:(Zxe (b1,b2,b3)).map Y0=[.int .u8 1,.int .u8 b1,.int .u8 b2]++List.map Y0 b3:=by
    unfold Zxe
    simp only [List.map_cons,ZqM,y1,y2]
    rfl
  rw [hl4,hc4]
  simpa [Nat.add_assoc] using hg3
theorem ZlA (M:Mem) (v:V) (bs:List Za.D) (w:Nat) (h:Rep (.sl Za) M [v] bs) (hn:bs.length≤4) (hw:w≤200) (hk:Zys w bs):Sat (Zb T0 ZaT [v,.int .i64 (w:Int)] M) (ZAg M (ndY w bs)):=by
  obtain ⟨a,c,rfl⟩:=h.slen
  obtain ⟨v',X',⟨pX,hg⟩,e⟩:=ZoB M w a c bs h (by omega) hw hk (.slice none 0 0) M ⟨List.prefix_refl _,Zdg.nil⟩
  simp only [Int.natCast_zero,Int.ofNat_zero] at e
  have hlen:=Ze2 hk
  have hle:bs.length * (w+3)≤4 * (w+3):=Nat.mul_le_mul_right _ hn
  have e1:IntKind.i64.wrap ((w:Int)+3)=(w:Int)+3:=Zd (by omega) (by omega)
  have e2:IntKind.i64.wrap (4 * ((w:Int)+3))=4 * ((w:Int)+3):=Zd (by omega) (by omega)
  have e3:IntKind.i64.wrap (4 * ((w:Int)+3) - ((ZdR bs).length:Int))=((4 * (w+3) - (ZdR bs).length:Nat):Int):=by rw [Zd (by omega) (by omega)]; omega
  obtain ⟨v2,X2,q,g2⟩:=ZxM (⟨_,rfl,pX,hg⟩:BG M X' v' (ZdR bs)) rfl (4 * (w+3) - (ZdR bs).length) (by omega)
  obtain ⟨av,rfl⟩:=hg.shape
  obtain ⟨n2,_,_,hg2⟩:=id g2
  obtain ⟨a2,rfl⟩:=hg2.shape
  have hbd1:(((4 * (w+3) - (ZdR bs).length:Nat):Int))≤9223372036854775807:=by omega
  have hbd2:(((4 * (w+3) - (ZdR bs).length:Nat):Int))≤281474976710656:=by omega
  generalize hm:4 * (w+3) - (ZdR bs).length=m at *
  rw [Zc Zqm]; unfold ZhZ ZlD; simp [apA,e]
  rw [Zjd]; unfold Zdz; simp [apA,e1,e2,e3,q,hbd1,hbd2]
  exact ⟨(_,X2),rfl,by unfold ndY; rw [hm]; exact g2⟩
set_option maxHeartbeats 2000000 in
theorem Zl7 (M:Mem) (a:Option Addr) (c:Nat) (ys:List UInt8) (w:Nat) (lg:V) (h:Rep (.sl ZD) M [.slice a ys.length c] ys) (hw:w≤200) (hw1:1≤w) (hl:ys.length=4 * (w+3)) (v:V) (Z:Mem) (hZ:CbI M v [] Z) :
    ∃ v' X',CbI M v' (ndB w ys) X'∧lp (Zb T0) Qa Jz [.slice a ys.length c,lg,.int .i64 (w:Int),O,O,O,O,O,v,.int .i64 ((0 * (w+3):Nat):Int),O,O,O,O,O,O,O,O,O,O,O,O,O,O,O,O,O,O,O,O,O,O,O,O,O,O,O,O,O,O,O,O,O,O,O,O,O,O,O,O,O,O,O,O,O,O,O,O,O,O,O,O,O,O,O,O,O,O,O,O,O,O,O,O,O,O,O,O,O,O] Z=lp (Zb T0) Qa Jz [.slice a ys.length c,lg,.int .i64 (w:Int),O,O,O,O,O,v',.int .i64 ((nbC w ys * (w+3):Nat):Int),O,O,O,O,O,O,O,O,O,O,O,O,O,O,O,O,O,O,O,O,O,O,O,O,O,O,O,O,O,O,O,O,O,O,O,O,O,O,O,O,O,O,O,O,O,O,O,O,O,O,O,O,O,O,O,O,O,O,O,O,O,O,O,O,O,O,O,O,O,O] X':=by
  refine YT (call:=Zb T0) (K:=Qa) (L:=Jz) (fun i v X=>CbI M v (ndP w ys i) X) (fun i v=>[.slice a ys.length c,lg,.int .i64 (w:Int),O,O,O,O,O,v,.int .i64 ((i * (w+3):Nat):Int),O,O,O,O,O,O,O,O,O,O,O,O,O,O,O,O,O,O,O,O,O,O,O,O,O,O,O,O,O,O,O,O,O,O,O,O,O,O,O,O,O,O,O,O,O,O,O,O,O,O,O,O,O,O,O,O,O,O,O,O,O,O,O,O,O,O,O,O,O,O]) (n:=nbC w ys) ?_ 0 v Z (by omega) (by simpa [ndP] using hZ)
  intro i v X hi ⟨L,pX,g0,nd,ge0⟩
  have hi4:=Zt2 w ys
  have hone:=ZsA w ys 4 0 i (by omega) hi
  have hbnd:i * (w+3)+(w+3)≤4 * (w+3):=by rw [← Nat.succ_mul]; exact Nat.mul_le_mul_right _ (by omega)
  rw [ZtF]
  have hlen:=ZsP w ys i
  generalize ndP w ys i=xs at g0 hlen ⊢
  obtain ⟨l,o,rfl,_,_⟩:=Zgc h (i:=0) (by omega)
  have hlM:l < M.length:=by obtain ⟨blk,hbk,_⟩:=Zij h; exact ZI hbk
  have b0:=Qt pX (ZkK h (i:=i * (w+3)) (by omega))
  have b1:=Qt pX (ZkK h (i:=i * (w+3)+1) (by omega))
  have b2:=Qt pX (ZkK h (i:=i * (w+3)+2) (by omega))
  rw [hone] at b0
  have hnxt:(i+1) * (w+3)=i * (w+3)+(w+3):=Nat.succ_mul _ _
  have hsub:=Zwg (h.mono pX) (i * (w+3)+3) w (by omega)
  have hbd:Zwl w ys i=(((ys.getD (i * (w+3)+1) 0).toNat:Int),((ys.getD (i * (w+3)+2) 0).toNat:Int),(ys.drop (i * (w+3)+3)).take w):=rfl
  have hdl:List.length (α:=UInt8) ((ys.drop (i * (w+3)+3)).take w)=w:=by rw [List.length_take,List.length_drop]; omega
  have n1:(ys.getD (i * (w+3)+1) 0).toNat < 256:=UInt8.toNat_lt _
  have n2:(ys.getD (i * (w+3)+2) 0).toNat < 256:=UInt8.toNat_lt _
  rw [hbd]
  generalize (ys.drop (i * (w+3)+3)).take w=dat at *
  generalize (ys.getD (i * (w+3)+1) 0).toNat=q1 at *
  generalize (ys.getD (i * (w+3)+2) 0).toNat=q2 at *
  generalize hat:i * (w+3)=at0 at *
  have e1:IntKind.i64.wrap ((at0:Int)+1)=(at0:Int)+1:=Zd (by omega) (by omega)
  have e2:IntKind.i64.wrap ((at0:Int)+2)=(at0:Int)+2:=Zd (by omega) (by omega)
  have e3:IntKind.i64.wrap ((at0:Int)+3)=(at0:Int)+3:=Zd (by omega) (by omega)
  have e4:IntKind.i64.wrap ((at0:Int)+3+(w:Int))=(at0:Int)+3+(w:Int):=Zd (by omega) (by omega)
  have e5:IntKind.i64.wrap ((w:Int)+3)=(w:Int)+3:=Zd (by omega) (by omega)
  have e6:IntKind.i64.wrap ((at0:Int)+((w:Int)+3))=(at0:Int)+((w:Int)+3):=Zd (by omega) (by omega)
  have d1:(0:Int)≤(at0:Int)+1∧(at0:Int)+1 < (ys.length:Int):=by omega
  have d2:(0:Int)≤(at0:Int)+2∧(at0:Int)+2 < (ys.length:Int):=by omega
  have d3:(0:Int)≤(at0:Int)+3∧(at0:Int)+3≤(at0:Int)+3+(w:Int)∧((at0:Int)+3+(w:Int)≤(ys.length:Int)∨(at0:Int)+3+(w:Int)≤(c:Int)):=by omega
  have d5:((at0:Int)+2).toNat=at0+2:=by omega
  have d6:((at0:Int)+3).toNat=at0+3:=by omega
  have d7:((at0:Int)+1).toNat=at0+1:=by omega
  have d4:((at0:Int)+3+(w:Int) - ((at0:Int)+3)).toNat=w:=by omega
  have c1:IntKind.i64.wrap (q1:Int)=q1:=Zd (by omega) (by omega)
  have c2:IntKind.i64.wrap (q2:Int)=q2:=Zd (by omega) (by omega)
  have g1:at0 < ys.length:=by omega
  have g2:at0+1 < ys.length:=by omega
  have g3:at0+2 < ys.length:=by omega
  have g4:at0+3+w≤ys.length:=by omega
  obtain ⟨blk,hbk,hbw⟩:=Zij h
  have hbX:=Zh pX hbk
  obtain ⟨av,rfl⟩:=g0.shape
  have hwL:∀ b ∈ wfs (.slice av xs.length xs.length),M.length≤b:=by
    obtain ⟨_,_,hw⟩:=g0.gr (K:=0) (by simp)
    exact fun b hb=>ge0 b (hw b hb)
  have hbw1:blk.w=1:=hbw.1
  have s1:=ZlB (M:=X) ZfI (t:=.u8) Zfs rfl (hsub (max ys.length c - (at0+3))) (by omega) (by omega)
  have hh2:∀ zs:List Nat,(∀ y ∈ zs,y=l)→Zfx (wfs (.slice av xs.length xs.length)) zs=false:=fun zs hy=>Zif (K:=M.length) hwL (fun y h=>by rw [hy y h]; exact hlM)
  have t3:=hh2 [l,l,l] (by simp)
  rw [Zeu]; unfold ZaF; simp [apA,b0,b1,b2,g1,d1,d2,d3,d4,d5,d6,d7,e1,e2,e3,e4,c1,c2,hbX,hbw1,ZqD,ZpQ]
  generalize hx:Zb T0 Qk _ _=xhx
  obtain ⟨v1,X3,rfl,K2,p3,gb,ndb,geb⟩:=ZQ hx s1
  clear hx
  simp only at p3 gb geb
  obtain ⟨a7,rfl⟩:=gb.shape
  simp [apA,Jo,p3,zeroCells]
  generalize hy:Zdq _ _ _ _ _ _=xhy
  have hdl2:List.length (α:=UInt8) dat=w:=hdl
  have w0:(Lit.int .i64 (q1:Int)).wf=true:=ZqQ (by omega) (by omega)
  have w1:(Lit.int .i64 (q2:Int)).wf=true:=ZqQ (by omega) (by omega)
  obtain ⟨l4,X4,L',rfl,g4,ag2,len2,hw4,nd4,sub4,hl4⟩:=g0.app (t:=Za) hy (p3.trans (List.prefix_append _ _)) (Znt (x:=((q1:Int),(q2:Int),dat)) w0 w1 (gb.grow (List.prefix_append _ _))) (fun j hj=>geb j hj) nd ndb (by rw [hlen]; omega) (by rw [hlen]; omega)
  clear hy
  have pX4:M <+: X4:=ag2.pre (JZ (pX.trans p3)) hwL
  simp [apA,YD,ag2,t3,e5,e6]
  have hfin:((i:Int)+1) * ((w:Int)+3)=(at0:Int)+((w:Int)+3):=by
    have e9:((i * (w+3):Nat):Int)=(i:Int) * ((w:Int)+3):=by rw [Int.natCast_mul]; rfl
    rw [Int.add_mul,Int.one_mul,← e9,hat]
  refine ⟨_,_,⟨L',pX4,g4,nd4,fun j hj=>?_⟩,?_⟩
  · have hx3:=p3.length_le
    have hpl:=pX.length_le
    rcases sub4 j hj with h | h | h
    · exact ge0 j h
    · have:=geb j h; omega
    · simp at hl4; omega
  · rw [hfin]
def NrV (M:Mem) (ok:Bool) (bs:List Za.D) (p:V × Mem):Prop:=∃ r L,p.1=.tuple #[r,.bool ok]∧M <+: p.2∧Gr (.sl Za) p.2 [r] bs L∧L.Nodup∧∀ j ∈ L,M.length≤j
theorem Zp5 (M:Mem) (u v:V) (xs ys:List UInt8) (h:Rep (.sl ZD) M [u] xs) (h2:Rep (.sl ZD) M [v] ys):Zb T0 ZfE [u,v] M=some (.bool (decide (xs=ys)),M):=by
  obtain ⟨a,c,rfl,s1⟩:=Zdm h
  obtain ⟨b,d,rfl,s2⟩:=Zdm h2
  rw [Zc Zql]; unfold Zin Zld; simp [s1,s2,Zf8]
set_option maxHeartbeats 1000000 in
theorem ZjR (M:Mem) (v:V) (ys:List UInt8) (l w:Int) (h:Rep (.sl ZD) M [v] ys) (hn:ys.length≤1048576):Sat (Zb T0 Q1 [v,.int .i64 l,.int .i64 w] M) (NrV M (ZfD l w ys) (ndX l w ys)):=by
  have e1:=fun M=>Ze4 M l
  have e2:=fun M=>Js M w 1 200
  have hlg:(decide (0≤l) && decide (l≤6))=lgB l:=rfl
  have hwd:(decide (1≤w) && decide (w≤200))=wdB w:=rfl
  rw [hlg] at e1
  rw [hwd] at e2
  obtain ⟨a,c,rfl⟩:=h.slen
  have hnil:∀ {X:Mem},Gr (.sl Za) X [.slice none 0 0] [] []:=Gr.nil
  cases h1:lgB l with
  | false =>
    have hs:ZfD l w ys=false:=by simp [ZfD,h1]
    have hx:ndX l w ys=[]:=by simp [ndX,hs]
    rw [hs,hx]
    rw [h1] at e1
    rw [Zc ZbU]; unfold JM Zap; simp [apA,e1]
    exact ⟨(_,_),rfl,_,[],rfl,List.prefix_refl _,hnil,by simp,by simp⟩
  | true =>
    rw [h1] at e1
    cases h2:wdB w with
    | false =>
      have hs:ZfD l w ys=false:=by simp [ZfD,h2]
      have hx:ndX l w ys=[]:=by simp [ndX,hs]
      rw [hs,hx]
      rw [h2] at e2
      rw [Zc ZbU]; unfold JM Zap; simp [apA,e1,e2]
      exact ⟨(_,_),rfl,_,[],rfl,List.prefix_refl _,hnil,by simp,by simp⟩
    | true =>
      rw [h2] at e2
      have hw:1≤w∧w≤200:=by unfold wdB at h2; simpa using h2
      obtain ⟨W,rfl⟩:∃ W:Nat,w=(W:Int):=⟨Int.toNat w,by omega⟩
      have hW:Int.toNat (W:Int)=W:=by omega
      have w1:IntKind.i64.wrap ((W:Int)+3)=(W:Int)+3:=Zd (by omega) (by omega)
      have w2:IntKind.i64.wrap (4 * ((W:Int)+3))=4 * ((W:Int)+3):=Zd (by omega) (by omega)
      by_cases h3:(ys.length:Int)=4 * ((W:Int)+3)
      · have h3n:ys.length=4 * (W+3):=by omega
        obtain ⟨m,rfl,hm⟩:=ZjF h1
        obtain ⟨v1,X1,⟨L1,p1,g1,n1,k1⟩,e⟩:=Zl7 M a c ys W (.int .i64 (m:Int)) h (by omega) (by omega) h3n (.slice none 0 0) M ⟨[],List.prefix_refl _,Gr.nil,by simp,by simp⟩
        simp only [Nat.zero_mul,Int.natCast_zero,Int.ofNat_zero] at e
        have hblen:=Zh6 W ys
        have e3:=ZiF X1 v1 _ m W g1.rep (by omega)
        obtain ⟨l0,o0,rfl,_,_⟩:=Zgc h (i:=0) (by omega)
        have hex:=ZrE h h3n
        have hO:ZfD m W ys=(Z4 m W (ndB W ys) && decide (ndY W (ndB W ys)=ys)):=by
          unfold ZfD
          rw [h1,h2,hW]
          simp [h3]
        have hX:ndX m W ys=if ZfD m W ys=true then ndB W ys else []:=by unfold ndX; rw [hW]
        rw [hX,hO]
        have hNO:=fun (hb:Z4 m W (ndB W ys)=true)=>ZlA X1 v1 (ndB W ys) W g1.rep hblen (by omega) (ZAT hm hb)
        have hyl:=fun (hb:Z4 m W (ndB W ys)=true)=>Zh6 W ys
        generalize ndB W ys=bs at *
        generalize hat:nbC W ys * (W+3)=at0 at *
        obtain ⟨a1,rfl⟩:=g1.shape
        have hcase:(((¬ (at0:Int) < (ys.length:Int))∧(¬ at0 < ys.length))∧(¬ at0 < ys.length))∨(at0 < ys.length∧∃ b:Nat,rd1 X1 l0 (o0+at0)=some (.int .u8 (b:Int))∧¬ (b:Int)=1):=by
          rcases hex with hh | ⟨hh,b,q1,q2⟩
          · exact .inl ⟨⟨by omega,by omega⟩,by omega⟩
          · exact .inr ⟨hh,b,Qt p1 q1,q2⟩
        rcases hcase with ⟨⟨F1,F2⟩,F3⟩ | ⟨F1,b,F2,F3⟩
        all_goals
          cases hb:Z4 m W bs with
          | false =>
            rw [hb] at e3
            rw [Bool.false_and,if_neg (by simp)]
            rw [Zc ZbU]; unfold JM Zap; simp [apA,e1,e2,w1,w2,h3,e]
            rw [Zeu]; unfold ZaF; simp [apA,F1,F2,F3,e3]
            exact ⟨(_,X1),rfl,_,[],rfl,p1,hnil,by simp,by simp⟩
          | true =>
            rw [hb] at e3
            rw [Bool.true_and]
            rw [Zc ZbU]; unfold JM Zap; simp [apA,e1,e2,w1,w2,h3,e]
            rw [Zeu]; unfold ZaF; simp [apA,F1,F2,F3,e3]
            generalize hx:Zb T0 ZaT _ _=xhx
            obtain ⟨v2,X2,rfl,g2⟩:=ZQ hx (hNO hb)
            clear hx
            obtain ⟨L2,p2,o2,_⟩:=ZxE g2
            have e5:=Zp5 X2 v2 _ _ ys o2.rep (h.mono (p1.trans p2))
            obtain ⟨_,_,rfl⟩:=o2.rep.slen
            by_cases hq:ndY W bs=ys
            · rw [decide_eq_true hq] at e5
              rw [decide_eq_true hq,if_pos hq]
              simp [apA,e5]
              exact ⟨(_,X2),rfl,_,L1,rfl,p1.trans p2,g1.grow p2,n1,k1⟩
            · rw [decide_eq_false hq] at e5
              rw [decide_eq_false hq,if_neg hq]
              simp [apA,e5]
              exact ⟨(_,X2),rfl,_,[],rfl,p1.trans p2,hnil,by simp,by simp⟩
      · have hs:ZfD l W ys=false:=by simp [ZfD,h3]
        have hx:ndX l W ys=[]:=by simp [ndX,hs]
        rw [hs,hx]
        rw [Zc ZbU]; unfold JM Zap; simp [apA,e1,e2,w1,w2,h3]
        exact ⟨(_,_),rfl,_,[],rfl,List.prefix_refl _,hnil,by simp,by simp⟩
structure InI (M:Mem) (bs:List Za.D) (l2:Nat) (css:List (List V)) (Ls:List (List Nat)) (i:Nat) (all:List Za.D) (v:V) (X:Mem):Prop where
  pre:M <+: X
  gr:∃ L,Gr (.sl Za) X [v] all L∧L.Nodup∧(∀ j ∈ L,M.length≤j)∧(∀ j ∈ L,j ≠ l2∧∀ (k:Nat) (K:List Nat),i≤k→Ls[k]?=some K→j ∉ K)
  hb:X[l2]?=some ⟨css.flatten,3,2⟩
  el:∀ (k:Nat) (ds:List V) (x:Za.D) (K:List Nat),i≤k→css[k]?=some ds→bs[k]?=some x→Ls[k]?=some K→Gr Za X ds x K∧(∀ j ∈ K,M.length≤j∧j ≠ l2)
  lt:ZhP all
  rg:Zgv all
theorem ZFz {M X:Mem} {w:V} {bs:List Za.D} {K:List Nat} (hp:M <+: X) (h:Gr (.sl Za) X [w] bs K) (nd:K.Nodup) (hK:∀ j ∈ K,M.length≤j) (hne:bs ≠ []):∃ l2 css Ls,w=.slice (some ⟨l2,0,none⟩) bs.length bs.length∧css.length=bs.length∧Ls.length=bs.length∧(∀ c ∈ css,c.length=3)∧(∀ (a b:Nat) (A B:List Nat),a ≠ b→Ls[a]?=some A→Ls[b]?=some B→∀ j ∈ A,j ∉ B)∧Ls.flatten.Nodup∧K=l2 :: Ls.flatten ∧
    ∀ (all:List Za.D) (v:V) (L:List Nat),Gr (.sl Za) X [v] all L→L.Nodup→(∀ j ∈ L,M.length≤j)→(∀ j ∈ L,j ∉ K)→ZhP all→Zgv all→InI M bs l2 css Ls 0 all v X:=by
  rcases h with ⟨_,rfl,_⟩ | ⟨l2,css,Ls,e,hb,h1,h2,h3,rfl⟩
  · exact absurd rfl hne
  cases e
  have hnd:=List.nodup_cons.1 nd
  have hfl:=hnd.2
  have hw:∀ c ∈ css,c.length=3:=fun c hc=>by
    obtain ⟨k,hk,rfl⟩:=List.getElem_of_mem hc
    exact (h3 k _ (bs[k]'(by omega)) (Ls[k]'(by omega)) (by simp) (by simp) (by simp)).len
  refine ⟨l2,css,Ls,rfl,h1,h2,hw,?_,hfl,rfl,fun all v L g1 g2 g3 g4 g5 g6=>⟨hp,⟨L,g1,g2,g3,fun j hj=>⟨fun e=>g4 j hj (by rw [e]; exact List.mem_cons_self ..),fun k K _ hK hm=>g4 j hj (List.mem_cons_of_mem _ (List.mem_flatten.2 ⟨K,List.mem_of_getElem? hK,hm⟩))⟩⟩,hb,fun k ds x K _ q1 q2 q3=>⟨h3 k ds x K q1 q2 q3,fun j hj=>⟨hK j (List.mem_cons_of_mem _ (List.mem_flatten.2 ⟨K,List.mem_of_getElem? q3,hj⟩)),fun e=>hnd.1 (by rw [← e]; exact List.mem_flatten.2 ⟨K,List.mem_of_getElem? q3,hj⟩)⟩⟩,g5,g6⟩⟩
  intro a b A B hab hA hB j hjA hjB
  have hfl:=List.pairwise_flatten.1 hfl
  obtain ⟨ha,rfl⟩:=List.getElem?_eq_some_iff.1 hA
  obtain ⟨hb2,rfl⟩:=List.getElem?_eq_some_iff.1 hB
  have hpw:=List.pairwise_iff_getElem.1 hfl.2
  rcases Nat.lt_or_ge a b with h | h
  · exact hpw a b ha hb2 h j hjA j hjB rfl
  · exact hpw b a hb2 ha (by omega) j hjB j hjA rfl
abbrev FaB (p:Nat) (v1 v2 v3 v4 v5 v14 v:V) (v63 v64 v65:V) (l2 n:Nat) (i:Nat):List V:=[.pointer (some ⟨p,0,none⟩),v1,v2,v3,v4,v5,O,O,O,O,O,O,O,O,v14,v,O,O,O,O,O,O,O,O,O,O,O,O,O,O,O,O,O,O,O,O,O,O,O,O,O,O,O,O,O,O,O,O,O,O,O,O,O,O,O,O,O,O,O,O,O,O,O,v63,v64,v65,O,O,O,O,O,O,O,O,O,O,O,O,O,O,O,O,O,O,O,O,O,O,O,O,O,.slice (some ⟨l2,0,none⟩) n n,.int .i64 n,.int .i64 i,O,O,O,O,O,O,O,O,O,O,O,O,O,O,O,O,O,O,O,O,O,O,O,O,O,O,O,O,O,O,O,O,O,O,O,O,O,O,O,O,O,O,O,O,O,O,O,O,O,O,O,O,O,O,O,O,O,O,O,O,O,O,O,O,O,O,O,O,O,O,O,O,O,O,O,O,O,O,O,O,O,O,O,O,O,O,O,O,O,O,O,O,O,O,O,O,O,O,O,O,O,O,O,O,O,O,O,O,O,O,O,O,O,O,O,O,O,O,O]
theorem Zun {xs:List Int} (h:xs.Pairwise (· < ·)) (hr:∀ y ∈ xs,0≤y∧y≤255):xs.length≤256:=by
  have key:∀ i (hi:i < xs.length),(i:Int)≤xs[i]:=by
    intro i
    induction i with
    | zero=>intro hi; exact (hr _ (List.getElem_mem hi)).1
    | succ i ih =>
      intro hi
      have h1:=ih (by omega)
      have h2:=List.pairwise_iff_getElem.1 h i (i+1) (by omega) hi (by omega)
      omega
  by_cases h0:xs.length=0
  · omega
  · have h1:=key (xs.length - 1) (by omega)
    have h2:=(hr _ (List.getElem_mem (show xs.length - 1 < xs.length by omega))).2
    omega
theorem ZBj {xs:List Za.D} (h:ZhP xs) (hr:Zgv xs):xs.length≤256:=by
  have:=Zun (xs:=xs.map fun b=>(b.1:Int)) ((List.pairwise_map (f:=fun b:Za.D=>(b.1:Int)) (R:=(· < ·))).2 h) (fun y hy=>by
    obtain ⟨b,hb,rfl⟩:=List.mem_map.1 hy
    exact hr b hb)
  simpa using this
abbrev tgB (t1 t2:Int) (ta:Option Addr) (tn tc:Nat):List V:=[.int .i64 t1,.int .i64 t2,.slice ta tn tc]
theorem ZhI (M:Mem) (a a2 b b2:Int) (ua ub:Option Addr) (na ca nb cb:Nat) (ha:0≤a∧a≤255) (hb:0≤b∧b≤255):Zb T0 YL [.agg (tgB a a2 ua na ca).toArray,.agg (tgB b b2 ub nb cb).toArray] M=some (.int .i64 (a - b),M):=by
  have e:IntKind.i64.wrap (a - b)=a - b:=Zd (by omega) (by omega)
  rw [Zc Zml]; unfold Zeo ZhC; simp [e]
theorem ZGm (M:Mem) (a:Option Addr) (c:Nat) (xs:List Za.D) (h:Rep (.sl Za) M [.slice a xs.length c] xs) (hn:xs.length≤1048576) (hr:Zgv xs) (pt:Nat) (t1 t2:Int) (ta:Option Addr) (tn tc:Nat) (hpt:M[pt]?=some ⟨tgB t1 t2 ta tn tc,1,2⟩) (ht:0≤t1∧t1≤255) (i j:Nat) (hij:i < j) (hj:j≤xs.length) (hi:(i+j) / 2 < xs.length) :
    lp (Zb T0) Zg Zk [.slice a xs.length c,O,.func (.func YL) #[] #[],O,.pointer (some ⟨pt,0,none⟩),O,O,O,.int .i64 xs.length,.int .i64 i,.int .i64 j,O,O,O,O,O,O,O,O,O,O,O,O,O,O,O,O,O,O,O,O,O,O,O,O,O,O,O,O,O,O,O,O,O,O,O,O,O,O] M =
    lp (Zb T0) Zg Zk [.slice a xs.length c,O,.func (.func YL) #[] #[],O,.pointer (some ⟨pt,0,none⟩),O,O,O,.int .i64 xs.length,.int .i64 (if (xs[(i+j) / 2]).1 < t1 then (((i+j) / 2+1:Nat):Int) else (i:Int)),.int .i64 (if (xs[(i+j) / 2]).1 < t1 then (j:Int) else (((i+j) / 2:Nat):Int)),O,O,O,O,O,O,O,O,O,O,O,O,O,O,O,O,O,O,O,O,O,O,O,O,O,O,O,O,O,O,O,O,O,O,O,O,O,O] M:=by
  obtain ⟨m,hm⟩:∃ m,m=(i+j) / 2:=⟨_,rfl⟩
  simp only [← hm] at hi ⊢
  obtain ⟨l,o,u,rfl,_,_,_,hrd,_,_,qu,_⟩:=Y5 h hi
  have hx:=hr _ (List.getElem_mem hi)
  generalize xs[m]=b at *
  obtain ⟨b1,b2,b3⟩:=b
  simp only at *
  obtain ⟨ua,uc,rfl⟩:=qu.slen
  have s1:=ZhI M b1 b2 t1 t2 ua ta (List.length (α:=UInt8) b3) uc tn tc hx ht
  simp only [tgB] at s1 hpt
  have g0:(i:Int) < j:=by omega
  have e1:IntKind.i64.wrap ((i:Int)+j)=(i:Int)+j:=Zd (by omega) (by omega)
  have e2:IntKind.u64.wrap ((i:Int)+j)=(i:Int)+j:=Zp9 (by omega) (by omega)
  have e4:ZFc .u64 ((i:Int)+j) 1=(m:Int):=by
    unfold ZFc
    have hm2:min (1:Int).toNat IntKind.u64.bits=1:=rfl
    rw [hm2,hm]
    show ((i:Int)+j).fdiv (2 ^ 1)=_
    rw [Int.fdiv_eq_ediv_of_nonneg _ (by omega)]
    omega
  have e3:IntKind.i64.wrap ((m:Nat):Int)=m:=Zd (by omega) (by omega)
  have e6:IntKind.i64.wrap ((m:Int)+1)=m+1:=Zd (by omega) (by omega)
  have hpr:rdn M pt 0 3=some [.int .i64 t1,.int .i64 t2,.slice ta tn tc]:=Qf hpt rfl
  by_cases hq:b1 < t1
  · have hq2:b1 - t1 < 0:=Int.sub_neg_of_lt hq
    rw [ZA]; unfold Zo; simp [g0,hij,e1,e2,e4,e3,hi,hrd,hpr,s1,hq,hq2,e6]
  · have hq2:¬ b1 - t1 < 0:=fun hh=>hq (Int.lt_of_sub_neg hh)
    rw [ZA]; unfold Zo; simp [g0,hij,e1,e2,e4,e3,hi,hrd,hpr,s1,hq,hq2,e6]
theorem ZCZ (M:Mem) (a:Option Addr) (c:Nat) (xs:List Za.D) (h:Rep (.sl Za) M [.slice a xs.length c] xs) (hn:xs.length≤1048576) (hr:Zgv xs) (pt:Nat) (t1 t2:Int) (ta:Option Addr) (tn tc:Nat) (hpt:M[pt]?=some ⟨tgB t1 t2 ta tn tc,1,2⟩) (ht:0≤t1∧t1≤255):∀ (d i j:Nat),j - i≤d→i≤j→j≤xs.length →
    (∀ (q:0 < i) (hq:i - 1 < xs.length),(xs[i - 1]).1 < t1)→(∀ (hq:j < xs.length),¬ (xs[j]).1 < t1) →
    ∃ r:Nat,r≤xs.length∧(∀ (q:0 < r) (hq:r - 1 < xs.length),(xs[r - 1]).1 < t1)∧(∀ (hq:r < xs.length),¬ (xs[r]).1 < t1) ∧
    lp (Zb T0) Zg Zk [.slice a xs.length c,O,.func (.func YL) #[] #[],O,.pointer (some ⟨pt,0,none⟩),O,O,O,.int .i64 xs.length,.int .i64 i,.int .i64 j,O,O,O,O,O,O,O,O,O,O,O,O,O,O,O,O,O,O,O,O,O,O,O,O,O,O,O,O,O,O,O,O,O,O,O,O,O,O] M =
    lp (Zb T0) Zg Zk [.slice a xs.length c,O,.func (.func YL) #[] #[],O,.pointer (some ⟨pt,0,none⟩),O,O,O,.int .i64 xs.length,.int .i64 r,.int .i64 r,O,O,O,O,O,O,O,O,O,O,O,O,O,O,O,O,O,O,O,O,O,O,O,O,O,O,O,O,O,O,O,O,O,O,O,O,O,O] M
  | 0,i,j,hd,hij,hj,h1,h2=>by
    have e:i=j:=by omega
    subst e
    exact ⟨i,hj,h1,h2,rfl⟩
  | d+1,i,j,hd,hij,hj,h1,h2=>by
    by_cases e:i=j
    · subst e
      exact ⟨i,hj,h1,h2,rfl⟩
    have hm:(i+j) / 2 < xs.length:=by omega
    have hrr:=ZGm M a c xs h hn hr pt t1 t2 ta tn tc hpt ht i j (by omega) hj hm
    by_cases hq:(xs[(i+j) / 2]).1 < t1
    · rw [if_pos hq,if_pos hq] at hrr
      rw [hrr]
      exact ZCZ M a c xs h hn hr pt t1 t2 ta tn tc hpt ht d ((i+j) / 2+1) j (by omega) (by omega) hj (fun _ _=>hq) h2
    · rw [if_neg hq,if_neg hq] at hrr
      rw [hrr]
      exact ZCZ M a c xs h hn hr pt t1 t2 ta tn tc hpt ht d i ((i+j) / 2) (by omega) (by omega) (by omega) h1 (fun _=>hq)
theorem ZGn (M:Mem) (v:V) (xs:List Za.D) (h:Rep (.sl Za) M [v] xs) (hn:xs.length≤1048576) (hr:Zgv xs) (t1 t2:Int) (ta:Option Addr) (tn tc:Nat) (ht:0≤t1∧t1≤255) :
    ∃ r:Nat,r≤xs.length∧(∀ (q:0 < r) (hq:r - 1 < xs.length),(xs[r - 1]).1 < t1)∧(∀ (hq:r < xs.length),¬ (xs[r]).1 < t1) ∧
    Zb T0 ZE [v,.agg (tgB t1 t2 ta tn tc).toArray,.func (.func YL) #[] #[]] M=some (.tuple #[.int .i64 r,.bool (decide (∃ hq:r < xs.length,(xs[r]).1=t1))],M):=by
  obtain ⟨a,c,rfl⟩:=h.slen
  obtain ⟨r,h1,h2,h3,h4⟩:=ZCZ (M++[⟨tgB t1 t2 ta tn tc,1,2⟩]) a c xs (h.mono (List.prefix_append _ _)) hn hr M.length t1 t2 ta tn tc (by simp) ht xs.length 0 xs.length (by omega) (by omega) (Nat.le_refl _) (fun q=>by omega) (fun q=>by omega)
  refine ⟨r,h1,h2,h3,?_⟩
  simp only [Int.natCast_zero,Int.ofNat_zero] at h4
  have hpr:rdn (M++[⟨tgB t1 t2 ta tn tc,1,2⟩]) M.length 0 3=some [.int .i64 t1,.int .i64 t2,.slice ta tn tc]:=Qf (by simp) rfl
  simp only [tgB] at h4 hpr ⊢
  by_cases hr2:r < xs.length
  · obtain ⟨l,o,u,rfl,_,_,_,hrd,_,_,qu,_⟩:=Y5 (h.mono (List.prefix_append M [⟨[.int .i64 t1,.int .i64 t2,.slice ta tn tc],1,2⟩])) hr2
    have hx:=hr _ (List.getElem_mem hr2)
    have hd:decide (∃ hq:r < xs.length,(xs[r]).1=t1)=decide (xs[r].1 - t1=0):=by
      rw [decide_eq_decide]
      exact ⟨fun ⟨_,q⟩=>Int.sub_eq_zero.2 q,fun q=>⟨hr2,Int.sub_eq_zero.1 q⟩⟩
    have g:¬ r < r:=by omega
    rw [hd]
    generalize xs[r]=b at *
    obtain ⟨b1,b2,b3⟩:=b
    simp only at *
    obtain ⟨ua,uc,rfl⟩:=qu.slen
    have s1:=ZhI (M++[⟨[.int .i64 t1,.int .i64 t2,.slice ta tn tc],1,2⟩]) b1 b2 t1 t2 ua ta (List.length (α:=UInt8) b3) uc tn tc hx ht
    simp only [tgB] at s1
    rw [Zc Yb]; unfold ZF ZO; simp [h4]
    rw [ZA]; unfold Zo; simp [hr2,hrd,hpr,s1]
  · have hd:decide (∃ hq:r < xs.length,(xs[r]).1=t1)=false:=by
      rw [decide_eq_false_iff_not]
      exact fun ⟨q,_⟩=>hr2 q
    rw [hd]
    rw [Zc Yb]; unfold ZF ZO; simp [h4]
    rw [ZA]; unfold Zo; simp [hr2]
def ZG6 (M:Mem) (L J:List Nat) (zs:List Za.D) (p:V × Mem):Prop:=∃ L',Gr (.sl Za) p.2 [p.1] zs L'∧L'.Nodup∧(∀ j ∈ L',j ∈ L∨j ∈ J∨M.length≤j)∧JQ M p.2 L∧M.length < p.2.length
theorem Zrh {M M':Mem} {w w':List Nat} (h:JQ M M' w) (hs:∀ b ∈ w,b ∈ w'):JQ M M' w':=⟨h.1,fun b hb hn=>h.2 b hb (fun hm=>hn (hs b hm))⟩
theorem ZFA (M:Mem) (v:V) (xs:List Za.D) (L:List Nat) (i:Nat) (ds:List V) (y:Za.D) (J:List Nat) (l2:Nat) (h:Gr (.sl Za) M [v] xs L) (hi:i≤xs.length) (hy:Gr Za M ds y J) (hb2:M[l2]?=some ⟨ds,3,2⟩) (hl2:l2 ∉ L) (hj:∀ j ∈ J,j ∉ L) (hn:L.Nodup) (hnj:J.Nodup) (hs:xs.length≤10000) :
    Sat (Zb T0 ZU [v,.int .i64 (i:Int),.slice (some ⟨l2,0,none⟩) 1 1] M) (ZG6 M L J (xs.take i++y :: xs.drop i)):=by
  have hlen:=hy.len
  have hw:Za.w=3:=rfl
  rw [hw] at hlen
  obtain ⟨a,rfl⟩:=h.shape
  by_cases he:i=xs.length
  · subst he
    have hr2:Zj M 3 (.slice (some ⟨l2,0,none⟩) 1 1)=some (1,ds):=by
      simp only [Zj,rdn,hb2]
      rw [if_neg (by omega),if_pos (by refine ⟨by simp,by omega⟩),List.drop_zero,List.take_of_length_le (by omega)]
      rfl
    have hfin:xs.take xs.length++y :: xs.drop xs.length=xs++[y]:=by simp
    rw [hfin]
    have key:∀ x,Zdq M 3 40 (.slice a xs.length xs.length) 1 ds=x→Sat x (ZG6 M L J (xs++[y])):=by
      intro x hx
      obtain ⟨l,X3,L',rfl,g,ag,hl,hw2,nd,hL,_⟩:=h.app2 (t:=Za) (bytes:=40) hx (List.prefix_refl _) hy hj hn hnj (by omega) (by omega)
      exact ⟨_,rfl,L',g,nd,fun j hm=>(hL j hm).elim .inl (fun h=>h.elim (fun h=>.inr (.inl h)) (fun h=>.inr (.inr (by omega)))),Zrh ag hw2,hl⟩
    have hle:(xs.length:Int)≤(xs.length:Int):=Int.le_refl _
    have hk:(a=none∧xs.length=0)∨∃ l k,a=some ⟨l,0,none⟩∧M[l]?=some k∧k.w=3:=by
      rcases h with ⟨e,rfl,_⟩ | ⟨l,css,Ls,e,hb,_⟩
      · cases e; exact .inl ⟨rfl,rfl⟩
      · cases e; exact .inr ⟨l,_,rfl,hb,rfl⟩
    rcases hk with ⟨rfl,h0⟩ | ⟨l,k,rfl,hk,hkw⟩
    · rw [Zc YS]; unfold ZR Z8; simp [apA,hr2]
      generalize hy2:Zdq _ _ _ _ _ _=xhy2
      obtain ⟨⟨v3,X3⟩,rfl,L',g,nd,hL,ag,hlen3⟩:=key _ hy2
      clear hy2
      try simp only at g ag hlen3
      obtain ⟨a3,rfl⟩:=g.shape
      have hq:(xs++[y]).length=xs.length+1:=by simp
      rw [hq] at g ⊢
      simp [apA]
      exact ⟨_,rfl,L',g,nd,hL,ag,hlen3⟩
    · obtain ⟨⟨v3,X3⟩,hap,L',g,nd,hL,ag,hlen3⟩:=key _ rfl
      simp only at g ag hlen3
      rw [ZrS _ _ _ _ _ _ _ _ _ (by omega),hk] at hap
      obtain ⟨a3,rfl⟩:=g.shape
      have hq:(xs++[y]).length=xs.length+1:=by simp
      rw [hq] at g hap
      rw [Zc YS]; unfold ZR Z8; simp [apA,hk,hkw,hr2,hap]
      exact ⟨_,rfl,L',g,nd,hL,ag,hlen3⟩
  · have hlt:i < xs.length:=by omega
    obtain ⟨X',L',e,g,ag,hxl,hwl,nd,hL⟩:=h.ins (bytes:=40) hlt hy hb2 hl2 (by show 1 < 3; omega) hj hn hnj (by omega) (by omega)
    have hne:¬ (i:Int)=(xs.length:Int):=by omega
    have hle:(i:Int)≤(xs.length:Int):=by omega
    have hkb:∃ l k,a=some ⟨l,0,none⟩∧M[l]?=some k∧k.w=3:=by
      rcases h with ⟨_,rfl,_⟩ | ⟨l,css,Ls,e,hb,_⟩
      · simp at hlt
      · cases e
        exact ⟨l,_,rfl,hb,rfl⟩
    obtain ⟨l,k,rfl,hk,hkw⟩:=hkb
    rw [hw] at e
    rw [Zc YS]; unfold ZR Z8; simp [apA,hk,hkw,hne,hle,hlt,he,e]
    exact ⟨(_,X'),rfl,L',g,nd,fun j hm=>(hL j hm).elim .inl (fun h=>h.elim (fun h=>.inr (.inl h)) (fun h=>.inr (.inr (by omega)))),Zrh ag hwl,by show M.length < X'.length; omega⟩
theorem Zrz {xs:List Za.D} {id:Int} {r:Nat} (hs:ZhP xs) (hr:r≤xs.length) (h1:∀ (q:0 < r) (hq:r - 1 < xs.length),(xs[r - 1]).1 < id):∀ k (hk:k < xs.length),k < r→xs[k].1 < id:=by
  intro k hk hkr
  have h:=h1 (by omega) (by omega)
  by_cases e:k=r - 1
  · subst e; exact h
  · exact Int.lt_trans (List.pairwise_iff_getElem.1 hs k (r - 1) hk (by omega) (by omega)) h
theorem ZjM (id:Int) (xs ys:List Za.D):ZP id (xs++ys)=ZP id xs++ZP id ys:=List.filter_append ..
theorem ZxW {id:Int}:∀ {xs:List Za.D} {r:Nat},r≤xs.length→(∀ k (hk:k < xs.length),k < r→xs[k].1 < id)→(∀ hr:r < xs.length,¬ xs[r].1 < id)→lbB id xs=r
  | [],r,h,_,_=>by simp at h; simp [lbB,h]
  | b :: xs,0,_,_,h2=>by
    have h:=h2 (by simp)
    simp only [List.getElem_cons_zero] at h
    simp [lbB,List.takeWhile_cons,decide_eq_false h]
  | b :: xs,r+1,hl,h1,h2=>by
    have h:=h1 0 (by simp) (by omega)
    simp only [List.getElem_cons_zero] at h
    have ih:=ZxW (id:=id) (xs:=xs) (r:=r) (by simpa using hl) (fun k hk hkr=>h1 (k+1) (by simpa using hk) (by omega)) (fun hr=>h2 (by simpa using hr))
    unfold lbB at ih ⊢
    simp only [List.takeWhile_cons,decide_eq_true h,if_true,List.length_cons,ih]
theorem ZxP {b:Za.D} {xs:List Za.D} {r:Nat} (hs:ZhP xs) (hr:r < xs.length) (he:xs[r].1=b.1):Zj7 b xs=xs.set r b∧(ZP b.1 xs).length+1=xs.length:=by
  have e:xs=xs.take r++xs[r] :: xs.drop (r+1):=by rw [← List.drop_eq_getElem_cons hr,List.take_append_drop]
  have hlo:∀ c ∈ xs.take r,c.1 < b.1:=by
    intro c hc
    obtain ⟨k,hk,rfl⟩:=List.getElem_of_mem hc
    rw [List.length_take] at hk
    rw [List.getElem_take,← he]
    exact ZgL hs (r:=k) (by omega) r hr (by omega)
  have hhi:∀ c ∈ xs.drop (r+1),b.1 < c.1:=by
    intro c hc
    obtain ⟨k,hk,rfl⟩:=List.getElem_of_mem hc
    rw [List.length_drop] at hk
    rw [List.getElem_drop,← he]
    exact ZgL hs hr _ (by omega) (by omega)
  have hw:ZP b.1 xs=xs.take r++xs.drop (r+1):=by
    have h1:ZP b.1 [xs[r]]=[]:=by simp [ZP,he]
    have h2:xs.take r++xs[r] :: xs.drop (r+1)=xs.take r++([xs[r]]++xs.drop (r+1)):=by simp
    conv=>lhs; rw [e,h2]
    rw [ZjM,ZjM,h1,List.nil_append,Zdo (fun c hc=>Int.ne_of_lt (hlo c hc)),Zdo (fun c hc=>(Int.ne_of_lt (hhi c hc)).symm)]
  have hlt:(xs.take r).length=r:=by rw [List.length_take]; omega
  have hlb:lbB b.1 (xs.take r++xs.drop (r+1))=r:=by
    refine ZxW (by rw [List.length_append]; omega) (fun k hk hkr=>?_) (fun hrr=>?_)
    · rw [List.getElem_append_left (by omega)]
      exact hlo _ (List.getElem_mem _)
    · rw [List.getElem_append_right (by omega)]
      exact fun h=>Int.lt_irrefl _ (Int.lt_trans h (hhi _ (List.getElem_mem _)))
  unfold Zj7 Zyx
  rw [hw,hlb]
  refine ⟨?_,?_⟩
  · rw [List.take_left' hlt,List.drop_left' hlt,List.set_eq_take_append_cons_drop,if_pos hr]
  · rw [List.length_append,List.length_take,List.length_drop]
    omega
theorem ZD1 {b:Za.D} {xs:List Za.D} {r:Nat} (hs:ZhP xs) (hr:r≤xs.length) (h1:∀ k (hk:k < xs.length),k < r→xs[k].1 < b.1) (h2:∀ hq:r < xs.length,¬ xs[r].1 < b.1) (hn:¬ ∃ hq:r < xs.length,xs[r].1=b.1):Zj7 b xs=xs.take r++b :: xs.drop r∧ZP b.1 xs=xs:=by
  have hw:ZP b.1 xs=xs:=by
    refine Zdo fun c hc=>?_
    obtain ⟨k,hk,rfl⟩:=List.getElem_of_mem hc
    by_cases hkr:k < r
    · exact Int.ne_of_lt (h1 k hk hkr)
    · by_cases e:k=r
      · subst e
        exact fun e=>hn ⟨hk,e⟩
      · have h3:=ZgL hs (r:=r) (by omega) k hk (by omega)
        have h4:=h2 (by omega)
        exact fun e=>h4 (by rw [← e]; exact h3)
  unfold Zj7 Zyx
  rw [hw,ZxW hr h1 h2]
  exact ⟨rfl,rfl⟩
def BpD (M:Mem) (L J:List Nat) (zs:List Za.D) (p:V × Mem):Prop:=∃ L',Gr (.sl Za) p.2 [p.1] zs L'∧L'.Nodup∧(∀ j ∈ L',j ∈ L∨j ∈ J∨M.length≤j)∧JQ M p.2 L∧M.length≤p.2.length
theorem Zju (M:Mem) (v:V) (xs:List Za.D) (L:List Nat) (ds:List V) (y:Za.D) (J:List Nat) (h:Gr (.sl Za) M [v] xs L) (hy:Gr Za M ds y J) (hj:∀ j ∈ J,j ∉ L) (hn:L.Nodup) (hnj:J.Nodup) (hs:xs.length≤10000) (hlt:ZhP xs) (hr:Zgv xs) (hyr:0≤y.1∧y.1≤255) :
    Sat (Zb T0 QZ [v,.agg ds.toArray] M) (BpD M L J (Zj7 y xs)):=by
  obtain ⟨u,rfl,w0,w1,qu⟩:=YE hy.rep
  obtain ⟨ua,uc,rfl⟩:=qu.slen
  obtain ⟨r,r1,r2,r3,r4⟩:=ZGn (M++[⟨[.int .i64 y.1,.int .i64 y.2.1,.slice ua (List.length (α:=UInt8) y.2.2) uc],1,2⟩]) v xs (h.rep.mono (List.prefix_append _ _)) (by omega) hr y.1 y.2.1 ua (List.length (α:=UInt8) y.2.2) uc hyr
  have hb:=Zrz hlt r1 r2
  have hpr:rdn (M++[⟨[.int .i64 y.1,.int .i64 y.2.1,.slice ua (List.length (α:=UInt8) y.2.2) uc],1,2⟩]) M.length 0 3=some [.int .i64 y.1,.int .i64 y.2.1,.slice ua (List.length (α:=UInt8) y.2.2) uc]:=Qf (by simp) rfl
  obtain ⟨a,rfl⟩:=h.shape
  simp only [tgB] at r4
  by_cases hf:∃ hq:r < xs.length,(xs[r]).1=y.1
  · rw [decide_eq_true hf] at r4
    obtain ⟨hq,he⟩:=hf
    rw [(ZxP hlt hq he).1]
    obtain ⟨l,cs,L',e,hbl,hle,hlL,g,nd,hL⟩:=(h.grow (List.prefix_append M [(⟨[.int .i64 y.1,.int .i64 y.2.1,.slice ua (List.length (α:=UInt8) y.2.2) uc],1,2⟩:Blk)])).put hq (hy.grow (List.prefix_append _ _)) hj hn hnj
    cases e
    have hw:Za.w=3:=rfl
    rw [hw] at hbl hle g
    have hwr:=ZdU (o:=r * 3) hbl rfl hle hy.one
    have hlX:=h.lt l hlL
    generalize splice cs (r * 3) [.int .i64 y.1,.int .i64 y.2.1,.slice ua (List.length (α:=UInt8) y.2.2) uc]=cs2 at g hwr
    rw [Zc Zjl]; unfold Zdu Zf5; simp [apA,r4,hpr,hq,hwr]
    refine ⟨(_,_),rfl,L',g,nd,fun j hm=>(hL j hm).elim .inl (fun h=>.inr (.inl h)),⟨by simp,fun b hb1 hb2=>?_⟩,by simp⟩
    show (List.set _ l _)[b]?=_
    rw [List.getElem?_set_ne (fun e=>hb2 (by rw [← e]; exact hlL)),List.getElem?_append_left hb1]
  · rw [decide_eq_false hf] at r4
    rw [(ZD1 hlt r1 hb r3 hf).1]
    have hI:=ZFA (M++[⟨[.int .i64 y.1,.int .i64 y.2.1,.slice ua (List.length (α:=UInt8) y.2.2) uc],1,2⟩,⟨[.int .i64 y.1,.int .i64 y.2.1,.slice ua (List.length (α:=UInt8) y.2.2) uc],3,2⟩]) (.slice a xs.length xs.length) xs L r [.int .i64 y.1,.int .i64 y.2.1,.slice ua (List.length (α:=UInt8) y.2.2) uc] y J (M.length+1)
      (h.grow (List.prefix_append _ _)) r1 (hy.grow (List.prefix_append _ _)) (by simp) (fun hm=>by have:=h.lt _ hm; omega) hj hn hnj hs
    rw [Zc Zjl]; unfold Zdu Zf5; simp [apA,r4,hpr,zeroCells]
    generalize hx:Zb T0 ZU _ _=xhx
    obtain ⟨v5,X5,rfl,L',g,nd,hL,ag,hl5⟩:=ZQ hx hI
    clear hx
    try simp only at g ag hl5
    generalize xs.take r++y :: xs.drop r=zz at g ⊢
    obtain ⟨a5,rfl⟩:=g.shape
    simp [apA]
    try simp at hl5
    refine ⟨(_,X5),rfl,L',g,nd,fun j hm=>(hL j hm).elim .inl (fun h=>h.elim (fun h=>.inr (.inl h)) (fun h=>.inr (.inr (by simp at h; omega)))),⟨by show M.length≤X5.length; omega,fun b hb1 hb2=>?_⟩,by show M.length≤X5.length; omega⟩
    have:=ag.2 b (by simp; omega) hb2
    rw [this,List.getElem?_append_left hb1]
set_option maxRecDepth 20000 in
set_option maxHeartbeats 2000000 in
theorem Zvm (M:Mem) (p:Nat) (v1 v2 v3 v4 v5 v14 v63 v64 v65:V) (bs:List Za.D) (l2:Nat) (css:List (List V)) (Ls:List (List Nat)) (i:Nat) (hi:i < bs.length) (h1:css.length=bs.length) (h2:Ls.length=bs.length) (hw:∀ c ∈ css,c.length=3)
    (hbs:Zgv bs) (hnl:bs.length≤4) (hj:∀ (a b:Nat) (A B:List Nat),a ≠ b→Ls[a]?=some A→Ls[b]?=some B→∀ j ∈ A,j ∉ B)
    (all:List Za.D) (hal:all.length≤5000) (v:V) (X:Mem) (h:InI M bs l2 css Ls i all v X) :
    ∃ v' X',InI M bs l2 css Ls (i+1) (Zj7 bs[i] all) v' X'∧lp (Zb T0) ZZ Yn (FaB p v1 v2 v3 v4 v5 v14 v v63 v64 v65 l2 bs.length i) X=lp (Zb T0) ZZ Yn (FaB p v1 v2 v3 v4 v5 v14 v' v63 v64 v65 l2 bs.length (i+1)) X':=by
  obtain ⟨L,g,nd,hge,hdis⟩:=h.gr
  have hki:=hbs _ (List.getElem_mem hi)
  have hds:=h.el i (css[i]'(by omega)) bs[i] (Ls[i]'(by omega)) (Nat.le_refl _) (by simp) (by simp) (by simp)
  have hfl:css.flatten.length=bs.length * 3:=by rw [YP hw,h1]
  have hrd:rdn X l2 (i * 3) 3=some (css[i]'(by omega)):=by
    have:=ZkW (w:=3) css i (by omega) [] hw
    simp only [rdn,h.hb]
    rw [List.append_nil] at this
    rw [if_pos (by refine ⟨by simp,by omega⟩),this]
  obtain ⟨gb,gk⟩:=hds
  obtain ⟨u,hu,w0,w1,qu⟩:=YE gb.rep
  obtain ⟨ua,uc,rfl⟩:=qu.slen
  obtain ⟨a,rfl⟩:=g.shape
  have e6:IntKind.i64.wrap ((i:Int)+1)=i+1:=Zd (by omega) (by omega)
  rw [hu] at hrd gb
  have hnbi:=hdis
  generalize hbi:bs[i]=b at *
  obtain ⟨b1,b2,b3⟩:=b
  simp only at hki hrd gb w0 w1 qu ⊢
  have hxp:X <+: X++[(⟨[.int .i64 b1,.int .i64 b2,.slice ua (List.length (α:=UInt8) b3) uc],1,2⟩:Blk)]:=List.prefix_append _ _
  have hpr:rdn (X++[(⟨[.int .i64 b1,.int .i64 b2,.slice ua (List.length (α:=UInt8) b3) uc],1,2⟩:Blk)]) X.length 0 3=some [.int .i64 b1,.int .i64 b2,.slice ua (List.length (α:=UInt8) b3) uc]:=Qf (by simp) rfl
  have hB:=Zju _ (.slice a all.length all.length) all L [.int .i64 b1,.int .i64 b2,.slice ua (List.length (α:=UInt8) b3) uc] (b1,b2,b3) _ (g.grow hxp) (gb.grow hxp) (fun j hj hm=>by
    have q1:=(hdis j hm).2 i _ (Nat.le_refl _) (List.getElem?_eq_getElem (by omega))
    exact q1 hj) nd (ZkN gb) (by omega) h.lt h.rg hki
  have iT:(i:Int) < (bs.length:Int):=by omega
  rw [ZcA]; unfold Jm; simp [apA,hi,iT,hrd,hpr,zeroCells]
  generalize hx:Zb T0 QZ _ _=xhx
  obtain ⟨v3',X3,rfl,L3,g3,n3,hL3,ag,hl3⟩:=ZQ hx hB
  clear hx
  simp only at g3 ag hl3
  simp [apA,e6]
  have hlX:=ZI h.hb
  have hlen:(X++[(⟨[.int .i64 b1,.int .i64 b2,.slice ua (List.length (α:=UInt8) b3) uc],1,2⟩:Blk)]).length=X.length+1:=by simp
  have hL2:l2 ∉ L:=fun hm=>(hdis l2 hm).1 rfl
  have hpM:=(h.pre.trans hxp).length_le
  have hgetL:Ls[i]?=some (Ls[i]'(by omega)):=List.getElem?_eq_getElem (by omega)
  refine ⟨v3',X3,⟨ag.pre (h.pre.trans hxp) hge,⟨L3,g3,n3,fun j hm=>?_,fun j hm=>?_⟩,?_,?_,ZpO h.lt,Zj0 h.rg hki⟩,rfl⟩
  · rcases hL3 j hm with q | q | q
    · exact hge j q
    · exact (gk j q).1
    · have:=h.pre.length_le; omega
  · rcases hL3 j hm with q | q | q
    · exact ⟨(hdis j q).1,fun k K hk hK=>(hdis j q).2 k K (by omega) hK⟩
    · exact ⟨(gk j q).2,fun k K hk hK=>hj i k _ K (by omega) hgetL hK j q⟩
    · refine ⟨by omega,fun k K hk hK hjK=>?_⟩
      have hk2:k < Ls.length:=(List.getElem?_eq_some_iff.1 hK).1
      have:=(h.el k (css[k]'(by omega)) (bs[k]'(by omega)) K (by omega) (List.getElem?_eq_getElem (by omega)) (List.getElem?_eq_getElem (by omega)) hK).1.lt j hjK
      omega
  · rw [ag.2 l2 (by omega) hL2]
    exact Zh hxp h.hb
  · intro k ds x K hk hd hx hK
    obtain ⟨q1,q2⟩:=h.el k ds x K (by omega) hd hx hK
    exact ⟨(q1.grow hxp).agree ag (fun j hm hmL=>(hdis j hmL).2 k K (by omega) hK hm),q2⟩
theorem Zxa (all bs:List Za.D) {i:Nat} (hi:i < bs.length):Zpx all (bs.take (i+1))=Zj7 bs[i] (Zpx all (bs.take i)):=by
  unfold Zpx
  rw [List.take_succ_eq_append_getElem hi,List.foldl_append]
  rfl
theorem Zvb (M:Mem) (p:Nat) (v1 v2 v3 v4 v5 v14 v63 v64 v65:V) (bs:List Za.D) (l2:Nat) (css:List (List V)) (Ls:List (List Nat)) (h1:css.length=bs.length) (h2:Ls.length=bs.length) (hw:∀ c ∈ css,c.length=3)
    (hbs:Zgv bs) (hnl:bs.length≤4) (hj:∀ (a b:Nat) (A B:List Nat),a ≠ b→Ls[a]?=some A→Ls[b]?=some B→∀ j ∈ A,j ∉ B)
    (all:List Za.D) (v:V) (X:Mem) (h:InI M bs l2 css Ls 0 all v X) :
    ∃ v' X',InI M bs l2 css Ls bs.length (Zpx all bs) v' X'∧lp (Zb T0) ZZ Yn (FaB p v1 v2 v3 v4 v5 v14 v v63 v64 v65 l2 bs.length 0) X=lp (Zb T0) ZZ Yn (FaB p v1 v2 v3 v4 v5 v14 v' v63 v64 v65 l2 bs.length bs.length) X':=by
  have key:=YT (call:=Zb T0) (K:=ZZ) (L:=Yn) (fun i (v:V) X=>InI M bs l2 css Ls i (Zpx all (bs.take i)) v X) (fun i v=>FaB p v1 v2 v3 v4 v5 v14 v v63 v64 v65 l2 bs.length i) (n:=bs.length) (fun i v X hi hX=>?_) 0 v X (by omega) (by simpa [Zpx] using h)
  · rw [List.take_length] at key
    exact key
  have hl:=ZBj hX.lt hX.rg
  rw [Zxa all bs hi]
  exact Zvm M p v1 v2 v3 v4 v5 v14 v63 v64 v65 bs l2 css Ls i hi h1 h2 hw hbs hnl hj _ (by omega) v X hX
set_option maxRecDepth 20000 in
set_option maxHeartbeats 2000000 in
theorem Zvv (M:Mem) (p m a:Nat) (w:Int) (v1 v2 v3 v4 v5 v14:V) (lP:Nat) (aC:Option Addr) (cC:Nat) (cells:List Zi.D) (hC:Rep (.sl Zi) M [.slice aC cells.length cC] cells) (hm:m≤6) (ha:a < 2 ^ m) (hP:∀ i,i≤m→rd1 M lP i=some (.int .i64 (((2 ^ m+a) / 2 ^ (m - i):Nat):Int))) (hp:rd1 M p 0=some (.int .i64 (m:Int))) (hpw:rd1 M p 1=some (.int .i64 w)) (hpc:rd1 M p 4=some (.slice aC cells.length cC)) (hlen:cells.length+1=2 * 2 ^ m) (hsz:∀ c ∈ cells,List.length (α:=UInt8) c≤1048576) (hok:∀ c ∈ cells,ZfD m w c=true)
    (i:Nat) (hi:i < m+1) (all:List Za.D) (v:V) (X:Mem) (h:OuI M all v X) :
    ∃ v' X',OuI M (Zpx all (ZqF w cells ((2 ^ m+a) / 2 ^ (m - i)))) v' X'∧lp (Zb T0) Z2 Ym (FaO p v1 v2 v3 v4 v5 v14 v lP (m+1) i) X=lp (Zb T0) Z2 Ym (FaO p v1 v2 v3 v4 v5 v14 v' lP (m+1) (i+1)) X':=by
  obtain ⟨L,g,nd,hge⟩:=h.gr
  have hPi:=Qt h.pre (hP i (by omega))
  obtain ⟨b1,b2⟩:=ZiA (m:=m) (a:=a) (i:=i) ha (by omega)
  have hp6:2 ^ m≤2 ^ 6:=Nat.pow_le_pow_right (by omega) hm
  generalize (2 ^ m+a) / 2 ^ (m - i)=N at *
  obtain ⟨q,hq⟩:∃ q,N=q+1:=⟨N - 1,by omega⟩
  subst hq
  have hqi:q < cells.length:=by omega
  obtain ⟨l,o,u,rfl,hrd,hrn,hu⟩:=Zic (hC.mono h.pre) hqi
  have hszi:=hsz _ (List.getElem_mem hqi)
  have hoki:=hok _ (List.getElem_mem hqi)
  have hcg:cells.getD (q+1 - 1) []=cells[q]:=by rw [List.getD_eq_getElem?_getD,Nat.add_sub_cancel,List.getElem?_eq_getElem hqi]; rfl
  unfold ZqF
  rw [hcg]
  obtain ⟨ua,uc,rfl⟩:=hu.slen
  generalize hcl:cells[q]=c at *
  have e6:IntKind.i64.wrap ((i:Int)+1)=i+1:=Zd (by omega) (by omega)
  have e7:IntKind.i64.wrap (q:Int)=q:=Zd (by omega) (by omega)
  have hp':=Qt h.pre hp
  have hpw':=Qt h.pre hpw
  have hpc':=Qt h.pre hpc
  have hNR:=ZjR X (.slice ua (List.length (α:=UInt8) c) uc) c m w hu hszi
  have hx:ndX m w c=ndB (Int.toNat w) c:=by unfold ndX; rw [if_pos hoki]
  rw [hoki,hx] at hNR
  have iT:(i:Int) < (m:Int)+1:=by omega
  have iN:i < m+1:=hi
  have qT:(q:Int) < (cells.length:Int):=by omega
  rw [Zfy]; unfold Zan; simp [apA,hi,iT,hPi,hp',hpw',hpc',e7,hqi,qT,hrd,hrn,zeroCells]
  generalize hx:Zb T0 Q1 _ _=xhx
  obtain ⟨_,X1,rfl,r,L1,rfl,p1,g1,n1,k1⟩:=ZQ hx hNR
  clear hx
  simp only at p1 g1
  have pM:=h.pre.trans p1
  have hbl:Z4 m w (ndB (Int.toNat w) c)=true:=by
    unfold ZfD at hoki
    simp only [Bool.and_eq_true] at hoki
    exact hoki.2.2.1
  have hbs:=Zqq hbl
  have hnl:=Zh6 (Int.toNat w) c
  generalize ndB (Int.toNat w) c=bs at *
  obtain ⟨a1,rfl⟩:=g1.shape
  have g':=g.grow p1
  by_cases hne:bs=[]
  · subst hne
    try simp only [List.length_nil]
    simp [apA,Jo,p1]
    rw [ZcA]; unfold Jm; simp [apA,e6]
    exact ⟨_,X1,⟨pM,⟨L,g',nd,hge⟩,h.lt,h.rg⟩,rfl⟩
  · obtain ⟨l2,css,Ls,e,h1,h2,hw,hj,hfl,rfl,hI⟩:=ZFz pM g1 n1 (fun j hj=>by have:=k1 j hj; have:=h.pre.length_le; omega) hne
    cases e
    have hI0:=hI all v L g' nd hge (fun j hj hm=>by have:=k1 j hm; have:=g.lt j hj; omega) h.lt h.rg
    obtain ⟨v',X',q2,e⟩:=Zvb M p v1 v2 v3 v4 v5 v14 (.slice (some ⟨lP,0,none⟩) (m+1) (m+1)) (.int .i64 ((m:Int)+1)) (.int .i64 i) bs l2 css Ls h1 h2 hw (fun b hb=>(hbs b hb).1) hnl hj all v X1 hI0
    try simp only [FaB,Int.natCast_zero,Int.ofNat_zero] at e
    simp [apA,Jo,p1,e]
    rw [ZcA]; unfold Jm; simp [apA,e6]
    obtain ⟨L',g2,n2,k2,_⟩:=q2.gr
    exact ⟨_,X',⟨q2.pre,⟨L',g2,n2,k2⟩,q2.lt,q2.rg⟩,rfl⟩
theorem ZuP (M:Mem) (p m a:Nat) (w:Int) (v1 v2 v3 v4 v5 v14:V) (lP:Nat) (aC:Option Addr) (cC:Nat) (cells:List Zi.D) (hC:Rep (.sl Zi) M [.slice aC cells.length cC] cells) (hm:m≤6) (ha:a < 2 ^ m) (hP:∀ i,i≤m→rd1 M lP i=some (.int .i64 (((2 ^ m+a) / 2 ^ (m - i):Nat):Int))) (hp:rd1 M p 0=some (.int .i64 (m:Int))) (hpw:rd1 M p 1=some (.int .i64 w)) (hpc:rd1 M p 4=some (.slice aC cells.length cC)) (hlen:cells.length+1=2 * 2 ^ m) (hsz:∀ c ∈ cells,List.length (α:=UInt8) c≤1048576) (hok:∀ c ∈ cells,ZfD m w c=true)
    (st:List Za.D) (v:V) (X:Mem) (h:OuI M st v X) :
    ∃ v' X',OuI M (Zl4 w cells (2 ^ m+a) m st (m+1)) v' X'∧lp (Zb T0) Z2 Ym (FaO p v1 v2 v3 v4 v5 v14 v lP (m+1) 0) X=lp (Zb T0) Z2 Ym (FaO p v1 v2 v3 v4 v5 v14 v' lP (m+1) (m+1)) X' :=
  YT (call:=Zb T0) (K:=Z2) (L:=Ym) (fun i (v:V) X=>OuI M (Zl4 w cells (2 ^ m+a) m st i) v X) (fun i v=>FaO p v1 v2 v3 v4 v5 v14 v lP (m+1) i) (n:=m+1) (fun i v X hi hX=>Zvv M p m a w v1 v2 v3 v4 v5 v14 lP aC cC cells hC hm ha hP hp hpw hpc hlen hsz hok i hi _ v X hX) 0 v X (by omega) h
def OmI (Y:Mem) (W:List Nat) (p:Nat) (l w b sz:Int) (uC uS:V) (cells:List Zi.D) (log:List Zf.D) (X:Mem):Prop:=∃ uT L0 L1,X[p]?=some ⟨[.int .i64 l,.int .i64 w,.int .i64 b,.int .i64 sz,uC,uT,uS],1,2⟩∧Gr (.sl Zi) X [uC] cells L0∧Gr (.sl Zf) X [uT] log L1∧(L0++L1).Nodup∧p ∉ L0++L1∧JQ Y X W∧∀ j ∈ p :: (L0++L1),j ∈ W∨Y.length≤j
abbrev FaR (p:Nat) (v14 v15 v22 v25 v26:V) (lP n:Nat) (i:Nat):List V:=[.pointer (some ⟨p,0,none⟩),O,O,O,O,O,O,O,O,O,O,O,O,O,v14,v15,O,O,O,O,O,O,v22,O,O,v25,v26,O,O,O,O,O,O,O,O,O,O,O,O,O,O,O,O,O,O,O,O,O,O,O,O,O,O,O,O,O,O,O,O,O,O,O,O,O,O,O,O,O,O,O,O,O,O,O,O,O,O,O,O,O,O,O,O,O,O,O,O,O,O,O,O,O,O,O,O,O,O,O,O,O,O,O,O,O,O,O,O,O,O,O,O,O,O,O,O,O,O,O,O,O,O,O,O,O,O,O,O,O,O,O,O,O,O,O,O,O,O,O,O,O,O,O,O,O,O,O,O,O,O,O,O,.slice (some ⟨lP,0,none⟩) n n,.int .i64 n,.int .i64 i,O,O,O,O,O,O,O,O,O,O,O,O,O,O,O,O,O,O,O,O,O,O,O,O,O,O,O,O,O,O,O,O,O,O,O,O,O,O,O,O,O,O,O,O,O,O,O,O,O,O,O,O,O,O,O,O,O,O,O]
theorem Zoi {cs:List V} {o:Nat} {v:V} (h:cs[o]?=some v):o < cs.length:=(List.getElem?_eq_some_iff.1 h).1
theorem ZBC {t:Ty} {X:Mem} {u:V} {xs:List t.D} {L:List Nat} (h:Gr (.sl t) X [u] xs L):∀ b ∈ wfs u,b ∈ L:=by
  obtain ⟨_,_,hw⟩:=h.gr (K:=0) (by simp)
  exact hw
def RdD (X:Mem) (p q w:Nat) (cs:List V) (sz:Int) (u0:V) (log:List Zf.D) (L1:List Nat) (i:Nat) (r:V × Mem):Prop:=∃ l L',r.2[p]?=some ⟨cs.set (q+2) (.slice (some ⟨l,0,none⟩) (log.length+1) (log.length+1)),w,2⟩∧Gr (.sl Zf) r.2 [.slice (some ⟨l,0,none⟩) (log.length+1) (log.length+1)] (log++[((1:Int),(i:Int),sz)]) L'∧L'.Nodup∧(∀ j ∈ L',j ∈ L1∨X.length≤j)∧JQ X r.2 (p :: L1)∧∃ (l2 o2:Nat),(∃ a c,u0=.slice (some ⟨l2,o2,none⟩) a c)∧rd1 X l2 (o2+i)=some r.1
theorem ZnN (X:Mem) (p q w:Nat) (cs:List V) (sz:Int) (u0 u1:V) (cells:List Zi.D) (log:List Zf.D) (L1:List Nat) (i:Nat) (hb:X[p]?=some ⟨cs,w,2⟩) (h0:cs[q]?=some (.int .i64 sz)) (h1:cs[q+1]?=some u0) (h2:cs[q+2]?=some u1)
    (g0:Rep (.sl Zi) X [u0] cells) (g1:Gr (.sl Zf) X [u1] log L1) (nd:L1.Nodup) (hp:p ∉ L1) (hi:i < cells.length) (hl:log.length≤1048576) (hn:cells.length≤1048576) (hw:(Lit.int .i64 sz).wf=true)
    (hk:∀ (l o:Nat) (a c:Nat),u0=.slice (some ⟨l,o,none⟩) a c→l ∉ L1∧l ≠ p) :
    Sat (Zb T0 ZbZ [.pointer (some ⟨p,q,none⟩),.int .i64 i] X) (RdD X p q w cs sz u0 log L1 i):=by
  have hwf:=ZBC g1
  have e0:rd1 X p q=some (.int .i64 sz):=by rw [Y1,hb,Z3]; exact h0
  have e2:rd1 X p (q+2)=some u1:=by rw [Y1,hb,Z3]; exact h2
  obtain ⟨a,c,rfl⟩:=g0.slen
  obtain ⟨l2,o2,u,rfl,q1,_,qr⟩:=Zic g0 hi
  obtain ⟨a9,c9,hu⟩:=qr.slen
  obtain ⟨hk1,hk2⟩:=hk l2 o2 _ _ rfl
  have hqlt:=Zoi h2
  obtain ⟨a3,rfl⟩:=g1.shape
  have hh:Zfx (wfs (.slice a3 log.length log.length)) [p,p]=false:=Zg7 fun x hx y hy e=>by
    simp at hy
    subst hy
    subst e
    exact hp (hwf _ hx)
  rw [Zc ZnH]; unfold Zgj Zjv; simp [apA,e0,e2,zeroCells]
  generalize hy:Zdq _ _ _ _ _ _=xhy
  have hpX:=List.prefix_append X [(⟨Z7 ((1:Int),(i:Int),sz),3,2⟩:Blk)]
  have hnew:Gr Zf (X++[(⟨Z7 ((1:Int),(i:Int),sz),3,2⟩:Blk)]) (Z7 ((1:Int),(i:Int),sz)) ((1:Int),(i:Int),sz) []:=Zir.1 _ _ ⟨show (Lit.int .i64 1).wf=true by decide,show (Lit.int .i64 (i:Int)).wf=true from ZfT (by omega),hw⟩
  have hy':Zdq (X++[(⟨Z7 ((1:Int),(i:Int),sz),3,2⟩:Blk)]) Zf.w 24 (.slice a3 log.length log.length) 1 (Z7 ((1:Int),(i:Int),sz))=xhy:=hy
  obtain ⟨l4,X4,L',rfl,g4,ag2,len2,hw4,nd4,sub4,hl4⟩:=g1.app hy' hpX hnew (by simp) nd (by simp) (by omega) (by omega)
  clear hy hy'
  have hnw:∀ j,j ∉ L1→j ∉ wfs (.slice a3 log.length log.length):=fun j hj hm=>hj (hwf _ hm)
  have y2:=ag2.get (Zh hpX hb) (hnw _ hp)
  have y0:rd1 X4 l2 (o2+i)=some u:=by
    have:rd1 (X++[(⟨Z7 ((1:Int),(i:Int),sz),3,2⟩:Blk)]) l2 (o2+i)=some u:=Zhe q1
    rw [← this]
    exact ZEI (ag2.2 l2 (by have:=ZvU this; exact this) (hnw _ hk1))
  have y3:rd1 X4 p (q+1)=some (.slice (some ⟨l2,o2,none⟩) cells.length c):=by rw [Y1,y2,Z3]; exact h1
  have e5:q+2+1≤cs.length:=by omega
  have e6:∀ v:V,List.take (q+2) cs++v :: List.drop (q+2+1) cs=cs.set (q+2) v:=fun v=>by rw [List.set_eq_take_append_cons_drop,if_pos hqlt]
  have e7:∀ v:V,(cs.set (q+2) v)[q+1]?=some (.slice (some ⟨l2,o2,none⟩) cells.length c):=fun v=>by rw [List.getElem?_set_ne (by omega)]; exact h1
  have e8:∀ b:Blk,(X4.set p b)[l2]?=X4[l2]?:=fun b=>Je (Ne.symm hk2)
  rw [Y1] at y0
  simp [apA,YD,ag2,hh,ZhB,y2,Zdj,e5,e6,Y1,ZbN y2,Z3,e7,hi,e8,y0]
  rw [hu]
  simp [apA]
  have hag:JQ X X4 (p :: L1):=by
    refine ⟨by have:=ag2.1; simp at this; omega,fun j hj hn=>?_⟩
    simp at hn
    rw [ag2.2 j (by simp; omega) (hnw j hn.2),List.getElem?_append_left hj]
  refine Zcw ⟨l4,L',ZbN y2 _,g4.set _ (fun hm=>?_),nd4,fun j hj=>?_,?_,l2,o2,⟨_,_,rfl⟩,?_⟩
  · rcases sub4 p hm with h | h | h
    · exact hp h
    · simp at h
    · have:=ZI hb
      simp at hl4
      omega
  · rcases sub4 j hj with h | h | h
    · exact .inl h
    · simp at h
    · simp at hl4
      exact .inr (by omega)
  · refine ⟨by rw [List.length_set]; exact hag.1,fun j hj hn=>?_⟩
    rw [Je (fun e=>hn (by simp [e]))]
    exact hag.2 j hj hn
  · rw [← hu]
    exact q1
set_option maxRecDepth 20000 in
set_option maxHeartbeats 2000000 in
theorem Zua (Y:Mem) (W:List Nat) (p m a:Nat) (l w b sz:Int) (uC uS:V) (cells:List Zi.D) (v14 v15 v22 v25 v26:V) (lP:Nat) (hm:m≤6) (ha:a < 2 ^ m) (hP:Y[lP]?=some ⟨Ic (ZkO (2 ^ m+a) (m+1)),1,2⟩) (hW:lP ∉ W) (hlen:cells.length+1=2 * 2 ^ m) (hw:(Lit.int .i64 sz).wf=true) (i:Nat) (hi:i < m+1) (lg:List Zf.D) (hlg:lg.length≤1048576) (X:Mem) (h:OmI Y W p l w b sz uC uS cells lg X) :
    ∃ X',OmI Y W p l w b sz uC uS cells (lg++[((1:Int),(((2 ^ m+a) / 2 ^ (m - i) - 1:Nat):Int),sz)]) X'∧lp (Zb T0) Z0 Yj (FaR p v14 v15 v22 v25 v26 lP (m+1) i) X=lp (Zb T0) Z0 Yj (FaR p v14 v15 v22 v25 v26 lP (m+1) (i+1)) X':=by
  obtain ⟨uT,L0,L1,hb,g0,g1,nd,hpL,ag,hV⟩:=h
  have hPi:=ZnE (ag.get hP hW) (i:=i) (by omega)
  obtain ⟨b1,b2⟩:=ZiA (m:=m) (a:=a) (i:=i) ha (by omega)
  have hp6:2 ^ m≤2 ^ 6:=Nat.pow_le_pow_right (by omega) hm
  generalize (2 ^ m+a) / 2 ^ (m - i)=N at *
  obtain ⟨q,hq⟩:∃ q,N=q+1:=⟨N - 1,by omega⟩
  subst hq
  have hqi:q < cells.length:=by omega
  have e6:IntKind.i64.wrap ((i:Int)+1)=i+1:=Zd (by omega) (by omega)
  have e7:IntKind.i64.wrap (q:Int)=q:=Zd (by omega) (by omega)
  obtain ⟨_,_,hwC⟩:=g0.gr (K:=0) (by simp)
  have ndp:=List.nodup_append.1 nd
  have hR:=ZnN X p 3 1 [.int .i64 l,.int .i64 w,.int .i64 b,.int .i64 sz,uC,uT,uS] sz uC uT cells lg L1 q hb rfl rfl rfl g0.rep g1 ndp.2.1 (fun hm=>hpL (List.mem_append_right _ hm)) hqi hlg (by omega) hw (fun l o a c e=>by
    have:l ∈ L0:=hwC l (by rw [e]; simp [wfs])
    exact ⟨fun hm=>ndp.2.2 l this l hm rfl,fun e2=>hpL (by rw [← e2]; exact List.mem_append_left _ this)⟩)
  have iT:(i:Int) < (m:Int)+1:=by omega
  rw [Nat.add_sub_cancel]
  rw [Zfu]; unfold Zao; simp [apA,hi,iT,hPi,e7]
  generalize hx:Zb T0 ZbZ _ _=xhx
  obtain ⟨_,X1,rfl,l1,L',q1,q2,q3,q4,q5,_⟩:=ZQ hx hR
  clear hx
  simp only at q1 q2 q5
  simp [apA,e6]
  refine ⟨X1,⟨_,L0,L',q1,g0.agree q5 (fun j hj hm=>?_),q2,?_,?_,Znp ag q5 (fun j hj=>?_),fun j hj=>?_⟩,rfl⟩
  · rcases List.mem_cons.1 hm with rfl | hm
    · exact hpL (List.mem_append_left _ hj)
    · exact ndp.2.2 j hj j hm rfl
  · refine List.nodup_append.2 ⟨ndp.1,q3,fun j hj k hk e=>?_⟩
    subst e
    rcases q4 j hk with h | h
    · exact ndp.2.2 j hj j h rfl
    · have:=g0.lt j hj; omega
  · intro hm
    rcases List.mem_append.1 hm with hm | hm
    · exact hpL (List.mem_append_left _ hm)
    · rcases q4 p hm with h | h
      · exact hpL (List.mem_append_right _ h)
      · have:=ZI hb; omega
  · rcases List.mem_cons.1 hj with rfl | hj
    · exact hV _ (List.mem_cons_self ..)
    · exact hV j (List.mem_cons_of_mem _ (List.mem_append_right _ hj))
  · rcases List.mem_cons.1 hj with rfl | hj
    · exact hV _ (List.mem_cons_self ..)
    · rcases List.mem_append.1 hj with hj | hj
      · exact hV j (List.mem_cons_of_mem _ (List.mem_append_left _ hj))
      · rcases q4 j hj with h | h
        · exact hV j (List.mem_cons_of_mem _ (List.mem_append_right _ h))
        · right; have:=ag.1; omega
theorem Zvk (Y:Mem) (W:List Nat) (p m a:Nat) (l w b sz:Int) (uC uS:V) (cells:List Zi.D) (v14 v15 v22 v25 v26:V) (lP:Nat) (hm:m≤6) (ha:a < 2 ^ m) (hP:Y[lP]?=some ⟨Ic (ZkO (2 ^ m+a) (m+1)),1,2⟩) (hW:lP ∉ W) (hlen:cells.length+1=2 * 2 ^ m) (hw:(Lit.int .i64 sz).wf=true) (lg:List Zf.D) (hlg:lg.length≤1000000) (X:Mem) (h:OmI Y W p l w b sz uC uS cells lg X) :
    ∃ X',OmI Y W p l w b sz uC uS cells (lgR sz (2 ^ m+a) m lg (m+1)) X'∧lp (Zb T0) Z0 Yj (FaR p v14 v15 v22 v25 v26 lP (m+1) 0) X=lp (Zb T0) Z0 Yj (FaR p v14 v15 v22 v25 v26 lP (m+1) (m+1)) X':=by
  obtain ⟨_,X',h',e⟩:=YT (call:=Zb T0) (K:=Z0) (L:=Yj) (fun i (_:Unit) X=>OmI Y W p l w b sz uC uS cells (lgR sz (2 ^ m+a) m lg i) X) (fun i (_:Unit)=>FaR p v14 v15 v22 v25 v26 lP (m+1) i) (n:=m+1) (fun i _ X hi hX=>by
    obtain ⟨X',h1,h2⟩:=Zua Y W p m a l w b sz uC uS cells v14 v15 v22 v25 v26 lP hm ha hP hW hlen hw i hi _ (by rw [Zox]; omega) X hX
    exact ⟨(),X',h1,h2⟩) 0 () X (by omega) h
  exact ⟨X',h',e⟩
abbrev FaW (p:Nat) (lP n:Nat) (aB:Option Addr) (nB cB:Nat) (v22:V) (aP:Option Addr) (nP cP:Nat) (v26:V) (z:Int):List V:=[.pointer (some ⟨p,0,none⟩),O,O,O,O,O,O,O,O,O,O,O,O,O,.slice (some ⟨lP,0,none⟩) n n,.slice aB nB cB,O,O,O,O,O,O,v22,O,O,.slice aP nP cP,v26,O,O,.int .i64 z,O,O,O,O,O,O,O,O,O,O,O,O,O,O,O,O,O,O,O,O,O,O,O,O,O,O,O,O,O,O,O,O,O,O,O,O,O,O,O,O,O,O,O,O,O,O,O,O,O,O,O,O,O,O,O,O,O,O,O,O,O,O,O,O,O,O,O,O,O,O,O,O,O,O,O,O,O,O,O,O,O,O,O,O,O,O,O,O,O,O,O,O,O,O,O,O,O,O,O,O,O,O,O,O,O,O,O,O,O,O,O,O,O,O,O,O,O,O,O,O,O,O,O,O,O,O,O,O,O,O,O,O,O,O,O,O,O,O,O,O,O,O,O,O,O,O,O,O,O,O,O,O,O,O,O,O,O,O,O,O,O,O,O,O,O,O,O,O,O,O,O,O,O,O,O,O,O,O,O,O,O,O,O]
abbrev FaP (v0 v14 v22 v25 v26:V) (aB:Option Addr) (nB cB:Nat) (lv:Int) (v:V) (aP:Option Addr) (n cP:Nat) (i:Nat):List V:=[v0,O,O,O,O,O,O,O,O,O,O,O,O,O,v14,.slice aB nB cB,O,O,O,O,O,O,v22,O,O,v25,v26,O,O,.int .i64 lv,v,O,O,O,O,O,O,O,O,O,O,O,O,O,O,O,O,O,O,O,O,O,O,O,O,O,O,O,O,O,O,O,O,O,O,O,O,O,O,O,O,O,O,O,O,O,O,O,O,O,O,O,O,O,O,O,O,O,O,O,O,O,O,O,O,O,O,O,O,O,O,O,O,O,O,O,O,O,O,O,O,O,O,O,O,O,O,O,O,O,O,O,O,O,O,O,O,O,O,O,O,O,O,O,O,O,O,O,O,O,O,O,O,O,O,O,O,O,O,O,O,O,O,O,O,O,O,O,O,O,O,O,O,O,O,O,O,O,O,O,O,O,.slice aP n cP,.int .i64 n,.int .i64 i,O,O,O,O,O,O,O,O,O,O,O,O,O,O,O,O,O,O,O,O,O,O,O,O,O,O,O,O,O,O,O,O,O,O,O,O,O,O]
theorem Zqi {p:Nat→Bool}:∀ {n:Nat},(∃ i,i < n∧p i=true)→∃ i,i < n∧p i=true∧∀ j,j < i→p j=false
  | 0,⟨i,hi,_⟩=>by omega
  | n+1,⟨i,hi,hp⟩=>by
    by_cases h:∃ j,j < n∧p j=true
    · obtain ⟨j,h1,h2,h3⟩:=Zqi h
      exact ⟨j,by omega,h2,h3⟩
    · have e:i=n:=by
        apply Classical.byContradiction
        intro hne
        exact h ⟨i,by omega,hp⟩
      subst e
      refine ⟨i,by omega,hp,fun j hj=>?_⟩
      cases hh:p j with
      | false=>rfl
      | true=>exact absurd ⟨j,hj,hh⟩ h
theorem Zde (M:Mem) (p:Nat) (id b1 b2:Int) (ua:Option Addr) (n c:Nat) (hp:rd1 M p 0=some (.int .i64 id)):Zb T0 Z6 [.agg (tgB b1 b2 ua n c).toArray,.pointer (some ⟨p,0,none⟩)] M=some (.bool (decide (b1=id)),M):=by
  have hp':=fun N:Mem=>Qt (List.prefix_append M N) hp
  by_cases h:b1=id
  · rw [decide_eq_true h]
    rw [Zc Zgo]; unfold ZaX Zdf; simp [hp',h]
  · rw [decide_eq_false h]
    rw [Zc Zgo]; unfold ZaX Zdf; simp [hp',h]
theorem Zyd (M:Mem) (p:Nat) (id:Int) (a:Option Addr) (c:Nat) (xs:List Za.D) (h:Rep (.sl Za) M [.slice a xs.length c] xs) (hp:rd1 M p 0=some (.int .i64 id)) (hn:xs.length≤1048576) (r:Nat) (hr:r≤xs.length) (hlt:∀ k (hk:k < xs.length),k < r→xs[k].1 ≠ id) :
    lp (Zb T0) Zp Zv [.slice a xs.length c,.func (.func Z6) #[] #[.pointer (some ⟨p,0,none⟩)],O,O,O,O,O,.int .i64 xs.length,.int .i64 (0:Nat),O,O,O,O,O,O,O,O,O,O] M=lp (Zb T0) Zp Zv [.slice a xs.length c,.func (.func Z6) #[] #[.pointer (some ⟨p,0,none⟩)],O,O,O,O,O,.int .i64 xs.length,.int .i64 r,O,O,O,O,O,O,O,O,O,O] M:=by
  have key:=YT (call:=Zb T0) (K:=Zp) (L:=Zv) (fun i (_:Nat) Y=>Y=M) (fun i (_:Nat)=>[.slice a xs.length c,.func (.func Z6) #[] #[.pointer (some ⟨p,0,none⟩)],O,O,O,O,O,.int .i64 xs.length,.int .i64 i,O,O,O,O,O,O,O,O,O,O]) (n:=r) ?_ 0 0 M (by omega) rfl
  · obtain ⟨_,X',rfl,e⟩:=key
    exact e
  intro i _ Y hi hY
  subst hY
  have hix:i < xs.length:=by omega
  obtain ⟨l,o,u,rfl,_,_,_,hrd,_,_,qu,_⟩:=Y5 h hix
  have hb:=hlt i hix hi
  generalize xs[i]=b at *
  obtain ⟨b1,b2,b3⟩:=b
  simp only at *
  obtain ⟨ua,uc,rfl⟩:=qu.slen
  have s1:=Zde Y p id b1 b2 ua (List.length (α:=UInt8) b3) uc hp
  simp only [tgB] at s1
  rw [decide_eq_false hb] at s1
  have e6:IntKind.i64.wrap ((i:Int)+1)=i+1:=Zd (by omega) (by omega)
  refine ⟨0,Y,rfl,?_⟩
  rw [Zr]; unfold Zm; simp [apA,hix,hrd,s1,e6]
theorem ZlQ (M:Mem) (v:V) (xs:List Za.D) (id:Int) (h:Rep (.sl Za) M [v] xs) (hn:xs.length≤1048576) (hh:ZaP id xs=true):∃ (i:Nat) (hi:i < xs.length),Zb T0 Qc [v,.int .i64 id] M=some (.int .i64 (i:Int),M)∧xs.find? (fun b=>decide (b.1=id))=some xs[i]:=by
  obtain ⟨a,c,rfl⟩:=h.slen
  have hm:=h.mono (List.prefix_append M [(⟨[.int .i64 id],1,2⟩:Blk)])
  have hp:rd1 (M++[(⟨[.int .i64 id],1,2⟩:Blk)]) M.length 0=some (.int .i64 id):=by simp [rd1]
  obtain ⟨b,hb1,hb2⟩:=List.any_eq_true.1 hh
  obtain ⟨i0,hi0,rfl⟩:=List.getElem_of_mem hb1
  obtain ⟨i,hi,hq,hlt⟩:=Zqi (p:=fun k=>match xs[k]? with | some b=>decide (b.1=id) | none=>false) (n:=xs.length) ⟨i0,hi0,by rw [List.getElem?_eq_getElem hi0]; exact hb2⟩
  rw [List.getElem?_eq_getElem hi] at hq
  have hq:xs[i].1=id:=of_decide_eq_true hq
  have hlt2:∀ k (hk:k < xs.length),k < i→xs[k].1 ≠ id:=fun k hk hki e=>by
    have:=hlt k hki
    rw [List.getElem?_eq_getElem hk] at this
    exact absurd e (of_decide_eq_false this)
  have hfind:xs.find? (fun b=>decide (b.1=id))=some xs[i]:=by
    rw [List.find?_eq_some_iff_getElem]
    exact ⟨decide_eq_true hq,i,hi,rfl,fun j hj=>by simpa using hlt2 j (by omega) hj⟩
  have e:=Zyd _ M.length id a c xs hm hp hn i (by omega) hlt2
  simp only [Int.natCast_zero,Int.ofNat_zero] at e
  obtain ⟨l,o,u,rfl,_,_,_,hrd,_,_,qu,_⟩:=Y5 hm hi
  refine ⟨i,hi,?_,hfind⟩
  clear hfind hlt hlt2
  generalize xs[i]=b at *
  obtain ⟨b1,b2,b3⟩:=b
  simp only at *
  obtain ⟨ua,uc,rfl⟩:=qu.slen
  have s1:=Zde _ M.length id b1 b2 ua (List.length (α:=UInt8) b3) uc hp
  simp only [tgB] at s1
  rw [decide_eq_true hq] at s1
  have e2:Zb T0 Zn [.slice (some ⟨l,o,none⟩) xs.length c,.func (.func Z6) #[] #[.pointer (some ⟨M.length,0,none⟩)]] (M++[(⟨[.int .i64 id],1,2⟩:Blk)])=some (.int .i64 (i:Int),M++[(⟨[.int .i64 id],1,2⟩:Blk)]):=by
    rw [Zc ZH]; unfold Zt Zz; simp [apA,e]
    rw [Zr]; unfold Zm; simp [apA,hi,hrd,s1]
  rw [Zc Zev]; unfold ZaA Zcj; simp [apA,e2]
set_option maxRecDepth 20000 in
set_option maxHeartbeats 2000000 in
theorem Zum (M:Mem) (v0 v14 v22 v25 v26:V) (aB:Option Addr) (cB:Nat) (xs:List Za.D) (hB:Rep (.sl Za) M [.slice aB xs.length cB] xs) (hn:xs.length≤10000) (lv:Int) (aP:Option Addr) (cP:Nat) (plan:List ZB.D) (hP:Rep (.sl ZB) M [.slice aP plan.length cP] plan) (hpn:plan.length≤10000) (hid:∀ q ∈ plan,ZaP q.2 xs=true) (v:V) (X:Mem) (hX:SoI M [] v X) :
    ∃ v' X',SoI M (Zgp xs lv plan) v' X'∧lp (Zb T0) Yo Qs (FaP v0 v14 v22 v25 v26 aB xs.length cB lv v aP plan.length cP 0) X=lp (Zb T0) Yo Qs (FaP v0 v14 v22 v25 v26 aB xs.length cB lv v' aP plan.length cP plan.length) X':=by
  have key:=YT (call:=Zb T0) (K:=Yo) (L:=Qs) (fun i (v:V) X=>SoI M (Zgp xs lv (plan.take i)) v X) (fun i v=>FaP v0 v14 v22 v25 v26 aB xs.length cB lv v aP plan.length cP i) (n:=plan.length) ?_ 0 v X (by omega) (by simpa [Zgp] using hX)
  · rw [List.take_length] at key
    exact key
  intro i v X hi ⟨pX,zs,hzs,hz,hg⟩
  have e6:IntKind.i64.wrap ((i:Int)+1)=i+1:=Zd (by omega) (by omega)
  have hidi:=hid _ (List.getElem_mem hi)
  rw [Zrj xs lv plan hi]
  have hfl:(Zgp xs lv (plan.take i)).length≤i:=by
    unfold Zgp
    rw [List.length_map]
    have h1:=List.length_filter_le (fun q:ZB.D=>decide (q.1=lv)) (plan.take i)
    rw [List.length_take] at h1
    omega
  have hzl:zs.length=(Zgp xs lv (plan.take i)).length:=by rw [← List.length_map (f:=Prod.snd)]; exact congrArg List.length hzs
  generalize Zgp xs lv (plan.take i)=fl at *
  obtain ⟨_,lP,oP,rfl,cs',hrd,hrq⟩:=Zga hP hi
  have hw:ZB.w=2:=rfl
  rw [hw] at hrd
  have hrdX:=ZjS pX hrd
  generalize plan[i]=q at *
  obtain ⟨q1,q2⟩:=q
  obtain ⟨c1,c2,rfl,⟨rfl,w1⟩,⟨rfl,w2⟩⟩:=hrq
  simp only [List.cons_append,List.nil_append] at hrd hrdX hidi ⊢
  have iT:(i:Int) < (plan.length:Int):=by omega
  by_cases hq:q1=lv
  · rw [if_pos hq]
    have pX2:X <+: X++[(⟨[.int .i64 q1,.int .i64 q2],1,2⟩:Blk)]:=List.prefix_append _ _
    have pM2:=pX.trans pX2
    obtain ⟨k,hk,eK,hfind⟩:=ZlQ (X++[(⟨[.int .i64 q1,.int .i64 q2],1,2⟩:Blk)]) _ xs q2 (hB.mono pM2) (by omega) hidi
    have hgB:ZyF q2 xs=xs[k]:=by unfold ZyF; rw [hfind]; rfl
    rw [hgB]
    obtain ⟨_,lB,oB,rfl,csB,hrdB,hrepM⟩:=Zga hB hk
    have hwB:Za.w=3:=rfl
    rw [hwB] at hrdB
    have hrdB2:=ZjS pM2 hrdB
    have hone:=hrepM.one
    have hlen3:=hrepM.len
    rw [hwB] at hlen3
    generalize xs[k]=b at *
    have kT:(k:Int) < (xs.length:Int):=by omega
    subst hq
    rw [ZcB]; unfold Jl; simp [apA,hi,iT,hrdX,eK,kT,hk,hrdB2,hone,hlen3,zeroCells]
    generalize hy:Zdq _ _ _ _ _ _=xhy
    obtain ⟨a2,X3,rfl,g3,ag,hl3,hw3⟩:=ZgG hg hy (List.prefix_append _ _) pX.length_le (by rw [hlen3]) (List.all_eq_true.2 fun x hx=>List.all_eq_true.1 hone x hx) (by omega) (by omega)
    clear hy
    simp [apA,e6]
    refine ⟨_,X3,⟨ag.pre (JZ pX) fun b hb=>hg.ge b hb,zs++[(csB,b)],by rw [List.map_append,hzs]; rfl,fun z hm=>?_,?_⟩,rfl⟩
    · rcases List.mem_append.1 hm with hm | hm
      · exact hz z hm
      · rw [List.mem_singleton.1 hm]
        exact hrepM
    · rw [ZxQ,List.length_append]
      have:Zl [(csB,b)]=csB:=by simp [Zl]
      rw [this]
      exact g3
  · rw [if_neg hq,List.append_nil]
    rw [ZcB]; unfold Jl; simp [apA,hi,iT,hrdX,hq,e6,zeroCells]
    exact ⟨_,_,⟨pX.trans (List.prefix_append _ _),zs,hzs,hz,hg.pre (List.prefix_append _ _)⟩,rfl⟩
theorem Zqo {t:Ty} {enc:t.D→List V} {P:t.D→Prop} (hf:Zri t enc P) {X Z:Mem} {v:V} {xs:List t.D} (h:Rep (.sl t) X [v] xs) (hk:∀ l o n c,v=.slice (some ⟨l,o,none⟩) n c→Z[l]?=X[l]?):Rep (.sl t) Z [v] xs:=by
  rcases h with h | ⟨l,o,c,blk,css,e,h2,h3,h4,h5,h6,h7⟩
  · exact .inl h
  · have e2:=e
    simp only [List.cons.injEq,and_true] at e2
    refine .inr ⟨l,o,c,blk,css,e,by rw [hk l o _ c e2,h2],h3,h4,h5,fun i ds x hd hx=>?_,h7⟩
    obtain ⟨q1,q2⟩:=hf.2 X ds x (h6 i ds x hd hx)
    rw [q1]
    exact (hf.1 Z x q2).rep
theorem ZB9 {M M':Mem} {v:V} (h:¬ M <+: M'):gc M (some (v,M'))=some (v,M'):=by
  simp only [gc]
  rw [if_neg (fun q=>h q.2)]
def WrD (X:Mem) (p q w:Nat) (cs:List V) (sz:Int) (u0:V) (cells:List Zi.D) (log:List Zf.D) (L0 L1:List Nat) (i:Nat) (ys:List UInt8) (r:V × Mem):Prop:=∃ l L0' L1',r.2[p]?=some ⟨cs.set (q+2) (.slice (some ⟨l,0,none⟩) (log.length+1) (log.length+1)),w,2⟩∧Gr (.sl Zi) r.2 [u0] (cells.set i ys) L0'∧Gr (.sl Zf) r.2 [.slice (some ⟨l,0,none⟩) (log.length+1) (log.length+1)] (log++[((2:Int),(i:Int),sz)]) L1'∧(L0'++L1').Nodup∧(∀ j ∈ L0'++L1',j ∈ L0++L1∨X.length≤j)∧JQ X r.2 (p :: L0++L1)
theorem ZmS (X:Mem) (p q w:Nat) (cs:List V) (sz:Int) (u0 u1 v:V) (cells:List Zi.D) (log:List Zf.D) (ys:List UInt8) (L0 L1:List Nat) (i:Nat) (hb:X[p]?=some ⟨cs,w,2⟩) (h0:cs[q]?=some (.int .i64 sz)) (h1:cs[q+1]?=some u0) (h2:cs[q+2]?=some u1)
    (g0:Gr (.sl Zi) X [u0] cells L0) (g1:Gr (.sl Zf) X [u1] log L1) (nd:(L0++L1).Nodup) (hp:p ∉ L0++L1) (hi:i < cells.length) (hl:log.length≤1048576) (hn:cells.length≤1048576) (hw:(Lit.int .i64 sz).wf=true)
    (hv:Rep (.sl ZD) X [v] ys) (hvd:∀ l o n c,v=.slice (some ⟨l,o,none⟩) n c→l ∉ L0++L1∧l ≠ p) (hys:ys.length≤1048576) :
    Sat (Zb T0 Zbg [.pointer (some ⟨p,q,none⟩),.int .i64 i,v] X) (WrD X p q w cs sz u0 cells log L0 L1 i ys):=by
  have hwf:=ZBC g1
  have e0:rd1 X p q=some (.int .i64 sz):=by rw [Y1,hb,Z3]; exact h0
  have e2:rd1 X p (q+2)=some u1:=by rw [Y1,hb,Z3]; exact h2
  have hqlt:=Zoi h2
  have hn3:=List.nodup_append.1 nd
  simp only [List.mem_append,not_or] at hp
  obtain ⟨a3,rfl⟩:=g1.shape
  have hh:Zfx (wfs (.slice a3 log.length log.length)) [p,p]=false:=Zg7 fun x hx y hy e=>by
    simp at hy
    subst hy
    subst e
    exact hp.2 (hwf _ hx)
  rw [Zc Znd]; unfold Ze6 Ziy; simp [apA,e0,e2,zeroCells]
  generalize hy:Zdq _ _ _ _ _ _=xhy
  have hpX:=List.prefix_append X [(⟨Z7 ((2:Int),(i:Int),sz),3,2⟩:Blk)]
  have hnew:Gr Zf (X++[(⟨Z7 ((2:Int),(i:Int),sz),3,2⟩:Blk)]) (Z7 ((2:Int),(i:Int),sz)) ((2:Int),(i:Int),sz) []:=Zir.1 _ _ ⟨show (Lit.int .i64 2).wf=true by decide,show (Lit.int .i64 (i:Int)).wf=true from ZfT (by omega),hw⟩
  have hy':Zdq (X++[(⟨Z7 ((2:Int),(i:Int),sz),3,2⟩:Blk)]) Zf.w 24 (.slice a3 log.length log.length) 1 (Z7 ((2:Int),(i:Int),sz))=xhy:=hy
  obtain ⟨l4,X4,L',rfl,g4,ag2,len2,hw4,nd4,sub4,hl4⟩:=g1.app hy' hpX hnew (by simp) hn3.2.1 (by simp) (by omega) (by omega)
  clear hy hy'
  have hlX:=ZI hb
  have hnw:∀ j,j ∉ L1→j ∉ wfs (.slice a3 log.length log.length):=fun j hj hm=>hj (hwf _ hm)
  have y2:=ag2.get (Zh hpX hb) (hnw _ hp.2)
  have hdis:∀ j ∈ L0,j ∉ L1:=fun j hj hm=>hn3.2.2 j hj j hm rfl
  have g0':=((g0.grow hpX).agree ag2 (fun j hj=>hnw _ (hdis j hj)))
  have hpL':p ∉ L':=fun hm=>by
    rcases sub4 p hm with h | h | h
    · exact hp.2 h
    · simp at h
    · simp at hl4; omega
  have e5:q+2+1≤cs.length:=by omega
  have e6:∀ v:V,List.take (q+2) cs++v :: List.drop (q+2+1) cs=cs.set (q+2) v:=fun v=>by rw [List.set_eq_take_append_cons_drop,if_pos hqlt]
  have e7:∀ v:V,(cs.set (q+2) v)[q+1]?=some u0:=fun v=>by rw [List.getElem?_set_ne (by omega)]; exact h1
  simp [apA,YD,ag2,hh,ZhB,y2,Zdj,e5,e6,Y1,ZbN y2,Z3,e7]
  generalize hx:Zb T0 Qk _ _=xhx
  generalize hZ:(List.set X4 p ⟨cs.set (q+2) (.slice (some ⟨l4,0,none⟩) (log.length+1) (log.length+1)),w,2⟩:Mem)=Z at hx ⊢
  have hZl:Z.length=X4.length:=by rw [← hZ,List.length_set]
  have yZ:Z[p]?=some ⟨cs.set (q+2) (.slice (some ⟨l4,0,none⟩) (log.length+1) (log.length+1)),w,2⟩:=by rw [← hZ]; exact ZbN y2 _
  have hZn:∀ j,j ≠ p→Z[j]?=X4[j]?:=fun j hj=>by rw [← hZ]; exact Je (Ne.symm hj)
  have g0Z:Gr (.sl Zi) Z [u0] cells L0:=g0'.keep fun j hj=>hZn j (fun e=>hp.1 (e ▸ hj))
  have g4Z:=g4.keep (M':=Z) fun j hj=>hZn j (fun e=>hpL' (e ▸ hj))
  have hvZ:Rep (.sl ZD) Z [v] ys:=Zqo Zfs hv fun l o n c e=>by
    obtain ⟨d1,d2⟩:=hvd l o n c e
    simp only [List.mem_append,not_or] at d1
    have hlx:l < X.length:=by
      subst e
      obtain ⟨blk,hbk,_⟩:=Zij hv
      exact ZI hbk
    rw [hZn l d2,ag2.2 l (by simp; omega) (hnw _ d1.2),List.getElem?_append_left hlx]
  obtain ⟨v',X5,rfl,Kc,p5,gc5,ndc,gec⟩:=ZQ hx (ZlB (M:=Z) ZfI (t:=.u8) Zfs rfl hvZ (by omega) (by omega))
  clear hx
  simp only at p5 gc5 gec
  obtain ⟨a7,rfl⟩:=gc5.shape
  have g05:=g0Z.grow p5
  have g45:=g4Z.grow p5
  have y5:=Zh p5 yZ
  have hcd:∀ j ∈ Kc,j ∉ L0:=fun j hj hm=>by
    have:=gec j hj
    have:=g0Z.lt j hm
    omega
  obtain ⟨l0,cs0,L0',rfl,z1,z2,z3,z4,z5,z6⟩:=g05.put (t:=Zi) hi gc5 hcd hn3.1 ndc
  have hl0p:l0 ≠ p:=fun e=>hp.1 (e ▸ z3)
  have z1:X5[l0]?=some ⟨cs0,1,2⟩:=z1
  have z2:i+1≤cs0.length:=by simpa [Ty.w] using z2
  have o5:=ZK gc5.one
  have e9:∀ b:Blk,(X5.set l0 b)[p]?=X5[p]?:=fun b=>Je hl0p
  have hh9:Zfx [l0] [p]=false:=Zg7 fun x hx y hy e=>by
    simp at hx hy
    omega
  have hh8:Zfx [] [p]=false:=rfl
  simp [apA,Jo,p5,hi,z1,z2,o5,Y1,Z3,ZhB,Zdj]
  have e10:splice cs0 (i * Zi.w) [.slice a7 ys.length ys.length]=List.take i cs0++Value.slice a7 ys.length ys.length :: List.drop (i+1) cs0:=by simp [splice,Ty.w]
  rw [e10] at z4
  have hXX4:X.length < X4.length:=by simp at len2; omega
  have hl4':X.length < l4:=by simp at hl4; omega
  have hl4X:∀ j ∈ L',j < X4.length:=fun j hj=>g4.lt j hj
  have hl0X:l0 < X.length:=g0.lt l0 z3
  have hnp:¬ X <+: X5.set l0 ⟨List.take i cs0++Value.slice a7 ys.length ys.length :: List.drop (i+1) cs0,1,2⟩:=fun hpre=>by
    have h1:=Zh hpre hb
    rw [Je hl0p,y5] at h1
    simp only [Option.some.injEq,Blk.mk.injEq,and_true] at h1
    have h3:=h2
    rw [← h1,List.getElem?_set_self hqlt] at h3
    simp at h3
  rw [ZB9 hnp]
  refine Zcw ⟨l4,L0',L',?_,z4,g45.set _ (fun hm=>?_),?_,fun j hj=>?_,?_⟩
  · rw [Je hl0p]; exact y5
  · rcases sub4 l0 hm with h | h | h
    · exact hdis l0 z3 h
    · simp at h
    · omega
  · refine List.nodup_append.2 ⟨z5,nd4,fun x hx y hy e=>?_⟩
    subst e
    have h8:=hl4X x hy
    rcases z6 x hx with h | h
    · have:=g0.lt x h
      rcases sub4 x hy with h2 | h2 | h2
      · exact hdis x h h2
      · simp at h2
      · omega
    · have:=gec x h
      omega
  · rcases List.mem_append.1 hj with hj | hj
    · rcases z6 j hj with h | h
      · exact .inl (List.mem_append_left _ h)
      · have:=gec j h
        exact .inr (by omega)
    · rcases sub4 j hj with h | h | h
      · exact .inl (List.mem_append_right _ h)
      · simp at h
      · exact .inr (by omega)
  · refine ⟨by rw [List.length_set]; have:=p5.length_le; omega,fun j hj hn=>?_⟩
    simp only [List.cons_append,List.mem_cons,List.mem_append,not_or] at hn
    have hjl:l0 ≠ j:=fun e=>hn.2.1 (e ▸ z3)
    rw [Je hjl]
    have e11:X5[j]?=Z[j]?:=by
      obtain ⟨r,rfl⟩:=p5
      rw [List.getElem?_append_left (by omega)]
    rw [e11,hZn j hn.1,ag2.2 j (by simp; omega) (hnw j hn.2.2),List.getElem?_append_left hj]
set_option maxRecDepth 20000 in
set_option maxHeartbeats 4000000 in
theorem Zuk (Y:Mem) (W:List Nat) (p m a w:Nat) (b sz:Int) (uC uS:V) (lP:Nat) (hm:m≤6) (ha:a < 2 ^ m) (hw2:w≤200) (hP:Y[lP]?=some ⟨Ic (ZkO (2 ^ m+a) (m+1)),1,2⟩) (hW:lP ∉ W) (hwf:(Lit.int .i64 sz).wf=true) (v22 v26:V)
    (aB:Option Addr) (cB:Nat) (xs:List Za.D) (L:List Nat) (gL:Gr (.sl Za) Y [.slice aB xs.length cB] xs L) (hLW:∀ j ∈ L,j ∉ W) (hxn:xs.length≤10000) (aP:Option Addr) (cP:Nat) (plan:List ZB.D) (Lp:List Nat) (gP:Gr (.sl ZB) Y [.slice aP plan.length cP] plan Lp) (hPW:∀ j ∈ Lp,j ∉ W) (hpn:plan.length≤10000) (hid:∀ q ∈ plan,ZaP q.2 xs=true)
    (hbs:∀ j:Nat,j≤m→(Zgp xs (j:Int) plan).length≤4∧Zys w (Zgp xs (j:Int) plan)) (k:Nat) (hk:k < m+1) (cells:List Zi.D) (log:List Zf.D) (hlen:cells.length+1=2 * 2 ^ m) (hlg:log.length≤1000000) (X:Mem) (h:OmI Y W p m w b sz uC uS cells log X) :
    ∃ X',OmI Y W p m w b sz uC uS (cells.set ((2 ^ m+a) / 2 ^ k - 1) (ndY w (Zgp xs ((m - k:Nat):Int) plan))) (log++[((2:Int),(((2 ^ m+a) / 2 ^ k - 1:Nat):Int),sz)]) X' ∧
      lp (Zb T0) Z1 Yk (FaW p lP (m+1) aB xs.length cB v22 aP plan.length cP v26 ((m:Int) - k)) X=lp (Zb T0) Z1 Yk (FaW p lP (m+1) aB xs.length cB v22 aP plan.length cP v26 ((m:Int) - (k+1:Nat))) X':=by
  obtain ⟨uT,L0,L1,hb,g0,g1,nd,hpL,ag,hV⟩:=h
  obtain ⟨j,hj⟩:∃ j,m - k=j:=⟨_,rfl⟩
  have hkj:m - j=k:=by omega
  have hjm:j≤m:=by omega
  have hPb:=ag.get hP hW
  have hPi:=ZnE hPb (i:=j) hjm
  rw [hkj] at hPi
  obtain ⟨b1,b2⟩:=ZiA (m:=m) (a:=a) (i:=j) ha hjm
  rw [hkj] at b1 b2
  have hp6:2 ^ m≤2 ^ 6:=Nat.pow_le_pow_right (by omega) hm
  obtain ⟨hb4,hbk⟩:=hbs j hjm
  rw [hj]
  have ez:(m:Int) - k=(j:Int):=by omega
  have ez2:(m:Int) - (k+1:Nat)=(j:Int) - 1:=by omega
  rw [ez,ez2]
  have rL:=(gL.agree ag hLW).rep
  have rP:=(gP.agree ag hPW).rep
  obtain ⟨v4,X4,hX4,e4⟩:=Zum X (.pointer (some ⟨p,0,none⟩)) (.slice (some ⟨lP,0,none⟩) (m+1) (m+1)) v22 (.slice aP plan.length cP) v26 aB cB xs rL hxn (j:Int) aP cP plan rP hpn hid (.slice none 0 0) X ⟨List.prefix_refl _,[],rfl,by simp,Zdg.nil⟩
  simp only [FaP,Int.natCast_zero,Int.ofNat_zero] at e4
  obtain ⟨p4,zs,hzs,hz,hg⟩:=hX4
  have rB:Rep (.sl Za) X4 [v4] (Zgp xs (j:Int) plan):=by
    rw [← hzs]
    exact Zya hg fun z hm=>(hz z hm).mono p4
  have hN:=ZlA X4 v4 (Zgp xs (j:Int) plan) w rB hb4 hw2 hbk
  generalize Zgp xs (j:Int) plan=bs at *
  generalize (2 ^ m+a) / 2 ^ k=N at *
  obtain ⟨q,hq⟩:∃ q,N=q+1:=⟨N - 1,by omega⟩
  subst hq
  rw [Nat.add_sub_cancel]
  have hqi:q < cells.length:=by omega
  have e7:IntKind.i64.wrap (q:Int)=q:=Zd (by omega) (by omega)
  have e8:IntKind.i64.wrap ((j:Int) - 1)=(j:Int) - 1:=Zd (by omega) (by omega)
  have hjn:¬ (j:Int) < 0:=by omega
  have hj0:(0:Int)≤(j:Int):=by omega
  have jT:(j:Int) < (m:Int)+1:=by omega
  have jN:j < m+1:=by omega
  have hPi4:=Qt p4 hPi
  have hw4:rd1 X4 p 1=some (.int .i64 (w:Int)):=Jw (Zh p4 hb) rfl
  obtain ⟨ab,hsh⟩:=hg.shape
  subst hsh
  rw [Zfw]; unfold Zam; simp [apA,hjn,hj0,e4]
  rw [ZcB]; unfold Jl; simp [apA,hPi4,jT,jN,e7,hw4]
  generalize hx:Zb T0 ZaT _ _=xhx
  obtain ⟨vB,X5,rfl,hbg⟩:=ZQ hx hN
  clear hx
  obtain ⟨JB,_,hoB,_⟩:=ZxE hbg
  have hrB:=hoB.rep
  obtain ⟨n5,hbl,p5,gB⟩:=hbg
  simp only at p5 gB hrB
  have p45:=p4.trans p5
  have hX4l:=p4.length_le
  have hWr:=ZmS X5 p 3 1 [.int .i64 m,.int .i64 (w:Int),.int .i64 b,.int .i64 sz,uC,uT,uS] sz uC uT vB cells log (ndY w bs) L0 L1 q (Zh p45 hb) rfl rfl rfl (g0.grow p45) (g1.grow p45) nd hpL hqi (by omega) (by omega) hwf hrB (fun l o n c e=>by
    have hl:=gB.ge l (by rw [e]; simp [wfs])
    refine ⟨fun hm=>?_,fun e2=>?_⟩
    · rcases List.mem_append.1 hm with hm | hm
      · have:=g0.lt l hm; omega
      · have:=g1.lt l hm; omega
    · have:=ZI hb; omega) (by
    unfold ndY
    rw [List.length_append,List.length_replicate,Ze2 hbk]
    have:bs.length * (w+3)≤4 * 203:=Nat.mul_le_mul hb4 (by omega)
    omega)
  obtain ⟨a5,hsh5⟩:=gB.shape
  subst hsh5
  simp [apA,Jo,p5]
  generalize hx:Zb T0 Zbg _ _=xhx
  obtain ⟨vW,X6,rfl,l6,L0',L1',q1,q2,q3,q4,q5,q6⟩:=ZQ hx hWr
  clear hx
  simp only at q1 q2 q3 q6
  simp [apA,ZAa,q6.1,e8]
  have agX:JQ X X6 (p :: L0++L1):=⟨Nat.le_trans p45.length_le q6.1,fun j hj hn=>by
    rw [q6.2 j (Nat.lt_of_lt_of_le hj p45.length_le) hn]
    obtain ⟨R,hR⟩:=p45
    rw [← hR]
    exact List.getElem?_append_left hj⟩
  refine ⟨X6,⟨_,L0',L1',q1,q2,q3,q4,fun hm=>?_,Znp ag agX (fun j hj=>hV j (by simpa using hj)),fun j hj=>?_⟩,rfl⟩
  · rcases q5 p hm with h | h
    · exact hpL h
    · have:=ZI hb
      have:=p45.length_le
      omega
  · rcases List.mem_cons.1 hj with rfl | hj
    · exact hV _ (List.mem_cons_self ..)
    · rcases q5 j hj with h | h
      · exact hV j (List.mem_cons_of_mem _ h)
      · right
        have:=ag.1
        have:=p45.length_le
        omega
theorem Zuo (Y:Mem) (W:List Nat) (p m a w:Nat) (b sz:Int) (uC uS:V) (lP:Nat) (hm:m≤6) (ha:a < 2 ^ m) (hw2:w≤200) (hP:Y[lP]?=some ⟨Ic (ZkO (2 ^ m+a) (m+1)),1,2⟩) (hW:lP ∉ W) (hwf:(Lit.int .i64 sz).wf=true) (v22 v26:V)
    (aB:Option Addr) (cB:Nat) (xs:List Za.D) (L:List Nat) (gL:Gr (.sl Za) Y [.slice aB xs.length cB] xs L) (hLW:∀ j ∈ L,j ∉ W) (hxn:xs.length≤10000) (aP:Option Addr) (cP:Nat) (plan:List ZB.D) (Lp:List Nat) (gP:Gr (.sl ZB) Y [.slice aP plan.length cP] plan Lp) (hPW:∀ j ∈ Lp,j ∉ W) (hpn:plan.length≤10000) (hid:∀ q ∈ plan,ZaP q.2 xs=true)
    (hbs:∀ j:Nat,j≤m→(Zgp xs (j:Int) plan).length≤4∧Zys w (Zgp xs (j:Int) plan)) (cells:List Zi.D) (log:List Zf.D) (hlen:cells.length+1=2 * 2 ^ m) (hlg:log.length≤900000) (X:Mem) (h:OmI Y W p m w b sz uC uS cells log X) :
    ∃ X',OmI Y W p m w b sz uC uS (wrS w sz (2 ^ m+a) m xs plan cells log (m+1)).1 (wrS w sz (2 ^ m+a) m xs plan cells log (m+1)).2 X' ∧
      lp (Zb T0) Z1 Yk (FaW p lP (m+1) aB xs.length cB v22 aP plan.length cP v26 m) X=lp (Zb T0) Z1 Yk (FaW p lP (m+1) aB xs.length cB v22 aP plan.length cP v26 (-1)) X':=by
  obtain ⟨_,X',h',e⟩:=YT (call:=Zb T0) (K:=Z1) (L:=Yk) (fun k (_:Unit) X=>OmI Y W p m w b sz uC uS (wrS w sz (2 ^ m+a) m xs plan cells log k).1 (wrS w sz (2 ^ m+a) m xs plan cells log k).2 X) (fun k (_:Unit)=>FaW p lP (m+1) aB xs.length cB v22 aP plan.length cP v26 ((m:Int) - (k:Nat))) (n:=m+1) (fun k _ X hk hX=>by
    obtain ⟨z1,z2⟩:=ZsD w sz (2 ^ m+a) m xs plan cells log k
    obtain ⟨X',h1,h2⟩:=Zuk Y W p m a w b sz uC uS lP hm ha hw2 hP hW hwf v22 v26 aB cB xs L gL hLW hxn aP cP plan Lp gP hPW hpn hid hbs k hk _ _ (by rw [z1]; exact hlen) (by rw [z2]; omega) X hX
    exact ⟨(),X',h1,h2⟩) 0 () X (by omega) h
  refine ⟨X',h',?_⟩
  have e1:(m:Int) - ((0:Nat):Int)=(m:Int):=by omega
  have e2:(m:Int) - ((m+1:Nat):Int)=-1:=by omega
  rw [e1,e2] at e
  exact e
def ZD9 (xs:List Za.D):Prop:=xs.Pairwise fun a b=>a.1 ≠ b.1
theorem ZGO {xs:List Za.D} (h:ZhP xs):ZD9 xs:=h.imp fun hab e=>by
  rw [e] at hab
  exact Int.lt_irrefl _ hab
def ZOk (M0:Mem) (m:Nat) (zs:List (List V × Za.D)):Prop:=∀ z ∈ zs,Rep Za M0 z.1 z.2∧z.2.2.1=((Int.toNat z.2.2.1:Nat):Int)∧Int.toNat z.2.2.1 < 2 ^ m
abbrev ZpI:Ty:=.pr .str (.int .i64)
instance d_Entry:DecidableEq ZpI.D:=Ty.deq ZpI
def ZFQ (b:UInt8):Bool:=decide (97≤(b.toNat:Int)) && decide ((b.toNat:Int)≤122)
def ZGc (w:List UInt8):Bool:=w.all ZFQ && (decide (1≤(w.length:Int)) && decide ((w.length:Int)≤32))
def ZHb (w:List UInt8):List UInt8:=if ZGc w=true then UInt8.ofNat w.length :: (w++List.replicate (32 - w.length) 0) else List.replicate 33 0
def ZEL (key:Nat) (w:List UInt8) (n:Nat):Nat:=((ZHb w).take n).foldl hs key
def ZGz (key:Nat) (w:List UInt8):Nat:=ZEL key w 33 ^^^ (ZEL key w 33 / 65536)
def sh (k:Int × Int × Int × Int) (w:List UInt8):Nat:=ZGz k.1.toNat w % 2 ^ k.2.1.toNat
def cnt (k:Int × Int × Int × Int) (xs:List ZpI.D) (s:Nat):Nat:=xs.countP fun e=>decide (sh k e.1=s)
def ZgY (m leaf lv cnt:Nat) (b:Za.D):Bool:=decide (cnt=4) || decide (mtN m leaf b < lv)
def Zbv (m leaf lv:Nat) (s:List ZB.D × List (List V × Za.D) × Nat) (z:List V × Za.D):List ZB.D × List (List V × Za.D) × Nat :=
  if ZgY m leaf lv s.2.2 z.2=true then (s.1,s.2.1++[z],s.2.2) else (s.1++[((lv:Int),z.2.1)],s.2.1,s.2.2+1)
def ZEf (m leaf:Nat) (s:List ZB.D × List (List V × Za.D)) (lv:Nat):List ZB.D × List (List V × Za.D) :=
  ((s.2.foldl (Zbv m leaf lv) (s.1,[],0)).1,(s.2.foldl (Zbv m leaf lv) (s.1,[],0)).2.1)
def ZeW (m leaf:Nat) (zs:List (List V × Za.D)) (k:Nat):List ZB.D × List (List V × Za.D):=(List.range k).foldl (fun s j=>ZEf m leaf s (m - j)) ([],zs)
def hdf (zs:List (List V × Za.D)) (q:Nat):Option (List V):=(zs[q]?).map (·.1)
structure EvT (M0:Mem) (l n pl pf pv pp:Nat) (m leaf:Nat) (lv:Int) (plan:List ZB.D) (f:Nat→Option (List V)) (X:Mem):Prop where
  pre:M0 <+: X
  hd:∃ cells,X[l]?=some ⟨cells,3,2⟩∧cells.length=n * 3∧∀ q ds,f q=some ds→(cells.drop (q * 3)).take 3=ds
  bl:X[pl]?=some ⟨[.int .i64 m],1,2⟩
  bf:X[pf]?=some ⟨[.int .i64 leaf],1,2⟩
  bv:X[pv]?=some ⟨[.int .i64 lv],1,2⟩
  bp:∃ vp Lp,X[pp]?=some ⟨[vp],1,2⟩∧Gr (.sl ZB) X [vp] plan Lp∧Lp.Nodup∧∀ j ∈ Lp,M0.length≤j∧j ≠ l∧j ≠ pl∧j ≠ pf∧j ≠ pv∧j ≠ pp
def LvI (M0:Mem) (l n pl pf pp:Nat) (m leaf:Nat) (zs:List (List V × Za.D)) (k pv:Nat) (X:Mem):Prop :=
  EvT M0 l n pl pf pv pp m leaf ((m:Int) - k) (ZeW m leaf zs k).1 (hdf (ZeW m leaf zs k).2) X∧M0.length≤pv∧pv ≠ l∧pv ≠ pl∧pv ≠ pf∧pv ≠ pp
structure EvP where
  l:Nat
  n:Nat
  pc:Nat
  pl:Nat
  pf:Nat
  pv:Nat
  pp:Nat
def EvP.apart (P:EvP) (K:Nat):Prop:=(K≤P.l∧K≤P.pc∧K≤P.pl∧K≤P.pf∧K≤P.pv∧K≤P.pp)∧P.l ≠ P.pc∧P.l ≠ P.pl∧P.l ≠ P.pf∧P.l ≠ P.pv∧P.l ≠ P.pp∧P.pc ≠ P.pl∧P.pc ≠ P.pf∧P.pc ≠ P.pv∧P.pc ≠ P.pp∧P.pl ≠ P.pp∧P.pf ≠ P.pp∧P.pv ≠ P.pp
structure EvS (M0:Mem) (P:EvP) (m leaf lv:Nat) (plan:List ZB.D) (cnt:Nat) (f:Nat→Option (List V)) (X:Mem):Prop where
  pre:M0 <+: X
  hd:∃ cells,X[P.l]?=some ⟨cells,3,2⟩∧cells.length=P.n * 3∧∀ q ds,f q=some ds→(cells.drop (q * 3)).take 3=ds
  bc:X[P.pc]?=some ⟨[.int .i64 cnt],1,2⟩
  bl:X[P.pl]?=some ⟨[.int .i64 m],1,2⟩
  bf:X[P.pf]?=some ⟨[.int .i64 leaf],1,2⟩
  bv:X[P.pv]?=some ⟨[.int .i64 lv],1,2⟩
  bp:∃ vp Lp,X[P.pp]?=some ⟨[vp],1,2⟩∧Gr (.sl ZB) X [vp] plan Lp∧Lp.Nodup∧∀ j ∈ Lp,M0.length≤j∧j ≠ P.l∧j ≠ P.pc∧j ≠ P.pl∧j ≠ P.pf∧j ≠ P.pv∧j ≠ P.pp
theorem EvS.grow {M0:Mem} {P:EvP} {m leaf lv:Nat} {plan:List ZB.D} {cnt:Nat} {f:Nat→Option (List V)} {X Y:Mem} (h:EvS M0 P m leaf lv plan cnt f X) (hp:X <+: Y):EvS M0 P m leaf lv plan cnt f Y:=by
  obtain ⟨cells,h1,h2,h3⟩:=h.hd
  obtain ⟨vp,Lp,g1,g2,g3,g4⟩:=h.bp
  exact ⟨h.pre.trans hp,⟨cells,Zh hp h1,h2,h3⟩,Zh hp h.bc,Zh hp h.bl,Zh hp h.bf,Zh hp h.bv,⟨vp,Lp,Zh hp g1,g2.grow hp,g3,g4⟩⟩
theorem EvS.weak {M0:Mem} {P:EvP} {m leaf lv:Nat} {plan:List ZB.D} {cnt:Nat} {f f2:Nat→Option (List V)} {X:Mem} (h:EvS M0 P m leaf lv plan cnt f X) (hf:∀ q ds,f2 q=some ds→f q=some ds):EvS M0 P m leaf lv plan cnt f2 X:=by
  obtain ⟨cells,h1,h2,h3⟩:=h.hd
  exact ⟨h.pre,⟨cells,h1,h2,fun q ds hq=>h3 q ds (hf q ds hq)⟩,h.bc,h.bl,h.bf,h.bv,h.bp⟩
theorem Zsd (cells vs:List V) (o:Nat) (h:o+vs.length≤cells.length):(splice cells o vs).length=cells.length:=by
  unfold splice
  simp
  omega
theorem EvS.seth {M0:Mem} {P:EvP} {m leaf lv:Nat} {plan:List ZB.D} {cnt:Nat} {f f2:Nat→Option (List V)} {X:Mem} (h:EvS M0 P m leaf lv plan cnt f X) (ha:P.apart M0.length) {cells vs:List V} {o:Nat} (hb:X[P.l]?=some ⟨cells,3,2⟩) (ho:o+vs.length≤cells.length) (hf:∀ q ds,f2 q=some ds→((splice cells o vs).drop (q * 3)).take 3=ds):EvS M0 P m leaf lv plan cnt f2 (X.set P.l ⟨splice cells o vs,3,2⟩):=by
  obtain ⟨cells2,h1,h2,h3⟩:=h.hd
  rw [hb] at h1
  cases h1
  obtain ⟨⟨a1,a2,a3,a4,a5,a6⟩,d1,d2,d3,d4,d5,d6,d7,d8,d9,d10,d11,d12⟩:=ha
  obtain ⟨vp,Lp,g1,g2,g3,g4⟩:=h.bp
  exact ⟨QQ a1 h.pre,⟨_,ZbN hb _,by rw [Zsd _ _ _ ho]; exact h2,hf⟩,by rw [Je d1]; exact h.bc,by rw [Je d2]; exact h.bl,by rw [Je d3]; exact h.bf,by rw [Je d4]; exact h.bv,
    ⟨vp,Lp,by rw [Je d5]; exact g1,g2.set _ (fun hm=>(g4 _ hm).2.1 rfl),g3,g4⟩⟩
theorem EvS.read {M0:Mem} {P:EvP} {m leaf lv:Nat} {plan:List ZB.D} {cnt:Nat} {f:Nat→Option (List V)} {X:Mem} (h:EvS M0 P m leaf lv plan cnt f X) {q:Nat} {ds:List V} (hq:f q=some ds) (hn:q < P.n):rdn X P.l (q * 3) 3=some ds:=by
  obtain ⟨cells,h1,h2,h3⟩:=h.hd
  rw [Zm7,h1,ZiG,if_pos (by omega),h3 q ds hq]
theorem Zrd (cells vs:List V) (o q:Nat) (h:o+vs.length≤cells.length) (hq:q * 3+3≤o∨o+vs.length≤q * 3):((splice cells o vs).drop (q * 3)).take 3=(cells.drop (q * 3)).take 3:=by
  apply List.ext_getElem?
  intro t
  rw [List.getElem?_take,List.getElem?_take]
  by_cases ht:t < 3
  · rw [if_pos ht,if_pos ht,List.getElem?_drop,List.getElem?_drop,Zxq _ _ _ _ h]
    rcases hq with hq | hq
    · rw [if_pos (by omega)]
    · rw [if_neg (by omega),if_neg (by omega)]
  · rw [if_neg ht,if_neg ht]
abbrev ZGD (P:EvP):List V:=[.pointer (some ⟨P.pc,0,none⟩),.pointer (some ⟨P.pl,0,none⟩),.pointer (some ⟨P.pf,0,none⟩),.pointer (some ⟨P.pv,0,none⟩),.pointer (some ⟨P.pp,0,none⟩)]
abbrev clE (P:EvP):V:=.func (.func Zbk) #[] (ZGD P).toArray
theorem ZGq {x:Nat} (h:x < 128):ZgA x≤7:=ZjC.2 (by simpa using h)
def ZGd:List UInt8:=[0,1,2,2,3,3,3,3,4,4,4,4,4,4,4,4,5,5,5,5,5,5,5,5,5,5,5,5,5,5,5,5,6,6,6,6,6,6,6,6,6,6,6,6,6,6,6,6,6,6,6,6,6,6,6,6,6,6,6,6,6,6,6,6,7,7,7,7,7,7,7,7,7,7,7,7,7,7,7,7,7,7,7,7,7,7,7,7,7,7,7,7,7,7,7,7,7,7,7,7,7,7,7,7,7,7,7,7,7,7,7,7,7,7,7,7,7,7,7,7,7,7,7,7,7,7,7,7,8,8,8,8,8,8,8,8,8,8,8,8,8,8,8,8,8,8,8,8,8,8,8,8,8,8,8,8,8,8,8,8,8,8,8,8,8,8,8,8,8,8,8,8,8,8,8,8,8,8,8,8,8,8,8,8,8,8,8,8,8,8,8,8,8,8,8,8,8,8,8,8,8,8,8,8,8,8,8,8,8,8,8,8,8,8,8,8,8,8,8,8,8,8,8,8,8,8,8,8,8,8,8,8,8,8,8,8,8,8,8,8,8,8,8,8,8,8,8,8,8,8,8,8,8,8,8,8]
set_option maxRecDepth 100000 in
theorem ZzL:∀ x:Fin 128,ZGd[x.1]?=some (UInt8.ofNat (ZgA x.1)):=by decide +kernel
theorem ZCN {x:Nat} (hx:x < 128):ZGd[x]?=some (UInt8.ofNat (ZgA x)):=ZzL ⟨x,hx⟩
set_option maxRecDepth 100000 in
set_option maxHeartbeats 4000000 in
theorem ZlZ (M:Mem) (x:Nat) (hx:x < 128):Zb T0 Zct [.int .u64 x] M=some (.int .i64 (ZgA x),M):=by
  have h1:¬ (4294967296:Int)≤x:=by omega
  have h2:¬ (65536:Int)≤x:=by omega
  have h3:¬ (256:Int)≤x:=by omega
  have hb:=ZGq hx
  have w1:IntKind.u8.wrap (x:Int)=x:=ZvW (by omega) (by omega)
  have w2:IntKind.i64.wrap ((ZgA x:Nat):Int)=ZgA x:=Zd (by omega) (by omega)
  have h0:(0:Int)≤x:=by omega
  have w3:(UInt8.ofNat (ZgA x)).toNat=ZgA x:=by simp; omega
  have ht:=ZCN hx
  unfold ZGd at ht
  rw [Zc Zl0]; unfold Zef ZhD; simp [apA,h1,h2,h3,w1,h0]
  simp only [ht]
  simp [apA,w2,w3,Y0]
theorem Zi7 (M:Mem) (x:Nat) (hx:x < 128):Zb T0 ZbR [.int .u64 x] M=some (.int .i64 (ZgA x),M):=by
  have e:=fun M=>ZlZ M x hx
  rw [Zc ZnF]; unfold Zgi Zjf; simp [apA,e]
theorem ZnW (M:Mem) (m a b:Nat) (hm:m≤6) (ha:a < 2 ^ m) (hb:b < 2 ^ m):Zb T0 ZhU [.int .i64 m,.int .i64 a,.int .i64 b] M=some (.int .i64 ((m - ZgA (a ^^^ b):Nat):Int),M):=by
  have hp:2 ^ m≤2 ^ 6:=Nat.pow_le_pow_right (by omega) hm
  have hx:a ^^^ b < 2 ^ m:=Nat.xor_lt_two_pow ha hb
  have hl:=ZjC.2 hx
  have e1:=ZCD (a:=a) (b:=b) (by omega) (by omega)
  generalize a ^^^ b=x at e1 hx hl ⊢
  have e2:IntKind.u64.wrap (x:Int)=x:=Zp9 (by omega) (by omega)
  have e3:=fun M=>Zi7 M x (by omega)
  have e4:IntKind.i64.wrap ((m:Int) - (ZgA x:Nat))=((m - ZgA x:Nat):Int):=by rw [Zd (by omega) (by omega)]; omega
  rw [Zc Zsr]; unfold ZkD ZnV; simp [apA,e1,e2,e3,e4]
theorem ZmD {M0:Mem} {P:EvP} {m leaf lv:Nat} {plan:List ZB.D} {cnt:Nat} {f:Nat→Option (List V)} {X:Mem} (h:EvS M0 P m leaf lv plan cnt f X) (hm:m≤6) (hlf:leaf < 2 ^ m) (hc4:cnt≤4) {b:Za.D} {ds:List V} (hr:Rep Za M0 ds b) (hb:b.2.1=((Int.toNat b.2.1:Nat):Int)∧Int.toNat b.2.1 < 2 ^ m) (hk:ZgY m leaf lv cnt b=true) :
    Zb T0 Zbk (.agg ds.toArray :: ZGD P) X=some (.bool false,X):=by
  obtain ⟨u,rfl,w0,w1,qu⟩:=YE hr
  obtain ⟨ua,uc,rfl⟩:=qu.slen
  obtain ⟨hb1,hb2⟩:=hb
  unfold ZgY mtN at hk
  obtain ⟨b1,b2,b3⟩:=b
  simp only at *
  generalize Int.toNat b2=b2n at *
  subst hb1
  have hM:=fun N:Mem=>ZnW N m b2n leaf hm hb2 hlf
  have bc:=fun N:Mem=>Zw (N:=N) h.bc
  have bl:=fun N:Mem=>Zw (N:=N) h.bl
  have bf:=fun N:Mem=>Zw (N:=N) h.bf
  have bv:=fun N:Mem=>Zw (N:=N) h.bv
  by_cases hc:cnt=4
  · have hc':(cnt:Int)=4:=by omega
    rw [Zc Zhj]; unfold ZcI ZeQ; simp [apA,bc,hc,hc',Y1,Z3]
  · have hc':¬ (cnt:Int)=4:=by omega
    have hlt:m - ZgA (b2n ^^^ leaf) < lv:=by simpa [hc] using hk
    generalize m - ZgA (b2n ^^^ leaf)=mu at hM hlt
    have hlt':(mu:Int) < (lv:Int):=by omega
    rw [Zc Zhj]; unfold ZcI ZeQ; simp [apA,bc,bl,bf,bv,hc,hc',hM,hlt,hlt',Y1,Z3]
set_option maxHeartbeats 1000000 in
theorem ZmH {M0:Mem} {P:EvP} {m leaf lv:Nat} {plan:List ZB.D} {cnt:Nat} {f:Nat→Option (List V)} {X:Mem} (h:EvS M0 P m leaf lv plan cnt f X) (ha:P.apart M0.length) (hm:m≤6) (hlv:lv≤m) (hlf:leaf < 2 ^ m) (hc4:cnt≤4) (hpl:plan.length≤100000) {b:Za.D} {ds:List V} (hr:Rep Za M0 ds b) (hb:b.2.1=((Int.toNat b.2.1:Nat):Int)∧Int.toNat b.2.1 < 2 ^ m) (hk:ZgY m leaf lv cnt b=false) :
    ∃ X',Zb T0 Zbk (.agg ds.toArray :: ZGD P) X=some (.bool true,X')∧EvS M0 P m leaf lv (plan++[((lv:Int),b.1)]) (cnt+1) f X'∧X.length≤X'.length∧¬ X <+: X':=by
  obtain ⟨u,rfl,w0,w1,qu⟩:=YE hr
  obtain ⟨ua,uc,rfl⟩:=qu.slen
  obtain ⟨hb1,hb2⟩:=hb
  unfold ZgY mtN at hk
  obtain ⟨b1,b2,b3⟩:=b
  simp only at *
  generalize Int.toNat b2=b2n at *
  subst hb1
  have hM:=fun N:Mem=>ZnW N m b2n leaf hm hb2 hlf
  have bc:=fun N:Mem=>Zw (N:=N) h.bc
  have bl:=fun N:Mem=>Zw (N:=N) h.bl
  have bf:=fun N:Mem=>Zw (N:=N) h.bf
  have bv:=fun N:Mem=>Zw (N:=N) h.bv
  rw [Bool.or_eq_false_iff] at hk
  have hc:¬ cnt=4:=of_decide_eq_false hk.1
  have hlt:¬ m - ZgA (b2n ^^^ leaf) < lv:=of_decide_eq_false hk.2
  have hc':¬ (cnt:Int)=4:=by omega
  generalize m - ZgA (b2n ^^^ leaf)=mu at hM hlt
  have hlt':¬ (mu:Int) < (lv:Int):=by omega
  have e7:IntKind.i64.wrap ((cnt:Int)+1)=cnt+1:=Zd (by omega) (by omega)
  have gs:=ZbN (bc [⟨[.int .i64 b1,.int .i64 (b2n:Int),.slice ua (List.length (α:=UInt8) b3) uc],1,2⟩])
  rw [Zc Zhj]; unfold ZcI ZeQ; simp [apA,bc,bl,bf,bv,hc,hc',hM,hlt,hlt',e7,gs,Y1,Z3,ZhB,Zdj]
  obtain ⟨Y,hY⟩:∃ Y:Mem,Y=(X++[(⟨[.int .i64 b1,.int .i64 (b2n:Int),.slice ua (List.length (α:=UInt8) b3) uc],1,2⟩:Blk)]).set P.pc ⟨[.int .i64 ((cnt:Int)+1)],1,2⟩:=⟨_,rfl⟩
  simp only [← hY]
  obtain ⟨⟨a1,a2,a3,a4,a5,a6⟩,d1,d2,d3,d4,d5,d6,d7,d8,d9,d10,d11,d12⟩:=ha
  obtain ⟨vp,Lp,g1,g2,g3,g4⟩:=h.bp
  obtain ⟨cells,hl1,hl2,hl3⟩:=h.hd
  have yset:∀ (j:Nat) (k:Blk),j ≠ P.pc→X[j]?=some k→Y[j]?=some k:=fun j k hj hk=>by rw [hY,Je (fun e=>hj e.symm)]; exact Zw hk
  have yc:Y[P.pc]?=some ⟨[.int .i64 ((cnt:Int)+1)],1,2⟩:=by rw [hY]; exact gs _
  have yb:Y[X.length]?=some ⟨[.int .i64 b1,.int .i64 (b2n:Int),.slice ua (List.length (α:=UInt8) b3) uc],1,2⟩:=by
    have:=ZI h.bc
    rw [hY,Je (by omega)]; simp
  have yl:=yset _ _ d1 hl1
  have ym:=yset _ _ d6.symm h.bl
  have yf:=yset _ _ d7.symm h.bf
  have yv:=yset _ _ d8.symm h.bv
  have yp:=yset _ _ d9.symm g1
  have ylen:Y.length=X.length+1:=by rw [hY]; simp
  have gY:Gr (.sl ZB) Y [vp] plan Lp:=by
    rw [hY]
    exact (g2.grow (List.prefix_append _ _)).set _ (fun hm=>(g4 _ hm).2.2.1 rfl)
  obtain ⟨ap,rfl⟩:=gY.shape
  have pM:M0 <+: Y:=by
    rw [hY]
    exact QQ a2 (JZ h.pre)
  simp [apA,yp,yv,yb,zeroCells,Y1,Z3]
  generalize hy:Zdq _ _ _ _ _ _=xhy
  have hs1:(plan.length+1) * 16≤140737488355328:=by omega
  have hwl:(Lit.int .i64 (lv:Int)).wf=true:=ZqQ (by omega) (by omega)
  obtain ⟨l2,X3,L',rfl,go3,ag,hlen,hwo,nd3,hL3,hl2'⟩:=gY.app (t:=ZB) (bytes:=16) hy (List.prefix_append _ _) (ZBk (a:=(lv:Int)) (b:=b1) hwl w0) (by simp) g3 (by simp) hs1 (by omega)
  clear hy
  simp at hl2'
  have hno:∀ j,(j=P.l∨j=P.pc∨j=P.pl∨j=P.pf∨j=P.pv∨j=P.pp)→j ∉ wfs (.slice ap plan.length plan.length):=by
    intro j hj hm
    have:=g4 j (hwo j hm)
    omega
  have zp:=ag.get (Zw yp) (hno _ (by simp))
  have zl:=ag.get (Zw yl) (hno _ (by simp))
  have zc:=ag.get (Zw yc) (hno _ (by simp))
  have zm:=ag.get (Zw ym) (hno _ (by simp))
  have zf:=ag.get (Zw yf) (hno _ (by simp))
  have zv:=ag.get (Zw yv) (hno _ (by simp))
  simp [apA,zp,Y1,Z3,ZhB,Zdj]
  have hnp:¬ X <+: X3.set P.pp ⟨[.slice (some ⟨l2,0,none⟩) (plan.length+1) (plan.length+1)],1,2⟩:=fun hp=>by
    have h1:=Zh hp h.bc
    rw [Je d9.symm,zc] at h1
    simp at h1
    omega
  rw [ZB9 hnp]
  have hx3:M0 <+: X3:=ag.pre (JZ pM) (fun b hb=>(g4 b (hwo b hb)).1)
  have hlp:∀ j,j < X.length→j ≠ l2:=fun j hj=>by omega
  refine ⟨_,rfl,⟨QQ a6 hx3,⟨cells,by rw [Je d5.symm]; exact zl,hl2,hl3⟩,by rw [Je d9.symm]; exact zc,by rw [Je d10.symm]; exact zm,by rw [Je d11.symm]; exact zf,by rw [Je d12.symm]; exact zv,⟨_,L',ZbN zp _,go3.set _ (fun hm=>?_),nd3,fun j hj=>?_⟩⟩,?_,hnp⟩
  · rcases hL3 _ hm with h1 | h1 | h1
    · exact (g4 _ h1).2.2.2.2.2.2 rfl
    · simp at h1
    · exact hlp _ (ZI g1) h1
  · rcases hL3 _ hj with h1 | h1 | h1
    · exact g4 _ h1
    · simp at h1
    · have:=h.pre.length_le
      have:=ZI hl1
      have:=ZI h.bc
      have:=ZI h.bl
      have:=ZI h.bf
      have:=ZI h.bv
      have:=ZI g1
      omega
  · rw [List.length_set]; simp at hlen; omega
theorem Zt3 {zs:List (List V × Za.D)} {q:Nat} (h:q < zs.length):hdf zs q=some zs[q].1:=by simp [hdf,h]
def ZG1 (M0:Mem) (P:EvP) (m leaf lv:Nat) (plan:List ZB.D) (cnt:Nat) (zs:List (List V × Za.D)) (p:V × Mem):Prop :=
  ∃ j,∃ hj:j < zs.length,p.1=.int .i64 j∧(∀ i (hi:i < j),ZgY m leaf lv cnt (zs[i]'(by omega)).2=true)∧ZgY m leaf lv cnt zs[j].2=false∧EvS M0 P m leaf lv (plan++[((lv:Int),zs[j].2.1)]) (cnt+1) (hdf zs) p.2
def ZHc (M0:Mem) (P:EvP) (m leaf lv:Nat) (plan:List ZB.D) (cnt:Nat) (zs:List (List V × Za.D)) (X:Mem) (p:V × Mem):Prop :=
  (p.1=.int .i64 (-1)∧p.2=X∧∀ i (hi:i < zs.length),ZgY m leaf lv cnt zs[i].2=true)∨ZG1 M0 P m leaf lv plan cnt zs p
theorem Zsv (M0:Mem) (P:EvP) (m leaf lv:Nat) (plan:List ZB.D) (cnt:Nat) (zs:List (List V × Za.D)) (X:Mem) (h:EvS M0 P m leaf lv plan cnt (hdf zs) X) (ha:P.apart M0.length) (hm:m≤6) (hlv:lv≤m) (hlf:leaf < 2 ^ m) (hc4:cnt≤4) (hpl:plan.length≤100000) (hz:ZOk M0 m zs) (hk:zs.length≤P.n) (hn:P.n≤1048576) :
    Sat (Zb T0 Zn [.slice (some ⟨P.l,0,none⟩) zs.length P.n,clE P] X) (ZHc M0 P m leaf lv plan cnt zs X):=by
  have key:=Zs7 (call:=Zb T0) (K:=Zp) (L:=Zv) (fun i (_:Unit) Y=>Y=X∧∀ q (hq:q < i),∀ hq2:q < zs.length,ZgY m leaf lv cnt zs[q].2=true) (fun i _=>[.slice (some ⟨P.l,0,none⟩) zs.length P.n,clE P,O,O,O,O,O,.int .i64 zs.length,.int .i64 i,O,O,O,O,O,O,O,O,O,O]) (atB (fun z=>ZgY m leaf lv cnt z.2) zs) (ZG1 M0 P m leaf lv plan cnt zs) (n:=zs.length) (M0:=X) (rs:=[.tmp 4]) (k0:=0) () X ⟨rfl,by omega⟩ ?_ ?_
  · rcases key with ⟨_,X',⟨rfl,h0⟩,h1,e⟩ | ⟨_,e⟩
    · simp only [Int.natCast_zero,Int.ofNat_zero] at e
      rw [Zc ZH]; unfold Zt Zz; simp [apA,e]
      rw [Zr]; unfold Zm; simp [apA]
      exact Zcw (.inl ⟨rfl,rfl,fun i hi=>h0 i hi hi⟩)
    · simp only [Int.natCast_zero,Int.ofNat_zero] at e
      rw [Zc ZH]; unfold Zt Zz; simp [apA]
      exact (e _).mono fun p hp=>.inr hp
  · intro i _ Y hi hq ⟨hY,hj⟩
    subst hY
    rw [Zdr _ hi] at hq
    have e6:IntKind.i64.wrap ((i:Int)+1)=i+1:=Zd (by omega) (by omega)
    obtain ⟨z1,z2,z3⟩:=hz _ (List.getElem_mem hi)
    have hc:=ZmD h hm hlf hc4 z1 ⟨z2,z3⟩ hq
    have hrd:=h.read (Zt3 hi) (by omega)
    refine ⟨(),_,⟨rfl,fun q hq' hq2=>?_⟩,?_⟩
    · by_cases e:q=i
      · subst e; exact hq
      · exact hj q (by omega) hq2
    · rw [Zr]; unfold Zm; simp [apA,hi,hrd,hc,e6]
  · intro i _ Y hi hq ⟨hY,hj⟩ k
    subst hY
    rw [Zdr _ hi] at hq
    obtain ⟨z1,z2,z3⟩:=hz _ (List.getElem_mem hi)
    obtain ⟨X',hc,hE,hlen,hnp⟩:=ZmH h ha hm hlv hlf hc4 hpl z1 ⟨z2,z3⟩ hq
    have hrd:=h.read (Zt3 hi) (by omega)
    have hg:=fun v=>ZB9 (v:=v) hnp
    rw [Zr]; unfold Zm; simp [apA,hi,hrd,hc,hg]
    exact ⟨_,rfl,i,hi,rfl,fun q hq'=>hj q hq' (by omega),hq,hE⟩
theorem Zog (m leaf lv:Nat) (plan:List ZB.D) (cnt:Nat):∀ (zs ks:List (List V × Za.D)),(∀ z ∈ zs,ZgY m leaf lv cnt z.2=true)→zs.foldl (Zbv m leaf lv) (plan,ks,cnt)=(plan,ks++zs,cnt)
  | [],ks,_=>by simp
  | z :: zs,ks,h=>by
    rw [List.foldl_cons]
    have:Zbv m leaf lv (plan,ks,cnt) z=(plan,ks++[z],cnt):=if_pos (h z (by simp))
    rw [this,Zog m leaf lv plan cnt zs _ (fun z hz=>h z (by simp [hz]))]
    simp
def ZCC (ks:List (List V × Za.D)) (jj:Nat) (zs:List (List V × Za.D)) (q:Nat):Option (List V):=if q < ks.length then hdf ks q else if jj≤q then hdf zs q else none
theorem ZCb (cells ds:List V) (i:Nat) (h:i * 3+3≤cells.length) (hd:ds.length=3):((splice cells (i * 3) ds).drop (i * 3)).take 3=ds:=by
  apply List.ext_getElem?
  intro t
  rw [List.getElem?_take]
  by_cases ht:t < 3
  · rw [if_pos ht,List.getElem?_drop,Zxq _ _ _ _ (by omega),if_neg (by omega),if_pos (by omega)]
    congr 1
    omega
  · rw [if_neg ht,List.getElem?_eq_none (by omega)]
theorem ZtG {ks:List (List V × Za.D)} {z:List V × Za.D} {q:Nat}:hdf (ks++[z]) q=if q < ks.length then hdf ks q else if q=ks.length then some z.1 else none:=by
  unfold hdf
  rw [List.getElem?_append]
  by_cases h:q < ks.length
  · rw [if_pos h,if_pos h]
  · rw [if_neg h,if_neg h]
    by_cases h2:q=ks.length
    · subst h2; simp
    · rw [if_neg h2,List.getElem?_eq_none (by simp; omega)]; rfl
def DlI (M0:Mem) (P:EvP) (m leaf lv:Nat) (zs:List (List V × Za.D)) (N jj:Nat) (s:List ZB.D × List (List V × Za.D) × Nat) (X:Mem):Prop :=
  EvS M0 P m leaf lv s.1 s.2.2 (ZCC s.2.1 jj zs) X∧s.2.1.length < jj∧s.2.2≤4∧s.1.length≤N+jj
set_option maxHeartbeats 1000000 in
theorem Zsl (M0:Mem) (P:EvP) (m leaf lv:Nat) (zs:List (List V × Za.D)) (N:Nat) (hN:N≤90000) (ha:P.apart M0.length) (hm:m≤6) (hlv:lv≤m) (hlf:leaf < 2 ^ m) (hz:ZOk M0 m zs) (hk:zs.length≤P.n) (hn:P.n≤1024) (s0:List ZB.D × List (List V × Za.D) × Nat) (j0:Nat) (hj0:j0≤zs.length) (Z:Mem) (hZ:DlI M0 P m leaf lv zs N j0 ((zs.take j0).foldl (Zbv m leaf lv) s0) Z) :
    ∃ X',DlI M0 P m leaf lv zs N zs.length (zs.foldl (Zbv m leaf lv) s0) X'∧lp (Zb T0) Zq ZC [.slice (some ⟨P.l,0,none⟩) zs.length P.n,clE P,O,O,O,.int .i64 ((zs.take j0).foldl (Zbv m leaf lv) s0).2.1.length,.int .i64 j0,O,O,O,O,O,O,O,O,O,O,O,O,O,O,O,O,O,O,O,O,O,O,O,O,O,O,O,O,O,O,O,O,O,O,O] Z=lp (Zb T0) Zq ZC [.slice (some ⟨P.l,0,none⟩) zs.length P.n,clE P,O,O,O,.int .i64 (zs.foldl (Zbv m leaf lv) s0).2.1.length,.int .i64 zs.length,O,O,O,O,O,O,O,O,O,O,O,O,O,O,O,O,O,O,O,O,O,O,O,O,O,O,O,O,O,O,O,O,O,O,O] X':=by
  have key:=YT (call:=Zb T0) (K:=Zq) (L:=ZC) (fun jj (_:Unit) X=>DlI M0 P m leaf lv zs N jj ((zs.take jj).foldl (Zbv m leaf lv) s0) X) (fun jj _=>[.slice (some ⟨P.l,0,none⟩) zs.length P.n,clE P,O,O,O,.int .i64 ((zs.take jj).foldl (Zbv m leaf lv) s0).2.1.length,.int .i64 jj,O,O,O,O,O,O,O,O,O,O,O,O,O,O,O,O,O,O,O,O,O,O,O,O,O,O,O,O,O,O,O,O,O,O,O]) (n:=zs.length) ?_ j0 () Z hj0 hZ
  · obtain ⟨_,X',hX,e⟩:=key
    rw [List.take_length] at hX e
    exact ⟨X',hX,e⟩
  intro jj _ X hjj ⟨hE,hlt,hc4,hpl⟩
  rw [List.take_succ_eq_append_getElem hjj,List.foldl_append]
  simp only [List.foldl_cons,List.foldl_nil]
  generalize (zs.take jj).foldl (Zbv m leaf lv) s0=s at hE hlt hc4 hpl ⊢
  obtain ⟨plan,ks,cnt⟩:=s
  simp only at hE hlt hc4 hpl ⊢
  obtain ⟨z1,z2,z3⟩:=hz _ (List.getElem_mem hjj)
  have hrd:=hE.read (q:=jj) (ds:=zs[jj].1) (by rw [ZCC,if_neg (by omega),if_pos (Nat.le_refl _),Zt3 hjj]) (by omega)
  have hst:Zbv m leaf lv (plan,ks,cnt) zs[jj]=if ZgY m leaf lv cnt zs[jj].2=true then (plan,ks++[zs[jj]],cnt) else (plan++[((lv:Int),zs[jj].2.1)],ks,cnt+1):=rfl
  rw [hst]
  have hdz:hdf zs jj=some zs[jj].1:=Zt3 hjj
  have e6:IntKind.i64.wrap ((jj:Int)+1)=jj+1:=Zd (by omega) (by omega)
  have e7:IntKind.i64.wrap ((ks.length:Int)+1)=ks.length+1:=Zd (by omega) (by omega)
  have hik:ks.length < zs.length:=by omega
  generalize zs[jj]=z at *
  obtain ⟨ds,b⟩:=z
  simp only at *
  have z1':=z1
  obtain ⟨u,rfl,w0,w1,qu⟩:=YE z1
  obtain ⟨ua,uc,rfl⟩:=qu.slen
  have hE1:=hE.grow (List.prefix_append X [(⟨[.int .i64 b.1,.int .i64 b.2.1,.slice ua (List.length (α:=UInt8) b.2.2) uc],1,2⟩:Blk)])
  obtain ⟨cells,hb1,hb2,hb3⟩:=hE1.hd
  have hbnd:ks.length * 3+3≤cells.length:=by omega
  cases hkp:ZgY m leaf lv cnt b with
  | true =>
    have hc:=ZmD hE1 hm hlf hc4 z1' ⟨z2,z3⟩ hkp
    rw [if_pos rfl]
    rw [Yf]; unfold ZJ; simp [apA,hjj,hrd,hc,hik,hb1,hbnd,e6,e7,Y1,Z3,ZhB,Zdj]
    have hsp:splice cells (ks.length * 3) [.int .i64 b.1,.int .i64 b.2.1,.slice ua (List.length (α:=UInt8) b.2.2) uc]=List.take (ks.length * 3) cells++.int .i64 b.1 :: .int .i64 b.2.1 :: .slice ua (List.length (α:=UInt8) b.2.2) uc :: List.drop (ks.length * 3+3) cells:=by simp [splice]
    rw [← hsp]
    refine ⟨_,⟨hE1.seth ha hb1 hbnd (fun q ds hq=>?_),by simp; omega,hc4,by show plan.length≤_; omega⟩,rfl⟩
    by_cases hqe:q=ks.length
    · subst hqe
      rw [ZCb _ _ _ (by omega) rfl]
      simp only [ZCC,List.length_append,List.length_singleton,Nat.lt_succ_self,if_true] at hq
      rw [ZtG,if_neg (Nat.lt_irrefl _),if_pos rfl] at hq
      exact Option.some.inj hq
    · rw [Zrd _ _ _ _ hbnd (by simp; omega)]
      refine hb3 q ds ?_
      simp only [ZCC,List.length_append,List.length_singleton] at hq ⊢
      rw [ZtG,if_neg hqe] at hq
      by_cases h1:q < ks.length
      · rw [if_pos h1]
        rw [if_pos (by omega),if_pos h1] at hq
        exact hq
      · rw [if_neg h1]
        rw [if_neg (by omega)] at hq
        split at hq
        · rw [if_pos (by omega)]; exact hq
        · cases hq
  | false =>
    obtain ⟨X',hc,hE',hlen,hnp⟩:=ZmH hE1 ha hm hlv hlf hc4 (by omega) z1' ⟨z2,z3⟩ hkp
    rw [if_neg (by decide)]
    rw [Yf]; unfold ZJ; simp [apA,hjj,hrd,hc,e6]
    have hc3:cnt+1≤4:=by
      unfold ZgY at hkp
      rw [Bool.or_eq_false_iff] at hkp
      have:=of_decide_eq_false hkp.1
      omega
    refine ⟨_,⟨hE'.weak fun q ds hq=>?_,by show ks.length < jj+1; omega,hc3,by simp; omega⟩,rfl⟩
    simp only [ZCC] at hq ⊢
    split at hq
    · rename_i h1; rw [if_pos h1]; exact hq
    · rename_i h1
      rw [if_neg h1]
      split at hq
      · rw [if_pos (by omega)]; exact hq
      · cases hq
def ZHi (M0:Mem) (P:EvP) (m leaf lv:Nat) (s:List ZB.D × List (List V × Za.D) × Nat) (p:V × Mem):Prop :=
  p.1=.slice (some ⟨P.l,0,none⟩) s.2.1.length P.n∧EvS M0 P m leaf lv s.1 s.2.2 (hdf s.2.1) p.2∧s.2.2≤4
theorem Zsa (k:Nat):(zeroCells [(.int .i64 0:V),.int .i64 0,.slice none 0 0] k).length=k * 3∧(zeroCells [(.int .i64 0:V),.int .i64 0,.slice none 0 0] k).all one=true:=by
  induction k with
  | zero=>exact ⟨rfl,rfl⟩
  | succ k ih =>
    simp only [zeroCells]
    refine ⟨?_,?_⟩
    · rw [List.length_append,ih.1]; simp; omega
    · rw [List.all_append,ih.2]; rfl
theorem Zqx {m leaf lv:Nat}:∀ (zs:List (List V × Za.D)) (s:List ZB.D × List (List V × Za.D) × Nat),(zs.foldl (Zbv m leaf lv) s).2.1.length≤s.2.1.length+zs.length∧(zs.foldl (Zbv m leaf lv) s).1.length≤s.1.length+zs.length
  | [],s=>by simp
  | z :: zs,s=>by
    rw [List.foldl_cons]
    have ih:=Zqx (m:=m) (leaf:=leaf) (lv:=lv) zs (Zbv m leaf lv s z)
    have h:(Zbv m leaf lv s z).2.1.length≤s.2.1.length+1∧(Zbv m leaf lv s z).1.length≤s.1.length+1:=by
      unfold Zbv
      split
      · simp
      · simp
    simp only [List.length_cons]
    omega
set_option maxHeartbeats 1000000 in
theorem Zs3 (M0:Mem) (P:EvP) (m leaf lv:Nat) (plan:List ZB.D) (cnt:Nat) (zs:List (List V × Za.D)) (X:Mem) (h:EvS M0 P m leaf lv plan cnt (hdf zs) X) (ha:P.apart M0.length) (hm:m≤6) (hlv:lv≤m) (hlf:leaf < 2 ^ m) (hc4:cnt≤4) (hpl:plan.length≤90000) (hz:ZOk M0 m zs) (hk:zs.length≤P.n) (hn:P.n≤1024) :
    Sat (Zb T0 ZG [.slice (some ⟨P.l,0,none⟩) zs.length P.n,clE P] X) (ZHi M0 P m leaf lv (zs.foldl (Zbv m leaf lv) (plan,[],cnt))):=by
  rw [Zc QG]; unfold ZY Yq; simp [apA]
  generalize hx:Zb T0 Zn _ _=xhx
  obtain ⟨v1,X1,rfl,hI⟩:=ZQ hx (Zsv M0 P m leaf lv plan cnt zs X h ha hm hlv hlf hc4 (by omega) hz hk (by omega))
  clear hx
  rcases hI with ⟨hv,hX,hall⟩ | ⟨j,hj,hv,hbef,hat,hE⟩
  · simp only at hv hX
    subst hv hX
    have hf:=Zog m leaf lv plan cnt zs [] (fun z hz=>by obtain ⟨i,hi,rfl⟩:=List.getElem_of_mem hz; exact hall i hi)
    rw [hf]
    simp [apA]
    exact ⟨_,rfl,rfl,h,hc4⟩
  · simp only at hv hE
    subst hv
    have hj1:¬ (j:Int)=-1:=by omega
    have e7:IntKind.i64.wrap ((j:Int)+1)=((j+1:Nat):Int):=by rw [Zd (by omega) (by omega)]; omega
    have hpre:=Zog m leaf lv plan cnt (zs.take j) [] (fun z hz=>by
      obtain ⟨i,hi,rfl⟩:=List.getElem_of_mem hz
      rw [List.length_take] at hi
      rw [List.getElem_take]
      exact hbef i (by omega))
    have hst:(zs.take (j+1)).foldl (Zbv m leaf lv) (plan,[],cnt)=(plan++[((lv:Int),zs[j].2.1)],zs.take j,cnt+1):=by
      rw [List.take_succ_eq_append_getElem hj,List.foldl_append,hpre]
      simp only [List.foldl_cons,List.foldl_nil,List.nil_append]
      exact if_neg (by rw [hat]; decide)
    have hc3:cnt+1≤4:=by
      unfold ZgY at hat
      rw [Bool.or_eq_false_iff] at hat
      have:=of_decide_eq_false hat.1
      omega
    have htl:(zs.take j).length=j:=by rw [List.length_take]; omega
    obtain ⟨X',⟨hE2,hlt2,hc2,hp2⟩,e⟩:=Zsl M0 P m leaf lv zs plan.length (by omega) ha hm hlv hlf hz hk hn (plan,[],cnt) (j+1) hj X1 (by
      rw [hst]
      refine ⟨hE.weak fun q ds hq=>?_,by show (zs.take j).length < _; omega,hc3,by simp⟩
      simp only [ZCC,htl] at hq
      split at hq
      · rename_i h1
        unfold hdf at hq ⊢
        rw [List.getElem?_take,if_pos h1] at hq
        exact hq
      · split at hq
        · exact hq
        · cases hq)
    rw [hst] at e
    simp only [htl] at e
    have hfl:=Zqx (m:=m) (leaf:=leaf) (lv:=lv) zs (plan,[],cnt)
    generalize zs.foldl (Zbv m leaf lv) (plan,[],cnt)=s at e hE2 hlt2 hc2 hp2 hfl ⊢
    obtain ⟨plan',ks,cnt'⟩:=s
    simp only at e hE2 hlt2 hc2 hp2 hfl ⊢
    obtain ⟨cells,hb1,hb2,hb3⟩:=hE2.hd
    have hkl:ks.length≤zs.length:=by omega
    have hkl':(ks.length:Int)≤(zs.length:Int):=by omega
    have hsub:((zs.length:Int) - (ks.length:Int)).toNat=zs.length - ks.length:=by omega
    have hn0:¬ zs.length - ks.length=0:=by omega
    have hmx:max zs.length P.n=P.n:=by omega
    obtain ⟨zc1,zc2⟩:=Zsa (zs.length - ks.length)
    have hbz:ks.length * 3+(zeroCells [(.int .i64 0:V),.int .i64 0,.slice none 0 0] (zs.length - ks.length)).length≤cells.length:=by omega
    have ec:((j+1:Nat):Int)=(j:Int)+1:=by omega
    simp only [ec] at e e7
    simp [apA,hj1,e7,e]
    rw [Yf]; unfold ZJ; simp [apA,hb1,hkl,hkl',hsub,hn0,hmx,zc2,hbz,ZbN hb1,ZhB,Zdj]
    have hsp:splice cells (ks.length * 3) (zeroCells [(.int .i64 0:V),.int .i64 0,.slice none 0 0] (zs.length - ks.length))=List.take (ks.length * 3) cells++(zeroCells [(.int .i64 0:V),.int .i64 0,.slice none 0 0] (zs.length - ks.length)++List.drop (ks.length * 3+(zeroCells [(.int .i64 0:V),.int .i64 0,.slice none 0 0] (zs.length - ks.length)).length) cells):=by simp [splice]
    rw [← hsp]
    refine ⟨_,rfl,rfl,hE2.seth ha hb1 hbz (fun q ds hq=>?_),hc2⟩
    have hql:q < ks.length:=by
      unfold hdf at hq
      rcases Nat.lt_or_ge q ks.length with h | h
      · exact h
      · rw [List.getElem?_eq_none h] at hq; cases hq
    rw [Zrd _ _ _ _ hbz (.inl (by omega))]
    refine hb3 q ds ?_
    rw [ZCC,if_pos hql]
    exact hq
theorem Zmp (m leaf:Nat) (zs:List (List V × Za.D)) (k:Nat):ZeW m leaf zs (k+1)=ZEf m leaf (ZeW m leaf zs k) (m - k):=by
  unfold ZeW
  rw [List.range_succ,List.foldl_append]
  rfl
theorem ZnM (m leaf lv:Nat):∀ (zs:List (List V × Za.D)) (plan:List ZB.D) (ks:List (List V × Za.D)) (cnt:Nat),∃ ys,List.Sublist ys zs∧(zs.foldl (Zbv m leaf lv) (plan,ks,cnt)).2.1=ks++ys
  | [],plan,ks,cnt=>⟨[],List.Sublist.refl _,by simp⟩
  | z :: zs,plan,ks,cnt=>by
    rw [List.foldl_cons]
    by_cases h:ZgY m leaf lv cnt z.2=true
    · have e:Zbv m leaf lv (plan,ks,cnt) z=(plan,ks++[z],cnt):=if_pos h
      obtain ⟨ys,h1,h2⟩:=ZnM m leaf lv zs plan (ks++[z]) cnt
      exact ⟨z :: ys,h1.cons_cons z,by rw [e,h2]; simp⟩
    · have e:Zbv m leaf lv (plan,ks,cnt) z=(plan++[((lv:Int),z.2.1)],ks,cnt+1):=if_neg h
      obtain ⟨ys,h1,h2⟩:=ZnM m leaf lv zs (plan++[((lv:Int),z.2.1)]) ks (cnt+1)
      exact ⟨ys,h1.cons z,by rw [e,h2]⟩
theorem ZAr (m leaf lv:Nat) (s:List ZB.D × List (List V × Za.D)):List.Sublist (ZEf m leaf s lv).2 s.2:=by
  obtain ⟨ys,h1,h2⟩:=ZnM m leaf lv s.2 s.1 [] 0
  unfold ZEf
  simp only [h2,List.nil_append]
  exact h1
theorem Zk2 (m leaf:Nat) (zs:List (List V × Za.D)):∀ k,List.Sublist (ZeW m leaf zs k).2 zs∧(ZeW m leaf zs k).1.length≤k * zs.length
  | 0=>⟨List.Sublist.refl _,by simp [ZeW]⟩
  | k+1=>by
    obtain ⟨h1,h2⟩:=Zk2 m leaf zs k
    rw [Zmp]
    refine ⟨(ZAr m leaf (m - k) _).trans h1,?_⟩
    have h3:=(Zqx (m:=m) (leaf:=leaf) (lv:=m - k) (ZeW m leaf zs k).2 ((ZeW m leaf zs k).1,[],0)).2
    have h4:=h1.length_le
    unfold ZEf
    simp only at h3 ⊢
    rw [Nat.succ_mul]
    omega
set_option maxHeartbeats 1000000 in
theorem ZoK (M0:Mem) (l n pl pf pp:Nat) (m leaf:Nat) (zs:List (List V × Za.D)) (hm:m≤6) (hlf:leaf < 2 ^ m) (hz:ZOk M0 m zs) (hn:zs.length=n) (hn2:n≤128) (hge:M0.length≤l∧M0.length≤pl∧M0.length≤pf∧M0.length≤pp) (hd:l ≠ pl∧l ≠ pf∧l ≠ pp∧pl ≠ pp∧pf ≠ pp) (pv:Nat) (Z:Mem) (hZ:LvI M0 l n pl pf pp m leaf zs 0 pv Z) :
    ∃ pv' X',LvI M0 l n pl pf pp m leaf zs (m+1) pv' X'∧lp (Zb T0) Y2 QS [O,O,O,O,.pointer (some ⟨pl,0,none⟩),.pointer (some ⟨pf,0,none⟩),O,O,.pointer (some ⟨pp,0,none⟩),.slice (some ⟨l,0,none⟩) (ZeW m leaf zs 0).2.length n,.pointer (some ⟨pv,0,none⟩),O,O,O,O,O,O,O,O,O,O,O,O,O,O] Z=lp (Zb T0) Y2 QS [O,O,O,O,.pointer (some ⟨pl,0,none⟩),.pointer (some ⟨pf,0,none⟩),O,O,.pointer (some ⟨pp,0,none⟩),.slice (some ⟨l,0,none⟩) (ZeW m leaf zs (m+1)).2.length n,.pointer (some ⟨pv',0,none⟩),O,O,O,O,O,O,O,O,O,O,O,O,O,O] X':=by
  refine YT (call:=Zb T0) (K:=Y2) (L:=QS) (fun k pv X=>LvI M0 l n pl pf pp m leaf zs k pv X) (fun k pv=>[O,O,O,O,.pointer (some ⟨pl,0,none⟩),.pointer (some ⟨pf,0,none⟩),O,O,.pointer (some ⟨pp,0,none⟩),.slice (some ⟨l,0,none⟩) (ZeW m leaf zs k).2.length n,.pointer (some ⟨pv,0,none⟩),O,O,O,O,O,O,O,O,O,O,O,O,O,O]) (n:=m+1) ?_ 0 pv Z (by omega) hZ
  intro k pv X hk ⟨hT,hp0,hp1,hp2,hp3,hp4⟩
  obtain ⟨hsub,hpl⟩:=Zk2 m leaf zs k
  have hpl2:(ZeW m leaf zs k).1.length≤90000:=Nat.le_trans hpl (Nat.le_trans (Nat.mul_le_mul (show k≤6 by omega) (show zs.length≤128 by omega)) (by omega))
  simp only [LvI,Zmp]
  have hlen:=hsub.length_le
  have hz2:ZOk M0 m (ZeW m leaf zs k).2:=fun z h=>hz z (hsub.subset h)
  generalize ZeW m leaf zs k=s at *
  obtain ⟨plan,ys⟩:=s
  simp only at *
  have hlv:(m:Int) - k=((m - k:Nat):Int):=by omega
  rw [hlv] at hT
  obtain ⟨cells,hl1,hl2,hl3⟩:=hT.hd
  obtain ⟨vp,Lp,g1,g2,g3,g4⟩:=hT.bp
  have hS:EvS M0 ⟨l,n,X.length,pl,pf,pv,pp⟩ m leaf (m - k) plan 0 (hdf ys) (X++[⟨[.int .i64 0],1,2⟩]) :=
    ⟨JZ hT.pre,⟨cells,Zw hl1,hl2,hl3⟩,by simp,Zw hT.bl,Zw hT.bf,Zw hT.bv,⟨vp,Lp,Zw g1,g2.grow (List.prefix_append _ _),g3,fun j hj=>by
      obtain ⟨h1,h2,h3,h4,h5,h6⟩:=g4 j hj
      have:=g2.lt j hj
      exact ⟨h1,h2,by show j ≠ X.length; omega,h3,h4,h5,h6⟩⟩⟩
  have hap:(⟨l,n,X.length,pl,pf,pv,pp⟩:EvP).apart M0.length:=by
    have:=ZI hl1
    have:=ZI hT.bl
    have:=ZI hT.bf
    have:=ZI hT.bv
    have:=ZI g1
    have:=hT.pre.length_le
    unfold EvP.apart
    simp only
    omega
  have hc:=Zs3 M0 ⟨l,n,X.length,pl,pf,pv,pp⟩ m leaf (m - k) plan 0 ys _ hS hap hm (by omega) hlf (by omega) hpl2 hz2 (by show ys.length≤n; omega) (by show n≤1024; omega)
  have hbv:=hT.bv
  have hge0:(0:Int)≤((m - k:Nat):Int):=by omega
  rw [ZeN]; unfold Zbm; simp [apA,hbv,hge0,Y1,Z3]
  generalize hx:Zb T0 ZG _ _=xhx
  obtain ⟨v2,X2,rfl,hv2,hE2,_⟩:=ZQ hx hc
  clear hx
  simp only at hv2 hE2
  subst hv2
  have hbv2:=hE2.bv
  simp only at hbv2
  have hbv3:=fun N:Mem=>Zw (N:=N) hbv2
  have e7:IntKind.i64.wrap (((m - k:Nat):Int) - 1)=(m:Int) - (k+1:Nat):=by rw [Zd (by omega) (by omega)]; omega
  simp [apA,hbv2,hbv3,e7,Y1,Z3]
  have hX2:=(hE2.pre).length_le
  have hpp:=hE2.pre
  obtain ⟨cells2,q1,q2,q3⟩:=hE2.hd
  obtain ⟨vp2,Lp2,r1,r2,r3,r4⟩:=hE2.bp
  have t1:=ZI q1
  have t2:=ZI hE2.bl
  have t3:=ZI hE2.bf
  have t4:=ZI r1
  simp only at q1 q2 q3 r1 r4 t1 t2 t3 t4
  refine ⟨X2.length,_,⟨⟨JZ hpp,⟨cells2,Zw q1,q2,q3⟩,Zw hE2.bl,Zw hE2.bf,by simp,⟨vp2,Lp2,Zw r1,r2.grow (List.prefix_append _ _),r3,fun j hj=>?_⟩⟩,hX2,by omega,by omega,by omega,by omega⟩,rfl⟩
  obtain ⟨h1,h2,h3,h4,h5,h6,h7⟩:=r4 j hj
  have:=r2.lt j hj
  exact ⟨h1,h2,h4,h5,by omega,h7⟩
def EvD (M:Mem) (plan:List ZB.D) (zs:List (List V × Za.D)) (n:Nat) (p:V × Mem):Prop :=
  ∃ (vp:V) (l:Nat) (Lp:List Nat) (cells:List V),p.1=.tuple #[vp,.slice (some ⟨l,0,none⟩) zs.length n]∧M <+: p.2∧Gr (.sl ZB) p.2 [vp] plan Lp∧Lp.Nodup∧(∀ j ∈ Lp,M.length≤j∧j ≠ l)∧M.length≤l∧p.2[l]?=some ⟨cells,3,2⟩∧cells.length=n * 3∧∀ q ds,hdf zs q=some ds→(cells.drop (q * 3)).take 3=ds
theorem ZxA {M:Mem}:∀ {zs:List (List V × Za.D)},(∀ z ∈ zs,Rep Za M z.1 z.2)→∀ (q:Nat) (ds:List V),hdf zs q=some ds→((Zl zs).drop (q * 3)).take 3=ds
  | [],_,q,ds,h=>by simp [hdf] at h
  | z :: zs,hz,0,ds,h=>by
    have hl:=(hz z (by simp)).len
    have hw:Za.w=3:=rfl
    rw [hw] at hl
    simp only [hdf,List.getElem?_cons_zero,Option.map_some,Option.some.injEq] at h
    subst h
    show ((z.1++Zl zs).drop 0).take 3=z.1
    rw [List.drop_zero,← hl,List.take_left']
    rfl
  | z :: zs,hz,q+1,ds,h=>by
    have hl:=(hz z (by simp)).len
    have hw:Za.w=3:=rfl
    rw [hw] at hl
    have ih:=ZxA (zs:=zs) (fun y hy=>hz y (List.mem_cons_of_mem _ hy)) q ds (by simpa [hdf] using h)
    show ((z.1++Zl zs).drop ((q+1) * 3)).take 3=ds
    rw [List.drop_append,List.drop_of_length_le (by omega),List.nil_append]
    have:(q+1) * 3 - z.1.length=q * 3:=by omega
    rw [this]
    exact ih
set_option maxHeartbeats 1000000 in
theorem Zji (M:Mem) (v:V) (zs:List (List V × Za.D)) (m leaf:Nat) (hv:∃ a c,v=.slice a zs.length c) (hz2:∀ z ∈ zs,Rep Za M z.1 z.2) (h3:Zj M 3 v=some (zs.length,Zl zs)) (hm:m≤6) (hlf:leaf < 2 ^ m) (hL:ZzN m (zs.map (·.2))) (hn:zs.length≤128) (h0:zs ≠ []) :
    Sat (Zb T0 J9 [v,.int .i64 m,.int .i64 leaf] M) (EvD M (ZeW m leaf zs (m+1)).1 (ZeW m leaf zs (m+1)).2 zs.length):=by
  have hC:=Zig M (M++[⟨[.int .i64 m],1,2⟩,⟨[.int .i64 leaf],1,2⟩,⟨[.slice none 0 0],1,2⟩]) (List.prefix_append _ _) v zs hv hz2 h3 (by omega)
  obtain ⟨av,cv,rfl⟩:=hv
  have hZ:ZOk M m zs:=fun z hz=>⟨hz2 z hz,hL z.2 (List.mem_map_of_mem hz)⟩
  rw [Zc ZmB]; unfold ZgU Zjw; simp [apA]
  generalize hx:Zb T0 Zy _ _=xhx
  obtain ⟨v1,X1,rfl,p1,⟨he,_⟩ | ⟨_,l,rfl,hl1,hl2⟩⟩:=ZQ hx hC
  · exact absurd he h0
  clear hx
  simp only at p1 hl2
  have b0:X1[M.length]?=some ⟨[.int .i64 m],1,2⟩:=Zh p1 (by simp)
  have b1:X1[M.length+1]?=some ⟨[.int .i64 leaf],1,2⟩:=Zh p1 (by simp)
  have b2:X1[M.length+2]?=some ⟨[.slice none 0 0],1,2⟩:=Zh p1 (by simp)
  have pM:M <+: X1:=(List.prefix_append _ _).trans p1
  simp at hl1
  have hln:=ZI hl2
  have b0':=fun N:Mem=>Zw (N:=N) b0
  have hfl:(Zl zs).length=zs.length * 3:=by
    unfold Zl
    rw [YP (w:=3)]
    · simp
    · intro c hc
      obtain ⟨z,hz,rfl⟩:=List.mem_map.1 hc
      exact (hz2 z hz).len
  have hT:LvI M l zs.length M.length (M.length+1) (M.length+2) m leaf zs 0 X1.length (X1++[⟨[.int .i64 m],1,2⟩]):=by
    refine ⟨⟨JZ pM,⟨Zl zs,Zw hl2,hfl,ZxA hz2⟩,Zw b0,Zw b1,by simp,⟨.slice none 0 0,[],Zw b2,Gr.nil,by simp,by simp⟩⟩,pM.length_le,by omega,?_,?_,?_⟩
    · have:=ZI b0; omega
    · have:=ZI b1; omega
    · have:=ZI b2; omega
  obtain ⟨pv',X',⟨hT',_⟩,e⟩:=ZoK M l zs.length M.length (M.length+1) (M.length+2) m leaf zs hm hlf hZ rfl hn ⟨by omega,by omega,by omega,by omega⟩ ⟨by omega,by omega,by omega,by omega,by omega⟩ X1.length _ hT
  have e0:(ZeW m leaf zs 0).2.length=zs.length:=rfl
  rw [e0] at e
  obtain ⟨vp,Lp,g1,g2,g3,g4⟩:=hT'.bp
  obtain ⟨cells,q1,q2,q3⟩:=hT'.hd
  have hbv:=hT'.bv
  have hneg:¬ (m:Int)+1≤(m:Int):=by omega
  obtain ⟨ap,rfl⟩:=g2.shape
  simp [apA,b0,b0',e,Y1,Z3]
  rw [ZeN]; unfold Zbm; simp [apA,hbv,hneg,g1,Y1,Z3]
  exact ⟨_,rfl,_,l,Lp,cells,rfl,hT'.pre,g2,g3,fun j hj=>⟨(g4 j hj).1,(g4 j hj).2.1⟩,by omega,q1,q2,q3⟩
def EvZ (M:Mem) (pl pp pv:Nat) (m k:Nat) (X:Mem):Prop:=M <+: X∧X[pp]?=some ⟨[.slice none 0 0],1,2⟩∧X[pv]?=some ⟨[.int .i64 ((m:Int) - k)],1,2⟩
theorem Zu7 (M:Mem) (a:Option Addr) (c:Nat) (cl:V):Zb T0 Zn [.slice a 0 c,cl] M=some (.int .i64 (-1),M):=by
  rw [Zc ZH]; unfold Zt Zz; simp [apA]
  rw [Zr]; unfold Zm; simp [apA]
theorem Zvs (M:Mem) (a:Option Addr) (c:Nat) (cl:V):Zb T0 ZG [.slice a 0 c,cl] M=some (.slice a 0 c,M):=by
  have e:=Zu7 M a c cl
  rw [Zc QG]; unfold ZY Yq; simp [apA,e]
theorem Zry (M:Mem) (pl pf pp:Nat) (m:Nat) (hm:m≤6) (a:Option Addr) (c:Nat) (pv:Nat) (Z:Mem) (hZ:EvZ M pl pp pv m 0 Z) :
    ∃ pv' X',EvZ M pl pp pv' m (m+1) X'∧lp (Zb T0) Y2 QS [O,O,O,O,.pointer (some ⟨pl,0,none⟩),.pointer (some ⟨pf,0,none⟩),O,O,.pointer (some ⟨pp,0,none⟩),.slice a 0 c,.pointer (some ⟨pv,0,none⟩),O,O,O,O,O,O,O,O,O,O,O,O,O,O] Z=lp (Zb T0) Y2 QS [O,O,O,O,.pointer (some ⟨pl,0,none⟩),.pointer (some ⟨pf,0,none⟩),O,O,.pointer (some ⟨pp,0,none⟩),.slice a 0 c,.pointer (some ⟨pv',0,none⟩),O,O,O,O,O,O,O,O,O,O,O,O,O,O] X':=by
  refine YT (call:=Zb T0) (K:=Y2) (L:=QS) (fun k pv X=>EvZ M pl pp pv m k X) (fun k pv=>[O,O,O,O,.pointer (some ⟨pl,0,none⟩),.pointer (some ⟨pf,0,none⟩),O,O,.pointer (some ⟨pp,0,none⟩),.slice a 0 c,.pointer (some ⟨pv,0,none⟩),O,O,O,O,O,O,O,O,O,O,O,O,O,O]) (n:=m+1) ?_ 0 pv Z (by omega) hZ
  intro k pv X hk ⟨pX,hp,hv⟩
  have hv':=fun N:Mem=>Zw (N:=N) hv
  have hge0:k≤m:=by omega
  have e7:IntKind.i64.wrap ((m:Int) - k - 1)=(m:Int) - (k+1:Nat):=by rw [Zd (by omega) (by omega)]; omega
  have hd:=fun N:Mem=>fun cl=>Zvs (X++N) a c cl
  rw [ZeN]; unfold Zbm; simp [apA,hv,hv',hge0,hd,e7,Y1,Z3]
  refine ⟨X.length+1,_,⟨JZ pX,Zw hp,?_⟩,rfl⟩
  simp
def EvN (M:Mem) (p:V × Mem):Prop:=∃ vr La,p.1=.tuple #[.slice none 0 0,vr]∧M <+: p.2∧Gr (.sl Za) p.2 [vr] [] La∧La.Nodup∧∀ l ∈ La,M.length≤l
theorem ZjJ (M:Mem) (v:V) (m leaf:Nat) (hv:∃ a c,v=.slice a 0 c) (h3:Zj M 3 v=some (0,[])) (hm:m≤6) :
    Sat (Zb T0 J9 [v,.int .i64 m,.int .i64 leaf] M) (EvN M):=by
  have hC:=Zig M (M++[⟨[.int .i64 m],1,2⟩,⟨[.int .i64 leaf],1,2⟩,⟨[.slice none 0 0],1,2⟩]) (List.prefix_append _ _) v [] hv (by simp) h3 (by simp)
  obtain ⟨av,cv,rfl⟩:=hv
  rw [Zc ZmB]; unfold ZgU Zjw; simp [apA]
  generalize hx:Zb T0 Zy _ _=xhx
  obtain ⟨v1,X1,rfl,p1,⟨_,La,g1,g2,g3⟩ | ⟨h0,_⟩⟩:=ZQ hx hC
  · clear hx
    simp only at p1 g1
    obtain ⟨a,rfl⟩:=g1.shape
    have b0:X1[M.length]?=some ⟨[.int .i64 m],1,2⟩:=Zh p1 (by simp)
    have b2:X1[M.length+2]?=some ⟨[.slice none 0 0],1,2⟩:=Zh p1 (by simp)
    have pM:M <+: X1:=(List.prefix_append _ _).trans p1
    have b0':=fun N:Mem=>Zw (N:=N) b0
    have hZ:EvZ X1 M.length (M.length+2) X1.length m 0 (X1++[⟨[.int .i64 m],1,2⟩]):=⟨List.prefix_append _ _,Zw b2,by simp⟩
    obtain ⟨pv',X',⟨hp',hb2,hbv⟩,e⟩:=Zry X1 M.length (M.length+1) (M.length+2) m hm a 0 X1.length _ hZ
    have hneg:¬ (m:Int)+1≤(m:Int):=by omega
    simp only [List.length_nil] at *
    simp [apA,b0,b0',e,Y1,Z3]
    rw [ZeN]; unfold Zbm; simp [apA,hbv,hneg,hb2,Y1,Z3]
    exact ⟨_,rfl,_,La,rfl,pM.trans hp',g1.grow hp',g2,fun l hl=>by have:=g3 l hl; simp at this; omega⟩
  · exact absurd rfl h0
theorem Zli (m leaf lv:Nat):∀ (zs:List (List V × Za.D)) (plan:List ZB.D) (ks:List (List V × Za.D)) (n:Nat),zs.foldl (Zbv m leaf lv) (plan,ks,n)=((zs.foldl (Zbv m leaf lv) (plan,[],n)).1,ks++(zs.foldl (Zbv m leaf lv) (plan,[],n)).2.1,(zs.foldl (Zbv m leaf lv) (plan,[],n)).2.2)
  | [],plan,ks,n=>by simp
  | z :: zs,plan,ks,n=>by
    rw [List.foldl_cons,List.foldl_cons]
    by_cases h:ZgY m leaf lv n z.2=true
    · have e1:Zbv m leaf lv (plan,ks,n) z=(plan,ks++[z],n):=if_pos h
      have e2:Zbv m leaf lv (plan,[],n) z=(plan,[z],n):=if_pos h
      rw [e1,e2,Zli m leaf lv zs plan (ks++[z]) n,Zli m leaf lv zs plan [z] n]
      simp
    · have e1:Zbv m leaf lv (plan,ks,n) z=(plan++[((lv:Int),z.2.1)],ks,n+1):=if_neg h
      have e2:Zbv m leaf lv (plan,[],n) z=(plan++[((lv:Int),z.2.1)],[],n+1):=if_neg h
      rw [e1,e2,Zli m leaf lv zs _ ks (n+1)]
theorem Zrp {id:Int} {xs:List Za.D} (h:∀ b ∈ xs,b.1 ≠ id):ZaP id xs=false:=by
  unfold ZaP
  rw [List.any_eq_false]
  intro b hb
  simpa using h b hb
theorem Zlu (m leaf lv:Nat):∀ (xs:List Za.D) (zs:List (List V × Za.D)) (ks:List Za.D) (plan:List ZB.D) (n:Nat),n≤4→ZD9 xs→List.Sublist (zs.map (·.2)) xs→(∀ a ∈ ks,∀ b ∈ xs,a.1 ≠ b.1) →
    xs.foldl (Zfd m leaf lv) (plan,ks++zs.map (·.2),n)=((zs.foldl (Zbv m leaf lv) (plan,[],n)).1,ks++(zs.foldl (Zbv m leaf lv) (plan,[],n)).2.1.map (·.2),(zs.foldl (Zbv m leaf lv) (plan,[],n)).2.2)
  | [],zs,ks,plan,n,hn,hd,hs,hk=>by
    have:zs=[]:=by
      have:=hs.length_le
      simp at this
      exact this
    subst this
    simp
  | b :: xs,zs,ks,plan,n,hn,hd,hs,hk=>by
    have hd':=List.pairwise_cons.1 hd
    rw [List.foldl_cons]
    match zs,hs with
    | [],_ =>
      have e:Zfd m leaf lv (plan,ks++([]:List (List V × Za.D)).map (·.2),n) b=(plan,ks++([]:List (List V × Za.D)).map (·.2),n):=by
        refine if_neg fun h=>?_
        have:=h.1
        rw [Zrp (fun a ha=>hk a (by simpa using ha) b (by simp))] at this
        cases this
      rw [e]
      exact Zlu m leaf lv xs [] ks plan n hn hd'.2 (by simp) (fun a ha c hc=>hk a ha c (by simp [hc]))
    | z :: zs,hs =>
      by_cases hz:z.2=b
      · have hs':List.Sublist (zs.map (·.2)) xs:=by
          rw [List.map_cons,hz] at hs
          exact List.cons_sublist_cons.1 hs
        have hid:ZaP b.1 (ks++(z :: zs).map (·.2))=true:=List.any_eq_true.2 ⟨b,by simp [hz],by simp⟩
        have hrest:∀ a ∈ zs.map (·.2),a.1 ≠ b.1:=fun a ha=>(hd'.1 a (hs'.subset ha)).symm
        rw [List.foldl_cons]
        by_cases hkp:ZgY m leaf lv n z.2=true
        · have e1:Zfd m leaf lv (plan,ks++(z :: zs).map (·.2),n) b=(plan,ks++(z :: zs).map (·.2),n):=by
            refine if_neg fun h=>?_
            obtain ⟨_,h1,h2⟩:=h
            unfold ZgY at hkp
            rw [hz,Bool.or_eq_true] at hkp
            simp only at h1
            rcases hkp with hkp | hkp
            · have:=of_decide_eq_true hkp; omega
            · have:=of_decide_eq_true hkp; omega
          have e2:Zbv m leaf lv (plan,[],n) z=(plan,[z],n):=if_pos hkp
          rw [e1,e2]
          have e3:ks++(z :: zs).map (·.2)=(ks++[b])++zs.map (·.2):=by simp [hz]
          rw [e3,Zlu m leaf lv xs zs (ks++[b]) plan n hn hd'.2 hs' (fun a ha c hc=>by
            rcases List.mem_append.1 ha with h | h
            · exact hk a h c (by simp [hc])
            · simp at h; subst h; exact hd'.1 c hc),Zli m leaf lv zs plan [z] n]
          simp [hz]
        · have hk2:n < 4∧lv≤mtN m leaf b:=by
            have hkp:ZgY m leaf lv n z.2=false:=by simpa using hkp
            unfold ZgY at hkp
            rw [hz,Bool.or_eq_false_iff] at hkp
            have h1:=of_decide_eq_false hkp.1
            have h2:=of_decide_eq_false hkp.2
            omega
          have e1:Zfd m leaf lv (plan,ks++(z :: zs).map (·.2),n) b=(plan++[((lv:Int),b.1)],ZP b.1 (ks++(z :: zs).map (·.2)),n+1):=if_pos ⟨hid,hk2.1,hk2.2⟩
          have e2:Zbv m leaf lv (plan,[],n) z=(plan++[((lv:Int),z.2.1)],[],n+1):=if_neg hkp
          have e3:ZP b.1 (ks++(z :: zs).map (·.2))=ks++zs.map (·.2):=by
            rw [ZjM,Zdo (fun a ha=>hk a ha b (by simp)),List.map_cons,hz]
            have:ZP b.1 (b :: zs.map (·.2))=ZP b.1 (zs.map (·.2)):=by simp [ZP]
            rw [this,Zdo hrest]
          rw [e1,e2,e3,hz]
          exact Zlu m leaf lv xs zs ks _ (n+1) (by omega) hd'.2 hs' (fun a ha c hc=>hk a ha c (by simp [hc]))
      · have hs':List.Sublist ((z :: zs).map (·.2)) xs:=by
          rw [List.map_cons] at hs ⊢
          cases hs with
          | cons _ h=>exact h
          | cons_cons _ h=>exact absurd rfl hz
        have e:Zfd m leaf lv (plan,ks++(z :: zs).map (·.2),n) b=(plan,ks++(z :: zs).map (·.2),n):=by
          refine if_neg fun h=>?_
          have:=h.1
          rw [Zrp (fun a ha=>?_)] at this
          · cases this
          · rcases List.mem_append.1 ha with h | h
            · exact hk a h b (by simp)
            · exact (hd'.1 a (hs'.subset h)).symm
        rw [e]
        exact Zlu m leaf lv xs (z :: zs) ks plan n hn hd'.2 hs' (fun a ha c hc=>hk a ha c (by simp [hc]))
theorem ZoC (m leaf:Nat) (xs:List Za.D) (zs:List (List V × Za.D)) (hz:zs.map (·.2)=xs) (hd:ZD9 xs):∀ k,ZS m leaf xs k=((ZeW m leaf zs k).1,(ZeW m leaf zs k).2.map (·.2))
  | 0=>by simp [ZS,ZeW,hz]
  | k+1=>by
    have ih:=ZoC m leaf xs zs hz hd k
    rw [Zb0,Zmp,ih]
    have hs:List.Sublist ((ZeW m leaf zs k).2.map (·.2)) xs:=by rw [← hz]; exact (Zk2 m leaf zs k).1.map _
    have h:=Zlu m leaf (m - k) xs (ZeW m leaf zs k).2 [] (ZeW m leaf zs k).1 0 (by omega) hd hs (by simp)
    simp only [List.nil_append] at h
    unfold ZmC ZEf
    rw [h]
theorem ZkF (m leaf:Nat):∀ k,ZS m leaf [] k=([],[])
  | 0=>rfl
  | k+1=>by
    rw [Zb0,ZkF m leaf k]
    rfl
def ZHo (M:Mem) (plan:List ZB.D) (p:V × Mem):Prop:=∃ vp a k c Lp,p.1=.tuple #[vp,.slice a k c]∧M <+: p.2∧Gr (.sl ZB) p.2 [vp] plan Lp∧Lp.Nodup∧∀ j ∈ Lp,M.length≤j
theorem ZrA (M:Mem) (v:V) (zs:List (List V × Za.D)) (m leaf:Nat) (hv:∃ a c,v=.slice a zs.length c) (hz2:∀ z ∈ zs,Rep Za M z.1 z.2) (h3:Zj M 3 v=some (zs.length,Zl zs)) (hm:m≤6) (hlf:leaf < 2 ^ m) (hL:ZzN m (zs.map (·.2))) (hn:zs.length≤128) (hd:ZD9 (zs.map (·.2))) :
    Sat (Zb T0 J9 [v,.int .i64 m,.int .i64 leaf] M) (ZHo M (ZS m leaf (zs.map (·.2)) (m+1)).1):=by
  by_cases h0:zs=[]
  · subst h0
    obtain ⟨p,e,vr,La,q1,q2,q3,q4⟩:=ZjJ M v m leaf hv h3 hm
    obtain ⟨a,rfl⟩:=q3.shape
    refine ⟨p,e,_,a,_,_,[],q1,q2,?_,by simp,by simp⟩
    rw [List.map_nil,ZkF]
    exact Gr.nil
  · obtain ⟨p,e,vp,l,Lp,cells,q1,q2,q3,q4,q5,_⟩:=Zji M v zs m leaf hv hz2 h3 hm hlf hL hn h0
    refine ⟨p,e,vp,_,_,_,Lp,q1,q2,?_,q4,fun j hj=>(q5 j hj).1⟩
    rw [ZoC m leaf _ zs rfl hd]
    exact q3
theorem ZBS {α β:Type} {P:α→List β→Prop}:∀ {ys zs:List α} {Ls:List (List β)},List.Sublist ys zs→Ls.length=zs.length→(∀ (i:Nat) (z:α) (K:List β),zs[i]?=some z→Ls[i]?=some K→P z K) →
    ∃ Ks:List (List β),Ks.length=ys.length∧List.Sublist Ks.flatten Ls.flatten∧∀ (i:Nat) (z:α) (K:List β),ys[i]?=some z→Ks[i]?=some K→P z K:=by
  intro ys zs Ls hs
  induction hs generalizing Ls with
  | slnil=>intro _ _; exact ⟨[],rfl,by simp,by simp⟩
  | @cons ys zs z hs ih =>
    intro hl hp
    cases Ls with
    | nil=>simp at hl
    | cons K Ls =>
      obtain ⟨Ks,h1,h2,h3⟩:=ih (Ls:=Ls) (by simpa using hl) (fun i z K hz hK=>hp (i+1) z K (by simpa using hz) (by simpa using hK))
      refine ⟨Ks,h1,?_,h3⟩
      rw [List.flatten_cons]
      exact h2.trans (List.sublist_append_right _ _)
  | @cons_cons ys zs z hs ih =>
    intro hl hp
    cases Ls with
    | nil=>simp at hl
    | cons K Ls =>
      obtain ⟨Ks,h1,h2,h3⟩:=ih (Ls:=Ls) (by simpa using hl) (fun i z K hz hK=>hp (i+1) z K (by simpa using hz) (by simpa using hK))
      refine ⟨K :: Ks,by simp [h1],?_,?_⟩
      · rw [List.flatten_cons,List.flatten_cons]
        exact (List.Sublist.refl K).append h2
      · intro i a b ha hb
        cases i with
        | zero =>
          simp at ha hb
          subst ha; subst hb
          exact hp 0 z K (by simp) (by simp)
        | succ i=>exact h3 i a b (by simpa using ha) (by simpa using hb)
theorem Zpv:∀ (css:List (List V)) (cells:List V) (off:Nat),(∀ ds ∈ css,ds.length=3)→(∀ (q:Nat) (ds:List V),css[q]?=some ds→(cells.drop (off+q * 3)).take 3=ds)→css.flatten <+: cells.drop off
  | [],cells,off,_,_=>by simp
  | ds :: css,cells,off,hl,h=>by
    have h0:=h 0 ds (by simp)
    have ih:=Zpv css cells (off+3) (fun d hd=>hl d (List.mem_cons_of_mem _ hd)) (fun q d hd=>by
      have:=h (q+1) d (by simpa using hd)
      have e:off+(q+1) * 3=off+3+q * 3:=by omega
      rw [e] at this
      exact this)
    have e:cells.drop off=ds++cells.drop (off+3):=by
      rw [← List.take_append_drop 3 (cells.drop off),List.drop_drop]
      congr 1
    rw [List.flatten_cons,e]
    exact (List.prefix_append_right_inj ds).2 ih
def ZHa (M:Mem) (rest:List Za.D) (L:List Nat) (p:V × Mem):Prop:=∃ vp vr a k c K,p.1=.tuple #[vp,vr]∧(∃ b,vp=.slice b 0 0∨∃ n,vp=.slice b n n)∧vr=.slice a k c∧M <+: p.2∧Own (.sl Za) p.2 [vr] rest K∧K.Nodup∧∀ j ∈ K,(j ∈ L∨M.length≤j)∧j < p.2.length
theorem ZqK (M:Mem) (v:V) (xs:List Za.D) (L:List Nat) (m leaf:Nat) (hg:Gr (.sl Za) M [v] xs L) (hnd:L.Nodup) (hm:m≤6) (hlf:leaf < 2 ^ m) (hL:ZzN m xs) (hn:xs.length≤128) (hd:ZD9 xs) :
    Sat (Zb T0 J9 [v,.int .i64 m,.int .i64 leaf] M) (ZHa M (ZS m leaf xs (m+1)).2 L):=by
  obtain ⟨a0,hsh⟩:=hg.shape
  by_cases h0:xs=[]
  · subst h0
    have h3:Zj M 3 v=some (0,[]):=by
      rcases hg with ⟨e,_,_⟩ | ⟨l,css,Ls,e,_⟩
      · cases e; rfl
      · cases e; simp [Zj]
    obtain ⟨p,e,vr,La,q1,q2,q3,q4,q5⟩:=ZjJ M v m leaf ⟨_,_,hsh⟩ h3 hm
    obtain ⟨a,rfl⟩:=q3.shape
    obtain ⟨K,o,hs⟩:=q3.own
    refine ⟨p,e,_,_,a,_,_,K,q1,⟨none,.inl rfl⟩,rfl,q2,?_,hs.nodup q4,fun j hj=>⟨.inr (q5 j (hs.subset hj)),q3.lt j (hs.subset hj)⟩⟩
    rw [ZkF]
    exact o
  · rcases hg with ⟨_,e,_⟩ | ⟨l,css,Ls,e,hb,h1,h2,h3,rfl⟩
    · exact absurd e h0
    cases e
    have hfst:(css.zip xs).map (·.1)=css:=List.map_fst_zip (by omega)
    have hsnd:(css.zip xs).map (·.2)=xs:=List.map_snd_zip (by omega)
    have hlen:(css.zip xs).length=xs.length:=by rw [List.length_zip]; omega
    have hP:∀ (i:Nat) (z:List V × Za.D) (K:List Nat),(css.zip xs)[i]?=some z→Ls[i]?=some K→Gr Za M z.1 z.2 K:=by
      intro i z K hz hK
      obtain ⟨hi,rfl⟩:=List.getElem?_eq_some_iff.1 hz
      rw [List.getElem_zip]
      rw [List.length_zip] at hi
      exact h3 i _ _ K (List.getElem?_eq_getElem (by omega)) (List.getElem?_eq_getElem (by omega)) hK
    have hz2:∀ z ∈ css.zip xs,Rep Za M z.1 z.2:=by
      intro z hz
      obtain ⟨i,hi,rfl⟩:=List.getElem_of_mem hz
      exact (hP i _ (Ls[i]'(by omega)) (List.getElem?_eq_getElem hi) (List.getElem?_eq_getElem _)).rep
    have hfl:css.flatten.length=xs.length * 3:=by
      rw [YP (w:=3),h1]
      exact Gr.els h1 h2 h3
    have hsc:Zj M 3 (.slice (some ⟨l,0,none⟩) xs.length xs.length)=some ((css.zip xs).length,Zl (css.zip xs)):=by
      have hw:Za.w=3:=rfl
      rw [hw] at hb
      have hpos:=List.length_pos_iff.2 h0
      unfold Zl
      rw [hfst,hlen]
      have hne:¬ xs.length * 3=0:=by omega
      simp only [Zj,hne,if_false,rdn,hb]
      rw [if_pos (by first | exact ⟨.inr rfl,by omega⟩ | exact ⟨.inr trivial,by omega⟩),List.drop_zero,← hfl,List.take_length]
      rfl
    have hne:css.zip xs ≠ []:=fun h=>by rw [h] at hlen; exact h0 (List.length_eq_zero_iff.1 hlen.symm)
    obtain ⟨p,e,vp,l2,Lp,cells,q1,q2,q3,q4,q5,q6,q7,q8,q9⟩:=Zji M _ (css.zip xs) m leaf ⟨_,_,by rw [hlen]⟩ hz2 hsc hm hlf (by rw [hsnd]; exact hL) (by omega) hne
    rw [ZoC m leaf xs (css.zip xs) hsnd hd]
    obtain ⟨ap,rfl⟩:=q3.shape
    have hsub:=(Zk2 m leaf (css.zip xs) (m+1)).1
    generalize (ZeW m leaf (css.zip xs) (m+1)).2=ys at *
    obtain ⟨Ks,k1,k2,k3⟩:=ZBS (P:=fun (z:List V × Za.D) K=>Gr Za M z.1 z.2 K) hsub (by omega) hP
    obtain ⟨Os,o1,o2⟩:=ZkI (P:=fun i K (K':List Nat)=>List.Sublist K' K∧∀ z,ys[i]?=some z→Own Za M z.1 z.2 K') Ks (fun i K hK=>by
      have hi:i < ys.length:=by rw [← k1]; exact (List.getElem?_eq_some_iff.1 hK).1
      obtain ⟨K',o,hs⟩:=(k3 i _ K (List.getElem?_eq_getElem hi) hK).own
      refine ⟨K',hs,fun z hz=>?_⟩
      rw [List.getElem?_eq_getElem hi] at hz
      cases hz
      exact o)
    have hOs:List.Sublist Os.flatten Ks.flatten:=ZqA o1 fun i a b ha hb=>(o2 i b a hb ha).1
    have hll:=List.nodup_cons.1 hnd
    have hlt:=ZI q7
    have hpl:=q2.length_le
    by_cases hy:ys=[]
    · subst hy
      refine ⟨p,e,_,_,_,_,_,[],q1,⟨ap,.inr ⟨_,rfl⟩⟩,rfl,q2,.inl ⟨rfl,rfl,.inr ⟨l2,0,_,_,[],rfl,q7,.inr (.inl rfl),rfl,rfl,?_,?_⟩⟩,by simp,by simp⟩
      · simp
      · simp
    · refine ⟨p,e,_,_,_,_,_,l2 :: Os.flatten,q1,⟨ap,.inr ⟨_,rfl⟩⟩,rfl,q2,.inr ⟨l2,0,(css.zip xs).length,⟨cells,3,2⟩,ys.map (·.1),Os,by simpa using hy,by rw [List.length_map],q7,rfl,rfl,by simp,by rw [List.length_map]; omega,?_,?_,rfl⟩,?_,?_⟩
      · intro i ds x K hds hx hK
        rw [List.getElem?_map] at hds hx
        obtain ⟨z,hz,rfl⟩:=Option.map_eq_some_iff.1 hds
        rw [hz] at hx
        cases hx
        obtain ⟨hi,_⟩:=List.getElem?_eq_some_iff.1 hK
        exact ((o2 i (Ks[i]'(by omega)) K (List.getElem?_eq_getElem _) hK).2 z hz).grow q2
      · refine Zpv _ cells 0 ?_ ?_
        · intro ds hds
          obtain ⟨z,hz,rfl⟩:=List.mem_map.1 hds
          exact (hz2 z (hsub.subset hz)).len
        · intro q ds hq
          rw [Nat.zero_add]
          refine q9 q ds ?_
          unfold hdf
          rw [List.getElem?_map] at hq
          exact hq
      · refine List.nodup_cons.2 ⟨fun hm2=>?_,(hOs.trans k2).nodup hll.2⟩
        have h5:l2 ∈ l :: Ls.flatten:=List.mem_cons_of_mem _ ((hOs.trans k2).subset hm2)
        have hgr:Gr (.sl Za) M [.slice (some ⟨l,0,none⟩) xs.length xs.length] xs (l :: Ls.flatten):=.inr ⟨l,css,Ls,rfl,hb,h1,h2,h3,rfl⟩
        have:=hgr.lt l2 h5
        omega
      · intro j hj
        rcases List.mem_cons.1 hj with rfl | hj
        · exact ⟨.inr q6,hlt⟩
        · have h5:j ∈ l :: Ls.flatten:=List.mem_cons_of_mem _ ((hOs.trans k2).subset hj)
          have hgr:Gr (.sl Za) M [.slice (some ⟨l,0,none⟩) xs.length xs.length] xs (l :: Ls.flatten):=.inr ⟨l,css,Ls,rfl,hb,h1,h2,h3,rfl⟩
          have:=hgr.lt j h5
          exact ⟨.inl h5,by omega⟩
def EvB (M:Mem) (plan:List ZB.D) (rest:List Za.D) (L:List Nat) (p:V × Mem):Prop:=∃ vp a c Lp K,p.1=.tuple #[vp,.slice a rest.length c]∧M <+: p.2∧Gr (.sl ZB) p.2 [vp] plan Lp∧(∀ j ∈ Lp,M.length≤j)∧Own (.sl Za) p.2 [.slice a rest.length c] rest K∧K.Nodup∧(∀ j ∈ K,(j ∈ L∨M.length≤j)∧j < p.2.length)∧∀ l o,a=some ⟨l,o,none⟩→M.length≤l
theorem ZqL (M:Mem) (v:V) (xs:List Za.D) (L:List Nat) (m leaf:Nat) (hg:Gr (.sl Za) M [v] xs L) (hnd:L.Nodup) (hm:m≤6) (hlf:leaf < 2 ^ m) (hL:ZzN m xs) (hn:xs.length≤128) (hd:ZD9 xs) :
    Sat (Zb T0 J9 [v,.int .i64 m,.int .i64 leaf] M) (EvB M (ZS m leaf xs (m+1)).1 (ZS m leaf xs (m+1)).2 L):=by
  obtain ⟨p,e,vp,vr,a,k,c,K,q1,_,q2,q3,q4,q5,q6⟩:=ZqK M v xs L m leaf hg hnd hm hlf hL hn hd
  obtain ⟨zs,hzs,hv,hz2,h3⟩:=ZFj hg.rep
  have hzl:zs.length=xs.length:=by rw [← hzs,List.length_map]
  obtain ⟨p',e',vp',a',k',c',Lp,r1,r2,r3,r4,r5⟩:=ZrA M v zs m leaf hv hz2 h3 hm hlf (by rw [hzs]; exact hL) (by omega) (by rw [hzs]; exact hd)
  rw [e] at e'
  cases e'
  rw [hzs] at r3
  rw [q1] at r1
  simp only [Value.tuple.injEq,Array.mk.injEq,List.cons.injEq,and_true] at r1
  obtain ⟨rfl,r1⟩:=r1
  subst q2
  obtain ⟨a2,c2,hs⟩:=q4.rep.slen
  rw [hs] at q4 q1
  refine ⟨p,e,vp,a2,c2,Lp,K,q1,q3,r3,r5,q4,q5,q6,fun l o ea=>?_⟩
  by_cases h0:zs=[]
  · subst h0
    obtain ⟨p3,e3,vr3,La,s1,s2,s3,s4,s5⟩:=ZjJ M v m leaf hv h3 hm
    rw [e] at e3
    cases e3
    rw [q1] at s1
    simp only [Value.tuple.injEq,Array.mk.injEq,List.cons.injEq,and_true] at s1
    obtain ⟨_,rfl⟩:=s1
    subst ea
    rcases s3 with ⟨e4,_⟩ | ⟨l4,css,Ls,e4,hb4,_,_,_,hL4⟩
    · simp at e4
    · simp only [List.cons.injEq,Value.slice.injEq,Option.some.injEq,Addr.mk.injEq,and_true] at e4
      obtain ⟨⟨rfl,_⟩,_⟩:=e4
      exact s5 _ (by rw [hL4]; simp)
  · obtain ⟨p3,e3,vp3,l3,Lp3,cells,s1,s2,s3,s4,s5,s6,_⟩:=Zji M v zs m leaf hv hz2 h3 hm hlf (by rw [hzs]; exact hL) (by omega) h0
    rw [e] at e3
    cases e3
    rw [q1] at s1
    simp only [Value.tuple.injEq,Array.mk.injEq,List.cons.injEq,Value.slice.injEq,and_true] at s1
    obtain ⟨_,ea3,_⟩:=s1
    rw [ea] at ea3
    simp only [Option.some.injEq,Addr.mk.injEq] at ea3
    omega
end GoAm
