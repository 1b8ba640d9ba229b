/- What the functions do that the law reaches. -/
import Derived.Test.YtlniheedmeaeeaaGreatOramDummyt
import Derived.Test.YtlniheedmeaeeaaGreatAmGr
set_option autoImplicit false
set_option linter.unusedVariables false
set_option linter.unusedSimpArgs false
namespace GoAm
open Go
abbrev Zi:Ty:=.sl .u8
abbrev Zf:Ty:=.pr (.int .i64) (.pr (.int .i64) (.int .i64))
instance d_Touch:DecidableEq Zf.D:=Ty.deq Zf
abbrev ZT:Ty:=.pr (.int .i64) (.pr (.sl Zi) (.sl Zf))
theorem Zho {M:Mem} {cs:List V} {x:ZT.D} {L:List Nat} (h:Own ZT M cs x L):∃ (u0 u1:V) (L0 L1:List Nat),cs=[.int .i64 x.1,u0,u1]∧(Lit.int .i64 x.1).wf=true∧Own (.sl Zi) M [u0] x.2.1 L0∧Own (.sl Zf) M [u1] x.2.2 L1∧L=L0++L1:=by
  obtain ⟨c0,d0,K0,J0,rfl,h0,h,rfl⟩:=h
  obtain ⟨⟨rfl,w0⟩,rfl⟩:=h0
  obtain ⟨c1,d1,K1,J1,rfl,h1,h,rfl⟩:=h
  obtain ⟨u0,rfl⟩:∃ u,c1=[u]:=by
    have l0:=Rep.len ((h1).rep)
    exact List.length_eq_one_iff.1 l0
  have r0:=h1
  obtain ⟨u1,rfl⟩:∃ u,d1=[u]:=by
    have l1:=Rep.len ((h).rep)
    exact List.length_eq_one_iff.1 l1
  have r1:=h
  exact ⟨u0,u1,_,_,rfl,w0,r0,r1,by simp⟩
theorem Zep {M:Mem} {x:ZT.D} {u0 u1:V} (w0:(Lit.int .i64 x.1).wf=true) (r0:Rep (.sl Zi) M [u0] x.2.1) (r1:Rep (.sl Zf) M [u1] x.2.2):Rep ZT M [.int .i64 x.1,u0,u1] x:=by
  exact ⟨[.int .i64 x.1],([u0]++[u1]),rfl,⟨rfl,w0⟩,⟨[u0],([u1]),rfl,r0,r1⟩⟩
theorem ZbW {M:Mem} {cs:List V} {x:ZT.D} (h:Rep ZT M cs x):∃ u0 u1:V,cs=[.int .i64 x.1,u0,u1]∧(Lit.int .i64 x.1).wf=true∧Rep (.sl Zi) M [u0] x.2.1∧Rep (.sl Zf) M [u1] x.2.2:=by
  obtain ⟨c0,d0,rfl,h0,h⟩:=h
  obtain ⟨rfl,w0⟩:=h0
  obtain ⟨c1,d1,rfl,h1,h⟩:=h
  obtain ⟨u0,rfl⟩:∃ u,c1=[u]:=by
    have l0:=Rep.len (h1)
    exact List.length_eq_one_iff.1 l0
  have r0:=h1
  obtain ⟨u1,rfl⟩:∃ u,d1=[u]:=by
    have l1:=Rep.len (h)
    exact List.length_eq_one_iff.1 l1
  have r1:=h
  exact ⟨u0,u1,rfl,w0,r0,r1⟩
theorem Zii {M:Mem} {x:ZT.D} {u0 u1:V} {L0 L1:List Nat} (w0:(Lit.int .i64 x.1).wf=true) (r0:Own (.sl Zi) M [u0] x.2.1 L0) (r1:Own (.sl Zf) M [u1] x.2.2 L1):Own ZT M [.int .i64 x.1,u0,u1] x (L0++L1):=by
  have h:Own ZT M [.int .i64 x.1,u0,u1] x _:=⟨[.int .i64 x.1],([u0]++[u1]),_,_,rfl,⟨⟨rfl,w0⟩,rfl⟩,⟨[u0],([u1]),_,_,rfl,r0,r1,rfl⟩,rfl⟩
  simpa only [List.append_nil,List.nil_append,List.append_assoc] using h
abbrev Z7 (x:Zf.D):List V:=[.int .i64 x.1,.int .i64 x.2.1,.int .i64 x.2.2]
theorem ZqT (M:Mem) (x:Zf.D) (h0:(Lit.int .i64 x.1).wf=true) (h1:(Lit.int .i64 x.2.1).wf=true) (h2:(Lit.int .i64 x.2.2).wf=true):Own Zf M (Z7 x) x []:=⟨[.int .i64 x.1],[.int .i64 x.2.1,.int .i64 x.2.2],[],[],rfl,⟨⟨rfl,h0⟩,rfl⟩,⟨[.int .i64 x.2.1],[.int .i64 x.2.2],[],[],rfl,⟨⟨rfl,h1⟩,rfl⟩,⟨⟨rfl,h2⟩,rfl⟩,rfl⟩,rfl⟩
theorem Zu5 {M:Mem} {x:Zf.D} (h:Rep Zf M (Z7 x) x):Own Zf M (Z7 x) x []:=by
  obtain ⟨_,_,_,⟨_,w1⟩,c3,c4,_,⟨_,w2⟩,⟨_,w3⟩⟩:=h
  exact ZqT M x w1 w2 w3
theorem ZlE {M:Mem} {cs:List V} {x:Zf.D} (h:Rep Zf M cs x):cs=Z7 x:=by
  obtain ⟨_,_,rfl,⟨rfl,_⟩,⟨_,_,rfl,⟨rfl,_⟩,⟨rfl,_⟩⟩⟩:=h
  rfl
theorem Zm8 (M:Mem) (x:Zf.D):Zb T0 ZcE [.agg (Z7 x).toArray] M=some (.agg (Z7 x).toArray,M):=by
  rw [Zc ZoL]; unfold Zhh Zko; simp
theorem ZoM:ToF T0 Zf ZcE:=fun M cs x h hb=>by
  obtain rfl:=ZlE h
  exact ⟨M,_,[],List.prefix_refl _,Zm8 M x,Zu5 h,by simp,by simp⟩
def ZCz:List V:=[(.int .i64 0),(.int .i64 0),(.int .i64 0)]
theorem Zoe:ToS T0 Zf Zb4:=ZCq (w:=3) (bytes:=24) (zero:=ZCz) Zos rfl rfl rfl (by decide) ZoM
abbrev ZD:Ty:=.u8
theorem ZhH {M:Mem} {cs:List V} {x:Zi.D} (h:Rep Zi M cs x):∃ u0:V,cs=[u0]∧Rep (.sl ZD) M [u0] x:=by
  obtain ⟨u0,rfl⟩:∃ u,cs=[u]:=by
    have l0:=Rep.len (h)
    exact List.length_eq_one_iff.1 l0
  have r0:=h
  exact ⟨u0,rfl,r0⟩
theorem Zro {M:Mem} {x:Zi.D} {u0:V} {L0:List Nat} (r0:Own (.sl ZD) M [u0] x L0):Own Zi M [u0] x (L0):=by
  have h:Own Zi M [u0] x _:=r0
  simpa only [List.append_nil,List.nil_append,List.append_assoc] using h
theorem Zpy {t:Ty} (hf:∀ (M:Mem) (cs:List V) (x:t.D) (K:List Nat),Own t M cs x K→K=[]) {M:Mem} {v:V} {xs:List t.D} {L:List Nat} (h:Own (.sl t) M [v] xs L):L.Nodup:=by
  rcases ZpP hf h with ⟨_,rfl,_⟩ | ⟨l,_,_,_,_,_,_,_,_,_,rfl⟩ <;> simp
theorem Zol (M:Mem) (cs:List V) (x:ZD.D) (K:List Nat) (h:Own ZD M cs x K):K=[]:=h.2
abbrev Qq (x:ZD.D):List V:=[Y0 x]
def ZmF:List V:=[.int .u8 0]
theorem Zgc {M:Mem} {a:Option Addr} {n c:Nat} {xs:List ZD.D} (h:Rep (.sl ZD) M [.slice a n c] xs) {i:Nat} (hi:i < xs.length):∃ l o,a=some ⟨l,o,none⟩∧Rep ZD M (Qq xs[i]) xs[i]∧rd1 M l (o+i)=some (Y0 xs[i]):=by
  obtain ⟨_,l,o,rfl,cs,hrd,hrep⟩:=Zga h hi
  have hcs:cs=Qq xs[i]:=hrep
  subst hcs
  have hw1:ZD.w=1:=rfl
  rw [hw1,Nat.mul_one] at hrd
  exact ⟨l,o,rfl,hrep,ZjY hrd⟩
theorem ZoT (M:Mem) (a:Option Addr) (c:Nat) (xs:List ZD.D) (h:Rep (.sl ZD) M [.slice a xs.length c] xs) (hn:xs.length≤1048576) (i:Nat) (hi:i < xs.length) :
    lp (Zb T0) Qx JW [.slice a xs.length c,O,O,.slice (some ⟨M.length,0,none⟩) xs.length xs.length,.int .i64 i,O,O,O,O,O,O,O,O,O,O,O,O,O,O,O,O,O] (M++[⟨ZhF Qq ZmF xs i,1,2⟩]) =
    lp (Zb T0) Qx JW [.slice a xs.length c,O,O,.slice (some ⟨M.length,0,none⟩) xs.length xs.length,.int .i64 (i+1:Nat),O,O,O,O,O,O,O,O,O,O,O,O,O,O,O,O,O] (M++[⟨ZhF Qq ZmF xs (i+1),1,2⟩]):=by
  obtain ⟨l,o,rfl,hrep,hrd⟩:=Zgc h hi
  have hrd2:rd1 (M++[⟨ZhF Qq ZmF xs i,1,2⟩]) l (o+i)=some (Y0 xs[i]):=Zhe hrd
  have e2:=ZuH (enc:=Qq) (z:=ZmF) (xs:=xs) (fun x _=>rfl) (i:=i) (by omega)
  have e3:=Zsh (enc:=Qq) (z:=ZmF) (xs:=xs) (fun x _=>rfl) hi
  have e4:ZmF.length=1:=rfl
  rw [e4,Nat.mul_one] at e2 e3
  have e5:i+1≤xs.length:=by omega
  have e6:IntKind.i64.wrap ((i:Int)+1)=i+1:=Zd (by omega) (by omega)
  unfold splice at e3
  simp at e3
  rw [ZiM]; unfold Zc8; simp [hrd2,e2,e3,e5,e6,hi]
theorem ZoO (M:Mem) (v:V) (xs:List ZD.D) (h:Rep (.sl ZD) M [v] xs) (hn:xs.length≤1048576) :
    Zb T0 QU [v] M=some (.slice (some ⟨M.length,0,none⟩) xs.length xs.length,M++[⟨(xs.map Qq).flatten,1,2⟩]):=by
  obtain ⟨a,c,rfl⟩:=h.slen
  have hl:=Zl2 (g:=fun i:Nat=>lp (Zb T0) Qx JW [.slice a xs.length c,O,O,.slice (some ⟨M.length,0,none⟩) xs.length xs.length,.int .i64 i,O,O,O,O,O,O,O,O,O,O,O,O,O,O,O,O,O] (M++[⟨ZhF Qq ZmF xs i,1,2⟩])) (n:=xs.length) fun i hi=>ZoT M a c xs h hn i hi
  simp only [Int.natCast_zero,Int.ofNat_zero,ZrY,ZsZ] at hl
  unfold ZmF at hl
  simp only [Zi6] at hl
  have e1:(xs.length:Int)≤281474976710656:=by omega
  have e2:(xs.length:Int)≤9223372036854775807:=by omega
  rw [Zc ZoY]; unfold Zg8 Zkj; simp [e1,e2]
  rw [hl]
  rw [ZiM]; unfold Zc8; simp
theorem Zqd (M:Mem) (x:ZD.D):Own ZD M (Qq x) x []:=⟨rfl,rfl⟩
theorem Zo9 (M:Mem) (v:V) (xs:List ZD.D) (h:Rep (.sl ZD) M [v] xs) (hn:xs.length≤1048576):∃ M' u L,M <+: M'∧Zb T0 QU [v] M=some (u,M')∧Own (.sl ZD) M' [u] xs L∧∀ l ∈ L,M.length≤l∧l < M'.length:=by
  have e:=ZoO M v xs h hn
  obtain ⟨L,o1,o2⟩:=ZwW (t:=ZD) (M:=M++[⟨(xs.map Qq).flatten,1,2⟩]) (l:=M.length) (c:=xs.length) (enc:=Qq) (ys:=xs) (by simp; rfl) (fun y _=>Zqd _ y)
  exact ⟨_,_,L,List.prefix_append _ _,e,o1,fun l hl=>by rw [o2 l hl]; simp⟩
theorem Zkr:ToS T0 ZD QU:=fun M v xs h hb=>by
  obtain ⟨M',u,L,p,e,o,f⟩:=Zo9 M v xs h hb.1
  exact ⟨M',u,L,p,e,o,Zpy Zol o,f⟩
set_option maxHeartbeats 4000000 in
theorem ZpX:ToF T0 Zi ZfN:=by
  intro M cs x h hb
  obtain ⟨u0,rfl,r0⟩:=ZhH h
  have i0:=ZK r0.one
  show ToG Zi M x _
  rw [Zc Zqr]; unfold ZhW ZkP; simp [apA,i0]
  generalize hx1:Zb T0 QU _ _=x_1
  obtain ⟨M1,v0,K1,rfl,p1,o1,F1⟩:=ToS.at Zkr hx1 (r0.mono (List.prefix_append _ _)) hb
  have f1:=F1.2
  clear hx1
  have b0_1:M1[M.length]?=some ⟨[u0],1,2⟩:=Zh p1 (by simp)
  have b1_1:M1[M.length+1]?=some ⟨[(.slice none 0 0)],1,2⟩:=Zh p1 (by simp)
  have b2_1:M1[M.length+2]?=some ⟨[(.slice none 0 0)],1,2⟩:=Zh p1 (by simp)
  have l_1:=ZI b2_1
  have y1:M <+: M1:=(List.prefix_append _ _).trans p1
  simp only [List.length_append,List.length_cons,List.length_nil] at f1
  have z1:M <+: M1.set (M.length+2) ⟨[v0],1,2⟩:=QQ (by omega) y1
  have q1:=ZK (o1.rep.one)
  have qc1:=Zia o1
  have hb1:(M1.set (M.length+2) ⟨[v0],1,2⟩)[M.length+1]?=some ⟨[(.slice none 0 0)],1,2⟩:=by simp [b1_1]
  have g1:=((o1.set (b2:=⟨[v0],1,2⟩) b2_1 rfl (fun hm=>by have:=f1 _ hm; omega)).set (b2:=⟨[v0],1,2⟩) hb1 rfl (fun hm=>by have:=f1 _ hm; omega))
  have hh:=Zro (x:=x) g1
  try simp only [List.append_assoc] at hh
  obtain ⟨_,_,rfl⟩:=o1.rep.slen
  have gs2:∀ B C:Blk,((M1.set (M.length+2) B).set (M.length+1) C)[M.length+1]?=some C:=fun B C=>List.getElem?_set_self (by rw [List.length_set]; omega)
  simp [apA,b0_1,b1_1,b2_1,ZbN b2_1,gs2,Y1,Z3,Zm7,ZiG,ZhB,Zdj]
  refine ⟨_,_,K1,?_,rfl,?_,?_⟩
  · exact QQ (by omega) (QQ (by omega) y1)
  · first | exact hh | (simp only [List.append_assoc]; exact hh)
  · refine ⟨F1.1,fun l hl=>?_⟩
    have:=F1.2 l hl
    simp only [List.length_append,List.length_cons,List.length_nil,List.length_set] at this ⊢
    omega
theorem ZoW:ToS T0 Zi ZcT:=ZCq (w:=1) (bytes:=24) (zero:=[.slice none 0 0]) ZoG rfl rfl rfl (by decide) ZpX
set_option maxHeartbeats 4000000 in
theorem ZqX:ToF T0 ZT ZeT:=by
  intro M cs x h hb
  obtain ⟨u0,u1,rfl,w0,r0,r1⟩:=ZbW h
  have i0:=ZK r0.one
  have i1:=ZK r1.one
  show ToG ZT M x _
  rw [Zc Zrr]; unfold Zjs ZmE; simp [apA,i0,i1]
  generalize hx1:Zb T0 ZcT _ _=x_1
  obtain ⟨M1,v0,K1,rfl,p1,o1,F1⟩:=ToS.at ZoW hx1 (r0.mono (List.prefix_append _ _)) hb.2.1
  have f1:=F1.2
  clear hx1
  have b0_1:M1[M.length]?=some ⟨[.int .i64 x.1,u0,u1],1,2⟩:=Zh p1 (by simp)
  have b1_1:M1[M.length+1]?=some ⟨[(.int .i64 0),(.slice none 0 0),(.slice none 0 0)],1,2⟩:=Zh p1 (by simp)
  have b2_1:M1[M.length+2]?=some ⟨[.int .i64 x.1,(.slice none 0 0),(.slice none 0 0)],1,2⟩:=Zh p1 (by simp)
  have l_1:=ZI b2_1
  have y1:M <+: M1:=(List.prefix_append _ _).trans p1
  simp only [List.length_append,List.length_cons,List.length_nil] at f1
  have z1:M <+: M1.set (M.length+2) ⟨[.int .i64 x.1,v0,(.slice none 0 0)],1,2⟩:=QQ (by omega) y1
  have q1:=ZK (o1.rep.one)
  have qc1:=Zia o1
  simp [apA,b0_1,b1_1,b2_1,ZbN b2_1,q1,qc1,Y1,Z3,Zm7,ZiG,ZhB,Zdj]
  generalize hx2:Zb T0 Zb4 _ _=x_2
  obtain ⟨M2,v1,K2,rfl,p2,o2,F2⟩:=ToS.at Zoe hx2 (r1.mono z1) hb.2.2
  have f2:=F2.2
  clear hx2
  have b0_2:M2[M.length]?=some ⟨[.int .i64 x.1,u0,u1],1,2⟩:=Zh p2 (by simp [b0_1])
  have b1_2:M2[M.length+1]?=some ⟨[(.int .i64 0),(.slice none 0 0),(.slice none 0 0)],1,2⟩:=Zh p2 (by simp [b1_1])
  have b2_2:M2[M.length+2]?=some ⟨[.int .i64 x.1,v0,(.slice none 0 0)],1,2⟩:=Zh p2 (by simp [l_1])
  have l_2:=ZI b2_2
  have y2:M <+: M2:=z1.trans p2
  simp only [List.length_set] at f2
  have G2:=F1.app (by simp) F2 p1.length_le p2
  have g0_2:=Nat.le_trans p1.length_le (Nat.le_trans (Nat.le_of_eq (List.length_set).symm) p2.length_le)
  have o1:=(o1.set (b2:=⟨[.int .i64 x.1,v0,(.slice none 0 0)],1,2⟩) b2_1 rfl (fun hm=>by have:=f1 _ hm; omega)).grow p2
  have f1:∀ l ∈ K1,M.length+3≤l∧l < M2.length:=fun l hl=>by have:=f1 l hl; have:=p2.length_le; simp only [List.length_set] at this; omega
  have z2:M <+: M2.set (M.length+2) ⟨[.int .i64 x.1,v0,v1],1,2⟩:=QQ (by omega) y2
  have q2:=ZK (o2.rep.one)
  have qc2:=Zia o2
  have hb1:(M2.set (M.length+2) ⟨[.int .i64 x.1,v0,v1],1,2⟩)[M.length+1]?=some ⟨[(.int .i64 0),(.slice none 0 0),(.slice none 0 0)],1,2⟩:=by simp [b1_2]
  have g1:=((o1.set (b2:=⟨[.int .i64 x.1,v0,v1],1,2⟩) b2_2 rfl (fun hm=>by have:=f1 _ hm; omega)).set (b2:=⟨[.int .i64 x.1,v0,v1],1,2⟩) hb1 rfl (fun hm=>by have:=f1 _ hm; omega))
  have g2:=((o2.set (b2:=⟨[.int .i64 x.1,v0,v1],1,2⟩) b2_2 rfl (fun hm=>by have:=f2 _ hm; omega)).set (b2:=⟨[.int .i64 x.1,v0,v1],1,2⟩) hb1 rfl (fun hm=>by have:=f2 _ hm; omega))
  have hh:=Zii (x:=x) w0 g1 g2
  try simp only [List.append_assoc] at hh
  obtain ⟨_,_,rfl⟩:=o1.rep.slen
  obtain ⟨_,_,rfl⟩:=o2.rep.slen
  have gs2:∀ B C:Blk,((M2.set (M.length+2) B).set (M.length+1) C)[M.length+1]?=some C:=fun B C=>List.getElem?_set_self (by rw [List.length_set]; omega)
  simp [apA,b0_2,b1_2,b2_2,ZbN b2_2,gs2,Y1,Z3,Zm7,ZiG,ZhB,Zdj]
  refine ⟨_,_,K1++K2,?_,rfl,?_,?_⟩
  · exact QQ (by omega) (QQ (by omega) y2)
  · first | exact hh | (simp only [List.append_assoc]; exact hh)
  · refine ⟨G2.1,fun l hl=>?_⟩
    have:=G2.2 l hl
    simp only [List.length_append,List.length_cons,List.length_nil,List.length_set] at this ⊢
    omega
abbrev Za:Ty:=.pr (.int .i64) (.pr (.int .i64) (.sl ZD))
instance d_Block:DecidableEq Za.D:=inferInstanceAs (DecidableEq (Int × Int × List UInt8))
abbrev Zx:Ty:=.pr (.int .i64) (.pr (.int .i64) (.pr (.int .i64) (.pr ZT (.sl Za))))
instance d_Oram0:DecidableEq (ZT.D × List Za.D):=inferInstance
instance d_Oram1:DecidableEq (Int × ZT.D × List Za.D):=@instDecidableEqProd _ _ inferInstance d_Oram0
instance d_Oram2:DecidableEq (Int × Int × ZT.D × List Za.D):=@instDecidableEqProd _ _ inferInstance d_Oram1
instance d_Oram:DecidableEq Zx.D:=@instDecidableEqProd _ _ inferInstance d_Oram2
theorem Zdk {M:Mem} {cs:List V} {x:Zx.D} (h:Rep Zx M cs x):∃ u0 u1 u2:V,cs=[.int .i64 x.1,.int .i64 x.2.1,.int .i64 x.2.2.1,.int .i64 x.2.2.2.1.1,u0,u1,u2]∧(Lit.int .i64 x.1).wf=true∧(Lit.int .i64 x.2.1).wf=true∧(Lit.int .i64 x.2.2.1).wf=true∧(Lit.int .i64 x.2.2.2.1.1).wf=true∧Rep (.sl Zi) M [u0] x.2.2.2.1.2.1∧Rep (.sl Zf) M [u1] x.2.2.2.1.2.2∧Rep (.sl Za) M [u2] x.2.2.2.2:=by
  obtain ⟨c0,d0,rfl,h0,h⟩:=h
  obtain ⟨rfl,w0⟩:=h0
  obtain ⟨c1,d1,rfl,h1,h⟩:=h
  obtain ⟨rfl,w1⟩:=h1
  obtain ⟨c2,d2,rfl,h2,h⟩:=h
  obtain ⟨rfl,w2⟩:=h2
  obtain ⟨c3,d3,rfl,h3,h⟩:=h
  obtain ⟨u0,u1,rfl,w3,r0,r1⟩:=ZbW h3
  obtain ⟨u2,rfl⟩:∃ u,d3=[u]:=by
    have l2:=Rep.len (h)
    exact List.length_eq_one_iff.1 l2
  have r2:=h
  exact ⟨u0,u1,u2,rfl,w0,w1,w2,w3,r0,r1,r2⟩
theorem Ze0 {M:Mem} {x:Zx.D} {u0 u1 u2:V} {L0 L1 L2:List Nat} (w0:(Lit.int .i64 x.1).wf=true) (w1:(Lit.int .i64 x.2.1).wf=true) (w2:(Lit.int .i64 x.2.2.1).wf=true) (w3:(Lit.int .i64 x.2.2.2.1.1).wf=true) (r0:Own (.sl Zi) M [u0] x.2.2.2.1.2.1 L0) (r1:Own (.sl Zf) M [u1] x.2.2.2.1.2.2 L1) (r2:Own (.sl Za) M [u2] x.2.2.2.2 L2):Own Zx M [.int .i64 x.1,.int .i64 x.2.1,.int .i64 x.2.2.1,.int .i64 x.2.2.2.1.1,u0,u1,u2] x (L0++L1++L2):=by
  have h:Own Zx M [.int .i64 x.1,.int .i64 x.2.1,.int .i64 x.2.2.1,.int .i64 x.2.2.2.1.1,u0,u1,u2] x _:=⟨[.int .i64 x.1],([.int .i64 x.2.1]++[.int .i64 x.2.2.1]++[.int .i64 x.2.2.2.1.1,u0,u1]++[u2]),_,_,rfl,⟨⟨rfl,w0⟩,rfl⟩,⟨[.int .i64 x.2.1],([.int .i64 x.2.2.1]++[.int .i64 x.2.2.2.1.1,u0,u1]++[u2]),_,_,rfl,⟨⟨rfl,w1⟩,rfl⟩,⟨[.int .i64 x.2.2.1],([.int .i64 x.2.2.2.1.1,u0,u1]++[u2]),_,_,rfl,⟨⟨rfl,w2⟩,rfl⟩,⟨[.int .i64 x.2.2.2.1.1,u0,u1],([u2]),_,_,rfl,(Zii w3 r0 r1),r2,rfl⟩,rfl⟩,rfl⟩,rfl⟩
  simpa only [List.append_nil,List.nil_append,List.append_assoc] using h
theorem YE {M:Mem} {cs:List V} {x:Za.D} (h:Rep Za M cs x):∃ u0:V,cs=[.int .i64 x.1,.int .i64 x.2.1,u0]∧(Lit.int .i64 x.1).wf=true∧(Lit.int .i64 x.2.1).wf=true∧Rep (.sl ZD) M [u0] x.2.2:=by
  obtain ⟨c0,d0,rfl,h0,h⟩:=h
  obtain ⟨rfl,w0⟩:=h0
  obtain ⟨c1,d1,rfl,h1,h⟩:=h
  obtain ⟨rfl,w1⟩:=h1
  obtain ⟨u0,rfl⟩:∃ u,d1=[u]:=by
    have l0:=Rep.len (h)
    exact List.length_eq_one_iff.1 l0
  have r0:=h
  exact ⟨u0,rfl,w0,w1,r0⟩
theorem ZkR {M:Mem} {x:Za.D} {u0:V} {L0:List Nat} (w0:(Lit.int .i64 x.1).wf=true) (w1:(Lit.int .i64 x.2.1).wf=true) (r0:Own (.sl ZD) M [u0] x.2.2 L0):Own Za M [.int .i64 x.1,.int .i64 x.2.1,u0] x (L0):=by
  have h:Own Za M [.int .i64 x.1,.int .i64 x.2.1,u0] x _:=⟨[.int .i64 x.1],([.int .i64 x.2.1]++[u0]),_,_,rfl,⟨⟨rfl,w0⟩,rfl⟩,⟨[.int .i64 x.2.1],([u0]),_,_,rfl,⟨⟨rfl,w1⟩,rfl⟩,r0,rfl⟩,rfl⟩
  simpa only [List.append_nil,List.nil_append,List.append_assoc] using h
set_option maxHeartbeats 4000000 in
theorem Zpj:ToF T0 Za ZeH:=by
  intro M cs x h hb
  obtain ⟨u0,rfl,w0,w1,r0⟩:=YE h
  have i0:=ZK r0.one
  show ToG Za M x _
  rw [Zc Zo1]; unfold Zhd ZkB; simp [apA,i0]
  generalize hx1:Zb T0 QU _ _=x_1
  obtain ⟨M1,v0,K1,rfl,p1,o1,F1⟩:=ToS.at Zkr hx1 (r0.mono (List.prefix_append _ _)) hb.2.2
  have f1:=F1.2
  clear hx1
  have b0_1:M1[M.length]?=some ⟨[.int .i64 x.1,.int .i64 x.2.1,u0],1,2⟩:=Zh p1 (by simp)
  have b1_1:M1[M.length+1]?=some ⟨[(.int .i64 0),(.int .i64 0),(.slice none 0 0)],1,2⟩:=Zh p1 (by simp)
  have b2_1:M1[M.length+2]?=some ⟨[.int .i64 x.1,.int .i64 x.2.1,(.slice none 0 0)],1,2⟩:=Zh p1 (by simp)
  have l_1:=ZI b2_1
  have y1:M <+: M1:=(List.prefix_append _ _).trans p1
  simp only [List.length_append,List.length_cons,List.length_nil] at f1
  have z1:M <+: M1.set (M.length+2) ⟨[.int .i64 x.1,.int .i64 x.2.1,v0],1,2⟩:=QQ (by omega) y1
  have q1:=ZK (o1.rep.one)
  have qc1:=Zia o1
  have hb1:(M1.set (M.length+2) ⟨[.int .i64 x.1,.int .i64 x.2.1,v0],1,2⟩)[M.length+1]?=some ⟨[(.int .i64 0),(.int .i64 0),(.slice none 0 0)],1,2⟩:=by simp [b1_1]
  have g1:=((o1.set (b2:=⟨[.int .i64 x.1,.int .i64 x.2.1,v0],1,2⟩) b2_1 rfl (fun hm=>by have:=f1 _ hm; omega)).set (b2:=⟨[.int .i64 x.1,.int .i64 x.2.1,v0],1,2⟩) hb1 rfl (fun hm=>by have:=f1 _ hm; omega))
  have hh:=ZkR (x:=x) w0 w1 g1
  try simp only [List.append_assoc] at hh
  obtain ⟨_,_,rfl⟩:=o1.rep.slen
  have gs2:∀ B C:Blk,((M1.set (M.length+2) B).set (M.length+1) C)[M.length+1]?=some C:=fun B C=>List.getElem?_set_self (by rw [List.length_set]; omega)
  simp [apA,b0_1,b1_1,b2_1,ZbN b2_1,gs2,Y1,Z3,Zm7,ZiG,ZhB,Zdj]
  refine ⟨_,_,K1,?_,rfl,?_,?_⟩
  · exact QQ (by omega) (QQ (by omega) y1)
  · first | exact hh | (simp only [List.append_assoc]; exact hh)
  · refine ⟨F1.1,fun l hl=>?_⟩
    have:=F1.2 l hl
    simp only [List.length_append,List.length_cons,List.length_nil,List.length_set] at this ⊢
    omega
theorem Zn9:ToS T0 Za ZbP:=ZCq (w:=3) (bytes:=40) (zero:=[.int .i64 0,.int .i64 0,.slice none 0 0]) ZnK rfl rfl rfl (by decide) Zpj
set_option maxHeartbeats 4000000 in
theorem ZfP:ToF T0 Zx Za3:=by
  intro M cs x h hb
  obtain ⟨u0,u1,u2,rfl,w0,w1,w2,w3,r0,r1,r2⟩:=Zdk h
  have i0:=ZK r0.one
  have i1:=ZK r1.one
  have i2:=ZK r2.one
  show ToG Zx M x _
  rw [Zc ZpT]; unfold Zh8 ZlO; simp [apA,i0,i1,i2]
  generalize hx1:Zb T0 ZeT _ _=x_1
  obtain ⟨M1,ds1,K1,rfl,p1,o1,F1⟩:=ToF.at ZqX hx1 ((Zep w3 (r0.mono (List.prefix_append _ _)) (r1.mono (List.prefix_append _ _)))) hb.2.2.2.1
  have f1:=F1.2
  obtain ⟨v0,v1,K1_0,K1_1,rfl,_,o1_0,o1_1,eK1⟩:=Zho o1
  clear hx1
  have b0_1:M1[M.length]?=some ⟨[.int .i64 x.1,.int .i64 x.2.1,.int .i64 x.2.2.1,.int .i64 x.2.2.2.1.1,u0,u1,u2],1,2⟩:=Zh p1 (by simp)
  have b1_1:M1[M.length+1]?=some ⟨[(.int .i64 0),(.int .i64 0),(.int .i64 0),(.int .i64 0),(.slice none 0 0),(.slice none 0 0),(.slice none 0 0)],1,2⟩:=Zh p1 (by simp)
  have b2_1:M1[M.length+2]?=some ⟨[.int .i64 x.1,.int .i64 x.2.1,.int .i64 x.2.2.1,(.int .i64 0),(.slice none 0 0),(.slice none 0 0),(.slice none 0 0)],1,2⟩:=Zh p1 (by simp)
  have l_1:=ZI b2_1
  have y1:M <+: M1:=(List.prefix_append _ _).trans p1
  simp only [List.length_append,List.length_cons,List.length_nil] at f1
  have z1:M <+: M1.set (M.length+2) ⟨[.int .i64 x.1,.int .i64 x.2.1,.int .i64 x.2.2.1,.int .i64 x.2.2.2.1.1,v0,v1,(.slice none 0 0)],1,2⟩:=QQ (by omega) y1
  have q1_0:=ZK (o1_0.rep.one)
  have qc1_0:=Zia o1_0
  have q1_1:=ZK (o1_1.rep.one)
  have qc1_1:=Zia o1_1
  simp [apA,b0_1,b1_1,b2_1,ZbN b2_1,q1_0,q1_1,qc1_0,qc1_1,Y1,Z3,Zm7,ZiG,ZhB,Zdj]
  generalize hx2:Zb T0 ZbP _ _=x_2
  obtain ⟨M2,v2,K2,rfl,p2,o2,F2⟩:=ToS.at Zn9 hx2 (r2.mono z1) hb.2.2.2.2
  have f2:=F2.2
  clear hx2
  have b0_2:M2[M.length]?=some ⟨[.int .i64 x.1,.int .i64 x.2.1,.int .i64 x.2.2.1,.int .i64 x.2.2.2.1.1,u0,u1,u2],1,2⟩:=Zh p2 (by simp [b0_1])
  have b1_2:M2[M.length+1]?=some ⟨[(.int .i64 0),(.int .i64 0),(.int .i64 0),(.int .i64 0),(.slice none 0 0),(.slice none 0 0),(.slice none 0 0)],1,2⟩:=Zh p2 (by simp [b1_1])
  have b2_2:M2[M.length+2]?=some ⟨[.int .i64 x.1,.int .i64 x.2.1,.int .i64 x.2.2.1,.int .i64 x.2.2.2.1.1,v0,v1,(.slice none 0 0)],1,2⟩:=Zh p2 (by simp [l_1])
  have l_2:=ZI b2_2
  have y2:M <+: M2:=z1.trans p2
  simp only [List.length_set] at f2
  have G2:=F1.app (by simp) F2 p1.length_le p2
  have g0_2:=Nat.le_trans p1.length_le (Nat.le_trans (Nat.le_of_eq (List.length_set).symm) p2.length_le)
  have o1:=(o1.set (b2:=⟨[.int .i64 x.1,.int .i64 x.2.1,.int .i64 x.2.2.1,.int .i64 x.2.2.2.1.1,v0,v1,(.slice none 0 0)],1,2⟩) b2_1 rfl (fun hm=>by have:=f1 _ hm; omega)).grow p2
  have f1:∀ l ∈ K1,M.length+3≤l∧l < M2.length:=fun l hl=>by have:=f1 l hl; have:=p2.length_le; simp only [List.length_set] at this; omega
  have z2:M <+: M2.set (M.length+2) ⟨[.int .i64 x.1,.int .i64 x.2.1,.int .i64 x.2.2.1,.int .i64 x.2.2.2.1.1,v0,v1,v2],1,2⟩:=QQ (by omega) y2
  have q2:=ZK (o2.rep.one)
  have qc2:=Zia o2
  have hb1:(M2.set (M.length+2) ⟨[.int .i64 x.1,.int .i64 x.2.1,.int .i64 x.2.2.1,.int .i64 x.2.2.2.1.1,v0,v1,v2],1,2⟩)[M.length+1]?=some ⟨[(.int .i64 0),(.int .i64 0),(.int .i64 0),(.int .i64 0),(.slice none 0 0),(.slice none 0 0),(.slice none 0 0)],1,2⟩:=by simp [b1_2]
  have g1:=((o1.set (b2:=⟨[.int .i64 x.1,.int .i64 x.2.1,.int .i64 x.2.2.1,.int .i64 x.2.2.2.1.1,v0,v1,v2],1,2⟩) b2_2 rfl (fun hm=>by have:=f1 _ hm; omega)).set (b2:=⟨[.int .i64 x.1,.int .i64 x.2.1,.int .i64 x.2.2.1,.int .i64 x.2.2.2.1.1,v0,v1,v2],1,2⟩) hb1 rfl (fun hm=>by have:=f1 _ hm; omega))
  have g2:=((o2.set (b2:=⟨[.int .i64 x.1,.int .i64 x.2.1,.int .i64 x.2.2.1,.int .i64 x.2.2.2.1.1,v0,v1,v2],1,2⟩) b2_2 rfl (fun hm=>by have:=f2 _ hm; omega)).set (b2:=⟨[.int .i64 x.1,.int .i64 x.2.1,.int .i64 x.2.2.1,.int .i64 x.2.2.2.1.1,v0,v1,v2],1,2⟩) hb1 rfl (fun hm=>by have:=f2 _ hm; omega))
  obtain ⟨s1_0,s1_1,H1_0,H1_1,es1,_,j1_0,j1_1,eK1⟩:=Zho g1
  simp only [List.cons.injEq,and_true,true_and] at es1
  obtain ⟨rfl,rfl⟩:=es1
  have hh:=Ze0 (x:=x) w0 w1 w2 w3 j1_0 j1_1 g2
  try simp only [List.append_assoc] at hh
  obtain ⟨s1_0,s1_1,_,_,es1,_,t1_0,t1_1,_⟩:=Zho o1
  simp only [List.cons.injEq,and_true,true_and] at es1
  obtain ⟨rfl,rfl⟩:=es1
  obtain ⟨_,_,rfl⟩:=t1_0.rep.slen
  obtain ⟨_,_,rfl⟩:=t1_1.rep.slen
  obtain ⟨_,_,rfl⟩:=o2.rep.slen
  have gs2:∀ B C:Blk,((M2.set (M.length+2) B).set (M.length+1) C)[M.length+1]?=some C:=fun B C=>List.getElem?_set_self (by rw [List.length_set]; omega)
  simp [apA,b0_2,b1_2,b2_2,ZbN b2_2,gs2,Y1,Z3,Zm7,ZiG,ZhB,Zdj]
  refine ⟨_,_,K1++K2,?_,rfl,?_,?_⟩
  · exact QQ (by omega) (QQ (by omega) y2)
  · first | exact hh | (simp only [List.append_assoc]; exact hh) | (simp only [eK1]; exact hh) | (simp only [eK1,List.append_assoc]; exact hh)
  · refine ⟨G2.1,fun l hl=>?_⟩
    have:=G2.2 l hl
    simp only [List.length_append,List.length_cons,List.length_nil,List.length_set] at this ⊢
    omega
theorem Zwm (x y:Zf.D):decide (x=y)=(decide (x.1=y.1) && (decide (x.2.1=y.2.1) && (decide (x.2.2=y.2.2)))):=by
  obtain ⟨x0,x1,x2⟩:=x
  obtain ⟨y0,y1,y2⟩:=y
  simp
theorem Zo6 (M:Mem) (x y:Zf.D):Zb T0 ZcO [.agg (Z7 x).toArray,.agg (Z7 y).toArray] M=some (.bool (decide (x=y)),M):=by
  rw [Zwm]
  rw [Zc Zpf]; unfold Zhg Zkg; simp
  repeat' ((first | rw [ZnD] | rw [Zl6] | rw [Zoo]); split <;> rename_i hq <;> (have hq2:=hq) <;> (try simp at hq2) <;> (try simp [*]))
theorem ZoE:EqF T0 Zf ZcO:=fun M cs ds x y h h2 hb=>by
  obtain rfl:=ZlE h
  obtain rfl:=ZlE h2
  exact Zo6 M x y
theorem Zop:EqS T0 Zf ZdA:=ZCj (w:=3) ZnJ rfl ZoE
theorem Zkv (M:Mem) (a b:Option Addr) (c d:Nat) (xs ys:List ZD.D) (h:Rep (.sl ZD) M [.slice a xs.length c] xs) (h2:Rep (.sl ZD) M [.slice b ys.length d] ys) (hn:xs.length≤9223372036854775807) (i:Nat) (hi:i < xs.length) (hj:i < ys.length) (he:xs[i]=ys[i]) :
    lp (Zb T0) YI QC [.slice a xs.length c,.slice b ys.length d,O,O,O,.int .i64 i,O,O,O,O,O,O,O,O,O,O,O,O,O,O,O,O,O,O,O,O] M=lp (Zb T0) YI QC [.slice a xs.length c,.slice b ys.length d,O,O,O,.int .i64 (i+1:Nat),O,O,O,O,O,O,O,O,O,O,O,O,O,O,O,O,O,O,O,O] M:=by
  obtain ⟨l,o,rfl,_,hrd⟩:=Zgc h hi
  obtain ⟨l2,o2,rfl,_,hrd2⟩:=Zgc h2 hj
  have e6:IntKind.i64.wrap ((i:Int)+1)=i+1:=Zd (by omega) (by omega)
  rw [Ze9]; unfold Zbb; simp [hrd,hrd2,e6,hi,hj,he,Y0]
theorem Zzo (x y:UInt8):((x.toNat:Int)=(y.toNat:Int))=(x=y):=by
  apply propext
  constructor
  · intro h; exact UInt8.toNat_inj.1 (by omega)
  · rintro rfl; rfl
theorem ZoH (M:Mem) (a b:Option Addr) (c d:Nat) (xs ys:List ZD.D) (h:Rep (.sl ZD) M [.slice a xs.length c] xs) (h2:Rep (.sl ZD) M [.slice b ys.length d] ys) (hn:xs.length≤9223372036854775807) (i:Nat) (hi:i < xs.length) (hj:i < ys.length) (he:xs[i] ≠ ys[i]) (k:ACode) :
    ZjG M [.tmp 4] (Zjx (Ze1 0 (lp (Zb T0) YI QC [.slice a xs.length c,.slice b ys.length d,O,O,O,.int .i64 i,O,O,O,O,O,O,O,O,O,O,O,O,O,O,O,O,O,O,O,O] M)) (Zb T0) k)=some (.bool false,M):=by
  obtain ⟨l,o,rfl,_,hrd⟩:=Zgc h hi
  obtain ⟨l2,o2,rfl,_,hrd2⟩:=Zgc h2 hj
  have hne:¬ (((xs[i]:UInt8).toNat:Int)=((ys[i]:UInt8).toNat:Int)):=by rw [Zzo]; exact he
  rw [Ze9]; unfold Zbb; simp [hrd,hrd2,hi,hj,hne,Y0]
theorem ZoR (M:Mem) (v u:V) (xs ys:List ZD.D) (h:Rep (.sl ZD) M [v] xs) (h2:Rep (.sl ZD) M [u] ys) (hn:xs.length≤9223372036854775807):Zb T0 Zbl [v,u] M=some (.bool (decide (xs=ys)),M):=by
  obtain ⟨a,c,rfl⟩:=h.slen
  obtain ⟨b,d,rfl⟩:=h2.slen
  by_cases hl:xs.length=ys.length
  · rcases Zsb hl with he | ⟨j,hj,h3,h4⟩
    · subst he
      have hc:=Zl2 (g:=fun i:Nat=>lp (Zb T0) YI QC [.slice a xs.length c,.slice b xs.length d,O,O,O,.int .i64 i,O,O,O,O,O,O,O,O,O,O,O,O,O,O,O,O,O,O,O,O] M) (n:=xs.length) fun i hi=>Zkv M a b c d xs xs h h2 hn i hi hi rfl
      simp only [Int.natCast_zero,Int.ofNat_zero] at hc
      rw [Zc Zhm]; unfold ZcL ZeB; simp [hc]
      rw [Ze9]; unfold Zbb; simp
    · have hc:=Zl2 (g:=fun i:Nat=>lp (Zb T0) YI QC [.slice a xs.length c,.slice b ys.length d,O,O,O,.int .i64 i,O,O,O,O,O,O,O,O,O,O,O,O,O,O,O,O,O,O,O,O] M) (n:=j) fun i hi=>Zkv M a b c d xs ys h h2 hn i (by omega) (by omega) (h3 i (by omega) hi)
      simp only [Int.natCast_zero,Int.ofNat_zero] at hc
      have hx:=ZoH M a b c d xs ys h h2 hn j hj (by omega) h4
      have hne:xs ≠ ys:=fun e=>h4 (by simp [e])
      simp only [← hl] at hc hx
      simp only [← hl]
      rw [Zc Zhm]; unfold ZcL ZeB; simp [hc,hx,hne]
  · have hne:xs ≠ ys:=fun e=>hl (by rw [e])
    have hl2:¬ ((xs.length:Int)=ys.length):=by omega
    rw [Zc Zhm]; unfold ZcL ZeB; simp [hl2,hl,hne]
theorem Zkp:EqS T0 ZD Zbl:=fun M v u xs ys h h2 hb=>ZoR M v u xs ys h h2 (Nat.le_trans hb.1 (by decide))
set_option maxHeartbeats 4000000 in
theorem Zqk:EqF T0 Zi ZfA:=by
  intro M cs ds x y h h2 hb
  obtain ⟨u0,rfl,r0⟩:=ZhH h
  obtain ⟨v0,rfl,s0⟩:=ZhH h2
  try dsimp only at *
  have e0:=Zkp (M++[⟨[u0],1,2⟩,⟨[v0],1,2⟩]) _ _ x y (r0.mono (List.prefix_append _ _)) (s0.mono (List.prefix_append _ _)) hb
  have i0:=ZK r0.one
  have j0:=ZK s0.one
  by_cases q0:x=y
  rotate_left
  · have hne:=q0
    refine Zm6 hne ?_
    have e0:=(Zfz e0).2 q0
    rw [Zc ZkT]; unfold ZfM ZhQ; simp [apA,i0,j0,e0]
  have e0:=(Zfz e0).1 q0
  have he:=q0
  refine ZAU he ?_
  rw [Zc ZkT]; unfold ZfM ZhQ; simp [apA,i0,j0,e0]
theorem ZoJ:EqS T0 Zi ZeI:=ZCj (w:=1) ZoS rfl Zqk
set_option maxHeartbeats 4000000 in
theorem ZrJ:EqF T0 ZT ZgN:=by
  intro M cs ds x y h h2 hb
  obtain ⟨a0,a1,a2⟩:=x
  obtain ⟨b0,b1,b2⟩:=y
  obtain ⟨u0,u1,rfl,w0,r0,r1⟩:=ZbW h
  obtain ⟨v0,v1,rfl,_w0,s0,s1⟩:=ZbW h2
  try dsimp only at *
  have e1:=ZoJ (M++[⟨[.int .i64 a0,u0,u1],1,2⟩,⟨[.int .i64 b0,v0,v1],1,2⟩]) _ _ a1 b1 (r0.mono (List.prefix_append _ _)) (s0.mono (List.prefix_append _ _)) hb.2.1
  have e2:=Zop (M++[⟨[.int .i64 a0,u0,u1],1,2⟩,⟨[.int .i64 b0,v0,v1],1,2⟩]) _ _ a2 b2 (r1.mono (List.prefix_append _ _)) (s1.mono (List.prefix_append _ _)) hb.2.2
  have i0:=ZK r0.one
  have i1:=ZK r1.one
  have j0:=ZK s0.one
  have j1:=ZK s1.one
  by_cases q0:a0=b0
  rotate_left
  · have hne:¬ ((a0,a1,a2):ZT.D)=(b0,b1,b2):=fun e=>q0 (by simp only [Prod.mk.injEq] at e; simp only [e])
    refine Zm6 hne ?_
    rw [Zc ZgR]; unfold Zdp ZeX; simp [apA,i0,i1,j0,j1,q0]
  subst q0
  by_cases q1:a1=b1
  rotate_left
  · have hne:¬ ((a0,a1,a2):ZT.D)=(a0,b1,b2):=fun e=>q1 (by simp only [Prod.mk.injEq] at e; simp only [e])
    refine Zm6 hne ?_
    have e1:=(Zfz e1).2 q1
    rw [Zc ZgR]; unfold Zdp ZeX; simp [apA,i0,i1,j0,j1,e1]
  have e1:=(Zfz e1).1 q1
  by_cases q2:a2=b2
  rotate_left
  · have hne:¬ ((a0,a1,a2):ZT.D)=(a0,b1,b2):=fun e=>q2 (by simp only [Prod.mk.injEq] at e; simp only [e])
    refine Zm6 hne ?_
    have e2:=(Zfz e2).2 q2
    rw [Zc ZgR]; unfold Zdp ZeX; simp [apA,i0,i1,j0,j1,e1,e2]
  have e2:=(Zfz e2).1 q2
  have he:((a0,a1,a2):ZT.D)=(a0,b1,b2):=by simp only [q1,q2]
  refine ZAU he ?_
  rw [Zc ZgR]; unfold Zdp ZeX; simp [apA,i0,i1,j0,j1,e1,e2]
set_option maxHeartbeats 4000000 in
theorem Zpm:EqF T0 Za ZeJ:=by
  intro M cs ds x y h h2 hb
  obtain ⟨a0,a1,a2⟩:=x
  obtain ⟨b0,b1,b2⟩:=y
  obtain ⟨u0,rfl,w0,w1,r0⟩:=YE h
  obtain ⟨v0,rfl,_w0,_w1,s0⟩:=YE h2
  try dsimp only at *
  have e2:=Zkp (M++[⟨[.int .i64 a0,.int .i64 a1,u0],1,2⟩,⟨[.int .i64 b0,.int .i64 b1,v0],1,2⟩]) _ _ a2 b2 (r0.mono (List.prefix_append _ _)) (s0.mono (List.prefix_append _ _)) hb.2.2
  have i0:=ZK r0.one
  have j0:=ZK s0.one
  by_cases q0:a0=b0
  rotate_left
  · have hne:¬ ((a0,a1,a2):Za.D)=(b0,b1,b2):=fun e=>q0 (by simp only [Prod.mk.injEq] at e; simp only [e])
    refine Zm6 hne ?_
    rw [Zc Zew]; unfold Zbp ZcN; simp [apA,i0,j0,q0]
  subst q0
  by_cases q1:a1=b1
  rotate_left
  · have hne:¬ ((a0,a1,a2):Za.D)=(a0,b1,b2):=fun e=>q1 (by simp only [Prod.mk.injEq] at e; simp only [e])
    refine Zm6 hne ?_
    rw [Zc Zew]; unfold Zbp ZcN; simp [apA,i0,j0,q1]
  subst q1
  by_cases q2:a2=b2
  rotate_left
  · have hne:¬ ((a0,a1,a2):Za.D)=(a0,a1,b2):=fun e=>q2 (by simp only [Prod.mk.injEq] at e; simp only [e])
    refine Zm6 hne ?_
    have e2:=(Zfz e2).2 q2
    rw [Zc Zew]; unfold Zbp ZcN; simp [apA,i0,j0,e2]
  have e2:=(Zfz e2).1 q2
  have he:((a0,a1,a2):Za.D)=(a0,a1,b2):=by simp only [q2]
  refine ZAU he ?_
  rw [Zc Zew]; unfold Zbp ZcN; simp [apA,i0,j0,e2]
theorem ZnZ:EqS T0 Za ZdI:=ZCj (w:=3) ZnG rfl Zpm
set_option maxHeartbeats 4000000 in
theorem ZfQ:EqF T0 Zx Za0:=by
  intro M cs ds x y h h2 hb
  obtain ⟨a0,a1,a2,a3,a4⟩:=x
  obtain ⟨b0,b1,b2,b3,b4⟩:=y
  obtain ⟨u0,u1,u2,rfl,w0,w1,w2,w3,r0,r1,r2⟩:=Zdk h
  obtain ⟨v0,v1,v2,rfl,_w0,_w1,_w2,_w3,s0,s1,s2⟩:=Zdk h2
  try dsimp only at *
  have e3:=ZrJ (M++[⟨[.int .i64 a0,.int .i64 a1,.int .i64 a2,.int .i64 a3.1,u0,u1,u2],1,2⟩,⟨[.int .i64 b0,.int .i64 b1,.int .i64 b2,.int .i64 b3.1,v0,v1,v2],1,2⟩]) _ _ a3 b3 ((Zep w3 (r0.mono (List.prefix_append _ _)) (r1.mono (List.prefix_append _ _)))) ((Zep _w3 (s0.mono (List.prefix_append _ _)) (s1.mono (List.prefix_append _ _)))) hb.2.2.2.1
  have e4:=ZnZ (M++[⟨[.int .i64 a0,.int .i64 a1,.int .i64 a2,.int .i64 a3.1,u0,u1,u2],1,2⟩,⟨[.int .i64 b0,.int .i64 b1,.int .i64 b2,.int .i64 b3.1,v0,v1,v2],1,2⟩]) _ _ a4 b4 (r2.mono (List.prefix_append _ _)) (s2.mono (List.prefix_append _ _)) hb.2.2.2.2
  have i0:=ZK r0.one
  have i1:=ZK r1.one
  have i2:=ZK r2.one
  have j0:=ZK s0.one
  have j1:=ZK s1.one
  have j2:=ZK s2.one
  by_cases q0:a0=b0
  rotate_left
  · have hne:¬ ((a0,a1,a2,a3,a4):Zx.D)=(b0,b1,b2,b3,b4):=fun e=>q0 (by simp only [Prod.mk.injEq] at e; simp only [e])
    refine Zm6 hne ?_
    rw [Zc Zci]; unfold Zad ZaN; simp [apA,i0,i1,i2,j0,j1,j2,q0]
  subst q0
  by_cases q1:a1=b1
  rotate_left
  · have hne:¬ ((a0,a1,a2,a3,a4):Zx.D)=(a0,b1,b2,b3,b4):=fun e=>q1 (by simp only [Prod.mk.injEq] at e; simp only [e])
    refine Zm6 hne ?_
    rw [Zc Zci]; unfold Zad ZaN; simp [apA,i0,i1,i2,j0,j1,j2,q1]
  subst q1
  by_cases q2:a2=b2
  rotate_left
  · have hne:¬ ((a0,a1,a2,a3,a4):Zx.D)=(a0,a1,b2,b3,b4):=fun e=>q2 (by simp only [Prod.mk.injEq] at e; simp only [e])
    refine Zm6 hne ?_
    rw [Zc Zci]; unfold Zad ZaN; simp [apA,i0,i1,i2,j0,j1,j2,q2]
  subst q2
  by_cases q3:a3=b3
  rotate_left
  · have hne:¬ ((a0,a1,a2,a3,a4):Zx.D)=(a0,a1,a2,b3,b4):=fun e=>q3 (by simp only [Prod.mk.injEq] at e; simp only [e])
    refine Zm6 hne ?_
    have e3:=(Zfz e3).2 q3
    rw [Zc Zci]; unfold Zad ZaN; simp [apA,i0,i1,i2,j0,j1,j2,e3]
  have e3:=(Zfz e3).1 q3
  by_cases q4:a4=b4
  rotate_left
  · have hne:¬ ((a0,a1,a2,a3,a4):Zx.D)=(a0,a1,a2,b3,b4):=fun e=>q4 (by simp only [Prod.mk.injEq] at e; simp only [e])
    refine Zm6 hne ?_
    have e4:=(Zfz e4).2 q4
    rw [Zc Zci]; unfold Zad ZaN; simp [apA,i0,i1,i2,j0,j1,j2,e3,e4]
  have e4:=(Zfz e4).1 q4
  have he:((a0,a1,a2,a3,a4):Zx.D)=(a0,a1,a2,b3,b4):=by simp only [q3,q4]
  refine ZAU he ?_
  rw [Zc Zci]; unfold Zad ZaN; simp [apA,i0,i1,i2,j0,j1,j2,e3,e4]
def ZpL (x:Zf.D):Int:=0
def ZeY:List Zf.D→Int
  | []=>0
  | x :: xs=>ZpL x+ZeY xs
theorem Zlw:∀ xs,0≤ZeY xs
  | []=>by simp [ZeY]
  | x :: xs=>by have:=Zlw xs; unfold ZeY ZpL; omega
theorem Zoq (M:Mem) (v:V) (xs:List Zf.D) (h:Rep (.sl Zf) M [v] xs) (left:Int) (h0:0≤left) (h1:left≤1048576) (hx:xs.length≤9223372036854775807) :
    ∃ l:Int,Zb T0 Zb8 [v,.int .i64 left] M=some (.int .i64 l,M)∧(0≤l→xs.length+ZeY xs+l≤left):=by
  obtain ⟨a,c,rfl⟩:=h.slen
  have e0:IntKind.i64.wrap (left - xs.length)=left - xs.length:=Zd (by omega) (by omega)
  have hz:ZeY xs=0:=by
    have:∀ xs,ZeY xs=0:=fun xs=>by induction xs with | nil=>rfl | cons x xs ih=>simp [ZeY,ZpL,ih]
    exact this xs
  by_cases hc:left - (xs.length:Int) < 0
  · refine ⟨-1,?_,by omega⟩
    rw [Zc ZjK]; unfold ZdV Zgq; simp [e0,hc]
  · refine ⟨left - xs.length,?_,by omega⟩
    rw [Zc ZjK]; unfold ZdV Zgq; simp [e0,hc]
theorem Zoz:SzS T0 Zf Zb8:=fun M v xs left h hb h0 h1=>by
  obtain ⟨l,e,f⟩:=Zoq M v xs h left h0 h1 hb.1
  have hp:=Zlw xs
  refine ⟨l,?_,e,fun hl=>⟨?_,fun _ _=>⟨trivial,trivial,trivial⟩⟩⟩
  · by_cases hl:0≤l
    · have:=f hl; omega
    · omega
  · have:=f hl; omega
theorem ZkC:SzS T0 ZD ZcJ:=fun M v xs left h hb h0 h1=>by
  obtain ⟨a,c,rfl⟩:=h.slen
  have hx:xs.length≤9223372036854775807:=hb.1
  have e:IntKind.i64.wrap (left - (xs.length:Int))=left - xs.length:=Zd (by omega) (by omega)
  by_cases hl:left - (xs.length:Int) < 0
  · refine ⟨-1,by omega,?_,by omega⟩
    have hl2:left < (xs.length:Int):=by omega
    rw [Zc ZkA]; unfold ZeF Zg0; simp [e,hl,hl2]
  · refine ⟨left - xs.length,by omega,?_,fun _=>⟨by omega,fun _ _=>trivial⟩⟩
    have hl2:¬ left < (xs.length:Int):=by omega
    rw [Zc ZkA]; unfold ZeF Zg0; simp [e,hl,hl2]
theorem ZpJ:SzF T0 Zi ZfW:=by
  intro M cs x left h hb h0 h1
  obtain ⟨u0,rfl,r0⟩:=ZhH h
  have i0:=ZK r0.one
  obtain ⟨l0,a0,e0,g0⟩:=ZkC (M++[⟨[u0],1,2⟩]) _ _ left (r0.mono (List.prefix_append _ _)) hb (by omega) (by omega)
  by_cases h_0:l0 < 0
  · refine ⟨-1,by omega,?_,by omega⟩
    rw [Zc ZkY]; unfold ZfK ZhX; simp [apA,i0,e0,h_0]
  refine ⟨l0,by omega,?_,fun _=>g0 (by omega)⟩
  rw [Zc ZkY]; unfold ZfK ZhX; simp [apA,i0,e0,h_0]
theorem Zpp:SzS T0 Zi ZeC:=ZFg (w:=1) Zo5 rfl ZpJ
theorem ZqI:SzF T0 ZT ZgE:=by
  intro M cs x left h hb h0 h1
  obtain ⟨u0,u1,rfl,w0,r0,r1⟩:=ZbW h
  have i0:=ZK r0.one
  have i1:=ZK r1.one
  obtain ⟨l0,a0,e0,g0⟩:=Zpp (M++[⟨[.int .i64 x.1,u0,u1],1,2⟩]) _ _ left (r0.mono (List.prefix_append _ _)) hb.2.1 (by omega) (by omega)
  by_cases h_0:l0 < 0
  · refine ⟨-1,by omega,?_,by omega⟩
    rw [Zc ZjO]; unfold ZeR ZgT; simp [apA,i0,i1,e0,h_0]
  obtain ⟨l1,a1,e1,g1⟩:=Zoz (M++[⟨[.int .i64 x.1,u0,u1],1,2⟩]) _ _ l0 (r1.mono (List.prefix_append _ _)) hb.2.2 (by omega) (by omega)
  by_cases h_1:l1 < 0
  · refine ⟨-1,by omega,?_,by omega⟩
    rw [Zc ZjO]; unfold ZeR ZgT; simp [apA,i0,i1,e0,h_0,e1,h_1]
  refine ⟨l1,by omega,?_,fun _=>⟨trivial,g0 (by omega),g1 (by omega)⟩⟩
  rw [Zc ZjO]; unfold ZeR ZgT; simp [apA,i0,i1,e0,h_0,e1,h_1]
theorem Zpo:SzF T0 Za ZeO:=by
  intro M cs x left h hb h0 h1
  obtain ⟨u0,rfl,w0,w1,r0⟩:=YE h
  have i0:=ZK r0.one
  obtain ⟨l0,a0,e0,g0⟩:=ZkC (M++[⟨[.int .i64 x.1,.int .i64 x.2.1,u0],1,2⟩]) _ _ left (r0.mono (List.prefix_append _ _)) hb.2.2 (by omega) (by omega)
  by_cases h_0:l0 < 0
  · refine ⟨-1,by omega,?_,by omega⟩
    rw [Zc Zkd]; unfold Zex Zhi; simp [apA,i0,e0,h_0]
  refine ⟨l0,by omega,?_,fun _=>⟨trivial,trivial,g0 (by omega)⟩⟩
  rw [Zc Zkd]; unfold Zex Zhi; simp [apA,i0,e0,h_0]
theorem Zn4:SzS T0 Za ZdP:=ZFg (w:=3) ZnR rfl Zpo
theorem Zqz:SzF T0 Zx ZfY:=by
  intro M cs x left h hb h0 h1
  obtain ⟨u0,u1,u2,rfl,w0,w1,w2,w3,r0,r1,r2⟩:=Zdk h
  have i0:=ZK r0.one
  have i1:=ZK r1.one
  have i2:=ZK r2.one
  obtain ⟨l0,a0,e0,g0⟩:=ZqI (M++[⟨[.int .i64 x.1,.int .i64 x.2.1,.int .i64 x.2.2.1,.int .i64 x.2.2.2.1.1,u0,u1,u2],1,2⟩]) _ _ left ((Zep w3 (r0.mono (List.prefix_append _ _)) (r1.mono (List.prefix_append _ _)))) hb.2.2.2.1 (by omega) (by omega)
  by_cases h_0:l0 < 0
  · refine ⟨-1,by omega,?_,by omega⟩
    rw [Zc Zib]; unfold ZdC ZfB; simp [apA,i0,i1,i2,e0,h_0]
  obtain ⟨l1,a1,e1,g1⟩:=Zn4 (M++[⟨[.int .i64 x.1,.int .i64 x.2.1,.int .i64 x.2.2.1,.int .i64 x.2.2.2.1.1,u0,u1,u2],1,2⟩]) _ _ l0 (r2.mono (List.prefix_append _ _)) hb.2.2.2.2 (by omega) (by omega)
  by_cases h_1:l1 < 0
  · refine ⟨-1,by omega,?_,by omega⟩
    rw [Zc Zib]; unfold ZdC ZfB; simp [apA,i0,i1,i2,e0,h_0,e1,h_1]
  refine ⟨l1,by omega,?_,fun _=>⟨trivial,trivial,trivial,g0 (by omega),g1 (by omega)⟩⟩
  rw [Zc Zib]; unfold ZdC ZfB; simp [apA,i0,i1,i2,e0,h_0,e1,h_1]
abbrev ZbQ (xs:List Zf.D):Int:=3 * (xs.length:Int)
def gtS {D:Type} (tot:D→Int):List D→Int
  | []=>0
  | x :: xs=>tot x+gtS tot xs
abbrev ZaW (xs:List ZD.D):Int:=(xs.length:Int)
abbrev Yy (x:Zi.D):Int:=ZaW x
abbrev ZbK (xs:List Zi.D):Int:=gtS Yy xs
def ZeZ (x:ZT.D):Int:=ZbK x.2.1+ZbQ x.2.2
abbrev YC (x:Za.D):Int:=2+ZaW x.2.2
abbrev ZcC (xs:List Za.D):Int:=gtS YC xs
def Zg1 (x:Zx.D):Int:=ZeZ x.2.2.2.1+ZcC x.2.2.2.2
theorem ZlV:ZFb (.sl Zf) ZbQ 5000000:=fun xs hb=>by have:=hb.1; unfold ZbQ; omega
theorem ZrB {D:Type} {tot:D→Int} {B:Int} {xs:List D} (h:∀ x ∈ xs,0≤tot x∧tot x≤B):0≤gtS tot xs∧gtS tot xs≤xs.length * B:=by
  induction xs with
  | nil=>simp [gtS]
  | cons x xs ih =>
    have h1:=h x (by simp)
    have h2:=ih (fun y hy=>h y (by simp [hy]))
    have e:((x :: xs).length:Int) * B=B+xs.length * B:=by
      rw [List.length_cons,Int.natCast_add,Int.add_mul]
      simp
      omega
    rw [e]
    unfold gtS
    omega
theorem Zn3:ZFb (.sl Zi) ZbK 1099511627776:=fun xs hb=>by
  have h:=ZrB (tot:=Yy) (B:=1048576) (xs:=xs) (fun x hx=>by
    have:=(hb.2 x hx).1
    show 0≤(List.length (α:=UInt8) x:Int)∧(List.length (α:=UInt8) x:Int)≤1048576
    omega)
  have h1:=hb.1
  show 0≤gtS Yy xs∧gtS Yy xs≤1099511627776
  omega
theorem ZsU:ZFb ZT ZeZ (1100000000000+5000000):=fun x hb=>by
  have t0:=Zn3 _ hb.2.1
  have t1:=ZlV _ hb.2.2
  unfold ZeZ
  omega
theorem Zi5 {x:Za.D} (h:List.length (α:=UInt8) x.2.2≤1048576):2≤YC x∧YC x≤1048578:=by
  show 2≤2+(List.length (α:=UInt8) x.2.2:Int)∧2+(List.length (α:=UInt8) x.2.2:Int)≤1048578
  omega
theorem Zmf:ZFb (.sl Za) ZcC 1099514000000:=fun xs hb=>by
  have h:=ZrB (tot:=YC) (B:=1048578) (xs:=xs) (fun x hx=>by
    have:=Zi5 (hb.2 x hx).2.2.1
    omega)
  have h1:=hb.1
  show 0≤gtS YC xs∧gtS YC xs≤1099514000000
  omega
theorem ZtZ:ZFb Zx Zg1 (1100005000000+1100000000000):=fun x hb=>by
  have t0:=ZsU _ hb.2.2.2.1
  have t1:=Zmf _ hb.2.2.2.2
  unfold Zg1
  omega
def ZjZ (k:Int):Zf.D:=(k,k+1,k+2)
def JE (k:Int) (n:Nat):List Zf.D:=(List.range n).map fun (j:Nat)=>ZjZ (k+3 * (j:Int))
abbrev ZnL (k:Int) (xs:List Zf.D):List Zf.D:=JE k xs.length
def gmS {D:Type} (mk:Int→D→D) (tot:D→Int):Int→List D→List D
  | _,[]=>[]
  | k,x :: xs=>mk k x :: gmS mk tot (k+tot x) xs
def mkY (k:Int):UInt8:=UInt8.ofNat (k.toNat % 256)
def Zjr (k:Int) (n:Nat):List ZD.D:=(List.range n).map fun (j:Nat)=>mkY (k+(j:Int))
abbrev Znh (k:Int) (xs:List ZD.D):List ZD.D:=Zjr k xs.length
abbrev Zi8 (k:Int) (x:Zi.D):Zi.D:=Znh k x
abbrev Zni (k:Int) (xs:List Zi.D):List Zi.D:=gmS Zi8 Yy k xs
def Zls (k:Int) (x:ZT.D):ZT.D:=(x.1,Zni (k) x.2.1,ZnL (k+ZbK x.2.1) x.2.2)
theorem Zb9 (k:Int) (n:Nat):(JE k n).length=n:=by simp [JE]
theorem Zjh (k:Int) (n i:Nat) (hi:i < (JE k n).length):(JE k n)[i]=ZjZ (k+3 * (i:Int)):=by simp [JE]
def J6 (k:Int) (i:Nat):List V:=((JE k i).map Z7).flatten
theorem Zui (M:Mem) (cs:List V) (x:Zf.D) (K:List Nat) (h:Own Zf M cs x K):K=[]:=by
  obtain ⟨_,_,_,_,_,⟨_,rfl⟩,⟨_,_,_,_,_,⟨_,rfl⟩,⟨_,rfl⟩,rfl⟩,rfl⟩:=h
  rfl
theorem ZpU (k:Int) (i:Nat):(J6 k i).length=i * 3:=by
  unfold J6
  rw [Ze3 (w:=3) (fun x _=>rfl),Zb9]
theorem Zo8 (k:Int) (i:Nat):J6 k (i+1)=J6 k i++[.int .i64 ((k+3 * (i:Int)))]++[.int .i64 ((k+3 * (i:Int))+1)]++[.int .i64 ((k+3 * (i:Int))+2)]:=by
  unfold J6 JE
  rw [List.range_succ]
  simp [ZjZ]
theorem ZlU (M:Mem) (l o n c:Nat) (blk:Blk) (hb:M[l]?=some blk) (h2:blk.st=2) (k:Int) (hk:0 < k) (hk2:k+3 * n≤4611686018427387904) (ho:o+n * 3≤blk.cells.length) (i:Nat) (hi:i < n) :
    lp (Zb T0) Yz QN [.slice (some ⟨l,o,none⟩) n c,.int .i64 (k+3 * (i:Int)),O,O,O,.int .i64 i,O,O,O,O,O,O,O,O,O,O,O,O,O,O,O,O,O,O,O,O,O,O,O,O,O,O,O,O] (M.set l (spB blk o (J6 k i))) =
    lp (Zb T0) Yz QN [.slice (some ⟨l,o,none⟩) n c,.int .i64 (k+3 * ((i+1:Nat):Int)),O,O,O,.int .i64 (i+1:Nat),O,O,O,O,O,O,O,O,O,O,O,O,O,O,O,O,O,O,O,O,O,O,O,O,O,O,O,O] (M.set l (spB blk o (J6 k (i+1)))):=by
  have el:=ZpU k i
  obtain ⟨q,hq⟩:∃ q,q=k+3 * (i:Int):=⟨_,rfl⟩
  have e0:=Zrt M l o blk hb h2 (J6 k i) (.int .i64 (q)) rfl (by rw [el]; omega)
  have e1:=Zrt M l o blk hb h2 (J6 k i++[.int .i64 (q)]) (.int .i64 (q+1)) rfl (by simp only [List.length_append,List.length_cons,List.length_nil,el]; omega)
  have e2:=Zrt M l o blk hb h2 (J6 k i++[.int .i64 (q)]++[.int .i64 (q+1)]) (.int .i64 (q+2)) rfl (by simp only [List.length_append,List.length_cons,List.length_nil,el]; omega)
  have es:=Zo8 k i
  rw [← hq] at es
  rw [← es] at e2
  simp only [List.length_append,List.length_cons,List.length_nil,el,Nat.zero_add,Nat.add_assoc,Nat.reduceAdd,List.append_assoc,List.cons_append,List.nil_append] at e0 e1 e2
  have a1:o+(i * 3+1)=o+i * 3+1:=by omega
  rw [a1] at e1
  have a2:o+(i * 3+2)=o+i * 3+2:=by omega
  rw [a2] at e2
  have f6:IntKind.i64.wrap ((i:Int)+1)=i+1:=Zd (by omega) (by omega)
  have g0:IntKind.i64.wrap (q+1)=q+1:=by rw [Zd (by omega) (by omega)]
  have g1:IntKind.i64.wrap (q+1+1)=q+2:=by rw [Zd (by omega) (by omega)]; omega
  have g2:IntKind.i64.wrap (q+2+1)=k+3 * ((i:Int)+1):=by rw [Zd (by omega) (by omega)]; omega
  rw [← hq]
  rw [Zdh]; unfold JJ; simp [e0,e1,e2,f6,g0,g1,g2,hi]
theorem ZfT {z:Int} (h:-9223372036854775808≤z∧z≤9223372036854775807):(Lit.int .i64 z).wf=true:=by
  simp [Lit.wf,IntKind.min,IntKind.max,IntKind.signed,IntKind.bits]; omega
theorem Zmk (M:Mem) (v:V) (xs:List Zf.D) (L:List Nat) (h:Own (.sl Zf) M [v] xs L) (k:Int) (hk:0 < k) (hk2:k+3 * xs.length≤4611686018427387904) :
    ∃ M',Zb T0 Zay [v,.int .i64 k] M=some (.int .i64 (k+3 * xs.length),M')∧ZfO M M' (· ∈ L)∧Own (.sl Zf) M' [v] (JE k xs.length) L:=by
  rcases ZpP Zui h with ⟨rfl,rfl,hr⟩ | ⟨l,o,c,blk,hx,rfl,hb,h2,hw,ho,rfl⟩
  · refine ⟨M,?_,ZwG (List.prefix_refl _) _,.inl ⟨rfl,rfl,hr⟩⟩
    obtain ⟨a,c,rfl⟩:=hr.slen
    rw [Zc Zhp]; unfold Zcp Zem; simp
    rw [Zdh]; unfold JJ; simp
  · have hw2:Zf.w=3:=rfl
    rw [hw2] at ho
    have hl:=Zl2 (g:=fun i:Nat=>lp (Zb T0) Yz QN [.slice (some ⟨l,o,none⟩) xs.length c,.int .i64 (k+3 * (i:Int)),O,O,O,.int .i64 i,O,O,O,O,O,O,O,O,O,O,O,O,O,O,O,O,O,O,O,O,O,O,O,O,O,O,O,O] (M.set l (spB blk o (J6 k i)))) (n:=xs.length) fun i hi=>ZlU M l o xs.length c blk hb h2 k hk hk2 ho i hi
    have e0:J6 k 0=[]:=rfl
    simp only [Int.natCast_zero,Int.ofNat_zero,e0,ZxG,Ztg hb,Int.mul_zero,Int.add_zero] at hl
    have hlt:=(List.getElem?_eq_some_iff.1 hb).1
    refine ⟨M.set l (spB blk o (J6 k xs.length)),?_,Upd.g (Zs8 hb rfl),?_⟩
    · rw [Zc Zhp]; unfold Zcp Zem; simp [hl]
      rw [Zdh]; unfold JJ; simp
      exact ZBn (by simp)
    · refine ZBf (blk:=blk) (enc:=Z7) ?_ (Zb9 _ _) (by simp [hlt,J6]) h2 hw (by omega) ?_
      · intro e; have:=congrArg List.length e; rw [Zb9] at this; exact hx (List.length_eq_zero_iff.1 this)
      · intro y hy
        obtain ⟨i,hi,rfl⟩:=List.getElem_of_mem hy
        rw [Zjh]
        have hi2:i < xs.length:=by rw [Zb9] at hi; exact hi
        obtain ⟨q,hq⟩:∃ q,q=k+3 * (i:Int):=⟨_,rfl⟩
        rw [← hq]
        exact ZqT _ _ (ZfT (show -9223372036854775808≤q∧q≤9223372036854775807 by omega)) (ZfT (show -9223372036854775808≤q+1∧q+1≤9223372036854775807 by omega)) (ZfT (show -9223372036854775808≤q+2∧q+2≤9223372036854775807 by omega))
theorem Zl8:Zy1 T0 Zf Zay ZnL ZbQ:=fun M v xs L k h _ hb hk hk2=>Zmk M v xs L h k hk hk2
theorem ZjT (k:Int) (n:Nat):(Zjr k n).length=n:=by simp [Zjr]
def Zc1 (k:Int) (i:Nat):List V:=((Zjr k i).map Qq).flatten
theorem ZBV (k:Int) (hk:0 < k):Value.int .u8 (IntKind.u8.wrap k)=Y0 (mkY k):=by
  unfold mkY
  rw [Zrs (by omega)]
  congr 1
  simp [IntKind.wrap,IntKind.min,IntKind.max,IntKind.signed,IntKind.bits]
  omega
theorem ZtB (k:Int) (hk:0 < k):IntKind.u8.wrap k=((mkY k).toNat:Int):=by
  have h:=ZBV k hk
  unfold Y0 at h
  injection h
theorem ZrH (k:Int) (i:Nat):(Zc1 k i).length=i:=by
  unfold Zc1
  rw [Ze3 (w:=1) (fun x _=>rfl),ZjT,Nat.mul_one]
theorem Zqu (k:Int) (i:Nat):Zc1 k (i+1)=Zc1 k i++[Y0 (mkY (k+(i:Int)))]:=by
  unfold Zc1 Zjr
  rw [List.range_succ]
  simp
theorem ZmM (M:Mem) (l o n c:Nat) (blk:Blk) (hb:M[l]?=some blk) (h2:blk.st=2) (k:Int) (hk:0 < k) (hk2:k+n≤4611686018427387904) (ho:o+n≤blk.cells.length) (i:Nat) (hi:i < n) :
    lp (Zb T0) YY Jd [.slice (some ⟨l,o,none⟩) n c,.int .i64 (k+(i:Int)),O,O,O,.int .i64 i,O,O,O,O,O,O,O,O,O,O,O,O,O,O] (M.set l (spB blk o (Zc1 k i))) =
    lp (Zb T0) YY Jd [.slice (some ⟨l,o,none⟩) n c,.int .i64 (k+((i+1:Nat):Int)),O,O,O,.int .i64 (i+1:Nat),O,O,O,O,O,O,O,O,O,O,O,O,O,O] (M.set l (spB blk o (Zc1 k (i+1)))):=by
  have el:=ZrH k i
  have e1:=Zrt M l o blk hb h2 (Zc1 k i) (Y0 (mkY (k+(i:Int)))) rfl (by omega)
  rw [← Zqu,el] at e1
  have e6:IntKind.i64.wrap ((i:Int)+1)=i+1:=Zd (by omega) (by omega)
  have e7:IntKind.i64.wrap (k+(i:Int)+1)=k+((i:Int)+1):=by rw [Zd (by omega) (by omega)]; omega
  have e8:=ZtB (k+(i:Int)) (by omega)
  unfold Y0 at e1
  rw [ZdH]; unfold J4; simp [e1,e6,e7,e8,hi]
theorem ZmK (M:Mem) (v:V) (xs:List ZD.D) (L:List Nat) (h:Own (.sl ZD) M [v] xs L) (k:Int) (hk:0 < k) (hk2:k+xs.length≤4611686018427387904) :
    ∃ M',Zb T0 JV [v,.int .i64 k] M=some (.int .i64 (k+xs.length),M')∧ZfO M M' (· ∈ L)∧Own (.sl ZD) M' [v] (Zjr k xs.length) L:=by
  rcases ZpP Zol h with ⟨rfl,rfl,hr⟩ | ⟨l,o,c,blk,hx,rfl,hb,h2,hw,ho,rfl⟩
  · refine ⟨M,?_,ZwG (List.prefix_refl _) _,.inl ⟨rfl,rfl,hr⟩⟩
    obtain ⟨a,c,rfl⟩:=hr.slen
    rw [Zc ZiZ]; unfold ZcW Zfo; simp
    rw [ZdH]; unfold J4; simp
  · have hw2:ZD.w=1:=rfl
    rw [hw2,Nat.mul_one] at ho
    have hl:=Zl2 (g:=fun i:Nat=>lp (Zb T0) YY Jd [.slice (some ⟨l,o,none⟩) xs.length c,.int .i64 (k+(i:Int)),O,O,O,.int .i64 i,O,O,O,O,O,O,O,O,O,O,O,O,O,O] (M.set l (spB blk o (Zc1 k i)))) (n:=xs.length) fun i hi=>ZmM M l o xs.length c blk hb h2 k hk hk2 ho i hi
    have e0:Zc1 k 0=[]:=rfl
    simp only [Int.natCast_zero,Int.ofNat_zero,e0,ZxG,Ztg hb,Int.add_zero] at hl
    have hlt:=(List.getElem?_eq_some_iff.1 hb).1
    refine ⟨M.set l (spB blk o (Zc1 k xs.length)),?_,Upd.g (Zs8 hb rfl),?_⟩
    · rw [Zc ZiZ]; unfold ZcW Zfo; simp [hl]
      rw [ZdH]; unfold J4; simp
      exact ZBn (by simp)
    · refine ZBf (blk:=blk) (enc:=Qq) ?_ (ZjT _ _) (by simp [hlt,Zc1]) h2 hw (by omega) (fun y _=>Zqd _ y)
      intro e; have:=congrArg List.length e; rw [ZjT] at this; exact hx (List.length_eq_zero_iff.1 this)
theorem Zix:Zy1 T0 ZD JV Znh ZaW:=fun M v xs L k h _ hb hk hk2=>ZmK M v xs L h k hk hk2
theorem Zsz (cs ys:List V) (o p:Nat) (ho:o≤cs.length):(splice cs (o+p) ys).drop o=splice (cs.drop o) p ys:=by
  unfold splice
  have h1:(cs.take (o+p)).drop o=(cs.drop o).take p:=by rw [List.drop_take]; congr 1; omega
  rw [List.append_assoc,List.append_assoc,List.drop_append,h1,List.drop_drop]
  have h2:o - (cs.take (o+p)).length=0:=by simp; omega
  rw [h2,List.drop_zero]
  congr 3
  omega
theorem ZuQ (xs r ys:List V) (p:Nat) (hp:p+ys.length≤xs.length):splice (xs++r) p ys=splice xs p ys++r:=by
  unfold splice
  rw [List.take_append_of_le_length (by omega),List.drop_append_of_le_length hp]
  simp [List.append_assoc]
theorem ZkW {w:Nat}:∀ (css:List (List V)) (i:Nat) (hi:i < css.length) (r:List V),(∀ c ∈ css,c.length=w)→((css.flatten++r).drop (i * w)).take w=css[i]:=by
  intro css
  induction css with
  | nil=>intro i hi; simp at hi
  | cons c cs ih =>
    intro i hi r hc
    cases i with
    | zero =>
      rw [Nat.zero_mul,List.drop_zero,List.flatten_cons,List.append_assoc,List.take_left' (hc c (by simp))]
      rfl
    | succ i =>
      rw [List.flatten_cons,Nat.add_mul,Nat.one_mul,Nat.add_comm,← List.drop_drop,List.append_assoc,List.drop_left' (hc c (by simp))]
      exact ih i (by simpa using hi) r (fun d hd=>hc d (by simp [hd]))
theorem Own.elem {t:Ty} {X:Mem} {v:V} {xs:List t.D} {L:List Nat} (h:Own (.sl t) X [v] xs L) (nd:L.Nodup) {i:Nat} (hi:i < xs.length) :
    ∃ (l o c:Nat) (blk:Blk) (cs:List V) (K:List Nat),v=.slice (some ⟨l,o,none⟩) xs.length c∧X[l]?=some blk∧blk.st=2∧blk.w=t.w∧o+i * t.w+t.w≤blk.cells.length∧(blk.cells.drop (o+i * t.w)).take t.w=cs∧cs.length=t.w∧Own t X cs xs[i] K∧K.Nodup∧l ∉ K∧(∀ j ∈ K,j ∈ L)∧l ∈ L ∧
    ∀ (X':Mem) (cs':List V) (y:t.D),ZfO X X' (fun j=>j=l∨j ∈ K)→X'[l]?=some (spB blk (o+i * t.w) cs')→cs'.length=t.w→Own t X' cs' y K→Own (.sl t) X' [v] (xs.set i y) L:=by
  rcases h with ⟨rfl,_,_⟩ | ⟨l,o,c,blk,css,Ls,hne,e,hb,h2,hw,hc,hLs,hel,hp,rfl⟩
  · simp at hi
  cases e
  have hone:∀ cs ∈ css,cs.length=t.w:=by
    intro cs hcs
    obtain ⟨i,hi,rfl⟩:=List.getElem_of_mem hcs
    exact (hel i css[i] (xs[i]'(by omega)) (Ls[i]'(by omega)) (by simp) (by simp) (by simp)).rep.len
  have hfl:=YP hone
  obtain ⟨r,hr⟩:=hp
  have hle:i * t.w+t.w≤css.length * t.w:=by
    rw [← Nat.succ_mul]
    exact Nat.mul_le_mul_right _ (by omega)
  have hlen:css.flatten.length+r.length=blk.cells.length - o:=by rw [← List.length_append,hr,List.length_drop]
  have hw0:=t.w_pos
  have hcs:=ZkW css i (by omega) r hone
  obtain ⟨hln,hnf⟩:=List.nodup_cons.1 nd
  have hmem:∀ (k:Nat) (hk:k < Ls.length),∀ j ∈ Ls[k],j ∈ Ls.flatten:=fun k hk j hj=>List.mem_flatten.2 ⟨_,List.getElem_mem hk,hj⟩
  have hndK:∀ (Ls:List (List Nat)),Ls.flatten.Nodup→(∀ K ∈ Ls,K.Nodup)∧∀ (a b:Nat) (K J:List Nat),Ls[a]?=some K→Ls[b]?=some J→a ≠ b→∀ j ∈ K,j ∉ J:=by
    intro Ls
    induction Ls with
    | nil=>intro _; exact ⟨by simp,fun a b K J h=>by simp at h⟩
    | cons A As ih =>
      intro hn
      rw [List.flatten_cons] at hn
      obtain ⟨n1,n2,n3⟩:=List.nodup_append.1 hn
      obtain ⟨i1,i2⟩:=ih n2
      refine ⟨fun K hK=>?_,fun a b K J ha hb hab j hj hj2=>?_⟩
      · rcases List.mem_cons.1 hK with rfl | hK
        · exact n1
        · exact i1 K hK
      · cases a with
        | zero =>
          cases b with
          | zero=>exact hab rfl
          | succ b =>
            simp at ha hb
            subst ha
            exact n3 j hj j (List.mem_flatten.2 ⟨J,List.mem_of_getElem? hb,hj2⟩) rfl
        | succ a =>
          cases b with
          | zero =>
            simp at ha hb
            subst hb
            exact n3 j hj2 j (List.mem_flatten.2 ⟨K,List.mem_of_getElem? ha,hj⟩) rfl
          | succ b =>
            simp at ha hb
            exact i2 a b K J ha hb (by omega) j hj hj2
  obtain ⟨hk1,hk2⟩:=hndK Ls hnf
  refine ⟨l,o,c,blk,css[i]'(by omega),Ls[i]'(by omega),rfl,hb,h2,hw,by omega,?_,hone _ (List.getElem_mem _),hel i _ xs[i] _ (by simp) (by simp) (by simp),hk1 _ (List.getElem_mem _),fun hm=>hln (hmem _ _ _ hm),fun j hj=>List.mem_cons_of_mem _ (hmem _ _ _ hj),by simp,?_⟩
  · rw [← List.drop_drop,← hr]
    exact hcs
  · intro X' cs' y hu hb' hl' hy
    refine .inr ⟨l,o,c,spB blk (o+i * t.w) cs',css.set i cs',Ls,?_,by simp,hb',h2,hw,by simp [hc],by simp [hLs],fun k ds x K hds hx hK=>?_,?_,rfl⟩
    · intro e
      have:=congrArg List.length e
      simp at this
      exact hne this
    · by_cases hk:i=k
      · subst hk
        rw [List.getElem?_set_self (by omega)] at hds hx
        rw [List.getElem?_eq_getElem (by omega)] at hK
        cases hds; cases hx; cases hK
        exact hy
      · rw [List.getElem?_set_ne hk] at hds hx
        refine (hel k ds x K hds hx hK).updg hu (fun j hj hm=>?_)
        rcases hm with rfl | hm
        · exact hln (List.mem_flatten.2 ⟨K,List.mem_of_getElem? hK,hj⟩)
        · exact hk2 i k (Ls[i]'(by omega)) K (by simp) hK hk j hm hj
    · unfold spB
      simp only
      rw [Zsz _ _ _ _ (by omega),← hr,ZuQ _ _ _ _ (by omega),Zn0 css i t.w cs' (by omega) hone hl']
      exact List.prefix_append _ _
theorem ZkL {D:Type} (mk:Int→D→D) (tot:D→Int):∀ (xs:List D) (k:Int),(gmS mk tot k xs).length=xs.length
  | [],_=>rfl
  | x :: xs,k=>by simp [gmS,ZkL mk tot xs]
theorem ZsL {D:Type} (tot:D→Int):∀ (xs ys:List D),gtS tot (xs++ys)=gtS tot xs+gtS tot ys
  | [],ys=>by simp [gtS]
  | x :: xs,ys=>by simp [gtS,ZsL tot xs ys]; omega
theorem Zng {D:Type} (tot:D→Int) {xs:List D} {i:Nat} (hi:i < xs.length):gtS tot (xs.take (i+1))=gtS tot (xs.take i)+tot xs[i]:=by
  rw [List.take_succ_eq_append_getElem hi,ZsL]
  simp [gtS]
theorem ZsC {D:Type} (mk:Int→D→D) (tot:D→Int):∀ (xs ys:List D) (k:Int),gmS mk tot k (xs++ys)=gmS mk tot k xs++gmS mk tot (k+gtS tot xs) ys
  | [],ys,k=>by simp [gmS,gtS]
  | x :: xs,ys,k=>by
    have:k+tot x+gtS tot xs=k+(tot x+gtS tot xs):=by omega
    simp [gmS,gtS,ZsC mk tot xs ys,this]
theorem Zt9 {D:Type} (mk:Int→D→D) (tot:D→Int) {xs:List D} {i:Nat} (hi:i < xs.length) (k:Int):(gmS mk tot k (xs.take i)++xs.drop i).set i (mk (k+gtS tot (xs.take i)) xs[i])=gmS mk tot k (xs.take (i+1))++xs.drop (i+1):=by
  have hl:(gmS mk tot k (xs.take i)).length=i:=by rw [ZkL,List.length_take]; omega
  rw [List.set_append_right _ _ (by omega),hl,Nat.sub_self,List.take_succ_eq_append_getElem hi,ZsC,List.append_assoc,List.drop_eq_getElem_cons hi]
  rfl
theorem Znf {D:Type} {tot:D→Int} {xs:List D} (h:∀ x ∈ xs,0≤tot x) {i:Nat} (hi:i < xs.length):0≤gtS tot (xs.take i)∧gtS tot (xs.take i)+tot xs[i]≤gtS tot xs:=by
  have h0:∀ ys:List D,(∀ y ∈ ys,0≤tot y)→0≤gtS tot ys:=by
    intro ys
    induction ys with
    | nil=>intro _; simp [gtS]
    | cons y ys ih =>
      intro hy
      have:=hy y (by simp)
      have:=ih (fun z hz=>hy z (by simp [hz]))
      unfold gtS
      omega
  have e:xs=xs.take i++(xs[i] :: xs.drop (i+1)):=by
    rw [← List.drop_eq_getElem_cons hi,List.take_append_drop]
  have e2:gtS tot xs=gtS tot (xs.take i)+(tot xs[i]+gtS tot (xs.drop (i+1))):=by
    conv=>lhs; rw [e]
    rw [ZsL]
    rfl
  have h1:=h0 (xs.take i) (fun y hy=>h y (List.mem_of_mem_take hy))
  have h2:=h0 (xs.drop (i+1)) (fun y hy=>h y (List.mem_of_mem_drop hy))
  omega
theorem Zse {cs ys:List V} {p:Nat} (h:(cs.drop p).take ys.length=ys):splice cs p ys=cs:=by
  unfold splice
  conv=>rhs; rw [← List.take_append_drop p cs,← List.take_append_drop ys.length (cs.drop p),h,List.drop_drop]
  rw [List.append_assoc]
theorem ZAx {blk:Blk} {ys:List V} {p:Nat} (h:(blk.cells.drop p).take ys.length=ys):spB blk p ys=blk:=by
  unfold spB
  rw [Zse h]
theorem ZrG {cs ys:List V} {p w:Nat} (h:(cs.drop p).take w=ys) {j:Nat} (hj:j < w):cs[p+j]?=ys[j]?:=by
  subst h
  rw [List.getElem?_take,if_pos hj,List.getElem?_drop]
theorem Zm3:Zy1 T0 Zi Zc7 Zni ZbK:=fun M v xs L k h nd hb hk hk2=>by
  have hpos:∀ x ∈ xs,0≤Yy x:=fun x hx=>Int.natCast_nonneg _
  have hk3:k+gtS Yy xs≤4611686018427387904:=hk2
  have hn:=hb.1
  have hn2:(xs.length:Int)≤1048576:=by omega
  obtain ⟨a,c,rfl⟩:=h.rep.slen
  have key:=YT (call:=Zb T0) (K:=Ja) (L:=ZbF) (fun i (_:Unit) X=>ZfO M X (· ∈ L)∧Own (.sl Zi) X [.slice a xs.length c] (gmS Zi8 Yy k (xs.take i)++xs.drop i) L) (fun i _=>[.slice a xs.length c,.int .i64 (k+gtS Yy (xs.take i)),O,O,O,.int .i64 i,O,O,O,O,O,O,O,O,O,O,O,O,O,O]) (n:=xs.length) ?_ 0 () M (by omega) ⟨ZwG (List.prefix_refl _) _,by simpa [gmS] using h⟩
  · obtain ⟨_,X',⟨h1,h2⟩,e⟩:=key
    simp only [List.take_length,List.drop_length,List.append_nil] at h2 e
    have e0:k+gtS Yy (xs.take 0)=k:=by simp [gtS]
    simp only [e0,Int.natCast_zero,Int.ofNat_zero] at e
    obtain ⟨M2,g1,g2,g3⟩:=Ztn h1 h h2 (k+gtS Yy xs)
    refine ⟨M2,?_,g2,g3⟩
    rw [Zc Znc]; unfold Zff ZiR; simp [apA,e]
    rw [ZgJ]; unfold ZbG; simp [apA]
    exact g1
  intro i _ X hi ⟨hu,ho⟩
  have hys:(gmS Zi8 Yy k (xs.take i)).length=i:=by rw [ZkL,List.length_take]; omega
  have hyl:(gmS Zi8 Yy k (xs.take i)++xs.drop i).length=xs.length:=by simp [hys]; omega
  have hyi:(gmS Zi8 Yy k (xs.take i)++xs.drop i)[i]'(by omega)=xs[i]:=by
    rw [List.getElem_append_right (by omega)]
    simp [hys]
  obtain ⟨l,o,c2,blk,cs,K,ev,hbl,hst,hw,hle,hcs,hcl,hoe,ndk,hlk,hKL,hlL,hre⟩:=Own.elem ho nd (i:=i) (by omega)
  rw [hyi] at hoe
  rw [hyl] at ev
  cases ev
  have e6:IntKind.i64.wrap ((i:Int)+1)=i+1:=Zd (by omega) (by omega)
  have ht:=Znf (tot:=Yy) hpos hi
  have hw1:Zi.w=1:=rfl
  match cs,hcl with
  | [u],_ =>
  have hrd:rd1 X l (o+i)=some u:=by
    rw [Y1,hbl]
    have:=ZrG hcs (j:=0) (by decide)
    simp only [rdJ]
    rw [if_pos (.inr hst)]
    simpa [hw1] using this
  obtain ⟨X',e1,u1,o1⟩:=Zix X u xs[i] K (k+gtS Yy (xs.take i)) hoe ndk (hb.2 _ (List.getElem_mem hi)) (by omega) (by show _+Yy xs[i]≤_; omega)
  have hX'l:X'[l]?=some blk:=u1.get hbl hlk
  have hown:=hre X' [u] (Zi8 (k+gtS Yy (xs.take i)) xs[i]) (u1.weak (fun j hj=>.inr hj)) (by rw [hX'l,ZAx (by rw [List.length_singleton]; exact hcs)]) rfl o1
  rw [Zt9 Zi8 Yy hi] at hown
  refine ⟨(),X',⟨?_,hown⟩,?_⟩
  · exact (hu.trans u1).weak (fun j hj=>by
      rcases hj with hj | hj
      · exact hj
      · exact hKL j hj)
  · have es:=Zng Yy hi
    have es2:k+gtS Yy (xs.take (i+1))=k+gtS Yy (xs.take i)+ZaW xs[i]:=by rw [es]; exact (Int.add_assoc _ _ _).symm
    rw [es2]
    rw [ZgJ]; unfold ZbG; simp [apA,hi,hrd,e1,e6]
set_option maxHeartbeats 4000000 in
theorem ZoQ:ZEZ T0 ZT ZeM Zls ZeZ:=by
  intro M cs x L k h hnd hb hk hk2
  have hwhole:=h
  obtain ⟨u0,u1,L0,L1,rfl,w0,r0,r1,rfl⟩:=Zho h
  have t0:=Zn3 _ hb.2.1
  have t1:=ZlV _ hb.2.2
  unfold ZeZ at hk2 ⊢
  have hlt:=Zrv hwhole
  have hp0:M <+: M++[(⟨[.int .i64 x.1,u0,u1],1,2⟩:Blk)]:=List.prefix_append _ _
  have b0:(M++[(⟨[.int .i64 x.1,u0,u1],1,2⟩:Blk)])[M.length]?=some ⟨[.int .i64 x.1,u0,u1],1,2⟩:=by simp
  have o0_0:=r0.grow hp0
  have o0_1:=r1.grow hp0
  have hnd2:=hnd
  simp only [List.nodup_append,List.mem_append] at hnd2
  have i0:=ZK r0.rep.one
  have i1:=ZK r1.rep.one
  obtain ⟨N0,e0,up0,ow0⟩:=Zm3 (M++[(⟨[.int .i64 x.1,u0,u1],1,2⟩:Blk)]) _ _ _ (k) o0_0 (by have:=hnd; simp only [List.nodup_append] at this; simp [this]) hb.2.1 (by omega) (by omega)
  have b1:N0[M.length]?=some ⟨[.int .i64 x.1,u0,u1],1,2⟩:=up0.get b0 (fun hm=>by have:=hlt M.length (by simp only [List.mem_append] at hm ⊢; simp [hm]); omega)
  have o1_1:=Own.updg up0 o0_1 (fun l hl hm=>by have:=hnd; simp only [List.nodup_append,List.mem_append] at this hm; grind)
  have o1_0:=ow0
  obtain ⟨N1,e1,up1,ow1⟩:=Zl8 N0 _ _ _ (k+ZbK x.2.1) o1_1 (by have:=hnd; simp only [List.nodup_append] at this; simp [this]) hb.2.2 (by omega) (by omega)
  have b2:N1[M.length]?=some ⟨[.int .i64 x.1,u0,u1],1,2⟩:=up1.get b1 (fun hm=>by have:=hlt M.length (by simp only [List.mem_append] at hm ⊢; simp [hm]); omega)
  have o2_0:=Own.updg up1 o1_0 (fun l hl hm=>by have:=hnd; simp only [List.nodup_append,List.mem_append] at this hm; grind)
  have o2_1:=ow1
  have uu:ZfO M N1 (· ∈ L0++L1):=by
    refine (ZfO.weak ((ZfO.trans up0 up1).grow hp0) fun l hl=>?_)
    simp only [List.mem_append]
    grind
  have oo:=Zii (x:=Zls k x) w0 o2_0 o2_1
  obtain ⟨N,g1,g2,g3⟩:=Ztn uu hwhole oo (k+(ZbK x.2.1+ZbQ x.2.2))
  refine ⟨N,?_,g2,g3⟩
  have hadd:k+ZbK x.2.1+ZbQ x.2.2=k+(ZbK x.2.1+ZbQ x.2.2):=by omega
  rw [← hadd] at g1 ⊢
  rw [Zc Zph]; unfold Zhk Zku; simp [apA,i0,i1,e0,b1,e1,b2,g1,Y1,Z3,Zm7,ZiG,ZhB,Zdj]
theorem Zu1 {M:Mem} {cs:List V} {x:Zx.D} {L:List Nat} (h:Own Zx M cs x L):∃ (u0 u1 u2:V) (L0 L1 L2:List Nat),cs=[.int .i64 x.1,.int .i64 x.2.1,.int .i64 x.2.2.1,.int .i64 x.2.2.2.1.1,u0,u1,u2]∧(Lit.int .i64 x.1).wf=true∧(Lit.int .i64 x.2.1).wf=true∧(Lit.int .i64 x.2.2.1).wf=true∧(Lit.int .i64 x.2.2.2.1.1).wf=true∧Own (.sl Zi) M [u0] x.2.2.2.1.2.1 L0∧Own (.sl Zf) M [u1] x.2.2.2.1.2.2 L1∧Own (.sl Za) M [u2] x.2.2.2.2 L2∧L=L0++L1++L2:=by
  obtain ⟨c0,d0,K0,J0,rfl,h0,h,rfl⟩:=h
  obtain ⟨⟨rfl,w0⟩,rfl⟩:=h0
  obtain ⟨c1,d1,K1,J1,rfl,h1,h,rfl⟩:=h
  obtain ⟨⟨rfl,w1⟩,rfl⟩:=h1
  obtain ⟨c2,d2,K2,J2,rfl,h2,h,rfl⟩:=h
  obtain ⟨⟨rfl,w2⟩,rfl⟩:=h2
  obtain ⟨c3,d3,K3,J3,rfl,h3,h,rfl⟩:=h
  obtain ⟨u0,u1,Q3_0,Q3_1,rfl,w3,r0,r1,rfl⟩:=Zho h3
  obtain ⟨u2,rfl⟩:∃ u,d3=[u]:=by
    have l2:=Rep.len ((h).rep)
    exact List.length_eq_one_iff.1 l2
  have r2:=h
  exact ⟨u0,u1,u2,_,_,_,rfl,w0,w1,w2,w3,r0,r1,r2,by simp⟩
abbrev Zhb (k:Int) (x:Za.D):Za.D:=(k,k+1,Znh (k+2) x.2.2)
abbrev ZjA (k:Int) (xs:List Za.D):List Za.D:=gmS Zhb YC k xs
def Zcy (k:Int) (x:Zx.D):Zx.D:=(x.1,x.2.1,x.2.2.1,Zls (k) x.2.2.2.1,ZjA (k+ZeZ x.2.2.2.1) x.2.2.2.2)
theorem Zsk {M:Mem} {cs:List V} {x:Za.D} {L:List Nat} (h:Own Za M cs x L):∃ (u0:V) (L0:List Nat),cs=[.int .i64 x.1,.int .i64 x.2.1,u0]∧(Lit.int .i64 x.1).wf=true∧(Lit.int .i64 x.2.1).wf=true∧Own (.sl ZD) M [u0] x.2.2 L0∧L=L0:=by
  obtain ⟨c0,d0,K0,J0,rfl,h0,h,rfl⟩:=h
  obtain ⟨⟨rfl,w0⟩,rfl⟩:=h0
  obtain ⟨c1,d1,K1,J1,rfl,h1,h,rfl⟩:=h
  obtain ⟨⟨rfl,w1⟩,rfl⟩:=h1
  obtain ⟨u0,rfl⟩:∃ u,d1=[u]:=by
    have l0:=Rep.len ((h).rep)
    exact List.length_eq_one_iff.1 l0
  have r0:=h
  exact ⟨u0,_,rfl,w0,w1,r0,by simp⟩
theorem ZqQ {z:Int} (h1:-9223372036854775808≤z) (h2:z≤9223372036854775807):(Lit.int .i64 z).wf=true:=by
  show (decide (_≤z) && decide (z≤_))=true
  simp only [Bool.and_eq_true,decide_eq_true_eq]
  exact ⟨h1,h2⟩
theorem Zxq (cells vs:List V) (o x:Nat) (h:o+vs.length≤cells.length):(splice cells o vs)[x]?=if x < o then cells[x]? else if x < o+vs.length then vs[x - o]? else cells[x]?:=by
  unfold splice
  rw [List.append_assoc,List.getElem?_append,List.length_take,Nat.min_eq_left (by omega)]
  by_cases h1:x < o
  · rw [if_pos h1,if_pos h1,List.getElem?_take,if_pos h1]
  · rw [if_neg h1,if_neg h1,List.getElem?_append]
    by_cases h2:x < o+vs.length
    · rw [if_pos (by omega),if_pos h2]
    · rw [if_neg (by omega),if_neg h2,List.getElem?_drop]
      congr 1
      omega
theorem ZsX (cs ys:List V) (p:Nat) (v:V) (h:cs[p+ys.length]?=some v):splice cs p ys=splice cs p (ys++[v]):=by
  obtain ⟨hl,hv⟩:=List.getElem?_eq_some_iff.1 h
  unfold splice
  rw [List.drop_eq_getElem_cons hl,hv]
  simp [List.append_assoc,Nat.add_assoc]
theorem Zmj:Zy1 T0 Za Zco ZjA ZcC:=fun M v xs L k h nd hb hk hk2=>by
  have hpos:∀ x ∈ xs,0≤YC x:=fun x hx=>by have:=Zi5 (hb.2 x hx).2.2.1; omega
  have hk3:k+gtS YC xs≤4611686018427387904:=hk2
  have hn:=hb.1
  have hn2:(xs.length:Int)≤1048576:=by omega
  obtain ⟨a,c,rfl⟩:=h.rep.slen
  have key:=YT (call:=Zb T0) (K:=QO) (L:=ZaM) (fun i (_:Unit) X=>ZfO M X (· ∈ L)∧Own (.sl Za) X [.slice a xs.length c] (gmS Zhb YC k (xs.take i)++xs.drop i) L) (fun i _=>[.slice a xs.length c,.int .i64 (k+gtS YC (xs.take i)),O,O,O,.int .i64 i,O,O,O,O,O,O,O,O,O,O,O,O,O,O,O,O,O,O,O,O,O,O,O,O,O,O,O,O]) (n:=xs.length) ?_ 0 () M (by omega) ⟨ZwG (List.prefix_refl _) _,by simpa [gmS] using h⟩
  · obtain ⟨_,X',⟨h1,h2⟩,e⟩:=key
    simp only [List.take_length,List.drop_length,List.append_nil] at h2 e
    have e0:k+gtS YC (xs.take 0)=k:=by simp [gtS]
    simp only [e0,Int.natCast_zero,Int.ofNat_zero] at e
    obtain ⟨M2,g1,g2,g3⟩:=Ztn h1 h h2 (k+gtS YC xs)
    refine ⟨M2,?_,g2,g3⟩
    rw [Zc Zme]; unfold Zek ZhE; simp [apA,e]
    rw [Zgn]; unfold ZaZ; simp [apA]
    exact g1
  intro i _ X hi ⟨hu,ho⟩
  have hys:(gmS Zhb YC k (xs.take i)).length=i:=by rw [ZkL,List.length_take]; omega
  have hyl:(gmS Zhb YC k (xs.take i)++xs.drop i).length=xs.length:=by simp [hys]; omega
  have hyi:(gmS Zhb YC k (xs.take i)++xs.drop i)[i]'(by omega)=xs[i]:=by
    rw [List.getElem_append_right (by omega)]
    simp [hys]
  obtain ⟨l,o,c2,blk,cs,K,ev,hbl,hst,hw,hle,hcs,hcl,hoe,ndk,hlk,hKL,hlL,hre⟩:=Own.elem ho nd (i:=i) (by omega)
  rw [hyi] at hoe
  rw [hyl] at ev
  cases ev
  have e6:IntKind.i64.wrap ((i:Int)+1)=i+1:=Zd (by omega) (by omega)
  have ht:=Znf (tot:=YC) hpos hi
  have hw1:Za.w=3:=rfl
  have hbi:=hb.2 _ (List.getElem_mem hi)
  have hbx:=Zi5 hbi.2.2.1
  have hgt:YC xs[i]=2+ZaW xs[i].2.2:=rfl
  have es:=Zng YC hi
  have es2:k+gtS YC (xs.take (i+1))=k+gtS YC (xs.take i)+2+ZaW xs[i].2.2:=by rw [es,hgt]; omega
  obtain ⟨u,K0,rfl,w0,w1,hou,rfl⟩:=Zsk hoe
  obtain ⟨ua,uc,rfl⟩:=hou.rep.slen
  rw [hw1] at hle hcs
  have hgm:=Zt9 Zhb YC hi k
  rw [es2]
  obtain ⟨p,hp⟩:∃ p,p=o+i * 3:=⟨_,rfl⟩
  generalize hq:k+gtS YC (xs.take i)=q at *
  have hc2:=ZrG hcs (j:=2) (by decide)
  simp only [List.getElem?_cons_succ,List.getElem?_cons_zero] at hc2
  rw [← hp] at hle hcs hc2
  have v1:wrn X l p [.int .i64 q]=some (X.set l (spB blk p [.int .i64 q])):=ZdU hbl hst (by simp; omega) rfl
  have v2:wrn (X.set l (spB blk p [.int .i64 q])) l (p+1) [.int .i64 (q+1)]=some (X.set l (spB blk p [.int .i64 q,.int .i64 (q+1)])):=Zrt X l p blk hbl hst [.int .i64 q] (.int .i64 (q+1)) rfl (by simp; omega)
  have hX2:(X.set l (spB blk p [.int .i64 q,.int .i64 (q+1)]))[l]?=some (spB blk p [.int .i64 q,.int .i64 (q+1)]):=ZbN hbl _
  have hsp3:spB blk p [.int .i64 q,.int .i64 (q+1)]=spB blk p [.int .i64 q,.int .i64 (q+1),.slice ua (List.length (α:=UInt8) xs[i].2.2) uc]:=by
    unfold spB
    rw [ZsX _ _ _ _ hc2]
    rfl
  have hrd:rd1 (X.set l (spB blk p [.int .i64 q,.int .i64 (q+1)])) l (p+2)=some (.slice ua (List.length (α:=UInt8) xs[i].2.2) uc):=by
    rw [Y1,hX2]
    have hs2:(splice blk.cells p [.int .i64 q,.int .i64 (q+1)])[p+2]?=some (.slice ua (List.length (α:=UInt8) xs[i].2.2) uc):=by
      rw [Zxq _ _ _ _ (by simp; omega),if_neg (by omega),if_neg (by simp)]
      exact hc2
    exact (if_pos (Or.inr hst)).trans hs2
  have hu2:ZfO X (X.set l (spB blk p [.int .i64 q,.int .i64 (q+1)])) (· ∈ [l]) 
    := (Zs8 (b2:=spB blk p [.int .i64 q,.int .i64 (q+1)]) hbl rfl).g
  obtain ⟨X',e1,u1,o1⟩:=Zix (X.set l (spB blk p [.int .i64 q,.int .i64 (q+1)])) (.slice ua (List.length (α:=UInt8) xs[i].2.2) uc) xs[i].2.2 K (q+2) (hou.updg hu2 (fun j hj hm=>hlk (by simp at hm; subst hm; exact hj))) ndk hbi.2.2 (by omega) (by omega)
  have hX'l:X'[l]?=some (spB blk p [.int .i64 q,.int .i64 (q+1)]):=u1.get hX2 hlk
  have hwq:(Lit.int .i64 q).wf=true∧(Lit.int .i64 (q+1)).wf=true:=⟨ZqQ (by omega) (by omega),ZqQ (by omega) (by omega)⟩
  have huX:ZfO X X' (fun j=>j=l∨j ∈ K):=(hu2.trans u1).weak (fun j hj=>by
    rcases hj with hj | hj
    · left; simpa using hj
    · exact .inr hj)
  have hown:=hre X' [.int .i64 q,.int .i64 (q+1),.slice ua (List.length (α:=UInt8) xs[i].2.2) uc] (Zhb q xs[i]) huX (by rw [hX'l,hsp3,hp]; rfl) rfl (ZkR (x:=Zhb q xs[i]) hwq.1 hwq.2 o1)
  rw [hgm] at hown
  refine ⟨(),X',⟨?_,hown⟩,?_⟩
  · exact (hu.trans huX).weak (fun j hj=>by
      rcases hj with hj | hj | hj
      · exact hj
      · subst hj; exact hlL
      · exact hKL j hj)
  · have f1:IntKind.i64.wrap (q+1)=q+1:=Zd (by omega) (by omega)
    have f2:IntKind.i64.wrap (q+1+1)=q+2:=by rw [Zd (by omega) (by omega)]; omega
    have f3:q+ZaW xs[i].2.2+2=q+2+ZaW xs[i].2.2:=by omega
    rw [hp] at v1 v2 hrd e1
    rw [Zgn]; unfold ZaZ; simp [apA,hi,v1,v2,hrd,e1,e6,f1,f2]
set_option maxHeartbeats 4000000 in
theorem Zjj:ZEZ T0 Zx Zcc Zcy Zg1:=by
  intro M cs x L k h hnd hb hk hk2
  have hwhole:=h
  obtain ⟨u0,u1,u2,L0,L1,L2,rfl,w0,w1,w2,w3,r0,r1,r2,rfl⟩:=Zu1 h
  have t0:=ZsU _ hb.2.2.2.1
  have t1:=Zmf _ hb.2.2.2.2
  unfold Zg1 at hk2 ⊢
  have hlt:=Zrv hwhole
  have hp0:M <+: M++[(⟨[.int .i64 x.1,.int .i64 x.2.1,.int .i64 x.2.2.1,.int .i64 x.2.2.2.1.1,u0,u1,u2],1,2⟩:Blk)]:=List.prefix_append _ _
  have b0:(M++[(⟨[.int .i64 x.1,.int .i64 x.2.1,.int .i64 x.2.2.1,.int .i64 x.2.2.2.1.1,u0,u1,u2],1,2⟩:Blk)])[M.length]?=some ⟨[.int .i64 x.1,.int .i64 x.2.1,.int .i64 x.2.2.1,.int .i64 x.2.2.2.1.1,u0,u1,u2],1,2⟩:=by simp
  have o0_0:=r0.grow hp0
  have o0_1:=r1.grow hp0
  have o0_2:=r2.grow hp0
  have hnd2:=hnd
  simp only [List.nodup_append,List.mem_append] at hnd2
  have i0:=ZK r0.rep.one
  have i1:=ZK r1.rep.one
  have i2:=ZK r2.rep.one
  obtain ⟨N0,e0,up0,ow0⟩:=ZoQ (M++[(⟨[.int .i64 x.1,.int .i64 x.2.1,.int .i64 x.2.2.1,.int .i64 x.2.2.2.1.1,u0,u1,u2],1,2⟩:Blk)]) _ _ _ (k) (Zii w3 o0_0 o0_1) (by have:=hnd; simp only [List.nodup_append,List.mem_append] at this ⊢; simp_all) hb.2.2.2.1 (by omega) (by omega)
  have b1:N0[M.length]?=some ⟨[.int .i64 x.1,.int .i64 x.2.1,.int .i64 x.2.2.1,.int .i64 x.2.2.2.1.1,u0,u1,u2],1,2⟩:=up0.get b0 (fun hm=>by have:=hlt M.length (by simp only [List.mem_append] at hm ⊢; simp [hm]); omega)
  have o1_2:=Own.updg up0 o0_2 (fun l hl hm=>by have:=hnd; simp only [List.nodup_append,List.mem_append] at this hm; grind)
  obtain ⟨y0_0,y0_1,LL0_0,LL0_1,ey0,_,oo0_0,oo0_1,eL0⟩:=Zho ow0
  simp only [Zls,List.cons.injEq,and_true,true_and] at ey0
  obtain ⟨rfl,rfl⟩:=ey0
  have o1_0:=oo0_0
  have o1_1:=oo0_1
  obtain ⟨N1,e1,up1,ow1⟩:=Zmj N0 _ _ _ (k+ZeZ x.2.2.2.1) o1_2 (by have:=hnd; simp only [List.nodup_append] at this; simp [this]) hb.2.2.2.2 (by omega) (by omega)
  have b2:N1[M.length]?=some ⟨[.int .i64 x.1,.int .i64 x.2.1,.int .i64 x.2.2.1,.int .i64 x.2.2.2.1.1,u0,u1,u2],1,2⟩:=up1.get b1 (fun hm=>by have:=hlt M.length (by simp only [List.mem_append] at hm ⊢; simp [hm]); omega)
  have o2_0:=Own.updg up1 o1_0 (fun l hl hm=>by have:=hnd; simp only [List.nodup_append,List.mem_append] at this hm; grind)
  have o2_1:=Own.updg up1 o1_1 (fun l hl hm=>by have:=hnd; simp only [List.nodup_append,List.mem_append] at this hm; grind)
  have o2_2:=ow1
  have uu:ZfO M N1 (· ∈ L0++L1++L2):=by
    refine (ZfO.weak ((ZfO.trans up0 up1).grow hp0) fun l hl=>?_)
    simp only [List.mem_append]
    grind
  have oo:=Ze0 (x:=Zcy k x) w0 w1 w2 w3 o2_0 o2_1 o2_2
  have eL:LL0_0++LL0_1++L2=L0++L1++L2:=by
    have e1:LL0_0++LL0_1++L2=(LL0_0++LL0_1)++L2:=by simp only [List.append_assoc]
    rw [e1,← eL0]
    (try simp only [List.append_assoc])
  rw [eL] at oo
  obtain ⟨N,g1,g2,g3⟩:=Ztn uu hwhole oo (k+(ZeZ x.2.2.2.1+ZcC x.2.2.2.2))
  refine ⟨N,?_,g2,g3⟩
  have hadd:k+ZeZ x.2.2.2.1+ZcC x.2.2.2.2=k+(ZeZ x.2.2.2.1+ZcC x.2.2.2.2):=by omega
  rw [← hadd] at g1 ⊢
  rw [Zc Zn7]; unfold Zgm Zjm; simp [apA,i0,i1,i2,e0,b1,e1,b2,g1,Y1,Z3,Zm7,ZiG,ZhB,Zdj]
theorem Zlo {M:Mem} {a:Option Addr} {n c:Nat} {xs:List Zf.D} (h:Rep (.sl Zf) M [.slice a n c] xs) {i:Nat} (hi:i < xs.length):∃ l o,a=some ⟨l,o,none⟩∧Rep Zf M (Z7 xs[i]) xs[i]∧rdn M l (o+i * 3) 3=some (Z7 xs[i])∧rd1 M l (o+i * 3)=some (.int .i64 xs[i].1)∧rd1 M l (o+i * 3+1)=some (.int .i64 xs[i].2.1)∧rd1 M l (o+i * 3+2)=some (.int .i64 xs[i].2.2):=by
  obtain ⟨_,l,o,rfl,cs,hrd,hrep⟩:=Zga h hi
  have hcs:=ZlE hrep
  subst hcs
  have hw:Zf.w=3:=rfl
  rw [hw] at hrd
  exact ⟨l,o,rfl,hrep,hrd,Q6 hrd (k:=0) rfl,Q6 hrd (k:=1) rfl,Q6 hrd (k:=2) rfl⟩
theorem Zmc (M:Mem) (v:V) (k:Int) (n:Nat) (h:Rep (.sl Zf) M [v] (JE k n)) (hk:0 < k) (hk2:k+3 * n≤4611686018427387904):Zb T0 Zat [v,.int .i64 k] M=some (.int .i64 (k+3 * n),M):=by
  obtain ⟨a,c,rfl⟩:=h.slen
  have hlen:=Zb9 k n
  have hc:=Zl2 (g:=fun i:Nat=>lp (Zb T0) QL ZaV [.slice a (JE k n).length c,.int .i64 (k+3 * (i:Int)),O,O,O,.int .i64 i,O,O,O,O,O,O,O,O,O,O,O,O,O,O,O,O,O,O,O,O,O,O,O,O,O,O,O,O,O,O,O,O,O,O] M) (n:=n) fun i hi=>by
    obtain ⟨l,o,rfl,_,_,hf0,hf1,hf2⟩:=Zlo h (i:=i) (by omega)
    rw [Zjh] at hf0 hf1 hf2
    obtain ⟨q,hq⟩:∃ q,q=k+3 * (i:Int):=⟨_,rfl⟩
    rw [← hq] at hf0 hf1 hf2 ⊢
    have c0:(ZjZ q).1=q:=rfl
    rw [c0] at hf0
    have c1:(ZjZ q).2.1=q+1:=rfl
    rw [c1] at hf1
    have c2:(ZjZ q).2.2=q+2:=rfl
    rw [c2] at hf2
    have f6:IntKind.i64.wrap ((i:Int)+1)=i+1:=Zd (by omega) (by omega)
    have g0:IntKind.i64.wrap (q+1)=q+1:=by rw [Zd (by omega) (by omega)]
    have g1:IntKind.i64.wrap (q+1+1)=q+2:=by rw [Zd (by omega) (by omega)]; omega
    have g2:IntKind.i64.wrap (q+2+1)=k+3 * ((i:Int)+1):=by rw [Zd (by omega) (by omega)]; omega
    rw [hlen]
    rw [Zf7]; unfold Za2; simp [hf0,hf1,hf2,hi,f6,g0,g1,g2]
  simp only [Int.natCast_zero,Int.ofNat_zero,Int.mul_zero,Int.add_zero] at hc
  rw [hlen] at hc ⊢
  rw [Zc Zma]; unfold Zec Zhs; simp [hc]
  rw [Zf7]; unfold Za2; simp
theorem Zmq:Zzk T0 Zf Zat ZnL ZbQ:=fun M v xs k h hb hk hk2=>Zmc M v k xs.length h hk hk2
theorem Zuh (k:Int) (n i:Nat) (hi:i < (Zjr k n).length):(Zjr k n)[i]=mkY (k+i):=by simp [Zjr]
theorem ZmL (M:Mem) (v:V) (k:Int) (n:Nat) (h:Rep (.sl ZD) M [v] (Zjr k n)) (hk:0 < k) (hk2:k+n≤4611686018427387904):Zb T0 JX [v,.int .i64 k] M=some (.int .i64 (k+n),M):=by
  obtain ⟨a,c,rfl⟩:=h.slen
  have hlen:=ZjT k n
  have hc:=Zl2 (g:=fun i:Nat=>lp (Zb T0) Q8 Zbx [.slice a (Zjr k n).length c,.int .i64 (k+(i:Int)),O,O,O,.int .i64 i,O,O,O,O,O,O,O,O,O,O,O,O,O,O,O,O] M) (n:=n) fun i hi=>by
    obtain ⟨l,o,rfl,_,hf0⟩:=Zgc h (i:=i) (by omega)
    rw [Zuh] at hf0
    have e6:IntKind.i64.wrap ((i:Int)+1)=i+1:=Zd (by omega) (by omega)
    have e7:IntKind.i64.wrap (k+(i:Int)+1)=k+((i:Int)+1):=by rw [Zd (by omega) (by omega)]; omega
    have e8:=ZtB (k+(i:Int)) (by omega)
    unfold Y0 at hf0
    rw [hlen]
    rw [ZgK]; unfold ZbJ; simp [hf0,hi,e6,e7,e8]
  simp only [Int.natCast_zero,Int.ofNat_zero,Int.add_zero] at hc
  rw [hlen] at hc ⊢
  rw [Zc ZmJ]; unfold Zfa Ziw; simp [hc]
  rw [ZgK]; unfold ZbJ; simp
theorem Zi1:Zzk T0 ZD JX Znh ZaW:=fun M v xs k h hb hk hk2=>ZmL M v k xs.length h hk hk2
theorem Zyi {D:Type} (mk:Int→D→D) (tot:D→Int) {xs:List D} {i:Nat} (hi:i < xs.length) (k:Int) (h:i < (gmS mk tot k xs).length):(gmS mk tot k xs)[i]=mk (k+gtS tot (xs.take i)) xs[i]:=by
  have e:xs=xs.take i++(xs[i] :: xs.drop (i+1)):=by
    rw [← List.drop_eq_getElem_cons hi,List.take_append_drop]
  have hl:(gmS mk tot k (xs.take i)).length=i:=by rw [ZkL,List.length_take]; omega
  have e2:gmS mk tot k xs=gmS mk tot k (xs.take i)++gmS mk tot (k+gtS tot (xs.take i)) (xs[i] :: xs.drop (i+1)):=by
    conv=>lhs; rw [e]
    exact ZsC mk tot _ _ _
  have e3:(gmS mk tot k xs)[i]?=some (mk (k+gtS tot (xs.take i)) xs[i]):=by
    rw [e2,List.getElem?_append_right (by omega),hl,Nat.sub_self]
    rfl
  rw [List.getElem?_eq_getElem h] at e3
  exact Option.some.inj e3
theorem ZmN:Zzk T0 Zi Zc9 Zni ZbK:=fun M v xs k h hb hk hk2=>by
  have hpos:∀ x ∈ xs,0≤Yy x:=fun x hx=>Int.natCast_nonneg _
  have hk3:k+gtS Yy xs≤4611686018427387904:=hk2
  have hn:=hb.1
  have hn2:(xs.length:Int)≤1048576:=by omega
  have hgl:(Zni k xs).length=xs.length:=ZkL _ _ _ _
  obtain ⟨a,c,rfl⟩:=h.slen
  rw [hgl]
  have hl:=Zl2 (g:=fun i=>lp (Zb T0) Q9 ZbC [.slice a xs.length c,.int .i64 (k+gtS Yy (xs.take i)),O,O,O,.int .i64 i,O,O,O,O,O,O,O,O,O,O,O,O,O,O,O,O] M) (n:=xs.length) fun i hi=>by
    have e6:IntKind.i64.wrap ((i:Int)+1)=i+1:=Zd (by omega) (by omega)
    have ht:=Znf (tot:=Yy) hpos hi
    obtain ⟨_,l,o,rfl,cs,hrd,hrep⟩:=Zga h (i:=i) (by omega)
    rw [Zyi Zi8 Yy hi] at hrep
    obtain ⟨u,rfl,hr⟩:=ZhH hrep
    have e1:=Zi1 M u xs[i] (k+gtS Yy (xs.take i)) hr (hb.2 _ (List.getElem_mem hi)) (by omega) (by show _+Yy xs[i]≤_; omega)
    have hrd':rd1 M l (o+i)=some u:=by
      have:=Q6 hrd (k:=0) (v:=u) rfl
      simpa [Ty.w] using this
    have es:=Zng Yy hi
    have es2:k+gtS Yy (xs.take (i+1))=k+gtS Yy (xs.take i)+ZaW xs[i]:=by rw [es]; exact (Int.add_assoc _ _ _).symm
    have hnn:¬ (k+gtS Yy (xs.take i)+ZaW xs[i] < 0):=by
      have:=ht.1
      have:=hpos _ (List.getElem_mem hi)
      show ¬ (_+Yy xs[i] < 0)
      omega
    simp only [es2]
    rw [ZgV]; unfold ZbM; simp [apA,hi,hrd',e1,e6,hnn]
  have e0:k+gtS Yy (xs.take 0)=k:=by simp [gtS]
  simp only [e0,Int.natCast_zero,Int.ofNat_zero,List.take_length] at hl
  rw [Zc ZmP]; unfold Zfq ZiK; simp [apA,hl]
  rw [ZgV]; unfold ZbM; simp [apA]
set_option maxHeartbeats 4000000 in
theorem Zo2:ZEF T0 ZT ZeK Zls ZeZ:=by
  intro M cs x k h hb hk hk2
  obtain ⟨u0,u1,rfl,w0,r0,r1⟩:=ZbW h
  have t0:=Zn3 _ hb.2.1
  have t1:=ZlV _ hb.2.2
  unfold ZeZ at hk2 ⊢
  obtain ⟨cs,hcs⟩:∃ cs,cs=[.int .i64 (Zls k x).1,u0,u1]:=⟨_,rfl⟩
  have i0:=ZK r0.one
  have i1:=ZK r1.one
  have e0:=ZmN (M++[⟨[.int .i64 (Zls k x).1,u0,u1],1,2⟩]) _ x.2.1 (k) (r0.mono (List.prefix_append _ _)) hb.2.1 (by omega) (by omega)
  have c0:¬ (k+ZbK x.2.1 < 0):=by omega
  have e1:=Zmq (M++[⟨[.int .i64 (Zls k x).1,u0,u1],1,2⟩]) _ x.2.2 (k+ZbK x.2.1) (r1.mono (List.prefix_append _ _)) hb.2.2 (by omega) (by omega)
  have c1:¬ (k+ZbK x.2.1+ZbQ x.2.2 < 0):=by omega
  have hadd:k+ZbK x.2.1+ZbQ x.2.2=k+(ZbK x.2.1+ZbQ x.2.2):=by omega
  rw [← hadd]
  rw [Zc Zpc]; unfold Zg5 Zkl; simp [apA,i0,i1,e0,c0,e1,c1]
theorem Y5 {M:Mem} {a:Option Addr} {n c:Nat} {xs:List Za.D} (h:Rep (.sl Za) M [.slice a n c] xs) {i:Nat} (hi:i < xs.length):∃ l o u,a=some ⟨l,o,none⟩∧rd1 M l (o+i * 3)=some (.int .i64 xs[i].1)∧rd1 M l (o+i * 3+1)=some (.int .i64 xs[i].2.1)∧rd1 M l (o+i * 3+2)=some u∧rdn M l (o+i * 3) 3=some [.int .i64 xs[i].1,.int .i64 xs[i].2.1,u]∧(Lit.int .i64 xs[i].1).wf=true∧(Lit.int .i64 xs[i].2.1).wf=true∧Rep (.sl ZD) M [u] xs[i].2.2∧Rep Za M [.int .i64 xs[i].1,.int .i64 xs[i].2.1,u] xs[i]:=by
  obtain ⟨_,l,o,rfl,cs,hrd,hrep⟩:=Zga h hi
  obtain ⟨u,rfl,w0,w1,hr⟩:=YE hrep
  have hw:Za.w=3:=rfl
  rw [hw] at hrd
  exact ⟨l,o,u,rfl,Q6 hrd (k:=0) rfl,Q6 hrd (k:=1) rfl,Q6 hrd (k:=2) rfl,hrd,w0,w1,hr,hrep⟩
theorem Zmh:Zzk T0 Za Zcn ZjA ZcC:=fun M v xs k h hb hk hk2=>by
  have hpos:∀ x ∈ xs,0≤YC x:=fun x hx=>by have:=Zi5 (hb.2 x hx).2.2.1; omega
  have hk3:k+gtS YC xs≤4611686018427387904:=hk2
  have hn:=hb.1
  have hn2:(xs.length:Int)≤1048576:=by omega
  have hgl:(ZjA k xs).length=xs.length:=ZkL _ _ _ _
  obtain ⟨a,c,rfl⟩:=h.slen
  rw [hgl]
  have hl:=Zl2 (g:=fun i=>lp (Zb T0) QI ZaS [.slice a xs.length c,.int .i64 (k+gtS YC (xs.take i)),O,O,O,.int .i64 i,O,O,O,O,O,O,O,O,O,O,O,O,O,O,O,O,O,O,O,O,O,O,O,O,O,O,O,O,O,O,O,O,O,O] M) (n:=xs.length) fun i hi=>by
    have e6:IntKind.i64.wrap ((i:Int)+1)=i+1:=Zd (by omega) (by omega)
    have ht:=Znf (tot:=YC) hpos hi
    have hbi:=hb.2 _ (List.getElem_mem hi)
    have hbx:=Zi5 hbi.2.2.1
    have hgt:YC xs[i]=2+ZaW xs[i].2.2:=rfl
    have es:=Zng YC hi
    have es2:k+gtS YC (xs.take (i+1))=k+gtS YC (xs.take i)+2+ZaW xs[i].2.2:=by rw [es,hgt]; omega
    obtain ⟨l,o,u,rfl,q1,q2,q3,_,_,_,qu,_⟩:=Y5 h (i:=i) (by omega)
    have hg:(ZjA k xs)[i]'(by omega)=Zhb (k+gtS YC (xs.take i)) xs[i]:=Zyi Zhb YC hi k _
    rw [hg] at q1 q2 qu
    simp only [es2]
    generalize k+gtS YC (xs.take i)=q at *
    have hgb:0≤ZaW xs[i].2.2:=Int.natCast_nonneg _
    have e1:=Zi1 M u xs[i].2.2 (q+2) qu hbi.2.2 (by omega) (by omega)
    have f1:IntKind.i64.wrap (q+1)=q+1:=Zd (by omega) (by omega)
    have f2:IntKind.i64.wrap (q+1+1)=q+2:=by rw [Zd (by omega) (by omega)]; omega
    have hnn:¬ (q+2+ZaW xs[i].2.2 < 0):=by omega
    rw [Zgd]; unfold ZaO; simp [apA,hi,q1,q2,q3,e1,e6,f1,f2,hnn]
  have e0:k+gtS YC (xs.take 0)=k:=by simp [gtS]
  simp only [e0,Int.natCast_zero,Int.ofNat_zero,List.take_length] at hl
  rw [Zc ZlX]; unfold Zeh ZhK; simp [apA,hl]
  rw [Zgd]; unfold ZaO; simp [apA]
set_option maxHeartbeats 4000000 in
theorem ZjQ:ZEF T0 Zx Zb5 Zcy Zg1:=by
  intro M cs x k h hb hk hk2
  obtain ⟨u0,u1,u2,rfl,w0,w1,w2,w3,r0,r1,r2⟩:=Zdk h
  have t0:=ZsU _ hb.2.2.2.1
  have t1:=Zmf _ hb.2.2.2.2
  unfold Zg1 at hk2 ⊢
  obtain ⟨cs,hcs⟩:∃ cs,cs=[.int .i64 (Zcy k x).1,.int .i64 (Zcy k x).2.1,.int .i64 (Zcy k x).2.2.1,.int .i64 (Zcy k x).2.2.2.1.1,u0,u1,u2]:=⟨_,rfl⟩
  have i0:=ZK r0.one
  have i1:=ZK r1.one
  have i2:=ZK r2.one
  have e0:=Zo2 (M++[⟨[.int .i64 (Zcy k x).1,.int .i64 (Zcy k x).2.1,.int .i64 (Zcy k x).2.2.1,.int .i64 (Zcy k x).2.2.2.1.1,u0,u1,u2],1,2⟩]) _ x.2.2.2.1 (k) ((Zep w3 (r0.mono (List.prefix_append _ _)) (r1.mono (List.prefix_append _ _)))) hb.2.2.2.1 (by omega) (by omega)
  have hg0:(Zls k x.2.2.2.1).1=(Zcy k x).2.2.2.1.1:=rfl
  rw [hg0] at e0
  have c0:¬ (k+ZeZ x.2.2.2.1 < 0):=by omega
  have e1:=Zmh (M++[⟨[.int .i64 (Zcy k x).1,.int .i64 (Zcy k x).2.1,.int .i64 (Zcy k x).2.2.1,.int .i64 (Zcy k x).2.2.2.1.1,u0,u1,u2],1,2⟩]) _ x.2.2.2.2 (k+ZeZ x.2.2.2.1) (r2.mono (List.prefix_append _ _)) hb.2.2.2.2 (by omega) (by omega)
  have c1:¬ (k+ZeZ x.2.2.2.1+ZcC x.2.2.2.2 < 0):=by omega
  have hadd:k+ZeZ x.2.2.2.1+ZcC x.2.2.2.2=k+(ZeZ x.2.2.2.1+ZcC x.2.2.2.2):=by omega
  rw [← hadd]
  rw [Zc Zot]; unfold Zgg Zja; simp [apA,i0,i1,i2,e0,c0,e1,c1]
theorem Qf {M:Mem} {l n:Nat} {cs:List V} (h:M[l]?=some ⟨cs,1,2⟩) (hn:n=cs.length):rdn M l 0 n=some cs:=by
  unfold rdn
  rw [h]
  simp [hn]
theorem ZGe (M M':Mem) (v:V):∃ X,gc M (some (v,M'))=some (v,X):=by
  simp only [gc]
  split
  · exact ⟨_,rfl⟩
  · exact ⟨_,rfl⟩
abbrev ZB:Ty:=.pr (.int .i64) (.int .i64)
instance d_Put:DecidableEq ZB.D:=Ty.deq ZB
def ZP (id:Int) (xs:List Za.D):List Za.D:=xs.filter fun b=>decide (b.1 ≠ id)
def ZgA (x:Nat):Nat:=if x=0 then 0 else Nat.log2 x+1
def mtN (m leaf:Nat) (b:Za.D):Nat:=m - ZgA (Int.toNat b.2.1 ^^^ leaf)
def ZaP (id:Int) (xs:List Za.D):Bool:=xs.any fun r=>decide (r.1=id)
def Zfd (m leaf lv:Nat) (s:List ZB.D × List Za.D × Nat) (b:Za.D):List ZB.D × List Za.D × Nat :=
  if ZaP b.1 s.2.1=true∧s.2.2 < 4∧lv≤mtN m leaf b then (s.1++[((lv:Int),b.1)],ZP b.1 s.2.1,s.2.2+1) else s
def ZmC (m leaf:Nat) (xs:List Za.D) (s:List ZB.D × List Za.D) (lv:Nat):List ZB.D × List Za.D :=
  ((xs.foldl (Zfd m leaf lv) (s.1,s.2,0)).1,(xs.foldl (Zfd m leaf lv) (s.1,s.2,0)).2.1)
def ZS (m leaf:Nat) (xs:List Za.D) (k:Nat):List ZB.D × List Za.D:=(List.range k).foldl (fun s j=>ZmC m leaf xs s (m - j)) ([],xs)
def lbB (id:Int) (xs:List Za.D):Nat:=(xs.takeWhile fun b=>decide (b.1 < id)).length
def Zyx (b:Za.D) (ys:List Za.D):List Za.D:=ys.take (lbB b.1 ys)++b :: ys.drop (lbB b.1 ys)
def Zj7 (b:Za.D) (xs:List Za.D):List Za.D:=Zyx b (ZP b.1 xs)
def Zpx (all bs:List Za.D):List Za.D:=bs.foldl (fun a b=>Zj7 b a) all
def Zwl (w:Nat) (ys:List UInt8) (j:Nat):Za.D:=(((ys.getD (j * (w+3)+1) 0).toNat:Int),((ys.getD (j * (w+3)+2) 0).toNat:Int),(ys.drop (j * (w+3)+3)).take w)
def nbF (w:Nat) (ys:List UInt8):Nat→Nat→Nat
  | 0,j=>j
  | k+1,j=>if ys.getD (j * (w+3)) 0=1 then nbF w ys k (j+1) else j
def nbC (w:Nat) (ys:List UInt8):Nat:=nbF w ys 4 0
def ndB (w:Nat) (ys:List UInt8):List Za.D:=(List.range (nbC w ys)).map (Zwl w ys)
def ZqF (w:Int) (cells:List Zi.D) (nd:Nat):List Za.D:=ndB (Int.toNat w) (cells.getD (nd - 1) [])
def Zl4 (w:Int) (cells:List Zi.D) (N m:Nat) (st:List Za.D):Nat→List Za.D
  | 0=>st
  | i+1=>Zpx (Zl4 w cells N m st i) (ZqF w cells (N / 2 ^ (m - i)))
def Znv (x:Zx.D) (lf:Int):List Za.D:=Zl4 x.2.1 x.2.2.2.1.2.1 (2 ^ Int.toNat x.1+Int.toNat lf) (Int.toNat x.1) x.2.2.2.2 (Int.toNat x.1+1)
def Zpq (x:Zx.D) (lf:Int):List Za.D:=(ZS (Int.toNat x.1) (Int.toNat lf) (Znv x lf) (Int.toNat x.1+1)).2
def lgR (sz:Int) (N m:Nat) (log:List Zf.D):Nat→List Zf.D
  | 0=>log
  | i+1=>lgR sz N m log i++[((1:Int),((N / 2 ^ (m - i) - 1:Nat):Int),sz)]
def Zxe (b:Za.D):List UInt8:=1 :: UInt8.ofNat (Int.toNat b.1) :: UInt8.ofNat (Int.toNat b.2.1) :: b.2.2
def ZdR (bs:List Za.D):List UInt8:=bs.flatMap Zxe
def ndY (w:Nat) (bs:List Za.D):List UInt8:=ZdR bs++List.replicate (4 * (w+3) - (ZdR bs).length) 0
def ZyF (id:Int) (xs:List Za.D):Za.D:=(xs.find? fun b=>decide (b.1=id)).getD (0,0,[])
def Zgp (xs:List Za.D) (lv:Int) (plan:List ZB.D):List Za.D:=(plan.filter fun q=>decide (q.1=lv)).map fun q=>ZyF q.2 xs
def wrS (w:Nat) (sz:Int) (N m:Nat) (xs:List Za.D) (plan:List ZB.D) (cells:List Zi.D) (log:List Zf.D):Nat→List Zi.D × List Zf.D
  | 0=>(cells,log)
  | k+1=>((wrS w sz N m xs plan cells log k).1.set (N / 2 ^ k - 1) (ndY w (Zgp xs ((m - k:Nat):Int) plan)),(wrS w sz N m xs plan cells log k).2++[((2:Int),((N / 2 ^ k - 1:Nat):Int),sz)])
def Zth (x:Zx.D) (lf:Int):List ZB.D:=(ZS (Int.toNat x.1) (Int.toNat lf) (Znv x lf) (Int.toNat x.1+1)).1
def ZhN (x:Zx.D) (lf:Int):List Zi.D × List Zf.D:=wrS (Int.toNat x.2.1) x.2.2.2.1.1 (2 ^ Int.toNat x.1+Int.toNat lf) (Int.toNat x.1) (Znv x lf) (Zth x lf) x.2.2.2.1.2.1 (lgR x.2.2.2.1.1 (2 ^ Int.toNat x.1+Int.toNat lf) (Int.toNat x.1) x.2.2.2.1.2.2 (Int.toNat x.1+1)) (Int.toNat x.1+1)
def lgB (l:Int):Bool:=decide (0≤l) && decide (l≤6)
def ZeU (l x:Int):Bool:=lgB l && (decide (0≤x) && decide (x < 2 ^ l.toNat))
def wdB (w:Int):Bool:=decide (1≤w) && decide (w≤200)
def ZBh (i:Int):Bool:=decide (0≤i) && decide (i≤255)
def ZbS (l w:Int) (b:Za.D):Bool:=(lgB l && wdB w) && (ZBh b.1 && (ZeU l b.2.1 && decide ((List.length (α:=UInt8) b.2.2:Int)=w)))
def Zl3 (l w:Int) (xs:List Za.D) (i:Nat):Bool:=match xs[i]? with
  | some b=>ZbS l w b && (i == 0 || match xs[i - 1]? with
    | some p=>decide (p.1 < b.1)
    | none=>true)
  | none=>true
def Z4 (l w:Int) (xs:List Za.D):Bool:=(lgB l && wdB w) && (List.range xs.length).all (Zl3 l w xs)
def ZfD (l w:Int) (ys:List UInt8):Bool:=(lgB l && wdB w) && (decide ((ys.length:Int)=4 * (w+3)) && (Z4 l w (ndB (Int.toNat w) ys) && decide (ndY (Int.toNat w) (ndB (Int.toNat w) ys)=ys)))
def onP (m node leaf:Nat):Bool:=decide ((2 ^ m+leaf) / 2 ^ (m - (ZgA node - 1))=node)
def inO (m nd:Nat) (all:List Za.D):List Za.D→Option (List Za.D)
  | []=>some all
  | b :: bs=>if (onP m nd (Int.toNat b.2.1) && !(ZaP b.1 all))=true then inO m nd (Zj7 b all) bs else none
def ZpM (m:Nat) (w:Int):Nat→List Zi.D→List Za.D→Option (List Za.D)
  | _,[],all=>some all
  | nd,c :: cs,all=>if ZfD m w c=true then (match inO m nd all (ndB (Int.toNat w) c) with
    | some a=>ZpM m w (nd+1) cs a
    | none=>none) else none
def ZeV (l w:Int) (xs:List Za.D):Bool:=decide (xs.length≤128) && Z4 l w xs
def bdB (b:Int):Bool:=decide (0≤b) && decide (b≤64)
def Zxj (sz n a b c:Int):Bool:=decide ((a=1∨a=2)∧0≤b∧b < n∧c=sz)
def ZnO (m:ZT.D) (t:Zf.D):Bool:=Zxj m.1 (m.2.1.length:Int) t.1 t.2.1 t.2.2
def Zq0 (m:ZT.D) (c:Zi.D):Bool:=decide (((List.length (α:=UInt8) c:Nat):Int)=(m.1:Int))
def ZE0 (sz:Int) (n k:Nat):Bool:=decide ((1≤sz∧sz≤1000)∧n≤128∧k≤6000)
def ZAO (m:ZT.D):Bool:=ZE0 m.1 m.2.1.length m.2.2.length && (m.2.1.all (Zq0 m) && m.2.2.all (ZnO m))
def frO (l w b:Int) (m:ZT.D) (st:List Za.D):Bool:=lgB l && (wdB w && (bdB b && (ZAO m && (decide (m.2.1.length=2 * 2 ^ Int.toNat l - 1) && (decide ((m.1:Int)=4 * (w+3)) && (decide ((st.length:Int)≤b) && ZeV l w st))))))
def orX (l w b:Int) (m:ZT.D) (st:List Za.D):Option (List Za.D):=if frO l w b m st=true then ZpM (Int.toNat l) w 1 m.2.1 st else none
def orO (x:Zx.D):Option (List Za.D):=orX x.1 x.2.1 x.2.2.1 x.2.2.2.1 x.2.2.2.2
def acC (log:List Zf.D) (m:Nat) (rest:List Za.D) (b:Int):Int:=if 6000 < log.length+2 * (m+1) then 4 else if b < (rest.length:Int) then 3 else 0
def dmC (x:Zx.D) (lf:Int):Int:=if ((orO x).isSome && ZeU x.1 lf)=true then acC x.2.2.2.1.2.2 (Int.toNat x.1) (Zpq x lf) x.2.2.1 else 1
def Zm2:Zx.D:=((0:Int),(0:Int),(0:Int),((0:Int),[],[]),[])
def dmO (x:Zx.D) (lf:Int):Zx.D:=if dmC x lf=0 then (x.1,x.2.1,x.2.2.1,(x.2.2.2.1.1,(ZhN x lf).1,(ZhN x lf).2),Zpq x lf) else Zm2
def Zcz (xs:List Za.D):Prop:=xs.length≤1048576∧∀ x ∈ xs,List.length (α:=UInt8) x.2.2≤1048576
theorem ZA7 {xs:List Za.D} (h:Bd 1048576 (.sl Za) xs):Zcz xs:=⟨h.1,fun x hx=>(h.2 x hx).2.2.1⟩
theorem ZsY {x:Zx.D} (h:Bd 1048576 Zx x):Zcz x.2.2.2.2∧x.2.2.2.1.2.1.length≤1048576∧∀ c ∈ x.2.2.2.1.2.1,List.length (α:=UInt8) c≤1048576:=⟨ZA7 h.2.2.2.2,h.2.2.2.1.2.1.1,fun c hc=>(h.2.2.2.1.2.1.2 c hc).1⟩
def hs (h:Nat) (b:UInt8):Nat:=((h ^^^ b.toNat) * 16777619) % 4294967296
theorem Zs1 {n m:Nat} (h:n≤m):(2:Int) ^ n≤2 ^ m:=by
  have:=Nat.pow_le_pow_right (show 0 < 2 by omega) h
  exact_mod_cast this
theorem ZkU (M:Mem):∀ (n:Nat) (x:Int),0≤x→x * 2 ^ n≤4611686018427387904→n≤1000 →
    ∃ e0 e1 e2 e4 e5 e6 e7 e8 e9 e10,lp (Zb T0) Zaz ZdN [.int .i64 n,O,O,.int .i64 x,O,O,O,O,O,O,O] M=some (.exit 0,[e0,e1,e2,.int .i64 (x * 2 ^ n),e4,e5,e6,e7,e8,e9,e10],M)
  | 0,x,_,_,_=>by
    rw [Zjn]; unfold Zd8; simp
  | n+1,x,h0,h1,h2=>by
    have hp:(1:Int)≤2 ^ n:=by
      have:(0:Int) < 2 ^ n:=Int.pow_pos (by omega)
      omega
    have e:x * 2 ^ (n+1)=2 * x * 2 ^ n:=by rw [Int.pow_succ,← Int.mul_assoc,Int.mul_right_comm,Int.mul_comm x 2]
    rw [e] at h1
    have hx:2 * x≤2 * x * 2 ^ n:=by
      have:=Int.mul_le_mul_of_nonneg_left hp (show (0:Int)≤2 * x by omega)
      simpa using this
    have ih:=ZkU M n (2 * x) (by omega) h1 (by omega)
    rw [e]
    rw [Zjn]; unfold Zd8; simp
    rw [Zd (z:=2 * x) (by omega) (by omega),Zd (z:=n) (by omega) (by omega)]
    exact ih
theorem Zie (M:Mem) (n:Nat) (h:n≤60):Zb T0 Zcg [.int .i64 n] M=some (.int .i64 (2 ^ n),M):=by
  obtain ⟨e0,e1,e2,e4,e5,e6,e7,e8,e9,e10,ih⟩:=ZkU M n 1 (by omega) (by
    have:(2:Int) ^ n≤2 ^ 60:=Zs1 h
    omega) (by omega)
  rw [Zc Zqh]; unfold Zh4 ZkZ; simp [ih]
theorem ZfV (M:Mem) (x:Int):Zb T0 Zcv [.int .i64 x] M=some (.bool (decide (0≤x) && decide (x≤6)),M):=by
  rw [Zc Zp7]; unfold Zid ZkS; simp
  repeat' ((first | rw [ZnD] | rw [Zl6] | rw [Zoo]); split <;> rename_i hq <;> (have hq2:=hq) <;> (try simp at hq2) <;> (try simp [*]))
theorem ZjF {l:Int} (h:lgB l=true):∃ m:Nat,l=m∧m≤6:=by
  unfold lgB at h
  simp at h
  exact ⟨l.toNat,by omega,by omega⟩
theorem Zak (M:Mem) (l x:Int):Zb T0 Qg [.int .i64 l,.int .i64 x] M=some (.bool (ZeU l x),M):=by
  unfold ZeU
  cases h:lgB l with
  | false =>
    have e:(decide (0≤l) && decide (l≤6))=false:=h
    rw [Zc Zg6]; unfold ZcM ZeG; simp [ZfV,e]
  | true =>
    have e:(decide (0≤l) && decide (l≤6))=true:=h
    obtain ⟨m,rfl,hm⟩:=ZjF h
    have e2:=fun M=>(ZfV M m).trans (by rw [e])
    have e3:=fun M=>Zie M m (by omega)
    by_cases h1:0≤x
    · rw [Zc Zg6]; unfold ZcM ZeG; simp [e2,e3,h1]
    · rw [Zc Zg6]; unfold ZcM ZeG; simp [e2,e3,h1]
theorem Zlp (q:Nat):((2:Int) ^ q)=((2 ^ q:Nat):Int):=by
  induction q with
  | zero=>rfl
  | succ q ih=>rw [Int.pow_succ,ih,Nat.pow_succ,Int.natCast_mul]; rfl
theorem ZfS {m:Nat} {x:Int} (h:ZeU m x=true):x=((Int.toNat x:Nat):Int)∧Int.toNat x < 2 ^ m:=by
  unfold ZeU at h
  simp only [Bool.and_eq_true,decide_eq_true_eq] at h
  obtain ⟨_,h1,h2⟩:=h
  have:((m:Int).toNat)=m:=by omega
  rw [this,Zlp] at h2
  omega
theorem ZpS {m:ZT.D} (h:ZAO m=true):m.2.1.length≤128∧m.2.2.length≤6000∧∀ c ∈ m.2.1,List.length (α:=UInt8) c≤1000:=by
  unfold ZAO ZE0 at h
  simp only [Bool.and_eq_true,decide_eq_true_eq] at h
  obtain ⟨⟨⟨h1,h2⟩,h3,h4⟩,h5,h6⟩:=h
  refine ⟨h3,h4,fun c hc=>?_⟩
  have:=List.all_eq_true.1 h5 c hc
  unfold Zq0 at this
  have:=of_decide_eq_true this
  generalize m.1=sz at *
  omega
abbrev aO (l w b:Int) (sz:Int) (aC:Option Addr) (nC cC:Nat) (aT:Option Addr) (nT cT:Nat) (aS:Option Addr) (nS cS:Nat):List V:=[.int .i64 l,.int .i64 w,.int .i64 b,.int .i64 sz,.slice aC nC cC,.slice aT nT cT,.slice aS nS cS]
theorem Zj3 {M:Mem} {cs:List V} {x:Zx.D} (h:Rep Zx M cs x):∃ (aC:Option Addr) (cC:Nat) (aT:Option Addr) (cT:Nat) (aS:Option Addr) (cS:Nat),cs=aO x.1 x.2.1 x.2.2.1 x.2.2.2.1.1 aC x.2.2.2.1.2.1.length cC aT x.2.2.2.1.2.2.length cT aS x.2.2.2.2.length cS ∧
    Rep ZT M [.int .i64 x.2.2.2.1.1,.slice aC x.2.2.2.1.2.1.length cC,.slice aT x.2.2.2.1.2.2.length cT] x.2.2.2.1∧Rep (.sl Za) M [.slice aS x.2.2.2.2.length cS] x.2.2.2.2:=by
  obtain ⟨u0,u1,u2,rfl,w0,w1,w2,w3,r0,r1,r2⟩:=Zdk h
  obtain ⟨a,c,rfl⟩:=r0.slen
  obtain ⟨b,d,rfl⟩:=r1.slen
  obtain ⟨e,f,rfl⟩:=r2.slen
  exact ⟨a,c,b,d,e,f,rfl,Zep w3 r0 r1,r2⟩
theorem ZqE {n:Nat} {p:Nat→Bool} (h:∀ i,i < n→p i=true):(List.range n).all p=true:=List.all_eq_true.2 fun i hi=>h i (List.mem_range.1 hi)
theorem ZtT {n:Nat} {p:Nat→Bool} (h:∃ i,i < n∧p i=false):(List.range n).all p=false:=by
  obtain ⟨i,hi,hp⟩:=h
  rw [List.all_eq_false]
  exact ⟨i,List.mem_range.2 hi,by rw [hp]; decide⟩
theorem Zd4 (M:Mem) (l w:Int):Zb T0 Q3 [.int .i64 l,.int .i64 w] M=some (.bool (decide (0≤l) && decide (l≤6) && (decide (1≤w) && decide (w≤200))),M):=by
  rw [Zc Zn6]; unfold Zgl Zjk; simp [ZfV]
  rcases hp:(decide (0≤l) && decide (l≤6)) with _ | _
  · simp [hp]
  · simp [hp]
    by_cases h1:1≤w <;> simp [h1]
theorem Zkz (M:Mem) (cs:List V) (b:Za.D) (h:Rep Za M cs b) (l w:Int):Zb T0 Zez [.agg cs.toArray,.int .i64 l,.int .i64 w] M=some (.bool (ZbS l w b),M):=by
  obtain ⟨u,rfl,w0,w1,hr⟩:=YE h
  obtain ⟨a,c,rfl⟩:=hr.slen
  unfold ZbS
  have e1:=fun M=>Zd4 M l w
  have e2:=fun M=>Zak M l b.2.1
  cases h1:lgB l && wdB w with
  | false =>
    have h1:(decide (0≤l) && decide (l≤6) && (decide (1≤w) && decide (w≤200)))=false:=h1
    rw [Zc ZcH]; unfold Zaf Zbq; simp [e1,h1]
  | true =>
    have h1:(decide (0≤l) && decide (l≤6) && (decide (1≤w) && decide (w≤200)))=true:=h1
    unfold ZBh
    by_cases h2:0≤b.1
    · by_cases h3:b.1≤255
      · cases h4:ZeU l b.2.1
        · rw [Zc ZcH]; unfold Zaf Zbq; simp [e1,h1,h2,h3,e2,h4]
        · rw [Zc ZcH]; unfold Zaf Zbq; simp [e1,h1,h2,h3,e2,h4]
      · rw [Zc ZcH]; unfold Zaf Zbq; simp [e1,h1,h2,h3,e2]
    · rw [Zc ZcH]; unfold Zaf Zbq; simp [e1,h1,h2,e2]
theorem Zj2 {l w:Int} {xs:List Za.D} (h:0 < xs.length):Zl3 l w xs 0=ZbS l w xs[0]:=by
  unfold Zl3
  rw [List.getElem?_eq_getElem h]
  simp
theorem ZjH {l w:Int} {xs:List Za.D} {i:Nat} (h:i < xs.length) (h0:0 < i):Zl3 l w xs i=(ZbS l w xs[i] && decide ((xs[i - 1]'(by omega)).1 < xs[i].1)):=by
  unfold Zl3
  rw [List.getElem?_eq_getElem h,List.getElem?_eq_getElem (by omega)]
  have:(i == 0)=false:=by simp; omega
  simp [this]
theorem Zms (M:Mem) (a:Option Addr) (c:Nat) (xs:List Za.D) (l w:Int) (h:Rep (.sl Za) M [.slice a xs.length c] xs) (hn:xs.length≤1048576) :
    ((∀ i,i < xs.length→Zl3 l w xs i=true)∧lp (Zb T0) YM QK [.slice a xs.length c,.int .i64 l,.int .i64 w,O,O,O,O,.int .i64 (0:Nat),O,O,O,O,O,O,O,O,O,O,O,O,O,O,O,O,O,O,O,O,O,O,O,O,O,O,O,O,O,O,O,O,O,O,O,O] M=lp (Zb T0) YM QK [.slice a xs.length c,.int .i64 l,.int .i64 w,O,O,O,O,.int .i64 xs.length,O,O,O,O,O,O,O,O,O,O,O,O,O,O,O,O,O,O,O,O,O,O,O,O,O,O,O,O,O,O,O,O,O,O,O,O] M) ∨
    ((∃ i,i < xs.length∧Zl3 l w xs i=false)∧∀ k,ZjG M [.tmp 6] (Zjx (Ze1 0 (lp (Zb T0) YM QK [.slice a xs.length c,.int .i64 l,.int .i64 w,O,O,O,O,.int .i64 (0:Nat),O,O,O,O,O,O,O,O,O,O,O,O,O,O,O,O,O,O,O,O,O,O,O,O,O,O,O,O,O,O,O,O,O,O,O,O] M)) (Zb T0) k)=some (.bool false,M)):=by
  have key:=Zl1 (call:=Zb T0) (K:=YM) (L:=QK) (fun _ Y=>Y=M) (fun i=>[.slice a xs.length c,.int .i64 l,.int .i64 w,O,O,O,O,.int .i64 i,O,O,O,O,O,O,O,O,O,O,O,O,O,O,O,O,O,O,O,O,O,O,O,O,O,O,O,O,O,O,O,O,O,O,O,O]) (Zl3 l w xs) (n:=xs.length) (M0:=M) (rs:=[.tmp 6]) (k0:=0) (a:=.bool false) M rfl ?_ ?_
  · rcases key with ⟨X',rfl,h1,h2⟩ | h
    · exact .inl ⟨h1,h2⟩
    · exact .inr h
  · intro i Y hi hq e
    subst e
    have e6:IntKind.i64.wrap ((i:Int)+1)=i+1:=Zd (by omega) (by omega)
    have e8:IntKind.i64.wrap 1=1:=Zd (by omega) (by omega)
    obtain ⟨b,o,u,rfl,q1,q2,q3,q4,_,_,qu,qr⟩:=Y5 h hi
    have hc:=Zkz Y _ _ qr l w
    rcases Nat.eq_zero_or_pos i with h0 | h0
    · subst h0
      rw [Zj2 hi] at hq
      refine ⟨Y,rfl,?_⟩
      simp only [Int.natCast_zero,Int.ofNat_zero,Nat.zero_mul,Nat.add_zero] at *
      rw [JD]; unfold Qe; simp [apA,hi,q4,hc,hq,e6,e8]
    · rw [ZjH hi h0,Bool.and_eq_true] at hq
      have hi':(0:Int) < (i:Int):=by omega
      have e7:IntKind.i64.wrap ((i:Int) - 1)=((i - 1:Nat):Int):=by rw [Zd (by omega) (by omega)]; omega
      obtain ⟨b',o',u',e,q1',_⟩:=Y5 h (i:=i - 1) (by omega)
      cases e
      have hlt:=of_decide_eq_true hq.2
      have hge:¬ (xs[i].1≤(xs[i - 1]'(by omega)).1):=Int.not_le.2 hlt
      have hi1:i - 1 < xs.length:=by omega
      refine ⟨Y,rfl,?_⟩
      rw [JD]; unfold Qe; simp [apA,hi,q4,hc,hq.1,e6,hi',h0,e7,q1',q1,hge,hi1]
  · intro i Y hi hq e k
    subst e
    have e6:IntKind.i64.wrap ((i:Int)+1)=i+1:=Zd (by omega) (by omega)
    have e8:IntKind.i64.wrap 1=1:=Zd (by omega) (by omega)
    obtain ⟨b,o,u,rfl,q1,q2,q3,q4,_,_,qu,qr⟩:=Y5 h hi
    have hc:=Zkz Y _ _ qr l w
    rcases Nat.eq_zero_or_pos i with h0 | h0
    · subst h0
      rw [Zj2 hi] at hq
      simp only [Int.natCast_zero,Int.ofNat_zero,Nat.zero_mul,Nat.add_zero] at *
      rw [JD]; unfold Qe; simp [apA,hi,q4,hc,hq,e6,e8]
    · rw [ZjH hi h0] at hq
      have hi':(0:Int) < (i:Int):=by omega
      have e7:IntKind.i64.wrap ((i:Int) - 1)=((i - 1:Nat):Int):=by rw [Zd (by omega) (by omega)]; omega
      obtain ⟨b',o',u',e,q1',_⟩:=Y5 h (i:=i - 1) (by omega)
      cases e
      have hi1:i - 1 < xs.length:=by omega
      cases hb:ZbS l w xs[i] with
      | false =>
        rw [hb] at hc
        rw [JD]; unfold Qe; simp [apA,hi,q4,hc,e6]
      | true =>
        rw [hb] at hc
        rw [hb,Bool.true_and] at hq
        have hlt:=of_decide_eq_false hq
        have hge:xs[i].1≤(xs[i - 1]'(by omega)).1:=Int.not_lt.1 hlt
        rw [JD]; unfold Qe; simp [apA,hi,q4,hc,e6,hi',h0,e7,q1',q1,hge,hi1]
theorem ZjE (M:Mem) (v:V) (xs:List Za.D) (l w:Int) (h:Rep (.sl Za) M [v] xs) (hn:xs.length≤1048576):Zb T0 Zb7 [v,.int .i64 l,.int .i64 w] M=some (.bool (Z4 l w xs),M):=by
  obtain ⟨a,c,rfl⟩:=h.slen
  have e1:=Zd4 M l w
  unfold Z4
  cases h1:lgB l && wdB w with
  | false =>
    have h1:(decide (0≤l) && decide (l≤6) && (decide (1≤w) && decide (w≤200)))=false:=h1
    rw [Zc Zgb]; unfold ZbX Zd1; simp [apA,e1,h1]
  | true =>
    have h1:(decide (0≤l) && decide (l≤6) && (decide (1≤w) && decide (w≤200)))=true:=h1
    rcases Zms M a c xs l w h hn with ⟨ha,e⟩ | ⟨hx,e⟩
    · simp only [Int.natCast_zero,Int.ofNat_zero] at e
      rw [ZqE ha]
      rw [Zc Zgb]; unfold ZbX Zd1; simp [apA,e1,h1,e]
      rw [JD]; unfold Qe; simp [apA]
    · simp only [Int.natCast_zero,Int.ofNat_zero] at e
      rw [ZtT hx]
      rw [Zc Zgb]; unfold ZbX Zd1; simp [apA,e1,h1,e]
theorem Zhf (M:Mem) (v:V) (xs:List Za.D) (l w:Int) (h:Rep (.sl Za) M [v] xs) (hn:xs.length≤1048576):Zb T0 Zbs [v,.int .i64 l,.int .i64 w] M=some (.bool (ZeV l w xs),M):=by
  have e1:=ZjE M v xs l w h hn
  obtain ⟨a,c,rfl⟩:=h.slen
  unfold ZeV
  by_cases hs:xs.length≤128
  · have hs':(xs.length:Int)≤128:=by omega
    rw [Zc Zks]; unfold ZeD Zg2; simp [apA,e1,hs,hs']
  · have hs':¬ (xs.length:Int)≤128:=by omega
    rw [Zc Zks]; unfold ZeD Zg2; simp [apA,e1,hs,hs']
def ZhP (xs:List Za.D):Prop:=xs.Pairwise fun a b=>a.1 < b.1
theorem Zgh {l w:Int} {xs:List Za.D} (h:Z4 l w xs=true):ZhP xs:=by
  unfold Z4 at h
  rw [Bool.and_eq_true] at h
  have h1:∀ i (hi:i+1 < xs.length),(xs[i]'(by omega)).1 < xs[i+1].1:=fun i hi=>by
    have:=List.all_eq_true.1 h.2 (i+1) (List.mem_range.2 hi)
    rw [ZjH hi (by omega),Bool.and_eq_true] at this
    exact of_decide_eq_true this.2
  have h2:∀ d i (hi:i+d+1 < xs.length),(xs[i]'(by omega)).1 < xs[i+d+1].1:=by
    intro d
    induction d with
    | zero=>intro i hi; exact h1 i hi
    | succ d ih=>intro i hi; exact Int.lt_trans (ih i (by omega)) (h1 (i+d+1) hi)
  unfold ZhP
  rw [List.pairwise_iff_getElem]
  intro i j hi hj hij
  obtain ⟨d,rfl⟩:∃ d,j=i+d+1:=⟨j - i - 1,by omega⟩
  exact h2 d i hj
theorem Zhx {l w:Int} {xs:List Za.D} (h:Z4 l w xs=true):∀ b ∈ xs,ZbS l w b=true:=by
  intro b hb
  obtain ⟨i,hi,rfl⟩:=List.getElem_of_mem hb
  unfold Z4 at h
  rw [Bool.and_eq_true] at h
  have:=List.all_eq_true.1 h.2 i (List.mem_range.2 hi)
  unfold Zl3 at this
  rw [List.getElem?_eq_getElem hi] at this
  rw [Bool.and_eq_true] at this
  exact this.1
def Zgv (xs:List Za.D):Prop:=∀ x ∈ xs,0≤x.1∧x.1≤255
theorem ZFD {l w:Int} {b:Za.D} (h:ZbS l w b=true):0≤b.1∧b.1≤255:=by
  unfold ZbS ZBh at h
  simp only [Bool.and_eq_true] at h
  exact ⟨of_decide_eq_true h.2.1.1,of_decide_eq_true h.2.1.2⟩
theorem ZjI {l w:Int} {xs:List Za.D} (h:Z4 l w xs=true):Zgv xs:=fun x hx=>ZFD (Zhx h x hx)
def ndP (w:Nat) (ys:List UInt8) (k:Nat):List Za.D:=(List.range k).map (Zwl w ys)
theorem ZsP (w:Nat) (ys:List UInt8) (k:Nat):(ndP w ys k).length=k:=by simp [ndP]
theorem ZBx (w:Nat) (ys:List UInt8):∀ (k j:Nat),j≤nbF w ys k j∧nbF w ys k j≤j+k
  | 0,j=>by simp [nbF]
  | k+1,j=>by
    have ih:=ZBx w ys k (j+1)
    unfold nbF
    split <;> omega
theorem Zt2 (w:Nat) (ys:List UInt8):nbC w ys≤4:=by have:=(ZBx w ys 4 0).2; unfold nbC; omega
theorem ZFG (w:Nat) (ys:List UInt8):ndP w ys (nbC w ys)=ndB w ys:=rfl
theorem Zh6 (w:Nat) (ys:List UInt8):(ndB w ys).length≤4:=by rw [← ZFG,ZsP]; exact Zt2 w ys
theorem Zqq {m:Nat} {w:Int} {bs:List Za.D} (h:Z4 m w bs=true):∀ b ∈ bs,(0≤b.1∧b.1≤255)∧b.2.1=((Int.toNat b.2.1:Nat):Int)∧Int.toNat b.2.1 < 2 ^ m:=by
  intro b hb
  refine ⟨ZjI h b hb,?_⟩
  have h1:=Zhx h b hb
  unfold ZbS at h1
  simp only [Bool.and_eq_true] at h1
  exact ZfS h1.2.2.1
abbrev Zah:Ty:=.sl Za
def Zd9 (w:Int) (cells:List Zi.D):List Zah.D:=cells.map fun c=>ndB (Int.toNat w) c
theorem gr0 {t:Ty} {M:Mem} {l:Nat} (hb:M[l]?=some ⟨[],t.w,2⟩):Gr (.sl t) M [.slice (some ⟨l,0,none⟩) 0 0] [] [l] :=
  .inr ⟨l,[],[],rfl,hb,rfl,rfl,by simp,by simp⟩
def NsV (M:Mem) (ok:Bool) (xs:List Zah.D) (p:V × Mem):Prop:=∃ r L,p.1=.tuple #[r,.bool ok]∧M <+: p.2∧Gr (.sl Zah) p.2 [r] xs L∧L.Nodup∧∀ j ∈ L,M.length≤j
def ZFa (l w:Int) (cells:List Zi.D) (i:Nat):Bool:=match cells[i]? with
  | some c=>ZfD l w c
  | none=>true
theorem Znr {l w:Int} {cells:List Zi.D} {i:Nat} (hi:i < cells.length):ZFa l w cells i=ZfD l w cells[i]:=by unfold ZFa; rw [List.getElem?_eq_getElem hi]
theorem Zic {M:Mem} {a:Option Addr} {n c:Nat} {xs:List Zi.D} (h:Rep (.sl Zi) M [.slice a n c] xs) {i:Nat} (hi:i < xs.length):∃ l o u,a=some ⟨l,o,none⟩∧rd1 M l (o+i)=some u∧rdn M l (o+i) 1=some [u]∧Rep (.sl ZD) M [u] xs[i]:=by
  obtain ⟨_,l,o,rfl,cs,hrd,hrep⟩:=Zga h hi
  have hl:=hrep.len
  have hw1:Zi.w=1:=rfl
  rw [hw1,Nat.mul_one] at hrd
  match cs,hl,hrd,hrep with
  | [u],_,hrd,hrep=>exact ⟨l,o,u,rfl,ZjY hrd,hrd,hrep⟩
def ndX (l w:Int) (ys:List UInt8):List Za.D:=if ZfD l w ys=true then ndB (Int.toNat w) ys else []
def Zys (w:Nat) (bs:List Za.D):Prop:=∀ b ∈ bs,(0≤b.1∧b.1≤255)∧(0≤b.2.1∧b.2.1≤255)∧List.length (α:=UInt8) b.2.2=w
theorem Zqy (b:Za.D):(Zxe b).length=3+List.length (α:=UInt8) b.2.2:=by
  unfold Zxe
  simp only [List.length_cons]
  omega
theorem Ze2 {w:Nat}:∀ {bs:List Za.D},Zys w bs→(ZdR bs).length=bs.length * (w+3)
  | [],_=>by simp [ZdR]
  | b :: bs,h=>by
    have ih:=Ze2 (w:=w) (bs:=bs) (fun x hx=>h x (List.mem_cons_of_mem _ hx))
    have h1:=(h b (by simp)).2.2
    have h2:=Zqy b
    have e:ZdR (b :: bs)=Zxe b++ZdR bs:=by simp [ZdR]
    rw [e,List.length_append,ih,List.length_cons,Nat.succ_mul]
    omega
theorem ZAT {m w:Nat} {bs:List Za.D} (hm:m≤6) (h:Z4 m w bs=true):Zys w bs:=fun b hb=>by
  have h1:=Zhx h b hb
  unfold ZbS ZBh at h1
  simp only [Bool.and_eq_true] at h1
  obtain ⟨_,⟨h2,h3⟩,h4,h5⟩:=h1
  obtain ⟨h6,h7⟩:=ZfS h4
  have h8:2 ^ m≤2 ^ 6:=Nat.pow_le_pow_right (by omega) hm
  refine ⟨⟨of_decide_eq_true h2,of_decide_eq_true h3⟩,?_,by have:=of_decide_eq_true h5; omega⟩
  have key:∀ q:Int,q=((Int.toNat q:Nat):Int)→Int.toNat q < 2 ^ m→0≤q∧q≤255:=by
    intro q q1 q2
    omega
  exact key _ h6 h7
theorem ZpH (M:Mem) (u:V) (bs:List Za.D) (l w:Int) (h:Rep (.sl Za) M [u] bs) (hn:bs.length≤1048576):Zb T0 ZfJ [.agg #[u],.int .i64 l,.int .i64 w] M=some (.bool (decide (bs.length≤4) && Z4 l w bs),M):=by
  have hp:M <+: M++[(⟨[u],1,2⟩:Blk)]:=List.prefix_append _ _
  have e1:=ZjE _ u bs l w (h.mono hp) hn
  obtain ⟨a,c,rfl⟩:=h.slen
  by_cases h4:bs.length≤4
  · have h4':(bs.length:Int)≤4:=by omega
    rw [decide_eq_true h4,Bool.true_and]
    rw [Zc ZlN]; unfold ZfF Zis; simp [apA,h4,h4',e1]
  · have h4':¬ (bs.length:Int)≤4:=by omega
    rw [decide_eq_false h4,Bool.false_and]
    rw [Zc ZlN]; unfold ZfF Zis; simp [apA,h4,h4',e1]
theorem ZgG {K w:Nat} {X X2:Mem} {v:V} {n:Nat} {cs:List V} (h:Zdg K w X v n cs) {m bytes:Nat} {ys:List V} {x:Option (V × Mem)} (hx:Zdq X2 w bytes v m ys=x) (hp:X <+: X2) (hk:K≤X.length) (hm:ys.length=m * w) (h1:ys.all one=true) (hs:(n+m) * bytes≤140737488355328) (hs2:n+m≤9223372036854775807) :
    ∃ a X3,x=some (.slice a (n+m) (n+m),X3)∧Zdg K w X3 (.slice a (n+m) (n+m)) (n+m) (cs++ys)∧JQ X2 X3 (wfs v)∧X2.length≤X3.length∧∀ b ∈ wfs (.slice a (n+m) (n+m)),b ∈ wfs v∨b=X2.length:=by
  by_cases h0:m=0
  · subst h0
    have hy:ys=[]:=List.length_eq_zero_iff.1 (by omega)
    subst hy
    have e:Zdq X2 w bytes v 0 []=some (v,X2):=by
      obtain ⟨_,⟨rfl,rfl⟩ | ⟨l,_,rfl,_⟩⟩:=h <;> simp [Zdq]
    obtain ⟨a,rfl⟩:=h.shape
    exact ⟨a,X2,hx.symm.trans e,by simpa using h.pre hp,⟨Nat.le_refl _,fun _ _ _=>rfl⟩,Nat.le_refl _,fun b hb=>.inl hb⟩
  · have h2:=h.pre hp
    have e:=h2.app hm (by omega) h1 hs hs2
    refine ⟨_,_,hx.symm.trans e,h2.next hm (by have:=hp.length_le; omega) [],ZjX _ _ _,by rw [List.length_append,Zdx]; simp,fun b hb=>.inr (by simpa [wfs] using hb)⟩
theorem ZpD {bs:List Za.D} {i:Nat} (hi:i < bs.length):ZdR (bs.take (i+1))=ZdR (bs.take i)++Zxe bs[i]:=by
  unfold ZdR
  rw [List.take_succ_eq_append_getElem hi,List.flatMap_append]
  simp
theorem Znl {n:Int} (h:0≤n∧n≤255):Y0 (UInt8.ofNat (Int.toNat n))=.int .u8 n∧IntKind.u8.wrap n=n:=by
  rw [Zrs (by omega),Int.toNat_of_nonneg h.1]
  exact ⟨rfl,ZvW (by omega) (by omega)⟩
theorem ZqM:Y0 1=.int .u8 1:=rfl
def NoI (M0:Mem) (bs:List Za.D) (v:V) (X:Mem):Prop:=M0 <+: X∧Zdg M0.length 1 X v (ZdR bs).length ((ZdR bs).map Y0)
theorem Zxf {t:Ty} {M:Mem} {enc:t.D→List V} (henc:∀ (cs:List V) (x:t.D),Rep t M cs x→cs=enc x) {a:Option Addr} {n c:Nat} {xs:List t.D} (h:Rep (.sl t) M [.slice a n c] xs) {k c2:Nat} (hk:k≤xs.length) :
    Zj M t.w (.slice a k c2)=some (k,((xs.take k).map enc).flatten):=by
  rcases h with ⟨h,rfl⟩ | ⟨l',o',c',blk,css,e,h2,h3,h4,h5,h6,h7⟩
  · simp at h hk
    obtain ⟨rfl,rfl,rfl⟩:=h
    subst hk
    simp [Zj]
  · simp only [List.cons.injEq,Value.slice.injEq,and_true] at e
    obtain ⟨rfl,rfl,rfl⟩:=e
    by_cases hk0:k=0
    · subst hk0
      simp [Zj]
    have hw:=Rep.css_w h5 h6
    have hcs:css=xs.map enc:=by
      apply List.ext_getElem (by simp [h5])
      intro i h1 h2
      rw [List.getElem_map]
      exact henc _ _ (h6 i _ _ (by simp [h1]) (by simp))
    have hlen:=YP hw
    have hpos:=t.w_pos
    have h3':blk.st=1∨blk.st=2:=by
      rcases h3 with h3 | h3 | h3
      · exact .inl h3
      · exact .inr h3
      · subst h3; simp at hk; omega
    obtain ⟨r,hr⟩:=h7
    have hdl:css.flatten.length+r.length=blk.cells.length - o':=by rw [← List.length_drop,← hr,List.length_append]
    have hle:k * t.w≤css.length * t.w:=Nat.mul_le_mul_right _ (by omega)
    have hpos2:0 < k * t.w:=Nat.mul_pos (by omega) hpos
    unfold Zj
    simp only
    rw [if_neg (by omega)]
    unfold rdn
    rw [h2]
    simp only
    rw [if_pos ⟨h3',by omega⟩]
    simp only [Option.map_some]
    congr 2
    rw [← hr,List.take_append_of_le_length (by omega)]
    have e2:css=(xs.take k).map enc++(xs.drop k).map enc:=by rw [hcs,← List.map_append,List.take_append_drop]
    have e3:(((xs.take k).map enc).flatten).length=k * t.w:=by
      rw [YP (w:=t.w) (fun cs hc=>hw cs (by rw [e2]; exact List.mem_append_left _ hc))]
      simp [Nat.min_eq_left hk]
    rw [e2,List.flatten_append,← e3,List.take_left']
    rfl
theorem Zlb (xs:List ZD.D):(xs.map Qq).flatten=xs.map Y0:=by
  induction xs with
  | nil=>rfl
  | cons x xs ih=>simp [ih]
theorem Zdm {M:Mem} {v:V} {ys:List UInt8} (h:Rep (.sl ZD) M [v] ys):∃ a c,v=.slice a ys.length c∧Zj M 1 (.slice a ys.length c)=some (ys.length,ys.map Y0):=by
  obtain ⟨a,c,rfl⟩:=h.slen
  have:=Zxf (enc:=Qq) (fun cs x hx=>hx) h (k:=ys.length) (Nat.le_refl _) (c2:=c)
  rw [List.take_length] at this
  refine ⟨a,c,rfl,?_⟩
  rw [← Zlb]
  exact this
set_option maxHeartbeats 1000000 in
theorem ZnS (M0:Mem) (w p:Nat) (a:Option Addr) (c:Nat) (bs:List Za.D) (hp:M0[p]?=some ⟨[.slice a bs.length c],1,2⟩) (h:Rep (.sl Za) M0 [.slice a bs.length c] bs) (hn:bs.length≤1000) (hw:w≤200) (hk:Zys w bs) (v:V) (Z:Mem) (hZ:NoI M0 [] v Z) :
    ∃ v' X',NoI M0 bs v' X'∧lp (Zb T0) QY ZaE [O,O,.int .i64 (w:Int),.pointer (some ⟨p,0,none⟩),O,O,O,v,.int .i64 (0:Nat),O,O,O,O,O,O,O,O,O,O,O,O,O,O,O,O,O,O,O,O,O,O,O,O,O,O,O,O,O,O,O,O,O,O,O,O,O,O,O,O,O,O,O,O,O] Z=lp (Zb T0) QY ZaE [O,O,.int .i64 (w:Int),.pointer (some ⟨p,0,none⟩),O,O,O,v',.int .i64 bs.length,O,O,O,O,O,O,O,O,O,O,O,O,O,O,O,O,O,O,O,O,O,O,O,O,O,O,O,O,O,O,O,O,O,O,O,O,O,O,O,O,O,O,O,O,O] X':=by
  have key:=YT (call:=Zb T0) (K:=QY) (L:=ZaE) (fun i v X=>NoI M0 (bs.take i) v X) (fun i v=>[O,O,.int .i64 (w:Int),.pointer (some ⟨p,0,none⟩),O,O,O,v,.int .i64 i,O,O,O,O,O,O,O,O,O,O,O,O,O,O,O,O,O,O,O,O,O,O,O,O,O,O,O,O,O,O,O,O,O,O,O,O,O,O,O,O,O,O,O,O,O]) (n:=bs.length) ?_ 0 v Z (by omega) (by simpa using hZ)
  · rw [List.take_length] at key
    exact key
  intro i v X hi ⟨pX,hg⟩
  have e6:IntKind.i64.wrap ((i:Int)+1)=i+1:=Zd (by omega) (by omega)
  have hkt:Zys w (bs.take i):=fun b hb=>hk b (List.mem_of_mem_take hb)
  have hlen:=Ze2 hkt
  have hle:(bs.take i).length * (w+3)≤1000 * 203:=Nat.mul_le_mul (by rw [List.length_take]; omega) (by omega)
  obtain ⟨l,o,u,rfl,q1,q2,q3,_,_,_,hq0,_⟩:=Y5 h hi
  have hki:=hk _ (List.getElem_mem hi)
  unfold NoI
  rw [ZpD hi]
  have hp0:rd1 M0 p 0=some (.slice (some ⟨l,o,none⟩) bs.length c):=Q6 (Qf hp rfl) (k:=0) rfl
  generalize bs[i]=b at *
  generalize ZdR (bs.take i)=ys at *
  obtain ⟨b1,b2,b3⟩:=b
  simp only at q1 q2 q3 hki hq0
  obtain ⟨h1,h2,h3⟩:=hki
  obtain ⟨y1,z1⟩:=Znl h1
  obtain ⟨y2,z2⟩:=Znl h2
  obtain ⟨ua,uc,hu,hsc⟩:=Zdm hq0
  cases hu
  have hll:∀ x ∈ wfs v,M0.length≤x:=hg.ge
  have hlp:=ZI hp
  have hlM:l < M0.length:=ZvU q1
  obtain ⟨av,rfl⟩:=hg.shape
  have r0:=Qt pX hp0
  have r1:=Qt pX q1
  have r2:=Qt pX q2
  have hA:∀ zs:List Nat,(∀ y ∈ zs,y=l∨y=p)→Zfx (wfs (.slice av ys.length ys.length)) zs=false:=fun zs hz=>Zif (K:=M0.length) hll (fun y hy=>by rcases hz y hy with h | h <;> omega)
  have hA2:=hA [l,p,l,p] (by simp)
  rw [Zjg]; unfold Zdy; simp [apA,hi,r0,r1,r2,zeroCells,z1,z2]
  generalize hy:Zdq _ _ _ _ _ _=xhy
  obtain ⟨a2,X2,rfl,hg2,ag2,hl2,hw2⟩:=ZgG hg hy (List.prefix_append _ _) (by have:=pX.length_le; omega) (by rfl) (by rfl) (by omega) (by omega)
  clear hy
  have hpX:M0 <+: X2:=ag2.pre (JZ pX) hg.ge
  have r02:=Qt hpX hp0
  have r32:=Qt hpX q3
  obtain ⟨_,_,hu2,hsc2⟩:=Zdm (hq0.mono hpX)
  cases hu2
  simp [apA,YD,ag2,hA2,hi,r02,r32,hsc2]
  generalize hy:Zdq _ _ _ _ _ _=xhy
  obtain ⟨a3,X3,rfl,hg3,ag3,hl3,hw3⟩:=ZgG hg2 hy (List.prefix_refl _) (by have:=hpX.length_le; omega) (by simp) (Zjy _) (by omega) (by omega)
  clear hy
  have hpX3:M0 <+: X3:=ag3.pre hpX hg2.ge
  simp [apA,e6]
  refine ⟨_,X3,⟨hpX3,?_⟩,rfl⟩
  have hl4:(Zxe (b1,b2,b3)).length=3+List.length (α:=UInt8) b3:=Zqy _
  have hc4:(Zxe (b1,b2,b3)).map Y0=[.int .u8 1,.int .u8 b1,.int .u8 b2]++List.map Y0 b3:=by
    unfold Zxe
    simp only [List.map_cons,ZqM,y1,y2]
    rfl
  rw [hl4,hc4]
  simpa [Nat.add_assoc] using hg3
theorem Zdt (M:Mem) (w sz:Nat) (h1:1≤w) (h2:w≤200) (hs:(sz:Int)=4 * ((w:Int)+3)):Zb T0 Zau [.int .i64 w] M=some (.int .i64 sz,M):=by
  have e1:IntKind.i64.wrap ((w:Int)+3)=w+3:=Zd (by omega) (by omega)
  have e2:IntKind.i64.wrap (4 * ((w:Int)+3))=sz:=by rw [hs]; exact Zd (by omega) (by omega)
  have g1:¬ (w:Int) < 1:=by omega
  have g2:¬ 200 < (w:Int):=by omega
  rw [Zc Zov]; unfold Zf3 Zi9; simp [g1,g2,e1,e2]
def BG (M0 X:Mem) (v:V) (ys:List UInt8):Prop:=∃ n,ys.length=n∧M0 <+: X∧Zdg M0.length 1 X v n (ys.map Y0)
theorem BG.le {M M0 X:Mem} {v:V} {ys:List UInt8} (h:BG M0 X v ys) (hp:M <+: M0):BG M X v ys:=by
  obtain ⟨n,h1,h2,h3⟩:=h
  exact ⟨n,h1,hp.trans h2,h3.le hp.length_le⟩
theorem BG.pre {M0 X:Mem} {v:V} {ys:List UInt8} (h:BG M0 X v ys):M0 <+: X:=by
  obtain ⟨n,h1,h2,h3⟩:=h
  exact h2
theorem BG.sl {M0 X:Mem} {v:V} {ys:List UInt8} (h:BG M0 X v ys):∃ a n,v=.slice a n n∧ys.length=n:=by
  obtain ⟨n,h1,h2,h3⟩:=h
  obtain ⟨a,e⟩:=h3.shape
  exact ⟨a,n,e,h1⟩
def ZAg (M:Mem) (ys:List UInt8) (p:V × Mem):Prop:=BG M p.2 p.1 ys
theorem ZAg.get {M X:Mem} {v:V} {ys:List UInt8} {m:Nat} (h:ZAg M ys (v,X)) (hm:ys.length=m):M <+: X∧(∃ a,v=.slice a m m)∧Zj X 1 v=some (m,ys.map Y0):=by
  obtain ⟨n,rfl,hp,hg⟩:=h
  subst hm
  exact ⟨hp,hg.shape,hg.cells⟩
theorem ZFN {M0 X X1:Mem} {v:V} {n m:Nat} {ys zs:List UInt8} (hp:M0 <+: X) (hg:Zdg M0.length 1 X v n (ys.map Y0)) (hn:ys.length=n) (hx:X <+: X1) (hz:zs.length=m) (h0:0 < m) (hs:n+m≤1000000000) :
    Zdq X1 1 1 v m (zs.map Y0)=some (.slice (some ⟨X1.length,0,none⟩) (n+m) (n+m),ZrR X1 v++[⟨(ys++zs).map Y0,1,2⟩])∧∀ N,BG M0 (ZrR X1 v++⟨(ys++zs).map Y0,1,2⟩ :: N) (.slice (some ⟨X1.length,0,none⟩) (n+m) (n+m)) (ys++zs):=by
  have g:=hg.pre hx
  have a1:=g.app (m:=m) (bytes:=1) (ys:=zs.map Y0) (by simp [hz]) h0 (Zjy _) (by omega) (by omega)
  rw [List.map_append]
  refine ⟨a1,fun N=>⟨n+m,by rw [List.length_append,hn,hz],JZ (ZCh hg.ge (hp.trans hx)),?_⟩⟩
  rw [List.map_append]
  exact g.next (m:=m) (ys:=zs.map Y0) (by simp [hz]) (by have:=(hp.trans hx).length_le; omega) N
theorem ZEm {M0 X:Mem} {v:V} {n:Nat} {ys:List UInt8} (hp:M0 <+: X) (hg:Zdg M0.length 1 X v n (ys.map Y0)) (hn:ys.length=n) (m:Nat) (hs:n+m≤1000000000) :
    ∃ v' X',Zdq X 1 1 v m (zc (.int .u8 0) m)=some (v',X')∧BG M0 X' v' (ys++List.replicate m 0):=by
  by_cases h0:m=0
  · subst h0
    refine ⟨v,X,?_,n,by simpa using hn,hp,by simpa using hg⟩
    obtain ⟨a,rfl⟩:=hg.shape
    unfold Zdq
    rcases hg.2 with ⟨h1,h2⟩ | ⟨l,_,h1,_⟩
    · cases h1; rfl
    · cases h1; rfl
  · obtain ⟨a1,a2⟩:=ZFN (X1:=X) (m:=m) (zs:=List.replicate m 0) hp hg hn (List.prefix_refl _) (by simp) (by omega) hs
    rw [ZmA] at a1
    exact ⟨_,_,a1,a2 []⟩
theorem ZxM {M0 X:Mem} {v:V} {ys:List UInt8} (h:BG M0 X v ys) {n:Nat} (hn:ys.length=n) (m:Nat) (hs:n+m≤1000000000) :
    ∃ v' X',Zdq X 1 1 v m (zc (.int .u8 0) m)=some (v',X')∧BG M0 X' v' (ys++List.replicate m 0):=by
  obtain ⟨n',h1,h2,h3⟩:=h
  exact ZEm h2 h3 h1 m (by omega)
theorem ZkV (M:Mem) (u:V) (bs:List Za.D) (l:Int) (w:Nat) (h:Rep (.sl Za) M [u] bs) (hn:bs.length≤1048576) (hw:w≤200) (hw1:1≤w):Sat (Zb T0 ZaR [.agg #[u],.int .i64 l,.int .i64 (w:Int)] M) (ZAg M (if (decide (bs.length≤4) && Z4 l w bs)=true then ndY w bs else [])):=by
  have hpre:M <+: M++[(⟨[u],1,2⟩:Blk)]:=List.prefix_append _ _
  have e0:=ZpH _ u bs l w (h.mono hpre) hn
  obtain ⟨a,c,rfl⟩:=h.slen
  have hpr:rdn (M++[(⟨[.slice a bs.length c],1,2⟩:Blk)]) M.length 0 1=some [.slice a bs.length c]:=Qf (by simp) rfl
  cases hb:decide (bs.length≤4) && Z4 l w bs with
  | false =>
    rw [hb] at e0
    rw [Zc ZkQ]; unfold ZfH Zil; simp [apA,e0,hpr]
    exact ⟨(_,_),rfl,0,rfl,hpre,Zdg.nil⟩
  | true =>
    rw [hb] at e0
    rw [if_pos rfl]
    rw [Bool.and_eq_true] at hb
    have h4:=of_decide_eq_true hb.1
    have hlg:lgB l=true:=by
      have:=hb.2
      unfold Z4 at this
      simp only [Bool.and_eq_true] at this
      exact this.1.1
    obtain ⟨m,rfl,hm⟩:=ZjF hlg
    have hk:=ZAT hm hb.2
    obtain ⟨v',X',⟨pX,hg⟩,e⟩:=ZnS (M++[⟨[.slice a bs.length c],1,2⟩]) w M.length a c bs (by simp) (h.mono hpre) (by omega) hw hk (.slice (some ⟨M.length+1,0,none⟩) 0 0) (M++[⟨[.slice a bs.length c],1,2⟩,⟨[],1,2⟩]) ⟨by simp,by simp,.inr ⟨M.length+1,by simp,rfl,by simp [ZdR]⟩⟩
    simp only [Int.natCast_zero,Int.ofNat_zero] at e
    have hlen:=Ze2 hk
    have hle:bs.length * (w+3)≤4 * (w+3):=Nat.mul_le_mul_right _ h4
    have e1:=fun X=>Zdt X w (4 * (w+3)) hw1 hw (by omega)
    have e3:IntKind.i64.wrap (((4 * (w+3):Nat):Int) - ((ZdR bs).length:Int))=((4 * (w+3) - (ZdR bs).length:Nat):Int):=by rw [Zd (by omega) (by omega)]; omega
    have hbd1:(((4 * (w+3) - (ZdR bs).length:Nat):Int))≤9223372036854775807:=by omega
    have hbd2:(((4 * (w+3) - (ZdR bs).length:Nat):Int))≤281474976710656:=by omega
    obtain ⟨v2,X2,q,g2⟩:=ZxM (⟨_,rfl,pX,hg⟩:BG (M++[⟨[.slice a bs.length c],1,2⟩]) X' v' (ZdR bs)) rfl (4 * (w+3) - (ZdR bs).length) (by omega)
    obtain ⟨av,rfl⟩:=hg.shape
    obtain ⟨n2,hn2,hp2,hg2⟩:=id g2
    obtain ⟨a2,rfl⟩:=hg2.shape
    generalize hm:4 * (w+3) - (ZdR bs).length=mm at *
    generalize hsz:4 * (w+3)=sz at *
    have hp1:=Qt pX (Q6 hpr (k:=0) rfl)
    rw [Zc ZkQ]; unfold ZfH Zil; simp [apA,e0,hpr,e,zeroCells]
    rw [Zjg]; unfold Zdy; simp [apA,hp1,e1,e3,q,hbd1,hbd2]
    refine ⟨(_,X2),rfl,n2,?_,hpre.trans hp2,?_⟩
    · unfold ndY; rw [hsz,hm]; exact hn2
    · unfold ndY; rw [hsz,hm]; exact hg2.le (by simp)
theorem Zyq (w:Nat) (ys:List UInt8):∀ (k j:Nat),nbF w ys k j < j+k→¬ ys.getD (nbF w ys k j * (w+3)) 0=1
  | 0,j,h=>by simp [nbF] at h
  | k+1,j,h=>by
    unfold nbF at h ⊢
    split
    · rename_i h1
      rw [if_pos h1] at h
      exact Zyq w ys k (j+1) (by omega)
    · rename_i h1
      exact h1
theorem ZkK {M:Mem} {l o n c:Nat} {ys:List UInt8} (h:Rep (.sl ZD) M [.slice (some ⟨l,o,none⟩) n c] ys) {i:Nat} (hi:i < ys.length):rd1 M l (o+i)=some (.int .u8 ((ys.getD i 0).toNat:Int)):=by
  obtain ⟨l',o',e,_,hr⟩:=Zgc h hi
  cases e
  have:ys.getD i 0=ys[i]:=by rw [List.getD_eq_getElem?_getD,List.getElem?_eq_getElem hi]; rfl
  rw [hr,this]
  rfl
theorem ZrE {M:Mem} {l o c:Nat} {ys:List UInt8} {w:Nat} (h:Rep (.sl ZD) M [.slice (some ⟨l,o,none⟩) ys.length c] ys) (hl:ys.length=4 * (w+3)) :
    nbC w ys * (w+3)=ys.length∨(nbC w ys * (w+3) < ys.length∧∃ b:Nat,rd1 M l (o+nbC w ys * (w+3))=some (.int .u8 (b:Int))∧¬ (b:Int)=1):=by
  by_cases h4:nbC w ys=4
  · left; rw [h4,hl]
  · right
    have hle:=Zt2 w ys
    have hlt:nbC w ys * (w+3)+(w+3)≤4 * (w+3):=by rw [← Nat.succ_mul]; exact Nat.mul_le_mul_right _ (by omega)
    refine ⟨by omega,(ys.getD (nbC w ys * (w+3)) 0).toNat,ZkK h (by omega),?_⟩
    have hn:=Zyq w ys 4 0 (by show nbC w ys < 0+4; omega)
    intro e
    refine hn ?_
    show ys.getD (nbC w ys * (w+3)) 0=1
    have e2:(ys.getD (nbC w ys * (w+3)) 0).toNat=1:=by omega
    exact UInt8.toNat_inj.1 e2
theorem Zij {t:Ty} {M:Mem} {l o n c:Nat} {xs:List t.D} (h:Rep (.sl t) M [.slice (some ⟨l,o,none⟩) n c] xs):∃ blk,M[l]?=some blk∧blk.w=t.w∧n=xs.length:=by
  rcases h with ⟨h,_⟩ | ⟨l',o',c',blk,css,e,h2,h3,h4,h5,h6,h7⟩
  · simp at h
  · simp only [List.cons.injEq,Value.slice.injEq,Option.some.injEq,Addr.mk.injEq,and_true,true_and] at e
    obtain ⟨⟨rfl,rfl⟩,rfl,rfl⟩:=e
    exact ⟨blk,h2,h4,rfl⟩
theorem Znt {M:Mem} {x:Za.D} {u:V} {L:List Nat} (w0:(Lit.int .i64 x.1).wf=true) (w1:(Lit.int .i64 x.2.1).wf=true) (r0:Gr (.sl ZD) M [u] x.2.2 L):Gr Za M [.int .i64 x.1,.int .i64 x.2.1,u] x L :=
  ⟨[.int .i64 x.1],[.int .i64 x.2.1,u],[],L,rfl,⟨⟨rfl,w0⟩,rfl⟩,⟨[.int .i64 x.2.1],[u],[],L,rfl,⟨⟨rfl,w1⟩,rfl⟩,r0,rfl⟩,rfl⟩
def rfS:V→List Nat
  | .slice (some a) _ _=>[a.block]
  | _=>[]
theorem ZqD (fr:List V) (w:Nat) (x:Opd) (lo hi:Option Opd):rfp fr (.slc w x lo hi)=rfS (ev fr x):=by
  unfold rfp rfS
  rfl
theorem ZpQ (l o n c:Nat):rfS (.slice (some ⟨l,o,none⟩) n c)=[l]:=rfl
theorem ZsA (w:Nat) (ys:List UInt8):∀ (k j i:Nat),j≤i→i < nbF w ys k j→ys.getD (i * (w+3)) 0=1
  | 0,j,i,h1,h2=>by simp [nbF] at h2; omega
  | k+1,j,i,h1,h2=>by
    unfold nbF at h2
    split at h2
    · rename_i h
      by_cases e:i=j
      · subst e; exact h
      · exact ZsA w ys k (j+1) i (by omega) h2
    · omega
theorem ZtF (w:Nat) (ys:List UInt8) (k:Nat):ndP w ys (k+1)=ndP w ys k++[Zwl w ys k]:=by
  unfold ndP
  rw [List.range_succ,List.map_append]
  rfl
def SnI (M:Mem) (xs:List Za.D) (X:Mem):Prop:=∃ v L,M <+: X∧X[M.length]?=some ⟨[.slice none 0 0],1,2⟩∧X[M.length+1]?=some ⟨[v],1,2⟩∧Gr (.sl Za) X [v] xs L∧L.Nodup∧∀ j ∈ L,M.length+2≤j
theorem Zwg {M:Mem} {b o n c:Nat} {ys:List UInt8} (h:Rep (.sl ZD) M [.slice (some ⟨b,o,none⟩) n c] ys) (l k:Nat) (hk:l+k≤ys.length) (c2:Nat):Rep (.sl ZD) M [.slice (some ⟨b,o+l,none⟩) k c2] ((ys.drop l).take k):=by
  rcases h with ⟨e,rfl⟩ | ⟨l',o',c',blk,css,e,h2,h3,h4,h5,h6,h7⟩
  · simp at e
  · simp only [List.cons.injEq,Value.slice.injEq,Option.some.injEq,Addr.mk.injEq,and_true] at e
    obtain ⟨⟨rfl,rfl⟩,rfl,rfl⟩:=e
    have he:css=ys.map Qq:=by
      apply List.ext_getElem (by simp [h5])
      intro i p q
      have hx:i < ys.length:=by omega
      have:=h6 i css[i] ys[i] (List.getElem?_eq_getElem p) (List.getElem?_eq_getElem hx)
      rw [List.getElem_map]
      exact this
    rw [he,Zlb] at h7
    refine .inr ⟨b,o+l,c2,blk,((ys.drop l).take k).map Qq,?_,h2,?_,h4,?_,?_,?_⟩
    · have:((ys.drop l).take k).length=k:=by rw [List.length_take,List.length_drop]; omega
      rw [this]
    · rcases h3 with h3 | h3 | h3
      · exact .inl h3
      · exact .inr (.inl h3)
      · exact .inr (.inr (by subst h3; simp))
    · rw [List.length_map]
    · intro i ds x hd hx
      rw [List.getElem?_map,hx] at hd
      cases hd
      rfl
    · rw [Zlb,List.map_take,List.map_drop,← List.drop_drop]
      obtain ⟨t,ht⟩:=h7
      rw [← ht,List.drop_append]
      exact (List.take_prefix _ _).trans (List.prefix_append _ _)
theorem Zfs:Zri .u8 Qq (fun _=>True):=⟨fun M x _=>⟨rfl,rfl⟩,fun M cs x h=>⟨h,trivial⟩⟩
theorem Zg7 {xs ys:List Nat} (h:∀ x ∈ xs,∀ y ∈ ys,x ≠ y):Zfx xs ys=false:=by
  unfold Zfx
  rw [List.any_eq_false]
  intro x hx
  simp only [Bool.not_eq_true]
  rw [List.any_eq_false]
  intro y hy
  have:=h x hx y hy
  simp [this]
set_option maxHeartbeats 2000000 in
theorem Zmr (M:Mem) (a:Option Addr) (c:Nat) (ys:List UInt8) (w:Nat) (lg:V) (h:Rep (.sl ZD) M [.slice a ys.length c] ys) (hw:w≤200) (hw1:1≤w) (hl:ys.length=4 * (w+3)) (Z:Mem) (hZ:SnI M [] Z) :
    ∃ (v':Nat) (X':Mem),SnI M (ndB w ys) X'∧lp (Zb T0) Y9 JA [.slice a ys.length c,lg,.int .i64 (w:Int),O,O,O,.pointer (some ⟨M.length,0,none⟩),O,.pointer (some ⟨M.length+1,0,none⟩),.int .i64 ((0 * (w+3):Nat):Int),O,O,O,O,O,O,O,O,O,O,O,O,O,O,O,O,O,O,O,O,O,O,O,O,O,O,O,O,O,O,O,O,O,O,O,O,O,O,O,O,O,O,O,O,O,O,O,O,O,O,O,O,O,O,O,O,O,O,O,O,O,O,O,O,O,O] Z=lp (Zb T0) Y9 JA [.slice a ys.length c,lg,.int .i64 (w:Int),O,O,O,.pointer (some ⟨M.length,0,none⟩),O,.pointer (some ⟨M.length+1,0,none⟩),.int .i64 ((nbC w ys * (w+3):Nat):Int),O,O,O,O,O,O,O,O,O,O,O,O,O,O,O,O,O,O,O,O,O,O,O,O,O,O,O,O,O,O,O,O,O,O,O,O,O,O,O,O,O,O,O,O,O,O,O,O,O,O,O,O,O,O,O,O,O,O,O,O,O,O,O,O,O,O] X':=by
  refine YT (call:=Zb T0) (K:=Y9) (L:=JA) (fun i (_:Nat) X=>SnI M (ndP w ys i) X) (fun i (_:Nat)=>[.slice a ys.length c,lg,.int .i64 (w:Int),O,O,O,.pointer (some ⟨M.length,0,none⟩),O,.pointer (some ⟨M.length+1,0,none⟩),.int .i64 ((i * (w+3):Nat):Int),O,O,O,O,O,O,O,O,O,O,O,O,O,O,O,O,O,O,O,O,O,O,O,O,O,O,O,O,O,O,O,O,O,O,O,O,O,O,O,O,O,O,O,O,O,O,O,O,O,O,O,O,O,O,O,O,O,O,O,O,O,O,O,O,O,O]) (n:=nbC w ys) ?_ 0 0 Z (by omega) (by simpa [ndP] using hZ)
  intro i _ X hi ⟨v,L,pX,br,bp,g0,nd,ge0⟩
  have hi4:=Zt2 w ys
  have hone:=ZsA w ys 4 0 i (by omega) hi
  have hbnd:i * (w+3)+(w+3)≤4 * (w+3):=by rw [← Nat.succ_mul]; exact Nat.mul_le_mul_right _ (by omega)
  rw [ZtF]
  have hlen:=ZsP w ys i
  generalize ndP w ys i=xs at g0 hlen ⊢
  obtain ⟨l,o,rfl,_,_⟩:=Zgc h (i:=0) (by omega)
  have hlM:l < M.length:=by obtain ⟨blk,hbk,_⟩:=Zij h; exact ZI hbk
  have b0:=Qt pX (ZkK h (i:=i * (w+3)) (by omega))
  have b1:=Qt pX (ZkK h (i:=i * (w+3)+1) (by omega))
  have b2:=Qt pX (ZkK h (i:=i * (w+3)+2) (by omega))
  rw [hone] at b0
  have hnxt:(i+1) * (w+3)=i * (w+3)+(w+3):=Nat.succ_mul _ _
  have hsub:=Zwg (h.mono pX) (i * (w+3)+3) w (by omega)
  have hbd:Zwl w ys i=(((ys.getD (i * (w+3)+1) 0).toNat:Int),((ys.getD (i * (w+3)+2) 0).toNat:Int),(ys.drop (i * (w+3)+3)).take w):=rfl
  have hdl:List.length (α:=UInt8) ((ys.drop (i * (w+3)+3)).take w)=w:=by rw [List.length_take,List.length_drop]; omega
  have n1:(ys.getD (i * (w+3)+1) 0).toNat < 256:=UInt8.toNat_lt _
  have n2:(ys.getD (i * (w+3)+2) 0).toNat < 256:=UInt8.toNat_lt _
  rw [hbd]
  generalize (ys.drop (i * (w+3)+3)).take w=dat at *
  generalize (ys.getD (i * (w+3)+1) 0).toNat=q1 at *
  generalize (ys.getD (i * (w+3)+2) 0).toNat=q2 at *
  generalize hat:i * (w+3)=at0 at *
  have e1:IntKind.i64.wrap ((at0:Int)+1)=(at0:Int)+1:=Zd (by omega) (by omega)
  have e2:IntKind.i64.wrap ((at0:Int)+2)=(at0:Int)+2:=Zd (by omega) (by omega)
  have e3:IntKind.i64.wrap ((at0:Int)+3)=(at0:Int)+3:=Zd (by omega) (by omega)
  have e4:IntKind.i64.wrap ((at0:Int)+3+(w:Int))=(at0:Int)+3+(w:Int):=Zd (by omega) (by omega)
  have e5:IntKind.i64.wrap ((at0:Int)+(w:Int))=(at0:Int)+(w:Int):=Zd (by omega) (by omega)
  have e6:IntKind.i64.wrap ((at0:Int)+(w:Int)+3)=(at0:Int)+(w:Int)+3:=Zd (by omega) (by omega)
  have d1:(0:Int)≤(at0:Int)+1∧(at0:Int)+1 < (ys.length:Int):=by omega
  have d2:(0:Int)≤(at0:Int)+2∧(at0:Int)+2 < (ys.length:Int):=by omega
  have d3:(0:Int)≤(at0:Int)+3∧(at0:Int)+3≤(at0:Int)+3+(w:Int)∧((at0:Int)+3+(w:Int)≤(ys.length:Int)∨(at0:Int)+3+(w:Int)≤(c:Int)):=by omega
  have d5:((at0:Int)+2).toNat=at0+2:=by omega
  have d6:((at0:Int)+3).toNat=at0+3:=by omega
  have d7:((at0:Int)+1).toNat=at0+1:=by omega
  have d4:((at0:Int)+3+(w:Int) - ((at0:Int)+3)).toNat=w:=by omega
  have c1:IntKind.i64.wrap (q1:Int)=q1:=Zd (by omega) (by omega)
  have c2:IntKind.i64.wrap (q2:Int)=q2:=Zd (by omega) (by omega)
  have g1:at0 < ys.length:=by omega
  obtain ⟨blk,hbk,hbw⟩:=Zij h
  have hbw1:blk.w=1:=hbw.1
  have hbX:=fun N:Mem=>Zw (N:=N) (Zh pX hbk)
  have hbX0:=Zh pX hbk
  obtain ⟨av,rfl⟩:=g0.shape
  have hpl:=pX.length_le
  have hbpl:=ZI bp
  have hwL:∀ b ∈ wfs (.slice av xs.length xs.length),M.length+2≤b:=by
    obtain ⟨_,_,hw⟩:=g0.gr (K:=0) (by simp)
    exact fun b hb=>ge0 b (hw b hb)
  have rp:rd1 X (M.length+1) 0=some (.slice av xs.length xs.length):=Q6 (Qf bp rfl) (k:=0) rfl
  have hdl2:List.length (α:=UInt8) dat=w:=hdl
  obtain ⟨_,hc0,_⟩:=Zeg Zfs ((hsub (max ys.length c - (at0+3))).mono (List.prefix_append X [(⟨[],1,2⟩:Blk)]))
  have hc0:Zj (X++[(⟨[],1,2⟩:Blk)]) 1 (.slice (some ⟨l,o+(at0+3),none⟩) w (max ys.length c - (at0+3)))=some (w,(List.map Qq dat).flatten):=by rw [← hdl2] at hc0 ⊢; exact hc0
  have hX1:Zfx [X.length] [l,l,l,M.length+1]=false:=Zg7 fun x hx y hy e=>by simp at hx hy; omega
  have hX2:Zfx (wfs (.slice av xs.length xs.length)) [l,l,l,M.length+1]=false:=Zif (K:=M.length+2) hwL (by simp; omega)
  rw [Zhy]; unfold Zcs; simp [apA,b0,b1,b2,g1,rp,d1,d2,d3,d4,d5,d6,d7,e1,e2,e3,e4,c1,c2,hbX,hbX0,hbw1,ZqD,ZpQ,hc0,zeroCells]
  generalize hy:Zdq _ _ _ _ _ _=xhy
  rw [← hdl2] at hy
  obtain ⟨l2,X3,rfl,hl2,gb,ag⟩:=Zq5 (t:=.u8) (xs:=dat) Zfs hy (by simp [Ty.w]) (by simp) (by omega) (by omega)
  clear hy
  rw [hdl2] at gb ⊢
  have p3:X <+: X3:=ag.pre (List.prefix_append _ _) (by simp)
  simp [apA,YD,ag,hX1,zeroCells,ZqD,ZpQ]
  generalize hy:Zdq _ _ _ _ _ _=xhy
  have w0:(Lit.int .i64 (q1:Int)).wf=true:=ZqQ (by omega) (by omega)
  have w1:(Lit.int .i64 (q2:Int)).wf=true:=ZqQ (by omega) (by omega)
  obtain ⟨l4,X4,L',rfl,g4,ag2,len2,hw4,nd4,sub4,hl4⟩:=g0.app (t:=Za) hy (p3.trans (List.prefix_append _ _)) (Znt (x:=((q1:Int),(q2:Int),dat)) w0 w1 (gb.grow (List.prefix_append _ _))) (by simpa using hl2) nd (by simp) (by rw [hlen]; omega) (by rw [hlen]; omega)
  clear hy
  have hx3:=p3.length_le
  have pX4:M <+: X4:=ag2.pre (JZ (pX.trans p3)) (fun b hb=>by have:=hwL b hb; omega)
  have br4:X4[M.length]?=some ⟨[.slice none 0 0],1,2⟩:=ag2.get (Zw (Zh p3 br)) (fun hm=>by have:=hwL _ hm; omega)
  have bp4:X4[M.length+1]?=some ⟨[.slice av xs.length xs.length],1,2⟩:=ag2.get (Zw (Zh p3 bp)) (fun hm=>by have:=hwL _ hm; omega)
  have hwr:∀ u:V,one u=true→wrn X4 (M.length+1) 0 [u]=some (X4.set (M.length+1) ⟨[u],1,2⟩):=fun u hu=>by
    rw [ZdU bp4 rfl (by simp) (by simp [hu])]
    rfl
  have hwr4:=hwr (.slice (some ⟨l4,0,none⟩) (xs.length+1) (xs.length+1)) rfl
  simp [apA,YD,ag2,hX2,hwr4,e5,e6]
  have hge4:∀ j ∈ L',M.length+2≤j:=fun j hj=>by
    rcases sub4 j hj with h | h | h
    · exact ge0 j h
    · simp at h; omega
    · simp at hl4; omega
  have hfin:((i:Int)+1) * ((w:Int)+3)=(at0:Int)+(w:Int)+3:=by
    have e9:((i * (w+3):Nat):Int)=(i:Int) * ((w:Int)+3):=by rw [Int.natCast_mul]; rfl
    rw [Int.add_mul,Int.one_mul,← e9,hat]
    omega
  refine ⟨X4.set (M.length+1) ⟨[.slice (some ⟨l4,0,none⟩) (xs.length+1) (xs.length+1)],1,2⟩,⟨_,L',QQ (by omega) pX4,by rw [Je (by omega)]; exact br4,ZbN bp4 _,g4.set _ (fun hm=>by have:=hge4 _ hm; omega),nd4,hge4⟩,?_⟩
  rw [hfin]
def SrV (M:Mem) (ok:Bool) (bs:List Za.D) (p:V × Mem):Prop:=∃ r L,p.1=.tuple #[.agg #[r],.bool ok]∧M <+: p.2∧Gr (.sl Za) p.2 [r] bs L∧L.Nodup∧∀ j ∈ L,M.length≤j
theorem Zf8:∀ ys:List UInt8,Zf6 (ys.map Y0)=some ys
  | []=>rfl
  | y :: ys=>by
    simp [Zf6,Y0,Zf8 ys]
theorem ZxE {M0 X:Mem} {v:V} {ys:List UInt8} (h:BG M0 X v ys):∃ L,M0 <+: X∧Own (.sl ZD) X [v] ys L∧Zlh M0 X L:=by
  obtain ⟨n,rfl,hp,hg⟩:=h
  rcases hg.2 with ⟨rfl,h0⟩ | ⟨l,hl,rfl,hb⟩
  · have:ys=[]:=List.length_eq_zero_iff.1 h0
    subst this
    exact ⟨[],hp,.inl ⟨rfl,rfl,.inl ⟨rfl,rfl⟩⟩,by simp,by simp⟩
  · obtain ⟨L,o1,o2⟩:=ZwW (t:=ZD) (M:=X) (l:=l) (c:=ys.length) (enc:=Qq) (ys:=ys) (by rw [Zlb]; exact hb) (fun y _=>Zqd _ y)
    refine ⟨L,hp,o1,Zpy Zol o1,fun j hj=>?_⟩
    rw [o2 j hj]
    exact ⟨hl,ZI hb⟩
set_option maxHeartbeats 2000000 in
theorem Zjb (M:Mem) (v:V) (ys:List UInt8) (l w:Int) (h:Rep (.sl ZD) M [v] ys) (hn:ys.length≤1048576):Sat (Zb T0 Zaw [v,.int .i64 l,.int .i64 w] M) (SrV M (ZfD l w ys) (ndX l w ys)):=by
  have e1:∀ M,Zb T0 Q3 [.int .i64 l,.int .i64 w] M=some (.bool (lgB l && wdB w),M):=fun M=>Zd4 M l w
  obtain ⟨a,c,rfl⟩:=h.slen
  have hnil:∀ {X:Mem},Gr (.sl Za) X [.slice none 0 0] [] []:=Gr.nil
  have hpre:M <+: M++[(⟨[.slice none 0 0],1,2⟩:Blk)]:=List.prefix_append _ _
  cases h1:lgB l && wdB w with
  | false =>
    have hs:ZfD l w ys=false:=by unfold ZfD; rw [h1]; rfl
    have hx:ndX l w ys=[]:=by simp [ndX,hs]
    rw [hs,hx]
    rw [h1] at e1
    rw [Zc Zgf]; unfold ZbT Zd0; simp [apA,e1]
    exact ⟨(_,_),rfl,_,[],rfl,hpre,hnil,by simp,by simp⟩
  | true =>
    rw [h1] at e1
    rw [Bool.and_eq_true] at h1
    have hw:1≤w∧w≤200:=by have:=h1.2; unfold wdB at this; simpa using this
    obtain ⟨W,rfl⟩:∃ W:Nat,w=(W:Int):=⟨Int.toNat w,by omega⟩
    have hW:Int.toNat (W:Int)=W:=by omega
    have e2:=fun M=>Zdt M W (4 * (W+3)) (by omega) (by omega) (by omega)
    by_cases h3:(ys.length:Int)=4 * ((W:Int)+3)
    · have h3n:ys.length=4 * (W+3):=by omega
      have e2:=fun M=>Zdt M W ys.length (by omega) (by omega) (by omega)
      have hO:ZfD l W ys=(Z4 l W (ndB W ys) && decide (ndY W (ndB W ys)=ys)):=by
        unfold ZfD
        rw [h1.1,h1.2,hW]
        simp [h3]
      have hX:ndX l W ys=if ZfD l W ys=true then ndB W ys else []:=by unfold ndX; rw [hW]
      obtain ⟨_,X1,⟨v1,L1,p1,br,bp,g1,n1,k1⟩,e⟩:=Zmr M a c ys W (.int .i64 l) h (by omega) (by omega) h3n (M++[⟨[.slice none 0 0],1,2⟩,⟨[.slice none 0 0],1,2⟩]) ⟨.slice none 0 0,[],List.prefix_append _ _,by simp,by simp,Gr.nil,by simp,by simp⟩
      simp only [Nat.zero_mul,Int.natCast_zero,Int.ofNat_zero] at e
      have hblen:=Zh6 W ys
      obtain ⟨l0,o0,rfl,_,_⟩:=Zgc h (i:=0) (by omega)
      have hex:=ZrE h h3n
      rw [hX,hO]
      have hNO:=ZkV X1 v1 (ndB W ys) l W g1.rep (by omega) (by omega) (by omega)
      rw [decide_eq_true hblen,Bool.true_and] at hNO
      generalize ndB W ys=bs at *
      generalize hat:nbC W ys * (W+3)=at0 at *
      obtain ⟨a1,rfl⟩:=g1.shape
      have hv1:rdn X1 (M.length+1) 0 1=some [.slice a1 bs.length bs.length]:=Qf bp rfl
      have hr1:rdn X1 M.length 0 1=some [.slice none 0 0]:=Qf br rfl
      have hcase:(((¬ (at0:Int) < (ys.length:Int))∧(¬ at0 < ys.length))∧(¬ at0 < ys.length))∨(at0 < ys.length∧∃ b:Nat,rd1 X1 l0 (o0+at0)=some (.int .u8 (b:Int))∧¬ (b:Int)=1):=by
        rcases hex with hh | ⟨hh,b,q1,q2⟩
        · exact .inl ⟨⟨by omega,by omega⟩,by omega⟩
        · exact .inr ⟨hh,b,Qt p1 q1,q2⟩
      rcases hcase with ⟨⟨F1,F2⟩,F3⟩ | ⟨F1,b,F2,F3⟩
      all_goals
        rw [Zc Zgf]; unfold ZbT Zd0; simp [apA,e1,e2,e,zeroCells]
        rw [Zhy]; unfold Zcs; simp [apA,F1,F2,F3,hv1]
        generalize hx:Zb T0 ZaR _ _=xhx
        obtain ⟨v2,X2,rfl,g2⟩:=ZQ hx hNO
        clear hx
        obtain ⟨L2,p2,o2,_⟩:=ZxE g2
        obtain ⟨a2,c2,hv2,hs2⟩:=Zdm o2.rep
        cases hv2
        obtain ⟨a3,c3,hv3,hs3⟩:=Zdm (h.mono (p1.trans p2))
        cases hv3
        have hv2:=ZjS p2 hv1
        have hr2:=ZjS p2 hr1
        have hpM:=p1.trans p2
        have br2:=Zh p2 br
        have hwn:∀ u:V,one u=true→wrn X2 M.length 0 [u]=some (X2.set M.length ⟨[u],1,2⟩):=fun u hu=>by
          rw [ZdU br2 rfl (by simp) (by simp [hu])]
          rfl
        have hwn0:=hwn (.slice none 0 0) rfl
        have hwn1:=hwn (.slice a1 bs.length bs.length) rfl
        have hrs:∀ u:V,rdn (X2.set M.length ⟨[u],1,2⟩) M.length 0 1=some [u]:=fun u=>Qf (ZbN br2 _) rfl
        have hpS:∀ k:Blk,M <+: X2.set M.length k:=fun k=>QQ (Nat.le_refl _) hpM
        have hgS:∀ k:Blk,Gr (.sl Za) (X2.set M.length k) [.slice a1 bs.length bs.length] bs L1:=fun k=>(g1.grow p2).set _ (fun hm=>by have:=k1 _ hm; omega)
        have hk1:∀ j ∈ L1,M.length≤j:=fun j hj=>by have:=k1 j hj; omega
        cases hb:Z4 l W bs with
        | false =>
          rw [hb] at hs2
          have hne:¬ ([]:List UInt8)=ys:=fun e=>by rw [← e] at h3n; simp at h3n
          have hie:ys.isEmpty=false:=by cases ys with
            | nil=>exact absurd rfl hne
            | cons _ _=>rfl
          rw [Bool.false_and,if_neg (by simp)]
          simp only [Bool.false_eq_true,if_false,List.length_nil,List.map_nil] at hs2
          have ht0:Zf6 []=some []:=rfl
          simp [apA,Jo,p2,hb,hs2,hs3,Zf8,ht0,hne,hie,hwn0,hrs,zeroCells]
          exact ⟨(_,_),rfl,_,[],rfl,hpS _,hnil,by simp,by simp⟩
        | true =>
          rw [hb] at hs2
          rw [Bool.true_and]
          simp only [if_true] at hs2
          simp only [if_true,true_and]
          by_cases hq:ndY W bs=ys
          · rw [decide_eq_true hq,if_pos hq]
            rw [hq] at hs2
            simp [apA,Jo,p2,hb,hs2,hs3,Zf8,hq,hv2,hwn1,hrs,zeroCells]
            exact ⟨(_,_),rfl,_,L1,rfl,hpS _,hgS _,n1,hk1⟩
          · rw [decide_eq_false hq,if_neg hq]
            simp [apA,Jo,p2,hb,hs2,hs3,Zf8,hq,hwn0,hrs,zeroCells]
            exact ⟨(_,_),rfl,_,[],rfl,hpS _,hnil,by simp,by simp⟩
    · have hs:ZfD l W ys=false:=by unfold ZfD; rw [decide_eq_false h3]; simp
      have hx:ndX l W ys=[]:=by simp [ndX,hs]
      rw [hs,hx]
      have h3':¬ (ys.length:Int)=((4 * (W+3):Nat):Int):=by omega
      generalize hsz:4 * (W+3)=sz at *
      rw [Zc Zgf]; unfold ZbT Zd0; simp [apA,e1,e2,h3',zeroCells]
      exact ⟨(_,_),rfl,_,[],rfl,hpre,hnil,by simp,by simp⟩
def NsI (M:Mem) (xs:List Zah.D) (v:V) (X:Mem):Prop:=∃ L,M <+: X∧Gr (.sl Zah) X [v] xs L∧L.Nodup∧∀ j ∈ L,M.length≤j
set_option maxHeartbeats 2000000 in
theorem Zmt (M:Mem) (l w b:Int) (sz:Int) (aC:Option Addr) (cC:Nat) (aT:Option Addr) (nT cT:Nat) (aS:Option Addr) (nS cS:Nat) (cells:List Zi.D) (hC:Rep (.sl Zi) M [.slice aC cells.length cC] cells) (hn:cells.length≤1048576) (hsz:∀ c ∈ cells,List.length (α:=UInt8) c≤1048576) (p:Nat)
    (Z:Mem) (hZ:M <+: Z) (hp:Z[p]?=some ⟨aO l w b sz aC cells.length cC aT nT cT aS nS cS,1,2⟩) (v:V) (X:Mem) (h:NsI Z [] v X) :
    (∃ v' X',NsI Z (Zd9 w cells) v' X'∧(∀ i,i < cells.length→ZFa l w cells i=true)∧lp (Zb T0) YQ QJ [O,.pointer (some ⟨p,0,none⟩),O,O,v,.int .i64 (0:Nat),O,O,O,O,O,O,O,O,O,O,O,O,O,O,O,O,O,O,O,O,O,O,O,O,O,O,O,O,O,O,O,O,O] X=lp (Zb T0) YQ QJ [O,.pointer (some ⟨p,0,none⟩),O,O,v',.int .i64 cells.length,O,O,O,O,O,O,O,O,O,O,O,O,O,O,O,O,O,O,O,O,O,O,O,O,O,O,O,O,O,O,O,O,O] X') ∨
    ((∃ i,i < cells.length∧ZFa l w cells i=false)∧∀ k,Sat (ZjG M [.tmp 2,.tmp 3] (Zjx (Ze1 0 (lp (Zb T0) YQ QJ [O,.pointer (some ⟨p,0,none⟩),O,O,v,.int .i64 (0:Nat),O,O,O,O,O,O,O,O,O,O,O,O,O,O,O,O,O,O,O,O,O,O,O,O,O,O,O,O,O,O,O,O,O] X)) (Zb T0) k)) (NsV M false [])):=by
  have key:=Zs7 (call:=Zb T0) (K:=YQ) (L:=QJ) (fun i v X=>NsI Z (Zd9 w (cells.take i)) v X) (fun i v=>[O,.pointer (some ⟨p,0,none⟩),O,O,v,.int .i64 i,O,O,O,O,O,O,O,O,O,O,O,O,O,O,O,O,O,O,O,O,O,O,O,O,O,O,O,O,O,O,O,O,O]) (ZFa l w cells) (NsV M false []) (n:=cells.length) (M0:=M) (rs:=[.tmp 2,.tmp 3]) (k0:=0) v X (by simpa [Zd9] using h) ?_ ?_
  · rw [List.take_length] at key
    exact key
  · intro i v X hi hq ⟨L,pX,g0,nd,ge⟩
    rw [Znr hi] at hq
    have hbX:=Zh pX hp
    obtain ⟨lc,oc,u,rfl,hrd,hrn,hu⟩:=Zic (hC.mono (hZ.trans pX)) hi
    have hszi:=hsz _ (List.getElem_mem hi)
    obtain ⟨ua,uc,rfl⟩:=hu.slen
    have hNR:=Zjb X (.slice ua (List.length (α:=UInt8) cells[i]) uc) cells[i] l w hu hszi
    have hx:ndX l w cells[i]=ndB (Int.toNat w) cells[i]:=by unfold ndX; rw [if_pos hq]
    rw [hq,hx] at hNR
    have hts:Zd9 w (cells.take (i+1))=Zd9 w (cells.take i)++[ndB (Int.toNat w) cells[i]]:=by
      unfold Zd9
      rw [List.take_succ_eq_append_getElem hi,List.map_append]
      rfl
    rw [hts]
    have hlen:(Zd9 w (cells.take i)).length=i:=by unfold Zd9; rw [List.length_map,List.length_take]; omega
    generalize Zd9 w (cells.take i)=xs at *
    generalize ndB (Int.toNat w) cells[i]=bs at *
    generalize cells[i]=c at *
    have e6:IntKind.i64.wrap ((i:Int)+1)=i+1:=Zd (by omega) (by omega)
    have r0:rd1 X p 0=some (.int .i64 l):=by simp [rd1,hbX]
    have r1:rd1 X p 1=some (.int .i64 w):=by simp [rd1,hbX]
    have r4:rd1 X p 4=some (.slice (some ⟨lc,oc,none⟩) cells.length cC):=by simp [rd1,hbX]
    rw [Zeq]; unfold Zav; simp [apA,hi,r0,r1,r4,hrd,zeroCells]
    generalize hx:Zb T0 Zaw _ _=xhx
    obtain ⟨_,X1,rfl,r,L1,rfl,p1,g1,n1,k1⟩:=ZQ hx hNR
    clear hx
    simp only at p1 g1
    obtain ⟨a1,rfl⟩:=g1.shape
    simp [apA,Jo,p1,zeroCells]
    generalize hy:Zdq _ _ _ _ _ _=xhy
    have hdis:∀ j ∈ L1,j ∉ L:=fun j hj hm=>by have:=k1 j hj; have:=g0.lt j hm; omega
    obtain ⟨l4,X4,L',rfl,g4,ag2,len2,hw4,nd4,sub4,hl4⟩:=g0.app (t:=Zah) hy (p1.trans (List.prefix_append _ _)) (show Gr Zah _ _ bs L1 from g1.grow (List.prefix_append _ _)) (fun j hj=>k1 j hj) nd n1 (by rw [hlen]; omega) (by rw [hlen]; omega)
    clear hy
    have hwL:∀ b ∈ wfs v,Z.length≤b:=by
      obtain ⟨_,_,hw⟩:=g0.gr (K:=0) (by simp)
      exact fun b hb=>ge b (hw b hb)
    have pX4:Z <+: X4:=ag2.pre (JZ (pX.trans p1)) hwL
    simp [apA,e6]
    refine ⟨_,_,⟨L',pX4,g4,nd4,fun j hj=>?_⟩,rfl⟩
    have hx3:=p1.length_le
    have hpl:=pX.length_le
    rcases sub4 j hj with h | h | h
    · exact ge j h
    · have:=k1 j h; omega
    · simp at hl4; omega
  · intro i v X hi hq ⟨L,pX,g0,nd,ge⟩ k
    rw [Znr hi] at hq
    have hbX:=Zh pX hp
    obtain ⟨lc,oc,u,rfl,hrd,hrn,hu⟩:=Zic (hC.mono (hZ.trans pX)) hi
    have hszi:=hsz _ (List.getElem_mem hi)
    obtain ⟨ua,uc,rfl⟩:=hu.slen
    have hNR:=Zjb X (.slice ua (List.length (α:=UInt8) cells[i]) uc) cells[i] l w hu hszi
    rw [hq] at hNR
    generalize ndX l w cells[i]=bs at *
    generalize cells[i]=c at *
    have r0:rd1 X p 0=some (.int .i64 l):=by simp [rd1,hbX]
    have r1:rd1 X p 1=some (.int .i64 w):=by simp [rd1,hbX]
    have r4:rd1 X p 4=some (.slice (some ⟨lc,oc,none⟩) cells.length cC):=by simp [rd1,hbX]
    rw [Zeq]; unfold Zav; simp [apA,hi,r0,r1,r4,hrd,zeroCells]
    generalize hx:Zb T0 Zaw _ _=xhx
    obtain ⟨_,X1,rfl,r,L1,rfl,p1,g1,n1,k1⟩:=ZQ hx hNR
    clear hx
    simp only at p1 g1
    obtain ⟨a1,rfl⟩:=g1.shape
    simp [apA,Jo,p1,zeroCells]
    exact ⟨(_,_),rfl,_,[],rfl,(hZ.trans pX).trans (p1.trans (List.prefix_append _ _)),Gr.nil,by simp,by simp⟩
theorem Zjc (M:Mem) (l w b:Int) (m:ZT.D) (st:List Za.D) (aC:Option Addr) (cC:Nat) (aT:Option Addr) (cT:Nat) (aS:Option Addr) (cS:Nat)
    (hC:Rep (.sl Zi) M [.slice aC m.2.1.length cC] m.2.1) (hn:m.2.1.length≤1048576) (hsz:∀ c ∈ m.2.1,List.length (α:=UInt8) c≤1048576) :
    Sat (Zb T0 JL [.agg (aO l w b m.1 aC m.2.1.length cC aT m.2.2.length cT aS st.length cS).toArray] M) (NsV M (m.2.1.all (ZfD l w)) (if m.2.1.all (ZfD l w)=true then Zd9 w m.2.1 else [])):=by
  rcases Zmt M l w b m.1 aC cC aT m.2.2.length cT aS st.length cS m.2.1 hC hn hsz M.length (M++[(⟨aO l w b m.1 aC m.2.1.length cC aT m.2.2.length cT aS st.length cS,1,2⟩:Blk)]) (List.prefix_append _ _) (by simp) (.slice (some ⟨M.length+1,0,none⟩) 0 0) (M++[(⟨aO l w b m.1 aC m.2.1.length cC aT m.2.2.length cT aS st.length cS,1,2⟩:Blk)]++[⟨[],1,2⟩]) ⟨[M.length+1],List.prefix_append _ _,gr0 (t:=Zah) (by simp [Ty.w]),by simp,by simp⟩ with ⟨v',X',⟨L,pX,g,nd,ge⟩,hall,e⟩ | ⟨⟨i,hi,hq⟩,e⟩
  · have ha:m.2.1.all (ZfD l w)=true:=List.all_eq_true.2 fun c hc=>by
      obtain ⟨k,hk,rfl⟩:=List.getElem_of_mem hc
      rw [← Znr hk]
      exact hall k hk
    rw [ha,if_pos rfl]
    simp only [Int.natCast_zero,Int.ofNat_zero,List.append_assoc,List.singleton_append,List.cons_append,List.nil_append] at e
    obtain ⟨a,rfl⟩:=g.shape
    have pM:M <+: X':=(List.prefix_append _ _).trans pX
    have hbX:=Zh pX (show (M++[(⟨aO l w b m.1 aC m.2.1.length cC aT m.2.2.length cT aS st.length cS,1,2⟩:Blk)])[M.length]?=some _ from List.getElem?_concat_length)
    have r4:rd1 X' M.length 4=some (.slice aC m.2.1.length cC):=by simp [rd1,hbX]
    rw [Zc Zjz]; unfold Zdv Zge; simp [apA,zeroCells,e]
    rw [Zeq]; unfold Zav; simp [apA,r4]
    exact ⟨(_,X'),rfl,_,L,rfl,pM,g,nd,fun j hj=>by have:=ge j hj; simp at this; omega⟩
  · have ha:m.2.1.all (ZfD l w)=false:=by
      rw [List.all_eq_false]
      exact ⟨m.2.1[i],List.getElem_mem hi,by rw [← Znr hi,hq]; simp⟩
    rw [ha,if_neg (by simp)]
    simp only [Int.natCast_zero,Int.ofNat_zero,List.append_assoc,List.singleton_append,List.cons_append,List.nil_append] at e
    rw [Zc Zjz]; unfold Zdv Zge; simp [apA,zeroCells]
    exact e _
def ZoX (k:Nat) (xs:List Za.D):Nat:=(xs.filter fun b=>decide (Int.toNat b.1=k)).length
def ZvN (xs:List Za.D):List V:=(List.range 256).map fun k=>.int .i64 ((ZoX k xs:Nat):Int)
theorem Zj4 (xs:List Za.D):(ZvN xs).length=256:=by simp [ZvN]
theorem Zj5 (xs:List Za.D) {k:Nat} (h:k < 256):(ZvN xs)[k]?=some (.int .i64 ((ZoX k xs:Nat):Int)):=by simp [ZvN,h]
theorem Zxp (k:Nat) (xs:List Za.D):ZoX k xs≤xs.length:=List.length_filter_le _ _
theorem ZtX (k:Nat) (xs:List Za.D) (b:Za.D):ZoX k (xs++[b])=if Int.toNat b.1=k then ZoX k xs+1 else ZoX k xs:=by
  unfold ZoX
  rw [List.filter_append,List.length_append]
  by_cases h:Int.toNat b.1=k
  · rw [if_pos h,List.filter_cons,if_pos (decide_eq_true h)]; rfl
  · rw [if_neg h,List.filter_cons,if_neg (by rw [decide_eq_false h]; simp)]; rfl
theorem Zx8 {cs:List V} {o:Nat} {v:V} (h:o < cs.length):splice cs o [v]=cs.set o v:=by
  unfold splice
  rw [List.set_eq_take_append_cons_drop,if_pos h]
  simp
theorem Ztd (xs:List Za.D) (b:Za.D) (h:Int.toNat b.1 < 256):splice (ZvN xs) (Int.toNat b.1) [.int .i64 ((ZoX (Int.toNat b.1) xs+1:Nat):Int)]=ZvN (xs++[b]):=by
  apply List.ext_getElem?
  intro j
  rw [Zx8 (by rw [Zj4]; exact h),List.getElem?_set]
  by_cases hj:Int.toNat b.1=j
  · subst hj
    rw [if_pos rfl,if_pos (by rw [Zj4]; exact h),Zj5 _ h,ZtX,if_pos rfl]
  · rw [if_neg hj]
    by_cases hC:j < 256
    · rw [Zj5 _ hC,Zj5 _ hC,ZtX,if_neg hj]
    · rw [List.getElem?_eq_none (by rw [Zj4]; omega),List.getElem?_eq_none (by rw [Zj4]; omega)]
def SeI (M:Mem) (q:Nat) (xs:List Za.D) (X:Mem):Prop:=M <+: X∧X[q]?=some ⟨ZvN xs,1,2⟩
theorem Zr7 {z:Int} (h:0≤z∧z≤255):z=((Int.toNat z:Nat):Int)∧Int.toNat z < 256:=by omega
theorem Zxu {xs:List Za.D} (h:Zgv xs):∀ b ∈ xs,b.1=((Int.toNat b.1:Nat):Int)∧Int.toNat b.1 < 256:=fun b hb=>Zr7 (h b hb)
set_option maxRecDepth 20000 in
set_option maxHeartbeats 1000000 in
theorem Zou (M:Mem) (p q:Nat) (v3:V) (st:List Za.D) (aS:Option Addr) (cS:Nat) (hS:Rep (.sl Za) M [.slice aS st.length cS] st) (hp:rd1 M p 6=some (.slice aS st.length cS)) (hq:M.length≤q) (hr:Zgv st) (hn:st.length≤1048576) (X:Mem) (h:SeI M q [] X) :
    ∃ (u:Unit) (X':Mem),SeI M q st X'∧lp (Zb T0) Q0 ZaC [O,.pointer (some ⟨p,0,none⟩),O,v3,O,.slice (some ⟨q,0,none⟩) 256 256,.int .i64 (0:Nat),O,O,O,O,O,O,O,O,O,O,O,O,O,O,O,O,O,O,O,O,O,O,O,O,O,O,O,O,O,O,O,O,O,O,O,O,O,O,O,O,O,O,O,O,O,O,O,O,O,O,O,O,O,O,O,O,O,O,O,O,O,O,O,O,O,O,O,O,O,O,O,O,O,O,O,O,O,O,O,O,O,O,O,O,O,O,O,O,O,O,O,O,O,O,O,O,O,O,O,O,O,O,O,O,O,O,O,O,O,O,O,O,O,O,O,O,O,O,O,O,O,O,O,O,O,O,O,O,O,O,O,O,O,O,O,O,O] X=lp (Zb T0) Q0 ZaC [O,.pointer (some ⟨p,0,none⟩),O,v3,O,.slice (some ⟨q,0,none⟩) 256 256,.int .i64 st.length,O,O,O,O,O,O,O,O,O,O,O,O,O,O,O,O,O,O,O,O,O,O,O,O,O,O,O,O,O,O,O,O,O,O,O,O,O,O,O,O,O,O,O,O,O,O,O,O,O,O,O,O,O,O,O,O,O,O,O,O,O,O,O,O,O,O,O,O,O,O,O,O,O,O,O,O,O,O,O,O,O,O,O,O,O,O,O,O,O,O,O,O,O,O,O,O,O,O,O,O,O,O,O,O,O,O,O,O,O,O,O,O,O,O,O,O,O,O,O,O,O,O,O,O,O,O,O,O,O,O,O,O,O,O,O,O,O] X':=by
  have key:=YT (call:=Zb T0) (K:=Q0) (L:=ZaC) (fun i (_:Unit) X=>SeI M q (st.take i) X) (fun i (_:Unit)=>[O,.pointer (some ⟨p,0,none⟩),O,v3,O,.slice (some ⟨q,0,none⟩) 256 256,.int .i64 i,O,O,O,O,O,O,O,O,O,O,O,O,O,O,O,O,O,O,O,O,O,O,O,O,O,O,O,O,O,O,O,O,O,O,O,O,O,O,O,O,O,O,O,O,O,O,O,O,O,O,O,O,O,O,O,O,O,O,O,O,O,O,O,O,O,O,O,O,O,O,O,O,O,O,O,O,O,O,O,O,O,O,O,O,O,O,O,O,O,O,O,O,O,O,O,O,O,O,O,O,O,O,O,O,O,O,O,O,O,O,O,O,O,O,O,O,O,O,O,O,O,O,O,O,O,O,O,O,O,O,O,O,O,O,O,O,O]) (n:=st.length) ?_ 0 () X (by omega) (by simpa using h)
  · rw [List.take_length] at key
    exact key
  intro i _ X hi ⟨pX,hb⟩
  obtain ⟨l,o,u,rfl,hr0,_⟩:=Y5 (hS.mono pX) hi
  have hid:=Zxu hr _ (List.getElem_mem hi)
  have hts:st.take (i+1)=st.take i++[st[i]]:=List.take_succ_eq_append_getElem hi
  rw [hts]
  have hset:=Ztd (st.take i) st[i] hid.2
  have hget:=Zj5 (st.take i) hid.2
  have hle:=Zxp (Int.toNat st[i].1) (st.take i)
  have hlen:=Zj4 (st.take i)
  have htl:(st.take i).length=i:=by rw [List.length_take]; omega
  rw [hid.1] at hr0
  have hlt:=hid.2
  generalize hcs2:ZvN (st.take i++[st[i]])=cs2 at *
  generalize ZoX (Int.toNat st[i].1) (st.take i)=z at *
  generalize Int.toNat st[i].1=t at *
  generalize ZvN (st.take i)=cs at *
  have e6:IntKind.i64.wrap ((i:Int)+1)=i+1:=Zd (by omega) (by omega)
  have ez:IntKind.i64.wrap ((z:Int)+1)=(z:Int)+1:=Zd (by omega) (by omega)
  have hp':=Qt pX hp
  have hrq:rd1 X q t=some (.int .i64 (z:Int)):=by simp [rd1,hb,hget]
  have hwr:wrn X q t [.int .i64 ((z:Int)+1)]=some (X.set q ⟨cs2,1,2⟩):=by
    rw [show ((z:Int)+1)=((z+1:Nat):Int) by omega,ZdU hb rfl (by show t+1≤cs.length; omega) rfl,← hset]
  refine ⟨(),X.set q ⟨cs2,1,2⟩,⟨QQ hq pX,by rw [hcs2]; exact ZbN hb _⟩,?_⟩
  have hlt2:(t:Int) < 256:=by omega
  rw [ZdK]; unfold ZaB; simp [apA,hi,hp',hr0,hrq,hwr,hlt,hlt2,e6,ez]
def ZrZ (m:Nat) (ns:List Zah.D) (i:Nat):Bool:=match ns[i]? with
  | some bs=>bs.all fun b=>onP m (i+1) (Int.toNat b.2.1)
  | none=>true
theorem ZlH {m:Nat} {ns:List Zah.D} {i:Nat} (h:i < ns.length):ZrZ m ns i=List.all (α:=Za.D) ns[i] fun b=>onP m (i+1) (Int.toNat b.2.1):=by unfold ZrZ; rw [List.getElem?_eq_getElem h]
abbrev FtI (p q:Nat) (aN:Option Addr) (nN cN:Nat) (i:Nat):List V:=[O,.pointer (some ⟨p,0,none⟩),O,.slice aN nN cN,O,.slice (some ⟨q,0,none⟩) 256 256,O,.int .i64 i,O,O,O,O,O,O,O,O,O,O,O,O,O,O,O,O,O,O,O,O,O,O,O,O,O,O,O,O,O,O,O,O,O,O,O,O,O,O,O,O,O,O,O,O,O,O,O,O,O,O,O,O,O,O,O,O,O,O,O,O,O,O,O,O,O,O,O,O,O,O,O,O,O,O,O,O,O,O,O,O,O,O,O,O,O,O,O,O,O,O,O,O,O,O,O,O,O,O,O,O,O,O,O,O,O,O,O,O,O,O,O,O,O,O,O,O,O,O,O,O,O,O,O,O,O,O,O,O,O,O,O,O,O,O,O,O]
theorem Zsp {α:Type} {call:Yd} {K:List Bool} {L:ACode} (Inv:Nat→α→Mem→Prop) (F:Nat→α→List V) (p:Nat→Bool) (Rt:R→Prop) {n:Nat} (s:α) (X:Mem) (h:Inv 0 s X)
    (good:∀ i s X,i < n→p i=true→Inv i s X→∃ s' X',Inv (i+1) s' X'∧lp call K L (F i s) X=lp call K L (F (i+1) s') X')
    (bad:∀ i s X,i < n→p i=false→Inv i s X→Rt (lp call K L (F i s) X)) :
    (∃ s' X',Inv n s' X'∧(∀ i,i < n→p i=true)∧lp call K L (F 0 s) X=lp call K L (F n s') X')∨((∃ i,i < n∧p i=false)∧Rt (lp call K L (F 0 s) X)):=by
  have go:∀ m,m≤n→(∀ i,i < m→p i=true)→∃ s' X',Inv m s' X'∧lp call K L (F 0 s) X=lp call K L (F m s') X':=by
    intro m
    induction m with
    | zero=>intro _ _; exact ⟨s,X,h,rfl⟩
    | succ m ih =>
      intro hm hp
      obtain ⟨s1,X1,h1,e1⟩:=ih (by omega) (fun i hi=>hp i (by omega))
      obtain ⟨s2,X2,h2,e2⟩:=good m s1 X1 (by omega) (hp m (by omega)) h1
      exact ⟨s2,X2,h2,e1.trans e2⟩
  rcases Zht p n with hg | ⟨j,hj,h1,h2⟩
  · obtain ⟨s',X',i1,i2⟩:=go n (Nat.le_refl _) hg
    exact .inl ⟨s',X',i1,hg,i2⟩
  · obtain ⟨s',X',i1,i2⟩:=go j (by omega) h1
    refine .inr ⟨⟨j,hj,h2⟩,?_⟩
    rw [i2]
    exact bad j s' X' hj h2 i1
theorem Zs9 {M:Mem} {a:Option Addr} {n c:Nat} {xs:List Zah.D} (h:Rep (.sl Zah) M [.slice a n c] xs) {i:Nat} (hi:i < xs.length):∃ l o u,a=some ⟨l,o,none⟩∧rd1 M l (o+i)=some u∧rdn M l (o+i) 1=some [u]∧Rep (.sl Za) M [u] xs[i]:=by
  obtain ⟨_,l,o,rfl,cs,hrd,hrep⟩:=Zga h hi
  have hl:=hrep.len
  have hw1:Zah.w=1:=rfl
  rw [hw1,Nat.mul_one] at hrd
  match cs,hl,hrd,hrep with
  | [u],_,hrd,hrep=>exact ⟨l,o,u,rfl,ZjY hrd,hrd,hrep⟩
def RtB (M:Mem) (r:R):Prop:=∃ fr X',r=some (.ret,fr,X')∧fr[2]?=some (.bool false)∧M <+: X'
abbrev FsI (p q:Nat) (aN:Option Addr) (nN cN:Nat) (i:Nat) (j:Nat):List V:=[O,.pointer (some ⟨p,0,none⟩),O,.slice aN nN cN,O,.slice (some ⟨q,0,none⟩) 256 256,O,.int .i64 i,.int .i64 j,O,O,O,O,O,O,O,O,O,O,O,O,O,O,O,O,O,O,O,O,O,O,O,O,O,O,O,O,O,O,O,O,O,O,O,O,O,O,O,O,O,O,O,O,O,O,O,O,O,O,O,O,O,O,O,O,O,O,O,O,O,O,O,O,O,O,O,O,O,O,O,O,O,O,O,O,O,O,O,O,O,O,O,O,O,O,O,O,O,O,O,O,O,O,O,O,O,O,O,O,O,O,O,O,O,O,O,O,O,O,O,O,O,O,O,O,O,O,O,O,O,O,O,O,O,O,O,O,O,O,O,O,O,O,O]
def ZEp (m nd:Nat) (bs:List Za.D) (j:Nat):Bool:=match bs[j]? with
  | some b=>onP m nd (Int.toNat b.2.1)
  | none=>true
theorem Zp4 {m nd:Nat} {bs:List Za.D} {j:Nat} (h:j < bs.length):ZEp m nd bs j=onP m nd (Int.toNat bs[j].2.1):=by unfold ZEp; rw [List.getElem?_eq_getElem h]
def ZkO (N j:Nat):List Int:=(List.range j).map fun i=>((N / 2 ^ (j - 1 - i):Nat):Int)
theorem ZhS (N j:Nat):(ZkO N j).length=j:=by simp [ZkO]
theorem Znn {N j i:Nat} (hi:i < (ZkO N j).length):(ZkO N j)[i]=((N / 2 ^ (j - 1 - i):Nat):Int):=by simp [ZkO]
theorem Zwz (N j:Nat):ZkO N (j+1)=((N / 2 ^ j:Nat):Int) :: ZkO N j:=by
  unfold ZkO
  rw [List.range_succ_eq_map,List.map_cons,List.map_map]
  congr 1
  refine List.map_congr_left fun i _=>?_
  simp only [Function.comp]
  congr 3
  omega
def Ic (xs:List Int):List V:=xs.map fun n=>(.int .i64 n:V)
theorem ZBs (xs:List Int):(Ic xs).length=xs.length:=by simp [Ic]
theorem ZEO (xs:List Int):(Ic xs).all one=true:=by
  rw [List.all_eq_true]
  intro v hv
  obtain ⟨n,_,rfl⟩:=List.mem_map.1 hv
  rfl
def PnI (M:Mem) (N j:Nat) (v:V) (X:Mem):Prop:=M <+: X∧Zdg M.length 1 X v j (Ic (ZkO N j))
theorem Zla (M:Mem) (N n:Nat) (hN:N < 128) (hn:n≤7) (hge:∀ j,j < n→1≤N / 2 ^ j) (v:V) (Z:Mem) (hZ:PnI M N 0 v Z) :
    ∃ v' X',PnI M N n v' X'∧lp (Zb T0) YW Jh [O,O,O,O,O,v,.int .i64 ((N / 2 ^ 0:Nat):Int),O,O,O,O,O,O,O,O,O,O,O,O,O,O,O,O,O,O] Z=lp (Zb T0) YW Jh [O,O,O,O,O,v',.int .i64 ((N / 2 ^ n:Nat):Int),O,O,O,O,O,O,O,O,O,O,O,O,O,O,O,O,O,O] X':=by
  refine YT (call:=Zb T0) (K:=YW) (L:=Jh) (fun j v X=>PnI M N j v X) (fun j v=>[O,O,O,O,O,v,.int .i64 ((N / 2 ^ j:Nat):Int),O,O,O,O,O,O,O,O,O,O,O,O,O,O,O,O,O,O]) (n:=n) ?_ 0 v Z (by omega) hZ
  intro j v X hj ⟨pX,gX⟩
  have hq:(N / 2 ^ j) / 2=N / 2 ^ (j+1):=by rw [Nat.div_div_eq_div_mul,Nat.pow_succ]
  have hle:=Nat.div_le_self N (2 ^ j)
  have h1:(1:Int)≤((N / 2 ^ j:Nat):Int):=by have:=hge j hj; omega
  have hd:IntKind.i64.wrap (((N / 2 ^ j:Nat):Int) / 2)=((N / 2 ^ (j+1):Nat):Int):=by rw [← hq,Zd (by omega) (by omega)]; rfl
  have hc:=fun Y:Mem=>(gX.pre (List.prefix_append X Y)).cells
  have hgl:=gX.ge
  have hpl:=pX.length_le
  unfold PnI
  rw [Zwz]
  generalize N / 2 ^ (j+1)=q2 at hd ⊢
  generalize N / 2 ^ j=q at hd h1 ⊢
  have hg1:Zdg M.length 1 (X++[(⟨[.int .i64 q],1,2⟩:Blk)]) (.slice (some ⟨X.length,0,none⟩) 1 1) 1 [.int .i64 q]:=Zdg.new hpl rfl
  obtain ⟨av,rfl⟩:=gX.shape
  by_cases h0:j=0
  · subst h0
    have e0:ZkO N 0=[]:=rfl
    rw [e0] at hc ⊢
    rw [ZdD]; unfold Zab; simp [apA,h1,hc,Zdq,hd,Ic]
    exact ⟨_,_,⟨JZ pX,hg1⟩,rfl⟩
  · rw [ZdD]; unfold Zab; simp [apA,h1,hc]
    generalize hy:Zdq _ _ _ _ _ _=xhy
    obtain ⟨a3,X3,rfl,g3,ag,l3⟩:=hg1.at hy (List.prefix_refl _) (by simp; omega) (by rw [ZBs,ZhS]; omega) (by omega) (ZEO _) (by omega) (by omega)
    clear hy
    have ec:1+j=j+1:=by omega
    simp only [ec] at g3
    simp [apA,hd,ec]
    exact ⟨_,_,⟨ag.pre (JZ pX) fun b hb=>hg1.ge b hb,g3⟩,rfl⟩
def PnD (M:Mem) (m a:Nat) (p:V × Mem):Prop:=∃ av:Option Addr,p.1=.slice av (m+1) (m+1)∧M <+: p.2∧Zdg M.length 1 p.2 (.slice av (m+1) (m+1)) (m+1) (Ic (ZkO (2 ^ m+a) (m+1)))
theorem ZcY (M:Mem) (m a:Nat) (hm:m≤6) (ha:a < 2 ^ m):Sat (Zb T0 YG [.int .i64 m,.int .i64 a] M) (PnD M m a):=by
  have hp:2 ^ m≤2 ^ 6:=Nat.pow_le_pow_right (by omega) hm
  have hL:ZeU m a=true:=by
    unfold ZeU lgB
    have:(a:Int) < 2 ^ m:=by rw [Zlp]; omega
    simp [this]; omega
  have e1:=fun M=>Zak M m a
  rw [hL] at e1
  have e2:=fun M=>Zie M m (by omega)
  have e3:IntKind.i64.wrap ((2:Int) ^ m+a)=((2 ^ m+a:Nat):Int):=by rw [Zlp,Zd (by omega) (by omega)]; omega
  have hge:∀ j,j < m+1→1≤(2 ^ m+a) / 2 ^ j:=fun j hj=>by
    have h1:2 ^ j≤2 ^ m:=Nat.pow_le_pow_right (by omega) (by omega)
    exact (Nat.le_div_iff_mul_le (Nat.two_pow_pos j)).2 (by omega)
  have hz:(2 ^ m+a) / 2 ^ (m+1)=0:=Nat.div_eq_of_lt (by rw [Nat.pow_succ]; omega)
  obtain ⟨v',X',⟨pX,gX⟩,e⟩:=Zla M (2 ^ m+a) (m+1) (by omega) (by omega) hge (.slice (some ⟨M.length,0,none⟩) 0 0) (M++[⟨[],1,2⟩]) ⟨List.prefix_append _ _,Zdg.new (Nat.le_refl _) rfl⟩
  simp only [Nat.pow_zero,Nat.div_one,hz] at e
  obtain ⟨av,rfl⟩:=gX.shape
  unfold PnD
  generalize 2 ^ m+a=N at e e3 gX
  rw [Zc ZmV]; unfold Zfr Ziv; simp [apA,e1,e2,e3,zeroCells,e]
  rw [ZdD]; unfold Zab; simp [apA]
  exact ⟨(_,X'),rfl,av,rfl,pX,gX⟩
theorem ZCx {K:Nat} {M:Mem} {a:Option Addr} {n:Nat} {xs:List Int} (h:Zdg K 1 M (.slice a n n) n (Ic xs)) {i:Nat} (hi:i < xs.length):∃ l o,a=some ⟨l,o,none⟩∧rd1 M l (o+i)=some (.int .i64 xs[i]):=by
  obtain ⟨h1,⟨h2,rfl⟩ | ⟨l,_,hv,hb⟩⟩:=h
  · rw [ZBs] at h1; omega
  · cases hv
    exact ⟨l,0,rfl,by simp [rd1,hb,Ic,hi]⟩
theorem ZjC {x k:Nat}:ZgA x≤k ↔ x < 2 ^ k:=by
  unfold ZgA
  by_cases h:x=0
  · subst h
    simp [Nat.two_pow_pos]
  · rw [if_neg h,← Nat.log2_lt h]
    omega
theorem ZtE {x:Nat} (h:0 < x):1≤ZgA x:=by
  unfold ZgA
  rw [if_neg (by omega)]
  omega
theorem ZAQ {m leaf i:Nat} (hl:leaf < 2 ^ m) (hi:i≤m):ZgA ((2 ^ m+leaf) / 2 ^ (m - i))=i+1:=by
  have e:2 ^ m=2 ^ i * 2 ^ (m - i):=by rw [← Nat.pow_add]; congr 1; omega
  have hd:(2 ^ m+leaf) / 2 ^ (m - i)=2 ^ i+leaf / 2 ^ (m - i):=by
    rw [e,Nat.add_comm,Nat.add_mul_div_right _ _ (Nat.two_pow_pos _),Nat.add_comm]
  have hlt:leaf / 2 ^ (m - i) < 2 ^ i:=by
    rw [Nat.div_lt_iff_lt_mul (Nat.two_pow_pos _),← e]
    exact hl
  have key:∀ q,q < 2 ^ i→ZgA (2 ^ i+q)=i+1:=by
    intro q hq
    have hpos:=Nat.two_pow_pos i
    have h1:ZgA (2 ^ i+q)≤i+1:=ZjC.2 (by rw [Nat.pow_succ]; omega)
    have h2:¬ ZgA (2 ^ i+q)≤i:=fun h=>by
      have:=ZjC.1 h
      omega
    omega
  rw [hd]
  exact key _ hlt
theorem ZvY {m node leaf:Nat} (hl:leaf < 2 ^ m) (h2:node < 2 * 2 ^ m) (h1:1≤node):onP m node leaf=true ↔ ∃ i,i < m+1∧(2 ^ m+leaf) / 2 ^ (m - i)=node:=by
  unfold onP
  rw [decide_eq_true_eq]
  have hb:ZgA node≤m+1:=ZjC.2 (by rw [Nat.pow_succ]; omega)
  have hb1:=ZtE (x:=node) (by omega)
  constructor
  · intro h
    exact ⟨ZgA node - 1,by omega,h⟩
  · rintro ⟨i,hi,rfl⟩
    rw [ZAQ hl (by omega)]
    simp
theorem ZbH {M M':Mem} (hp:M <+: M') (b:Bool):gc M (some (.bool b,M'))=some (.bool b,M):=by
  obtain ⟨N,rfl⟩:=hp
  exact Zwi M N b
theorem Zp3 (M:Mem) (m node leaf:Nat) (hm:m≤6) (hl:leaf < 2 ^ m) (h1:1≤node) (h2:node < 2 * 2 ^ m):Zb T0 ZdE [.int .i64 m,.int .i64 node,.int .i64 leaf] M=some (.bool (onP m node leaf),M):=by
  obtain ⟨⟨v1,X1⟩,ep,av,hv1,p1,hg⟩:=ZcY M m leaf hm hl
  simp only at hv1 p1 hg
  subst hv1
  have hlen:=ZhS (2 ^ m+leaf) (m+1)
  have hget:∀ i,i < m+1→(ZkO (2 ^ m+leaf) (m+1))[i]?=some (((2 ^ m+leaf) / 2 ^ (m - i):Nat):Int):=fun i hi=>by
    rw [List.getElem?_eq_getElem (by omega),Znn]
    congr 4
  have hat:∀ i,i < m+1→∃ l o,av=some ⟨l,o,none⟩∧rd1 X1 l (o+i)=some (.int .i64 (((2 ^ m+leaf) / 2 ^ (m - i):Nat):Int)):=fun i hi=>by
    obtain ⟨l,o,e,hr⟩:=ZCx hg (i:=i) (by omega)
    refine ⟨l,o,e,?_⟩
    have:=hget i hi
    rw [List.getElem?_eq_getElem (by omega)] at this
    rw [hr,Option.some.inj this]
  have hp:2 ^ m≤2 ^ 6:=Nat.pow_le_pow_right (by omega) hm
  have gb:=fun b=>ZbH p1 b
  have key:=Zl1 (call:=Zb T0) (K:=Zaq) (L:=Zd2) (fun _ Y=>Y=X1) (fun i=>[O,.int .i64 node,O,O,O,O,O,.slice av (m+1) (m+1),.int .i64 i,O,O,O,O,O,O,O,O,O,O,O,O,O,O,O]) (fun i=>decide (¬ (2 ^ m+leaf) / 2 ^ (m - i)=node)) (n:=m+1) (M0:=M) (rs:=[.tmp 6]) (k0:=0) (a:=.bool true) X1 rfl ?_ ?_
  · rcases key with ⟨X',rfl,ha,e⟩ | ⟨⟨i,hi,hx⟩,e⟩
    · simp only [Int.natCast_zero,Int.ofNat_zero] at e
      have hf:onP m node leaf=false:=by
        cases ho:onP m node leaf with
        | false=>rfl
        | true =>
          obtain ⟨i,hi,h⟩:=(ZvY hl h2 h1).1 ho
          have:=of_decide_eq_true (ha i hi)
          exact absurd h this
      rw [hf]
      rw [Zc Zk5]; unfold ZfR ZhV; simp [apA,ep,e]
      rw [Zgk]; unfold Zcd; simp [apA,gb]
    · simp only [Int.natCast_zero,Int.ofNat_zero] at e
      have ht:onP m node leaf=true:=(ZvY hl h2 h1).2 ⟨i,hi,by simpa using hx⟩
      rw [ht]
      rw [Zc Zk5]; unfold ZfR ZhV; simp [apA,ep,e]
  · intro i Y hi hq hY
    subst hY
    have e6:IntKind.i64.wrap ((i:Int)+1)=i+1:=Zd (by omega) (by omega)
    obtain ⟨l,o,rfl,hr⟩:=hat i hi
    have hq:=of_decide_eq_true hq
    have hmi:(i:Int) < (m:Int)+1:=by omega
    generalize (2 ^ m+leaf) / 2 ^ (m - i)=q at *
    have hq':¬ (q:Int)=(node:Int):=by omega
    refine ⟨Y,rfl,?_⟩
    rw [Zgk]; unfold Zcd; simp [apA,hi,hmi,hr,hq',hq,e6]
  · intro i Y hi hq hY k
    subst hY
    obtain ⟨l,o,rfl,hr⟩:=hat i hi
    have hq:(2 ^ m+leaf) / 2 ^ (m - i)=node:=by simpa using hq
    rw [hq] at hr
    have hmi:(i:Int) < (m:Int)+1:=by omega
    rw [Zgk]; unfold Zcd; simp [apA,hi,hmi,hr,gb]
set_option maxRecDepth 20000 in
set_option maxHeartbeats 2000000 in
theorem ZnA (M:Mem) (p q m:Nat) (aN:Option Addr) (cN:Nat) (ns:List Zah.D) (hN:Rep (.sl Zah) M [.slice aN ns.length cN] ns) (hp:rd1 M p 0=some (.int .i64 (m:Int))) (hq:M.length≤q) (hm:m≤6) (hlen:ns.length+1=2 * 2 ^ m) (i:Nat) (hi:i < ns.length) (hbs:∀ b ∈ ns[i],(0≤b.1∧b.1≤255)∧b.2.1=((Int.toNat b.2.1:Nat):Int)∧Int.toNat b.2.1 < 2 ^ m) (hnl:ns[i].length≤4)
    (xs:List Za.D) (hxs:xs.length≤100000) (X:Mem) (h:SeI M q xs X) :
    (∃ (u:Unit) (X':Mem),SeI M q (xs++ns[i]) X'∧(∀ j,j < ns[i].length→ZEp m (i+1) ns[i] j=true)∧lp (Zb T0) Qn JN (FsI p q aN ns.length cN i 0) X=lp (Zb T0) Qn JN (FsI p q aN ns.length cN i ns[i].length) X') ∨
    ((∃ j,j < ns[i].length∧ZEp m (i+1) ns[i] j=false)∧RtB M (lp (Zb T0) Qn JN (FsI p q aN ns.length cN i 0) X)):=by
  have hp6:2 ^ m≤2 ^ 6:=Nat.pow_le_pow_right (by omega) hm
  have key:=Zsp (call:=Zb T0) (K:=Qn) (L:=JN) (fun j (_:Unit) X=>SeI M q (xs++ns[i].take j) X) (fun j (_:Unit)=>FsI p q aN ns.length cN i j) (ZEp m (i+1) ns[i]) (RtB M) (n:=ns[i].length) () X (by simpa using h) ?_ ?_
  · rw [List.take_length] at key
    exact key
  all_goals
    intro j _ X hj ho ⟨pX,hb⟩
    rw [Zp4 hj] at ho
    obtain ⟨l,o,u,rfl,hru,_,hrep⟩:=Zs9 (hN.mono pX) hi
    obtain ⟨a1,c1,rfl⟩:=hrep.slen
    obtain ⟨l1,o1,u1,rfl,_,_,_,hrb,_,_,hub,_⟩:=Y5 hrep hj
    obtain ⟨ub,uc,rfl⟩:=hub.slen
    have hk:=hbs _ (List.getElem_mem hj)
    have hid:=Zr7 hk.1
    have hts:xs++ns[i].take (j+1)=(xs++ns[i].take j)++[ns[i][j]]:=by rw [List.take_succ_eq_append_getElem hj,List.append_assoc]
    have hset:=Ztd (xs++ns[i].take j) ns[i][j] hid.2
    have hget:=Zj5 (xs++ns[i].take j) hid.2
    have hle:=Zxp (Int.toNat ns[i][j].1) (xs++ns[i].take j)
    have hln:=Zj4 (xs++ns[i].take j)
    have htl:(xs++ns[i].take j).length≤200000:=by rw [List.length_append,List.length_take]; omega
    have hon:∀ Y,Zb T0 ZdE [.int .i64 m,.int .i64 ((i:Int)+1),.int .i64 (Int.toNat ns[i][j].2.1:Int)] Y=some (.bool (onP m (i+1) (Int.toNat ns[i][j].2.1)),Y):=fun Y=>Zp3 Y m (i+1) (Int.toNat ns[i][j].2.1) hm (by exact hk.2.2) (by omega) (by omega)
    rw [hid.1,hk.2.1] at hrb
    rw [ho] at hon
    have hlt:=hid.2
    generalize hcs2:ZvN ((xs++ns[i].take j)++[ns[i][j]])=cs2 at *
    generalize ZoX (Int.toNat ns[i][j].1) (xs++ns[i].take j)=z at *
    generalize Int.toNat ns[i][j].1=t at *
    generalize Int.toNat ns[i][j].2.1=lf at *
    generalize hdl:List.length (α:=UInt8) ns[i][j].2.2=dl at *
    generalize ZvN (xs++ns[i].take j)=cs at *
    have e6:IntKind.i64.wrap ((j:Int)+1)=j+1:=Zd (by omega) (by omega)
    have e7:IntKind.i64.wrap ((i:Int)+1)=i+1:=Zd (by omega) (by omega)
    have ez:IntKind.i64.wrap ((z:Int)+1)=(z:Int)+1:=Zd (by omega) (by omega)
    have pB:M <+: X++[(⟨[.int .i64 (t:Int),.int .i64 (lf:Int),.slice ub dl uc],1,2⟩:Blk)]:=pX.trans (List.prefix_append _ _)
    have hp':=fun N:Mem=>Qt (pX.trans (List.prefix_append X N)) hp
    have hlt2:(t:Int) < 256:=by omega
    have hqX:=ZI hb
    have hbB:=Zh (List.prefix_append X [(⟨[.int .i64 (t:Int),.int .i64 (lf:Int),.slice ub dl uc],1,2⟩:Blk)]) hb
    have hwr:wrn (X++[(⟨[.int .i64 (t:Int),.int .i64 (lf:Int),.slice ub dl uc],1,2⟩:Blk)]) q t [.int .i64 ((z:Int)+1)]=some ((X++[(⟨[.int .i64 (t:Int),.int .i64 (lf:Int),.slice ub dl uc],1,2⟩:Blk)]).set q ⟨cs2,1,2⟩):=by
      rw [show ((z:Int)+1)=((z+1:Nat):Int) by omega,ZdU hbB rfl (by show t+1≤cs.length; omega) rfl,← hset]
    have hrq:rd1 (X++[(⟨[.int .i64 (t:Int),.int .i64 (lf:Int),.slice ub dl uc],1,2⟩:Blk)]) q t=some (.int .i64 (z:Int)):=by simp [rd1,hbB,hget]
    have pS:=QQ (b:=⟨cs2,1,2⟩) hq pB
    have hpS:=Qt pS hp
    have hbx:((X++[(⟨[.int .i64 (t:Int),.int .i64 (lf:Int),.slice ub dl uc],1,2⟩:Blk)]).set q ⟨cs2,1,2⟩)[X.length]?=some ⟨[.int .i64 (t:Int),.int .i64 (lf:Int),.slice ub dl uc],1,2⟩:=by
      rw [List.getElem?_set_ne (by omega)]
      simp
    have hbr:rd1 ((X++[(⟨[.int .i64 (t:Int),.int .i64 (lf:Int),.slice ub dl uc],1,2⟩:Blk)]).set q ⟨cs2,1,2⟩) X.length 1=some (.int .i64 (lf:Int)):=by simp only [rd1,hbx]; rfl
  · refine ⟨(),_,⟨pS,by rw [hts,hcs2]; exact ZbN hbB _⟩,?_⟩
    rw [Zf4]; unfold Zb6; simp [apA,hi,hj,hru,hrb,hp',hrq,hwr,hlt,hlt2,hpS,hbr,hon,e6,e7,ez]
    rfl
  · rw [Zf4]; unfold Zb6; simp [apA,hi,hj,hru,hrb,hp',hrq,hwr,hlt,hlt2,hpS,hbr,hon,e6,e7,ez]
    refine ⟨_,_,rfl,?_,pS⟩
    rfl
end GoAm
