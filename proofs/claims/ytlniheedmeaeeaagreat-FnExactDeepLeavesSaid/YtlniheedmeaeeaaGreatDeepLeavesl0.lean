/- What the functions do that the law reaches. -/
import Derived.Test.YtlniheedmeaeeaaGreatDeepLeavest
import Derived.Test.YtlniheedmeaeeaaGreatAmGr
set_option autoImplicit false
set_option linter.unusedVariables false
set_option linter.unusedSimpArgs false
namespace GoAm
open Go
abbrev ty_Cell:Ty:=.sl .u8
abbrev ty_Touch:Ty:=.pr (.int .i64) (.pr (.int .i64) (.int .i64))
instance d_Touch:DecidableEq ty_Touch.D:=Ty.deq ty_Touch
abbrev ty_Mem:Ty:=.pr (.int .i64) (.pr (.sl ty_Cell) (.sl ty_Touch))
theorem rep_g_Mem {M:Mem} {cs:List V} {x:ty_Mem.D} (h:Rep ty_Mem M cs x):∃ u0 u1:V,cs=[.int .i64 x.1,u0,u1]∧(Lit.int .i64 x.1).wf=true∧Rep (.sl ty_Cell) M [u0] x.2.1∧Rep (.sl ty_Touch) M [u1] x.2.2:=by
  obtain ⟨c0,d0,rfl,h0,h⟩:=h
  obtain ⟨rfl,w0⟩:=h0
  obtain ⟨c1,d1,rfl,h1,h⟩:=h
  obtain ⟨u0,rfl⟩:∃ u,c1=[u]:=by
    have l0:=Rep.len (h1)
    exact List.length_eq_one_iff.1 l0
  have r0:=h1
  obtain ⟨u1,rfl⟩:∃ u,d1=[u]:=by
    have l1:=Rep.len (h)
    exact List.length_eq_one_iff.1 l1
  have r1:=h
  exact ⟨u0,u1,rfl,w0,r0,r1⟩
abbrev ty_Byte:Ty:=.u8
abbrev ty_Block:Ty:=.pr (.int .i64) (.pr (.int .i64) (.sl ty_Byte))
instance d_Block:DecidableEq ty_Block.D:=inferInstanceAs (DecidableEq (Int × Int × List UInt8))
abbrev ty_Oram:Ty:=.pr (.int .i64) (.pr (.int .i64) (.pr (.int .i64) (.pr ty_Mem (.sl ty_Block))))
instance d_Oram0:DecidableEq (ty_Mem.D × List ty_Block.D):=inferInstance
instance d_Oram1:DecidableEq (Int × ty_Mem.D × List ty_Block.D):=@instDecidableEqProd _ _ inferInstance d_Oram0
instance d_Oram2:DecidableEq (Int × Int × ty_Mem.D × List ty_Block.D):=@instDecidableEqProd _ _ inferInstance d_Oram1
instance d_Oram:DecidableEq ty_Oram.D:=@instDecidableEqProd _ _ inferInstance d_Oram2
theorem rep_g_Oram {M:Mem} {cs:List V} {x:ty_Oram.D} (h:Rep ty_Oram M cs x):∃ u0 u1 u2:V,cs=[.int .i64 x.1,.int .i64 x.2.1,.int .i64 x.2.2.1,.int .i64 x.2.2.2.1.1,u0,u1,u2]∧(Lit.int .i64 x.1).wf=true∧(Lit.int .i64 x.2.1).wf=true∧(Lit.int .i64 x.2.2.1).wf=true∧(Lit.int .i64 x.2.2.2.1.1).wf=true∧Rep (.sl ty_Cell) M [u0] x.2.2.2.1.2.1∧Rep (.sl ty_Touch) M [u1] x.2.2.2.1.2.2∧Rep (.sl ty_Block) M [u2] x.2.2.2.2:=by
  obtain ⟨c0,d0,rfl,h0,h⟩:=h
  obtain ⟨rfl,w0⟩:=h0
  obtain ⟨c1,d1,rfl,h1,h⟩:=h
  obtain ⟨rfl,w1⟩:=h1
  obtain ⟨c2,d2,rfl,h2,h⟩:=h
  obtain ⟨rfl,w2⟩:=h2
  obtain ⟨c3,d3,rfl,h3,h⟩:=h
  obtain ⟨u0,u1,rfl,w3,r0,r1⟩:=rep_g_Mem h3
  obtain ⟨u2,rfl⟩:∃ u,d3=[u]:=by
    have l2:=Rep.len (h)
    exact List.length_eq_one_iff.1 l2
  have r2:=h
  exact ⟨u0,u1,u2,rfl,w0,w1,w2,w3,r0,r1,r2⟩
abbrev ty_Int:Ty:=.int .i64
abbrev ty_Deep:Ty:=.pr (.int .i64) (.pr (.sl ty_Int) (.pr ty_Oram ty_Oram))
instance d_Deep0:DecidableEq (ty_Oram.D × ty_Oram.D):=@instDecidableEqProd _ _ d_Oram d_Oram
instance d_Deep1:DecidableEq (List Int × ty_Oram.D × ty_Oram.D):=@instDecidableEqProd _ _ inferInstance d_Deep0
instance d_Deep:DecidableEq ty_Deep.D:=@instDecidableEqProd _ _ inferInstance d_Deep1
theorem rep_g_Deep {M:Mem} {cs:List V} {x:ty_Deep.D} (h:Rep ty_Deep M cs x):∃ u0 u1 u2 u3 u4 u5 u6:V,cs=[.int .i64 x.1,u0,.int .i64 x.2.2.1.1,.int .i64 x.2.2.1.2.1,.int .i64 x.2.2.1.2.2.1,.int .i64 x.2.2.1.2.2.2.1.1,u1,u2,u3,.int .i64 x.2.2.2.1,.int .i64 x.2.2.2.2.1,.int .i64 x.2.2.2.2.2.1,.int .i64 x.2.2.2.2.2.2.1.1,u4,u5,u6]∧(Lit.int .i64 x.1).wf=true∧(Lit.int .i64 x.2.2.1.1).wf=true∧(Lit.int .i64 x.2.2.1.2.1).wf=true∧(Lit.int .i64 x.2.2.1.2.2.1).wf=true∧(Lit.int .i64 x.2.2.1.2.2.2.1.1).wf=true∧(Lit.int .i64 x.2.2.2.1).wf=true∧(Lit.int .i64 x.2.2.2.2.1).wf=true∧(Lit.int .i64 x.2.2.2.2.2.1).wf=true∧(Lit.int .i64 x.2.2.2.2.2.2.1.1).wf=true∧Rep (.sl ty_Int) M [u0] x.2.1∧Rep (.sl ty_Cell) M [u1] x.2.2.1.2.2.2.1.2.1∧Rep (.sl ty_Touch) M [u2] x.2.2.1.2.2.2.1.2.2∧Rep (.sl ty_Block) M [u3] x.2.2.1.2.2.2.2∧Rep (.sl ty_Cell) M [u4] x.2.2.2.2.2.2.1.2.1∧Rep (.sl ty_Touch) M [u5] x.2.2.2.2.2.2.1.2.2∧Rep (.sl ty_Block) M [u6] x.2.2.2.2.2.2.2:=by
  obtain ⟨c0,d0,rfl,h0,h⟩:=h
  obtain ⟨rfl,w0⟩:=h0
  obtain ⟨c1,d1,rfl,h1,h⟩:=h
  obtain ⟨u0,rfl⟩:∃ u,c1=[u]:=by
    have l0:=Rep.len (h1)
    exact List.length_eq_one_iff.1 l0
  have r0:=h1
  obtain ⟨c2,d2,rfl,h2,h⟩:=h
  obtain ⟨u1,u2,u3,rfl,w1,w2,w3,w4,r1,r2,r3⟩:=rep_g_Oram h2
  obtain ⟨u4,u5,u6,rfl,w5,w6,w7,w8,r4,r5,r6⟩:=rep_g_Oram h
  exact ⟨u0,u1,u2,u3,u4,u5,u6,rfl,w0,w1,w2,w3,w4,w5,w6,w7,w8,r0,r1,r2,r3,r4,r5,r6⟩
theorem mkown_g_Mem {M:Mem} {x:ty_Mem.D} {u0 u1:V} {L0 L1:List Nat} (w0:(Lit.int .i64 x.1).wf=true) (r0:Own (.sl ty_Cell) M [u0] x.2.1 L0) (r1:Own (.sl ty_Touch) M [u1] x.2.2 L1):Own ty_Mem M [.int .i64 x.1,u0,u1] x (L0++L1):=by
  have h:Own ty_Mem M [.int .i64 x.1,u0,u1] x _:=⟨[.int .i64 x.1],([u0]++[u1]),_,_,rfl,⟨⟨rfl,w0⟩,rfl⟩,⟨[u0],([u1]),_,_,rfl,r0,r1,rfl⟩,rfl⟩
  simpa only [List.append_nil,List.nil_append,List.append_assoc] using h
theorem mkown_g_Oram {M:Mem} {x:ty_Oram.D} {u0 u1 u2:V} {L0 L1 L2:List Nat} (w0:(Lit.int .i64 x.1).wf=true) (w1:(Lit.int .i64 x.2.1).wf=true) (w2:(Lit.int .i64 x.2.2.1).wf=true) (w3:(Lit.int .i64 x.2.2.2.1.1).wf=true) (r0:Own (.sl ty_Cell) M [u0] x.2.2.2.1.2.1 L0) (r1:Own (.sl ty_Touch) M [u1] x.2.2.2.1.2.2 L1) (r2:Own (.sl ty_Block) M [u2] x.2.2.2.2 L2):Own ty_Oram M [.int .i64 x.1,.int .i64 x.2.1,.int .i64 x.2.2.1,.int .i64 x.2.2.2.1.1,u0,u1,u2] x (L0++L1++L2):=by
  have h:Own ty_Oram M [.int .i64 x.1,.int .i64 x.2.1,.int .i64 x.2.2.1,.int .i64 x.2.2.2.1.1,u0,u1,u2] x _:=⟨[.int .i64 x.1],([.int .i64 x.2.1]++[.int .i64 x.2.2.1]++[.int .i64 x.2.2.2.1.1,u0,u1]++[u2]),_,_,rfl,⟨⟨rfl,w0⟩,rfl⟩,⟨[.int .i64 x.2.1],([.int .i64 x.2.2.1]++[.int .i64 x.2.2.2.1.1,u0,u1]++[u2]),_,_,rfl,⟨⟨rfl,w1⟩,rfl⟩,⟨[.int .i64 x.2.2.1],([.int .i64 x.2.2.2.1.1,u0,u1]++[u2]),_,_,rfl,⟨⟨rfl,w2⟩,rfl⟩,⟨[.int .i64 x.2.2.2.1.1,u0,u1],([u2]),_,_,rfl,(mkown_g_Mem w3 r0 r1),r2,rfl⟩,rfl⟩,rfl⟩,rfl⟩
  simpa only [List.append_nil,List.nil_append,List.append_assoc] using h
theorem mkown_g_Deep {M:Mem} {x:ty_Deep.D} {u0 u1 u2 u3 u4 u5 u6:V} {L0 L1 L2 L3 L4 L5 L6:List Nat} (w0:(Lit.int .i64 x.1).wf=true) (w1:(Lit.int .i64 x.2.2.1.1).wf=true) (w2:(Lit.int .i64 x.2.2.1.2.1).wf=true) (w3:(Lit.int .i64 x.2.2.1.2.2.1).wf=true) (w4:(Lit.int .i64 x.2.2.1.2.2.2.1.1).wf=true) (w5:(Lit.int .i64 x.2.2.2.1).wf=true) (w6:(Lit.int .i64 x.2.2.2.2.1).wf=true) (w7:(Lit.int .i64 x.2.2.2.2.2.1).wf=true) (w8:(Lit.int .i64 x.2.2.2.2.2.2.1.1).wf=true) (r0:Own (.sl ty_Int) M [u0] x.2.1 L0) (r1:Own (.sl ty_Cell) M [u1] x.2.2.1.2.2.2.1.2.1 L1) (r2:Own (.sl ty_Touch) M [u2] x.2.2.1.2.2.2.1.2.2 L2) (r3:Own (.sl ty_Block) M [u3] x.2.2.1.2.2.2.2 L3) (r4:Own (.sl ty_Cell) M [u4] x.2.2.2.2.2.2.1.2.1 L4) (r5:Own (.sl ty_Touch) M [u5] x.2.2.2.2.2.2.1.2.2 L5) (r6:Own (.sl ty_Block) M [u6] x.2.2.2.2.2.2.2 L6):Own ty_Deep M [.int .i64 x.1,u0,.int .i64 x.2.2.1.1,.int .i64 x.2.2.1.2.1,.int .i64 x.2.2.1.2.2.1,.int .i64 x.2.2.1.2.2.2.1.1,u1,u2,u3,.int .i64 x.2.2.2.1,.int .i64 x.2.2.2.2.1,.int .i64 x.2.2.2.2.2.1,.int .i64 x.2.2.2.2.2.2.1.1,u4,u5,u6] x (L0++L1++L2++L3++L4++L5++L6):=by
  have h:Own ty_Deep M [.int .i64 x.1,u0,.int .i64 x.2.2.1.1,.int .i64 x.2.2.1.2.1,.int .i64 x.2.2.1.2.2.1,.int .i64 x.2.2.1.2.2.2.1.1,u1,u2,u3,.int .i64 x.2.2.2.1,.int .i64 x.2.2.2.2.1,.int .i64 x.2.2.2.2.2.1,.int .i64 x.2.2.2.2.2.2.1.1,u4,u5,u6] x _:=⟨[.int .i64 x.1],([u0]++[.int .i64 x.2.2.1.1,.int .i64 x.2.2.1.2.1,.int .i64 x.2.2.1.2.2.1,.int .i64 x.2.2.1.2.2.2.1.1,u1,u2,u3]++[.int .i64 x.2.2.2.1,.int .i64 x.2.2.2.2.1,.int .i64 x.2.2.2.2.2.1,.int .i64 x.2.2.2.2.2.2.1.1,u4,u5,u6]),_,_,rfl,⟨⟨rfl,w0⟩,rfl⟩,⟨[u0],([.int .i64 x.2.2.1.1,.int .i64 x.2.2.1.2.1,.int .i64 x.2.2.1.2.2.1,.int .i64 x.2.2.1.2.2.2.1.1,u1,u2,u3]++[.int .i64 x.2.2.2.1,.int .i64 x.2.2.2.2.1,.int .i64 x.2.2.2.2.2.1,.int .i64 x.2.2.2.2.2.2.1.1,u4,u5,u6]),_,_,rfl,r0,⟨[.int .i64 x.2.2.1.1,.int .i64 x.2.2.1.2.1,.int .i64 x.2.2.1.2.2.1,.int .i64 x.2.2.1.2.2.2.1.1,u1,u2,u3],([.int .i64 x.2.2.2.1,.int .i64 x.2.2.2.2.1,.int .i64 x.2.2.2.2.2.1,.int .i64 x.2.2.2.2.2.2.1.1,u4,u5,u6]),_,_,rfl,(mkown_g_Oram w1 w2 w3 w4 r1 r2 r3),(mkown_g_Oram w5 w6 w7 w8 r4 r5 r6),rfl⟩,rfl⟩,rfl⟩
  simpa only [List.append_nil,List.nil_append,List.append_assoc] using h
theorem own_g_Mem {M:Mem} {cs:List V} {x:ty_Mem.D} {L:List Nat} (h:Own ty_Mem M cs x L):∃ (u0 u1:V) (L0 L1:List Nat),cs=[.int .i64 x.1,u0,u1]∧(Lit.int .i64 x.1).wf=true∧Own (.sl ty_Cell) M [u0] x.2.1 L0∧Own (.sl ty_Touch) M [u1] x.2.2 L1∧L=L0++L1:=by
  obtain ⟨c0,d0,K0,J0,rfl,h0,h,rfl⟩:=h
  obtain ⟨⟨rfl,w0⟩,rfl⟩:=h0
  obtain ⟨c1,d1,K1,J1,rfl,h1,h,rfl⟩:=h
  obtain ⟨u0,rfl⟩:∃ u,c1=[u]:=by
    have l0:=Rep.len ((h1).rep)
    exact List.length_eq_one_iff.1 l0
  have r0:=h1
  obtain ⟨u1,rfl⟩:∃ u,d1=[u]:=by
    have l1:=Rep.len ((h).rep)
    exact List.length_eq_one_iff.1 l1
  have r1:=h
  exact ⟨u0,u1,_,_,rfl,w0,r0,r1,by simp⟩
theorem own_g_Oram {M:Mem} {cs:List V} {x:ty_Oram.D} {L:List Nat} (h:Own ty_Oram M cs x L):∃ (u0 u1 u2:V) (L0 L1 L2:List Nat),cs=[.int .i64 x.1,.int .i64 x.2.1,.int .i64 x.2.2.1,.int .i64 x.2.2.2.1.1,u0,u1,u2]∧(Lit.int .i64 x.1).wf=true∧(Lit.int .i64 x.2.1).wf=true∧(Lit.int .i64 x.2.2.1).wf=true∧(Lit.int .i64 x.2.2.2.1.1).wf=true∧Own (.sl ty_Cell) M [u0] x.2.2.2.1.2.1 L0∧Own (.sl ty_Touch) M [u1] x.2.2.2.1.2.2 L1∧Own (.sl ty_Block) M [u2] x.2.2.2.2 L2∧L=L0++L1++L2:=by
  obtain ⟨c0,d0,K0,J0,rfl,h0,h,rfl⟩:=h
  obtain ⟨⟨rfl,w0⟩,rfl⟩:=h0
  obtain ⟨c1,d1,K1,J1,rfl,h1,h,rfl⟩:=h
  obtain ⟨⟨rfl,w1⟩,rfl⟩:=h1
  obtain ⟨c2,d2,K2,J2,rfl,h2,h,rfl⟩:=h
  obtain ⟨⟨rfl,w2⟩,rfl⟩:=h2
  obtain ⟨c3,d3,K3,J3,rfl,h3,h,rfl⟩:=h
  obtain ⟨u0,u1,Q3_0,Q3_1,rfl,w3,r0,r1,rfl⟩:=own_g_Mem h3
  obtain ⟨u2,rfl⟩:∃ u,d3=[u]:=by
    have l2:=Rep.len ((h).rep)
    exact List.length_eq_one_iff.1 l2
  have r2:=h
  exact ⟨u0,u1,u2,_,_,_,rfl,w0,w1,w2,w3,r0,r1,r2,by simp⟩
theorem mkrep_g_Mem {M:Mem} {x:ty_Mem.D} {u0 u1:V} (w0:(Lit.int .i64 x.1).wf=true) (r0:Rep (.sl ty_Cell) M [u0] x.2.1) (r1:Rep (.sl ty_Touch) M [u1] x.2.2):Rep ty_Mem M [.int .i64 x.1,u0,u1] x:=by
  exact ⟨[.int .i64 x.1],([u0]++[u1]),rfl,⟨rfl,w0⟩,⟨[u0],([u1]),rfl,r0,r1⟩⟩
theorem mkrep_g_Oram {M:Mem} {x:ty_Oram.D} {u0 u1 u2:V} (w0:(Lit.int .i64 x.1).wf=true) (w1:(Lit.int .i64 x.2.1).wf=true) (w2:(Lit.int .i64 x.2.2.1).wf=true) (w3:(Lit.int .i64 x.2.2.2.1.1).wf=true) (r0:Rep (.sl ty_Cell) M [u0] x.2.2.2.1.2.1) (r1:Rep (.sl ty_Touch) M [u1] x.2.2.2.1.2.2) (r2:Rep (.sl ty_Block) M [u2] x.2.2.2.2):Rep ty_Oram M [.int .i64 x.1,.int .i64 x.2.1,.int .i64 x.2.2.1,.int .i64 x.2.2.2.1.1,u0,u1,u2] x:=by
  exact ⟨[.int .i64 x.1],([.int .i64 x.2.1]++[.int .i64 x.2.2.1]++[.int .i64 x.2.2.2.1.1,u0,u1]++[u2]),rfl,⟨rfl,w0⟩,⟨[.int .i64 x.2.1],([.int .i64 x.2.2.1]++[.int .i64 x.2.2.2.1.1,u0,u1]++[u2]),rfl,⟨rfl,w1⟩,⟨[.int .i64 x.2.2.1],([.int .i64 x.2.2.2.1.1,u0,u1]++[u2]),rfl,⟨rfl,w2⟩,⟨[.int .i64 x.2.2.2.1.1,u0,u1],([u2]),rfl,(mkrep_g_Mem w3 r0 r1),r2⟩⟩⟩⟩
abbrev enc_Touch (x:ty_Touch.D):List V:=[.int .i64 x.1,.int .i64 x.2.1,.int .i64 x.2.2]
theorem own_Touch (M:Mem) (x:ty_Touch.D) (h0:(Lit.int .i64 x.1).wf=true) (h1:(Lit.int .i64 x.2.1).wf=true) (h2:(Lit.int .i64 x.2.2).wf=true):Own ty_Touch M (enc_Touch x) x []:=⟨[.int .i64 x.1],[.int .i64 x.2.1,.int .i64 x.2.2],[],[],rfl,⟨⟨rfl,h0⟩,rfl⟩,⟨[.int .i64 x.2.1],[.int .i64 x.2.2],[],[],rfl,⟨⟨rfl,h1⟩,rfl⟩,⟨⟨rfl,h2⟩,rfl⟩,rfl⟩,rfl⟩
theorem rown_Touch {M:Mem} {x:ty_Touch.D} (h:Rep ty_Touch M (enc_Touch x) x):Own ty_Touch M (enc_Touch x) x []:=by
  obtain ⟨_,_,_,⟨_,w1⟩,c3,c4,_,⟨_,w2⟩,⟨_,w3⟩⟩:=h
  exact own_Touch M x w1 w2 w3
theorem rep_Touch {M:Mem} {cs:List V} {x:ty_Touch.D} (h:Rep ty_Touch M cs x):cs=enc_Touch x:=by
  obtain ⟨_,_,rfl,⟨rfl,_⟩,⟨_,_,rfl,⟨rfl,_⟩,⟨rfl,_⟩⟩⟩:=h
  rfl
theorem c_laws_toTouch_f (M:Mem) (x:ty_Touch.D):aCall T0 F_laws_toTouch [.agg (enc_Touch x).toArray] M=some (.agg (enc_Touch x).toArray,M):=by
  rw [aCall_eq T_laws_toTouch]; unfold A_laws_toTouch C_laws_toTouch; simp
theorem k_laws_toTouch:ToF T0 ty_Touch F_laws_toTouch:=fun M cs x h hb=>by
  obtain rfl:=rep_Touch h
  exact ⟨M,_,[],List.prefix_refl _,c_laws_toTouch_f M x,rown_Touch h,by simp,by simp⟩
def z_Touch:List V:=[(.int .i64 0),(.int .i64 0),(.int .i64 0)]
theorem k_laws_toTouchS:ToS T0 ty_Touch F_laws_toTouchS:=to_sl (w:=3) (bytes:=24) (zero:=z_Touch) T_laws_toTouchS rfl rfl rfl (by decide) k_laws_toTouch
theorem rep_g_Cell {M:Mem} {cs:List V} {x:ty_Cell.D} (h:Rep ty_Cell M cs x):∃ u0:V,cs=[u0]∧Rep (.sl ty_Byte) M [u0] x:=by
  obtain ⟨u0,rfl⟩:∃ u,cs=[u]:=by
    have l0:=Rep.len (h)
    exact List.length_eq_one_iff.1 l0
  have r0:=h
  exact ⟨u0,rfl,r0⟩
theorem mkown_g_Cell {M:Mem} {x:ty_Cell.D} {u0:V} {L0:List Nat} (r0:Own (.sl ty_Byte) M [u0] x L0):Own ty_Cell M [u0] x (L0):=by
  have h:Own ty_Cell M [u0] x _:=r0
  simpa only [List.append_nil,List.nil_append,List.append_assoc] using h
theorem nodup_flat {t:Ty} (hf:∀ (M:Mem) (cs:List V) (x:t.D) (K:List Nat),Own t M cs x K→K=[]) {M:Mem} {v:V} {xs:List t.D} {L:List Nat} (h:Own (.sl t) M [v] xs L):L.Nodup:=by
  rcases own_flat hf h with ⟨_,rfl,_⟩ | ⟨l,_,_,_,_,_,_,_,_,_,rfl⟩ <;> simp
theorem ownf_Byte (M:Mem) (cs:List V) (x:ty_Byte.D) (K:List Nat) (h:Own ty_Byte M cs x K):K=[]:=h.2
abbrev enc_Byte (x:ty_Byte.D):List V:=[byteV x]
def z_Byte:List V:=[.int .u8 0]
theorem at_Byte {M:Mem} {a:Option Addr} {n c:Nat} {xs:List ty_Byte.D} (h:Rep (.sl ty_Byte) M [.slice a n c] xs) {i:Nat} (hi:i < xs.length):∃ l o,a=some ⟨l,o,none⟩∧Rep ty_Byte M (enc_Byte xs[i]) xs[i]∧rd1 M l (o+i)=some (byteV xs[i]):=by
  obtain ⟨_,l,o,rfl,cs,hrd,hrep⟩:=rep_at h hi
  have hcs:cs=enc_Byte xs[i]:=hrep
  subst hcs
  have hw1:ty_Byte.w=1:=rfl
  rw [hw1,Nat.mul_one] at hrd
  exact ⟨l,o,rfl,hrep,rd1_of_one hrd⟩
theorem r_laws_toByteS (M:Mem) (a:Option Addr) (c:Nat) (xs:List ty_Byte.D) (h:Rep (.sl ty_Byte) M [.slice a xs.length c] xs) (hn:xs.length≤1048576) (i:Nat) (hi:i < xs.length) :
    lp (aCall T0) K_laws_toByteS_0 L_laws_toByteS_0 [.slice a xs.length c,O,O,.slice (some ⟨M.length,0,none⟩) xs.length xs.length,.int .i64 i,O,O,O,O,O,O,O,O,O,O,O,O,O,O,O,O,O] (M++[⟨tcells enc_Byte z_Byte xs i,1,2⟩]) =
    lp (aCall T0) K_laws_toByteS_0 L_laws_toByteS_0 [.slice a xs.length c,O,O,.slice (some ⟨M.length,0,none⟩) xs.length xs.length,.int .i64 (i+1:Nat),O,O,O,O,O,O,O,O,O,O,O,O,O,O,O,O,O] (M++[⟨tcells enc_Byte z_Byte xs (i+1),1,2⟩]):=by
  obtain ⟨l,o,rfl,hrep,hrd⟩:=at_Byte h hi
  have hrd2:rd1 (M++[⟨tcells enc_Byte z_Byte xs i,1,2⟩]) l (o+i)=some (byteV xs[i]):=rd1_old hrd
  have e2:=tcells_len (enc:=enc_Byte) (z:=z_Byte) (xs:=xs) (fun x _=>rfl) (i:=i) (by omega)
  have e3:=tcells_step (enc:=enc_Byte) (z:=z_Byte) (xs:=xs) (fun x _=>rfl) hi
  have e4:z_Byte.length=1:=rfl
  rw [e4,Nat.mul_one] at e2 e3
  have e5:i+1≤xs.length:=by omega
  have e6:IntKind.i64.wrap ((i:Int)+1)=i+1:=wrap_i64 (by omega) (by omega)
  unfold splice at e3
  simp at e3
  rw [S_laws_toByteS_0]; unfold B_laws_toByteS_0; simp [hrd2,e2,e3,e5,e6,hi]
theorem c_laws_toByteS (M:Mem) (v:V) (xs:List ty_Byte.D) (h:Rep (.sl ty_Byte) M [v] xs) (hn:xs.length≤1048576) :
    aCall T0 F_laws_toByteS [v] M=some (.slice (some ⟨M.length,0,none⟩) xs.length xs.length,M++[⟨(xs.map enc_Byte).flatten,1,2⟩]):=by
  obtain ⟨a,c,rfl⟩:=h.slen
  have hl:=chain (g:=fun i:Nat=>lp (aCall T0) K_laws_toByteS_0 L_laws_toByteS_0 [.slice a xs.length c,O,O,.slice (some ⟨M.length,0,none⟩) xs.length xs.length,.int .i64 i,O,O,O,O,O,O,O,O,O,O,O,O,O,O,O,O,O] (M++[⟨tcells enc_Byte z_Byte xs i,1,2⟩])) (n:=xs.length) fun i hi=>r_laws_toByteS M a c xs h hn i hi
  simp only [Int.natCast_zero,Int.ofNat_zero,tcells_zero,tcells_full] at hl
  unfold z_Byte at hl
  simp only [zeroCells_zc] at hl
  have e1:(xs.length:Int)≤281474976710656:=by omega
  have e2:(xs.length:Int)≤9223372036854775807:=by omega
  rw [aCall_eq T_laws_toByteS]; unfold A_laws_toByteS C_laws_toByteS; simp [e1,e2]
  rw [hl]
  rw [S_laws_toByteS_0]; unfold B_laws_toByteS_0; simp
theorem own_Byte (M:Mem) (x:ty_Byte.D):Own ty_Byte M (enc_Byte x) x []:=⟨rfl,rfl⟩
theorem d_laws_toByteS (M:Mem) (v:V) (xs:List ty_Byte.D) (h:Rep (.sl ty_Byte) M [v] xs) (hn:xs.length≤1048576):∃ M' u L,M <+: M'∧aCall T0 F_laws_toByteS [v] M=some (u,M')∧Own (.sl ty_Byte) M' [u] xs L∧∀ l ∈ L,M.length≤l∧l < M'.length:=by
  have e:=c_laws_toByteS M v xs h hn
  obtain ⟨L,o1,o2⟩:=own_blk (t:=ty_Byte) (M:=M++[⟨(xs.map enc_Byte).flatten,1,2⟩]) (l:=M.length) (c:=xs.length) (enc:=enc_Byte) (ys:=xs) (by simp; rfl) (fun y _=>own_Byte _ y)
  exact ⟨_,_,L,List.prefix_append _ _,e,o1,fun l hl=>by rw [o2 l hl]; simp⟩
theorem k_laws_toByteS:ToS T0 ty_Byte F_laws_toByteS:=fun M v xs h hb=>by
  obtain ⟨M',u,L,p,e,o,f⟩:=d_laws_toByteS M v xs h hb.1
  exact ⟨M',u,L,p,e,o,nodup_flat ownf_Byte o,f⟩
set_option maxHeartbeats 4000000 in
theorem k_laws_toCell:ToF T0 ty_Cell F_laws_toCell:=by
  intro M cs x h hb
  obtain ⟨u0,rfl,r0⟩:=rep_g_Cell h
  have i0:=one_head r0.one
  show ToG ty_Cell M x _
  rw [aCall_eq T_laws_toCell]; unfold A_laws_toCell C_laws_toCell; simp [apA,i0]
  generalize hx1:aCall T0 F_laws_toByteS _ _=x_1
  obtain ⟨M1,v0,K1,rfl,p1,o1,F1⟩:=ToS.at k_laws_toByteS hx1 (r0.mono (List.prefix_append _ _)) hb
  have f1:=F1.2
  clear hx1
  have b0_1:M1[M.length]?=some ⟨[u0],1,2⟩:=get_pre p1 (by simp)
  have b1_1:M1[M.length+1]?=some ⟨[(.slice none 0 0)],1,2⟩:=get_pre p1 (by simp)
  have b2_1:M1[M.length+2]?=some ⟨[(.slice none 0 0)],1,2⟩:=get_pre p1 (by simp)
  have l_1:=get_lt b2_1
  have y1:M <+: M1:=(List.prefix_append _ _).trans p1
  simp only [List.length_append,List.length_cons,List.length_nil] at f1
  have z1:M <+: M1.set (M.length+2) ⟨[v0],1,2⟩:=pf_set (by omega) y1
  have q1:=one_head (o1.rep.one)
  have qc1:=cells_sl o1
  have hb1:(M1.set (M.length+2) ⟨[v0],1,2⟩)[M.length+1]?=some ⟨[(.slice none 0 0)],1,2⟩:=by simp [b1_1]
  have g1:=((o1.set (b2:=⟨[v0],1,2⟩) b2_1 rfl (fun hm=>by have:=f1 _ hm; omega)).set (b2:=⟨[v0],1,2⟩) hb1 rfl (fun hm=>by have:=f1 _ hm; omega))
  have hh:=mkown_g_Cell (x:=x) g1
  try simp only [List.append_assoc] at hh
  obtain ⟨_,_,rfl⟩:=o1.rep.slen
  have gs2:∀ B C:Blk,((M1.set (M.length+2) B).set (M.length+1) C)[M.length+1]?=some C:=fun B C=>List.getElem?_set_self (by rw [List.length_set]; omega)
  simp [apA,b0_1,b1_1,b2_1,gs_of b2_1,gs2,rd1_K,rdJ_ok,rdn_K,rnJ_ok,wrn_K,wrJ_ok]
  refine ⟨_,_,K1,?_,rfl,?_,?_⟩
  · exact pf_set (by omega) (pf_set (by omega) y1)
  · first | exact hh | (simp only [List.append_assoc]; exact hh)
  · refine ⟨F1.1,fun l hl=>?_⟩
    have:=F1.2 l hl
    simp only [List.length_append,List.length_cons,List.length_nil,List.length_set] at this ⊢
    omega
theorem k_laws_toCellS:ToS T0 ty_Cell F_laws_toCellS:=to_sl (w:=1) (bytes:=24) (zero:=[.slice none 0 0]) T_laws_toCellS rfl rfl rfl (by decide) k_laws_toCell
set_option maxHeartbeats 4000000 in
theorem k_laws_toMem:ToF T0 ty_Mem F_laws_toMem:=by
  intro M cs x h hb
  obtain ⟨u0,u1,rfl,w0,r0,r1⟩:=rep_g_Mem h
  have i0:=one_head r0.one
  have i1:=one_head r1.one
  show ToG ty_Mem M x _
  rw [aCall_eq T_laws_toMem]; unfold A_laws_toMem C_laws_toMem; simp [apA,i0,i1]
  generalize hx1:aCall T0 F_laws_toCellS _ _=x_1
  obtain ⟨M1,v0,K1,rfl,p1,o1,F1⟩:=ToS.at k_laws_toCellS hx1 (r0.mono (List.prefix_append _ _)) hb.2.1
  have f1:=F1.2
  clear hx1
  have b0_1:M1[M.length]?=some ⟨[.int .i64 x.1,u0,u1],1,2⟩:=get_pre p1 (by simp)
  have b1_1:M1[M.length+1]?=some ⟨[(.int .i64 0),(.slice none 0 0),(.slice none 0 0)],1,2⟩:=get_pre p1 (by simp)
  have b2_1:M1[M.length+2]?=some ⟨[.int .i64 x.1,(.slice none 0 0),(.slice none 0 0)],1,2⟩:=get_pre p1 (by simp)
  have l_1:=get_lt b2_1
  have y1:M <+: M1:=(List.prefix_append _ _).trans p1
  simp only [List.length_append,List.length_cons,List.length_nil] at f1
  have z1:M <+: M1.set (M.length+2) ⟨[.int .i64 x.1,v0,(.slice none 0 0)],1,2⟩:=pf_set (by omega) y1
  have q1:=one_head (o1.rep.one)
  have qc1:=cells_sl o1
  simp [apA,b0_1,b1_1,b2_1,gs_of b2_1,q1,qc1,rd1_K,rdJ_ok,rdn_K,rnJ_ok,wrn_K,wrJ_ok]
  generalize hx2:aCall T0 F_laws_toTouchS _ _=x_2
  obtain ⟨M2,v1,K2,rfl,p2,o2,F2⟩:=ToS.at k_laws_toTouchS hx2 (r1.mono z1) hb.2.2
  have f2:=F2.2
  clear hx2
  have b0_2:M2[M.length]?=some ⟨[.int .i64 x.1,u0,u1],1,2⟩:=get_pre p2 (by simp [b0_1])
  have b1_2:M2[M.length+1]?=some ⟨[(.int .i64 0),(.slice none 0 0),(.slice none 0 0)],1,2⟩:=get_pre p2 (by simp [b1_1])
  have b2_2:M2[M.length+2]?=some ⟨[.int .i64 x.1,v0,(.slice none 0 0)],1,2⟩:=get_pre p2 (by simp [l_1])
  have l_2:=get_lt b2_2
  have y2:M <+: M2:=z1.trans p2
  simp only [List.length_set] at f2
  have G2:=F1.app (by simp) F2 p1.length_le p2
  have g0_2:=Nat.le_trans p1.length_le (Nat.le_trans (Nat.le_of_eq (List.length_set).symm) p2.length_le)
  have o1:=(o1.set (b2:=⟨[.int .i64 x.1,v0,(.slice none 0 0)],1,2⟩) b2_1 rfl (fun hm=>by have:=f1 _ hm; omega)).grow p2
  have f1:∀ l ∈ K1,M.length+3≤l∧l < M2.length:=fun l hl=>by have:=f1 l hl; have:=p2.length_le; simp only [List.length_set] at this; omega
  have z2:M <+: M2.set (M.length+2) ⟨[.int .i64 x.1,v0,v1],1,2⟩:=pf_set (by omega) y2
  have q2:=one_head (o2.rep.one)
  have qc2:=cells_sl o2
  have hb1:(M2.set (M.length+2) ⟨[.int .i64 x.1,v0,v1],1,2⟩)[M.length+1]?=some ⟨[(.int .i64 0),(.slice none 0 0),(.slice none 0 0)],1,2⟩:=by simp [b1_2]
  have g1:=((o1.set (b2:=⟨[.int .i64 x.1,v0,v1],1,2⟩) b2_2 rfl (fun hm=>by have:=f1 _ hm; omega)).set (b2:=⟨[.int .i64 x.1,v0,v1],1,2⟩) hb1 rfl (fun hm=>by have:=f1 _ hm; omega))
  have g2:=((o2.set (b2:=⟨[.int .i64 x.1,v0,v1],1,2⟩) b2_2 rfl (fun hm=>by have:=f2 _ hm; omega)).set (b2:=⟨[.int .i64 x.1,v0,v1],1,2⟩) hb1 rfl (fun hm=>by have:=f2 _ hm; omega))
  have hh:=mkown_g_Mem (x:=x) w0 g1 g2
  try simp only [List.append_assoc] at hh
  obtain ⟨_,_,rfl⟩:=o1.rep.slen
  obtain ⟨_,_,rfl⟩:=o2.rep.slen
  have gs2:∀ B C:Blk,((M2.set (M.length+2) B).set (M.length+1) C)[M.length+1]?=some C:=fun B C=>List.getElem?_set_self (by rw [List.length_set]; omega)
  simp [apA,b0_2,b1_2,b2_2,gs_of b2_2,gs2,rd1_K,rdJ_ok,rdn_K,rnJ_ok,wrn_K,wrJ_ok]
  refine ⟨_,_,K1++K2,?_,rfl,?_,?_⟩
  · exact pf_set (by omega) (pf_set (by omega) y2)
  · first | exact hh | (simp only [List.append_assoc]; exact hh)
  · refine ⟨G2.1,fun l hl=>?_⟩
    have:=G2.2 l hl
    simp only [List.length_append,List.length_cons,List.length_nil,List.length_set] at this ⊢
    omega
theorem rep_g_Block {M:Mem} {cs:List V} {x:ty_Block.D} (h:Rep ty_Block M cs x):∃ u0:V,cs=[.int .i64 x.1,.int .i64 x.2.1,u0]∧(Lit.int .i64 x.1).wf=true∧(Lit.int .i64 x.2.1).wf=true∧Rep (.sl ty_Byte) M [u0] x.2.2:=by
  obtain ⟨c0,d0,rfl,h0,h⟩:=h
  obtain ⟨rfl,w0⟩:=h0
  obtain ⟨c1,d1,rfl,h1,h⟩:=h
  obtain ⟨rfl,w1⟩:=h1
  obtain ⟨u0,rfl⟩:∃ u,d1=[u]:=by
    have l0:=Rep.len (h)
    exact List.length_eq_one_iff.1 l0
  have r0:=h
  exact ⟨u0,rfl,w0,w1,r0⟩
theorem mkown_g_Block {M:Mem} {x:ty_Block.D} {u0:V} {L0:List Nat} (w0:(Lit.int .i64 x.1).wf=true) (w1:(Lit.int .i64 x.2.1).wf=true) (r0:Own (.sl ty_Byte) M [u0] x.2.2 L0):Own ty_Block M [.int .i64 x.1,.int .i64 x.2.1,u0] x (L0):=by
  have h:Own ty_Block M [.int .i64 x.1,.int .i64 x.2.1,u0] x _:=⟨[.int .i64 x.1],([.int .i64 x.2.1]++[u0]),_,_,rfl,⟨⟨rfl,w0⟩,rfl⟩,⟨[.int .i64 x.2.1],([u0]),_,_,rfl,⟨⟨rfl,w1⟩,rfl⟩,r0,rfl⟩,rfl⟩
  simpa only [List.append_nil,List.nil_append,List.append_assoc] using h
set_option maxHeartbeats 4000000 in
theorem k_laws_toBlock:ToF T0 ty_Block F_laws_toBlock:=by
  intro M cs x h hb
  obtain ⟨u0,rfl,w0,w1,r0⟩:=rep_g_Block h
  have i0:=one_head r0.one
  show ToG ty_Block M x _
  rw [aCall_eq T_laws_toBlock]; unfold A_laws_toBlock C_laws_toBlock; simp [apA,i0]
  generalize hx1:aCall T0 F_laws_toByteS _ _=x_1
  obtain ⟨M1,v0,K1,rfl,p1,o1,F1⟩:=ToS.at k_laws_toByteS hx1 (r0.mono (List.prefix_append _ _)) hb.2.2
  have f1:=F1.2
  clear hx1
  have b0_1:M1[M.length]?=some ⟨[.int .i64 x.1,.int .i64 x.2.1,u0],1,2⟩:=get_pre p1 (by simp)
  have b1_1:M1[M.length+1]?=some ⟨[(.int .i64 0),(.int .i64 0),(.slice none 0 0)],1,2⟩:=get_pre p1 (by simp)
  have b2_1:M1[M.length+2]?=some ⟨[.int .i64 x.1,.int .i64 x.2.1,(.slice none 0 0)],1,2⟩:=get_pre p1 (by simp)
  have l_1:=get_lt b2_1
  have y1:M <+: M1:=(List.prefix_append _ _).trans p1
  simp only [List.length_append,List.length_cons,List.length_nil] at f1
  have z1:M <+: M1.set (M.length+2) ⟨[.int .i64 x.1,.int .i64 x.2.1,v0],1,2⟩:=pf_set (by omega) y1
  have q1:=one_head (o1.rep.one)
  have qc1:=cells_sl o1
  have hb1:(M1.set (M.length+2) ⟨[.int .i64 x.1,.int .i64 x.2.1,v0],1,2⟩)[M.length+1]?=some ⟨[(.int .i64 0),(.int .i64 0),(.slice none 0 0)],1,2⟩:=by simp [b1_1]
  have g1:=((o1.set (b2:=⟨[.int .i64 x.1,.int .i64 x.2.1,v0],1,2⟩) b2_1 rfl (fun hm=>by have:=f1 _ hm; omega)).set (b2:=⟨[.int .i64 x.1,.int .i64 x.2.1,v0],1,2⟩) hb1 rfl (fun hm=>by have:=f1 _ hm; omega))
  have hh:=mkown_g_Block (x:=x) w0 w1 g1
  try simp only [List.append_assoc] at hh
  obtain ⟨_,_,rfl⟩:=o1.rep.slen
  have gs2:∀ B C:Blk,((M1.set (M.length+2) B).set (M.length+1) C)[M.length+1]?=some C:=fun B C=>List.getElem?_set_self (by rw [List.length_set]; omega)
  simp [apA,b0_1,b1_1,b2_1,gs_of b2_1,gs2,rd1_K,rdJ_ok,rdn_K,rnJ_ok,wrn_K,wrJ_ok]
  refine ⟨_,_,K1,?_,rfl,?_,?_⟩
  · exact pf_set (by omega) (pf_set (by omega) y1)
  · first | exact hh | (simp only [List.append_assoc]; exact hh)
  · refine ⟨F1.1,fun l hl=>?_⟩
    have:=F1.2 l hl
    simp only [List.length_append,List.length_cons,List.length_nil,List.length_set] at this ⊢
    omega
theorem k_laws_toBlockS:ToS T0 ty_Block F_laws_toBlockS:=to_sl (w:=3) (bytes:=40) (zero:=[.int .i64 0,.int .i64 0,.slice none 0 0]) T_laws_toBlockS rfl rfl rfl (by decide) k_laws_toBlock
set_option maxHeartbeats 4000000 in
theorem k_laws_toOram:ToF T0 ty_Oram F_laws_toOram:=by
  intro M cs x h hb
  obtain ⟨u0,u1,u2,rfl,w0,w1,w2,w3,r0,r1,r2⟩:=rep_g_Oram h
  have i0:=one_head r0.one
  have i1:=one_head r1.one
  have i2:=one_head r2.one
  show ToG ty_Oram M x _
  rw [aCall_eq T_laws_toOram]; unfold A_laws_toOram C_laws_toOram; simp [apA,i0,i1,i2]
  generalize hx1:aCall T0 F_laws_toMem _ _=x_1
  obtain ⟨M1,ds1,K1,rfl,p1,o1,F1⟩:=ToF.at k_laws_toMem hx1 ((mkrep_g_Mem w3 (r0.mono (List.prefix_append _ _)) (r1.mono (List.prefix_append _ _)))) hb.2.2.2.1
  have f1:=F1.2
  obtain ⟨v0,v1,K1_0,K1_1,rfl,_,o1_0,o1_1,eK1⟩:=own_g_Mem o1
  clear hx1
  have b0_1:M1[M.length]?=some ⟨[.int .i64 x.1,.int .i64 x.2.1,.int .i64 x.2.2.1,.int .i64 x.2.2.2.1.1,u0,u1,u2],1,2⟩:=get_pre p1 (by simp)
  have b1_1:M1[M.length+1]?=some ⟨[(.int .i64 0),(.int .i64 0),(.int .i64 0),(.int .i64 0),(.slice none 0 0),(.slice none 0 0),(.slice none 0 0)],1,2⟩:=get_pre p1 (by simp)
  have b2_1:M1[M.length+2]?=some ⟨[.int .i64 x.1,.int .i64 x.2.1,.int .i64 x.2.2.1,(.int .i64 0),(.slice none 0 0),(.slice none 0 0),(.slice none 0 0)],1,2⟩:=get_pre p1 (by simp)
  have l_1:=get_lt b2_1
  have y1:M <+: M1:=(List.prefix_append _ _).trans p1
  simp only [List.length_append,List.length_cons,List.length_nil] at f1
  have z1:M <+: M1.set (M.length+2) ⟨[.int .i64 x.1,.int .i64 x.2.1,.int .i64 x.2.2.1,.int .i64 x.2.2.2.1.1,v0,v1,(.slice none 0 0)],1,2⟩:=pf_set (by omega) y1
  have q1_0:=one_head (o1_0.rep.one)
  have qc1_0:=cells_sl o1_0
  have q1_1:=one_head (o1_1.rep.one)
  have qc1_1:=cells_sl o1_1
  simp [apA,b0_1,b1_1,b2_1,gs_of b2_1,q1_0,q1_1,qc1_0,qc1_1,rd1_K,rdJ_ok,rdn_K,rnJ_ok,wrn_K,wrJ_ok]
  generalize hx2:aCall T0 F_laws_toBlockS _ _=x_2
  obtain ⟨M2,v2,K2,rfl,p2,o2,F2⟩:=ToS.at k_laws_toBlockS hx2 (r2.mono z1) hb.2.2.2.2
  have f2:=F2.2
  clear hx2
  have b0_2:M2[M.length]?=some ⟨[.int .i64 x.1,.int .i64 x.2.1,.int .i64 x.2.2.1,.int .i64 x.2.2.2.1.1,u0,u1,u2],1,2⟩:=get_pre p2 (by simp [b0_1])
  have b1_2:M2[M.length+1]?=some ⟨[(.int .i64 0),(.int .i64 0),(.int .i64 0),(.int .i64 0),(.slice none 0 0),(.slice none 0 0),(.slice none 0 0)],1,2⟩:=get_pre p2 (by simp [b1_1])
  have b2_2:M2[M.length+2]?=some ⟨[.int .i64 x.1,.int .i64 x.2.1,.int .i64 x.2.2.1,.int .i64 x.2.2.2.1.1,v0,v1,(.slice none 0 0)],1,2⟩:=get_pre p2 (by simp [l_1])
  have l_2:=get_lt b2_2
  have y2:M <+: M2:=z1.trans p2
  simp only [List.length_set] at f2
  have G2:=F1.app (by simp) F2 p1.length_le p2
  have g0_2:=Nat.le_trans p1.length_le (Nat.le_trans (Nat.le_of_eq (List.length_set).symm) p2.length_le)
  have o1:=(o1.set (b2:=⟨[.int .i64 x.1,.int .i64 x.2.1,.int .i64 x.2.2.1,.int .i64 x.2.2.2.1.1,v0,v1,(.slice none 0 0)],1,2⟩) b2_1 rfl (fun hm=>by have:=f1 _ hm; omega)).grow p2
  have f1:∀ l ∈ K1,M.length+3≤l∧l < M2.length:=fun l hl=>by have:=f1 l hl; have:=p2.length_le; simp only [List.length_set] at this; omega
  have z2:M <+: M2.set (M.length+2) ⟨[.int .i64 x.1,.int .i64 x.2.1,.int .i64 x.2.2.1,.int .i64 x.2.2.2.1.1,v0,v1,v2],1,2⟩:=pf_set (by omega) y2
  have q2:=one_head (o2.rep.one)
  have qc2:=cells_sl o2
  have hb1:(M2.set (M.length+2) ⟨[.int .i64 x.1,.int .i64 x.2.1,.int .i64 x.2.2.1,.int .i64 x.2.2.2.1.1,v0,v1,v2],1,2⟩)[M.length+1]?=some ⟨[(.int .i64 0),(.int .i64 0),(.int .i64 0),(.int .i64 0),(.slice none 0 0),(.slice none 0 0),(.slice none 0 0)],1,2⟩:=by simp [b1_2]
  have g1:=((o1.set (b2:=⟨[.int .i64 x.1,.int .i64 x.2.1,.int .i64 x.2.2.1,.int .i64 x.2.2.2.1.1,v0,v1,v2],1,2⟩) b2_2 rfl (fun hm=>by have:=f1 _ hm; omega)).set (b2:=⟨[.int .i64 x.1,.int .i64 x.2.1,.int .i64 x.2.2.1,.int .i64 x.2.2.2.1.1,v0,v1,v2],1,2⟩) hb1 rfl (fun hm=>by have:=f1 _ hm; omega))
  have g2:=((o2.set (b2:=⟨[.int .i64 x.1,.int .i64 x.2.1,.int .i64 x.2.2.1,.int .i64 x.2.2.2.1.1,v0,v1,v2],1,2⟩) b2_2 rfl (fun hm=>by have:=f2 _ hm; omega)).set (b2:=⟨[.int .i64 x.1,.int .i64 x.2.1,.int .i64 x.2.2.1,.int .i64 x.2.2.2.1.1,v0,v1,v2],1,2⟩) hb1 rfl (fun hm=>by have:=f2 _ hm; omega))
  obtain ⟨s1_0,s1_1,H1_0,H1_1,es1,_,j1_0,j1_1,eK1⟩:=own_g_Mem g1
  simp only [List.cons.injEq,and_true,true_and] at es1
  obtain ⟨rfl,rfl⟩:=es1
  have hh:=mkown_g_Oram (x:=x) w0 w1 w2 w3 j1_0 j1_1 g2
  try simp only [List.append_assoc] at hh
  obtain ⟨s1_0,s1_1,_,_,es1,_,t1_0,t1_1,_⟩:=own_g_Mem o1
  simp only [List.cons.injEq,and_true,true_and] at es1
  obtain ⟨rfl,rfl⟩:=es1
  obtain ⟨_,_,rfl⟩:=t1_0.rep.slen
  obtain ⟨_,_,rfl⟩:=t1_1.rep.slen
  obtain ⟨_,_,rfl⟩:=o2.rep.slen
  have gs2:∀ B C:Blk,((M2.set (M.length+2) B).set (M.length+1) C)[M.length+1]?=some C:=fun B C=>List.getElem?_set_self (by rw [List.length_set]; omega)
  simp [apA,b0_2,b1_2,b2_2,gs_of b2_2,gs2,rd1_K,rdJ_ok,rdn_K,rnJ_ok,wrn_K,wrJ_ok]
  refine ⟨_,_,K1++K2,?_,rfl,?_,?_⟩
  · exact pf_set (by omega) (pf_set (by omega) y2)
  · first | exact hh | (simp only [List.append_assoc]; exact hh) | (simp only [eK1]; exact hh) | (simp only [eK1,List.append_assoc]; exact hh)
  · refine ⟨G2.1,fun l hl=>?_⟩
    have:=G2.2 l hl
    simp only [List.length_append,List.length_cons,List.length_nil,List.length_set] at this ⊢
    omega
theorem ownf_Int (M:Mem) (cs:List V) (x:ty_Int.D) (K:List Nat) (h:Own ty_Int M cs x K):K=[]:=h.2
abbrev enc_Int (x:ty_Int.D):List V:=[.int .i64 x]
theorem at_Int {M:Mem} {a:Option Addr} {n c:Nat} {xs:List ty_Int.D} (h:Rep (.sl ty_Int) M [.slice a n c] xs) {i:Nat} (hi:i < xs.length):∃ l o,a=some ⟨l,o,none⟩∧Rep ty_Int M (enc_Int xs[i]) xs[i]∧rd1 M l (o+i)=some (.int .i64 xs[i]):=by
  obtain ⟨_,l,o,rfl,cs,hrd,hrep⟩:=rep_at h hi
  have hcs:cs=enc_Int xs[i]:=hrep.1
  subst hcs
  have hw1:ty_Int.w=1:=rfl
  rw [hw1,Nat.mul_one] at hrd
  exact ⟨l,o,rfl,hrep,rd1_of_one hrd⟩
def z_Int:List V:=[.int .i64 0]
theorem r_laws_toIntS (M:Mem) (a:Option Addr) (c:Nat) (xs:List ty_Int.D) (h:Rep (.sl ty_Int) M [.slice a xs.length c] xs) (hn:xs.length≤1048576) (i:Nat) (hi:i < xs.length) :
    lp (aCall T0) K_laws_toIntS_0 L_laws_toIntS_0 [.slice a xs.length c,O,O,.slice (some ⟨M.length,0,none⟩) xs.length xs.length,.int .i64 i,O,O,O,O,O,O,O,O,O,O,O,O,O,O,O,O,O] (M++[⟨tcells enc_Int z_Int xs i,1,2⟩]) =
    lp (aCall T0) K_laws_toIntS_0 L_laws_toIntS_0 [.slice a xs.length c,O,O,.slice (some ⟨M.length,0,none⟩) xs.length xs.length,.int .i64 (i+1:Nat),O,O,O,O,O,O,O,O,O,O,O,O,O,O,O,O,O] (M++[⟨tcells enc_Int z_Int xs (i+1),1,2⟩]):=by
  obtain ⟨l,o,rfl,hrep,hrd⟩:=at_Int h hi
  have hrd2:rd1 (M++[⟨tcells enc_Int z_Int xs i,1,2⟩]) l (o+i)=some (.int .i64 xs[i]):=rd1_old hrd
  have e2:=tcells_len (enc:=enc_Int) (z:=z_Int) (xs:=xs) (fun x _=>rfl) (i:=i) (by omega)
  have e3:=tcells_step (enc:=enc_Int) (z:=z_Int) (xs:=xs) (fun x _=>rfl) hi
  have e4:z_Int.length=1:=rfl
  rw [e4,Nat.mul_one] at e2 e3
  have e5:i+1≤xs.length:=by omega
  have e6:IntKind.i64.wrap ((i:Int)+1)=i+1:=wrap_i64 (by omega) (by omega)
  unfold splice at e3
  simp at e3
  rw [S_laws_toIntS_0]; unfold B_laws_toIntS_0; simp [hrd2,e2,e3,e5,e6,hi]
theorem c_laws_toIntS (M:Mem) (v:V) (xs:List ty_Int.D) (h:Rep (.sl ty_Int) M [v] xs) (hn:xs.length≤1048576) :
    aCall T0 F_laws_toIntS [v] M=some (.slice (some ⟨M.length,0,none⟩) xs.length xs.length,M++[⟨(xs.map enc_Int).flatten,1,2⟩]):=by
  obtain ⟨a,c,rfl⟩:=h.slen
  have hl:=chain (g:=fun i:Nat=>lp (aCall T0) K_laws_toIntS_0 L_laws_toIntS_0 [.slice a xs.length c,O,O,.slice (some ⟨M.length,0,none⟩) xs.length xs.length,.int .i64 i,O,O,O,O,O,O,O,O,O,O,O,O,O,O,O,O,O] (M++[⟨tcells enc_Int z_Int xs i,1,2⟩])) (n:=xs.length) fun i hi=>r_laws_toIntS M a c xs h hn i hi
  simp only [Int.natCast_zero,Int.ofNat_zero,tcells_zero,tcells_full] at hl
  unfold z_Int at hl
  simp only [zeroCells_zc] at hl
  have e1:(xs.length:Int) * 8≤281474976710656:=by omega
  have e2:(xs.length:Int)≤9223372036854775807:=by omega
  rw [aCall_eq T_laws_toIntS]; unfold A_laws_toIntS C_laws_toIntS; simp [e1,e2]
  rw [hl]
  rw [S_laws_toIntS_0]; unfold B_laws_toIntS_0; simp
theorem flat_Int (xs:List Int):(xs.map enc_Int).flatten=xs.map (fun m=>Value.int .i64 m):=by
  induction xs with
  | nil=>rfl
  | cons x xs ih=>rw [List.map_cons,List.flatten_cons,ih]; rfl
theorem own_block {M:Mem} {l c:Nat} {ys:List Int} (hb:M[l]?=some ⟨ys.map fun n=>.int .i64 n,1,2⟩) (hw:∀ y ∈ ys,(Lit.int .i64 y).wf=true):∃ L,Own (.sl ty_Int) M [.slice (some ⟨l,0,none⟩) ys.length c] ys L∧∀ j ∈ L,j=l:=by
  by_cases hy:ys=[]
  · subst hy
    exact ⟨[],.inl ⟨rfl,rfl,.inr ⟨l,0,c,_,[],rfl,hb,.inr (.inr rfl),rfl,rfl,fun i ds x hd=>by simp at hd,by simp⟩⟩,by simp⟩
  · refine ⟨[l],.inr ⟨l,0,c,_,ys.map enc_Int,ys.map (fun _=>[]),hy,rfl,hb,rfl,rfl,by simp,by simp,?_,?_,?_⟩,by simp⟩
    · intro i ds x K h1 h2 h3
      rw [List.getElem?_map,h2] at h1
      rw [List.getElem?_map,h2] at h3
      simp only [Option.map_some,Option.some.injEq] at h1 h3
      subst h1; subst h3
      exact ⟨⟨rfl,hw x (List.mem_of_getElem? h2)⟩,rfl⟩
    · rw [flat_Int]; simp
    · have:(ys.map (fun _=>([]:List Nat))).flatten=[]:=by
        rw [List.flatten_eq_nil_iff]
        intro K hK
        obtain ⟨_,_,rfl⟩:=List.mem_map.1 hK
        rfl
      rw [this]
theorem d_toInt (M:Mem) (v:V) (xs:List Int) (h:Rep (.sl ty_Int) M [v] xs) (hn:xs.length≤1048576):∃ M' u L,M <+: M'∧aCall T0 F_laws_toIntS [v] M=some (u,M')∧Own (.sl ty_Int) M' [u] xs L∧∀ l ∈ L,M.length≤l∧l < M'.length:=by
  have e:=c_laws_toIntS M v xs h hn
  have hw:∀ y ∈ xs,(Lit.int .i64 y).wf=true:=by
    intro y hy
    obtain ⟨i,hi,rfl⟩:=List.getElem_of_mem hy
    obtain ⟨a,c,rfl⟩:=h.slen
    obtain ⟨l,o,rfl,hr,_⟩:=at_Int h hi
    exact hr.2
  obtain ⟨L,o1,o2⟩:=own_block (M:=M++[⟨(xs.map enc_Int).flatten,1,2⟩]) (l:=M.length) (c:=xs.length) (ys:=xs) (by rw [flat_Int]; simp) hw
  exact ⟨_,_,L,List.prefix_append _ _,e,o1,fun l hl=>by rw [o2 l hl]; simp⟩
theorem d_laws_toIntS (M:Mem) (v:V) (xs:List Int) (h:Rep (.sl ty_Int) M [v] xs) (hn:xs.length≤1048576):∃ M' u L,M <+: M'∧aCall T0 F_laws_toIntS [v] M=some (u,M')∧Own (.sl ty_Int) M' [u] xs L∧∀ l ∈ L,M.length≤l∧l < M'.length:=d_toInt M v xs h hn
theorem k_laws_toIntS:ToS T0 ty_Int F_laws_toIntS:=fun M v xs h hb=>by
  obtain ⟨M',u,L,p,e,o,f⟩:=d_laws_toIntS M v xs h hb.1
  exact ⟨M',u,L,p,e,o,nodup_flat ownf_Int o,f⟩
set_option maxHeartbeats 4000000 in
theorem k_laws_toDeep:ToF T0 ty_Deep F_laws_toDeep:=by
  intro M cs x h hb
  obtain ⟨u0,u1,u2,u3,u4,u5,u6,rfl,w0,w1,w2,w3,w4,w5,w6,w7,w8,r0,r1,r2,r3,r4,r5,r6⟩:=rep_g_Deep h
  have i0:=one_head r0.one
  have i1:=one_head r1.one
  have i2:=one_head r2.one
  have i3:=one_head r3.one
  have i4:=one_head r4.one
  have i5:=one_head r5.one
  have i6:=one_head r6.one
  show ToG ty_Deep M x _
  rw [aCall_eq T_laws_toDeep]; unfold A_laws_toDeep C_laws_toDeep; simp [apA,i0,i1,i2,i3,i4,i5,i6]
  generalize hx1:aCall T0 F_laws_toIntS _ _=x_1
  obtain ⟨M1,v0,K1,rfl,p1,o1,F1⟩:=ToS.at k_laws_toIntS hx1 (r0.mono (List.prefix_append _ _)) hb.2.1
  have f1:=F1.2
  clear hx1
  have b0_1:M1[M.length]?=some ⟨[.int .i64 x.1,u0,.int .i64 x.2.2.1.1,.int .i64 x.2.2.1.2.1,.int .i64 x.2.2.1.2.2.1,.int .i64 x.2.2.1.2.2.2.1.1,u1,u2,u3,.int .i64 x.2.2.2.1,.int .i64 x.2.2.2.2.1,.int .i64 x.2.2.2.2.2.1,.int .i64 x.2.2.2.2.2.2.1.1,u4,u5,u6],1,2⟩:=get_pre p1 (by simp)
  have b1_1:M1[M.length+1]?=some ⟨[(.int .i64 0),(.slice none 0 0),(.int .i64 0),(.int .i64 0),(.int .i64 0),(.int .i64 0),(.slice none 0 0),(.slice none 0 0),(.slice none 0 0),(.int .i64 0),(.int .i64 0),(.int .i64 0),(.int .i64 0),(.slice none 0 0),(.slice none 0 0),(.slice none 0 0)],1,2⟩:=get_pre p1 (by simp)
  have b2_1:M1[M.length+2]?=some ⟨[.int .i64 x.1,(.slice none 0 0),(.int .i64 0),(.int .i64 0),(.int .i64 0),(.int .i64 0),(.slice none 0 0),(.slice none 0 0),(.slice none 0 0),(.int .i64 0),(.int .i64 0),(.int .i64 0),(.int .i64 0),(.slice none 0 0),(.slice none 0 0),(.slice none 0 0)],1,2⟩:=get_pre p1 (by simp)
  have l_1:=get_lt b2_1
  have y1:M <+: M1:=(List.prefix_append _ _).trans p1
  simp only [List.length_append,List.length_cons,List.length_nil] at f1
  have z1:M <+: M1.set (M.length+2) ⟨[.int .i64 x.1,v0,(.int .i64 0),(.int .i64 0),(.int .i64 0),(.int .i64 0),(.slice none 0 0),(.slice none 0 0),(.slice none 0 0),(.int .i64 0),(.int .i64 0),(.int .i64 0),(.int .i64 0),(.slice none 0 0),(.slice none 0 0),(.slice none 0 0)],1,2⟩:=pf_set (by omega) y1
  have q1:=one_head (o1.rep.one)
  have qc1:=cells_sl o1
  simp [apA,b0_1,b1_1,b2_1,gs_of b2_1,q1,qc1,rd1_K,rdJ_ok,rdn_K,rnJ_ok,wrn_K,wrJ_ok]
  generalize hx2:aCall T0 F_laws_toOram _ _=x_2
  obtain ⟨M2,ds2,K2,rfl,p2,o2,F2⟩:=ToF.at k_laws_toOram hx2 ((mkrep_g_Oram w1 w2 w3 w4 (r1.mono z1) (r2.mono z1) (r3.mono z1))) hb.2.2.1
  have f2:=F2.2
  obtain ⟨v1,v2,v3,K2_0,K2_1,K2_2,rfl,_,_,_,_,o2_0,o2_1,o2_2,eK2⟩:=own_g_Oram o2
  clear hx2
  have b0_2:M2[M.length]?=some ⟨[.int .i64 x.1,u0,.int .i64 x.2.2.1.1,.int .i64 x.2.2.1.2.1,.int .i64 x.2.2.1.2.2.1,.int .i64 x.2.2.1.2.2.2.1.1,u1,u2,u3,.int .i64 x.2.2.2.1,.int .i64 x.2.2.2.2.1,.int .i64 x.2.2.2.2.2.1,.int .i64 x.2.2.2.2.2.2.1.1,u4,u5,u6],1,2⟩:=get_pre p2 (by simp [b0_1])
  have b1_2:M2[M.length+1]?=some ⟨[(.int .i64 0),(.slice none 0 0),(.int .i64 0),(.int .i64 0),(.int .i64 0),(.int .i64 0),(.slice none 0 0),(.slice none 0 0),(.slice none 0 0),(.int .i64 0),(.int .i64 0),(.int .i64 0),(.int .i64 0),(.slice none 0 0),(.slice none 0 0),(.slice none 0 0)],1,2⟩:=get_pre p2 (by simp [b1_1])
  have b2_2:M2[M.length+2]?=some ⟨[.int .i64 x.1,v0,(.int .i64 0),(.int .i64 0),(.int .i64 0),(.int .i64 0),(.slice none 0 0),(.slice none 0 0),(.slice none 0 0),(.int .i64 0),(.int .i64 0),(.int .i64 0),(.int .i64 0),(.slice none 0 0),(.slice none 0 0),(.slice none 0 0)],1,2⟩:=get_pre p2 (by simp [l_1])
  have l_2:=get_lt b2_2
  have y2:M <+: M2:=z1.trans p2
  simp only [List.length_set] at f2
  have G2:=F1.app (by simp) F2 p1.length_le p2
  have g0_2:=Nat.le_trans p1.length_le (Nat.le_trans (Nat.le_of_eq (List.length_set).symm) p2.length_le)
  have o1:=(o1.set (b2:=⟨[.int .i64 x.1,v0,(.int .i64 0),(.int .i64 0),(.int .i64 0),(.int .i64 0),(.slice none 0 0),(.slice none 0 0),(.slice none 0 0),(.int .i64 0),(.int .i64 0),(.int .i64 0),(.int .i64 0),(.slice none 0 0),(.slice none 0 0),(.slice none 0 0)],1,2⟩) b2_1 rfl (fun hm=>by have:=f1 _ hm; omega)).grow p2
  have f1:∀ l ∈ K1,M.length+3≤l∧l < M2.length:=fun l hl=>by have:=f1 l hl; have:=p2.length_le; simp only [List.length_set] at this; omega
  have z2:M <+: M2.set (M.length+2) ⟨[.int .i64 x.1,v0,.int .i64 x.2.2.1.1,.int .i64 x.2.2.1.2.1,.int .i64 x.2.2.1.2.2.1,.int .i64 x.2.2.1.2.2.2.1.1,v1,v2,v3,(.int .i64 0),(.int .i64 0),(.int .i64 0),(.int .i64 0),(.slice none 0 0),(.slice none 0 0),(.slice none 0 0)],1,2⟩:=pf_set (by omega) y2
  have q2_0:=one_head (o2_0.rep.one)
  have qc2_0:=cells_sl o2_0
  have q2_1:=one_head (o2_1.rep.one)
  have qc2_1:=cells_sl o2_1
  have q2_2:=one_head (o2_2.rep.one)
  have qc2_2:=cells_sl o2_2
  simp [apA,b0_2,b1_2,b2_2,gs_of b2_2,q2_0,q2_1,q2_2,qc2_0,qc2_1,qc2_2,rd1_K,rdJ_ok,rdn_K,rnJ_ok,wrn_K,wrJ_ok]
  generalize hx3:aCall T0 F_laws_toOram _ _=x_3
  obtain ⟨M3,ds3,K3,rfl,p3,o3,F3⟩:=ToF.at k_laws_toOram hx3 ((mkrep_g_Oram w5 w6 w7 w8 (r4.mono z2) (r5.mono z2) (r6.mono z2))) hb.2.2.2
  have f3:=F3.2
  obtain ⟨v4,v5,v6,K3_0,K3_1,K3_2,rfl,_,_,_,_,o3_0,o3_1,o3_2,eK3⟩:=own_g_Oram o3
  clear hx3
  have b0_3:M3[M.length]?=some ⟨[.int .i64 x.1,u0,.int .i64 x.2.2.1.1,.int .i64 x.2.2.1.2.1,.int .i64 x.2.2.1.2.2.1,.int .i64 x.2.2.1.2.2.2.1.1,u1,u2,u3,.int .i64 x.2.2.2.1,.int .i64 x.2.2.2.2.1,.int .i64 x.2.2.2.2.2.1,.int .i64 x.2.2.2.2.2.2.1.1,u4,u5,u6],1,2⟩:=get_pre p3 (by simp [b0_2])
  have b1_3:M3[M.length+1]?=some ⟨[(.int .i64 0),(.slice none 0 0),(.int .i64 0),(.int .i64 0),(.int .i64 0),(.int .i64 0),(.slice none 0 0),(.slice none 0 0),(.slice none 0 0),(.int .i64 0),(.int .i64 0),(.int .i64 0),(.int .i64 0),(.slice none 0 0),(.slice none 0 0),(.slice none 0 0)],1,2⟩:=get_pre p3 (by simp [b1_2])
  have b2_3:M3[M.length+2]?=some ⟨[.int .i64 x.1,v0,.int .i64 x.2.2.1.1,.int .i64 x.2.2.1.2.1,.int .i64 x.2.2.1.2.2.1,.int .i64 x.2.2.1.2.2.2.1.1,v1,v2,v3,(.int .i64 0),(.int .i64 0),(.int .i64 0),(.int .i64 0),(.slice none 0 0),(.slice none 0 0),(.slice none 0 0)],1,2⟩:=get_pre p3 (by simp [l_2])
  have l_3:=get_lt b2_3
  have y3:M <+: M3:=z2.trans p3
  simp only [List.length_set] at f3
  have G3:=G2.app (by simp) F3 g0_2 p3
  have g0_3:=Nat.le_trans g0_2 (Nat.le_trans (Nat.le_of_eq (List.length_set).symm) p3.length_le)
  have o1:=(o1.set (b2:=⟨[.int .i64 x.1,v0,.int .i64 x.2.2.1.1,.int .i64 x.2.2.1.2.1,.int .i64 x.2.2.1.2.2.1,.int .i64 x.2.2.1.2.2.2.1.1,v1,v2,v3,(.int .i64 0),(.int .i64 0),(.int .i64 0),(.int .i64 0),(.slice none 0 0),(.slice none 0 0),(.slice none 0 0)],1,2⟩) b2_2 rfl (fun hm=>by have:=f1 _ hm; omega)).grow p3
  have f1:∀ l ∈ K1,M.length+3≤l∧l < M3.length:=fun l hl=>by have:=f1 l hl; have:=p3.length_le; simp only [List.length_set] at this; omega
  have o2:=(o2.set (b2:=⟨[.int .i64 x.1,v0,.int .i64 x.2.2.1.1,.int .i64 x.2.2.1.2.1,.int .i64 x.2.2.1.2.2.1,.int .i64 x.2.2.1.2.2.2.1.1,v1,v2,v3,(.int .i64 0),(.int .i64 0),(.int .i64 0),(.int .i64 0),(.slice none 0 0),(.slice none 0 0),(.slice none 0 0)],1,2⟩) b2_2 rfl (fun hm=>by have:=f2 _ hm; omega)).grow p3
  have f2:∀ l ∈ K2,M.length+3≤l∧l < M3.length:=fun l hl=>by have:=f2 l hl; have:=p3.length_le; simp only [List.length_set] at this; omega
  have z3:M <+: M3.set (M.length+2) ⟨[.int .i64 x.1,v0,.int .i64 x.2.2.1.1,.int .i64 x.2.2.1.2.1,.int .i64 x.2.2.1.2.2.1,.int .i64 x.2.2.1.2.2.2.1.1,v1,v2,v3,.int .i64 x.2.2.2.1,.int .i64 x.2.2.2.2.1,.int .i64 x.2.2.2.2.2.1,.int .i64 x.2.2.2.2.2.2.1.1,v4,v5,v6],1,2⟩:=pf_set (by omega) y3
  have q3_0:=one_head (o3_0.rep.one)
  have qc3_0:=cells_sl o3_0
  have q3_1:=one_head (o3_1.rep.one)
  have qc3_1:=cells_sl o3_1
  have q3_2:=one_head (o3_2.rep.one)
  have qc3_2:=cells_sl o3_2
  have hb1:(M3.set (M.length+2) ⟨[.int .i64 x.1,v0,.int .i64 x.2.2.1.1,.int .i64 x.2.2.1.2.1,.int .i64 x.2.2.1.2.2.1,.int .i64 x.2.2.1.2.2.2.1.1,v1,v2,v3,.int .i64 x.2.2.2.1,.int .i64 x.2.2.2.2.1,.int .i64 x.2.2.2.2.2.1,.int .i64 x.2.2.2.2.2.2.1.1,v4,v5,v6],1,2⟩)[M.length+1]?=some ⟨[(.int .i64 0),(.slice none 0 0),(.int .i64 0),(.int .i64 0),(.int .i64 0),(.int .i64 0),(.slice none 0 0),(.slice none 0 0),(.slice none 0 0),(.int .i64 0),(.int .i64 0),(.int .i64 0),(.int .i64 0),(.slice none 0 0),(.slice none 0 0),(.slice none 0 0)],1,2⟩:=by simp [b1_3]
  have g1:=((o1.set (b2:=⟨[.int .i64 x.1,v0,.int .i64 x.2.2.1.1,.int .i64 x.2.2.1.2.1,.int .i64 x.2.2.1.2.2.1,.int .i64 x.2.2.1.2.2.2.1.1,v1,v2,v3,.int .i64 x.2.2.2.1,.int .i64 x.2.2.2.2.1,.int .i64 x.2.2.2.2.2.1,.int .i64 x.2.2.2.2.2.2.1.1,v4,v5,v6],1,2⟩) b2_3 rfl (fun hm=>by have:=f1 _ hm; omega)).set (b2:=⟨[.int .i64 x.1,v0,.int .i64 x.2.2.1.1,.int .i64 x.2.2.1.2.1,.int .i64 x.2.2.1.2.2.1,.int .i64 x.2.2.1.2.2.2.1.1,v1,v2,v3,.int .i64 x.2.2.2.1,.int .i64 x.2.2.2.2.1,.int .i64 x.2.2.2.2.2.1,.int .i64 x.2.2.2.2.2.2.1.1,v4,v5,v6],1,2⟩) hb1 rfl (fun hm=>by have:=f1 _ hm; omega))
  have g2:=((o2.set (b2:=⟨[.int .i64 x.1,v0,.int .i64 x.2.2.1.1,.int .i64 x.2.2.1.2.1,.int .i64 x.2.2.1.2.2.1,.int .i64 x.2.2.1.2.2.2.1.1,v1,v2,v3,.int .i64 x.2.2.2.1,.int .i64 x.2.2.2.2.1,.int .i64 x.2.2.2.2.2.1,.int .i64 x.2.2.2.2.2.2.1.1,v4,v5,v6],1,2⟩) b2_3 rfl (fun hm=>by have:=f2 _ hm; omega)).set (b2:=⟨[.int .i64 x.1,v0,.int .i64 x.2.2.1.1,.int .i64 x.2.2.1.2.1,.int .i64 x.2.2.1.2.2.1,.int .i64 x.2.2.1.2.2.2.1.1,v1,v2,v3,.int .i64 x.2.2.2.1,.int .i64 x.2.2.2.2.1,.int .i64 x.2.2.2.2.2.1,.int .i64 x.2.2.2.2.2.2.1.1,v4,v5,v6],1,2⟩) hb1 rfl (fun hm=>by have:=f2 _ hm; omega))
  have g3:=((o3.set (b2:=⟨[.int .i64 x.1,v0,.int .i64 x.2.2.1.1,.int .i64 x.2.2.1.2.1,.int .i64 x.2.2.1.2.2.1,.int .i64 x.2.2.1.2.2.2.1.1,v1,v2,v3,.int .i64 x.2.2.2.1,.int .i64 x.2.2.2.2.1,.int .i64 x.2.2.2.2.2.1,.int .i64 x.2.2.2.2.2.2.1.1,v4,v5,v6],1,2⟩) b2_3 rfl (fun hm=>by have:=f3 _ hm; omega)).set (b2:=⟨[.int .i64 x.1,v0,.int .i64 x.2.2.1.1,.int .i64 x.2.2.1.2.1,.int .i64 x.2.2.1.2.2.1,.int .i64 x.2.2.1.2.2.2.1.1,v1,v2,v3,.int .i64 x.2.2.2.1,.int .i64 x.2.2.2.2.1,.int .i64 x.2.2.2.2.2.1,.int .i64 x.2.2.2.2.2.2.1.1,v4,v5,v6],1,2⟩) hb1 rfl (fun hm=>by have:=f3 _ hm; omega))
  obtain ⟨s2_0,s2_1,s2_2,H2_0,H2_1,H2_2,es2,_,_,_,_,j2_0,j2_1,j2_2,eK2⟩:=own_g_Oram g2
  simp only [List.cons.injEq,and_true,true_and] at es2
  obtain ⟨rfl,rfl,rfl⟩:=es2
  obtain ⟨s3_0,s3_1,s3_2,H3_0,H3_1,H3_2,es3,_,_,_,_,j3_0,j3_1,j3_2,eK3⟩:=own_g_Oram g3
  simp only [List.cons.injEq,and_true,true_and] at es3
  obtain ⟨rfl,rfl,rfl⟩:=es3
  have hh:=mkown_g_Deep (x:=x) w0 w1 w2 w3 w4 w5 w6 w7 w8 g1 j2_0 j2_1 j2_2 j3_0 j3_1 j3_2
  try simp only [List.append_assoc] at hh
  obtain ⟨_,_,rfl⟩:=o1.rep.slen
  obtain ⟨s2_0,s2_1,s2_2,_,_,_,es2,_,_,_,_,t2_0,t2_1,t2_2,_⟩:=own_g_Oram o2
  simp only [List.cons.injEq,and_true,true_and] at es2
  obtain ⟨rfl,rfl,rfl⟩:=es2
  obtain ⟨_,_,rfl⟩:=t2_0.rep.slen
  obtain ⟨_,_,rfl⟩:=t2_1.rep.slen
  obtain ⟨_,_,rfl⟩:=t2_2.rep.slen
  obtain ⟨s3_0,s3_1,s3_2,_,_,_,es3,_,_,_,_,t3_0,t3_1,t3_2,_⟩:=own_g_Oram o3
  simp only [List.cons.injEq,and_true,true_and] at es3
  obtain ⟨rfl,rfl,rfl⟩:=es3
  obtain ⟨_,_,rfl⟩:=t3_0.rep.slen
  obtain ⟨_,_,rfl⟩:=t3_1.rep.slen
  obtain ⟨_,_,rfl⟩:=t3_2.rep.slen
  have gs2:∀ B C:Blk,((M3.set (M.length+2) B).set (M.length+1) C)[M.length+1]?=some C:=fun B C=>List.getElem?_set_self (by rw [List.length_set]; omega)
  simp [apA,b0_3,b1_3,b2_3,gs_of b2_3,gs2,rd1_K,rdJ_ok,rdn_K,rnJ_ok,wrn_K,wrJ_ok]
  refine ⟨_,_,K1++K2++K3,?_,rfl,?_,?_⟩
  · exact pf_set (by omega) (pf_set (by omega) y3)
  · first | exact hh | (simp only [List.append_assoc]; exact hh) | (simp only [eK2,eK3]; exact hh) | (simp only [eK2,eK3,List.append_assoc]; exact hh)
  · refine ⟨G3.1,fun l hl=>?_⟩
    have:=G3.2 l hl
    simp only [List.length_append,List.length_cons,List.length_nil,List.length_set] at this ⊢
    omega
theorem deq_Touch (x y:ty_Touch.D):decide (x=y)=(decide (x.1=y.1) && (decide (x.2.1=y.2.1) && (decide (x.2.2=y.2.2)))):=by
  obtain ⟨x0,x1,x2⟩:=x
  obtain ⟨y0,y1,y2⟩:=y
  simp
theorem c_laws_eqTouch (M:Mem) (x y:ty_Touch.D):aCall T0 F_laws_eqTouch [.agg (enc_Touch x).toArray,.agg (enc_Touch y).toArray] M=some (.bool (decide (x=y)),M):=by
  rw [deq_Touch]
  rw [aCall_eq T_laws_eqTouch]; unfold A_laws_eqTouch C_laws_eqTouch; simp
  repeat' ((first | rw [selO_some] | rw [condR_bool] | rw [selD_some]); split <;> rename_i hq <;> (have hq2:=hq) <;> (try simp at hq2) <;> (try simp [*]))
theorem k_laws_eqTouch:EqF T0 ty_Touch F_laws_eqTouch:=fun M cs ds x y h h2 hb=>by
  obtain rfl:=rep_Touch h
  obtain rfl:=rep_Touch h2
  exact c_laws_eqTouch M x y
theorem k_laws_eqTouchS:EqS T0 ty_Touch F_laws_eqTouchS:=eq_sl (w:=3) T_laws_eqTouchS rfl k_laws_eqTouch
theorem r_laws_eqByteS (M:Mem) (a b:Option Addr) (c d:Nat) (xs ys:List ty_Byte.D) (h:Rep (.sl ty_Byte) M [.slice a xs.length c] xs) (h2:Rep (.sl ty_Byte) M [.slice b ys.length d] ys) (hn:xs.length≤9223372036854775807) (i:Nat) (hi:i < xs.length) (hj:i < ys.length) (he:xs[i]=ys[i]) :
    lp (aCall T0) K_laws_eqByteS_0 L_laws_eqByteS_0 [.slice a xs.length c,.slice b ys.length d,O,O,O,.int .i64 i,O,O,O,O,O,O,O,O,O,O,O,O,O,O,O,O,O,O,O,O] M=lp (aCall T0) K_laws_eqByteS_0 L_laws_eqByteS_0 [.slice a xs.length c,.slice b ys.length d,O,O,O,.int .i64 (i+1:Nat),O,O,O,O,O,O,O,O,O,O,O,O,O,O,O,O,O,O,O,O] M:=by
  obtain ⟨l,o,rfl,_,hrd⟩:=at_Byte h hi
  obtain ⟨l2,o2,rfl,_,hrd2⟩:=at_Byte h2 hj
  have e6:IntKind.i64.wrap ((i:Int)+1)=i+1:=wrap_i64 (by omega) (by omega)
  rw [S_laws_eqByteS_0]; unfold B_laws_eqByteS_0; simp [hrd,hrd2,e6,hi,hj,he,byteV]
theorem eq_byteV (x y:UInt8):((x.toNat:Int)=(y.toNat:Int))=(x=y):=by
  apply propext
  constructor
  · intro h; exact UInt8.toNat_inj.1 (by omega)
  · rintro rfl; rfl
theorem x_laws_eqByteS (M:Mem) (a b:Option Addr) (c d:Nat) (xs ys:List ty_Byte.D) (h:Rep (.sl ty_Byte) M [.slice a xs.length c] xs) (h2:Rep (.sl ty_Byte) M [.slice b ys.length d] ys) (hn:xs.length≤9223372036854775807) (i:Nat) (hi:i < xs.length) (hj:i < ys.length) (he:xs[i] ≠ ys[i]) (k:ACode) :
    thenF M [.tmp 4] (thenS (blockR 0 (lp (aCall T0) K_laws_eqByteS_0 L_laws_eqByteS_0 [.slice a xs.length c,.slice b ys.length d,O,O,O,.int .i64 i,O,O,O,O,O,O,O,O,O,O,O,O,O,O,O,O,O,O,O,O] M)) (aCall T0) k)=some (.bool false,M):=by
  obtain ⟨l,o,rfl,_,hrd⟩:=at_Byte h hi
  obtain ⟨l2,o2,rfl,_,hrd2⟩:=at_Byte h2 hj
  have hne:¬ (((xs[i]:UInt8).toNat:Int)=((ys[i]:UInt8).toNat:Int)):=by rw [eq_byteV]; exact he
  rw [S_laws_eqByteS_0]; unfold B_laws_eqByteS_0; simp [hrd,hrd2,hi,hj,hne,byteV]
theorem c_laws_eqByteS (M:Mem) (v u:V) (xs ys:List ty_Byte.D) (h:Rep (.sl ty_Byte) M [v] xs) (h2:Rep (.sl ty_Byte) M [u] ys) (hn:xs.length≤9223372036854775807):aCall T0 F_laws_eqByteS [v,u] M=some (.bool (decide (xs=ys)),M):=by
  obtain ⟨a,c,rfl⟩:=h.slen
  obtain ⟨b,d,rfl⟩:=h2.slen
  by_cases hl:xs.length=ys.length
  · rcases list_eq_iff hl with he | ⟨j,hj,h3,h4⟩
    · subst he
      have hc:=chain (g:=fun i:Nat=>lp (aCall T0) K_laws_eqByteS_0 L_laws_eqByteS_0 [.slice a xs.length c,.slice b xs.length d,O,O,O,.int .i64 i,O,O,O,O,O,O,O,O,O,O,O,O,O,O,O,O,O,O,O,O] M) (n:=xs.length) fun i hi=>r_laws_eqByteS M a b c d xs xs h h2 hn i hi hi rfl
      simp only [Int.natCast_zero,Int.ofNat_zero] at hc
      rw [aCall_eq T_laws_eqByteS]; unfold A_laws_eqByteS C_laws_eqByteS; simp [hc]
      rw [S_laws_eqByteS_0]; unfold B_laws_eqByteS_0; simp
    · have hc:=chain (g:=fun i:Nat=>lp (aCall T0) K_laws_eqByteS_0 L_laws_eqByteS_0 [.slice a xs.length c,.slice b ys.length d,O,O,O,.int .i64 i,O,O,O,O,O,O,O,O,O,O,O,O,O,O,O,O,O,O,O,O] M) (n:=j) fun i hi=>r_laws_eqByteS M a b c d xs ys h h2 hn i (by omega) (by omega) (h3 i (by omega) hi)
      simp only [Int.natCast_zero,Int.ofNat_zero] at hc
      have hx:=x_laws_eqByteS M a b c d xs ys h h2 hn j hj (by omega) h4
      have hne:xs ≠ ys:=fun e=>h4 (by simp [e])
      simp only [← hl] at hc hx
      simp only [← hl]
      rw [aCall_eq T_laws_eqByteS]; unfold A_laws_eqByteS C_laws_eqByteS; simp [hc,hx,hne]
  · have hne:xs ≠ ys:=fun e=>hl (by rw [e])
    have hl2:¬ ((xs.length:Int)=ys.length):=by omega
    rw [aCall_eq T_laws_eqByteS]; unfold A_laws_eqByteS C_laws_eqByteS; simp [hl2,hl,hne]
theorem k_laws_eqByteS:EqS T0 ty_Byte F_laws_eqByteS:=fun M v u xs ys h h2 hb=>c_laws_eqByteS M v u xs ys h h2 (Nat.le_trans hb.1 (by decide))
set_option maxHeartbeats 4000000 in
theorem k_laws_eqCell:EqF T0 ty_Cell F_laws_eqCell:=by
  intro M cs ds x y h h2 hb
  obtain ⟨u0,rfl,r0⟩:=rep_g_Cell h
  obtain ⟨v0,rfl,s0⟩:=rep_g_Cell h2
  try dsimp only at *
  have e0:=k_laws_eqByteS (M++[⟨[u0],1,2⟩,⟨[v0],1,2⟩]) _ _ x y (r0.mono (List.prefix_append _ _)) (s0.mono (List.prefix_append _ _)) hb
  have i0:=one_head r0.one
  have j0:=one_head s0.one
  by_cases q0:x=y
  rotate_left
  · have hne:=q0
    refine ans_f hne ?_
    have e0:=(ans_of e0).2 q0
    rw [aCall_eq T_laws_eqCell]; unfold A_laws_eqCell C_laws_eqCell; simp [apA,i0,j0,e0]
  have e0:=(ans_of e0).1 q0
  have he:=q0
  refine ans_t he ?_
  rw [aCall_eq T_laws_eqCell]; unfold A_laws_eqCell C_laws_eqCell; simp [apA,i0,j0,e0]
theorem k_laws_eqCellS:EqS T0 ty_Cell F_laws_eqCellS:=eq_sl (w:=1) T_laws_eqCellS rfl k_laws_eqCell
set_option maxHeartbeats 4000000 in
theorem k_laws_eqMem:EqF T0 ty_Mem F_laws_eqMem:=by
  intro M cs ds x y h h2 hb
  obtain ⟨a0,a1,a2⟩:=x
  obtain ⟨b0,b1,b2⟩:=y
  obtain ⟨u0,u1,rfl,w0,r0,r1⟩:=rep_g_Mem h
  obtain ⟨v0,v1,rfl,_w0,s0,s1⟩:=rep_g_Mem h2
  try dsimp only at *
  have e1:=k_laws_eqCellS (M++[⟨[.int .i64 a0,u0,u1],1,2⟩,⟨[.int .i64 b0,v0,v1],1,2⟩]) _ _ a1 b1 (r0.mono (List.prefix_append _ _)) (s0.mono (List.prefix_append _ _)) hb.2.1
  have e2:=k_laws_eqTouchS (M++[⟨[.int .i64 a0,u0,u1],1,2⟩,⟨[.int .i64 b0,v0,v1],1,2⟩]) _ _ a2 b2 (r1.mono (List.prefix_append _ _)) (s1.mono (List.prefix_append _ _)) hb.2.2
  have i0:=one_head r0.one
  have i1:=one_head r1.one
  have j0:=one_head s0.one
  have j1:=one_head s1.one
  by_cases q0:a0=b0
  rotate_left
  · have hne:¬ ((a0,a1,a2):ty_Mem.D)=(b0,b1,b2):=fun e=>q0 (by simp only [Prod.mk.injEq] at e; simp only [e])
    refine ans_f hne ?_
    rw [aCall_eq T_laws_eqMem]; unfold A_laws_eqMem C_laws_eqMem; simp [apA,i0,i1,j0,j1,q0]
  subst q0
  by_cases q1:a1=b1
  rotate_left
  · have hne:¬ ((a0,a1,a2):ty_Mem.D)=(a0,b1,b2):=fun e=>q1 (by simp only [Prod.mk.injEq] at e; simp only [e])
    refine ans_f hne ?_
    have e1:=(ans_of e1).2 q1
    rw [aCall_eq T_laws_eqMem]; unfold A_laws_eqMem C_laws_eqMem; simp [apA,i0,i1,j0,j1,e1]
  have e1:=(ans_of e1).1 q1
  by_cases q2:a2=b2
  rotate_left
  · have hne:¬ ((a0,a1,a2):ty_Mem.D)=(a0,b1,b2):=fun e=>q2 (by simp only [Prod.mk.injEq] at e; simp only [e])
    refine ans_f hne ?_
    have e2:=(ans_of e2).2 q2
    rw [aCall_eq T_laws_eqMem]; unfold A_laws_eqMem C_laws_eqMem; simp [apA,i0,i1,j0,j1,e1,e2]
  have e2:=(ans_of e2).1 q2
  have he:((a0,a1,a2):ty_Mem.D)=(a0,b1,b2):=by simp only [q1,q2]
  refine ans_t he ?_
  rw [aCall_eq T_laws_eqMem]; unfold A_laws_eqMem C_laws_eqMem; simp [apA,i0,i1,j0,j1,e1,e2]
set_option maxHeartbeats 4000000 in
theorem k_laws_eqBlock:EqF T0 ty_Block F_laws_eqBlock:=by
  intro M cs ds x y h h2 hb
  obtain ⟨a0,a1,a2⟩:=x
  obtain ⟨b0,b1,b2⟩:=y
  obtain ⟨u0,rfl,w0,w1,r0⟩:=rep_g_Block h
  obtain ⟨v0,rfl,_w0,_w1,s0⟩:=rep_g_Block h2
  try dsimp only at *
  have e2:=k_laws_eqByteS (M++[⟨[.int .i64 a0,.int .i64 a1,u0],1,2⟩,⟨[.int .i64 b0,.int .i64 b1,v0],1,2⟩]) _ _ a2 b2 (r0.mono (List.prefix_append _ _)) (s0.mono (List.prefix_append _ _)) hb.2.2
  have i0:=one_head r0.one
  have j0:=one_head s0.one
  by_cases q0:a0=b0
  rotate_left
  · have hne:¬ ((a0,a1,a2):ty_Block.D)=(b0,b1,b2):=fun e=>q0 (by simp only [Prod.mk.injEq] at e; simp only [e])
    refine ans_f hne ?_
    rw [aCall_eq T_laws_eqBlock]; unfold A_laws_eqBlock C_laws_eqBlock; simp [apA,i0,j0,q0]
  subst q0
  by_cases q1:a1=b1
  rotate_left
  · have hne:¬ ((a0,a1,a2):ty_Block.D)=(a0,b1,b2):=fun e=>q1 (by simp only [Prod.mk.injEq] at e; simp only [e])
    refine ans_f hne ?_
    rw [aCall_eq T_laws_eqBlock]; unfold A_laws_eqBlock C_laws_eqBlock; simp [apA,i0,j0,q1]
  subst q1
  by_cases q2:a2=b2
  rotate_left
  · have hne:¬ ((a0,a1,a2):ty_Block.D)=(a0,a1,b2):=fun e=>q2 (by simp only [Prod.mk.injEq] at e; simp only [e])
    refine ans_f hne ?_
    have e2:=(ans_of e2).2 q2
    rw [aCall_eq T_laws_eqBlock]; unfold A_laws_eqBlock C_laws_eqBlock; simp [apA,i0,j0,e2]
  have e2:=(ans_of e2).1 q2
  have he:((a0,a1,a2):ty_Block.D)=(a0,a1,b2):=by simp only [q2]
  refine ans_t he ?_
  rw [aCall_eq T_laws_eqBlock]; unfold A_laws_eqBlock C_laws_eqBlock; simp [apA,i0,j0,e2]
theorem k_laws_eqBlockS:EqS T0 ty_Block F_laws_eqBlockS:=eq_sl (w:=3) T_laws_eqBlockS rfl k_laws_eqBlock
set_option maxHeartbeats 4000000 in
theorem k_laws_eqOram:EqF T0 ty_Oram F_laws_eqOram:=by
  intro M cs ds x y h h2 hb
  obtain ⟨a0,a1,a2,a3,a4⟩:=x
  obtain ⟨b0,b1,b2,b3,b4⟩:=y
  obtain ⟨u0,u1,u2,rfl,w0,w1,w2,w3,r0,r1,r2⟩:=rep_g_Oram h
  obtain ⟨v0,v1,v2,rfl,_w0,_w1,_w2,_w3,s0,s1,s2⟩:=rep_g_Oram h2
  try dsimp only at *
  have e3:=k_laws_eqMem (M++[⟨[.int .i64 a0,.int .i64 a1,.int .i64 a2,.int .i64 a3.1,u0,u1,u2],1,2⟩,⟨[.int .i64 b0,.int .i64 b1,.int .i64 b2,.int .i64 b3.1,v0,v1,v2],1,2⟩]) _ _ a3 b3 ((mkrep_g_Mem w3 (r0.mono (List.prefix_append _ _)) (r1.mono (List.prefix_append _ _)))) ((mkrep_g_Mem _w3 (s0.mono (List.prefix_append _ _)) (s1.mono (List.prefix_append _ _)))) hb.2.2.2.1
  have e4:=k_laws_eqBlockS (M++[⟨[.int .i64 a0,.int .i64 a1,.int .i64 a2,.int .i64 a3.1,u0,u1,u2],1,2⟩,⟨[.int .i64 b0,.int .i64 b1,.int .i64 b2,.int .i64 b3.1,v0,v1,v2],1,2⟩]) _ _ a4 b4 (r2.mono (List.prefix_append _ _)) (s2.mono (List.prefix_append _ _)) hb.2.2.2.2
  have i0:=one_head r0.one
  have i1:=one_head r1.one
  have i2:=one_head r2.one
  have j0:=one_head s0.one
  have j1:=one_head s1.one
  have j2:=one_head s2.one
  by_cases q0:a0=b0
  rotate_left
  · have hne:¬ ((a0,a1,a2,a3,a4):ty_Oram.D)=(b0,b1,b2,b3,b4):=fun e=>q0 (by simp only [Prod.mk.injEq] at e; simp only [e])
    refine ans_f hne ?_
    rw [aCall_eq T_laws_eqOram]; unfold A_laws_eqOram C_laws_eqOram; simp [apA,i0,i1,i2,j0,j1,j2,q0]
  subst q0
  by_cases q1:a1=b1
  rotate_left
  · have hne:¬ ((a0,a1,a2,a3,a4):ty_Oram.D)=(a0,b1,b2,b3,b4):=fun e=>q1 (by simp only [Prod.mk.injEq] at e; simp only [e])
    refine ans_f hne ?_
    rw [aCall_eq T_laws_eqOram]; unfold A_laws_eqOram C_laws_eqOram; simp [apA,i0,i1,i2,j0,j1,j2,q1]
  subst q1
  by_cases q2:a2=b2
  rotate_left
  · have hne:¬ ((a0,a1,a2,a3,a4):ty_Oram.D)=(a0,a1,b2,b3,b4):=fun e=>q2 (by simp only [Prod.mk.injEq] at e; simp only [e])
    refine ans_f hne ?_
    rw [aCall_eq T_laws_eqOram]; unfold A_laws_eqOram C_laws_eqOram; simp [apA,i0,i1,i2,j0,j1,j2,q2]
  subst q2
  by_cases q3:a3=b3
  rotate_left
  · have hne:¬ ((a0,a1,a2,a3,a4):ty_Oram.D)=(a0,a1,a2,b3,b4):=fun e=>q3 (by simp only [Prod.mk.injEq] at e; simp only [e])
    refine ans_f hne ?_
    have e3:=(ans_of e3).2 q3
    rw [aCall_eq T_laws_eqOram]; unfold A_laws_eqOram C_laws_eqOram; simp [apA,i0,i1,i2,j0,j1,j2,e3]
  have e3:=(ans_of e3).1 q3
  by_cases q4:a4=b4
  rotate_left
  · have hne:¬ ((a0,a1,a2,a3,a4):ty_Oram.D)=(a0,a1,a2,b3,b4):=fun e=>q4 (by simp only [Prod.mk.injEq] at e; simp only [e])
    refine ans_f hne ?_
    have e4:=(ans_of e4).2 q4
    rw [aCall_eq T_laws_eqOram]; unfold A_laws_eqOram C_laws_eqOram; simp [apA,i0,i1,i2,j0,j1,j2,e3,e4]
  have e4:=(ans_of e4).1 q4
  have he:((a0,a1,a2,a3,a4):ty_Oram.D)=(a0,a1,a2,b3,b4):=by simp only [q3,q4]
  refine ans_t he ?_
  rw [aCall_eq T_laws_eqOram]; unfold A_laws_eqOram C_laws_eqOram; simp [apA,i0,i1,i2,j0,j1,j2,e3,e4]
theorem r_laws_eqIntS (M:Mem) (a b:Option Addr) (c d:Nat) (xs ys:List ty_Int.D) (h:Rep (.sl ty_Int) M [.slice a xs.length c] xs) (h2:Rep (.sl ty_Int) M [.slice b ys.length d] ys) (hn:xs.length≤9223372036854775807) (i:Nat) (hi:i < xs.length) (hj:i < ys.length) (he:xs[i]=ys[i]) :
    lp (aCall T0) K_laws_eqIntS_0 L_laws_eqIntS_0 [.slice a xs.length c,.slice b ys.length d,O,O,O,.int .i64 i,O,O,O,O,O,O,O,O,O,O,O,O,O,O,O,O,O,O,O,O] M=lp (aCall T0) K_laws_eqIntS_0 L_laws_eqIntS_0 [.slice a xs.length c,.slice b ys.length d,O,O,O,.int .i64 (i+1:Nat),O,O,O,O,O,O,O,O,O,O,O,O,O,O,O,O,O,O,O,O] M:=by
  obtain ⟨l,o,rfl,_,hrd⟩:=at_Int h hi
  obtain ⟨l2,o2,rfl,_,hrd2⟩:=at_Int h2 hj
  have e6:IntKind.i64.wrap ((i:Int)+1)=i+1:=wrap_i64 (by omega) (by omega)
  rw [S_laws_eqIntS_0]; unfold B_laws_eqIntS_0; simp [hrd,hrd2,e6,hi,hj,he]
theorem x_laws_eqIntS (M:Mem) (a b:Option Addr) (c d:Nat) (xs ys:List ty_Int.D) (h:Rep (.sl ty_Int) M [.slice a xs.length c] xs) (h2:Rep (.sl ty_Int) M [.slice b ys.length d] ys) (hn:xs.length≤9223372036854775807) (i:Nat) (hi:i < xs.length) (hj:i < ys.length) (he:xs[i] ≠ ys[i]) (k:ACode) :
    thenF M [.tmp 4] (thenS (blockR 0 (lp (aCall T0) K_laws_eqIntS_0 L_laws_eqIntS_0 [.slice a xs.length c,.slice b ys.length d,O,O,O,.int .i64 i,O,O,O,O,O,O,O,O,O,O,O,O,O,O,O,O,O,O,O,O] M)) (aCall T0) k)=some (.bool false,M):=by
  obtain ⟨l,o,rfl,_,hrd⟩:=at_Int h hi
  obtain ⟨l2,o2,rfl,_,hrd2⟩:=at_Int h2 hj
  rw [S_laws_eqIntS_0]; unfold B_laws_eqIntS_0; simp [hrd,hrd2,hi,hj,he]
theorem c_laws_eqIntS (M:Mem) (v u:V) (xs ys:List Int) (h:Rep (.sl ty_Int) M [v] xs) (h2:Rep (.sl ty_Int) M [u] ys) (hn:xs.length≤9223372036854775807):aCall T0 F_laws_eqIntS [v,u] M=some (.bool (decide (xs=ys)),M):=by
  obtain ⟨a,c,rfl⟩:=h.slen
  obtain ⟨b,d,rfl⟩:=h2.slen
  by_cases hl:xs.length=ys.length
  · rcases list_eq_iff hl with he | ⟨j,hj,h3,h4⟩
    · subst he
      have hc:=chain (g:=fun i:Nat=>lp (aCall T0) K_laws_eqIntS_0 L_laws_eqIntS_0 [.slice a xs.length c,.slice b xs.length d,O,O,O,.int .i64 i,O,O,O,O,O,O,O,O,O,O,O,O,O,O,O,O,O,O,O,O] M) (n:=xs.length) fun i hi=>r_laws_eqIntS M a b c d xs xs h h2 hn i hi hi rfl
      simp only [Int.natCast_zero,Int.ofNat_zero] at hc
      rw [aCall_eq T_laws_eqIntS]; unfold A_laws_eqIntS C_laws_eqIntS; simp [hc]
      rw [S_laws_eqIntS_0]; unfold B_laws_eqIntS_0; simp
    · have hc:=chain (g:=fun i:Nat=>lp (aCall T0) K_laws_eqIntS_0 L_laws_eqIntS_0 [.slice a xs.length c,.slice b ys.length d,O,O,O,.int .i64 i,O,O,O,O,O,O,O,O,O,O,O,O,O,O,O,O,O,O,O,O] M) (n:=j) fun i hi=>r_laws_eqIntS M a b c d xs ys h h2 hn i (by omega) (by omega) (h3 i (by omega) hi)
      simp only [Int.natCast_zero,Int.ofNat_zero] at hc
      have hx:=x_laws_eqIntS M a b c d xs ys h h2 hn j hj (by omega) h4
      have hne:xs ≠ ys:=fun e=>h4 (by simp [e])
      simp only [← hl] at hc hx
      simp only [← hl]
      rw [aCall_eq T_laws_eqIntS]; unfold A_laws_eqIntS C_laws_eqIntS; simp [hc,hx,hne]
  · have hne:xs ≠ ys:=fun e=>hl (by rw [e])
    have hl2:¬ ((xs.length:Int)=ys.length):=by omega
    rw [aCall_eq T_laws_eqIntS]; unfold A_laws_eqIntS C_laws_eqIntS; simp [hl2,hl,hne]
theorem k_laws_eqIntS:EqS T0 ty_Int F_laws_eqIntS:=fun M v u xs ys h h2 hb=>c_laws_eqIntS M v u xs ys h h2 (Nat.le_trans hb.1 (by decide))
set_option maxHeartbeats 4000000 in
theorem k_laws_eqDeep:EqF T0 ty_Deep F_laws_eqDeep:=by
  intro M cs ds x y h h2 hb
  obtain ⟨a0,a1,a2,a3⟩:=x
  obtain ⟨b0,b1,b2,b3⟩:=y
  obtain ⟨u0,u1,u2,u3,u4,u5,u6,rfl,w0,w1,w2,w3,w4,w5,w6,w7,w8,r0,r1,r2,r3,r4,r5,r6⟩:=rep_g_Deep h
  obtain ⟨v0,v1,v2,v3,v4,v5,v6,rfl,_w0,_w1,_w2,_w3,_w4,_w5,_w6,_w7,_w8,s0,s1,s2,s3,s4,s5,s6⟩:=rep_g_Deep h2
  try dsimp only at *
  have e1:=k_laws_eqIntS (M++[⟨[.int .i64 a0,u0,.int .i64 a2.1,.int .i64 a2.2.1,.int .i64 a2.2.2.1,.int .i64 a2.2.2.2.1.1,u1,u2,u3,.int .i64 a3.1,.int .i64 a3.2.1,.int .i64 a3.2.2.1,.int .i64 a3.2.2.2.1.1,u4,u5,u6],1,2⟩,⟨[.int .i64 b0,v0,.int .i64 b2.1,.int .i64 b2.2.1,.int .i64 b2.2.2.1,.int .i64 b2.2.2.2.1.1,v1,v2,v3,.int .i64 b3.1,.int .i64 b3.2.1,.int .i64 b3.2.2.1,.int .i64 b3.2.2.2.1.1,v4,v5,v6],1,2⟩]) _ _ a1 b1 (r0.mono (List.prefix_append _ _)) (s0.mono (List.prefix_append _ _)) hb.2.1
  have e2:=k_laws_eqOram (M++[⟨[.int .i64 a0,u0,.int .i64 a2.1,.int .i64 a2.2.1,.int .i64 a2.2.2.1,.int .i64 a2.2.2.2.1.1,u1,u2,u3,.int .i64 a3.1,.int .i64 a3.2.1,.int .i64 a3.2.2.1,.int .i64 a3.2.2.2.1.1,u4,u5,u6],1,2⟩,⟨[.int .i64 b0,v0,.int .i64 b2.1,.int .i64 b2.2.1,.int .i64 b2.2.2.1,.int .i64 b2.2.2.2.1.1,v1,v2,v3,.int .i64 b3.1,.int .i64 b3.2.1,.int .i64 b3.2.2.1,.int .i64 b3.2.2.2.1.1,v4,v5,v6],1,2⟩]) _ _ a2 b2 ((mkrep_g_Oram w1 w2 w3 w4 (r1.mono (List.prefix_append _ _)) (r2.mono (List.prefix_append _ _)) (r3.mono (List.prefix_append _ _)))) ((mkrep_g_Oram _w1 _w2 _w3 _w4 (s1.mono (List.prefix_append _ _)) (s2.mono (List.prefix_append _ _)) (s3.mono (List.prefix_append _ _)))) hb.2.2.1
  have e3:=k_laws_eqOram (M++[⟨[.int .i64 a0,u0,.int .i64 a2.1,.int .i64 a2.2.1,.int .i64 a2.2.2.1,.int .i64 a2.2.2.2.1.1,u1,u2,u3,.int .i64 a3.1,.int .i64 a3.2.1,.int .i64 a3.2.2.1,.int .i64 a3.2.2.2.1.1,u4,u5,u6],1,2⟩,⟨[.int .i64 b0,v0,.int .i64 b2.1,.int .i64 b2.2.1,.int .i64 b2.2.2.1,.int .i64 b2.2.2.2.1.1,v1,v2,v3,.int .i64 b3.1,.int .i64 b3.2.1,.int .i64 b3.2.2.1,.int .i64 b3.2.2.2.1.1,v4,v5,v6],1,2⟩]) _ _ a3 b3 ((mkrep_g_Oram w5 w6 w7 w8 (r4.mono (List.prefix_append _ _)) (r5.mono (List.prefix_append _ _)) (r6.mono (List.prefix_append _ _)))) ((mkrep_g_Oram _w5 _w6 _w7 _w8 (s4.mono (List.prefix_append _ _)) (s5.mono (List.prefix_append _ _)) (s6.mono (List.prefix_append _ _)))) hb.2.2.2
  have i0:=one_head r0.one
  have i1:=one_head r1.one
  have i2:=one_head r2.one
  have i3:=one_head r3.one
  have i4:=one_head r4.one
  have i5:=one_head r5.one
  have i6:=one_head r6.one
  have j0:=one_head s0.one
  have j1:=one_head s1.one
  have j2:=one_head s2.one
  have j3:=one_head s3.one
  have j4:=one_head s4.one
  have j5:=one_head s5.one
  have j6:=one_head s6.one
  by_cases q0:a0=b0
  rotate_left
  · have hne:¬ ((a0,a1,a2,a3):ty_Deep.D)=(b0,b1,b2,b3):=fun e=>q0 (by simp only [Prod.mk.injEq] at e; simp only [e])
    refine ans_f hne ?_
    rw [aCall_eq T_laws_eqDeep]; unfold A_laws_eqDeep C_laws_eqDeep; simp [apA,i0,i1,i2,i3,i4,i5,i6,j0,j1,j2,j3,j4,j5,j6,q0]
  subst q0
  by_cases q1:a1=b1
  rotate_left
  · have hne:¬ ((a0,a1,a2,a3):ty_Deep.D)=(a0,b1,b2,b3):=fun e=>q1 (by simp only [Prod.mk.injEq] at e; simp only [e])
    refine ans_f hne ?_
    have e1:=(ans_of e1).2 q1
    rw [aCall_eq T_laws_eqDeep]; unfold A_laws_eqDeep C_laws_eqDeep; simp [apA,i0,i1,i2,i3,i4,i5,i6,j0,j1,j2,j3,j4,j5,j6,e1]
  have e1:=(ans_of e1).1 q1
  by_cases q2:a2=b2
  rotate_left
  · have hne:¬ ((a0,a1,a2,a3):ty_Deep.D)=(a0,b1,b2,b3):=fun e=>q2 (by simp only [Prod.mk.injEq] at e; simp only [e])
    refine ans_f hne ?_
    have e2:=(ans_of e2).2 q2
    rw [aCall_eq T_laws_eqDeep]; unfold A_laws_eqDeep C_laws_eqDeep; simp [apA,i0,i1,i2,i3,i4,i5,i6,j0,j1,j2,j3,j4,j5,j6,e1,e2]
  have e2:=(ans_of e2).1 q2
  by_cases q3:a3=b3
  rotate_left
  · have hne:¬ ((a0,a1,a2,a3):ty_Deep.D)=(a0,b1,b2,b3):=fun e=>q3 (by simp only [Prod.mk.injEq] at e; simp only [e])
    refine ans_f hne ?_
    have e3:=(ans_of e3).2 q3
    rw [aCall_eq T_laws_eqDeep]; unfold A_laws_eqDeep C_laws_eqDeep; simp [apA,i0,i1,i2,i3,i4,i5,i6,j0,j1,j2,j3,j4,j5,j6,e1,e2,e3]
  have e3:=(ans_of e3).1 q3
  have he:((a0,a1,a2,a3):ty_Deep.D)=(a0,b1,b2,b3):=by simp only [q1,q2,q3]
  refine ans_t he ?_
  rw [aCall_eq T_laws_eqDeep]; unfold A_laws_eqDeep C_laws_eqDeep; simp [apA,i0,i1,i2,i3,i4,i5,i6,j0,j1,j2,j3,j4,j5,j6,e1,e2,e3]
def sz_Touch (x:ty_Touch.D):Int:=0
def szs_Touch:List ty_Touch.D→Int
  | []=>0
  | x :: xs=>sz_Touch x+szs_Touch xs
theorem szs_pos_Touch:∀ xs,0≤szs_Touch xs
  | []=>by simp [szs_Touch]
  | x :: xs=>by have:=szs_pos_Touch xs; unfold szs_Touch sz_Touch; omega
theorem c_laws_szTouchS (M:Mem) (v:V) (xs:List ty_Touch.D) (h:Rep (.sl ty_Touch) M [v] xs) (left:Int) (h0:0≤left) (h1:left≤1048576) (hx:xs.length≤9223372036854775807) :
    ∃ l:Int,aCall T0 F_laws_szTouchS [v,.int .i64 left] M=some (.int .i64 l,M)∧(0≤l→xs.length+szs_Touch xs+l≤left):=by
  obtain ⟨a,c,rfl⟩:=h.slen
  have e0:IntKind.i64.wrap (left - xs.length)=left - xs.length:=wrap_i64 (by omega) (by omega)
  have hz:szs_Touch xs=0:=by
    have:∀ xs,szs_Touch xs=0:=fun xs=>by induction xs with | nil=>rfl | cons x xs ih=>simp [szs_Touch,sz_Touch,ih]
    exact this xs
  by_cases hc:left - (xs.length:Int) < 0
  · refine ⟨-1,?_,by omega⟩
    rw [aCall_eq T_laws_szTouchS]; unfold A_laws_szTouchS C_laws_szTouchS; simp [e0,hc]
  · refine ⟨left - xs.length,?_,by omega⟩
    rw [aCall_eq T_laws_szTouchS]; unfold A_laws_szTouchS C_laws_szTouchS; simp [e0,hc]
theorem k_laws_szTouchS:SzS T0 ty_Touch F_laws_szTouchS:=fun M v xs left h hb h0 h1=>by
  obtain ⟨l,e,f⟩:=c_laws_szTouchS M v xs h left h0 h1 hb.1
  have hp:=szs_pos_Touch xs
  refine ⟨l,?_,e,fun hl=>⟨?_,fun _ _=>⟨trivial,trivial,trivial⟩⟩⟩
  · by_cases hl:0≤l
    · have:=f hl; omega
    · omega
  · have:=f hl; omega
theorem k_laws_szByteS:SzS T0 ty_Byte F_laws_szByteS:=fun M v xs left h hb h0 h1=>by
  obtain ⟨a,c,rfl⟩:=h.slen
  have hx:xs.length≤9223372036854775807:=hb.1
  have e:IntKind.i64.wrap (left - (xs.length:Int))=left - xs.length:=wrap_i64 (by omega) (by omega)
  by_cases hl:left - (xs.length:Int) < 0
  · refine ⟨-1,by omega,?_,by omega⟩
    have hl2:left < (xs.length:Int):=by omega
    rw [aCall_eq T_laws_szByteS]; unfold A_laws_szByteS C_laws_szByteS; simp [e,hl,hl2]
  · refine ⟨left - xs.length,by omega,?_,fun _=>⟨by omega,fun _ _=>trivial⟩⟩
    have hl2:¬ left < (xs.length:Int):=by omega
    rw [aCall_eq T_laws_szByteS]; unfold A_laws_szByteS C_laws_szByteS; simp [e,hl,hl2]
theorem k_laws_szCell:SzF T0 ty_Cell F_laws_szCell:=by
  intro M cs x left h hb h0 h1
  obtain ⟨u0,rfl,r0⟩:=rep_g_Cell h
  have i0:=one_head r0.one
  obtain ⟨l0,a0,e0,g0⟩:=k_laws_szByteS (M++[⟨[u0],1,2⟩]) _ _ left (r0.mono (List.prefix_append _ _)) hb (by omega) (by omega)
  by_cases h_0:l0 < 0
  · refine ⟨-1,by omega,?_,by omega⟩
    rw [aCall_eq T_laws_szCell]; unfold A_laws_szCell C_laws_szCell; simp [apA,i0,e0,h_0]
  refine ⟨l0,by omega,?_,fun _=>g0 (by omega)⟩
  rw [aCall_eq T_laws_szCell]; unfold A_laws_szCell C_laws_szCell; simp [apA,i0,e0,h_0]
theorem k_laws_szCellS:SzS T0 ty_Cell F_laws_szCellS:=sz_sl (w:=1) T_laws_szCellS rfl k_laws_szCell
theorem k_laws_szMem:SzF T0 ty_Mem F_laws_szMem:=by
  intro M cs x left h hb h0 h1
  obtain ⟨u0,u1,rfl,w0,r0,r1⟩:=rep_g_Mem h
  have i0:=one_head r0.one
  have i1:=one_head r1.one
  obtain ⟨l0,a0,e0,g0⟩:=k_laws_szCellS (M++[⟨[.int .i64 x.1,u0,u1],1,2⟩]) _ _ left (r0.mono (List.prefix_append _ _)) hb.2.1 (by omega) (by omega)
  by_cases h_0:l0 < 0
  · refine ⟨-1,by omega,?_,by omega⟩
    rw [aCall_eq T_laws_szMem]; unfold A_laws_szMem C_laws_szMem; simp [apA,i0,i1,e0,h_0]
  obtain ⟨l1,a1,e1,g1⟩:=k_laws_szTouchS (M++[⟨[.int .i64 x.1,u0,u1],1,2⟩]) _ _ l0 (r1.mono (List.prefix_append _ _)) hb.2.2 (by omega) (by omega)
  by_cases h_1:l1 < 0
  · refine ⟨-1,by omega,?_,by omega⟩
    rw [aCall_eq T_laws_szMem]; unfold A_laws_szMem C_laws_szMem; simp [apA,i0,i1,e0,h_0,e1,h_1]
  refine ⟨l1,by omega,?_,fun _=>⟨trivial,g0 (by omega),g1 (by omega)⟩⟩
  rw [aCall_eq T_laws_szMem]; unfold A_laws_szMem C_laws_szMem; simp [apA,i0,i1,e0,h_0,e1,h_1]
theorem k_laws_szBlock:SzF T0 ty_Block F_laws_szBlock:=by
  intro M cs x left h hb h0 h1
  obtain ⟨u0,rfl,w0,w1,r0⟩:=rep_g_Block h
  have i0:=one_head r0.one
  obtain ⟨l0,a0,e0,g0⟩:=k_laws_szByteS (M++[⟨[.int .i64 x.1,.int .i64 x.2.1,u0],1,2⟩]) _ _ left (r0.mono (List.prefix_append _ _)) hb.2.2 (by omega) (by omega)
  by_cases h_0:l0 < 0
  · refine ⟨-1,by omega,?_,by omega⟩
    rw [aCall_eq T_laws_szBlock]; unfold A_laws_szBlock C_laws_szBlock; simp [apA,i0,e0,h_0]
  refine ⟨l0,by omega,?_,fun _=>⟨trivial,trivial,g0 (by omega)⟩⟩
  rw [aCall_eq T_laws_szBlock]; unfold A_laws_szBlock C_laws_szBlock; simp [apA,i0,e0,h_0]
theorem k_laws_szBlockS:SzS T0 ty_Block F_laws_szBlockS:=sz_sl (w:=3) T_laws_szBlockS rfl k_laws_szBlock
theorem k_laws_szOram:SzF T0 ty_Oram F_laws_szOram:=by
  intro M cs x left h hb h0 h1
  obtain ⟨u0,u1,u2,rfl,w0,w1,w2,w3,r0,r1,r2⟩:=rep_g_Oram h
  have i0:=one_head r0.one
  have i1:=one_head r1.one
  have i2:=one_head r2.one
  obtain ⟨l0,a0,e0,g0⟩:=k_laws_szMem (M++[⟨[.int .i64 x.1,.int .i64 x.2.1,.int .i64 x.2.2.1,.int .i64 x.2.2.2.1.1,u0,u1,u2],1,2⟩]) _ _ left ((mkrep_g_Mem w3 (r0.mono (List.prefix_append _ _)) (r1.mono (List.prefix_append _ _)))) hb.2.2.2.1 (by omega) (by omega)
  by_cases h_0:l0 < 0
  · refine ⟨-1,by omega,?_,by omega⟩
    rw [aCall_eq T_laws_szOram]; unfold A_laws_szOram C_laws_szOram; simp [apA,i0,i1,i2,e0,h_0]
  obtain ⟨l1,a1,e1,g1⟩:=k_laws_szBlockS (M++[⟨[.int .i64 x.1,.int .i64 x.2.1,.int .i64 x.2.2.1,.int .i64 x.2.2.2.1.1,u0,u1,u2],1,2⟩]) _ _ l0 (r2.mono (List.prefix_append _ _)) hb.2.2.2.2 (by omega) (by omega)
  by_cases h_1:l1 < 0
  · refine ⟨-1,by omega,?_,by omega⟩
    rw [aCall_eq T_laws_szOram]; unfold A_laws_szOram C_laws_szOram; simp [apA,i0,i1,i2,e0,h_0,e1,h_1]
  refine ⟨l1,by omega,?_,fun _=>⟨trivial,trivial,trivial,g0 (by omega),g1 (by omega)⟩⟩
  rw [aCall_eq T_laws_szOram]; unfold A_laws_szOram C_laws_szOram; simp [apA,i0,i1,i2,e0,h_0,e1,h_1]
theorem c_laws_szIntS (M:Mem) (v:V) (xs:List Int) (h:Rep (.sl ty_Int) M [v] xs) (left:Int) (h0:0≤left) (h1:left≤1048576) (hx:xs.length≤9223372036854775807) :
    ∃ l:Int,aCall T0 F_laws_szIntS [v,.int .i64 left] M=some (.int .i64 l,M)∧(0≤l→xs.length+l≤left):=by
  obtain ⟨a,c,rfl⟩:=h.slen
  have e:IntKind.i64.wrap (left - (xs.length:Int))=left - xs.length:=wrap_i64 (by omega) (by omega)
  by_cases hl:left - (xs.length:Int) < 0
  · refine ⟨-1,?_,by omega⟩
    have hl2:left < (xs.length:Int):=by omega
    rw [aCall_eq T_laws_szIntS]; unfold A_laws_szIntS C_laws_szIntS; simp [e,hl,hl2]
  · refine ⟨left - xs.length,?_,by omega⟩
    have hl2:¬ left < (xs.length:Int):=by omega
    rw [aCall_eq T_laws_szIntS]; unfold A_laws_szIntS C_laws_szIntS; simp [e,hl,hl2]
theorem k_laws_szIntS:SzS T0 ty_Int F_laws_szIntS:=fun M v xs left h hb h0 h1=>by
  obtain ⟨l,e,f⟩:=c_laws_szIntS M v xs h left h0 h1 hb.1
  refine ⟨l,?_,e,fun hl=>⟨?_,fun _ _=>trivial⟩⟩
  · by_cases hl:0≤l
    · have:=f hl; omega
    · omega
  · have:=f hl; omega
theorem k_laws_szDeep:SzF T0 ty_Deep F_laws_szDeep:=by
  intro M cs x left h hb h0 h1
  obtain ⟨u0,u1,u2,u3,u4,u5,u6,rfl,w0,w1,w2,w3,w4,w5,w6,w7,w8,r0,r1,r2,r3,r4,r5,r6⟩:=rep_g_Deep h
  have i0:=one_head r0.one
  have i1:=one_head r1.one
  have i2:=one_head r2.one
  have i3:=one_head r3.one
  have i4:=one_head r4.one
  have i5:=one_head r5.one
  have i6:=one_head r6.one
  obtain ⟨l0,a0,e0,g0⟩:=k_laws_szIntS (M++[⟨[.int .i64 x.1,u0,.int .i64 x.2.2.1.1,.int .i64 x.2.2.1.2.1,.int .i64 x.2.2.1.2.2.1,.int .i64 x.2.2.1.2.2.2.1.1,u1,u2,u3,.int .i64 x.2.2.2.1,.int .i64 x.2.2.2.2.1,.int .i64 x.2.2.2.2.2.1,.int .i64 x.2.2.2.2.2.2.1.1,u4,u5,u6],1,2⟩]) _ _ left (r0.mono (List.prefix_append _ _)) hb.2.1 (by omega) (by omega)
  by_cases h_0:l0 < 0
  · refine ⟨-1,by omega,?_,by omega⟩
    rw [aCall_eq T_laws_szDeep]; unfold A_laws_szDeep C_laws_szDeep; simp [apA,i0,i1,i2,i3,i4,i5,i6,e0,h_0]
  obtain ⟨l1,a1,e1,g1⟩:=k_laws_szOram (M++[⟨[.int .i64 x.1,u0,.int .i64 x.2.2.1.1,.int .i64 x.2.2.1.2.1,.int .i64 x.2.2.1.2.2.1,.int .i64 x.2.2.1.2.2.2.1.1,u1,u2,u3,.int .i64 x.2.2.2.1,.int .i64 x.2.2.2.2.1,.int .i64 x.2.2.2.2.2.1,.int .i64 x.2.2.2.2.2.2.1.1,u4,u5,u6],1,2⟩]) _ _ l0 ((mkrep_g_Oram w1 w2 w3 w4 (r1.mono (List.prefix_append _ _)) (r2.mono (List.prefix_append _ _)) (r3.mono (List.prefix_append _ _)))) hb.2.2.1 (by omega) (by omega)
  by_cases h_1:l1 < 0
  · refine ⟨-1,by omega,?_,by omega⟩
    rw [aCall_eq T_laws_szDeep]; unfold A_laws_szDeep C_laws_szDeep; simp [apA,i0,i1,i2,i3,i4,i5,i6,e0,h_0,e1,h_1]
  obtain ⟨l2,a2,e2,g2⟩:=k_laws_szOram (M++[⟨[.int .i64 x.1,u0,.int .i64 x.2.2.1.1,.int .i64 x.2.2.1.2.1,.int .i64 x.2.2.1.2.2.1,.int .i64 x.2.2.1.2.2.2.1.1,u1,u2,u3,.int .i64 x.2.2.2.1,.int .i64 x.2.2.2.2.1,.int .i64 x.2.2.2.2.2.1,.int .i64 x.2.2.2.2.2.2.1.1,u4,u5,u6],1,2⟩]) _ _ l1 ((mkrep_g_Oram w5 w6 w7 w8 (r4.mono (List.prefix_append _ _)) (r5.mono (List.prefix_append _ _)) (r6.mono (List.prefix_append _ _)))) hb.2.2.2 (by omega) (by omega)
  by_cases h_2:l2 < 0
  · refine ⟨-1,by omega,?_,by omega⟩
    rw [aCall_eq T_laws_szDeep]; unfold A_laws_szDeep C_laws_szDeep; simp [apA,i0,i1,i2,i3,i4,i5,i6,e0,h_0,e1,h_1,e2,h_2]
  refine ⟨l2,by omega,?_,fun _=>⟨trivial,g0 (by omega),g1 (by omega),g2 (by omega)⟩⟩
  rw [aCall_eq T_laws_szDeep]; unfold A_laws_szDeep C_laws_szDeep; simp [apA,i0,i1,i2,i3,i4,i5,i6,e0,h_0,e1,h_1,e2,h_2]
abbrev gt_TouchS (xs:List ty_Touch.D):Int:=3 * (xs.length:Int)
def gtS {D:Type} (tot:D→Int):List D→Int
  | []=>0
  | x :: xs=>tot x+gtS tot xs
abbrev gt_ByteS (xs:List ty_Byte.D):Int:=(xs.length:Int)
abbrev gt_Cell (x:ty_Cell.D):Int:=gt_ByteS x
abbrev gt_CellS (xs:List ty_Cell.D):Int:=gtS gt_Cell xs
def gt_Mem (x:ty_Mem.D):Int:=gt_CellS x.2.1+gt_TouchS x.2.2
abbrev gt_BlkE (x:ty_Block.D):Int:=2+gt_ByteS x.2.2
abbrev gt_BlockS (xs:List ty_Block.D):Int:=gtS gt_BlkE xs
def gt_Oram (x:ty_Oram.D):Int:=gt_Mem x.2.2.2.1+gt_BlockS x.2.2.2.2
abbrev gt_IntS (xs:List ty_Int.D):Int:=(xs.length:Int)
def gt_Deep (x:ty_Deep.D):Int:=gt_IntS x.2.1+gt_Oram x.2.2.1+gt_Oram x.2.2.2
theorem tot_TouchS:TotO (.sl ty_Touch) gt_TouchS 5000000:=fun xs hb=>by have:=hb.1; unfold gt_TouchS; omega
theorem gtS_bound {D:Type} {tot:D→Int} {B:Int} {xs:List D} (h:∀ x ∈ xs,0≤tot x∧tot x≤B):0≤gtS tot xs∧gtS tot xs≤xs.length * B:=by
  induction xs with
  | nil=>simp [gtS]
  | cons x xs ih =>
    have h1:=h x (by simp)
    have h2:=ih (fun y hy=>h y (by simp [hy]))
    have e:((x :: xs).length:Int) * B=B+xs.length * B:=by
      rw [List.length_cons,Int.natCast_add,Int.add_mul]
      simp
      omega
    rw [e]
    unfold gtS
    omega
theorem tot_CellS:TotO (.sl ty_Cell) gt_CellS 1099511627776:=fun xs hb=>by
  have h:=gtS_bound (tot:=gt_Cell) (B:=1048576) (xs:=xs) (fun x hx=>by
    have:=(hb.2 x hx).1
    show 0≤(List.length (α:=UInt8) x:Int)∧(List.length (α:=UInt8) x:Int)≤1048576
    omega)
  have h1:=hb.1
  show 0≤gtS gt_Cell xs∧gtS gt_Cell xs≤1099511627776
  omega
theorem tot_Mem:TotO ty_Mem gt_Mem (1100000000000+5000000):=fun x hb=>by
  have t0:=tot_CellS _ hb.2.1
  have t1:=tot_TouchS _ hb.2.2
  unfold gt_Mem
  omega
theorem gt_BlkE_b {x:ty_Block.D} (h:List.length (α:=UInt8) x.2.2≤1048576):2≤gt_BlkE x∧gt_BlkE x≤1048578:=by
  show 2≤2+(List.length (α:=UInt8) x.2.2:Int)∧2+(List.length (α:=UInt8) x.2.2:Int)≤1048578
  omega
theorem tot_BlockS:TotO (.sl ty_Block) gt_BlockS 1099514000000:=fun xs hb=>by
  have h:=gtS_bound (tot:=gt_BlkE) (B:=1048578) (xs:=xs) (fun x hx=>by
    have:=gt_BlkE_b (hb.2 x hx).2.2.1
    omega)
  have h1:=hb.1
  show 0≤gtS gt_BlkE xs∧gtS gt_BlkE xs≤1099514000000
  omega
theorem tot_Oram:TotO ty_Oram gt_Oram (1100005000000+1100000000000):=fun x hb=>by
  have t0:=tot_Mem _ hb.2.2.2.1
  have t1:=tot_BlockS _ hb.2.2.2.2
  unfold gt_Oram
  omega
theorem tot_IntS:TotO (.sl ty_Int) gt_IntS 1048576:=fun xs hb=>by have:=hb.1; unfold gt_IntS; omega
theorem tot_Deep:TotO ty_Deep gt_Deep (1048576+2200005000000+2200005000000):=fun x hb=>by
  have t0:=tot_IntS _ hb.2.1
  have t1:=tot_Oram _ hb.2.2.1
  have t2:=tot_Oram _ hb.2.2.2
  unfold gt_Deep
  omega
theorem own_g_Deep {M:Mem} {cs:List V} {x:ty_Deep.D} {L:List Nat} (h:Own ty_Deep M cs x L):∃ (u0 u1 u2 u3 u4 u5 u6:V) (L0 L1 L2 L3 L4 L5 L6:List Nat),cs=[.int .i64 x.1,u0,.int .i64 x.2.2.1.1,.int .i64 x.2.2.1.2.1,.int .i64 x.2.2.1.2.2.1,.int .i64 x.2.2.1.2.2.2.1.1,u1,u2,u3,.int .i64 x.2.2.2.1,.int .i64 x.2.2.2.2.1,.int .i64 x.2.2.2.2.2.1,.int .i64 x.2.2.2.2.2.2.1.1,u4,u5,u6]∧(Lit.int .i64 x.1).wf=true∧(Lit.int .i64 x.2.2.1.1).wf=true∧(Lit.int .i64 x.2.2.1.2.1).wf=true∧(Lit.int .i64 x.2.2.1.2.2.1).wf=true∧(Lit.int .i64 x.2.2.1.2.2.2.1.1).wf=true∧(Lit.int .i64 x.2.2.2.1).wf=true∧(Lit.int .i64 x.2.2.2.2.1).wf=true∧(Lit.int .i64 x.2.2.2.2.2.1).wf=true∧(Lit.int .i64 x.2.2.2.2.2.2.1.1).wf=true∧Own (.sl ty_Int) M [u0] x.2.1 L0∧Own (.sl ty_Cell) M [u1] x.2.2.1.2.2.2.1.2.1 L1∧Own (.sl ty_Touch) M [u2] x.2.2.1.2.2.2.1.2.2 L2∧Own (.sl ty_Block) M [u3] x.2.2.1.2.2.2.2 L3∧Own (.sl ty_Cell) M [u4] x.2.2.2.2.2.2.1.2.1 L4∧Own (.sl ty_Touch) M [u5] x.2.2.2.2.2.2.1.2.2 L5∧Own (.sl ty_Block) M [u6] x.2.2.2.2.2.2.2 L6∧L=L0++L1++L2++L3++L4++L5++L6:=by
  obtain ⟨c0,d0,K0,J0,rfl,h0,h,rfl⟩:=h
  obtain ⟨⟨rfl,w0⟩,rfl⟩:=h0
  obtain ⟨c1,d1,K1,J1,rfl,h1,h,rfl⟩:=h
  obtain ⟨u0,rfl⟩:∃ u,c1=[u]:=by
    have l0:=Rep.len ((h1).rep)
    exact List.length_eq_one_iff.1 l0
  have r0:=h1
  obtain ⟨c2,d2,K2,J2,rfl,h2,h,rfl⟩:=h
  obtain ⟨u1,u2,u3,Q2_0,Q2_1,Q2_2,rfl,w1,w2,w3,w4,r1,r2,r3,rfl⟩:=own_g_Oram h2
  obtain ⟨u4,u5,u6,Q3_0,Q3_1,Q3_2,rfl,w5,w6,w7,w8,r4,r5,r6,rfl⟩:=own_g_Oram h
  exact ⟨u0,u1,u2,u3,u4,u5,u6,_,_,_,_,_,_,_,rfl,w0,w1,w2,w3,w4,w5,w6,w7,w8,r0,r1,r2,r3,r4,r5,r6,by simp⟩
def mk_Touch (k:Int):ty_Touch.D:=(k,k+1,k+2)
def marks_Touch (k:Int) (n:Nat):List ty_Touch.D:=(List.range n).map fun (j:Nat)=>mk_Touch (k+3 * (j:Int))
abbrev gm_TouchS (k:Int) (xs:List ty_Touch.D):List ty_Touch.D:=marks_Touch k xs.length
def gmS {D:Type} (mk:Int→D→D) (tot:D→Int):Int→List D→List D
  | _,[]=>[]
  | k,x :: xs=>mk k x :: gmS mk tot (k+tot x) xs
def mkY (k:Int):UInt8:=UInt8.ofNat (k.toNat % 256)
def marksY (k:Int) (n:Nat):List ty_Byte.D:=(List.range n).map fun (j:Nat)=>mkY (k+(j:Int))
abbrev gm_ByteS (k:Int) (xs:List ty_Byte.D):List ty_Byte.D:=marksY k xs.length
abbrev gm_Cell (k:Int) (x:ty_Cell.D):ty_Cell.D:=gm_ByteS k x
abbrev gm_CellS (k:Int) (xs:List ty_Cell.D):List ty_Cell.D:=gmS gm_Cell gt_Cell k xs
def gm_Mem (k:Int) (x:ty_Mem.D):ty_Mem.D:=(x.1,gm_CellS (k) x.2.1,gm_TouchS (k+gt_CellS x.2.1) x.2.2)
abbrev gm_BlkE (k:Int) (x:ty_Block.D):ty_Block.D:=(k,k+1,gm_ByteS (k+2) x.2.2)
abbrev gm_BlockS (k:Int) (xs:List ty_Block.D):List ty_Block.D:=gmS gm_BlkE gt_BlkE k xs
def gm_Oram (k:Int) (x:ty_Oram.D):ty_Oram.D:=(x.1,x.2.1,x.2.2.1,gm_Mem (k) x.2.2.2.1,gm_BlockS (k+gt_Mem x.2.2.2.1) x.2.2.2.2)
def marksI (k:Int) (n:Nat):List Int:=(List.range n).map fun (j:Nat)=>k+(j:Int)
abbrev gm_IntS (k:Int) (xs:List ty_Int.D):List ty_Int.D:=marksI k xs.length
def gm_Deep (k:Int) (x:ty_Deep.D):ty_Deep.D:=(x.1,gm_IntS (k) x.2.1,gm_Oram (k+gt_IntS x.2.1) x.2.2.1,gm_Oram (k+gt_IntS x.2.1+gt_Oram x.2.2.1) x.2.2.2)
theorem marks_Touch_len (k:Int) (n:Nat):(marks_Touch k n).length=n:=by simp [marks_Touch]
theorem marks_Touch_get (k:Int) (n i:Nat) (hi:i < (marks_Touch k n).length):(marks_Touch k n)[i]=mk_Touch (k+3 * (i:Int)):=by simp [marks_Touch]
def mcs_Touch (k:Int) (i:Nat):List V:=((marks_Touch k i).map enc_Touch).flatten
theorem ownf_Touch (M:Mem) (cs:List V) (x:ty_Touch.D) (K:List Nat) (h:Own ty_Touch M cs x K):K=[]:=by
  obtain ⟨_,_,_,_,_,⟨_,rfl⟩,⟨_,_,_,_,_,⟨_,rfl⟩,⟨_,rfl⟩,rfl⟩,rfl⟩:=h
  rfl
theorem mcs_Touch_len (k:Int) (i:Nat):(mcs_Touch k i).length=i * 3:=by
  unfold mcs_Touch
  rw [flat_enc_len (w:=3) (fun x _=>rfl),marks_Touch_len]
theorem mcs_Touch_succ (k:Int) (i:Nat):mcs_Touch k (i+1)=mcs_Touch k i++[.int .i64 ((k+3 * (i:Int)))]++[.int .i64 ((k+3 * (i:Int))+1)]++[.int .i64 ((k+3 * (i:Int))+2)]:=by
  unfold mcs_Touch marks_Touch
  rw [List.range_succ]
  simp [mk_Touch]
theorem r_laws_markTouchS (M:Mem) (l o n c:Nat) (blk:Blk) (hb:M[l]?=some blk) (h2:blk.st=2) (k:Int) (hk:0 < k) (hk2:k+3 * n≤4611686018427387904) (ho:o+n * 3≤blk.cells.length) (i:Nat) (hi:i < n) :
    lp (aCall T0) K_laws_markTouchS_0 L_laws_markTouchS_0 [.slice (some ⟨l,o,none⟩) n c,.int .i64 (k+3 * (i:Int)),O,O,O,.int .i64 i,O,O,O,O,O,O,O,O,O,O,O,O,O,O,O,O,O,O,O,O,O,O,O,O,O,O,O,O] (M.set l (spB blk o (mcs_Touch k i))) =
    lp (aCall T0) K_laws_markTouchS_0 L_laws_markTouchS_0 [.slice (some ⟨l,o,none⟩) n c,.int .i64 (k+3 * ((i+1:Nat):Int)),O,O,O,.int .i64 (i+1:Nat),O,O,O,O,O,O,O,O,O,O,O,O,O,O,O,O,O,O,O,O,O,O,O,O,O,O,O,O] (M.set l (spB blk o (mcs_Touch k (i+1)))):=by
  have el:=mcs_Touch_len k i
  obtain ⟨q,hq⟩:∃ q,q=k+3 * (i:Int):=⟨_,rfl⟩
  have e0:=wrn_sp M l o blk hb h2 (mcs_Touch k i) (.int .i64 (q)) rfl (by rw [el]; omega)
  have e1:=wrn_sp M l o blk hb h2 (mcs_Touch k i++[.int .i64 (q)]) (.int .i64 (q+1)) rfl (by simp only [List.length_append,List.length_cons,List.length_nil,el]; omega)
  have e2:=wrn_sp M l o blk hb h2 (mcs_Touch k i++[.int .i64 (q)]++[.int .i64 (q+1)]) (.int .i64 (q+2)) rfl (by simp only [List.length_append,List.length_cons,List.length_nil,el]; omega)
  have es:=mcs_Touch_succ k i
  rw [← hq] at es
  rw [← es] at e2
  simp only [List.length_append,List.length_cons,List.length_nil,el,Nat.zero_add,Nat.add_assoc,Nat.reduceAdd,List.append_assoc,List.cons_append,List.nil_append] at e0 e1 e2
  have a1:o+(i * 3+1)=o+i * 3+1:=by omega
  rw [a1] at e1
  have a2:o+(i * 3+2)=o+i * 3+2:=by omega
  rw [a2] at e2
  have f6:IntKind.i64.wrap ((i:Int)+1)=i+1:=wrap_i64 (by omega) (by omega)
  have g0:IntKind.i64.wrap (q+1)=q+1:=by rw [wrap_i64 (by omega) (by omega)]
  have g1:IntKind.i64.wrap (q+1+1)=q+2:=by rw [wrap_i64 (by omega) (by omega)]; omega
  have g2:IntKind.i64.wrap (q+2+1)=k+3 * ((i:Int)+1):=by rw [wrap_i64 (by omega) (by omega)]; omega
  rw [← hq]
  rw [S_laws_markTouchS_0]; unfold B_laws_markTouchS_0; simp [e0,e1,e2,f6,g0,g1,g2,hi]
theorem wf_range {z:Int} (h:-9223372036854775808≤z∧z≤9223372036854775807):(Lit.int .i64 z).wf=true:=by
  simp [Lit.wf,IntKind.min,IntKind.max,IntKind.signed,IntKind.bits]; omega
theorem d_laws_markTouchS (M:Mem) (v:V) (xs:List ty_Touch.D) (L:List Nat) (h:Own (.sl ty_Touch) M [v] xs L) (k:Int) (hk:0 < k) (hk2:k+3 * xs.length≤4611686018427387904) :
    ∃ M',aCall T0 F_laws_markTouchS [v,.int .i64 k] M=some (.int .i64 (k+3 * xs.length),M')∧UpdG M M' (· ∈ L)∧Own (.sl ty_Touch) M' [v] (marks_Touch k xs.length) L:=by
  rcases own_flat ownf_Touch h with ⟨rfl,rfl,hr⟩ | ⟨l,o,c,blk,hx,rfl,hb,h2,hw,ho,rfl⟩
  · refine ⟨M,?_,pre_g (List.prefix_refl _) _,.inl ⟨rfl,rfl,hr⟩⟩
    obtain ⟨a,c,rfl⟩:=hr.slen
    rw [aCall_eq T_laws_markTouchS]; unfold A_laws_markTouchS C_laws_markTouchS; simp
    rw [S_laws_markTouchS_0]; unfold B_laws_markTouchS_0; simp
  · have hw2:ty_Touch.w=3:=rfl
    rw [hw2] at ho
    have hl:=chain (g:=fun i:Nat=>lp (aCall T0) K_laws_markTouchS_0 L_laws_markTouchS_0 [.slice (some ⟨l,o,none⟩) xs.length c,.int .i64 (k+3 * (i:Int)),O,O,O,.int .i64 i,O,O,O,O,O,O,O,O,O,O,O,O,O,O,O,O,O,O,O,O,O,O,O,O,O,O,O,O] (M.set l (spB blk o (mcs_Touch k i)))) (n:=xs.length) fun i hi=>r_laws_markTouchS M l o xs.length c blk hb h2 k hk hk2 ho i hi
    have e0:mcs_Touch k 0=[]:=rfl
    simp only [Int.natCast_zero,Int.ofNat_zero,e0,spB_nil,set_same hb,Int.mul_zero,Int.add_zero] at hl
    have hlt:=(List.getElem?_eq_some_iff.1 hb).1
    refine ⟨M.set l (spB blk o (mcs_Touch k xs.length)),?_,Upd.g (upd_set hb rfl),?_⟩
    · rw [aCall_eq T_laws_markTouchS]; unfold A_laws_markTouchS C_laws_markTouchS; simp [hl]
      rw [S_laws_markTouchS_0]; unfold B_laws_markTouchS_0; simp
      exact gc_len (by simp)
    · refine own_sp (blk:=blk) (enc:=enc_Touch) ?_ (marks_Touch_len _ _) (by simp [hlt,mcs_Touch]) h2 hw (by omega) ?_
      · intro e; have:=congrArg List.length e; rw [marks_Touch_len] at this; exact hx (List.length_eq_zero_iff.1 this)
      · intro y hy
        obtain ⟨i,hi,rfl⟩:=List.getElem_of_mem hy
        rw [marks_Touch_get]
        have hi2:i < xs.length:=by rw [marks_Touch_len] at hi; exact hi
        obtain ⟨q,hq⟩:∃ q,q=k+3 * (i:Int):=⟨_,rfl⟩
        rw [← hq]
        exact own_Touch _ _ (wf_range (show -9223372036854775808≤q∧q≤9223372036854775807 by omega)) (wf_range (show -9223372036854775808≤q+1∧q+1≤9223372036854775807 by omega)) (wf_range (show -9223372036854775808≤q+2∧q+2≤9223372036854775807 by omega))
theorem k_laws_markTouchS:MarkS T0 ty_Touch F_laws_markTouchS gm_TouchS gt_TouchS:=fun M v xs L k h _ hb hk hk2=>d_laws_markTouchS M v xs L h k hk hk2
theorem marksY_len (k:Int) (n:Nat):(marksY k n).length=n:=by simp [marksY]
def mcs_Byte (k:Int) (i:Nat):List V:=((marksY k i).map enc_Byte).flatten
theorem mkY_val (k:Int) (hk:0 < k):Value.int .u8 (IntKind.u8.wrap k)=byteV (mkY k):=by
  unfold mkY
  rw [byteV_len (by omega)]
  congr 1
  simp [IntKind.wrap,IntKind.min,IntKind.max,IntKind.signed,IntKind.bits]
  omega
theorem mkY_wrap (k:Int) (hk:0 < k):IntKind.u8.wrap k=((mkY k).toNat:Int):=by
  have h:=mkY_val k hk
  unfold byteV at h
  injection h
theorem mcs_Byte_len (k:Int) (i:Nat):(mcs_Byte k i).length=i:=by
  unfold mcs_Byte
  rw [flat_enc_len (w:=1) (fun x _=>rfl),marksY_len,Nat.mul_one]
theorem mcs_Byte_succ (k:Int) (i:Nat):mcs_Byte k (i+1)=mcs_Byte k i++[byteV (mkY (k+(i:Int)))]:=by
  unfold mcs_Byte marksY
  rw [List.range_succ]
  simp
theorem r_laws_markByteS (M:Mem) (l o n c:Nat) (blk:Blk) (hb:M[l]?=some blk) (h2:blk.st=2) (k:Int) (hk:0 < k) (hk2:k+n≤4611686018427387904) (ho:o+n≤blk.cells.length) (i:Nat) (hi:i < n) :
    lp (aCall T0) K_laws_markByteS_0 L_laws_markByteS_0 [.slice (some ⟨l,o,none⟩) n c,.int .i64 (k+(i:Int)),O,O,O,.int .i64 i,O,O,O,O,O,O,O,O,O,O,O,O,O,O] (M.set l (spB blk o (mcs_Byte k i))) =
    lp (aCall T0) K_laws_markByteS_0 L_laws_markByteS_0 [.slice (some ⟨l,o,none⟩) n c,.int .i64 (k+((i+1:Nat):Int)),O,O,O,.int .i64 (i+1:Nat),O,O,O,O,O,O,O,O,O,O,O,O,O,O] (M.set l (spB blk o (mcs_Byte k (i+1)))):=by
  have el:=mcs_Byte_len k i
  have e1:=wrn_sp M l o blk hb h2 (mcs_Byte k i) (byteV (mkY (k+(i:Int)))) rfl (by omega)
  rw [← mcs_Byte_succ,el] at e1
  have e6:IntKind.i64.wrap ((i:Int)+1)=i+1:=wrap_i64 (by omega) (by omega)
  have e7:IntKind.i64.wrap (k+(i:Int)+1)=k+((i:Int)+1):=by rw [wrap_i64 (by omega) (by omega)]; omega
  have e8:=mkY_wrap (k+(i:Int)) (by omega)
  unfold byteV at e1
  rw [S_laws_markByteS_0]; unfold B_laws_markByteS_0; simp [e1,e6,e7,e8,hi]
theorem d_laws_markByteS (M:Mem) (v:V) (xs:List ty_Byte.D) (L:List Nat) (h:Own (.sl ty_Byte) M [v] xs L) (k:Int) (hk:0 < k) (hk2:k+xs.length≤4611686018427387904) :
    ∃ M',aCall T0 F_laws_markByteS [v,.int .i64 k] M=some (.int .i64 (k+xs.length),M')∧UpdG M M' (· ∈ L)∧Own (.sl ty_Byte) M' [v] (marksY k xs.length) L:=by
  rcases own_flat ownf_Byte h with ⟨rfl,rfl,hr⟩ | ⟨l,o,c,blk,hx,rfl,hb,h2,hw,ho,rfl⟩
  · refine ⟨M,?_,pre_g (List.prefix_refl _) _,.inl ⟨rfl,rfl,hr⟩⟩
    obtain ⟨a,c,rfl⟩:=hr.slen
    rw [aCall_eq T_laws_markByteS]; unfold A_laws_markByteS C_laws_markByteS; simp
    rw [S_laws_markByteS_0]; unfold B_laws_markByteS_0; simp
  · have hw2:ty_Byte.w=1:=rfl
    rw [hw2,Nat.mul_one] at ho
    have hl:=chain (g:=fun i:Nat=>lp (aCall T0) K_laws_markByteS_0 L_laws_markByteS_0 [.slice (some ⟨l,o,none⟩) xs.length c,.int .i64 (k+(i:Int)),O,O,O,.int .i64 i,O,O,O,O,O,O,O,O,O,O,O,O,O,O] (M.set l (spB blk o (mcs_Byte k i)))) (n:=xs.length) fun i hi=>r_laws_markByteS M l o xs.length c blk hb h2 k hk hk2 ho i hi
    have e0:mcs_Byte k 0=[]:=rfl
    simp only [Int.natCast_zero,Int.ofNat_zero,e0,spB_nil,set_same hb,Int.add_zero] at hl
    have hlt:=(List.getElem?_eq_some_iff.1 hb).1
    refine ⟨M.set l (spB blk o (mcs_Byte k xs.length)),?_,Upd.g (upd_set hb rfl),?_⟩
    · rw [aCall_eq T_laws_markByteS]; unfold A_laws_markByteS C_laws_markByteS; simp [hl]
      rw [S_laws_markByteS_0]; unfold B_laws_markByteS_0; simp
      exact gc_len (by simp)
    · refine own_sp (blk:=blk) (enc:=enc_Byte) ?_ (marksY_len _ _) (by simp [hlt,mcs_Byte]) h2 hw (by omega) (fun y _=>own_Byte _ y)
      intro e; have:=congrArg List.length e; rw [marksY_len] at this; exact hx (List.length_eq_zero_iff.1 this)
theorem k_laws_markByteS:MarkS T0 ty_Byte F_laws_markByteS gm_ByteS gt_ByteS:=fun M v xs L k h _ hb hk hk2=>d_laws_markByteS M v xs L h k hk hk2
theorem splice_drop (cs ys:List V) (o p:Nat) (ho:o≤cs.length):(splice cs (o+p) ys).drop o=splice (cs.drop o) p ys:=by
  unfold splice
  have h1:(cs.take (o+p)).drop o=(cs.drop o).take p:=by rw [List.drop_take]; congr 1; omega
  rw [List.append_assoc,List.append_assoc,List.drop_append,h1,List.drop_drop]
  have h2:o - (cs.take (o+p)).length=0:=by simp; omega
  rw [h2,List.drop_zero]
  congr 3
  omega
theorem splice_app (xs r ys:List V) (p:Nat) (hp:p+ys.length≤xs.length):splice (xs++r) p ys=splice xs p ys++r:=by
  unfold splice
  rw [List.take_append_of_le_length (by omega),List.drop_append_of_le_length hp]
  simp [List.append_assoc]
theorem flat_atr {w:Nat}:∀ (css:List (List V)) (i:Nat) (hi:i < css.length) (r:List V),(∀ c ∈ css,c.length=w)→((css.flatten++r).drop (i * w)).take w=css[i]:=by
  intro css
  induction css with
  | nil=>intro i hi; simp at hi
  | cons c cs ih =>
    intro i hi r hc
    cases i with
    | zero =>
      rw [Nat.zero_mul,List.drop_zero,List.flatten_cons,List.append_assoc,List.take_left' (hc c (by simp))]
      rfl
    | succ i =>
      rw [List.flatten_cons,Nat.add_mul,Nat.one_mul,Nat.add_comm,← List.drop_drop,List.append_assoc,List.drop_left' (hc c (by simp))]
      exact ih i (by simpa using hi) r (fun d hd=>hc d (by simp [hd]))
theorem Own.elem {t:Ty} {X:Mem} {v:V} {xs:List t.D} {L:List Nat} (h:Own (.sl t) X [v] xs L) (nd:L.Nodup) {i:Nat} (hi:i < xs.length) :
    ∃ (l o c:Nat) (blk:Blk) (cs:List V) (K:List Nat),v=.slice (some ⟨l,o,none⟩) xs.length c∧X[l]?=some blk∧blk.st=2∧blk.w=t.w∧o+i * t.w+t.w≤blk.cells.length∧(blk.cells.drop (o+i * t.w)).take t.w=cs∧cs.length=t.w∧Own t X cs xs[i] K∧K.Nodup∧l ∉ K∧(∀ j ∈ K,j ∈ L)∧l ∈ L ∧
    ∀ (X':Mem) (cs':List V) (y:t.D),UpdG X X' (fun j=>j=l∨j ∈ K)→X'[l]?=some (spB blk (o+i * t.w) cs')→cs'.length=t.w→Own t X' cs' y K→Own (.sl t) X' [v] (xs.set i y) L:=by
  rcases h with ⟨rfl,_,_⟩ | ⟨l,o,c,blk,css,Ls,hne,e,hb,h2,hw,hc,hLs,hel,hp,rfl⟩
  · simp at hi
  cases e
  have hone:∀ cs ∈ css,cs.length=t.w:=by
    intro cs hcs
    obtain ⟨i,hi,rfl⟩:=List.getElem_of_mem hcs
    exact (hel i css[i] (xs[i]'(by omega)) (Ls[i]'(by omega)) (by simp) (by simp) (by simp)).rep.len
  have hfl:=flat_len hone
  obtain ⟨r,hr⟩:=hp
  have hle:i * t.w+t.w≤css.length * t.w:=by
    rw [← Nat.succ_mul]
    exact Nat.mul_le_mul_right _ (by omega)
  have hlen:css.flatten.length+r.length=blk.cells.length - o:=by rw [← List.length_append,hr,List.length_drop]
  have hw0:=t.w_pos
  have hcs:=flat_atr css i (by omega) r hone
  obtain ⟨hln,hnf⟩:=List.nodup_cons.1 nd
  have hmem:∀ (k:Nat) (hk:k < Ls.length),∀ j ∈ Ls[k],j ∈ Ls.flatten:=fun k hk j hj=>List.mem_flatten.2 ⟨_,List.getElem_mem hk,hj⟩
  have hndK:∀ (Ls:List (List Nat)),Ls.flatten.Nodup→(∀ K ∈ Ls,K.Nodup)∧∀ (a b:Nat) (K J:List Nat),Ls[a]?=some K→Ls[b]?=some J→a ≠ b→∀ j ∈ K,j ∉ J:=by
    intro Ls
    induction Ls with
    | nil=>intro _; exact ⟨by simp,fun a b K J h=>by simp at h⟩
    | cons A As ih =>
      intro hn
      rw [List.flatten_cons] at hn
      obtain ⟨n1,n2,n3⟩:=List.nodup_append.1 hn
      obtain ⟨i1,i2⟩:=ih n2
      refine ⟨fun K hK=>?_,fun a b K J ha hb hab j hj hj2=>?_⟩
      · rcases List.mem_cons.1 hK with rfl | hK
        · exact n1
        · exact i1 K hK
      · cases a with
        | zero =>
          cases b with
          | zero=>exact hab rfl
          | succ b =>
            simp at ha hb
            subst ha
            exact n3 j hj j (List.mem_flatten.2 ⟨J,List.mem_of_getElem? hb,hj2⟩) rfl
        | succ a =>
          cases b with
          | zero =>
            simp at ha hb
            subst hb
            exact n3 j hj2 j (List.mem_flatten.2 ⟨K,List.mem_of_getElem? ha,hj⟩) rfl
          | succ b =>
            simp at ha hb
            exact i2 a b K J ha hb (by omega) j hj hj2
  obtain ⟨hk1,hk2⟩:=hndK Ls hnf
  refine ⟨l,o,c,blk,css[i]'(by omega),Ls[i]'(by omega),rfl,hb,h2,hw,by omega,?_,hone _ (List.getElem_mem _),hel i _ xs[i] _ (by simp) (by simp) (by simp),hk1 _ (List.getElem_mem _),fun hm=>hln (hmem _ _ _ hm),fun j hj=>List.mem_cons_of_mem _ (hmem _ _ _ hj),by simp,?_⟩
  · rw [← List.drop_drop,← hr]
    exact hcs
  · intro X' cs' y hu hb' hl' hy
    refine .inr ⟨l,o,c,spB blk (o+i * t.w) cs',css.set i cs',Ls,?_,by simp,hb',h2,hw,by simp [hc],by simp [hLs],fun k ds x K hds hx hK=>?_,?_,rfl⟩
    · intro e
      have:=congrArg List.length e
      simp at this
      exact hne this
    · by_cases hk:i=k
      · subst hk
        rw [List.getElem?_set_self (by omega)] at hds hx
        rw [List.getElem?_eq_getElem (by omega)] at hK
        cases hds; cases hx; cases hK
        exact hy
      · rw [List.getElem?_set_ne hk] at hds hx
        refine (hel k ds x K hds hx hK).updg hu (fun j hj hm=>?_)
        rcases hm with rfl | hm
        · exact hln (List.mem_flatten.2 ⟨K,List.mem_of_getElem? hK,hj⟩)
        · exact hk2 i k (Ls[i]'(by omega)) K (by simp) hK hk j hm hj
    · unfold spB
      simp only
      rw [splice_drop _ _ _ _ (by omega),← hr,splice_app _ _ _ _ (by omega),splice_el css i t.w cs' (by omega) hone hl']
      exact List.prefix_append _ _
theorem gmS_len {D:Type} (mk:Int→D→D) (tot:D→Int):∀ (xs:List D) (k:Int),(gmS mk tot k xs).length=xs.length
  | [],_=>rfl
  | x :: xs,k=>by simp [gmS,gmS_len mk tot xs]
theorem gtS_app {D:Type} (tot:D→Int):∀ (xs ys:List D),gtS tot (xs++ys)=gtS tot xs+gtS tot ys
  | [],ys=>by simp [gtS]
  | x :: xs,ys=>by simp [gtS,gtS_app tot xs ys]; omega
theorem gtS_step {D:Type} (tot:D→Int) {xs:List D} {i:Nat} (hi:i < xs.length):gtS tot (xs.take (i+1))=gtS tot (xs.take i)+tot xs[i]:=by
  rw [List.take_succ_eq_append_getElem hi,gtS_app]
  simp [gtS]
theorem gmS_app {D:Type} (mk:Int→D→D) (tot:D→Int):∀ (xs ys:List D) (k:Int),gmS mk tot k (xs++ys)=gmS mk tot k xs++gmS mk tot (k+gtS tot xs) ys
  | [],ys,k=>by simp [gmS,gtS]
  | x :: xs,ys,k=>by
    have:k+tot x+gtS tot xs=k+(tot x+gtS tot xs):=by omega
    simp [gmS,gtS,gmS_app mk tot xs ys,this]
theorem gmS_step {D:Type} (mk:Int→D→D) (tot:D→Int) {xs:List D} {i:Nat} (hi:i < xs.length) (k:Int):(gmS mk tot k (xs.take i)++xs.drop i).set i (mk (k+gtS tot (xs.take i)) xs[i])=gmS mk tot k (xs.take (i+1))++xs.drop (i+1):=by
  have hl:(gmS mk tot k (xs.take i)).length=i:=by rw [gmS_len,List.length_take]; omega
  rw [List.set_append_right _ _ (by omega),hl,Nat.sub_self,List.take_succ_eq_append_getElem hi,gmS_app,List.append_assoc,List.drop_eq_getElem_cons hi]
  rfl
theorem gtS_take {D:Type} {tot:D→Int} {xs:List D} (h:∀ x ∈ xs,0≤tot x) {i:Nat} (hi:i < xs.length):0≤gtS tot (xs.take i)∧gtS tot (xs.take i)+tot xs[i]≤gtS tot xs:=by
  have h0:∀ ys:List D,(∀ y ∈ ys,0≤tot y)→0≤gtS tot ys:=by
    intro ys
    induction ys with
    | nil=>intro _; simp [gtS]
    | cons y ys ih =>
      intro hy
      have:=hy y (by simp)
      have:=ih (fun z hz=>hy z (by simp [hz]))
      unfold gtS
      omega
  have e:xs=xs.take i++(xs[i] :: xs.drop (i+1)):=by
    rw [← List.drop_eq_getElem_cons hi,List.take_append_drop]
  have e2:gtS tot xs=gtS tot (xs.take i)+(tot xs[i]+gtS tot (xs.drop (i+1))):=by
    conv=>lhs; rw [e]
    rw [gtS_app]
    rfl
  have h1:=h0 (xs.take i) (fun y hy=>h y (List.mem_of_mem_take hy))
  have h2:=h0 (xs.drop (i+1)) (fun y hy=>h y (List.mem_of_mem_drop hy))
  omega
theorem splice_self {cs ys:List V} {p:Nat} (h:(cs.drop p).take ys.length=ys):splice cs p ys=cs:=by
  unfold splice
  conv=>rhs; rw [← List.take_append_drop p cs,← List.take_append_drop ys.length (cs.drop p),h,List.drop_drop]
  rw [List.append_assoc]
theorem spB_self {blk:Blk} {ys:List V} {p:Nat} (h:(blk.cells.drop p).take ys.length=ys):spB blk p ys=blk:=by
  unfold spB
  rw [splice_self h]
theorem take_getE {cs ys:List V} {p w:Nat} (h:(cs.drop p).take w=ys) {j:Nat} (hj:j < w):cs[p+j]?=ys[j]?:=by
  subst h
  rw [List.getElem?_take,if_pos hj,List.getElem?_drop]
theorem k_laws_markCellS:MarkS T0 ty_Cell F_laws_markCellS gm_CellS gt_CellS:=fun M v xs L k h nd hb hk hk2=>by
  have hpos:∀ x ∈ xs,0≤gt_Cell x:=fun x hx=>Int.natCast_nonneg _
  have hk3:k+gtS gt_Cell xs≤4611686018427387904:=hk2
  have hn:=hb.1
  have hn2:(xs.length:Int)≤1048576:=by omega
  obtain ⟨a,c,rfl⟩:=h.rep.slen
  have key:=loop_to (call:=aCall T0) (K:=K_laws_markCellS_0) (L:=L_laws_markCellS_0) (fun i (_:Unit) X=>UpdG M X (· ∈ L)∧Own (.sl ty_Cell) X [.slice a xs.length c] (gmS gm_Cell gt_Cell k (xs.take i)++xs.drop i) L) (fun i _=>[.slice a xs.length c,.int .i64 (k+gtS gt_Cell (xs.take i)),O,O,O,.int .i64 i,O,O,O,O,O,O,O,O,O,O,O,O,O,O]) (n:=xs.length) ?_ 0 () M (by omega) ⟨pre_g (List.prefix_refl _) _,by simpa [gmS] using h⟩
  · obtain ⟨_,X',⟨h1,h2⟩,e⟩:=key
    simp only [List.take_length,List.drop_length,List.append_nil] at h2 e
    have e0:k+gtS gt_Cell (xs.take 0)=k:=by simp [gtS]
    simp only [e0,Int.natCast_zero,Int.ofNat_zero] at e
    obtain ⟨M2,g1,g2,g3⟩:=gc_num h1 h h2 (k+gtS gt_Cell xs)
    refine ⟨M2,?_,g2,g3⟩
    rw [aCall_eq T_laws_markCellS]; unfold A_laws_markCellS C_laws_markCellS; simp [apA,e]
    rw [S_laws_markCellS_0]; unfold B_laws_markCellS_0; simp [apA]
    exact g1
  intro i _ X hi ⟨hu,ho⟩
  have hys:(gmS gm_Cell gt_Cell k (xs.take i)).length=i:=by rw [gmS_len,List.length_take]; omega
  have hyl:(gmS gm_Cell gt_Cell k (xs.take i)++xs.drop i).length=xs.length:=by simp [hys]; omega
  have hyi:(gmS gm_Cell gt_Cell k (xs.take i)++xs.drop i)[i]'(by omega)=xs[i]:=by
    rw [List.getElem_append_right (by omega)]
    simp [hys]
  obtain ⟨l,o,c2,blk,cs,K,ev,hbl,hst,hw,hle,hcs,hcl,hoe,ndk,hlk,hKL,hlL,hre⟩:=Own.elem ho nd (i:=i) (by omega)
  rw [hyi] at hoe
  rw [hyl] at ev
  cases ev
  have e6:IntKind.i64.wrap ((i:Int)+1)=i+1:=wrap_i64 (by omega) (by omega)
  have ht:=gtS_take (tot:=gt_Cell) hpos hi
  have hw1:ty_Cell.w=1:=rfl
  match cs,hcl with
  | [u],_ =>
  have hrd:rd1 X l (o+i)=some u:=by
    rw [rd1_K,hbl]
    have:=take_getE hcs (j:=0) (by decide)
    simp only [rdJ]
    rw [if_pos (.inr hst)]
    simpa [hw1] using this
  obtain ⟨X',e1,u1,o1⟩:=k_laws_markByteS X u xs[i] K (k+gtS gt_Cell (xs.take i)) hoe ndk (hb.2 _ (List.getElem_mem hi)) (by omega) (by show _+gt_Cell xs[i]≤_; omega)
  have hX'l:X'[l]?=some blk:=u1.get hbl hlk
  have hown:=hre X' [u] (gm_Cell (k+gtS gt_Cell (xs.take i)) xs[i]) (u1.weak (fun j hj=>.inr hj)) (by rw [hX'l,spB_self (by rw [List.length_singleton]; exact hcs)]) rfl o1
  rw [gmS_step gm_Cell gt_Cell hi] at hown
  refine ⟨(),X',⟨?_,hown⟩,?_⟩
  · exact (hu.trans u1).weak (fun j hj=>by
      rcases hj with hj | hj
      · exact hj
      · exact hKL j hj)
  · have es:=gtS_step gt_Cell hi
    have es2:k+gtS gt_Cell (xs.take (i+1))=k+gtS gt_Cell (xs.take i)+gt_ByteS xs[i]:=by rw [es]; exact (Int.add_assoc _ _ _).symm
    rw [es2]
    rw [S_laws_markCellS_0]; unfold B_laws_markCellS_0; simp [apA,hi,hrd,e1,e6]
set_option maxHeartbeats 4000000 in
theorem k_laws_markMem:MarkF T0 ty_Mem F_laws_markMem gm_Mem gt_Mem:=by
  intro M cs x L k h hnd hb hk hk2
  have hwhole:=h
  obtain ⟨u0,u1,L0,L1,rfl,w0,r0,r1,rfl⟩:=own_g_Mem h
  have t0:=tot_CellS _ hb.2.1
  have t1:=tot_TouchS _ hb.2.2
  unfold gt_Mem at hk2 ⊢
  have hlt:=own_lt hwhole
  have hp0:M <+: M++[(⟨[.int .i64 x.1,u0,u1],1,2⟩:Blk)]:=List.prefix_append _ _
  have b0:(M++[(⟨[.int .i64 x.1,u0,u1],1,2⟩:Blk)])[M.length]?=some ⟨[.int .i64 x.1,u0,u1],1,2⟩:=by simp
  have o0_0:=r0.grow hp0
  have o0_1:=r1.grow hp0
  have hnd2:=hnd
  simp only [List.nodup_append,List.mem_append] at hnd2
  have i0:=one_head r0.rep.one
  have i1:=one_head r1.rep.one
  obtain ⟨N0,e0,up0,ow0⟩:=k_laws_markCellS (M++[(⟨[.int .i64 x.1,u0,u1],1,2⟩:Blk)]) _ _ _ (k) o0_0 (by have:=hnd; simp only [List.nodup_append] at this; simp [this]) hb.2.1 (by omega) (by omega)
  have b1:N0[M.length]?=some ⟨[.int .i64 x.1,u0,u1],1,2⟩:=up0.get b0 (fun hm=>by have:=hlt M.length (by simp only [List.mem_append] at hm ⊢; simp [hm]); omega)
  have o1_1:=Own.updg up0 o0_1 (fun l hl hm=>by have:=hnd; simp only [List.nodup_append,List.mem_append] at this hm; grind)
  have o1_0:=ow0
  obtain ⟨N1,e1,up1,ow1⟩:=k_laws_markTouchS N0 _ _ _ (k+gt_CellS x.2.1) o1_1 (by have:=hnd; simp only [List.nodup_append] at this; simp [this]) hb.2.2 (by omega) (by omega)
  have b2:N1[M.length]?=some ⟨[.int .i64 x.1,u0,u1],1,2⟩:=up1.get b1 (fun hm=>by have:=hlt M.length (by simp only [List.mem_append] at hm ⊢; simp [hm]); omega)
  have o2_0:=Own.updg up1 o1_0 (fun l hl hm=>by have:=hnd; simp only [List.nodup_append,List.mem_append] at this hm; grind)
  have o2_1:=ow1
  have uu:UpdG M N1 (· ∈ L0++L1):=by
    refine (UpdG.weak ((UpdG.trans up0 up1).grow hp0) fun l hl=>?_)
    simp only [List.mem_append]
    grind
  have oo:=mkown_g_Mem (x:=gm_Mem k x) w0 o2_0 o2_1
  obtain ⟨N,g1,g2,g3⟩:=gc_num uu hwhole oo (k+(gt_CellS x.2.1+gt_TouchS x.2.2))
  refine ⟨N,?_,g2,g3⟩
  have hadd:k+gt_CellS x.2.1+gt_TouchS x.2.2=k+(gt_CellS x.2.1+gt_TouchS x.2.2):=by omega
  rw [← hadd] at g1 ⊢
  rw [aCall_eq T_laws_markMem]; unfold A_laws_markMem C_laws_markMem; simp [apA,i0,i1,e0,b1,e1,b2,g1,rd1_K,rdJ_ok,rdn_K,rnJ_ok,wrn_K,wrJ_ok]
theorem own_g_Block {M:Mem} {cs:List V} {x:ty_Block.D} {L:List Nat} (h:Own ty_Block M cs x L):∃ (u0:V) (L0:List Nat),cs=[.int .i64 x.1,.int .i64 x.2.1,u0]∧(Lit.int .i64 x.1).wf=true∧(Lit.int .i64 x.2.1).wf=true∧Own (.sl ty_Byte) M [u0] x.2.2 L0∧L=L0:=by
  obtain ⟨c0,d0,K0,J0,rfl,h0,h,rfl⟩:=h
  obtain ⟨⟨rfl,w0⟩,rfl⟩:=h0
  obtain ⟨c1,d1,K1,J1,rfl,h1,h,rfl⟩:=h
  obtain ⟨⟨rfl,w1⟩,rfl⟩:=h1
  obtain ⟨u0,rfl⟩:∃ u,d1=[u]:=by
    have l0:=Rep.len ((h).rep)
    exact List.length_eq_one_iff.1 l0
  have r0:=h
  exact ⟨u0,_,rfl,w0,w1,r0,by simp⟩
theorem wf_mk {z:Int} (h1:-9223372036854775808≤z) (h2:z≤9223372036854775807):(Lit.int .i64 z).wf=true:=by
  show (decide (_≤z) && decide (z≤_))=true
  simp only [Bool.and_eq_true,decide_eq_true_eq]
  exact ⟨h1,h2⟩
theorem spl_at (cells vs:List V) (o x:Nat) (h:o+vs.length≤cells.length):(splice cells o vs)[x]?=if x < o then cells[x]? else if x < o+vs.length then vs[x - o]? else cells[x]?:=by
  unfold splice
  rw [List.append_assoc,List.getElem?_append,List.length_take,Nat.min_eq_left (by omega)]
  by_cases h1:x < o
  · rw [if_pos h1,if_pos h1,List.getElem?_take,if_pos h1]
  · rw [if_neg h1,if_neg h1,List.getElem?_append]
    by_cases h2:x < o+vs.length
    · rw [if_pos (by omega),if_pos h2]
    · rw [if_neg (by omega),if_neg h2,List.getElem?_drop]
      congr 1
      omega
theorem splice_more (cs ys:List V) (p:Nat) (v:V) (h:cs[p+ys.length]?=some v):splice cs p ys=splice cs p (ys++[v]):=by
  obtain ⟨hl,hv⟩:=List.getElem?_eq_some_iff.1 h
  unfold splice
  rw [List.drop_eq_getElem_cons hl,hv]
  simp [List.append_assoc,Nat.add_assoc]
theorem k_laws_markBlockS:MarkS T0 ty_Block F_laws_markBlockS gm_BlockS gt_BlockS:=fun M v xs L k h nd hb hk hk2=>by
  have hpos:∀ x ∈ xs,0≤gt_BlkE x:=fun x hx=>by have:=gt_BlkE_b (hb.2 x hx).2.2.1; omega
  have hk3:k+gtS gt_BlkE xs≤4611686018427387904:=hk2
  have hn:=hb.1
  have hn2:(xs.length:Int)≤1048576:=by omega
  obtain ⟨a,c,rfl⟩:=h.rep.slen
  have key:=loop_to (call:=aCall T0) (K:=K_laws_markBlockS_0) (L:=L_laws_markBlockS_0) (fun i (_:Unit) X=>UpdG M X (· ∈ L)∧Own (.sl ty_Block) X [.slice a xs.length c] (gmS gm_BlkE gt_BlkE k (xs.take i)++xs.drop i) L) (fun i _=>[.slice a xs.length c,.int .i64 (k+gtS gt_BlkE (xs.take i)),O,O,O,.int .i64 i,O,O,O,O,O,O,O,O,O,O,O,O,O,O,O,O,O,O,O,O,O,O,O,O,O,O,O,O]) (n:=xs.length) ?_ 0 () M (by omega) ⟨pre_g (List.prefix_refl _) _,by simpa [gmS] using h⟩
  · obtain ⟨_,X',⟨h1,h2⟩,e⟩:=key
    simp only [List.take_length,List.drop_length,List.append_nil] at h2 e
    have e0:k+gtS gt_BlkE (xs.take 0)=k:=by simp [gtS]
    simp only [e0,Int.natCast_zero,Int.ofNat_zero] at e
    obtain ⟨M2,g1,g2,g3⟩:=gc_num h1 h h2 (k+gtS gt_BlkE xs)
    refine ⟨M2,?_,g2,g3⟩
    rw [aCall_eq T_laws_markBlockS]; unfold A_laws_markBlockS C_laws_markBlockS; simp [apA,e]
    rw [S_laws_markBlockS_0]; unfold B_laws_markBlockS_0; simp [apA]
    exact g1
  intro i _ X hi ⟨hu,ho⟩
  have hys:(gmS gm_BlkE gt_BlkE k (xs.take i)).length=i:=by rw [gmS_len,List.length_take]; omega
  have hyl:(gmS gm_BlkE gt_BlkE k (xs.take i)++xs.drop i).length=xs.length:=by simp [hys]; omega
  have hyi:(gmS gm_BlkE gt_BlkE k (xs.take i)++xs.drop i)[i]'(by omega)=xs[i]:=by
    rw [List.getElem_append_right (by omega)]
    simp [hys]
  obtain ⟨l,o,c2,blk,cs,K,ev,hbl,hst,hw,hle,hcs,hcl,hoe,ndk,hlk,hKL,hlL,hre⟩:=Own.elem ho nd (i:=i) (by omega)
  rw [hyi] at hoe
  rw [hyl] at ev
  cases ev
  have e6:IntKind.i64.wrap ((i:Int)+1)=i+1:=wrap_i64 (by omega) (by omega)
  have ht:=gtS_take (tot:=gt_BlkE) hpos hi
  have hw1:ty_Block.w=3:=rfl
  have hbi:=hb.2 _ (List.getElem_mem hi)
  have hbx:=gt_BlkE_b hbi.2.2.1
  have hgt:gt_BlkE xs[i]=2+gt_ByteS xs[i].2.2:=rfl
  have es:=gtS_step gt_BlkE hi
  have es2:k+gtS gt_BlkE (xs.take (i+1))=k+gtS gt_BlkE (xs.take i)+2+gt_ByteS xs[i].2.2:=by rw [es,hgt]; omega
  obtain ⟨u,K0,rfl,w0,w1,hou,rfl⟩:=own_g_Block hoe
  obtain ⟨ua,uc,rfl⟩:=hou.rep.slen
  rw [hw1] at hle hcs
  have hgm:=gmS_step gm_BlkE gt_BlkE hi k
  rw [es2]
  obtain ⟨p,hp⟩:∃ p,p=o+i * 3:=⟨_,rfl⟩
  generalize hq:k+gtS gt_BlkE (xs.take i)=q at *
  have hc2:=take_getE hcs (j:=2) (by decide)
  simp only [List.getElem?_cons_succ,List.getElem?_cons_zero] at hc2
  rw [← hp] at hle hcs hc2
  have v1:wrn X l p [.int .i64 q]=some (X.set l (spB blk p [.int .i64 q])):=wrn_eq hbl hst (by simp; omega) rfl
  have v2:wrn (X.set l (spB blk p [.int .i64 q])) l (p+1) [.int .i64 (q+1)]=some (X.set l (spB blk p [.int .i64 q,.int .i64 (q+1)])):=wrn_sp X l p blk hbl hst [.int .i64 q] (.int .i64 (q+1)) rfl (by simp; omega)
  have hX2:(X.set l (spB blk p [.int .i64 q,.int .i64 (q+1)]))[l]?=some (spB blk p [.int .i64 q,.int .i64 (q+1)]):=gs_of hbl _
  have hsp3:spB blk p [.int .i64 q,.int .i64 (q+1)]=spB blk p [.int .i64 q,.int .i64 (q+1),.slice ua (List.length (α:=UInt8) xs[i].2.2) uc]:=by
    unfold spB
    rw [splice_more _ _ _ _ hc2]
    rfl
  have hrd:rd1 (X.set l (spB blk p [.int .i64 q,.int .i64 (q+1)])) l (p+2)=some (.slice ua (List.length (α:=UInt8) xs[i].2.2) uc):=by
    rw [rd1_K,hX2]
    have hs2:(splice blk.cells p [.int .i64 q,.int .i64 (q+1)])[p+2]?=some (.slice ua (List.length (α:=UInt8) xs[i].2.2) uc):=by
      rw [spl_at _ _ _ _ (by simp; omega),if_neg (by omega),if_neg (by simp)]
      exact hc2
    exact (if_pos (Or.inr hst)).trans hs2
  have hu2:UpdG X (X.set l (spB blk p [.int .i64 q,.int .i64 (q+1)])) (· ∈ [l]) 
    := (upd_set (b2:=spB blk p [.int .i64 q,.int .i64 (q+1)]) hbl rfl).g
  obtain ⟨X',e1,u1,o1⟩:=k_laws_markByteS (X.set l (spB blk p [.int .i64 q,.int .i64 (q+1)])) (.slice ua (List.length (α:=UInt8) xs[i].2.2) uc) xs[i].2.2 K (q+2) (hou.updg hu2 (fun j hj hm=>hlk (by simp at hm; subst hm; exact hj))) ndk hbi.2.2 (by omega) (by omega)
  have hX'l:X'[l]?=some (spB blk p [.int .i64 q,.int .i64 (q+1)]):=u1.get hX2 hlk
  have hwq:(Lit.int .i64 q).wf=true∧(Lit.int .i64 (q+1)).wf=true:=⟨wf_mk (by omega) (by omega),wf_mk (by omega) (by omega)⟩
  have huX:UpdG X X' (fun j=>j=l∨j ∈ K):=(hu2.trans u1).weak (fun j hj=>by
    rcases hj with hj | hj
    · left; simpa using hj
    · exact .inr hj)
  have hown:=hre X' [.int .i64 q,.int .i64 (q+1),.slice ua (List.length (α:=UInt8) xs[i].2.2) uc] (gm_BlkE q xs[i]) huX (by rw [hX'l,hsp3,hp]; rfl) rfl (mkown_g_Block (x:=gm_BlkE q xs[i]) hwq.1 hwq.2 o1)
  rw [hgm] at hown
  refine ⟨(),X',⟨?_,hown⟩,?_⟩
  · exact (hu.trans huX).weak (fun j hj=>by
      rcases hj with hj | hj | hj
      · exact hj
      · subst hj; exact hlL
      · exact hKL j hj)
  · have f1:IntKind.i64.wrap (q+1)=q+1:=wrap_i64 (by omega) (by omega)
    have f2:IntKind.i64.wrap (q+1+1)=q+2:=by rw [wrap_i64 (by omega) (by omega)]; omega
    have f3:q+gt_ByteS xs[i].2.2+2=q+2+gt_ByteS xs[i].2.2:=by omega
    rw [hp] at v1 v2 hrd e1
    rw [S_laws_markBlockS_0]; unfold B_laws_markBlockS_0; simp [apA,hi,v1,v2,hrd,e1,e6,f1,f2]
set_option maxHeartbeats 4000000 in
theorem k_laws_markOram:MarkF T0 ty_Oram F_laws_markOram gm_Oram gt_Oram:=by
  intro M cs x L k h hnd hb hk hk2
  have hwhole:=h
  obtain ⟨u0,u1,u2,L0,L1,L2,rfl,w0,w1,w2,w3,r0,r1,r2,rfl⟩:=own_g_Oram h
  have t0:=tot_Mem _ hb.2.2.2.1
  have t1:=tot_BlockS _ hb.2.2.2.2
  unfold gt_Oram at hk2 ⊢
  have hlt:=own_lt hwhole
  have hp0:M <+: M++[(⟨[.int .i64 x.1,.int .i64 x.2.1,.int .i64 x.2.2.1,.int .i64 x.2.2.2.1.1,u0,u1,u2],1,2⟩:Blk)]:=List.prefix_append _ _
  have b0:(M++[(⟨[.int .i64 x.1,.int .i64 x.2.1,.int .i64 x.2.2.1,.int .i64 x.2.2.2.1.1,u0,u1,u2],1,2⟩:Blk)])[M.length]?=some ⟨[.int .i64 x.1,.int .i64 x.2.1,.int .i64 x.2.2.1,.int .i64 x.2.2.2.1.1,u0,u1,u2],1,2⟩:=by simp
  have o0_0:=r0.grow hp0
  have o0_1:=r1.grow hp0
  have o0_2:=r2.grow hp0
  have hnd2:=hnd
  simp only [List.nodup_append,List.mem_append] at hnd2
  have i0:=one_head r0.rep.one
  have i1:=one_head r1.rep.one
  have i2:=one_head r2.rep.one
  obtain ⟨N0,e0,up0,ow0⟩:=k_laws_markMem (M++[(⟨[.int .i64 x.1,.int .i64 x.2.1,.int .i64 x.2.2.1,.int .i64 x.2.2.2.1.1,u0,u1,u2],1,2⟩:Blk)]) _ _ _ (k) (mkown_g_Mem w3 o0_0 o0_1) (by have:=hnd; simp only [List.nodup_append,List.mem_append] at this ⊢; simp_all) hb.2.2.2.1 (by omega) (by omega)
  have b1:N0[M.length]?=some ⟨[.int .i64 x.1,.int .i64 x.2.1,.int .i64 x.2.2.1,.int .i64 x.2.2.2.1.1,u0,u1,u2],1,2⟩:=up0.get b0 (fun hm=>by have:=hlt M.length (by simp only [List.mem_append] at hm ⊢; simp [hm]); omega)
  have o1_2:=Own.updg up0 o0_2 (fun l hl hm=>by have:=hnd; simp only [List.nodup_append,List.mem_append] at this hm; grind)
  obtain ⟨y0_0,y0_1,LL0_0,LL0_1,ey0,_,oo0_0,oo0_1,eL0⟩:=own_g_Mem ow0
  simp only [gm_Mem,List.cons.injEq,and_true,true_and] at ey0
  obtain ⟨rfl,rfl⟩:=ey0
  have o1_0:=oo0_0
  have o1_1:=oo0_1
  obtain ⟨N1,e1,up1,ow1⟩:=k_laws_markBlockS N0 _ _ _ (k+gt_Mem x.2.2.2.1) o1_2 (by have:=hnd; simp only [List.nodup_append] at this; simp [this]) hb.2.2.2.2 (by omega) (by omega)
  have b2:N1[M.length]?=some ⟨[.int .i64 x.1,.int .i64 x.2.1,.int .i64 x.2.2.1,.int .i64 x.2.2.2.1.1,u0,u1,u2],1,2⟩:=up1.get b1 (fun hm=>by have:=hlt M.length (by simp only [List.mem_append] at hm ⊢; simp [hm]); omega)
  have o2_0:=Own.updg up1 o1_0 (fun l hl hm=>by have:=hnd; simp only [List.nodup_append,List.mem_append] at this hm; grind)
  have o2_1:=Own.updg up1 o1_1 (fun l hl hm=>by have:=hnd; simp only [List.nodup_append,List.mem_append] at this hm; grind)
  have o2_2:=ow1
  have uu:UpdG M N1 (· ∈ L0++L1++L2):=by
    refine (UpdG.weak ((UpdG.trans up0 up1).grow hp0) fun l hl=>?_)
    simp only [List.mem_append]
    grind
  have oo:=mkown_g_Oram (x:=gm_Oram k x) w0 w1 w2 w3 o2_0 o2_1 o2_2
  have eL:LL0_0++LL0_1++L2=L0++L1++L2:=by
    have e1:LL0_0++LL0_1++L2=(LL0_0++LL0_1)++L2:=by simp only [List.append_assoc]
    rw [e1,← eL0]
    (try simp only [List.append_assoc])
  rw [eL] at oo
  obtain ⟨N,g1,g2,g3⟩:=gc_num uu hwhole oo (k+(gt_Mem x.2.2.2.1+gt_BlockS x.2.2.2.2))
  refine ⟨N,?_,g2,g3⟩
  have hadd:k+gt_Mem x.2.2.2.1+gt_BlockS x.2.2.2.2=k+(gt_Mem x.2.2.2.1+gt_BlockS x.2.2.2.2):=by omega
  rw [← hadd] at g1 ⊢
  rw [aCall_eq T_laws_markOram]; unfold A_laws_markOram C_laws_markOram; simp [apA,i0,i1,i2,e0,b1,e1,b2,g1,rd1_K,rdJ_ok,rdn_K,rnJ_ok,wrn_K,wrJ_ok]
theorem marksI_len (k:Int) (n:Nat):(marksI k n).length=n:=by simp [marksI]
theorem marksI_get (k:Int) (n i:Nat) (hi:i < (marksI k n).length):(marksI k n)[i]=k+i:=by simp [marksI]
def markB (blk:Blk) (o:Nat) (k:Int) (i:Nat):Blk:={ blk with cells:=splice blk.cells o ((marksI k i).map fun n=>.int .i64 n) }
theorem marksI_succ (k:Int) (n:Nat):marksI k (n+1)=marksI k n++[k+n]:=by simp [marksI,List.range_succ]
theorem wrn_mark (M:Mem) (l o:Nat) (blk:Blk) (hb:M[l]?=some blk) (h2:blk.st=2) (k:Int) (n i:Nat) (ho:o+n≤blk.cells.length) (hi:i < n):wrn (M.set l (markB blk o k i)) l (o+i) [.int .i64 (k+i)]=some (M.set l (markB blk o k (i+1))):=by
  have hl:=(List.getElem?_eq_some_iff.1 hb).1
  have e0:(M.set l (markB blk o k i))[l]?=some (markB blk o k i):=by simp [hl]
  have e1:((marksI k i).map fun n=>Value.int .i64 n).length=i:=by simp [marksI_len]
  unfold wrn
  rw [e0]
  simp only
  have e2:(markB blk o k i).cells.length=blk.cells.length:=splice_len _ _ _ (by rw [e1]; omega)
  rw [if_pos ⟨h2,by rw [e2]; simp; omega,rfl⟩,List.set_set]
  congr 2
  unfold markB
  simp only
  congr 1
  have:=splice_snoc blk.cells ((marksI k i).map fun n=>Value.int .i64 n) o (.int .i64 (k+i)) (by rw [e1]; omega)
  rw [e1] at this
  rw [this,marksI_succ]
  simp
theorem r_laws_markIntS (M:Mem) (l o n c:Nat) (blk:Blk) (hb:M[l]?=some blk) (h2:blk.st=2) (k:Int) (hk:0≤k) (hk2:k+n≤4611686018427387904) (ho:o+n≤blk.cells.length) (i:Nat) (hi:i < n) :
    lp (aCall T0) K_laws_markIntS_0 L_laws_markIntS_0 [.slice (some ⟨l,o,none⟩) n c,.int .i64 (k+i),O,O,O,.int .i64 i,O,O,O,O,O,O,O,O,O,O,O,O,O] (M.set l (markB blk o k i)) =
    lp (aCall T0) K_laws_markIntS_0 L_laws_markIntS_0 [.slice (some ⟨l,o,none⟩) n c,.int .i64 (k+(i+1:Nat)),O,O,O,.int .i64 (i+1:Nat),O,O,O,O,O,O,O,O,O,O,O,O,O] (M.set l (markB blk o k (i+1))):=by
  have e1:=wrn_mark M l o blk hb h2 k n i ho hi
  have e6:IntKind.i64.wrap ((i:Int)+1)=i+1:=wrap_i64 (by omega) (by omega)
  have e7:IntKind.i64.wrap (k+(i:Int)+1)=k+(i+1):=by rw [wrap_i64 (by omega) (by omega)]; omega
  rw [S_laws_markIntS_0]; unfold B_laws_markIntS_0; simp [e1,e6,e7,hi]
theorem own_mark {M:Mem} {v:V} {xs:List ty_Int.D} {L:List Nat} (h:Own (.sl ty_Int) M [v] xs L):(xs=[]∧L=[]∧Rep (.sl ty_Int) M [v] [])∨∃ l o c blk,xs ≠ []∧v=.slice (some ⟨l,o,none⟩) xs.length c∧M[l]?=some blk∧blk.st=2∧blk.w=1∧o+xs.length≤blk.cells.length∧L=[l]:=by
  rcases h with ⟨rfl,hL,hr⟩ | ⟨l,o,c,blk,css,Ls,hne,e,hb,h2,hw,hc,hLs,hel,hp,rfl⟩
  · exact .inl ⟨rfl,hL,hr⟩
  · right
    simp only [List.cons.injEq,and_true] at e
    refine ⟨l,o,c,blk,hne,e,hb,h2,hw,?_,?_⟩
    · have hone:∀ cs ∈ css,cs.length=1:=by
        intro cs hcs
        obtain ⟨i,hi,rfl⟩:=List.getElem_of_mem hcs
        have:=(hel i css[i] (xs[i]'(by omega)) (Ls[i]'(by omega)) (by simp) (by simp) (by simp)).1.1
        rw [this]; rfl
      have:=flat_len hone
      have hl:=hp.length_le
      rw [this,List.length_drop] at hl
      have h0:=List.length_pos_iff.2 hne
      omega
    · have:Ls.flatten=[]:=by
        rw [List.flatten_eq_nil_iff]
        intro K hK
        obtain ⟨i,hi,rfl⟩:=List.getElem_of_mem hK
        exact (hel i (css[i]'(by omega)) (xs[i]'(by omega)) Ls[i] (by simp) (by simp) (by simp)).2
      rw [this]
theorem c_laws_markIntS (M:Mem) (v:V) (xs:List ty_Int.D) (L:List Nat) (h:Own (.sl ty_Int) M [v] xs L) (k:Int) (hk:0≤k) (hk2:k+xs.length≤4611686018427387904) :
    ∃ M',aCall T0 F_laws_markIntS [v,.int .i64 k] M=some (.int .i64 (k+xs.length),M')∧Upd M M' (· ∈ L)∧Own (.sl ty_Int) M' [v] (marksI k xs.length) L:=by
  rcases own_mark h with ⟨rfl,rfl,hr⟩ | ⟨l,o,c,blk,hx,rfl,hb,h2,hw,ho,rfl⟩
  · refine ⟨M,?_,⟨rfl,fun _ _=>rfl,fun l b hb=>⟨b,hb,rfl⟩⟩,.inl ⟨rfl,rfl,hr⟩⟩
    obtain ⟨a,c,rfl⟩:=hr.slen
    rw [aCall_eq T_laws_markIntS]; unfold A_laws_markIntS C_laws_markIntS; simp
    rw [S_laws_markIntS_0]; unfold B_laws_markIntS_0; simp
  · have hl:=chain (g:=fun i:Nat=>lp (aCall T0) K_laws_markIntS_0 L_laws_markIntS_0 [.slice (some ⟨l,o,none⟩) xs.length c,.int .i64 (k+i),O,O,O,.int .i64 i,O,O,O,O,O,O,O,O,O,O,O,O,O] (M.set l (markB blk o k i))) (n:=xs.length) fun i hi=>r_laws_markIntS M l o xs.length c blk hb h2 k hk hk2 ho i hi
    have e0:M.set l (markB blk o k 0)=M:=by
      have:markB blk o k 0=blk:=by simp [markB,marksI,splice]
      rw [this]
      exact List.ext_getElem? fun j=>by
        rw [List.getElem?_set]
        split
        · rename_i e; subst e; split
          · exact hb.symm
          · rename_i hlt; rw [List.getElem?_eq_none (by omega)]
        · rfl
    simp only [Int.natCast_zero,Int.ofNat_zero,e0,Int.add_zero] at hl
    have hlt:=(List.getElem?_eq_some_iff.1 hb).1
    refine ⟨M.set l (markB blk o k xs.length),?_,⟨by simp,fun j hj=>?_,fun j b' hj=>?_⟩,?_⟩
    · rw [aCall_eq T_laws_markIntS]; unfold A_laws_markIntS C_laws_markIntS; simp [hl]
      rw [S_laws_markIntS_0]; unfold B_laws_markIntS_0; simp
      exact gc_len (by simp)
    · rw [List.getElem?_set_ne (fun e=>hj (by simp [e]))]
    · by_cases e:l=j
      · subst e
        rw [hb] at hj
        cases hj
        exact ⟨markB blk o k xs.length,by simp [hlt],rfl⟩
      · exact ⟨b',by rw [List.getElem?_set_ne e,hj],rfl⟩
    · refine .inr ⟨l,o,c,markB blk o k xs.length,(marksI k xs.length).map enc_Int,(marksI k xs.length).map (fun _=>[]),?_,?_,?_,h2,hw,?_,?_,?_,?_,?_⟩
      · intro e; have:=congrArg List.length e; rw [marksI_len] at this; exact hx (List.length_eq_zero_iff.1 this)
      · rw [marksI_len]
      · simp [hlt]
      · simp
      · simp
      · intro i ds x K h1 h2 h3
        rw [List.getElem?_map,h2] at h1
        rw [List.getElem?_map,h2] at h3
        simp only [Option.map_some,Option.some.injEq] at h1 h3
        subst h1; subst h3
        obtain ⟨hi,rfl⟩:=List.getElem?_eq_some_iff.1 h2
        rw [marksI_get]
        have hi2:i < xs.length:=by rw [marksI_len] at hi; exact hi
        exact ⟨⟨rfl,by simp [Lit.wf,IntKind.min,IntKind.max,IntKind.signed,IntKind.bits]; omega⟩,rfl⟩
      · rw [flat_Int]
        unfold markB splice
        simp only
        rw [List.append_assoc,List.drop_append,List.drop_eq_nil_of_le (by simp; omega)]
        have:o - (List.take o blk.cells).length=0:=by simp; omega
        rw [this]
        exact List.prefix_append _ _
      · have:((marksI k xs.length).map (fun _=>([]:List Nat))).flatten=[]:=by
          rw [List.flatten_eq_nil_iff]
          intro K hK
          obtain ⟨_,_,rfl⟩:=List.mem_map.1 hK
          rfl
        rw [this]
theorem d_laws_markIntS (M:Mem) (v:V) (xs:List Int) (L:List Nat) (h:Own (.sl ty_Int) M [v] xs L) (k:Int) (hk:0 < k) (hk2:k+xs.length≤4611686018427387904) :
    ∃ M',aCall T0 F_laws_markIntS [v,.int .i64 k] M=some (.int .i64 (k+xs.length),M')∧UpdG M M' (· ∈ L)∧Own (.sl ty_Int) M' [v] (marksI k xs.length) L:=by
  obtain ⟨M',e,u,o⟩:=c_laws_markIntS M v xs L h k (by omega) hk2
  exact ⟨M',e,Upd.g u,o⟩
theorem k_laws_markIntS:MarkS T0 ty_Int F_laws_markIntS gm_IntS gt_IntS:=fun M v xs L k h _ hb hk hk2=>d_laws_markIntS M v xs L h k hk hk2
set_option maxHeartbeats 4000000 in
theorem k_laws_markDeep:MarkF T0 ty_Deep F_laws_markDeep gm_Deep gt_Deep:=by
  intro M cs x L k h hnd hb hk hk2
  have hwhole:=h
  obtain ⟨u0,u1,u2,u3,u4,u5,u6,L0,L1,L2,L3,L4,L5,L6,rfl,w0,w1,w2,w3,w4,w5,w6,w7,w8,r0,r1,r2,r3,r4,r5,r6,rfl⟩:=own_g_Deep h
  have t0:=tot_IntS _ hb.2.1
  have t1:=tot_Oram _ hb.2.2.1
  have t2:=tot_Oram _ hb.2.2.2
  unfold gt_Deep at hk2 ⊢
  have hlt:=own_lt hwhole
  have hp0:M <+: M++[(⟨[.int .i64 x.1,u0,.int .i64 x.2.2.1.1,.int .i64 x.2.2.1.2.1,.int .i64 x.2.2.1.2.2.1,.int .i64 x.2.2.1.2.2.2.1.1,u1,u2,u3,.int .i64 x.2.2.2.1,.int .i64 x.2.2.2.2.1,.int .i64 x.2.2.2.2.2.1,.int .i64 x.2.2.2.2.2.2.1.1,u4,u5,u6],1,2⟩:Blk)]:=List.prefix_append _ _
  have b0:(M++[(⟨[.int .i64 x.1,u0,.int .i64 x.2.2.1.1,.int .i64 x.2.2.1.2.1,.int .i64 x.2.2.1.2.2.1,.int .i64 x.2.2.1.2.2.2.1.1,u1,u2,u3,.int .i64 x.2.2.2.1,.int .i64 x.2.2.2.2.1,.int .i64 x.2.2.2.2.2.1,.int .i64 x.2.2.2.2.2.2.1.1,u4,u5,u6],1,2⟩:Blk)])[M.length]?=some ⟨[.int .i64 x.1,u0,.int .i64 x.2.2.1.1,.int .i64 x.2.2.1.2.1,.int .i64 x.2.2.1.2.2.1,.int .i64 x.2.2.1.2.2.2.1.1,u1,u2,u3,.int .i64 x.2.2.2.1,.int .i64 x.2.2.2.2.1,.int .i64 x.2.2.2.2.2.1,.int .i64 x.2.2.2.2.2.2.1.1,u4,u5,u6],1,2⟩:=by simp
  have o0_0:=r0.grow hp0
  have o0_1:=r1.grow hp0
  have o0_2:=r2.grow hp0
  have o0_3:=r3.grow hp0
  have o0_4:=r4.grow hp0
  have o0_5:=r5.grow hp0
  have o0_6:=r6.grow hp0
  have n0:=hnd
  rw [show L0++L1++L2++L3++L4++L5++L6=L0++((L1++L2++L3)++(L4++L5++L6)) by simp only [List.append_assoc]] at n0
  have n1:=(List.nodup_append.1 (List.nodup_append.1 n0).2.1).1
  have n2:=(List.nodup_append.1 (List.nodup_append.1 n0).2.1).2.1
  have hnd2:=hnd
  simp only [List.nodup_append,List.mem_append] at hnd2
  have i0:=one_head r0.rep.one
  have i1:=one_head r1.rep.one
  have i2:=one_head r2.rep.one
  have i3:=one_head r3.rep.one
  have i4:=one_head r4.rep.one
  have i5:=one_head r5.rep.one
  have i6:=one_head r6.rep.one
  obtain ⟨N0,e0,up0,ow0⟩:=k_laws_markIntS (M++[(⟨[.int .i64 x.1,u0,.int .i64 x.2.2.1.1,.int .i64 x.2.2.1.2.1,.int .i64 x.2.2.1.2.2.1,.int .i64 x.2.2.1.2.2.2.1.1,u1,u2,u3,.int .i64 x.2.2.2.1,.int .i64 x.2.2.2.2.1,.int .i64 x.2.2.2.2.2.1,.int .i64 x.2.2.2.2.2.2.1.1,u4,u5,u6],1,2⟩:Blk)]) _ _ _ (k) o0_0 (by have:=hnd; simp only [List.nodup_append] at this; simp [this]) hb.2.1 (by omega) (by omega)
  have b1:N0[M.length]?=some ⟨[.int .i64 x.1,u0,.int .i64 x.2.2.1.1,.int .i64 x.2.2.1.2.1,.int .i64 x.2.2.1.2.2.1,.int .i64 x.2.2.1.2.2.2.1.1,u1,u2,u3,.int .i64 x.2.2.2.1,.int .i64 x.2.2.2.2.1,.int .i64 x.2.2.2.2.2.1,.int .i64 x.2.2.2.2.2.2.1.1,u4,u5,u6],1,2⟩:=up0.get b0 (fun hm=>by have:=hlt M.length (by simp only [List.mem_append] at hm ⊢; grind); omega)
  have o1_1:=Own.updg up0 o0_1 (fun l hl hm=>by have:=hnd; simp only [List.nodup_append,List.mem_append] at this hm; grind)
  have o1_2:=Own.updg up0 o0_2 (fun l hl hm=>by have:=hnd; simp only [List.nodup_append,List.mem_append] at this hm; grind)
  have o1_3:=Own.updg up0 o0_3 (fun l hl hm=>by have:=hnd; simp only [List.nodup_append,List.mem_append] at this hm; grind)
  have o1_4:=Own.updg up0 o0_4 (fun l hl hm=>by have:=hnd; simp only [List.nodup_append,List.mem_append] at this hm; grind)
  have o1_5:=Own.updg up0 o0_5 (fun l hl hm=>by have:=hnd; simp only [List.nodup_append,List.mem_append] at this hm; grind)
  have o1_6:=Own.updg up0 o0_6 (fun l hl hm=>by have:=hnd; simp only [List.nodup_append,List.mem_append] at this hm; grind)
  have o1_0:=ow0
  obtain ⟨N1,e1,up1,ow1⟩:=k_laws_markOram N0 _ _ _ (k+gt_IntS x.2.1) (mkown_g_Oram w1 w2 w3 w4 o1_1 o1_2 o1_3) n1 hb.2.2.1 (by omega) (by omega)
  have b2:N1[M.length]?=some ⟨[.int .i64 x.1,u0,.int .i64 x.2.2.1.1,.int .i64 x.2.2.1.2.1,.int .i64 x.2.2.1.2.2.1,.int .i64 x.2.2.1.2.2.2.1.1,u1,u2,u3,.int .i64 x.2.2.2.1,.int .i64 x.2.2.2.2.1,.int .i64 x.2.2.2.2.2.1,.int .i64 x.2.2.2.2.2.2.1.1,u4,u5,u6],1,2⟩:=up1.get b1 (fun hm=>by have:=hlt M.length (by simp only [List.mem_append] at hm ⊢; grind); omega)
  have o2_0:=Own.updg up1 o1_0 (fun l hl hm=>by have:=hnd; simp only [List.nodup_append,List.mem_append] at this hm; grind)
  have o2_4:=Own.updg up1 o1_4 (fun l hl hm=>by have:=hnd; simp only [List.nodup_append,List.mem_append] at this hm; grind)
  have o2_5:=Own.updg up1 o1_5 (fun l hl hm=>by have:=hnd; simp only [List.nodup_append,List.mem_append] at this hm; grind)
  have o2_6:=Own.updg up1 o1_6 (fun l hl hm=>by have:=hnd; simp only [List.nodup_append,List.mem_append] at this hm; grind)
  obtain ⟨y1_1,y1_2,y1_3,LL1_1,LL1_2,LL1_3,ey1,_,_,_,_,oo1_1,oo1_2,oo1_3,eL1⟩:=own_g_Oram ow1
  simp only [gm_Oram,gm_Mem,List.cons.injEq,and_true,true_and] at ey1
  obtain ⟨rfl,rfl,rfl⟩:=ey1
  have o2_1:=oo1_1
  have o2_2:=oo1_2
  have o2_3:=oo1_3
  obtain ⟨N2,e2,up2,ow2⟩:=k_laws_markOram N1 _ _ _ (k+gt_IntS x.2.1+gt_Oram x.2.2.1) (mkown_g_Oram w5 w6 w7 w8 o2_4 o2_5 o2_6) n2 hb.2.2.2 (by omega) (by omega)
  have b3:N2[M.length]?=some ⟨[.int .i64 x.1,u0,.int .i64 x.2.2.1.1,.int .i64 x.2.2.1.2.1,.int .i64 x.2.2.1.2.2.1,.int .i64 x.2.2.1.2.2.2.1.1,u1,u2,u3,.int .i64 x.2.2.2.1,.int .i64 x.2.2.2.2.1,.int .i64 x.2.2.2.2.2.1,.int .i64 x.2.2.2.2.2.2.1.1,u4,u5,u6],1,2⟩:=up2.get b2 (fun hm=>by have:=hlt M.length (by simp only [List.mem_append] at hm ⊢; grind); omega)
  have o3_0:=Own.updg up2 o2_0 (fun l hl hm=>by have:=hnd; simp only [List.nodup_append,List.mem_append] at this hm; grind)
  have o3_1:=Own.updg up2 o2_1 (fun l hl hm=>by have:=hnd; simp only [List.nodup_append,List.mem_append] at this hm; grind)
  have o3_2:=Own.updg up2 o2_2 (fun l hl hm=>by have:=hnd; simp only [List.nodup_append,List.mem_append] at this hm; grind)
  have o3_3:=Own.updg up2 o2_3 (fun l hl hm=>by have:=hnd; simp only [List.nodup_append,List.mem_append] at this hm; grind)
  obtain ⟨y2_4,y2_5,y2_6,LL2_4,LL2_5,LL2_6,ey2,_,_,_,_,oo2_4,oo2_5,oo2_6,eL2⟩:=own_g_Oram ow2
  simp only [gm_Oram,gm_Mem,List.cons.injEq,and_true,true_and] at ey2
  obtain ⟨rfl,rfl,rfl⟩:=ey2
  have o3_4:=oo2_4
  have o3_5:=oo2_5
  have o3_6:=oo2_6
  have uu:UpdG M N2 (· ∈ L0++L1++L2++L3++L4++L5++L6):=by
    refine (UpdG.weak ((UpdG.trans (UpdG.trans up0 up1) up2).grow hp0) fun l hl=>?_)
    simp only [List.mem_append]
    grind
  have oo:=mkown_g_Deep (x:=gm_Deep k x) w0 w1 w2 w3 w4 w5 w6 w7 w8 o3_0 o3_1 o3_2 o3_3 o3_4 o3_5 o3_6
  have eL:L0++LL1_1++LL1_2++LL1_3++LL2_4++LL2_5++LL2_6=L0++L1++L2++L3++L4++L5++L6:=by
    have e1:L0++LL1_1++LL1_2++LL1_3++LL2_4++LL2_5++LL2_6=L0++(LL1_1++LL1_2++LL1_3)++(LL2_4++LL2_5++LL2_6):=by simp only [List.append_assoc]
    rw [e1,← eL1,← eL2]
    (try simp only [List.append_assoc])
  rw [eL] at oo
  obtain ⟨N,g1,g2,g3⟩:=gc_num uu hwhole oo (k+(gt_IntS x.2.1+gt_Oram x.2.2.1+gt_Oram x.2.2.2))
  refine ⟨N,?_,g2,g3⟩
  have hadd:k+gt_IntS x.2.1+gt_Oram x.2.2.1+gt_Oram x.2.2.2=k+(gt_IntS x.2.1+gt_Oram x.2.2.1+gt_Oram x.2.2.2):=by omega
  rw [← hadd] at g1 ⊢
  rw [aCall_eq T_laws_markDeep]; unfold A_laws_markDeep C_laws_markDeep; simp [apA,i0,i1,i2,i3,i4,i5,i6,e0,b1,e1,b2,e2,b3,g1,rd1_K,rdJ_ok,rdn_K,rnJ_ok,wrn_K,wrJ_ok]
theorem heldB (M:Mem) (v:V) (k:Int) (n:Nat) (h:Rep (.sl ty_Int) M [v] (marksI k n)) (hk:0≤k) (hk2:k+n≤4611686018427387904):aCall T0 F_laws_heldIntS [v,.int .i64 k] M=some (.int .i64 (k+n),M):=by
  obtain ⟨a,c,rfl⟩:=h.slen
  have hlen:=marksI_len k n
  have hc:=chain (g:=fun i:Nat=>lp (aCall T0) K_laws_heldIntS_0 L_laws_heldIntS_0 [.slice a (marksI k n).length c,.int .i64 (k+i),O,O,O,.int .i64 i,O,O,O,O,O,O,O,O,O,O,O,O,O,O,O] M) (n:=n) fun i hi=>by
    obtain ⟨l,o,rfl,_,hrd⟩:=at_Int h (i:=i) (by omega)
    rw [marksI_get] at hrd
    have hi2:(i:Int) < (marksI k n).length:=by omega
    have e6:IntKind.i64.wrap ((i:Int)+1)=i+1:=wrap_i64 (by omega) (by omega)
    have e7:IntKind.i64.wrap (k+(i:Int)+1)=k+(i+1):=by rw [wrap_i64 (by omega) (by omega)]; omega
    rw [hlen] at hi2 ⊢
    rw [S_laws_heldIntS_0]; unfold B_laws_heldIntS_0; simp [hrd,hi2,hi,e6,e7]
  simp only [Int.natCast_zero,Int.ofNat_zero,Int.add_zero] at hc
  rw [hlen] at hc ⊢
  rw [aCall_eq T_laws_heldIntS]; unfold A_laws_heldIntS C_laws_heldIntS; simp [hc]
  rw [S_laws_heldIntS_0]; unfold B_laws_heldIntS_0; simp
theorem d_laws_heldIntS (M:Mem) (v:V) (k:Int) (n:Nat) (h:Rep (.sl ty_Int) M [v] (marksI k n)) (hk:0 < k) (hk2:k+n≤4611686018427387904):aCall T0 F_laws_heldIntS [v,.int .i64 k] M=some (.int .i64 (k+n),M):=heldB M v k n h (by omega) hk2
theorem k_laws_heldIntS:HeldS T0 ty_Int F_laws_heldIntS gm_IntS gt_IntS:=fun M v xs k h hb hk hk2=>d_laws_heldIntS M v k xs.length h hk hk2
theorem rdn_box {M:Mem} {l n:Nat} {cs:List V} (h:M[l]?=some ⟨cs,1,2⟩) (hn:n=cs.length):rdn M l 0 n=some cs:=by
  unfold rdn
  rw [h]
  simp [hn]
theorem gc_ex (M M':Mem) (v:V):∃ X,gc M (some (v,M'))=some (v,X):=by
  simp only [gc]
  split
  · exact ⟨_,rfl⟩
  · exact ⟨_,rfl⟩
def blkAt (w:Nat) (ys:List UInt8) (j:Nat):ty_Block.D:=(((ys.getD (j * (w+3)+1) 0).toNat:Int),((ys.getD (j * (w+3)+2) 0).toNat:Int),(ys.drop (j * (w+3)+3)).take w)
def nbF (w:Nat) (ys:List UInt8):Nat→Nat→Nat
  | 0,j=>j
  | k+1,j=>if ys.getD (j * (w+3)) 0=1 then nbF w ys k (j+1) else j
def nbC (w:Nat) (ys:List UInt8):Nat:=nbF w ys 4 0
def ndB (w:Nat) (ys:List UInt8):List ty_Block.D:=(List.range (nbC w ys)).map (blkAt w ys)
def lgB (l:Int):Bool:=decide (0≤l) && decide (l≤6)
def wdB (w:Int):Bool:=decide (1≤w) && decide (w≤200)
def leafB (l x:Int):Bool:=lgB l && (decide (0≤x) && decide (x < 2 ^ l.toNat))
def bidB (i:Int):Bool:=decide (0≤i) && decide (i≤255)
def blockB (l w:Int) (b:ty_Block.D):Bool:=(lgB l && wdB w) && (bidB b.1 && (leafB l b.2.1 && decide ((List.length (α:=UInt8) b.2.2:Int)=w)))
def stepB (l w:Int) (xs:List ty_Block.D) (i:Nat):Bool:=match xs[i]? with
  | some b=>blockB l w b && (i == 0 || match xs[i - 1]? with
    | some p=>decide (p.1 < b.1)
    | none=>true)
  | none=>true
def blocksB (l w:Int) (xs:List ty_Block.D):Bool:=(lgB l && wdB w) && (List.range xs.length).all (stepB l w xs)
def blkY (b:ty_Block.D):List UInt8:=1 :: UInt8.ofNat (Int.toNat b.1) :: UInt8.ofNat (Int.toNat b.2.1) :: b.2.2
def blksY (bs:List ty_Block.D):List UInt8:=bs.flatMap blkY
def ndY (w:Nat) (bs:List ty_Block.D):List UInt8:=blksY bs++List.replicate (4 * (w+3) - (blksY bs).length) 0
def ndOk (l w:Int) (ys:List UInt8):Bool:=(lgB l && wdB w) && (decide ((ys.length:Int)=4 * (w+3)) && (blocksB l w (ndB (Int.toNat w) ys) && decide (ndY (Int.toNat w) (ndB (Int.toNat w) ys)=ys)))
def hasId (id:Int) (xs:List ty_Block.D):Bool:=xs.any fun r=>decide (r.1=id)
def withoutL (id:Int) (xs:List ty_Block.D):List ty_Block.D:=xs.filter fun b=>decide (b.1 ≠ id)
def lbB (id:Int) (xs:List ty_Block.D):Nat:=(xs.takeWhile fun b=>decide (b.1 < id)).length
def insL (b:ty_Block.D) (ys:List ty_Block.D):List ty_Block.D:=ys.take (lbB b.1 ys)++b :: ys.drop (lbB b.1 ys)
def putL (b:ty_Block.D) (xs:List ty_Block.D):List ty_Block.D:=insL b (withoutL b.1 xs)
def blen (x:Nat):Nat:=if x=0 then 0 else Nat.log2 x+1
def onP (m node leaf:Nat):Bool:=decide ((2 ^ m+leaf) / 2 ^ (m - (blen node - 1))=node)
def inO (m nd:Nat) (all:List ty_Block.D):List ty_Block.D→Option (List ty_Block.D)
  | []=>some all
  | b :: bs=>if (onP m nd (Int.toNat b.2.1) && !(hasId b.1 all))=true then inO m nd (putL b all) bs else none
def outO (m:Nat) (w:Int):Nat→List ty_Cell.D→List ty_Block.D→Option (List ty_Block.D)
  | _,[],all=>some all
  | nd,c :: cs,all=>if ndOk m w c=true then (match inO m nd all (ndB (Int.toNat w) c) with
    | some a=>outO m w (nd+1) cs a
    | none=>none) else none
def stashB (l w:Int) (xs:List ty_Block.D):Bool:=decide (xs.length≤128) && blocksB l w xs
def bdB (b:Int):Bool:=decide (0≤b) && decide (b≤64)
def touch0 (sz n a b c:Int):Bool:=decide ((a=1∨a=2)∧0≤b∧b < n∧c=sz)
def touchB (m:ty_Mem.D) (t:ty_Touch.D):Bool:=touch0 m.1 (m.2.1.length:Int) t.1 t.2.1 t.2.2
def cellB (m:ty_Mem.D) (c:ty_Cell.D):Bool:=decide (((List.length (α:=UInt8) c:Nat):Int)=(m.1:Int))
def mem0 (sz:Int) (n k:Nat):Bool:=decide ((1≤sz∧sz≤1000)∧n≤128∧k≤6000)
def memB (m:ty_Mem.D):Bool:=mem0 m.1 m.2.1.length m.2.2.length && (m.2.1.all (cellB m) && m.2.2.all (touchB m))
def frO (l w b:Int) (m:ty_Mem.D) (st:List ty_Block.D):Bool:=lgB l && (wdB w && (bdB b && (memB m && (decide (m.2.1.length=2 * 2 ^ Int.toNat l - 1) && (decide ((m.1:Int)=4 * (w+3)) && (decide ((st.length:Int)≤b) && stashB l w st))))))
def orX (l w b:Int) (m:ty_Mem.D) (st:List ty_Block.D):Option (List ty_Block.D):=if frO l w b m st=true then outO (Int.toNat l) w 1 m.2.1 st else none
def orO (x:ty_Oram.D):Option (List ty_Block.D):=orX x.1 x.2.1 x.2.2.1 x.2.2.2.1 x.2.2.2.2
def dlB (l:Int):Bool:=decide (2≤l) && decide (l≤6)
def dfB (d:ty_Deep.D):Bool:=dlB d.1 && (decide (d.2.1.length=2 ^ Int.toNat (d.1 - 2)) && (decide (d.2.2.1.1=d.1 - 2) && (decide (d.2.2.1.2.1=(4:Int)) && decide (d.2.2.2.1=d.1))))
def bytI (ys:List UInt8):List Int:=ys.map fun y=>(y.toNat:Int)
def posD (one:List ty_Block.D):List Int:=(one.map fun b=>bytI b.2.2).flatten
def dkB (l:Int) (tb:List Int) (one:List ty_Block.D) (k:Nat):Bool:=match one[k]? with
  | some b=>(decide (b.1=(k:Int)) && decide (b.2.1=tb.getD k 0)) && b.2.2.all fun y=>leafB l (y.toNat:Int)
  | none=>true
def kpB (pos:List Int) (b:ty_Block.D):Bool:=decide (b.1 < (pos.length:Int)) && decide (pos.getD (Int.toNat b.1) 0=b.2.1)
def dtB (d:ty_Deep.D) (one two:List ty_Block.D):Bool:=decide (one.length=d.2.1.length) && ((List.range one.length).all (dkB d.1 d.2.1 one) && two.all (kpB (posD one)))
def deepB (d:ty_Deep.D):Bool:=dfB d && (match orO d.2.2.1,orO d.2.2.2 with
  | some one,some two=>dtB d one two
  | _,_=>false)
def drB (x:Int):Bool:=decide (0≤x) && decide (x≤65535)
def drsB (k:Int) (ds:List Int):Bool:=decide ((ds.length:Int)=k) && ds.all drB
def powI (l:Int):Int:=((2 ^ Int.toNat l:Nat):Int)
def idqB (l x:Int):Bool:=decide (-1≤x) && decide (x < powI l)
def lvOk (d:ty_Deep.D) (ids ds:List Int):Bool:=deepB d && (decide (ids.length≤700) && (drsB (2 * (ids.length:Int)) ds && ids.all (idqB d.1)))
abbrev Lv4:Type:=List Int × List Int × List Int × List Int
def leafI (d l:Int):Int:=if drB d=true∧(0≤l∧l≤6) then ((d.toNat % 2 ^ l.toNat:Nat):Int) else -1
def lvX (l:Int) (ds:List Int) (i:Nat):Int:=leafI (ds.getD (2 * i) 0) (l - 2)
def lvY (l:Int) (ds:List Int) (i:Nat):Int:=leafI (ds.getD (2 * i+1) 0) l
def lvStep (l:Int) (ds:List Int) (i:Nat) (id:Int) (s:Lv4):Lv4:=if id < 0 then (s.1,s.2.1,s.2.2.1++[lvX l ds i],s.2.2.2++[lvY l ds i]) else (s.1.set (Int.toNat id / 4) (lvX l ds i),s.2.1.set (Int.toNat id) (lvY l ds i),s.2.2.1++[s.1.getD (Int.toNat id / 4) 0],s.2.2.2++[s.2.1.getD (Int.toNat id) 0])
def lvRun (l:Int) (ds ids:List Int) (s:Lv4):Nat→Lv4
  | 0=>s
  | i+1=>lvStep l ds i (ids.getD i 0) (lvRun l ds ids s i)
def lvF (d:ty_Deep.D) (ids ds:List Int):Lv4:=lvRun d.1 ds ids (d.2.1,posD ((orO d.2.2.1).getD []),[],[]) ids.length
def lvA (d:ty_Deep.D) (ids ds:List Int):List Int:=if lvOk d ids ds=true then (lvF d ids ds).2.2.1 else []
def lvB (d:ty_Deep.D) (ids ds:List Int):List Int:=if lvOk d ids ds=true then (lvF d ids ds).2.2.2 else []
theorem lvStep_len (l:Int) (ds:List Int) (i:Nat) (id:Int) (s:Lv4):(lvStep l ds i id s).1.length=s.1.length∧(lvStep l ds i id s).2.1.length=s.2.1.length∧(lvStep l ds i id s).2.2.1.length=s.2.2.1.length+1∧(lvStep l ds i id s).2.2.2.length=s.2.2.2.length+1:=by
  unfold lvStep
  split <;> simp
theorem lvRun_len (l:Int) (ds ids:List Int) (s:Lv4) (i:Nat):(lvRun l ds ids s i).1.length=s.1.length∧(lvRun l ds ids s i).2.1.length=s.2.1.length∧(lvRun l ds ids s i).2.2.1.length=s.2.2.1.length+i∧(lvRun l ds ids s i).2.2.2.length=s.2.2.2.length+i:=by
  induction i with
  | zero=>exact ⟨rfl,rfl,rfl,rfl⟩
  | succ i ih =>
    have:=lvStep_len l ds i (ids.getD i 0) (lvRun l ds ids s i)
    show (lvStep l ds i (ids.getD i 0) (lvRun l ds ids s i)).1.length=_∧_
    simp only [lvRun]
    omega
theorem lv_len (d:ty_Deep.D) (ids ds:List Int):(lvA d ids ds).length≤ids.length∧(lvB d ids ds).length≤ids.length:=by
  have h:=lvRun_len d.1 ds ids (d.2.1,posD ((orO d.2.2.1).getD []),[],[]) ids.length
  simp only [List.length_nil,Nat.zero_add] at h
  unfold lvA lvB lvF
  split
  · omega
  · simp
theorem lvA_bd (d:ty_Deep.D) (ids ds:List Int) (hb:Bd 1048576 (.sl ty_Int) ids):Bd 1048576 (.sl ty_Int) (lvA d ids ds):=⟨Nat.le_trans (lv_len d ids ds).1 hb.1,fun _ _=>trivial⟩
theorem lvB_bd (d:ty_Deep.D) (ids ds:List Int) (hb:Bd 1048576 (.sl ty_Int) ids):Bd 1048576 (.sl ty_Int) (lvB d ids ds):=⟨Nat.le_trans (lv_len d ids ds).2 hb.1,fun _ _=>trivial⟩
structure DpF (M:Mem) (cs:List V) (d:ty_Deep.D) (aT:Option Addr) (cT:Nat) (o1 o2:List V):Prop where
  c0:cs[0]?=some (.int .i64 d.1)
  c1:cs[1]?=some (.slice aT d.2.1.length cT)
  c2:cs[2]?=some (.int .i64 d.2.2.1.1)
  c3:cs[3]?=some (.int .i64 d.2.2.1.2.1)
  c9:cs[9]?=some (.int .i64 d.2.2.2.1)
  n1:(cs.drop 2).take 7=o1
  n2:(cs.drop 9).take 7=o2
  hl:cs.length=16
  rT:Rep (.sl ty_Int) M [.slice aT d.2.1.length cT] d.2.1
  r1:Rep ty_Oram M o1 d.2.2.1
  r2:Rep ty_Oram M o2 d.2.2.2
theorem deep_shape {M:Mem} {cs:List V} {d:ty_Deep.D} (h:Rep ty_Deep M cs d):∃ aT cT o1 o2,DpF M cs d aT cT o1 o2:=by
  obtain ⟨u0,u1,u2,u3,u4,u5,u6,rfl,w0,w1,w2,w3,w4,w5,w6,w7,w8,r0,r1,r2,r3,r4,r5,r6⟩:=rep_g_Deep h
  obtain ⟨a,c,rfl⟩:=r0.slen
  exact ⟨a,c,_,_,rfl,rfl,rfl,rfl,rfl,rfl,rfl,rfl,r0,mkrep_g_Oram w1 w2 w3 w4 r1 r2 r3,mkrep_g_Oram w5 w6 w7 w8 r4 r5 r6⟩
theorem rd1_bx {X:Mem} {p:Nat} {cs:List V} {u:V} {k:Nat} (hb:X[p]?=some ⟨cs,1,2⟩) (h:cs[k]?=some u):rd1 X p k=some u:=by
  unfold rd1
  rw [hb]
  exact h
theorem rdn_bx {X:Mem} {p:Nat} {cs us:List V} {k n:Nat} (hb:X[p]?=some ⟨cs,1,2⟩) (hl:k+n≤cs.length) (h:(cs.drop k).take n=us):rdn X p k n=some us:=by
  unfold rdn
  rw [hb]
  simp only
  rw [if_pos ⟨.inr trivial,hl⟩,h]
def BlkSz (xs:List ty_Block.D):Prop:=xs.length≤1048576∧∀ x ∈ xs,List.length (α:=UInt8) x.2.2≤1048576
theorem blkSz_of {xs:List ty_Block.D} (h:Bd 1048576 (.sl ty_Block) xs):BlkSz xs:=⟨h.1,fun x hx=>(h.2 x hx).2.2.1⟩
theorem oram_bd {x:ty_Oram.D} (h:Bd 1048576 ty_Oram x):BlkSz x.2.2.2.2∧x.2.2.2.1.2.1.length≤1048576∧∀ c ∈ x.2.2.2.1.2.1,List.length (α:=UInt8) c≤1048576:=⟨blkSz_of h.2.2.2.2,h.2.2.2.1.2.1.1,fun c hc=>(h.2.2.2.1.2.1.2 c hc).1⟩
theorem deep_bd {d:ty_Deep.D} (h:Bd 1048576 ty_Deep d):(BlkSz d.2.2.1.2.2.2.2∧d.2.2.1.2.2.2.1.2.1.length≤1048576∧∀ c ∈ d.2.2.1.2.2.2.1.2.1,List.length (α:=UInt8) c≤1048576)∧(BlkSz d.2.2.2.2.2.2.2∧d.2.2.2.2.2.2.1.2.1.length≤1048576∧∀ c ∈ d.2.2.2.2.2.2.1.2.1,List.length (α:=UInt8) c≤1048576)∧d.2.1.length≤1048576:=⟨oram_bd h.2.2.1,oram_bd h.2.2.2,h.2.1.1⟩
theorem c_spec_l16Log (M:Mem) (x:Int):aCall T0 F_spec_l16Log [.int .i64 x] M=some (.bool (decide (2≤x) && decide (x≤6)),M):=by
  rw [aCall_eq T_spec_l16Log]; unfold A_spec_l16Log C_spec_l16Log; simp
  repeat' ((first | rw [selO_some] | rw [condR_bool] | rw [selD_some]); split <;> rename_i hq <;> (have hq2:=hq) <;> (try simp at hq2) <;> (try simp [*]))
abbrev aO (l w b:Int) (sz:Int) (aC:Option Addr) (nC cC:Nat) (aT:Option Addr) (nT cT:Nat) (aS:Option Addr) (nS cS:Nat):List V:=[.int .i64 l,.int .i64 w,.int .i64 b,.int .i64 sz,.slice aC nC cC,.slice aT nT cT,.slice aS nS cS]
theorem oram_shape {M:Mem} {cs:List V} {x:ty_Oram.D} (h:Rep ty_Oram M cs x):∃ (aC:Option Addr) (cC:Nat) (aT:Option Addr) (cT:Nat) (aS:Option Addr) (cS:Nat),cs=aO x.1 x.2.1 x.2.2.1 x.2.2.2.1.1 aC x.2.2.2.1.2.1.length cC aT x.2.2.2.1.2.2.length cT aS x.2.2.2.2.length cS ∧
    Rep ty_Mem M [.int .i64 x.2.2.2.1.1,.slice aC x.2.2.2.1.2.1.length cC,.slice aT x.2.2.2.1.2.2.length cT] x.2.2.2.1∧Rep (.sl ty_Block) M [.slice aS x.2.2.2.2.length cS] x.2.2.2.2:=by
  obtain ⟨u0,u1,u2,rfl,w0,w1,w2,w3,r0,r1,r2⟩:=rep_g_Oram h
  obtain ⟨a,c,rfl⟩:=r0.slen
  obtain ⟨b,d,rfl⟩:=r1.slen
  obtain ⟨e,f,rfl⟩:=r2.slen
  exact ⟨a,c,b,d,e,f,rfl,mkrep_g_Mem w3 r0 r1,r2⟩
theorem log_nat {l:Int} (h:lgB l=true):∃ m:Nat,l=m∧m≤6:=by
  unfold lgB at h
  simp at h
  exact ⟨l.toNat,by omega,by omega⟩
def hs (h:Nat) (b:UInt8):Nat:=((h ^^^ b.toNat) * 16777619) % 4294967296
theorem rall_all {n:Nat} {p:Nat→Bool} (h:∀ i,i < n→p i=true):(List.range n).all p=true:=List.all_eq_true.2 fun i hi=>h i (List.mem_range.1 hi)
theorem rall_not {n:Nat} {p:Nat→Bool} (h:∃ i,i < n∧p i=false):(List.range n).all p=false:=by
  obtain ⟨i,hi,hp⟩:=h
  rw [List.all_eq_false]
  exact ⟨i,List.mem_range.2 hi,by rw [hp]; decide⟩
theorem at_Block {M:Mem} {a:Option Addr} {n c:Nat} {xs:List ty_Block.D} (h:Rep (.sl ty_Block) M [.slice a n c] xs) {i:Nat} (hi:i < xs.length):∃ l o u,a=some ⟨l,o,none⟩∧rd1 M l (o+i * 3)=some (.int .i64 xs[i].1)∧rd1 M l (o+i * 3+1)=some (.int .i64 xs[i].2.1)∧rd1 M l (o+i * 3+2)=some u∧rdn M l (o+i * 3) 3=some [.int .i64 xs[i].1,.int .i64 xs[i].2.1,u]∧(Lit.int .i64 xs[i].1).wf=true∧(Lit.int .i64 xs[i].2.1).wf=true∧Rep (.sl ty_Byte) M [u] xs[i].2.2∧Rep ty_Block M [.int .i64 xs[i].1,.int .i64 xs[i].2.1,u] xs[i]:=by
  obtain ⟨_,l,o,rfl,cs,hrd,hrep⟩:=rep_at h hi
  obtain ⟨u,rfl,w0,w1,hr⟩:=rep_g_Block hrep
  have hw:ty_Block.w=3:=rfl
  rw [hw] at hrd
  exact ⟨l,o,u,rfl,rd1_of_rdn hrd (k:=0) rfl,rd1_of_rdn hrd (k:=1) rfl,rd1_of_rdn hrd (k:=2) rfl,hrd,w0,w1,hr,hrep⟩
theorem pow2_le {n m:Nat} (h:n≤m):(2:Int) ^ n≤2 ^ m:=by
  have:=Nat.pow_le_pow_right (show 0 < 2 by omega) h
  exact_mod_cast this
theorem l_spec_l02Pow (M:Mem):∀ (n:Nat) (x:Int),0≤x→x * 2 ^ n≤4611686018427387904→n≤1000 →
    ∃ e0 e1 e2 e4 e5 e6 e7 e8 e9 e10,lp (aCall T0) K_spec_l02Pow_0 L_spec_l02Pow_0 [.int .i64 n,O,O,.int .i64 x,O,O,O,O,O,O,O] M=some (.exit 0,[e0,e1,e2,.int .i64 (x * 2 ^ n),e4,e5,e6,e7,e8,e9,e10],M)
  | 0,x,_,_,_=>by
    rw [S_spec_l02Pow_0]; unfold B_spec_l02Pow_0; simp
  | n+1,x,h0,h1,h2=>by
    have hp:(1:Int)≤2 ^ n:=by
      have:(0:Int) < 2 ^ n:=Int.pow_pos (by omega)
      omega
    have e:x * 2 ^ (n+1)=2 * x * 2 ^ n:=by rw [Int.pow_succ,← Int.mul_assoc,Int.mul_right_comm,Int.mul_comm x 2]
    rw [e] at h1
    have hx:2 * x≤2 * x * 2 ^ n:=by
      have:=Int.mul_le_mul_of_nonneg_left hp (show (0:Int)≤2 * x by omega)
      simpa using this
    have ih:=l_spec_l02Pow M n (2 * x) (by omega) h1 (by omega)
    rw [e]
    rw [S_spec_l02Pow_0]; unfold B_spec_l02Pow_0; simp
    rw [wrap_i64 (z:=2 * x) (by omega) (by omega),wrap_i64 (z:=n) (by omega) (by omega)]
    exact ih
theorem c_spec_l02Pow (M:Mem) (n:Nat) (h:n≤60):aCall T0 F_spec_l02Pow [.int .i64 n] M=some (.int .i64 (2 ^ n),M):=by
  obtain ⟨e0,e1,e2,e4,e5,e6,e7,e8,e9,e10,ih⟩:=l_spec_l02Pow M n 1 (by omega) (by
    have:(2:Int) ^ n≤2 ^ 60:=pow2_le h
    omega) (by omega)
  rw [aCall_eq T_spec_l02Pow]; unfold A_spec_l02Pow C_spec_l02Pow; simp [ih]
theorem c_spec_l11Log (M:Mem) (x:Int):aCall T0 F_spec_l11Log [.int .i64 x] M=some (.bool (decide (0≤x) && decide (x≤6)),M):=by
  rw [aCall_eq T_spec_l11Log]; unfold A_spec_l11Log C_spec_l11Log; simp
  repeat' ((first | rw [selO_some] | rw [condR_bool] | rw [selD_some]); split <;> rename_i hq <;> (have hq2:=hq) <;> (try simp at hq2) <;> (try simp [*]))
theorem c_spec_l11Leaf (M:Mem) (l x:Int):aCall T0 F_spec_l11Leaf [.int .i64 l,.int .i64 x] M=some (.bool (leafB l x),M):=by
  unfold leafB
  cases h:lgB l with
  | false =>
    have e:(decide (0≤l) && decide (l≤6))=false:=h
    rw [aCall_eq T_spec_l11Leaf]; unfold A_spec_l11Leaf C_spec_l11Leaf; simp [c_spec_l11Log,e]
  | true =>
    have e:(decide (0≤l) && decide (l≤6))=true:=h
    obtain ⟨m,rfl,hm⟩:=log_nat h
    have e2:=fun M=>(c_spec_l11Log M m).trans (by rw [e])
    have e3:=fun M=>c_spec_l02Pow M m (by omega)
    by_cases h1:0≤x
    · rw [aCall_eq T_spec_l11Leaf]; unfold A_spec_l11Leaf C_spec_l11Leaf; simp [e2,e3,h1]
    · rw [aCall_eq T_spec_l11Leaf]; unfold A_spec_l11Leaf C_spec_l11Leaf; simp [e2,e3,h1]
theorem c_spec_l12Frame (M:Mem) (l w:Int):aCall T0 F_spec_l12Frame [.int .i64 l,.int .i64 w] M=some (.bool (decide (0≤l) && decide (l≤6) && (decide (1≤w) && decide (w≤200))),M):=by
  rw [aCall_eq T_spec_l12Frame]; unfold A_spec_l12Frame C_spec_l12Frame; simp [c_spec_l11Log]
  rcases hp:(decide (0≤l) && decide (l≤6)) with _ | _
  · simp [hp]
  · simp [hp]
    by_cases h1:1≤w <;> simp [h1]
theorem c_spec_BlockOk (M:Mem) (cs:List V) (b:ty_Block.D) (h:Rep ty_Block M cs b) (l w:Int):aCall T0 F_spec_BlockOk [.agg cs.toArray,.int .i64 l,.int .i64 w] M=some (.bool (blockB l w b),M):=by
  obtain ⟨u,rfl,w0,w1,hr⟩:=rep_g_Block h
  obtain ⟨a,c,rfl⟩:=hr.slen
  unfold blockB
  have e1:=fun M=>c_spec_l12Frame M l w
  have e2:=fun M=>c_spec_l11Leaf M l b.2.1
  cases h1:lgB l && wdB w with
  | false =>
    have h1:(decide (0≤l) && decide (l≤6) && (decide (1≤w) && decide (w≤200)))=false:=h1
    rw [aCall_eq T_spec_BlockOk]; unfold A_spec_BlockOk C_spec_BlockOk; simp [e1,h1]
  | true =>
    have h1:(decide (0≤l) && decide (l≤6) && (decide (1≤w) && decide (w≤200)))=true:=h1
    unfold bidB
    by_cases h2:0≤b.1
    · by_cases h3:b.1≤255
      · cases h4:leafB l b.2.1
        · rw [aCall_eq T_spec_BlockOk]; unfold A_spec_BlockOk C_spec_BlockOk; simp [e1,h1,h2,h3,e2,h4]
        · rw [aCall_eq T_spec_BlockOk]; unfold A_spec_BlockOk C_spec_BlockOk; simp [e1,h1,h2,h3,e2,h4]
      · rw [aCall_eq T_spec_BlockOk]; unfold A_spec_BlockOk C_spec_BlockOk; simp [e1,h1,h2,h3,e2]
    · rw [aCall_eq T_spec_BlockOk]; unfold A_spec_BlockOk C_spec_BlockOk; simp [e1,h1,h2,e2]
theorem stepB_zero {l w:Int} {xs:List ty_Block.D} (h:0 < xs.length):stepB l w xs 0=blockB l w xs[0]:=by
  unfold stepB
  rw [List.getElem?_eq_getElem h]
  simp
theorem stepB_pos {l w:Int} {xs:List ty_Block.D} {i:Nat} (h:i < xs.length) (h0:0 < i):stepB l w xs i=(blockB l w xs[i] && decide ((xs[i - 1]'(by omega)).1 < xs[i].1)):=by
  unfold stepB
  rw [List.getElem?_eq_getElem h,List.getElem?_eq_getElem (by omega)]
  have:(i == 0)=false:=by simp; omega
  simp [this]
theorem l_spec_BlocksOk_0 (M:Mem) (a:Option Addr) (c:Nat) (xs:List ty_Block.D) (l w:Int) (h:Rep (.sl ty_Block) M [.slice a xs.length c] xs) (hn:xs.length≤1048576) :
    ((∀ i,i < xs.length→stepB l w xs i=true)∧lp (aCall T0) K_spec_BlocksOk_0 L_spec_BlocksOk_0 [.slice a xs.length c,.int .i64 l,.int .i64 w,O,O,O,O,.int .i64 (0:Nat),O,O,O,O,O,O,O,O,O,O,O,O,O,O,O,O,O,O,O,O,O,O,O,O,O,O,O,O,O,O,O,O,O,O,O,O] M=lp (aCall T0) K_spec_BlocksOk_0 L_spec_BlocksOk_0 [.slice a xs.length c,.int .i64 l,.int .i64 w,O,O,O,O,.int .i64 xs.length,O,O,O,O,O,O,O,O,O,O,O,O,O,O,O,O,O,O,O,O,O,O,O,O,O,O,O,O,O,O,O,O,O,O,O,O] M) ∨
    ((∃ i,i < xs.length∧stepB l w xs i=false)∧∀ k,thenF M [.tmp 6] (thenS (blockR 0 (lp (aCall T0) K_spec_BlocksOk_0 L_spec_BlocksOk_0 [.slice a xs.length c,.int .i64 l,.int .i64 w,O,O,O,O,.int .i64 (0:Nat),O,O,O,O,O,O,O,O,O,O,O,O,O,O,O,O,O,O,O,O,O,O,O,O,O,O,O,O,O,O,O,O,O,O,O,O] M)) (aCall T0) k)=some (.bool false,M)):=by
  have key:=loop_ok (call:=aCall T0) (K:=K_spec_BlocksOk_0) (L:=L_spec_BlocksOk_0) (fun _ Y=>Y=M) (fun i=>[.slice a xs.length c,.int .i64 l,.int .i64 w,O,O,O,O,.int .i64 i,O,O,O,O,O,O,O,O,O,O,O,O,O,O,O,O,O,O,O,O,O,O,O,O,O,O,O,O,O,O,O,O,O,O,O,O]) (stepB l w xs) (n:=xs.length) (M0:=M) (rs:=[.tmp 6]) (k0:=0) (a:=.bool false) M rfl ?_ ?_
  · rcases key with ⟨X',rfl,h1,h2⟩ | h
    · exact .inl ⟨h1,h2⟩
    · exact .inr h
  · intro i Y hi hq e
    subst e
    have e6:IntKind.i64.wrap ((i:Int)+1)=i+1:=wrap_i64 (by omega) (by omega)
    have e8:IntKind.i64.wrap 1=1:=wrap_i64 (by omega) (by omega)
    obtain ⟨b,o,u,rfl,q1,q2,q3,q4,_,_,qu,qr⟩:=at_Block h hi
    have hc:=c_spec_BlockOk Y _ _ qr l w
    rcases Nat.eq_zero_or_pos i with h0 | h0
    · subst h0
      rw [stepB_zero hi] at hq
      refine ⟨Y,rfl,?_⟩
      simp only [Int.natCast_zero,Int.ofNat_zero,Nat.zero_mul,Nat.add_zero] at *
      rw [S_spec_BlocksOk_0]; unfold B_spec_BlocksOk_0; simp [apA,hi,q4,hc,hq,e6,e8]
    · rw [stepB_pos hi h0,Bool.and_eq_true] at hq
      have hi':(0:Int) < (i:Int):=by omega
      have e7:IntKind.i64.wrap ((i:Int) - 1)=((i - 1:Nat):Int):=by rw [wrap_i64 (by omega) (by omega)]; omega
      obtain ⟨b',o',u',e,q1',_⟩:=at_Block h (i:=i - 1) (by omega)
      cases e
      have hlt:=of_decide_eq_true hq.2
      have hge:¬ (xs[i].1≤(xs[i - 1]'(by omega)).1):=Int.not_le.2 hlt
      have hi1:i - 1 < xs.length:=by omega
      refine ⟨Y,rfl,?_⟩
      rw [S_spec_BlocksOk_0]; unfold B_spec_BlocksOk_0; simp [apA,hi,q4,hc,hq.1,e6,hi',h0,e7,q1',q1,hge,hi1]
  · intro i Y hi hq e k
    subst e
    have e6:IntKind.i64.wrap ((i:Int)+1)=i+1:=wrap_i64 (by omega) (by omega)
    have e8:IntKind.i64.wrap 1=1:=wrap_i64 (by omega) (by omega)
    obtain ⟨b,o,u,rfl,q1,q2,q3,q4,_,_,qu,qr⟩:=at_Block h hi
    have hc:=c_spec_BlockOk Y _ _ qr l w
    rcases Nat.eq_zero_or_pos i with h0 | h0
    · subst h0
      rw [stepB_zero hi] at hq
      simp only [Int.natCast_zero,Int.ofNat_zero,Nat.zero_mul,Nat.add_zero] at *
      rw [S_spec_BlocksOk_0]; unfold B_spec_BlocksOk_0; simp [apA,hi,q4,hc,hq,e6,e8]
    · rw [stepB_pos hi h0] at hq
      have hi':(0:Int) < (i:Int):=by omega
      have e7:IntKind.i64.wrap ((i:Int) - 1)=((i - 1:Nat):Int):=by rw [wrap_i64 (by omega) (by omega)]; omega
      obtain ⟨b',o',u',e,q1',_⟩:=at_Block h (i:=i - 1) (by omega)
      cases e
      have hi1:i - 1 < xs.length:=by omega
      cases hb:blockB l w xs[i] with
      | false =>
        rw [hb] at hc
        rw [S_spec_BlocksOk_0]; unfold B_spec_BlocksOk_0; simp [apA,hi,q4,hc,e6]
      | true =>
        rw [hb] at hc
        rw [hb,Bool.true_and] at hq
        have hlt:=of_decide_eq_false hq
        have hge:xs[i].1≤(xs[i - 1]'(by omega)).1:=Int.not_lt.1 hlt
        rw [S_spec_BlocksOk_0]; unfold B_spec_BlocksOk_0; simp [apA,hi,q4,hc,e6,hi',h0,e7,q1',q1,hge,hi1]
theorem c_spec_BlocksOk (M:Mem) (v:V) (xs:List ty_Block.D) (l w:Int) (h:Rep (.sl ty_Block) M [v] xs) (hn:xs.length≤1048576):aCall T0 F_spec_BlocksOk [v,.int .i64 l,.int .i64 w] M=some (.bool (blocksB l w xs),M):=by
  obtain ⟨a,c,rfl⟩:=h.slen
  have e1:=c_spec_l12Frame M l w
  unfold blocksB
  cases h1:lgB l && wdB w with
  | false =>
    have h1:(decide (0≤l) && decide (l≤6) && (decide (1≤w) && decide (w≤200)))=false:=h1
    rw [aCall_eq T_spec_BlocksOk]; unfold A_spec_BlocksOk C_spec_BlocksOk; simp [apA,e1,h1]
  | true =>
    have h1:(decide (0≤l) && decide (l≤6) && (decide (1≤w) && decide (w≤200)))=true:=h1
    rcases l_spec_BlocksOk_0 M a c xs l w h hn with ⟨ha,e⟩ | ⟨hx,e⟩
    · simp only [Int.natCast_zero,Int.ofNat_zero] at e
      rw [rall_all ha]
      rw [aCall_eq T_spec_BlocksOk]; unfold A_spec_BlocksOk C_spec_BlocksOk; simp [apA,e1,h1,e]
      rw [S_spec_BlocksOk_0]; unfold B_spec_BlocksOk_0; simp [apA]
    · simp only [Int.natCast_zero,Int.ofNat_zero] at e
      rw [rall_not hx]
      rw [aCall_eq T_spec_BlocksOk]; unfold A_spec_BlocksOk C_spec_BlocksOk; simp [apA,e1,h1,e]
theorem c_spec_StashOk (M:Mem) (v:V) (xs:List ty_Block.D) (l w:Int) (h:Rep (.sl ty_Block) M [v] xs) (hn:xs.length≤1048576):aCall T0 F_spec_StashOk [v,.int .i64 l,.int .i64 w] M=some (.bool (stashB l w xs),M):=by
  have e1:=c_spec_BlocksOk M v xs l w h hn
  obtain ⟨a,c,rfl⟩:=h.slen
  unfold stashB
  by_cases hs:xs.length≤128
  · have hs':(xs.length:Int)≤128:=by omega
    rw [aCall_eq T_spec_StashOk]; unfold A_spec_StashOk C_spec_StashOk; simp [apA,e1,hs,hs']
  · have hs':¬ (xs.length:Int)≤128:=by omega
    rw [aCall_eq T_spec_StashOk]; unfold A_spec_StashOk C_spec_StashOk; simp [apA,e1,hs,hs']
def IdLt (xs:List ty_Block.D):Prop:=xs.Pairwise fun a b=>a.1 < b.1
theorem blocks_lt {l w:Int} {xs:List ty_Block.D} (h:blocksB l w xs=true):IdLt xs:=by
  unfold blocksB at h
  rw [Bool.and_eq_true] at h
  have h1:∀ i (hi:i+1 < xs.length),(xs[i]'(by omega)).1 < xs[i+1].1:=fun i hi=>by
    have:=List.all_eq_true.1 h.2 (i+1) (List.mem_range.2 hi)
    rw [stepB_pos hi (by omega),Bool.and_eq_true] at this
    exact of_decide_eq_true this.2
  have h2:∀ d i (hi:i+d+1 < xs.length),(xs[i]'(by omega)).1 < xs[i+d+1].1:=by
    intro d
    induction d with
    | zero=>intro i hi; exact h1 i hi
    | succ d ih=>intro i hi; exact Int.lt_trans (ih i (by omega)) (h1 (i+d+1) hi)
  unfold IdLt
  rw [List.pairwise_iff_getElem]
  intro i j hi hj hij
  obtain ⟨d,rfl⟩:∃ d,j=i+d+1:=⟨j - i - 1,by omega⟩
  exact h2 d i hj
theorem blocks_of {l w:Int} {xs:List ty_Block.D} (h:blocksB l w xs=true):∀ b ∈ xs,blockB l w b=true:=by
  intro b hb
  obtain ⟨i,hi,rfl⟩:=List.getElem_of_mem hb
  unfold blocksB at h
  rw [Bool.and_eq_true] at h
  have:=List.all_eq_true.1 h.2 i (List.mem_range.2 hi)
  unfold stepB at this
  rw [List.getElem?_eq_getElem hi] at this
  rw [Bool.and_eq_true] at this
  exact this.1
def IdsR (xs:List ty_Block.D):Prop:=∀ x ∈ xs,0≤x.1∧x.1≤255
theorem bid_of {l w:Int} {b:ty_Block.D} (h:blockB l w b=true):0≤b.1∧b.1≤255:=by
  unfold blockB bidB at h
  simp only [Bool.and_eq_true] at h
  exact ⟨of_decide_eq_true h.2.1.1,of_decide_eq_true h.2.1.2⟩
theorem ids_of {l w:Int} {xs:List ty_Block.D} (h:blocksB l w xs=true):IdsR xs:=fun x hx=>bid_of (blocks_of h x hx)
def ndP (w:Nat) (ys:List UInt8) (k:Nat):List ty_Block.D:=(List.range k).map (blkAt w ys)
theorem ndP_len (w:Nat) (ys:List UInt8) (k:Nat):(ndP w ys k).length=k:=by simp [ndP]
theorem nbF_le (w:Nat) (ys:List UInt8):∀ (k j:Nat),j≤nbF w ys k j∧nbF w ys k j≤j+k
  | 0,j=>by simp [nbF]
  | k+1,j=>by
    have ih:=nbF_le w ys k (j+1)
    unfold nbF
    split <;> omega
theorem nbC_le (w:Nat) (ys:List UInt8):nbC w ys≤4:=by have:=(nbF_le w ys 4 0).2; unfold nbC; omega
theorem ndB_eq (w:Nat) (ys:List UInt8):ndP w ys (nbC w ys)=ndB w ys:=rfl
theorem ndB_len (w:Nat) (ys:List UInt8):(ndB w ys).length≤4:=by rw [← ndB_eq,ndP_len]; exact nbC_le w ys
theorem pow2_cast (q:Nat):((2:Int) ^ q)=((2 ^ q:Nat):Int):=by
  induction q with
  | zero=>rfl
  | succ q ih=>rw [Int.pow_succ,ih,Nat.pow_succ,Int.natCast_mul]; rfl
theorem leaf_nat {m:Nat} {x:Int} (h:leafB m x=true):x=((Int.toNat x:Nat):Int)∧Int.toNat x < 2 ^ m:=by
  unfold leafB at h
  simp only [Bool.and_eq_true,decide_eq_true_eq] at h
  obtain ⟨_,h1,h2⟩:=h
  have:((m:Int).toNat)=m:=by omega
  rw [this,pow2_cast] at h2
  omega
theorem leafs_of {m:Nat} {w:Int} {bs:List ty_Block.D} (h:blocksB m w bs=true):∀ b ∈ bs,(0≤b.1∧b.1≤255)∧b.2.1=((Int.toNat b.2.1:Nat):Int)∧Int.toNat b.2.1 < 2 ^ m:=by
  intro b hb
  refine ⟨ids_of h b hb,?_⟩
  have h1:=blocks_of h b hb
  unfold blockB at h1
  simp only [Bool.and_eq_true] at h1
  exact leaf_nat h1.2.2.1
abbrev ty_Node:Ty:=.sl ty_Block
def ndsF (w:Int) (cells:List ty_Cell.D):List ty_Node.D:=cells.map fun c=>ndB (Int.toNat w) c
theorem gr0 {t:Ty} {M:Mem} {l:Nat} (hb:M[l]?=some ⟨[],t.w,2⟩):Gr (.sl t) M [.slice (some ⟨l,0,none⟩) 0 0] [] [l] :=
  .inr ⟨l,[],[],rfl,hb,rfl,rfl,by simp,by simp⟩
def NsV (M:Mem) (ok:Bool) (xs:List ty_Node.D) (p:V × Mem):Prop:=∃ r L,p.1=.tuple #[r,.bool ok]∧M <+: p.2∧Gr (.sl ty_Node) p.2 [r] xs L∧L.Nodup∧∀ j ∈ L,M.length≤j
def ndAt (l w:Int) (cells:List ty_Cell.D) (i:Nat):Bool:=match cells[i]? with
  | some c=>ndOk l w c
  | none=>true
theorem ndAt_get {l w:Int} {cells:List ty_Cell.D} {i:Nat} (hi:i < cells.length):ndAt l w cells i=ndOk l w cells[i]:=by unfold ndAt; rw [List.getElem?_eq_getElem hi]
theorem at_Cell {M:Mem} {a:Option Addr} {n c:Nat} {xs:List ty_Cell.D} (h:Rep (.sl ty_Cell) M [.slice a n c] xs) {i:Nat} (hi:i < xs.length):∃ l o u,a=some ⟨l,o,none⟩∧rd1 M l (o+i)=some u∧rdn M l (o+i) 1=some [u]∧Rep (.sl ty_Byte) M [u] xs[i]:=by
  obtain ⟨_,l,o,rfl,cs,hrd,hrep⟩:=rep_at h hi
  have hl:=hrep.len
  have hw1:ty_Cell.w=1:=rfl
  rw [hw1,Nat.mul_one] at hrd
  match cs,hl,hrd,hrep with
  | [u],_,hrd,hrep=>exact ⟨l,o,u,rfl,rd1_of_one hrd,hrd,hrep⟩
def ndX (l w:Int) (ys:List UInt8):List ty_Block.D:=if ndOk l w ys=true then ndB (Int.toNat w) ys else []
def BkOk (w:Nat) (bs:List ty_Block.D):Prop:=∀ b ∈ bs,(0≤b.1∧b.1≤255)∧(0≤b.2.1∧b.2.1≤255)∧List.length (α:=UInt8) b.2.2=w
theorem blkY_len (b:ty_Block.D):(blkY b).length=3+List.length (α:=UInt8) b.2.2:=by
  unfold blkY
  simp only [List.length_cons]
  omega
theorem blksY_len {w:Nat}:∀ {bs:List ty_Block.D},BkOk w bs→(blksY bs).length=bs.length * (w+3)
  | [],_=>by simp [blksY]
  | b :: bs,h=>by
    have ih:=blksY_len (w:=w) (bs:=bs) (fun x hx=>h x (List.mem_cons_of_mem _ hx))
    have h1:=(h b (by simp)).2.2
    have h2:=blkY_len b
    have e:blksY (b :: bs)=blkY b++blksY bs:=by simp [blksY]
    rw [e,List.length_append,ih,List.length_cons,Nat.succ_mul]
    omega
theorem bk_of {m w:Nat} {bs:List ty_Block.D} (hm:m≤6) (h:blocksB m w bs=true):BkOk w bs:=fun b hb=>by
  have h1:=blocks_of h b hb
  unfold blockB bidB at h1
  simp only [Bool.and_eq_true] at h1
  obtain ⟨_,⟨h2,h3⟩,h4,h5⟩:=h1
  obtain ⟨h6,h7⟩:=leaf_nat h4
  have h8:2 ^ m≤2 ^ 6:=Nat.pow_le_pow_right (by omega) hm
  refine ⟨⟨of_decide_eq_true h2,of_decide_eq_true h3⟩,?_,by have:=of_decide_eq_true h5; omega⟩
  have key:∀ q:Int,q=((Int.toNat q:Nat):Int)→Int.toNat q < 2 ^ m→0≤q∧q≤255:=by
    intro q q1 q2
    omega
  exact key _ h6 h7
theorem c_spec_NodeOk (M:Mem) (u:V) (bs:List ty_Block.D) (l w:Int) (h:Rep (.sl ty_Block) M [u] bs) (hn:bs.length≤1048576):aCall T0 F_spec_NodeOk [.agg #[u],.int .i64 l,.int .i64 w] M=some (.bool (decide (bs.length≤4) && blocksB l w bs),M):=by
  have hp:M <+: M++[(⟨[u],1,2⟩:Blk)]:=List.prefix_append _ _
  have e1:=c_spec_BlocksOk _ u bs l w (h.mono hp) hn
  obtain ⟨a,c,rfl⟩:=h.slen
  by_cases h4:bs.length≤4
  · have h4':(bs.length:Int)≤4:=by omega
    rw [decide_eq_true h4,Bool.true_and]
    rw [aCall_eq T_spec_NodeOk]; unfold A_spec_NodeOk C_spec_NodeOk; simp [apA,h4,h4',e1]
  · have h4':¬ (bs.length:Int)≤4:=by omega
    rw [decide_eq_false h4,Bool.false_and]
    rw [aCall_eq T_spec_NodeOk]; unfold A_spec_NodeOk C_spec_NodeOk; simp [apA,h4,h4',e1]
theorem grow_app {K w:Nat} {X X2:Mem} {v:V} {n:Nat} {cs:List V} (h:Grow K w X v n cs) {m bytes:Nat} {ys:List V} {x:Option (V × Mem)} (hx:appS X2 w bytes v m ys=x) (hp:X <+: X2) (hk:K≤X.length) (hm:ys.length=m * w) (h1:ys.all one=true) (hs:(n+m) * bytes≤140737488355328) (hs2:n+m≤9223372036854775807) :
    ∃ a X3,x=some (.slice a (n+m) (n+m),X3)∧Grow K w X3 (.slice a (n+m) (n+m)) (n+m) (cs++ys)∧Agree X2 X3 (wfs v)∧X2.length≤X3.length∧∀ b ∈ wfs (.slice a (n+m) (n+m)),b ∈ wfs v∨b=X2.length:=by
  by_cases h0:m=0
  · subst h0
    have hy:ys=[]:=List.length_eq_zero_iff.1 (by omega)
    subst hy
    have e:appS X2 w bytes v 0 []=some (v,X2):=by
      obtain ⟨_,⟨rfl,rfl⟩ | ⟨l,_,rfl,_⟩⟩:=h <;> simp [appS]
    obtain ⟨a,rfl⟩:=h.shape
    exact ⟨a,X2,hx.symm.trans e,by simpa using h.pre hp,⟨Nat.le_refl _,fun _ _ _=>rfl⟩,Nat.le_refl _,fun b hb=>.inl hb⟩
  · have h2:=h.pre hp
    have e:=h2.app hm (by omega) h1 hs hs2
    refine ⟨_,_,hx.symm.trans e,h2.next hm (by have:=hp.length_le; omega) [],kill_agree _ _ _,by rw [List.length_append,kill_len]; simp,fun b hb=>.inr (by simpa [wfs] using hb)⟩
theorem blksY_succ {bs:List ty_Block.D} {i:Nat} (hi:i < bs.length):blksY (bs.take (i+1))=blksY (bs.take i)++blkY bs[i]:=by
  unfold blksY
  rw [List.take_succ_eq_append_getElem hi,List.flatMap_append]
  simp
theorem byte_int {n:Int} (h:0≤n∧n≤255):byteV (UInt8.ofNat (Int.toNat n))=.int .u8 n∧IntKind.u8.wrap n=n:=by
  rw [byteV_len (by omega),Int.toNat_of_nonneg h.1]
  exact ⟨rfl,wrap_u8 (by omega) (by omega)⟩
theorem byteV_one:byteV 1=.int .u8 1:=rfl
def NoI (M0:Mem) (bs:List ty_Block.D) (v:V) (X:Mem):Prop:=M0 <+: X∧Grow M0.length 1 X v (blksY bs).length ((blksY bs).map byteV)
theorem rep_cells {t:Ty} {M:Mem} {enc:t.D→List V} (henc:∀ (cs:List V) (x:t.D),Rep t M cs x→cs=enc x) {a:Option Addr} {n c:Nat} {xs:List t.D} (h:Rep (.sl t) M [.slice a n c] xs) {k c2:Nat} (hk:k≤xs.length) :
    sliceCells M t.w (.slice a k c2)=some (k,((xs.take k).map enc).flatten):=by
  rcases h with ⟨h,rfl⟩ | ⟨l',o',c',blk,css,e,h2,h3,h4,h5,h6,h7⟩
  · simp at h hk
    obtain ⟨rfl,rfl,rfl⟩:=h
    subst hk
    simp [sliceCells]
  · simp only [List.cons.injEq,Value.slice.injEq,and_true] at e
    obtain ⟨rfl,rfl,rfl⟩:=e
    by_cases hk0:k=0
    · subst hk0
      simp [sliceCells]
    have hw:=Rep.css_w h5 h6
    have hcs:css=xs.map enc:=by
      apply List.ext_getElem (by simp [h5])
      intro i h1 h2
      rw [List.getElem_map]
      exact henc _ _ (h6 i _ _ (by simp [h1]) (by simp))
    have hlen:=flat_len hw
    have hpos:=t.w_pos
    have h3':blk.st=1∨blk.st=2:=by
      rcases h3 with h3 | h3 | h3
      · exact .inl h3
      · exact .inr h3
      · subst h3; simp at hk; omega
    obtain ⟨r,hr⟩:=h7
    have hdl:css.flatten.length+r.length=blk.cells.length - o':=by rw [← List.length_drop,← hr,List.length_append]
    have hle:k * t.w≤css.length * t.w:=Nat.mul_le_mul_right _ (by omega)
    have hpos2:0 < k * t.w:=Nat.mul_pos (by omega) hpos
    unfold sliceCells
    simp only
    rw [if_neg (by omega)]
    unfold rdn
    rw [h2]
    simp only
    rw [if_pos ⟨h3',by omega⟩]
    simp only [Option.map_some]
    congr 2
    rw [← hr,List.take_append_of_le_length (by omega)]
    have e2:css=(xs.take k).map enc++(xs.drop k).map enc:=by rw [hcs,← List.map_append,List.take_append_drop]
    have e3:(((xs.take k).map enc).flatten).length=k * t.w:=by
      rw [flat_len (w:=t.w) (fun cs hc=>hw cs (by rw [e2]; exact List.mem_append_left _ hc))]
      simp [Nat.min_eq_left hk]
    rw [e2,List.flatten_append,← e3,List.take_left']
    rfl
theorem flat_Byte (xs:List ty_Byte.D):(xs.map enc_Byte).flatten=xs.map byteV:=by
  induction xs with
  | nil=>rfl
  | cons x xs ih=>simp [ih]
theorem cells_Byte {M:Mem} {v:V} {ys:List UInt8} (h:Rep (.sl ty_Byte) M [v] ys):∃ a c,v=.slice a ys.length c∧sliceCells M 1 (.slice a ys.length c)=some (ys.length,ys.map byteV):=by
  obtain ⟨a,c,rfl⟩:=h.slen
  have:=rep_cells (enc:=enc_Byte) (fun cs x hx=>hx) h (k:=ys.length) (Nat.le_refl _) (c2:=c)
  rw [List.take_length] at this
  refine ⟨a,c,rfl,?_⟩
  rw [← flat_Byte]
  exact this
set_option maxHeartbeats 1000000 in
theorem l_spec_NodeOf_0 (M0:Mem) (w p:Nat) (a:Option Addr) (c:Nat) (bs:List ty_Block.D) (hp:M0[p]?=some ⟨[.slice a bs.length c],1,2⟩) (h:Rep (.sl ty_Block) M0 [.slice a bs.length c] bs) (hn:bs.length≤1000) (hw:w≤200) (hk:BkOk w bs) (v:V) (Z:Mem) (hZ:NoI M0 [] v Z) :
    ∃ v' X',NoI M0 bs v' X'∧lp (aCall T0) K_spec_NodeOf_0 L_spec_NodeOf_0 [O,O,.int .i64 (w:Int),.pointer (some ⟨p,0,none⟩),O,O,O,v,.int .i64 (0:Nat),O,O,O,O,O,O,O,O,O,O,O,O,O,O,O,O,O,O,O,O,O,O,O,O,O,O,O,O,O,O,O,O,O,O,O,O,O,O,O,O,O,O,O,O,O] Z=lp (aCall T0) K_spec_NodeOf_0 L_spec_NodeOf_0 [O,O,.int .i64 (w:Int),.pointer (some ⟨p,0,none⟩),O,O,O,v',.int .i64 bs.length,O,O,O,O,O,O,O,O,O,O,O,O,O,O,O,O,O,O,O,O,O,O,O,O,O,O,O,O,O,O,O,O,O,O,O,O,O,O,O,O,O,O,O,O,O] X':=by
  have key:=loop_to (call:=aCall T0) (K:=K_spec_NodeOf_0) (L:=L_spec_NodeOf_0) (fun i v X=>NoI M0 (bs.take i) v X) (fun i v=>[O,O,.int .i64 (w:Int),.pointer (some ⟨p,0,none⟩),O,O,O,v,.int .i64 i,O,O,O,O,O,O,O,O,O,O,O,O,O,O,O,O,O,O,O,O,O,O,O,O,O,O,O,O,O,O,O,O,O,O,O,O,O,O,O,O,O,O,O,O,O]) (n:=bs.length) ?_ 0 v Z (by omega) (by simpa using hZ)
  · rw [List.take_length] at key
    exact key
  intro i v X hi ⟨pX,hg⟩
  have e6:IntKind.i64.wrap ((i:Int)+1)=i+1:=wrap_i64 (by omega) (by omega)
  have hkt:BkOk w (bs.take i):=fun b hb=>hk b (List.mem_of_mem_take hb)
  have hlen:=blksY_len hkt
  have hle:(bs.take i).length * (w+3)≤1000 * 203:=Nat.mul_le_mul (by rw [List.length_take]; omega) (by omega)
  obtain ⟨l,o,u,rfl,q1,q2,q3,_,_,_,hq0,_⟩:=at_Block h hi
  have hki:=hk _ (List.getElem_mem hi)
  unfold NoI
  rw [blksY_succ hi]
  have hp0:rd1 M0 p 0=some (.slice (some ⟨l,o,none⟩) bs.length c):=rd1_of_rdn (rdn_box hp rfl) (k:=0) rfl
  generalize bs[i]=b at *
  generalize blksY (bs.take i)=ys at *
  obtain ⟨b1,b2,b3⟩:=b
  simp only at q1 q2 q3 hki hq0
  obtain ⟨h1,h2,h3⟩:=hki
  obtain ⟨y1,z1⟩:=byte_int h1
  obtain ⟨y2,z2⟩:=byte_int h2
  obtain ⟨ua,uc,hu,hsc⟩:=cells_Byte hq0
  cases hu
  have hll:∀ x ∈ wfs v,M0.length≤x:=hg.ge
  have hlp:=get_lt hp
  have hlM:l < M0.length:=rd1_lt q1
  obtain ⟨av,rfl⟩:=hg.shape
  have r0:=r1_pre pX hp0
  have r1:=r1_pre pX q1
  have r2:=r1_pre pX q2
  have hA:∀ zs:List Nat,(∀ y ∈ zs,y=l∨y=p)→hits (wfs (.slice av ys.length ys.length)) zs=false:=fun zs hz=>hits_ge (K:=M0.length) hll (fun y hy=>by rcases hz y hy with h | h <;> omega)
  have hA2:=hA [l,p,l,p] (by simp)
  rw [S_spec_NodeOf_0]; unfold B_spec_NodeOf_0; simp [apA,hi,r0,r1,r2,zeroCells,z1,z2]
  generalize hy:appS _ _ _ _ _ _=xhy
  obtain ⟨a2,X2,rfl,hg2,ag2,hl2,hw2⟩:=grow_app hg hy (List.prefix_append _ _) (by have:=pX.length_le; omega) (by rfl) (by rfl) (by omega) (by omega)
  clear hy
  have hpX:M0 <+: X2:=ag2.pre (pf_app pX) hg.ge
  have r02:=r1_pre hpX hp0
  have r32:=r1_pre hpX q3
  obtain ⟨_,_,hu2,hsc2⟩:=cells_Byte (hq0.mono hpX)
  cases hu2
  simp [apA,thenD_agree,ag2,hA2,hi,r02,r32,hsc2]
  generalize hy:appS _ _ _ _ _ _=xhy
  obtain ⟨a3,X3,rfl,hg3,ag3,hl3,hw3⟩:=grow_app hg2 hy (List.prefix_refl _) (by have:=hpX.length_le; omega) (by simp) (map_byte_all _) (by omega) (by omega)
  clear hy
  have hpX3:M0 <+: X3:=ag3.pre hpX hg2.ge
  simp [apA,e6]
  refine ⟨_,X3,⟨hpX3,?_⟩,rfl⟩
  have hl4:(blkY (b1,b2,b3)).length=3+List.length (α:=UInt8) b3:=blkY_len _
  have hc4:(blkY (b1,b2,b3)).map byteV=[.int .u8 1,.int .u8 b1,.int .u8 b2]++List.map byteV b3:=by
    unfold blkY
    simp only [List.map_cons,byteV_one,y1,y2]
    rfl
  rw [hl4,hc4]
  simpa [Nat.add_assoc] using hg3
theorem c_spec_NodeSize (M:Mem) (w sz:Nat) (h1:1≤w) (h2:w≤200) (hs:(sz:Int)=4 * ((w:Int)+3)):aCall T0 F_spec_NodeSize [.int .i64 w] M=some (.int .i64 sz,M):=by
  have e1:IntKind.i64.wrap ((w:Int)+3)=w+3:=wrap_i64 (by omega) (by omega)
  have e2:IntKind.i64.wrap (4 * ((w:Int)+3))=sz:=by rw [hs]; exact wrap_i64 (by omega) (by omega)
  have g1:¬ (w:Int) < 1:=by omega
  have g2:¬ 200 < (w:Int):=by omega
  rw [aCall_eq T_spec_NodeSize]; unfold A_spec_NodeSize C_spec_NodeSize; simp [g1,g2,e1,e2]
def BG (M0 X:Mem) (v:V) (ys:List UInt8):Prop:=∃ n,ys.length=n∧M0 <+: X∧Grow M0.length 1 X v n (ys.map byteV)
theorem BG.le {M M0 X:Mem} {v:V} {ys:List UInt8} (h:BG M0 X v ys) (hp:M <+: M0):BG M X v ys:=by
  obtain ⟨n,h1,h2,h3⟩:=h
  exact ⟨n,h1,hp.trans h2,h3.le hp.length_le⟩
theorem BG.pre {M0 X:Mem} {v:V} {ys:List UInt8} (h:BG M0 X v ys):M0 <+: X:=by
  obtain ⟨n,h1,h2,h3⟩:=h
  exact h2
theorem BG.sl {M0 X:Mem} {v:V} {ys:List UInt8} (h:BG M0 X v ys):∃ a n,v=.slice a n n∧ys.length=n:=by
  obtain ⟨n,h1,h2,h3⟩:=h
  obtain ⟨a,e⟩:=h3.shape
  exact ⟨a,n,e,h1⟩
def Bytes (M:Mem) (ys:List UInt8) (p:V × Mem):Prop:=BG M p.2 p.1 ys
theorem Bytes.get {M X:Mem} {v:V} {ys:List UInt8} {m:Nat} (h:Bytes M ys (v,X)) (hm:ys.length=m):M <+: X∧(∃ a,v=.slice a m m)∧sliceCells X 1 v=some (m,ys.map byteV):=by
  obtain ⟨n,rfl,hp,hg⟩:=h
  subst hm
  exact ⟨hp,hg.shape,hg.cells⟩
theorem bg_app {M0 X X1:Mem} {v:V} {n m:Nat} {ys zs:List UInt8} (hp:M0 <+: X) (hg:Grow M0.length 1 X v n (ys.map byteV)) (hn:ys.length=n) (hx:X <+: X1) (hz:zs.length=m) (h0:0 < m) (hs:n+m≤1000000000) :
    appS X1 1 1 v m (zs.map byteV)=some (.slice (some ⟨X1.length,0,none⟩) (n+m) (n+m),kill X1 v++[⟨(ys++zs).map byteV,1,2⟩])∧∀ N,BG M0 (kill X1 v++⟨(ys++zs).map byteV,1,2⟩ :: N) (.slice (some ⟨X1.length,0,none⟩) (n+m) (n+m)) (ys++zs):=by
  have g:=hg.pre hx
  have a1:=g.app (m:=m) (bytes:=1) (ys:=zs.map byteV) (by simp [hz]) h0 (map_byte_all _) (by omega) (by omega)
  rw [List.map_append]
  refine ⟨a1,fun N=>⟨n+m,by rw [List.length_append,hn,hz],pf_app (pf_kill hg.ge (hp.trans hx)),?_⟩⟩
  rw [List.map_append]
  exact g.next (m:=m) (ys:=zs.map byteV) (by simp [hz]) (by have:=(hp.trans hx).length_le; omega) N
theorem bg_pad {M0 X:Mem} {v:V} {n:Nat} {ys:List UInt8} (hp:M0 <+: X) (hg:Grow M0.length 1 X v n (ys.map byteV)) (hn:ys.length=n) (m:Nat) (hs:n+m≤1000000000) :
    ∃ v' X',appS X 1 1 v m (zc (.int .u8 0) m)=some (v',X')∧BG M0 X' v' (ys++List.replicate m 0):=by
  by_cases h0:m=0
  · subst h0
    refine ⟨v,X,?_,n,by simpa using hn,hp,by simpa using hg⟩
    obtain ⟨a,rfl⟩:=hg.shape
    unfold appS
    rcases hg.2 with ⟨h1,h2⟩ | ⟨l,_,h1,_⟩
    · cases h1; rfl
    · cases h1; rfl
  · obtain ⟨a1,a2⟩:=bg_app (X1:=X) (m:=m) (zs:=List.replicate m 0) hp hg hn (List.prefix_refl _) (by simp) (by omega) hs
    rw [map_byte_rep] at a1
    exact ⟨_,_,a1,a2 []⟩
theorem bg_padz {M0 X:Mem} {v:V} {ys:List UInt8} (h:BG M0 X v ys) {n:Nat} (hn:ys.length=n) (m:Nat) (hs:n+m≤1000000000) :
    ∃ v' X',appS X 1 1 v m (zc (.int .u8 0) m)=some (v',X')∧BG M0 X' v' (ys++List.replicate m 0):=by
  obtain ⟨n',h1,h2,h3⟩:=h
  exact bg_pad h2 h3 h1 m (by omega)
theorem c_spec_NodeOf (M:Mem) (u:V) (bs:List ty_Block.D) (l:Int) (w:Nat) (h:Rep (.sl ty_Block) M [u] bs) (hn:bs.length≤1048576) (hw:w≤200) (hw1:1≤w):Sat (aCall T0 F_spec_NodeOf [.agg #[u],.int .i64 l,.int .i64 (w:Int)] M) (Bytes M (if (decide (bs.length≤4) && blocksB l w bs)=true then ndY w bs else [])):=by
  have hpre:M <+: M++[(⟨[u],1,2⟩:Blk)]:=List.prefix_append _ _
  have e0:=c_spec_NodeOk _ u bs l w (h.mono hpre) hn
  obtain ⟨a,c,rfl⟩:=h.slen
  have hpr:rdn (M++[(⟨[.slice a bs.length c],1,2⟩:Blk)]) M.length 0 1=some [.slice a bs.length c]:=rdn_box (by simp) rfl
  cases hb:decide (bs.length≤4) && blocksB l w bs with
  | false =>
    rw [hb] at e0
    rw [aCall_eq T_spec_NodeOf]; unfold A_spec_NodeOf C_spec_NodeOf; simp [apA,e0,hpr]
    exact ⟨(_,_),rfl,0,rfl,hpre,Grow.nil⟩
  | true =>
    rw [hb] at e0
    rw [if_pos rfl]
    rw [Bool.and_eq_true] at hb
    have h4:=of_decide_eq_true hb.1
    have hlg:lgB l=true:=by
      have:=hb.2
      unfold blocksB at this
      simp only [Bool.and_eq_true] at this
      exact this.1.1
    obtain ⟨m,rfl,hm⟩:=log_nat hlg
    have hk:=bk_of hm hb.2
    obtain ⟨v',X',⟨pX,hg⟩,e⟩:=l_spec_NodeOf_0 (M++[⟨[.slice a bs.length c],1,2⟩]) w M.length a c bs (by simp) (h.mono hpre) (by omega) hw hk (.slice (some ⟨M.length+1,0,none⟩) 0 0) (M++[⟨[.slice a bs.length c],1,2⟩,⟨[],1,2⟩]) ⟨by simp,by simp,.inr ⟨M.length+1,by simp,rfl,by simp [blksY]⟩⟩
    simp only [Int.natCast_zero,Int.ofNat_zero] at e
    have hlen:=blksY_len hk
    have hle:bs.length * (w+3)≤4 * (w+3):=Nat.mul_le_mul_right _ h4
    have e1:=fun X=>c_spec_NodeSize X w (4 * (w+3)) hw1 hw (by omega)
    have e3:IntKind.i64.wrap (((4 * (w+3):Nat):Int) - ((blksY bs).length:Int))=((4 * (w+3) - (blksY bs).length:Nat):Int):=by rw [wrap_i64 (by omega) (by omega)]; omega
    have hbd1:(((4 * (w+3) - (blksY bs).length:Nat):Int))≤9223372036854775807:=by omega
    have hbd2:(((4 * (w+3) - (blksY bs).length:Nat):Int))≤281474976710656:=by omega
    obtain ⟨v2,X2,q,g2⟩:=bg_padz (⟨_,rfl,pX,hg⟩:BG (M++[⟨[.slice a bs.length c],1,2⟩]) X' v' (blksY bs)) rfl (4 * (w+3) - (blksY bs).length) (by omega)
    obtain ⟨av,rfl⟩:=hg.shape
    obtain ⟨n2,hn2,hp2,hg2⟩:=id g2
    obtain ⟨a2,rfl⟩:=hg2.shape
    generalize hm:4 * (w+3) - (blksY bs).length=mm at *
    generalize hsz:4 * (w+3)=sz at *
    have hp1:=r1_pre pX (rd1_of_rdn hpr (k:=0) rfl)
    rw [aCall_eq T_spec_NodeOf]; unfold A_spec_NodeOf C_spec_NodeOf; simp [apA,e0,hpr,e,zeroCells]
    rw [S_spec_NodeOf_0]; unfold B_spec_NodeOf_0; simp [apA,hp1,e1,e3,q,hbd1,hbd2]
    refine ⟨(_,X2),rfl,n2,?_,hpre.trans hp2,?_⟩
    · unfold ndY; rw [hsz,hm]; exact hn2
    · unfold ndY; rw [hsz,hm]; exact hg2.le (by simp)
theorem nbF_not (w:Nat) (ys:List UInt8):∀ (k j:Nat),nbF w ys k j < j+k→¬ ys.getD (nbF w ys k j * (w+3)) 0=1
  | 0,j,h=>by simp [nbF] at h
  | k+1,j,h=>by
    unfold nbF at h ⊢
    split
    · rename_i h1
      rw [if_pos h1] at h
      exact nbF_not w ys k (j+1) (by omega)
    · rename_i h1
      exact h1
theorem byte_at {M:Mem} {l o n c:Nat} {ys:List UInt8} (h:Rep (.sl ty_Byte) M [.slice (some ⟨l,o,none⟩) n c] ys) {i:Nat} (hi:i < ys.length):rd1 M l (o+i)=some (.int .u8 ((ys.getD i 0).toNat:Int)):=by
  obtain ⟨l',o',e,_,hr⟩:=at_Byte h hi
  cases e
  have:ys.getD i 0=ys[i]:=by rw [List.getD_eq_getElem?_getD,List.getElem?_eq_getElem hi]; rfl
  rw [hr,this]
  rfl
theorem exit_byte {M:Mem} {l o c:Nat} {ys:List UInt8} {w:Nat} (h:Rep (.sl ty_Byte) M [.slice (some ⟨l,o,none⟩) ys.length c] ys) (hl:ys.length=4 * (w+3)) :
    nbC w ys * (w+3)=ys.length∨(nbC w ys * (w+3) < ys.length∧∃ b:Nat,rd1 M l (o+nbC w ys * (w+3))=some (.int .u8 (b:Int))∧¬ (b:Int)=1):=by
  by_cases h4:nbC w ys=4
  · left; rw [h4,hl]
  · right
    have hle:=nbC_le w ys
    have hlt:nbC w ys * (w+3)+(w+3)≤4 * (w+3):=by rw [← Nat.succ_mul]; exact Nat.mul_le_mul_right _ (by omega)
    refine ⟨by omega,(ys.getD (nbC w ys * (w+3)) 0).toNat,byte_at h (by omega),?_⟩
    have hn:=nbF_not w ys 4 0 (by show nbC w ys < 0+4; omega)
    intro e
    refine hn ?_
    show ys.getD (nbC w ys * (w+3)) 0=1
    have e2:(ys.getD (nbC w ys * (w+3)) 0).toNat=1:=by omega
    exact UInt8.toNat_inj.1 e2
theorem rep_blk {t:Ty} {M:Mem} {l o n c:Nat} {xs:List t.D} (h:Rep (.sl t) M [.slice (some ⟨l,o,none⟩) n c] xs):∃ blk,M[l]?=some blk∧blk.w=t.w∧n=xs.length:=by
  rcases h with ⟨h,_⟩ | ⟨l',o',c',blk,css,e,h2,h3,h4,h5,h6,h7⟩
  · simp at h
  · simp only [List.cons.injEq,Value.slice.injEq,Option.some.injEq,Addr.mk.injEq,and_true,true_and] at e
    obtain ⟨⟨rfl,rfl⟩,rfl,rfl⟩:=e
    exact ⟨blk,h2,h4,rfl⟩
theorem gr_Block {M:Mem} {x:ty_Block.D} {u:V} {L:List Nat} (w0:(Lit.int .i64 x.1).wf=true) (w1:(Lit.int .i64 x.2.1).wf=true) (r0:Gr (.sl ty_Byte) M [u] x.2.2 L):Gr ty_Block M [.int .i64 x.1,.int .i64 x.2.1,u] x L :=
  ⟨[.int .i64 x.1],[.int .i64 x.2.1,u],[],L,rfl,⟨⟨rfl,w0⟩,rfl⟩,⟨[.int .i64 x.2.1],[u],[],L,rfl,⟨⟨rfl,w1⟩,rfl⟩,r0,rfl⟩,rfl⟩
def rfS:V→List Nat
  | .slice (some a) _ _=>[a.block]
  | _=>[]
theorem rfp_slc2 (fr:List V) (w:Nat) (x:Opd) (lo hi:Option Opd):rfp fr (.slc w x lo hi)=rfS (ev fr x):=by
  unfold rfp rfS
  rfl
theorem rfS_some (l o n c:Nat):rfS (.slice (some ⟨l,o,none⟩) n c)=[l]:=rfl
theorem nbF_one (w:Nat) (ys:List UInt8):∀ (k j i:Nat),j≤i→i < nbF w ys k j→ys.getD (i * (w+3)) 0=1
  | 0,j,i,h1,h2=>by simp [nbF] at h2; omega
  | k+1,j,i,h1,h2=>by
    unfold nbF at h2
    split at h2
    · rename_i h
      by_cases e:i=j
      · subst e; exact h
      · exact nbF_one w ys k (j+1) i (by omega) h2
    · omega
theorem ndP_succ (w:Nat) (ys:List UInt8) (k:Nat):ndP w ys (k+1)=ndP w ys k++[blkAt w ys k]:=by
  unfold ndP
  rw [List.range_succ,List.map_append]
  rfl
def SnI (M:Mem) (xs:List ty_Block.D) (X:Mem):Prop:=∃ v L,M <+: X∧X[M.length]?=some ⟨[.slice none 0 0],1,2⟩∧X[M.length+1]?=some ⟨[v],1,2⟩∧Gr (.sl ty_Block) X [v] xs L∧L.Nodup∧∀ j ∈ L,M.length+2≤j
theorem rep_sub {M:Mem} {b o n c:Nat} {ys:List UInt8} (h:Rep (.sl ty_Byte) M [.slice (some ⟨b,o,none⟩) n c] ys) (l k:Nat) (hk:l+k≤ys.length) (c2:Nat):Rep (.sl ty_Byte) M [.slice (some ⟨b,o+l,none⟩) k c2] ((ys.drop l).take k):=by
  rcases h with ⟨e,rfl⟩ | ⟨l',o',c',blk,css,e,h2,h3,h4,h5,h6,h7⟩
  · simp at e
  · simp only [List.cons.injEq,Value.slice.injEq,Option.some.injEq,Addr.mk.injEq,and_true] at e
    obtain ⟨⟨rfl,rfl⟩,rfl,rfl⟩:=e
    have he:css=ys.map enc_Byte:=by
      apply List.ext_getElem (by simp [h5])
      intro i p q
      have hx:i < ys.length:=by omega
      have:=h6 i css[i] ys[i] (List.getElem?_eq_getElem p) (List.getElem?_eq_getElem hx)
      rw [List.getElem_map]
      exact this
    rw [he,flat_Byte] at h7
    refine .inr ⟨b,o+l,c2,blk,((ys.drop l).take k).map enc_Byte,?_,h2,?_,h4,?_,?_,?_⟩
    · have:((ys.drop l).take k).length=k:=by rw [List.length_take,List.length_drop]; omega
      rw [this]
    · rcases h3 with h3 | h3 | h3
      · exact .inl h3
      · exact .inr (.inl h3)
      · exact .inr (.inr (by subst h3; simp))
    · rw [List.length_map]
    · intro i ds x hd hx
      rw [List.getElem?_map,hx] at hd
      cases hd
      rfl
    · rw [flat_Byte,List.map_take,List.map_drop,← List.drop_drop]
      obtain ⟨t,ht⟩:=h7
      rw [← ht,List.drop_append]
      exact (List.take_prefix _ _).trans (List.prefix_append _ _)
theorem fl_Byte:FlatE .u8 enc_Byte (fun _=>True):=⟨fun M x _=>⟨rfl,rfl⟩,fun M cs x h=>⟨h,trivial⟩⟩
theorem hits_ne {xs ys:List Nat} (h:∀ x ∈ xs,∀ y ∈ ys,x ≠ y):hits xs ys=false:=by
  unfold hits
  rw [List.any_eq_false]
  intro x hx
  simp only [Bool.not_eq_true]
  rw [List.any_eq_false]
  intro y hy
  have:=h x hx y hy
  simp [this]
end GoAm
