/- What the functions do that the law reaches. -/
import Derived.Test.YtlniheedmeaeeaaGreatDeepLeavesl0
set_option autoImplicit false
set_option linter.unusedVariables false
set_option linter.unusedSimpArgs false
namespace GoAm
open Go
set_option maxHeartbeats 2000000 in
theorem l_spec_NodeRead_0 (M:Mem) (a:Option Addr) (c:Nat) (ys:List UInt8) (w:Nat) (lg:V) (h:Rep (.sl ty_Byte) M [.slice a ys.length c] ys) (hw:w≤200) (hw1:1≤w) (hl:ys.length=4 * (w+3)) (Z:Mem) (hZ:SnI M [] Z) :
    ∃ (v':Nat) (X':Mem),SnI M (ndB w ys) X'∧lp (aCall T0) K_spec_NodeRead_0 L_spec_NodeRead_0 [.slice a ys.length c,lg,.int .i64 (w:Int),O,O,O,.pointer (some ⟨M.length,0,none⟩),O,.pointer (some ⟨M.length+1,0,none⟩),.int .i64 ((0 * (w+3):Nat):Int),O,O,O,O,O,O,O,O,O,O,O,O,O,O,O,O,O,O,O,O,O,O,O,O,O,O,O,O,O,O,O,O,O,O,O,O,O,O,O,O,O,O,O,O,O,O,O,O,O,O,O,O,O,O,O,O,O,O,O,O,O,O,O,O,O,O] Z=lp (aCall T0) K_spec_NodeRead_0 L_spec_NodeRead_0 [.slice a ys.length c,lg,.int .i64 (w:Int),O,O,O,.pointer (some ⟨M.length,0,none⟩),O,.pointer (some ⟨M.length+1,0,none⟩),.int .i64 ((nbC w ys * (w+3):Nat):Int),O,O,O,O,O,O,O,O,O,O,O,O,O,O,O,O,O,O,O,O,O,O,O,O,O,O,O,O,O,O,O,O,O,O,O,O,O,O,O,O,O,O,O,O,O,O,O,O,O,O,O,O,O,O,O,O,O,O,O,O,O,O,O,O,O,O] X':=by
  refine loop_to (call:=aCall T0) (K:=K_spec_NodeRead_0) (L:=L_spec_NodeRead_0) (fun i (_:Nat) X=>SnI M (ndP w ys i) X) (fun i (_:Nat)=>[.slice a ys.length c,lg,.int .i64 (w:Int),O,O,O,.pointer (some ⟨M.length,0,none⟩),O,.pointer (some ⟨M.length+1,0,none⟩),.int .i64 ((i * (w+3):Nat):Int),O,O,O,O,O,O,O,O,O,O,O,O,O,O,O,O,O,O,O,O,O,O,O,O,O,O,O,O,O,O,O,O,O,O,O,O,O,O,O,O,O,O,O,O,O,O,O,O,O,O,O,O,O,O,O,O,O,O,O,O,O,O,O,O,O,O]) (n:=nbC w ys) ?_ 0 0 Z (by omega) (by simpa [ndP] using hZ)
  intro i _ X hi ⟨v,L,pX,br,bp,g0,nd,ge0⟩
  have hi4:=nbC_le w ys
  have hone:=nbF_one w ys 4 0 i (by omega) hi
  have hbnd:i * (w+3)+(w+3)≤4 * (w+3):=by rw [← Nat.succ_mul]; exact Nat.mul_le_mul_right _ (by omega)
  rw [ndP_succ]
  have hlen:=ndP_len w ys i
  generalize ndP w ys i=xs at g0 hlen ⊢
  obtain ⟨l,o,rfl,_,_⟩:=at_Byte h (i:=0) (by omega)
  have hlM:l < M.length:=by obtain ⟨blk,hbk,_⟩:=rep_blk h; exact get_lt hbk
  have b0:=r1_pre pX (byte_at h (i:=i * (w+3)) (by omega))
  have b1:=r1_pre pX (byte_at h (i:=i * (w+3)+1) (by omega))
  have b2:=r1_pre pX (byte_at h (i:=i * (w+3)+2) (by omega))
  rw [hone] at b0
  have hnxt:(i+1) * (w+3)=i * (w+3)+(w+3):=Nat.succ_mul _ _
  have hsub:=rep_sub (h.mono pX) (i * (w+3)+3) w (by omega)
  have hbd:blkAt w ys i=(((ys.getD (i * (w+3)+1) 0).toNat:Int),((ys.getD (i * (w+3)+2) 0).toNat:Int),(ys.drop (i * (w+3)+3)).take w):=rfl
  have hdl:List.length (α:=UInt8) ((ys.drop (i * (w+3)+3)).take w)=w:=by rw [List.length_take,List.length_drop]; omega
  have n1:(ys.getD (i * (w+3)+1) 0).toNat < 256:=UInt8.toNat_lt _
  have n2:(ys.getD (i * (w+3)+2) 0).toNat < 256:=UInt8.toNat_lt _
  rw [hbd]
  generalize (ys.drop (i * (w+3)+3)).take w=dat at *
  generalize (ys.getD (i * (w+3)+1) 0).toNat=q1 at *
  generalize (ys.getD (i * (w+3)+2) 0).toNat=q2 at *
  generalize hat:i * (w+3)=at0 at *
  have e1:IntKind.i64.wrap ((at0:Int)+1)=(at0:Int)+1:=wrap_i64 (by omega) (by omega)
  have e2:IntKind.i64.wrap ((at0:Int)+2)=(at0:Int)+2:=wrap_i64 (by omega) (by omega)
  have e3:IntKind.i64.wrap ((at0:Int)+3)=(at0:Int)+3:=wrap_i64 (by omega) (by omega)
  have e4:IntKind.i64.wrap ((at0:Int)+3+(w:Int))=(at0:Int)+3+(w:Int):=wrap_i64 (by omega) (by omega)
  have e5:IntKind.i64.wrap ((at0:Int)+(w:Int))=(at0:Int)+(w:Int):=wrap_i64 (by omega) (by omega)
  have e6:IntKind.i64.wrap ((at0:Int)+(w:Int)+3)=(at0:Int)+(w:Int)+3:=wrap_i64 (by omega) (by omega)
  have d1:(0:Int)≤(at0:Int)+1∧(at0:Int)+1 < (ys.length:Int):=by omega
  have d2:(0:Int)≤(at0:Int)+2∧(at0:Int)+2 < (ys.length:Int):=by omega
  have d3:(0:Int)≤(at0:Int)+3∧(at0:Int)+3≤(at0:Int)+3+(w:Int)∧((at0:Int)+3+(w:Int)≤(ys.length:Int)∨(at0:Int)+3+(w:Int)≤(c:Int)):=by omega
  have d5:((at0:Int)+2).toNat=at0+2:=by omega
  have d6:((at0:Int)+3).toNat=at0+3:=by omega
  have d7:((at0:Int)+1).toNat=at0+1:=by omega
  have d4:((at0:Int)+3+(w:Int) - ((at0:Int)+3)).toNat=w:=by omega
  have c1:IntKind.i64.wrap (q1:Int)=q1:=wrap_i64 (by omega) (by omega)
  have c2:IntKind.i64.wrap (q2:Int)=q2:=wrap_i64 (by omega) (by omega)
  have g1:at0 < ys.length:=by omega
  obtain ⟨blk,hbk,hbw⟩:=rep_blk h
  have hbw1:blk.w=1:=hbw.1
  have hbX:=fun N:Mem=>get_pre' (N:=N) (get_pre pX hbk)
  have hbX0:=get_pre pX hbk
  obtain ⟨av,rfl⟩:=g0.shape
  have hpl:=pX.length_le
  have hbpl:=get_lt bp
  have hwL:∀ b ∈ wfs (.slice av xs.length xs.length),M.length+2≤b:=by
    obtain ⟨_,_,hw⟩:=g0.gr (K:=0) (by simp)
    exact fun b hb=>ge0 b (hw b hb)
  have rp:rd1 X (M.length+1) 0=some (.slice av xs.length xs.length):=rd1_of_rdn (rdn_box bp rfl) (k:=0) rfl
  have hdl2:List.length (α:=UInt8) dat=w:=hdl
  obtain ⟨_,hc0,_⟩:=rep_cellsF fl_Byte ((hsub (max ys.length c - (at0+3))).mono (List.prefix_append X [(⟨[],1,2⟩:Blk)]))
  have hc0:sliceCells (X++[(⟨[],1,2⟩:Blk)]) 1 (.slice (some ⟨l,o+(at0+3),none⟩) w (max ys.length c - (at0+3)))=some (w,(List.map enc_Byte dat).flatten):=by rw [← hdl2] at hc0 ⊢; exact hc0
  have hX1:hits [X.length] [l,l,l,M.length+1]=false:=hits_ne fun x hx y hy e=>by simp at hx hy; omega
  have hX2:hits (wfs (.slice av xs.length xs.length)) [l,l,l,M.length+1]=false:=hits_ge (K:=M.length+2) hwL (by simp; omega)
  rw [S_spec_NodeRead_0]; unfold B_spec_NodeRead_0; simp [apA,b0,b1,b2,g1,rp,d1,d2,d3,d4,d5,d6,d7,e1,e2,e3,e4,c1,c2,hbX,hbX0,hbw1,rfp_slc2,rfS_some,hc0,zeroCells]
  generalize hy:appS _ _ _ _ _ _=xhy
  rw [← hdl2] at hy
  obtain ⟨l2,X3,rfl,hl2,gb,ag⟩:=cp_all (t:=.u8) (xs:=dat) fl_Byte hy (by simp [Ty.w]) (by simp) (by omega) (by omega)
  clear hy
  rw [hdl2] at gb ⊢
  have p3:X <+: X3:=ag.pre (List.prefix_append _ _) (by simp)
  simp [apA,thenD_agree,ag,hX1,zeroCells,rfp_slc2,rfS_some]
  generalize hy:appS _ _ _ _ _ _=xhy
  have w0:(Lit.int .i64 (q1:Int)).wf=true:=wf_mk (by omega) (by omega)
  have w1:(Lit.int .i64 (q2:Int)).wf=true:=wf_mk (by omega) (by omega)
  obtain ⟨l4,X4,L',rfl,g4,ag2,len2,hw4,nd4,sub4,hl4⟩:=g0.app (t:=ty_Block) hy (p3.trans (List.prefix_append _ _)) (gr_Block (x:=((q1:Int),(q2:Int),dat)) w0 w1 (gb.grow (List.prefix_append _ _))) (by simpa using hl2) nd (by simp) (by rw [hlen]; omega) (by rw [hlen]; omega)
  clear hy
  have hx3:=p3.length_le
  have pX4:M <+: X4:=ag2.pre (pf_app (pX.trans p3)) (fun b hb=>by have:=hwL b hb; omega)
  have br4:X4[M.length]?=some ⟨[.slice none 0 0],1,2⟩:=ag2.get (get_pre' (get_pre p3 br)) (fun hm=>by have:=hwL _ hm; omega)
  have bp4:X4[M.length+1]?=some ⟨[.slice av xs.length xs.length],1,2⟩:=ag2.get (get_pre' (get_pre p3 bp)) (fun hm=>by have:=hwL _ hm; omega)
  have hwr:∀ u:V,one u=true→wrn X4 (M.length+1) 0 [u]=some (X4.set (M.length+1) ⟨[u],1,2⟩):=fun u hu=>by
    rw [wrn_eq bp4 rfl (by simp) (by simp [hu])]
    rfl
  have hwr4:=hwr (.slice (some ⟨l4,0,none⟩) (xs.length+1) (xs.length+1)) rfl
  simp [apA,thenD_agree,ag2,hX2,hwr4,e5,e6]
  have hge4:∀ j ∈ L',M.length+2≤j:=fun j hj=>by
    rcases sub4 j hj with h | h | h
    · exact ge0 j h
    · simp at h; omega
    · simp at hl4; omega
  have hfin:((i:Int)+1) * ((w:Int)+3)=(at0:Int)+(w:Int)+3:=by
    have e9:((i * (w+3):Nat):Int)=(i:Int) * ((w:Int)+3):=by rw [Int.natCast_mul]; rfl
    rw [Int.add_mul,Int.one_mul,← e9,hat]
    omega
  refine ⟨X4.set (M.length+1) ⟨[.slice (some ⟨l4,0,none⟩) (xs.length+1) (xs.length+1)],1,2⟩,⟨_,L',pf_set (by omega) pX4,by rw [gt_set (by omega)]; exact br4,gs_of bp4 _,g4.set _ (fun hm=>by have:=hge4 _ hm; omega),nd4,hge4⟩,?_⟩
  rw [hfin]
def SrV (M:Mem) (ok:Bool) (bs:List ty_Block.D) (p:V × Mem):Prop:=∃ r L,p.1=.tuple #[.agg #[r],.bool ok]∧M <+: p.2∧Gr (.sl ty_Block) p.2 [r] bs L∧L.Nodup∧∀ j ∈ L,M.length≤j
theorem toBytes_map:∀ ys:List UInt8,toBytes (ys.map byteV)=some ys
  | []=>rfl
  | y :: ys=>by
    simp [toBytes,byteV,toBytes_map ys]
theorem bg_rep {M0 X:Mem} {v:V} {ys:List UInt8} (h:BG M0 X v ys):∃ L,M0 <+: X∧Own (.sl ty_Byte) X [v] ys L∧Fresh M0 X L:=by
  obtain ⟨n,rfl,hp,hg⟩:=h
  rcases hg.2 with ⟨rfl,h0⟩ | ⟨l,hl,rfl,hb⟩
  · have:ys=[]:=List.length_eq_zero_iff.1 h0
    subst this
    exact ⟨[],hp,.inl ⟨rfl,rfl,.inl ⟨rfl,rfl⟩⟩,by simp,by simp⟩
  · obtain ⟨L,o1,o2⟩:=own_blk (t:=ty_Byte) (M:=X) (l:=l) (c:=ys.length) (enc:=enc_Byte) (ys:=ys) (by rw [flat_Byte]; exact hb) (fun y _=>own_Byte _ y)
    refine ⟨L,hp,o1,nodup_flat ownf_Byte o1,fun j hj=>?_⟩
    rw [o2 j hj]
    exact ⟨hl,get_lt hb⟩
set_option maxHeartbeats 2000000 in
theorem c_spec_NodeRead (M:Mem) (v:V) (ys:List UInt8) (l w:Int) (h:Rep (.sl ty_Byte) M [v] ys) (hn:ys.length≤1048576):Sat (aCall T0 F_spec_NodeRead [v,.int .i64 l,.int .i64 w] M) (SrV M (ndOk l w ys) (ndX l w ys)):=by
  have e1:∀ M,aCall T0 F_spec_l12Frame [.int .i64 l,.int .i64 w] M=some (.bool (lgB l && wdB w),M):=fun M=>c_spec_l12Frame M l w
  obtain ⟨a,c,rfl⟩:=h.slen
  have hnil:∀ {X:Mem},Gr (.sl ty_Block) X [.slice none 0 0] [] []:=Gr.nil
  have hpre:M <+: M++[(⟨[.slice none 0 0],1,2⟩:Blk)]:=List.prefix_append _ _
  cases h1:lgB l && wdB w with
  | false =>
    have hs:ndOk l w ys=false:=by unfold ndOk; rw [h1]; rfl
    have hx:ndX l w ys=[]:=by simp [ndX,hs]
    rw [hs,hx]
    rw [h1] at e1
    rw [aCall_eq T_spec_NodeRead]; unfold A_spec_NodeRead C_spec_NodeRead; simp [apA,e1]
    exact ⟨(_,_),rfl,_,[],rfl,hpre,hnil,by simp,by simp⟩
  | true =>
    rw [h1] at e1
    rw [Bool.and_eq_true] at h1
    have hw:1≤w∧w≤200:=by have:=h1.2; unfold wdB at this; simpa using this
    obtain ⟨W,rfl⟩:∃ W:Nat,w=(W:Int):=⟨Int.toNat w,by omega⟩
    have hW:Int.toNat (W:Int)=W:=by omega
    have e2:=fun M=>c_spec_NodeSize M W (4 * (W+3)) (by omega) (by omega) (by omega)
    by_cases h3:(ys.length:Int)=4 * ((W:Int)+3)
    · have h3n:ys.length=4 * (W+3):=by omega
      have e2:=fun M=>c_spec_NodeSize M W ys.length (by omega) (by omega) (by omega)
      have hO:ndOk l W ys=(blocksB l W (ndB W ys) && decide (ndY W (ndB W ys)=ys)):=by
        unfold ndOk
        rw [h1.1,h1.2,hW]
        simp [h3]
      have hX:ndX l W ys=if ndOk l W ys=true then ndB W ys else []:=by unfold ndX; rw [hW]
      obtain ⟨_,X1,⟨v1,L1,p1,br,bp,g1,n1,k1⟩,e⟩:=l_spec_NodeRead_0 M a c ys W (.int .i64 l) h (by omega) (by omega) h3n (M++[⟨[.slice none 0 0],1,2⟩,⟨[.slice none 0 0],1,2⟩]) ⟨.slice none 0 0,[],List.prefix_append _ _,by simp,by simp,Gr.nil,by simp,by simp⟩
      simp only [Nat.zero_mul,Int.natCast_zero,Int.ofNat_zero] at e
      have hblen:=ndB_len W ys
      obtain ⟨l0,o0,rfl,_,_⟩:=at_Byte h (i:=0) (by omega)
      have hex:=exit_byte h h3n
      rw [hX,hO]
      have hNO:=c_spec_NodeOf X1 v1 (ndB W ys) l W g1.rep (by omega) (by omega) (by omega)
      rw [decide_eq_true hblen,Bool.true_and] at hNO
      generalize ndB W ys=bs at *
      generalize hat:nbC W ys * (W+3)=at0 at *
      obtain ⟨a1,rfl⟩:=g1.shape
      have hv1:rdn X1 (M.length+1) 0 1=some [.slice a1 bs.length bs.length]:=rdn_box bp rfl
      have hr1:rdn X1 M.length 0 1=some [.slice none 0 0]:=rdn_box br rfl
      have hcase:(((¬ (at0:Int) < (ys.length:Int))∧(¬ at0 < ys.length))∧(¬ at0 < ys.length))∨(at0 < ys.length∧∃ b:Nat,rd1 X1 l0 (o0+at0)=some (.int .u8 (b:Int))∧¬ (b:Int)=1):=by
        rcases hex with hh | ⟨hh,b,q1,q2⟩
        · exact .inl ⟨⟨by omega,by omega⟩,by omega⟩
        · exact .inr ⟨hh,b,r1_pre p1 q1,q2⟩
      rcases hcase with ⟨⟨F1,F2⟩,F3⟩ | ⟨F1,b,F2,F3⟩
      all_goals
        rw [aCall_eq T_spec_NodeRead]; unfold A_spec_NodeRead C_spec_NodeRead; simp [apA,e1,e2,e,zeroCells]
        rw [S_spec_NodeRead_0]; unfold B_spec_NodeRead_0; simp [apA,F1,F2,F3,hv1]
        generalize hx:aCall T0 F_spec_NodeOf _ _=xhx
        obtain ⟨v2,X2,rfl,g2⟩:=of_call hx hNO
        clear hx
        obtain ⟨L2,p2,o2,_⟩:=bg_rep g2
        obtain ⟨a2,c2,hv2,hs2⟩:=cells_Byte o2.rep
        cases hv2
        obtain ⟨a3,c3,hv3,hs3⟩:=cells_Byte (h.mono (p1.trans p2))
        cases hv3
        have hv2:=rn_pre p2 hv1
        have hr2:=rn_pre p2 hr1
        have hpM:=p1.trans p2
        have br2:=get_pre p2 br
        have hwn:∀ u:V,one u=true→wrn X2 M.length 0 [u]=some (X2.set M.length ⟨[u],1,2⟩):=fun u hu=>by
          rw [wrn_eq br2 rfl (by simp) (by simp [hu])]
          rfl
        have hwn0:=hwn (.slice none 0 0) rfl
        have hwn1:=hwn (.slice a1 bs.length bs.length) rfl
        have hrs:∀ u:V,rdn (X2.set M.length ⟨[u],1,2⟩) M.length 0 1=some [u]:=fun u=>rdn_box (gs_of br2 _) rfl
        have hpS:∀ k:Blk,M <+: X2.set M.length k:=fun k=>pf_set (Nat.le_refl _) hpM
        have hgS:∀ k:Blk,Gr (.sl ty_Block) (X2.set M.length k) [.slice a1 bs.length bs.length] bs L1:=fun k=>(g1.grow p2).set _ (fun hm=>by have:=k1 _ hm; omega)
        have hk1:∀ j ∈ L1,M.length≤j:=fun j hj=>by have:=k1 j hj; omega
        cases hb:blocksB l W bs with
        | false =>
          rw [hb] at hs2
          have hne:¬ ([]:List UInt8)=ys:=fun e=>by rw [← e] at h3n; simp at h3n
          have hie:ys.isEmpty=false:=by cases ys with
            | nil=>exact absurd rfl hne
            | cons _ _=>rfl
          rw [Bool.false_and,if_neg (by simp)]
          simp only [Bool.false_eq_true,if_false,List.length_nil,List.map_nil] at hs2
          have ht0:toBytes []=some []:=rfl
          simp [apA,thenD_pre,p2,hb,hs2,hs3,toBytes_map,ht0,hne,hie,hwn0,hrs,zeroCells]
          exact ⟨(_,_),rfl,_,[],rfl,hpS _,hnil,by simp,by simp⟩
        | true =>
          rw [hb] at hs2
          rw [Bool.true_and]
          simp only [if_true] at hs2
          simp only [if_true,true_and]
          by_cases hq:ndY W bs=ys
          · rw [decide_eq_true hq,if_pos hq]
            rw [hq] at hs2
            simp [apA,thenD_pre,p2,hb,hs2,hs3,toBytes_map,hq,hv2,hwn1,hrs,zeroCells]
            exact ⟨(_,_),rfl,_,L1,rfl,hpS _,hgS _,n1,hk1⟩
          · rw [decide_eq_false hq,if_neg hq]
            simp [apA,thenD_pre,p2,hb,hs2,hs3,toBytes_map,hq,hwn0,hrs,zeroCells]
            exact ⟨(_,_),rfl,_,[],rfl,hpS _,hnil,by simp,by simp⟩
    · have hs:ndOk l W ys=false:=by unfold ndOk; rw [decide_eq_false h3]; simp
      have hx:ndX l W ys=[]:=by simp [ndX,hs]
      rw [hs,hx]
      have h3':¬ (ys.length:Int)=((4 * (W+3):Nat):Int):=by omega
      generalize hsz:4 * (W+3)=sz at *
      rw [aCall_eq T_spec_NodeRead]; unfold A_spec_NodeRead C_spec_NodeRead; simp [apA,e1,e2,h3',zeroCells]
      exact ⟨(_,_),rfl,_,[],rfl,hpre,hnil,by simp,by simp⟩
def NsI (M:Mem) (xs:List ty_Node.D) (v:V) (X:Mem):Prop:=∃ L,M <+: X∧Gr (.sl ty_Node) X [v] xs L∧L.Nodup∧∀ j ∈ L,M.length≤j
set_option maxHeartbeats 2000000 in
theorem l_spec_l14Nodes_0 (M:Mem) (l w b:Int) (sz:Int) (aC:Option Addr) (cC:Nat) (aT:Option Addr) (nT cT:Nat) (aS:Option Addr) (nS cS:Nat) (cells:List ty_Cell.D) (hC:Rep (.sl ty_Cell) M [.slice aC cells.length cC] cells) (hn:cells.length≤1048576) (hsz:∀ c ∈ cells,List.length (α:=UInt8) c≤1048576) (p:Nat)
    (Z:Mem) (hZ:M <+: Z) (hp:Z[p]?=some ⟨aO l w b sz aC cells.length cC aT nT cT aS nS cS,1,2⟩) (v:V) (X:Mem) (h:NsI Z [] v X) :
    (∃ v' X',NsI Z (ndsF w cells) v' X'∧(∀ i,i < cells.length→ndAt l w cells i=true)∧lp (aCall T0) K_spec_l14Nodes_0 L_spec_l14Nodes_0 [O,.pointer (some ⟨p,0,none⟩),O,O,v,.int .i64 (0:Nat),O,O,O,O,O,O,O,O,O,O,O,O,O,O,O,O,O,O,O,O,O,O,O,O,O,O,O,O,O,O,O,O,O] X=lp (aCall T0) K_spec_l14Nodes_0 L_spec_l14Nodes_0 [O,.pointer (some ⟨p,0,none⟩),O,O,v',.int .i64 cells.length,O,O,O,O,O,O,O,O,O,O,O,O,O,O,O,O,O,O,O,O,O,O,O,O,O,O,O,O,O,O,O,O,O] X') ∨
    ((∃ i,i < cells.length∧ndAt l w cells i=false)∧∀ k,Sat (thenF M [.tmp 2,.tmp 3] (thenS (blockR 0 (lp (aCall T0) K_spec_l14Nodes_0 L_spec_l14Nodes_0 [O,.pointer (some ⟨p,0,none⟩),O,O,v,.int .i64 (0:Nat),O,O,O,O,O,O,O,O,O,O,O,O,O,O,O,O,O,O,O,O,O,O,O,O,O,O,O,O,O,O,O,O,O] X)) (aCall T0) k)) (NsV M false [])):=by
  have key:=loop_st (call:=aCall T0) (K:=K_spec_l14Nodes_0) (L:=L_spec_l14Nodes_0) (fun i v X=>NsI Z (ndsF w (cells.take i)) v X) (fun i v=>[O,.pointer (some ⟨p,0,none⟩),O,O,v,.int .i64 i,O,O,O,O,O,O,O,O,O,O,O,O,O,O,O,O,O,O,O,O,O,O,O,O,O,O,O,O,O,O,O,O,O]) (ndAt l w cells) (NsV M false []) (n:=cells.length) (M0:=M) (rs:=[.tmp 2,.tmp 3]) (k0:=0) v X (by simpa [ndsF] using h) ?_ ?_
  · rw [List.take_length] at key
    exact key
  · intro i v X hi hq ⟨L,pX,g0,nd,ge⟩
    rw [ndAt_get hi] at hq
    have hbX:=get_pre pX hp
    obtain ⟨lc,oc,u,rfl,hrd,hrn,hu⟩:=at_Cell (hC.mono (hZ.trans pX)) hi
    have hszi:=hsz _ (List.getElem_mem hi)
    obtain ⟨ua,uc,rfl⟩:=hu.slen
    have hNR:=c_spec_NodeRead X (.slice ua (List.length (α:=UInt8) cells[i]) uc) cells[i] l w hu hszi
    have hx:ndX l w cells[i]=ndB (Int.toNat w) cells[i]:=by unfold ndX; rw [if_pos hq]
    rw [hq,hx] at hNR
    have hts:ndsF w (cells.take (i+1))=ndsF w (cells.take i)++[ndB (Int.toNat w) cells[i]]:=by
      unfold ndsF
      rw [List.take_succ_eq_append_getElem hi,List.map_append]
      rfl
    rw [hts]
    have hlen:(ndsF w (cells.take i)).length=i:=by unfold ndsF; rw [List.length_map,List.length_take]; omega
    generalize ndsF w (cells.take i)=xs at *
    generalize ndB (Int.toNat w) cells[i]=bs at *
    generalize cells[i]=c at *
    have e6:IntKind.i64.wrap ((i:Int)+1)=i+1:=wrap_i64 (by omega) (by omega)
    have r0:rd1 X p 0=some (.int .i64 l):=by simp [rd1,hbX]
    have r1:rd1 X p 1=some (.int .i64 w):=by simp [rd1,hbX]
    have r4:rd1 X p 4=some (.slice (some ⟨lc,oc,none⟩) cells.length cC):=by simp [rd1,hbX]
    rw [S_spec_l14Nodes_0]; unfold B_spec_l14Nodes_0; simp [apA,hi,r0,r1,r4,hrd,zeroCells]
    generalize hx:aCall T0 F_spec_NodeRead _ _=xhx
    obtain ⟨_,X1,rfl,r,L1,rfl,p1,g1,n1,k1⟩:=of_call hx hNR
    clear hx
    simp only at p1 g1
    obtain ⟨a1,rfl⟩:=g1.shape
    simp [apA,thenD_pre,p1,zeroCells]
    generalize hy:appS _ _ _ _ _ _=xhy
    have hdis:∀ j ∈ L1,j ∉ L:=fun j hj hm=>by have:=k1 j hj; have:=g0.lt j hm; omega
    obtain ⟨l4,X4,L',rfl,g4,ag2,len2,hw4,nd4,sub4,hl4⟩:=g0.app (t:=ty_Node) hy (p1.trans (List.prefix_append _ _)) (show Gr ty_Node _ _ bs L1 from g1.grow (List.prefix_append _ _)) (fun j hj=>k1 j hj) nd n1 (by rw [hlen]; omega) (by rw [hlen]; omega)
    clear hy
    have hwL:∀ b ∈ wfs v,Z.length≤b:=by
      obtain ⟨_,_,hw⟩:=g0.gr (K:=0) (by simp)
      exact fun b hb=>ge b (hw b hb)
    have pX4:Z <+: X4:=ag2.pre (pf_app (pX.trans p1)) hwL
    simp [apA,e6]
    refine ⟨_,_,⟨L',pX4,g4,nd4,fun j hj=>?_⟩,rfl⟩
    have hx3:=p1.length_le
    have hpl:=pX.length_le
    rcases sub4 j hj with h | h | h
    · exact ge j h
    · have:=k1 j h; omega
    · simp at hl4; omega
  · intro i v X hi hq ⟨L,pX,g0,nd,ge⟩ k
    rw [ndAt_get hi] at hq
    have hbX:=get_pre pX hp
    obtain ⟨lc,oc,u,rfl,hrd,hrn,hu⟩:=at_Cell (hC.mono (hZ.trans pX)) hi
    have hszi:=hsz _ (List.getElem_mem hi)
    obtain ⟨ua,uc,rfl⟩:=hu.slen
    have hNR:=c_spec_NodeRead X (.slice ua (List.length (α:=UInt8) cells[i]) uc) cells[i] l w hu hszi
    rw [hq] at hNR
    generalize ndX l w cells[i]=bs at *
    generalize cells[i]=c at *
    have r0:rd1 X p 0=some (.int .i64 l):=by simp [rd1,hbX]
    have r1:rd1 X p 1=some (.int .i64 w):=by simp [rd1,hbX]
    have r4:rd1 X p 4=some (.slice (some ⟨lc,oc,none⟩) cells.length cC):=by simp [rd1,hbX]
    rw [S_spec_l14Nodes_0]; unfold B_spec_l14Nodes_0; simp [apA,hi,r0,r1,r4,hrd,zeroCells]
    generalize hx:aCall T0 F_spec_NodeRead _ _=xhx
    obtain ⟨_,X1,rfl,r,L1,rfl,p1,g1,n1,k1⟩:=of_call hx hNR
    clear hx
    simp only at p1 g1
    obtain ⟨a1,rfl⟩:=g1.shape
    simp [apA,thenD_pre,p1,zeroCells]
    exact ⟨(_,_),rfl,_,[],rfl,(hZ.trans pX).trans (p1.trans (List.prefix_append _ _)),Gr.nil,by simp,by simp⟩
theorem c_spec_l14Nodes (M:Mem) (l w b:Int) (m:ty_Mem.D) (st:List ty_Block.D) (aC:Option Addr) (cC:Nat) (aT:Option Addr) (cT:Nat) (aS:Option Addr) (cS:Nat)
    (hC:Rep (.sl ty_Cell) M [.slice aC m.2.1.length cC] m.2.1) (hn:m.2.1.length≤1048576) (hsz:∀ c ∈ m.2.1,List.length (α:=UInt8) c≤1048576) :
    Sat (aCall T0 F_spec_l14Nodes [.agg (aO l w b m.1 aC m.2.1.length cC aT m.2.2.length cT aS st.length cS).toArray] M) (NsV M (m.2.1.all (ndOk l w)) (if m.2.1.all (ndOk l w)=true then ndsF w m.2.1 else [])):=by
  rcases l_spec_l14Nodes_0 M l w b m.1 aC cC aT m.2.2.length cT aS st.length cS m.2.1 hC hn hsz M.length (M++[(⟨aO l w b m.1 aC m.2.1.length cC aT m.2.2.length cT aS st.length cS,1,2⟩:Blk)]) (List.prefix_append _ _) (by simp) (.slice (some ⟨M.length+1,0,none⟩) 0 0) (M++[(⟨aO l w b m.1 aC m.2.1.length cC aT m.2.2.length cT aS st.length cS,1,2⟩:Blk)]++[⟨[],1,2⟩]) ⟨[M.length+1],List.prefix_append _ _,gr0 (t:=ty_Node) (by simp [Ty.w]),by simp,by simp⟩ with ⟨v',X',⟨L,pX,g,nd,ge⟩,hall,e⟩ | ⟨⟨i,hi,hq⟩,e⟩
  · have ha:m.2.1.all (ndOk l w)=true:=List.all_eq_true.2 fun c hc=>by
      obtain ⟨k,hk,rfl⟩:=List.getElem_of_mem hc
      rw [← ndAt_get hk]
      exact hall k hk
    rw [ha,if_pos rfl]
    simp only [Int.natCast_zero,Int.ofNat_zero,List.append_assoc,List.singleton_append,List.cons_append,List.nil_append] at e
    obtain ⟨a,rfl⟩:=g.shape
    have pM:M <+: X':=(List.prefix_append _ _).trans pX
    have hbX:=get_pre pX (show (M++[(⟨aO l w b m.1 aC m.2.1.length cC aT m.2.2.length cT aS st.length cS,1,2⟩:Blk)])[M.length]?=some _ from List.getElem?_concat_length)
    have r4:rd1 X' M.length 4=some (.slice aC m.2.1.length cC):=by simp [rd1,hbX]
    rw [aCall_eq T_spec_l14Nodes]; unfold A_spec_l14Nodes C_spec_l14Nodes; simp [apA,zeroCells,e]
    rw [S_spec_l14Nodes_0]; unfold B_spec_l14Nodes_0; simp [apA,r4]
    exact ⟨(_,X'),rfl,_,L,rfl,pM,g,nd,fun j hj=>by have:=ge j hj; simp at this; omega⟩
  · have ha:m.2.1.all (ndOk l w)=false:=by
      rw [List.all_eq_false]
      exact ⟨m.2.1[i],List.getElem_mem hi,by rw [← ndAt_get hi,hq]; simp⟩
    rw [ha,if_neg (by simp)]
    simp only [Int.natCast_zero,Int.ofNat_zero,List.append_assoc,List.singleton_append,List.cons_append,List.nil_append] at e
    rw [aCall_eq T_spec_l14Nodes]; unfold A_spec_l14Nodes C_spec_l14Nodes; simp [apA,zeroCells]
    exact e _
def cntI (k:Nat) (xs:List ty_Block.D):Nat:=(xs.filter fun b=>decide (Int.toNat b.1=k)).length
def cntV (xs:List ty_Block.D):List V:=(List.range 256).map fun k=>.int .i64 ((cntI k xs:Nat):Int)
theorem cntV_len (xs:List ty_Block.D):(cntV xs).length=256:=by simp [cntV]
theorem cntV_get (xs:List ty_Block.D) {k:Nat} (h:k < 256):(cntV xs)[k]?=some (.int .i64 ((cntI k xs:Nat):Int)):=by simp [cntV,h]
theorem cntI_le (k:Nat) (xs:List ty_Block.D):cntI k xs≤xs.length:=List.length_filter_le _ _
theorem cntI_app (k:Nat) (xs:List ty_Block.D) (b:ty_Block.D):cntI k (xs++[b])=if Int.toNat b.1=k then cntI k xs+1 else cntI k xs:=by
  unfold cntI
  rw [List.filter_append,List.length_append]
  by_cases h:Int.toNat b.1=k
  · rw [if_pos h,List.filter_cons,if_pos (decide_eq_true h)]; rfl
  · rw [if_neg h,List.filter_cons,if_neg (by rw [decide_eq_false h]; simp)]; rfl
theorem splice1 {cs:List V} {o:Nat} {v:V} (h:o < cs.length):splice cs o [v]=cs.set o v:=by
  unfold splice
  rw [List.set_eq_take_append_cons_drop,if_pos h]
  simp
theorem cntV_set (xs:List ty_Block.D) (b:ty_Block.D) (h:Int.toNat b.1 < 256):splice (cntV xs) (Int.toNat b.1) [.int .i64 ((cntI (Int.toNat b.1) xs+1:Nat):Int)]=cntV (xs++[b]):=by
  apply List.ext_getElem?
  intro j
  rw [splice1 (by rw [cntV_len]; exact h),List.getElem?_set]
  by_cases hj:Int.toNat b.1=j
  · subst hj
    rw [if_pos rfl,if_pos (by rw [cntV_len]; exact h),cntV_get _ h,cntI_app,if_pos rfl]
  · rw [if_neg hj]
    by_cases hC:j < 256
    · rw [cntV_get _ hC,cntV_get _ hC,cntI_app,if_neg hj]
    · rw [List.getElem?_eq_none (by rw [cntV_len]; omega),List.getElem?_eq_none (by rw [cntV_len]; omega)]
def SeI (M:Mem) (q:Nat) (xs:List ty_Block.D) (X:Mem):Prop:=M <+: X∧X[q]?=some ⟨cntV xs,1,2⟩
theorem nat_255 {z:Int} (h:0≤z∧z≤255):z=((Int.toNat z:Nat):Int)∧Int.toNat z < 256:=by omega
theorem ids_nat {xs:List ty_Block.D} (h:IdsR xs):∀ b ∈ xs,b.1=((Int.toNat b.1:Nat):Int)∧Int.toNat b.1 < 256:=fun b hb=>nat_255 (h b hb)
set_option maxRecDepth 20000 in
set_option maxHeartbeats 1000000 in
theorem l_spec_OramOk_0 (M:Mem) (p q:Nat) (v3:V) (st:List ty_Block.D) (aS:Option Addr) (cS:Nat) (hS:Rep (.sl ty_Block) M [.slice aS st.length cS] st) (hp:rd1 M p 6=some (.slice aS st.length cS)) (hq:M.length≤q) (hr:IdsR st) (hn:st.length≤1048576) (X:Mem) (h:SeI M q [] X) :
    ∃ (u:Unit) (X':Mem),SeI M q st X'∧lp (aCall T0) K_spec_OramOk_0 L_spec_OramOk_0 [O,.pointer (some ⟨p,0,none⟩),O,v3,O,.slice (some ⟨q,0,none⟩) 256 256,.int .i64 (0:Nat),O,O,O,O,O,O,O,O,O,O,O,O,O,O,O,O,O,O,O,O,O,O,O,O,O,O,O,O,O,O,O,O,O,O,O,O,O,O,O,O,O,O,O,O,O,O,O,O,O,O,O,O,O,O,O,O,O,O,O,O,O,O,O,O,O,O,O,O,O,O,O,O,O,O,O,O,O,O,O,O,O,O,O,O,O,O,O,O,O,O,O,O,O,O,O,O,O,O,O,O,O,O,O,O,O,O,O,O,O,O,O,O,O,O,O,O,O,O,O,O,O,O,O,O,O,O,O,O,O,O,O,O,O,O,O,O,O] X=lp (aCall T0) K_spec_OramOk_0 L_spec_OramOk_0 [O,.pointer (some ⟨p,0,none⟩),O,v3,O,.slice (some ⟨q,0,none⟩) 256 256,.int .i64 st.length,O,O,O,O,O,O,O,O,O,O,O,O,O,O,O,O,O,O,O,O,O,O,O,O,O,O,O,O,O,O,O,O,O,O,O,O,O,O,O,O,O,O,O,O,O,O,O,O,O,O,O,O,O,O,O,O,O,O,O,O,O,O,O,O,O,O,O,O,O,O,O,O,O,O,O,O,O,O,O,O,O,O,O,O,O,O,O,O,O,O,O,O,O,O,O,O,O,O,O,O,O,O,O,O,O,O,O,O,O,O,O,O,O,O,O,O,O,O,O,O,O,O,O,O,O,O,O,O,O,O,O,O,O,O,O,O,O] X':=by
  have key:=loop_to (call:=aCall T0) (K:=K_spec_OramOk_0) (L:=L_spec_OramOk_0) (fun i (_:Unit) X=>SeI M q (st.take i) X) (fun i (_:Unit)=>[O,.pointer (some ⟨p,0,none⟩),O,v3,O,.slice (some ⟨q,0,none⟩) 256 256,.int .i64 i,O,O,O,O,O,O,O,O,O,O,O,O,O,O,O,O,O,O,O,O,O,O,O,O,O,O,O,O,O,O,O,O,O,O,O,O,O,O,O,O,O,O,O,O,O,O,O,O,O,O,O,O,O,O,O,O,O,O,O,O,O,O,O,O,O,O,O,O,O,O,O,O,O,O,O,O,O,O,O,O,O,O,O,O,O,O,O,O,O,O,O,O,O,O,O,O,O,O,O,O,O,O,O,O,O,O,O,O,O,O,O,O,O,O,O,O,O,O,O,O,O,O,O,O,O,O,O,O,O,O,O,O,O,O,O,O,O]) (n:=st.length) ?_ 0 () X (by omega) (by simpa using h)
  · rw [List.take_length] at key
    exact key
  intro i _ X hi ⟨pX,hb⟩
  obtain ⟨l,o,u,rfl,hr0,_⟩:=at_Block (hS.mono pX) hi
  have hid:=ids_nat hr _ (List.getElem_mem hi)
  have hts:st.take (i+1)=st.take i++[st[i]]:=List.take_succ_eq_append_getElem hi
  rw [hts]
  have hset:=cntV_set (st.take i) st[i] hid.2
  have hget:=cntV_get (st.take i) hid.2
  have hle:=cntI_le (Int.toNat st[i].1) (st.take i)
  have hlen:=cntV_len (st.take i)
  have htl:(st.take i).length=i:=by rw [List.length_take]; omega
  rw [hid.1] at hr0
  have hlt:=hid.2
  generalize hcs2:cntV (st.take i++[st[i]])=cs2 at *
  generalize cntI (Int.toNat st[i].1) (st.take i)=z at *
  generalize Int.toNat st[i].1=t at *
  generalize cntV (st.take i)=cs at *
  have e6:IntKind.i64.wrap ((i:Int)+1)=i+1:=wrap_i64 (by omega) (by omega)
  have ez:IntKind.i64.wrap ((z:Int)+1)=(z:Int)+1:=wrap_i64 (by omega) (by omega)
  have hp':=r1_pre pX hp
  have hrq:rd1 X q t=some (.int .i64 (z:Int)):=by simp [rd1,hb,hget]
  have hwr:wrn X q t [.int .i64 ((z:Int)+1)]=some (X.set q ⟨cs2,1,2⟩):=by
    rw [show ((z:Int)+1)=((z+1:Nat):Int) by omega,wrn_eq hb rfl (by show t+1≤cs.length; omega) rfl,← hset]
  refine ⟨(),X.set q ⟨cs2,1,2⟩,⟨pf_set hq pX,by rw [hcs2]; exact gs_of hb _⟩,?_⟩
  have hlt2:(t:Int) < 256:=by omega
  rw [S_spec_OramOk_0]; unfold B_spec_OramOk_0; simp [apA,hi,hp',hr0,hrq,hwr,hlt,hlt2,e6,ez]
def onAll (m:Nat) (ns:List ty_Node.D) (i:Nat):Bool:=match ns[i]? with
  | some bs=>bs.all fun b=>onP m (i+1) (Int.toNat b.2.1)
  | none=>true
theorem onAll_get {m:Nat} {ns:List ty_Node.D} {i:Nat} (h:i < ns.length):onAll m ns i=List.all (α:=ty_Block.D) ns[i] fun b=>onP m (i+1) (Int.toNat b.2.1):=by unfold onAll; rw [List.getElem?_eq_getElem h]
abbrev FtI (p q:Nat) (aN:Option Addr) (nN cN:Nat) (i:Nat):List V:=[O,.pointer (some ⟨p,0,none⟩),O,.slice aN nN cN,O,.slice (some ⟨q,0,none⟩) 256 256,O,.int .i64 i,O,O,O,O,O,O,O,O,O,O,O,O,O,O,O,O,O,O,O,O,O,O,O,O,O,O,O,O,O,O,O,O,O,O,O,O,O,O,O,O,O,O,O,O,O,O,O,O,O,O,O,O,O,O,O,O,O,O,O,O,O,O,O,O,O,O,O,O,O,O,O,O,O,O,O,O,O,O,O,O,O,O,O,O,O,O,O,O,O,O,O,O,O,O,O,O,O,O,O,O,O,O,O,O,O,O,O,O,O,O,O,O,O,O,O,O,O,O,O,O,O,O,O,O,O,O,O,O,O,O,O,O,O,O,O,O]
theorem loop_rt {α:Type} {call:CallT} {K:List Bool} {L:ACode} (Inv:Nat→α→Mem→Prop) (F:Nat→α→List V) (p:Nat→Bool) (Rt:R→Prop) {n:Nat} (s:α) (X:Mem) (h:Inv 0 s X)
    (good:∀ i s X,i < n→p i=true→Inv i s X→∃ s' X',Inv (i+1) s' X'∧lp call K L (F i s) X=lp call K L (F (i+1) s') X')
    (bad:∀ i s X,i < n→p i=false→Inv i s X→Rt (lp call K L (F i s) X)) :
    (∃ s' X',Inv n s' X'∧(∀ i,i < n→p i=true)∧lp call K L (F 0 s) X=lp call K L (F n s') X')∨((∃ i,i < n∧p i=false)∧Rt (lp call K L (F 0 s) X)):=by
  have go:∀ m,m≤n→(∀ i,i < m→p i=true)→∃ s' X',Inv m s' X'∧lp call K L (F 0 s) X=lp call K L (F m s') X':=by
    intro m
    induction m with
    | zero=>intro _ _; exact ⟨s,X,h,rfl⟩
    | succ m ih =>
      intro hm hp
      obtain ⟨s1,X1,h1,e1⟩:=ih (by omega) (fun i hi=>hp i (by omega))
      obtain ⟨s2,X2,h2,e2⟩:=good m s1 X1 (by omega) (hp m (by omega)) h1
      exact ⟨s2,X2,h2,e1.trans e2⟩
  rcases first_bad p n with hg | ⟨j,hj,h1,h2⟩
  · obtain ⟨s',X',i1,i2⟩:=go n (Nat.le_refl _) hg
    exact .inl ⟨s',X',i1,hg,i2⟩
  · obtain ⟨s',X',i1,i2⟩:=go j (by omega) h1
    refine .inr ⟨⟨j,hj,h2⟩,?_⟩
    rw [i2]
    exact bad j s' X' hj h2 i1
theorem at_Node {M:Mem} {a:Option Addr} {n c:Nat} {xs:List ty_Node.D} (h:Rep (.sl ty_Node) M [.slice a n c] xs) {i:Nat} (hi:i < xs.length):∃ l o u,a=some ⟨l,o,none⟩∧rd1 M l (o+i)=some u∧rdn M l (o+i) 1=some [u]∧Rep (.sl ty_Block) M [u] xs[i]:=by
  obtain ⟨_,l,o,rfl,cs,hrd,hrep⟩:=rep_at h hi
  have hl:=hrep.len
  have hw1:ty_Node.w=1:=rfl
  rw [hw1,Nat.mul_one] at hrd
  match cs,hl,hrd,hrep with
  | [u],_,hrd,hrep=>exact ⟨l,o,u,rfl,rd1_of_one hrd,hrd,hrep⟩
def RtB (M:Mem) (r:R):Prop:=∃ fr X',r=some (.ret,fr,X')∧fr[2]?=some (.bool false)∧M <+: X'
abbrev FsI (p q:Nat) (aN:Option Addr) (nN cN:Nat) (i:Nat) (j:Nat):List V:=[O,.pointer (some ⟨p,0,none⟩),O,.slice aN nN cN,O,.slice (some ⟨q,0,none⟩) 256 256,O,.int .i64 i,.int .i64 j,O,O,O,O,O,O,O,O,O,O,O,O,O,O,O,O,O,O,O,O,O,O,O,O,O,O,O,O,O,O,O,O,O,O,O,O,O,O,O,O,O,O,O,O,O,O,O,O,O,O,O,O,O,O,O,O,O,O,O,O,O,O,O,O,O,O,O,O,O,O,O,O,O,O,O,O,O,O,O,O,O,O,O,O,O,O,O,O,O,O,O,O,O,O,O,O,O,O,O,O,O,O,O,O,O,O,O,O,O,O,O,O,O,O,O,O,O,O,O,O,O,O,O,O,O,O,O,O,O,O,O,O,O,O,O]
def onAt (m nd:Nat) (bs:List ty_Block.D) (j:Nat):Bool:=match bs[j]? with
  | some b=>onP m nd (Int.toNat b.2.1)
  | none=>true
theorem onAt_get {m nd:Nat} {bs:List ty_Block.D} {j:Nat} (h:j < bs.length):onAt m nd bs j=onP m nd (Int.toNat bs[j].2.1):=by unfold onAt; rw [List.getElem?_eq_getElem h]
def outL (N j:Nat):List Int:=(List.range j).map fun i=>((N / 2 ^ (j - 1 - i):Nat):Int)
theorem outL_len (N j:Nat):(outL N j).length=j:=by simp [outL]
theorem outL_get {N j i:Nat} (hi:i < (outL N j).length):(outL N j)[i]=((N / 2 ^ (j - 1 - i):Nat):Int):=by simp [outL]
theorem outL_succ (N j:Nat):outL N (j+1)=((N / 2 ^ j:Nat):Int) :: outL N j:=by
  unfold outL
  rw [List.range_succ_eq_map,List.map_cons,List.map_map]
  congr 1
  refine List.map_congr_left fun i _=>?_
  simp only [Function.comp]
  congr 3
  omega
def Ic (xs:List Int):List V:=xs.map fun n=>(.int .i64 n:V)
theorem Ic_len (xs:List Int):(Ic xs).length=xs.length:=by simp [Ic]
theorem Ic_one (xs:List Int):(Ic xs).all one=true:=by
  rw [List.all_eq_true]
  intro v hv
  obtain ⟨n,_,rfl⟩:=List.mem_map.1 hv
  rfl
def PnI (M:Mem) (N j:Nat) (v:V) (X:Mem):Prop:=M <+: X∧Grow M.length 1 X v j (Ic (outL N j))
theorem l_spec_PathNodes_0 (M:Mem) (N n:Nat) (hN:N < 128) (hn:n≤7) (hge:∀ j,j < n→1≤N / 2 ^ j) (v:V) (Z:Mem) (hZ:PnI M N 0 v Z) :
    ∃ v' X',PnI M N n v' X'∧lp (aCall T0) K_spec_PathNodes_0 L_spec_PathNodes_0 [O,O,O,O,O,v,.int .i64 ((N / 2 ^ 0:Nat):Int),O,O,O,O,O,O,O,O,O,O,O,O,O,O,O,O,O,O] Z=lp (aCall T0) K_spec_PathNodes_0 L_spec_PathNodes_0 [O,O,O,O,O,v',.int .i64 ((N / 2 ^ n:Nat):Int),O,O,O,O,O,O,O,O,O,O,O,O,O,O,O,O,O,O] X':=by
  refine loop_to (call:=aCall T0) (K:=K_spec_PathNodes_0) (L:=L_spec_PathNodes_0) (fun j v X=>PnI M N j v X) (fun j v=>[O,O,O,O,O,v,.int .i64 ((N / 2 ^ j:Nat):Int),O,O,O,O,O,O,O,O,O,O,O,O,O,O,O,O,O,O]) (n:=n) ?_ 0 v Z (by omega) hZ
  intro j v X hj ⟨pX,gX⟩
  have hq:(N / 2 ^ j) / 2=N / 2 ^ (j+1):=by rw [Nat.div_div_eq_div_mul,Nat.pow_succ]
  have hle:=Nat.div_le_self N (2 ^ j)
  have h1:(1:Int)≤((N / 2 ^ j:Nat):Int):=by have:=hge j hj; omega
  have hd:IntKind.i64.wrap (((N / 2 ^ j:Nat):Int) / 2)=((N / 2 ^ (j+1):Nat):Int):=by rw [← hq,wrap_i64 (by omega) (by omega)]; rfl
  have hc:=fun Y:Mem=>(gX.pre (List.prefix_append X Y)).cells
  have hgl:=gX.ge
  have hpl:=pX.length_le
  unfold PnI
  rw [outL_succ]
  generalize N / 2 ^ (j+1)=q2 at hd ⊢
  generalize N / 2 ^ j=q at hd h1 ⊢
  have hg1:Grow M.length 1 (X++[(⟨[.int .i64 q],1,2⟩:Blk)]) (.slice (some ⟨X.length,0,none⟩) 1 1) 1 [.int .i64 q]:=Grow.new hpl rfl
  obtain ⟨av,rfl⟩:=gX.shape
  by_cases h0:j=0
  · subst h0
    have e0:outL N 0=[]:=rfl
    rw [e0] at hc ⊢
    rw [S_spec_PathNodes_0]; unfold B_spec_PathNodes_0; simp [apA,h1,hc,appS,hd,Ic]
    exact ⟨_,_,⟨pf_app pX,hg1⟩,rfl⟩
  · rw [S_spec_PathNodes_0]; unfold B_spec_PathNodes_0; simp [apA,h1,hc]
    generalize hy:appS _ _ _ _ _ _=xhy
    obtain ⟨a3,X3,rfl,g3,ag,l3⟩:=hg1.at hy (List.prefix_refl _) (by simp; omega) (by rw [Ic_len,outL_len]; omega) (by omega) (Ic_one _) (by omega) (by omega)
    clear hy
    have ec:1+j=j+1:=by omega
    simp only [ec] at g3
    simp [apA,hd,ec]
    exact ⟨_,_,⟨ag.pre (pf_app pX) fun b hb=>hg1.ge b hb,g3⟩,rfl⟩
def PnD (M:Mem) (m a:Nat) (p:V × Mem):Prop:=∃ av:Option Addr,p.1=.slice av (m+1) (m+1)∧M <+: p.2∧Grow M.length 1 p.2 (.slice av (m+1) (m+1)) (m+1) (Ic (outL (2 ^ m+a) (m+1)))
theorem c_spec_PathNodes (M:Mem) (m a:Nat) (hm:m≤6) (ha:a < 2 ^ m):Sat (aCall T0 F_spec_PathNodes [.int .i64 m,.int .i64 a] M) (PnD M m a):=by
  have hp:2 ^ m≤2 ^ 6:=Nat.pow_le_pow_right (by omega) hm
  have hL:leafB m a=true:=by
    unfold leafB lgB
    have:(a:Int) < 2 ^ m:=by rw [pow2_cast]; omega
    simp [this]; omega
  have e1:=fun M=>c_spec_l11Leaf M m a
  rw [hL] at e1
  have e2:=fun M=>c_spec_l02Pow M m (by omega)
  have e3:IntKind.i64.wrap ((2:Int) ^ m+a)=((2 ^ m+a:Nat):Int):=by rw [pow2_cast,wrap_i64 (by omega) (by omega)]; omega
  have hge:∀ j,j < m+1→1≤(2 ^ m+a) / 2 ^ j:=fun j hj=>by
    have h1:2 ^ j≤2 ^ m:=Nat.pow_le_pow_right (by omega) (by omega)
    exact (Nat.le_div_iff_mul_le (Nat.two_pow_pos j)).2 (by omega)
  have hz:(2 ^ m+a) / 2 ^ (m+1)=0:=Nat.div_eq_of_lt (by rw [Nat.pow_succ]; omega)
  obtain ⟨v',X',⟨pX,gX⟩,e⟩:=l_spec_PathNodes_0 M (2 ^ m+a) (m+1) (by omega) (by omega) hge (.slice (some ⟨M.length,0,none⟩) 0 0) (M++[⟨[],1,2⟩]) ⟨List.prefix_append _ _,Grow.new (Nat.le_refl _) rfl⟩
  simp only [Nat.pow_zero,Nat.div_one,hz] at e
  obtain ⟨av,rfl⟩:=gX.shape
  unfold PnD
  generalize 2 ^ m+a=N at e e3 gX
  rw [aCall_eq T_spec_PathNodes]; unfold A_spec_PathNodes C_spec_PathNodes; simp [apA,e1,e2,e3,zeroCells,e]
  rw [S_spec_PathNodes_0]; unfold B_spec_PathNodes_0; simp [apA]
  exact ⟨(_,X'),rfl,av,rfl,pX,gX⟩
theorem Ic_at {K:Nat} {M:Mem} {a:Option Addr} {n:Nat} {xs:List Int} (h:Grow K 1 M (.slice a n n) n (Ic xs)) {i:Nat} (hi:i < xs.length):∃ l o,a=some ⟨l,o,none⟩∧rd1 M l (o+i)=some (.int .i64 xs[i]):=by
  obtain ⟨h1,⟨h2,rfl⟩ | ⟨l,_,hv,hb⟩⟩:=h
  · rw [Ic_len] at h1; omega
  · cases hv
    exact ⟨l,0,rfl,by simp [rd1,hb,Ic,hi]⟩
theorem blen_le {x k:Nat}:blen x≤k ↔ x < 2 ^ k:=by
  unfold blen
  by_cases h:x=0
  · subst h
    simp [Nat.two_pow_pos]
  · rw [if_neg h,← Nat.log2_lt h]
    omega
theorem blen_pos {x:Nat} (h:0 < x):1≤blen x:=by
  unfold blen
  rw [if_neg (by omega)]
  omega
theorem path_len {m leaf i:Nat} (hl:leaf < 2 ^ m) (hi:i≤m):blen ((2 ^ m+leaf) / 2 ^ (m - i))=i+1:=by
  have e:2 ^ m=2 ^ i * 2 ^ (m - i):=by rw [← Nat.pow_add]; congr 1; omega
  have hd:(2 ^ m+leaf) / 2 ^ (m - i)=2 ^ i+leaf / 2 ^ (m - i):=by
    rw [e,Nat.add_comm,Nat.add_mul_div_right _ _ (Nat.two_pow_pos _),Nat.add_comm]
  have hlt:leaf / 2 ^ (m - i) < 2 ^ i:=by
    rw [Nat.div_lt_iff_lt_mul (Nat.two_pow_pos _),← e]
    exact hl
  have key:∀ q,q < 2 ^ i→blen (2 ^ i+q)=i+1:=by
    intro q hq
    have hpos:=Nat.two_pow_pos i
    have h1:blen (2 ^ i+q)≤i+1:=blen_le.2 (by rw [Nat.pow_succ]; omega)
    have h2:¬ blen (2 ^ i+q)≤i:=fun h=>by
      have:=blen_le.1 h
      omega
    omega
  rw [hd]
  exact key _ hlt
theorem onP_iff {m node leaf:Nat} (hl:leaf < 2 ^ m) (h2:node < 2 * 2 ^ m) (h1:1≤node):onP m node leaf=true ↔ ∃ i,i < m+1∧(2 ^ m+leaf) / 2 ^ (m - i)=node:=by
  unfold onP
  rw [decide_eq_true_eq]
  have hb:blen node≤m+1:=blen_le.2 (by rw [Nat.pow_succ]; omega)
  have hb1:=blen_pos (x:=node) (by omega)
  constructor
  · intro h
    exact ⟨blen node - 1,by omega,h⟩
  · rintro ⟨i,hi,rfl⟩
    rw [path_len hl (by omega)]
    simp
theorem gc_boolp {M M':Mem} (hp:M <+: M') (b:Bool):gc M (some (.bool b,M'))=some (.bool b,M):=by
  obtain ⟨N,rfl⟩:=hp
  exact gc_bool M N b
theorem c_spec_OnPath (M:Mem) (m node leaf:Nat) (hm:m≤6) (hl:leaf < 2 ^ m) (h1:1≤node) (h2:node < 2 * 2 ^ m):aCall T0 F_spec_OnPath [.int .i64 m,.int .i64 node,.int .i64 leaf] M=some (.bool (onP m node leaf),M):=by
  obtain ⟨⟨v1,X1⟩,ep,av,hv1,p1,hg⟩:=c_spec_PathNodes M m leaf hm hl
  simp only at hv1 p1 hg
  subst hv1
  have hlen:=outL_len (2 ^ m+leaf) (m+1)
  have hget:∀ i,i < m+1→(outL (2 ^ m+leaf) (m+1))[i]?=some (((2 ^ m+leaf) / 2 ^ (m - i):Nat):Int):=fun i hi=>by
    rw [List.getElem?_eq_getElem (by omega),outL_get]
    congr 4
  have hat:∀ i,i < m+1→∃ l o,av=some ⟨l,o,none⟩∧rd1 X1 l (o+i)=some (.int .i64 (((2 ^ m+leaf) / 2 ^ (m - i):Nat):Int)):=fun i hi=>by
    obtain ⟨l,o,e,hr⟩:=Ic_at hg (i:=i) (by omega)
    refine ⟨l,o,e,?_⟩
    have:=hget i hi
    rw [List.getElem?_eq_getElem (by omega)] at this
    rw [hr,Option.some.inj this]
  have hp:2 ^ m≤2 ^ 6:=Nat.pow_le_pow_right (by omega) hm
  have gb:=fun b=>gc_boolp p1 b
  have key:=loop_ok (call:=aCall T0) (K:=K_spec_OnPath_0) (L:=L_spec_OnPath_0) (fun _ Y=>Y=X1) (fun i=>[O,.int .i64 node,O,O,O,O,O,.slice av (m+1) (m+1),.int .i64 i,O,O,O,O,O,O,O,O,O,O,O,O,O,O,O]) (fun i=>decide (¬ (2 ^ m+leaf) / 2 ^ (m - i)=node)) (n:=m+1) (M0:=M) (rs:=[.tmp 6]) (k0:=0) (a:=.bool true) X1 rfl ?_ ?_
  · rcases key with ⟨X',rfl,ha,e⟩ | ⟨⟨i,hi,hx⟩,e⟩
    · simp only [Int.natCast_zero,Int.ofNat_zero] at e
      have hf:onP m node leaf=false:=by
        cases ho:onP m node leaf with
        | false=>rfl
        | true =>
          obtain ⟨i,hi,h⟩:=(onP_iff hl h2 h1).1 ho
          have:=of_decide_eq_true (ha i hi)
          exact absurd h this
      rw [hf]
      rw [aCall_eq T_spec_OnPath]; unfold A_spec_OnPath C_spec_OnPath; simp [apA,ep,e]
      rw [S_spec_OnPath_0]; unfold B_spec_OnPath_0; simp [apA,gb]
    · simp only [Int.natCast_zero,Int.ofNat_zero] at e
      have ht:onP m node leaf=true:=(onP_iff hl h2 h1).2 ⟨i,hi,by simpa using hx⟩
      rw [ht]
      rw [aCall_eq T_spec_OnPath]; unfold A_spec_OnPath C_spec_OnPath; simp [apA,ep,e]
  · intro i Y hi hq hY
    subst hY
    have e6:IntKind.i64.wrap ((i:Int)+1)=i+1:=wrap_i64 (by omega) (by omega)
    obtain ⟨l,o,rfl,hr⟩:=hat i hi
    have hq:=of_decide_eq_true hq
    have hmi:(i:Int) < (m:Int)+1:=by omega
    generalize (2 ^ m+leaf) / 2 ^ (m - i)=q at *
    have hq':¬ (q:Int)=(node:Int):=by omega
    refine ⟨Y,rfl,?_⟩
    rw [S_spec_OnPath_0]; unfold B_spec_OnPath_0; simp [apA,hi,hmi,hr,hq',hq,e6]
  · intro i Y hi hq hY k
    subst hY
    obtain ⟨l,o,rfl,hr⟩:=hat i hi
    have hq:(2 ^ m+leaf) / 2 ^ (m - i)=node:=by simpa using hq
    rw [hq] at hr
    have hmi:(i:Int) < (m:Int)+1:=by omega
    rw [S_spec_OnPath_0]; unfold B_spec_OnPath_0; simp [apA,hi,hmi,hr,gb]
set_option maxRecDepth 20000 in
set_option maxHeartbeats 2000000 in
theorem l_spec_OramOk_2 (M:Mem) (p q m:Nat) (aN:Option Addr) (cN:Nat) (ns:List ty_Node.D) (hN:Rep (.sl ty_Node) M [.slice aN ns.length cN] ns) (hp:rd1 M p 0=some (.int .i64 (m:Int))) (hq:M.length≤q) (hm:m≤6) (hlen:ns.length+1=2 * 2 ^ m) (i:Nat) (hi:i < ns.length) (hbs:∀ b ∈ ns[i],(0≤b.1∧b.1≤255)∧b.2.1=((Int.toNat b.2.1:Nat):Int)∧Int.toNat b.2.1 < 2 ^ m) (hnl:ns[i].length≤4)
    (xs:List ty_Block.D) (hxs:xs.length≤100000) (X:Mem) (h:SeI M q xs X) :
    (∃ (u:Unit) (X':Mem),SeI M q (xs++ns[i]) X'∧(∀ j,j < ns[i].length→onAt m (i+1) ns[i] j=true)∧lp (aCall T0) K_spec_OramOk_2 L_spec_OramOk_2 (FsI p q aN ns.length cN i 0) X=lp (aCall T0) K_spec_OramOk_2 L_spec_OramOk_2 (FsI p q aN ns.length cN i ns[i].length) X') ∨
    ((∃ j,j < ns[i].length∧onAt m (i+1) ns[i] j=false)∧RtB M (lp (aCall T0) K_spec_OramOk_2 L_spec_OramOk_2 (FsI p q aN ns.length cN i 0) X)):=by
  have hp6:2 ^ m≤2 ^ 6:=Nat.pow_le_pow_right (by omega) hm
  have key:=loop_rt (call:=aCall T0) (K:=K_spec_OramOk_2) (L:=L_spec_OramOk_2) (fun j (_:Unit) X=>SeI M q (xs++ns[i].take j) X) (fun j (_:Unit)=>FsI p q aN ns.length cN i j) (onAt m (i+1) ns[i]) (RtB M) (n:=ns[i].length) () X (by simpa using h) ?_ ?_
  · rw [List.take_length] at key
    exact key
  all_goals
    intro j _ X hj ho ⟨pX,hb⟩
    rw [onAt_get hj] at ho
    obtain ⟨l,o,u,rfl,hru,_,hrep⟩:=at_Node (hN.mono pX) hi
    obtain ⟨a1,c1,rfl⟩:=hrep.slen
    obtain ⟨l1,o1,u1,rfl,_,_,_,hrb,_,_,hub,_⟩:=at_Block hrep hj
    obtain ⟨ub,uc,rfl⟩:=hub.slen
    have hk:=hbs _ (List.getElem_mem hj)
    have hid:=nat_255 hk.1
    have hts:xs++ns[i].take (j+1)=(xs++ns[i].take j)++[ns[i][j]]:=by rw [List.take_succ_eq_append_getElem hj,List.append_assoc]
    have hset:=cntV_set (xs++ns[i].take j) ns[i][j] hid.2
    have hget:=cntV_get (xs++ns[i].take j) hid.2
    have hle:=cntI_le (Int.toNat ns[i][j].1) (xs++ns[i].take j)
    have hln:=cntV_len (xs++ns[i].take j)
    have htl:(xs++ns[i].take j).length≤200000:=by rw [List.length_append,List.length_take]; omega
    have hon:∀ Y,aCall T0 F_spec_OnPath [.int .i64 m,.int .i64 ((i:Int)+1),.int .i64 (Int.toNat ns[i][j].2.1:Int)] Y=some (.bool (onP m (i+1) (Int.toNat ns[i][j].2.1)),Y):=fun Y=>c_spec_OnPath Y m (i+1) (Int.toNat ns[i][j].2.1) hm (by exact hk.2.2) (by omega) (by omega)
    rw [hid.1,hk.2.1] at hrb
    rw [ho] at hon
    have hlt:=hid.2
    generalize hcs2:cntV ((xs++ns[i].take j)++[ns[i][j]])=cs2 at *
    generalize cntI (Int.toNat ns[i][j].1) (xs++ns[i].take j)=z at *
    generalize Int.toNat ns[i][j].1=t at *
    generalize Int.toNat ns[i][j].2.1=lf at *
    generalize hdl:List.length (α:=UInt8) ns[i][j].2.2=dl at *
    generalize cntV (xs++ns[i].take j)=cs at *
    have e6:IntKind.i64.wrap ((j:Int)+1)=j+1:=wrap_i64 (by omega) (by omega)
    have e7:IntKind.i64.wrap ((i:Int)+1)=i+1:=wrap_i64 (by omega) (by omega)
    have ez:IntKind.i64.wrap ((z:Int)+1)=(z:Int)+1:=wrap_i64 (by omega) (by omega)
    have pB:M <+: X++[(⟨[.int .i64 (t:Int),.int .i64 (lf:Int),.slice ub dl uc],1,2⟩:Blk)]:=pX.trans (List.prefix_append _ _)
    have hp':=fun N:Mem=>r1_pre (pX.trans (List.prefix_append X N)) hp
    have hlt2:(t:Int) < 256:=by omega
    have hqX:=get_lt hb
    have hbB:=get_pre (List.prefix_append X [(⟨[.int .i64 (t:Int),.int .i64 (lf:Int),.slice ub dl uc],1,2⟩:Blk)]) hb
    have hwr:wrn (X++[(⟨[.int .i64 (t:Int),.int .i64 (lf:Int),.slice ub dl uc],1,2⟩:Blk)]) q t [.int .i64 ((z:Int)+1)]=some ((X++[(⟨[.int .i64 (t:Int),.int .i64 (lf:Int),.slice ub dl uc],1,2⟩:Blk)]).set q ⟨cs2,1,2⟩):=by
      rw [show ((z:Int)+1)=((z+1:Nat):Int) by omega,wrn_eq hbB rfl (by show t+1≤cs.length; omega) rfl,← hset]
    have hrq:rd1 (X++[(⟨[.int .i64 (t:Int),.int .i64 (lf:Int),.slice ub dl uc],1,2⟩:Blk)]) q t=some (.int .i64 (z:Int)):=by simp [rd1,hbB,hget]
    have pS:=pf_set (b:=⟨cs2,1,2⟩) hq pB
    have hpS:=r1_pre pS hp
    have hbx:((X++[(⟨[.int .i64 (t:Int),.int .i64 (lf:Int),.slice ub dl uc],1,2⟩:Blk)]).set q ⟨cs2,1,2⟩)[X.length]?=some ⟨[.int .i64 (t:Int),.int .i64 (lf:Int),.slice ub dl uc],1,2⟩:=by
      rw [List.getElem?_set_ne (by omega)]
      simp
    have hbr:rd1 ((X++[(⟨[.int .i64 (t:Int),.int .i64 (lf:Int),.slice ub dl uc],1,2⟩:Blk)]).set q ⟨cs2,1,2⟩) X.length 1=some (.int .i64 (lf:Int)):=by simp only [rd1,hbx]; rfl
  · refine ⟨(),_,⟨pS,by rw [hts,hcs2]; exact gs_of hbB _⟩,?_⟩
    rw [S_spec_OramOk_2]; unfold B_spec_OramOk_2; simp [apA,hi,hj,hru,hrb,hp',hrq,hwr,hlt,hlt2,hpS,hbr,hon,e6,e7,ez]
    rfl
  · rw [S_spec_OramOk_2]; unfold B_spec_OramOk_2; simp [apA,hi,hj,hru,hrb,hp',hrq,hwr,hlt,hlt2,hpS,hbr,hon,e6,e7,ez]
    refine ⟨_,_,rfl,?_,pS⟩
    rfl
theorem flatten_take {α:Type} (ns:List (List α)) {i:Nat} (hi:i < ns.length):(ns.take (i+1)).flatten=(ns.take i).flatten++ns[i]:=by
  rw [List.take_succ_eq_append_getElem hi,List.flatten_append,List.flatten_cons,List.flatten_nil,List.append_nil]
theorem flatten_len {α:Type} {ns:List (List α)} {k:Nat} (h:∀ x ∈ ns,x.length≤k):ns.flatten.length≤ns.length * k:=by
  induction ns with
  | nil=>simp
  | cons x xs ih =>
    rw [List.flatten_cons,List.length_append,List.length_cons,Nat.succ_mul]
    have h1:=h x (by simp)
    have h2:=ih (fun y hy=>h y (by simp [hy]))
    omega
set_option maxRecDepth 20000 in
set_option maxHeartbeats 2000000 in
theorem l_spec_OramOk_1 (M:Mem) (p q m:Nat) (aN:Option Addr) (cN:Nat) (ns:List ty_Node.D) (hN:Rep (.sl ty_Node) M [.slice aN ns.length cN] ns) (hp:rd1 M p 0=some (.int .i64 (m:Int))) (hq:M.length≤q) (hm:m≤6) (hlen:ns.length+1=2 * 2 ^ m) (hbs:∀ bs ∈ ns,∀ b ∈ bs,(0≤b.1∧b.1≤255)∧b.2.1=((Int.toNat b.2.1:Nat):Int)∧Int.toNat b.2.1 < 2 ^ m) (hnl:∀ bs ∈ ns,List.length (α:=ty_Block.D) bs≤4)
    (st:List ty_Block.D) (hst:st.length≤1000) (X:Mem) (h:SeI M q st X) :
    (∃ (u:Unit) (X':Mem),SeI M q (st++ns.flatten) X'∧(∀ i,i < ns.length→onAll m ns i=true)∧lp (aCall T0) K_spec_OramOk_1 L_spec_OramOk_1 (FtI p q aN ns.length cN 0) X=lp (aCall T0) K_spec_OramOk_1 L_spec_OramOk_1 (FtI p q aN ns.length cN ns.length) X') ∨
    ((∃ i,i < ns.length∧onAll m ns i=false)∧RtB M (lp (aCall T0) K_spec_OramOk_1 L_spec_OramOk_1 (FtI p q aN ns.length cN 0) X)):=by
  have hp6:2 ^ m≤2 ^ 6:=Nat.pow_le_pow_right (by omega) hm
  have key:=loop_rt (call:=aCall T0) (K:=K_spec_OramOk_1) (L:=L_spec_OramOk_1) (fun i (_:Unit) X=>SeI M q (st++(ns.take i).flatten) X) (fun i (_:Unit)=>FtI p q aN ns.length cN i) (onAll m ns) (RtB M) (n:=ns.length) () X (by simpa using h) ?_ ?_
  · rw [List.take_length] at key
    exact key
  all_goals
    intro i _ X hi ho hX
    rw [onAll_get hi] at ho
    have hfl:=flatten_len (ns:=ns.take i) (k:=4) (fun x hx=>hnl x (List.mem_of_mem_take hx))
    rw [List.length_take] at hfl
    have key:=l_spec_OramOk_2 M p q m aN cN ns hN hp hq hm hlen i hi (hbs _ (List.getElem_mem hi)) (hnl _ (List.getElem_mem hi)) (st++(ns.take i).flatten) (by rw [List.length_append]; omega) X hX
    have e6:IntKind.i64.wrap ((i:Int)+1)=i+1:=wrap_i64 (by omega) (by omega)
    obtain ⟨l,o,u,rfl,hru,_,hrep⟩:=at_Node (hN.mono hX.1) hi
    obtain ⟨a1,c1,rfl⟩:=hrep.slen
    simp only [FsI,Int.natCast_zero,Int.ofNat_zero] at key
    rcases key with ⟨_,X',hX',hall,e⟩ | ⟨⟨j,hj,hon⟩,fr,X',e,q2,q3⟩
  · refine ⟨(),X',by rw [flatten_take ns hi,← List.append_assoc]; exact hX',?_⟩
    obtain ⟨l',o',u',e',hru',_,hrep'⟩:=at_Node (hN.mono hX'.1) hi
    cases e'
    obtain ⟨a1',c1',rfl⟩:=hrep'.slen
    rw [S_spec_OramOk_1]; unfold B_spec_OramOk_1; simp [apA,hi,e]
    rw [S_spec_OramOk_2]; unfold B_spec_OramOk_2; simp [apA,hi,hru',e6]
    try rfl
  · exfalso
    rw [onAt_get hj] at hon
    have:=List.all_eq_true.1 ho _ (List.getElem_mem hj)
    rw [hon] at this
    cases this
  · exfalso
    have:(List.all (α:=ty_Block.D) ns[i] fun b=>onP m (i+1) (Int.toNat b.2.1))=true:=List.all_eq_true.2 fun b hb=>by
      obtain ⟨k,hk,rfl⟩:=List.getElem_of_mem hb
      rw [← onAt_get hk]
      exact hall k hk
    rw [this] at ho
    cases ho
  · rw [S_spec_OramOk_1]; unfold B_spec_OramOk_1; simp [apA,hi,e]
    exact ⟨fr,X',rfl,q2,q3⟩
set_option maxRecDepth 20000 in
set_option maxHeartbeats 2000000 in
theorem l_spec_OramOk_3 (M:Mem) (q:Nat) (xs:List ty_Block.D) (X:Mem) (h:SeI M q xs X) :
    (∃ X',X'=X∧(∀ i,i < 256→decide (cntI i xs≤1)=true)∧lp (aCall T0) K_spec_OramOk_3 L_spec_OramOk_3 [O,O,O,O,O,.slice (some ⟨q,0,none⟩) 256 256,O,O,O,O,.int .i64 (0:Nat),O,O,O,O,O,O,O,O,O,O,O,O,O,O,O,O,O,O,O,O,O,O,O,O,O,O,O,O,O,O,O,O,O,O,O,O,O,O,O,O,O,O,O,O,O,O,O,O,O,O,O,O,O,O,O,O,O,O,O,O,O,O,O,O,O,O,O,O,O,O,O,O,O,O,O,O,O,O,O,O,O,O,O,O,O,O,O,O,O,O,O,O,O,O,O,O,O,O,O,O,O,O,O,O,O,O,O,O,O,O,O,O,O,O,O,O,O,O,O,O,O,O,O,O,O,O,O,O,O,O,O,O,O] X=lp (aCall T0) K_spec_OramOk_3 L_spec_OramOk_3 [O,O,O,O,O,.slice (some ⟨q,0,none⟩) 256 256,O,O,O,O,.int .i64 (256:Nat),O,O,O,O,O,O,O,O,O,O,O,O,O,O,O,O,O,O,O,O,O,O,O,O,O,O,O,O,O,O,O,O,O,O,O,O,O,O,O,O,O,O,O,O,O,O,O,O,O,O,O,O,O,O,O,O,O,O,O,O,O,O,O,O,O,O,O,O,O,O,O,O,O,O,O,O,O,O,O,O,O,O,O,O,O,O,O,O,O,O,O,O,O,O,O,O,O,O,O,O,O,O,O,O,O,O,O,O,O,O,O,O,O,O,O,O,O,O,O,O,O,O,O,O,O,O,O,O,O,O,O,O,O] X') ∨
    ((∃ i,i < 256∧decide (cntI i xs≤1)=false)∧RtB M (lp (aCall T0) K_spec_OramOk_3 L_spec_OramOk_3 [O,O,O,O,O,.slice (some ⟨q,0,none⟩) 256 256,O,O,O,O,.int .i64 (0:Nat),O,O,O,O,O,O,O,O,O,O,O,O,O,O,O,O,O,O,O,O,O,O,O,O,O,O,O,O,O,O,O,O,O,O,O,O,O,O,O,O,O,O,O,O,O,O,O,O,O,O,O,O,O,O,O,O,O,O,O,O,O,O,O,O,O,O,O,O,O,O,O,O,O,O,O,O,O,O,O,O,O,O,O,O,O,O,O,O,O,O,O,O,O,O,O,O,O,O,O,O,O,O,O,O,O,O,O,O,O,O,O,O,O,O,O,O,O,O,O,O,O,O,O,O,O,O,O,O,O,O,O,O,O] X)):=by
  have key:=loop_rt (call:=aCall T0) (K:=K_spec_OramOk_3) (L:=L_spec_OramOk_3) (fun _ (_:Unit) Y=>Y=X) (fun i (_:Unit)=>[O,O,O,O,O,.slice (some ⟨q,0,none⟩) 256 256,O,O,O,O,.int .i64 i,O,O,O,O,O,O,O,O,O,O,O,O,O,O,O,O,O,O,O,O,O,O,O,O,O,O,O,O,O,O,O,O,O,O,O,O,O,O,O,O,O,O,O,O,O,O,O,O,O,O,O,O,O,O,O,O,O,O,O,O,O,O,O,O,O,O,O,O,O,O,O,O,O,O,O,O,O,O,O,O,O,O,O,O,O,O,O,O,O,O,O,O,O,O,O,O,O,O,O,O,O,O,O,O,O,O,O,O,O,O,O,O,O,O,O,O,O,O,O,O,O,O,O,O,O,O,O,O,O,O,O,O,O]) (fun i=>decide (cntI i xs≤1)) (RtB M) (n:=256) () X rfl ?_ ?_
  · rcases key with ⟨_,X',h1,h2,h3⟩ | h
    · exact .inl ⟨X',h1,h2,h3⟩
    · exact .inr h
  all_goals
    intro i _ Y hi ho hY
    subst hY
    have hget:=cntV_get xs hi
    have hr:rd1 Y q i=some (.int .i64 (cntI i xs:Int)):=by simp [rd1,h.2,hget]
    have e6:IntKind.i64.wrap ((i:Int)+1)=i+1:=wrap_i64 (by omega) (by omega)
    have hi2:(i:Int) < 256:=by omega
  · have ho:=of_decide_eq_true ho
    generalize cntI i xs=z at *
    have ho2:¬ (1:Int) < (z:Int):=by omega
    refine ⟨(),Y,rfl,?_⟩
    rw [S_spec_OramOk_3]; unfold B_spec_OramOk_3; simp [apA,hi,hi2,hr,ho2,e6]
    try rfl
  · have ho:=of_decide_eq_false ho
    generalize cntI i xs=z at *
    have ho2:(1:Int) < (z:Int):=by omega
    rw [S_spec_OramOk_3]; unfold B_spec_OramOk_3; simp [apA,hi,hi2,hr,ho2,e6]
    refine ⟨_,_,rfl,?_,h.1⟩
    rfl
def flI (k:Nat) (xs:List ty_Block.D):List ty_Block.D:=xs.filter fun b=>decide (Int.toNat b.1=k)
theorem cntI_fl (k:Nat) (xs:List ty_Block.D):cntI k xs=(flI k xs).length:=rfl
theorem toNat_inj {a b:Int} (ha:0≤a) (hb:0≤b) (h:Int.toNat a=Int.toNat b):a=b:=by omega
theorem cnt_lt {xs:List ty_Block.D} (h:IdLt xs) (hr:IdsR xs) (k:Nat):cntI k xs≤1:=by
  rw [cntI_fl]
  by_cases h2:(flI k xs).length≤1
  · exact h2
  · exfalso
    have hs:(flI k xs).Pairwise fun a b=>a.1 < b.1:=h.sublist List.filter_sublist
    have h3:=List.pairwise_iff_getElem.1 hs 0 1 (by omega) (by omega) (by omega)
    have m0:=List.mem_filter.1 (List.getElem_mem (show 0 < (flI k xs).length by omega))
    have m1:=List.mem_filter.1 (List.getElem_mem (show 1 < (flI k xs).length by omega))
    have e:=toNat_inj (hr _ m0.1).1 (hr _ m1.1).1 ((of_decide_eq_true m0.2).trans (of_decide_eq_true m1.2).symm)
    rw [e] at h3
    exact Int.lt_irrefl _ h3
theorem flI_app (k:Nat) (xs ys:List ty_Block.D):flI k (xs++ys)=flI k xs++flI k ys:=List.filter_append ..
theorem lbB_le (id:Int):∀ (xs:List ty_Block.D),lbB id xs≤xs.length
  | []=>by simp [lbB]
  | b :: xs=>by
    have ih:=lbB_le id xs
    unfold lbB at ih ⊢
    by_cases h:b.1 < id
    · simp only [List.takeWhile_cons,decide_eq_true h,if_true,List.length_cons]; omega
    · simp only [List.takeWhile_cons,decide_eq_false h,Bool.false_eq_true,if_false,List.length_nil]; omega
theorem sorted_above {xs:List ty_Block.D} {r:Nat} (hs:IdLt xs) (hr:r < xs.length):∀ k (hk:k < xs.length),r < k→xs[r].1 < xs[k].1:=fun k hk hkr=>List.pairwise_iff_getElem.1 hs r k hr hk hkr
theorem lbB_low (id:Int):∀ (xs:List ty_Block.D) (k:Nat) (hk:k < xs.length),k < lbB id xs→xs[k].1 < id
  | [],k,hk,_=>by simp at hk
  | b :: xs,k,hk,h=>by
    unfold lbB at h
    by_cases hb:b.1 < id
    · simp only [List.takeWhile_cons,decide_eq_true hb,if_true,List.length_cons] at h
      cases k with
      | zero=>exact hb
      | succ k=>exact lbB_low id xs k (by simpa using hk) (by unfold lbB; omega)
    · simp only [List.takeWhile_cons,decide_eq_false hb,Bool.false_eq_true,if_false,List.length_nil] at h
      omega
theorem lbB_up (id:Int):∀ (xs:List ty_Block.D) (h:lbB id xs < xs.length),¬ (xs[lbB id xs]).1 < id
  | [],h=>by simp at h
  | b :: xs,h=>by
    by_cases hb:b.1 < id
    · have e:lbB id (b :: xs)=lbB id xs+1:=by
        unfold lbB
        simp only [List.takeWhile_cons,decide_eq_true hb,if_true,List.length_cons]
      have h2:lbB id xs < xs.length:=by rw [e] at h; simpa using h
      have ih:=lbB_up id xs h2
      have:(b :: xs)[lbB id (b :: xs)]=xs[lbB id xs]:=by
        simp only [e]
        rfl
      rw [this]
      exact ih
    · have e:lbB id (b :: xs)=0:=by
        unfold lbB
        simp only [List.takeWhile_cons,decide_eq_false hb,Bool.false_eq_true,if_false,List.length_nil]
      have:(b :: xs)[lbB id (b :: xs)]=b:=by
        simp only [e]
        rfl
      rw [this]
      exact hb
theorem ids_ne {id:Int} {xs:List ty_Block.D} (h:hasId id xs=false):∀ c ∈ xs,c.1 ≠ id:=fun c hc e=>by
  have:hasId id xs=true:=List.any_eq_true.2 ⟨c,hc,decide_eq_true e⟩
  rw [h] at this
  cases this
theorem without_same {id:Int} {xs:List ty_Block.D} (h:∀ b ∈ xs,b.1 ≠ id):withoutL id xs=xs:=by
  unfold withoutL
  rw [List.filter_eq_self]
  intro b hb
  exact decide_eq_true (h b hb)
theorem insL_len (b:ty_Block.D) (ys:List ty_Block.D):(insL b ys).length=ys.length+1:=by
  unfold insL
  have:=lbB_le b.1 ys
  simp only [List.length_append,List.length_take,List.length_cons,List.length_drop]
  omega
theorem putL_len (b:ty_Block.D) (xs:List ty_Block.D):(putL b xs).length=(withoutL b.1 xs).length+1:=insL_len _ _
theorem putL_new {b:ty_Block.D} {xs:List ty_Block.D} (h:hasId b.1 xs=false):putL b xs=insL b xs∧(putL b xs).length=xs.length+1:=by
  have e:=without_same (ids_ne h)
  refine ⟨by unfold putL; rw [e],by rw [putL_len,e]⟩
theorem putL_lt {b:ty_Block.D} {xs:List ty_Block.D} (hs:IdLt xs) (h:hasId b.1 xs=false):IdLt (putL b xs):=by
  rw [(putL_new h).1]
  unfold insL
  have hle:=lbB_le b.1 xs
  have h1:=lbB_low b.1 xs
  have h2:=lbB_up b.1 xs
  generalize lbB b.1 xs=r at *
  have ha:∀ c ∈ xs.take r,c.1 < b.1:=fun c hc=>by
    obtain ⟨k,hk,rfl⟩:=List.getElem_of_mem hc
    rw [List.length_take] at hk
    rw [List.getElem_take]
    exact h1 k (by omega) (by omega)
  have hb:∀ c ∈ xs.drop r,b.1 < c.1:=fun c hc=>by
    obtain ⟨k,hk,rfl⟩:=List.getElem_of_mem hc
    rw [List.length_drop] at hk
    rw [List.getElem_drop]
    have hr:r < xs.length:=by omega
    have h3:=h2 hr
    have h4:=ids_ne h _ (List.getElem_mem hr)
    have h5:b.1 < xs[r].1:=Int.lt_iff_le_and_ne.2 ⟨Int.not_lt.1 h3,fun e=>h4 e.symm⟩
    by_cases hk0:k=0
    · subst hk0; exact h5
    · exact Int.lt_trans h5 (sorted_above hs hr _ (by omega) (by omega))
  unfold IdLt
  refine List.pairwise_append.2 ⟨hs.sublist (List.take_sublist _ _),List.pairwise_cons.2 ⟨hb,hs.sublist (List.drop_sublist _ _)⟩,fun a h7 c hc=>?_⟩
  rcases List.mem_cons.1 hc with rfl | hc
  · exact ha a h7
  · exact Int.lt_trans (ha a h7) (hb c hc)
theorem insL_mem {b c:ty_Block.D} {ys:List ty_Block.D} (h:c ∈ insL b ys):c=b∨c ∈ ys:=by
  unfold insL at h
  rcases List.mem_append.1 h with h | h
  · exact .inr (List.mem_of_mem_take h)
  · rcases List.mem_cons.1 h with h | h
    · exact .inl h
    · exact .inr (List.mem_of_mem_drop h)
theorem putL_ids {b:ty_Block.D} {xs:List ty_Block.D} (hs:IdsR xs) (hb:0≤b.1∧b.1≤255):IdsR (putL b xs):=fun x hx=>by
  unfold putL at hx
  rcases insL_mem hx with rfl | h
  · exact hb
  · exact hs x (List.mem_filter.1 h).1
theorem flI_one (k:Nat) (b:ty_Block.D):flI k [b]=if Int.toNat b.1=k then [b] else []:=by
  unfold flI
  by_cases h:Int.toNat b.1=k
  · rw [if_pos h,List.filter_cons,if_pos (decide_eq_true h)]; rfl
  · rw [if_neg h,List.filter_cons,if_neg (by rw [decide_eq_false h]; simp)]; rfl
theorem flI_none {id:Int} (h0:0≤id) {xs:List ty_Block.D} (hr:IdsR xs) (h:hasId id xs=false):flI (Int.toNat id) xs=[]:=by
  unfold flI
  rw [List.filter_eq_nil_iff]
  intro c hc hd
  exact ids_ne h c hc (toNat_inj (hr c hc).1 h0 (of_decide_eq_true hd))
theorem flI_put {b:ty_Block.D} {xs:List ty_Block.D} (hb:0≤b.1∧b.1≤255) (hr:IdsR xs) (h:hasId b.1 xs=false) (k:Nat):flI k (putL b xs)=flI k (xs++[b]):=by
  rw [(putL_new h).1]
  unfold insL
  generalize lbB b.1 xs=r
  have e:xs.take r++b :: xs.drop r=xs.take r++([b]++xs.drop r):=by simp
  rw [e,flI_app,flI_app,flI_app,flI_one]
  have hx:flI k (xs.take r)++flI k (xs.drop r)=flI k xs:=by rw [← flI_app,List.take_append_drop]
  by_cases hk:Int.toNat b.1=k
  · rw [if_pos hk]
    have h0:=flI_none hb.1 hr h
    rw [hk] at h0
    rw [h0] at hx ⊢
    have:=List.append_eq_nil_iff.1 hx
    rw [this.1,this.2]
    rfl
  · rw [if_neg hk,List.nil_append,hx,List.append_nil]
theorem in_good {m nd:Nat}:∀ (bs all a:List ty_Block.D),inO m nd all bs=some a→IdLt all→IdsR all→IdsR bs→(∀ b ∈ bs,onP m nd (Int.toNat b.2.1)=true)∧IdLt a∧IdsR a∧∀ k,flI k a=flI k (all++bs)
  | [],all,a,h,h1,h2,h3=>by
    cases h
    exact ⟨by simp,h1,h2,by simp⟩
  | b :: bs,all,a,h,h1,h2,h3=>by
    unfold inO at h
    by_cases hc:(onP m nd (Int.toNat b.2.1) && !(hasId b.1 all))=true
    · rw [if_pos hc] at h
      rw [Bool.and_eq_true] at hc
      have hn:hasId b.1 all=false:=by simpa using hc.2
      have hb:=h3 b (by simp)
      obtain ⟨q1,q2,q3,q4⟩:=in_good bs (putL b all) a h (putL_lt h1 hn) (putL_ids h2 hb) (fun x hx=>h3 x (by simp [hx]))
      refine ⟨fun x hx=>?_,q2,q3,fun k=>?_⟩
      · rcases List.mem_cons.1 hx with rfl | hx
        · exact hc.1
        · exact q1 x hx
      · rw [q4 k,flI_app,flI_put hb h2 hn,← flI_app,List.append_assoc]
        rfl
    · rw [if_neg hc] at h
      cases h
theorem ndOk_ids {l w:Int} {c:ty_Cell.D} (h:ndOk l w c=true):IdsR (ndB (Int.toNat w) c):=by
  unfold ndOk at h
  simp only [Bool.and_eq_true] at h
  exact ids_of h.2.2.1
theorem out_good {m:Nat} {w:Int}:∀ (cells:List ty_Cell.D) (nd:Nat) (all a:List ty_Block.D),outO m w nd cells all=some a→IdLt all→IdsR all →
    (cells.all (ndOk m w)=true∧∀ i (hi:i < cells.length),∀ b ∈ ndB (Int.toNat w) cells[i],onP m (nd+i) (Int.toNat b.2.1)=true)∧IdLt a∧IdsR a∧∀ k,flI k a=flI k (all++(ndsF w cells).flatten)
  | [],nd,all,a,h,h1,h2=>by
    cases h
    exact ⟨⟨rfl,by simp⟩,h1,h2,by simp [ndsF]⟩
  | c :: cs,nd,all,a,h,h1,h2=>by
    unfold outO at h
    by_cases hok:ndOk m w c=true
    · rw [if_pos hok] at h
      have hid:=ndOk_ids hok
      cases hi:inO m nd all (ndB (Int.toNat w) c) with
      | none=>rw [hi] at h; cases h
      | some a1 =>
        rw [hi] at h
        obtain ⟨q1,q2,q3,q4⟩:=in_good _ all a1 hi h1 h2 hid
        obtain ⟨⟨r1,r2⟩,r3,r4,r5⟩:=out_good cs (nd+1) a1 a h q2 q3
        refine ⟨⟨by rw [List.all_cons,hok,r1]; rfl,fun i hi b hb=>?_⟩,r3,r4,fun k=>?_⟩
        · cases i with
          | zero=>exact q1 b hb
          | succ i =>
            have:=r2 i (by simpa using hi) b (by simpa using hb)
            rw [show nd+(i+1)=nd+1+i by omega]
            exact this
        · rw [r5 k,flI_app,q4 k,← flI_app,List.append_assoc]
          rfl
    · rw [if_neg hok] at h
      cases h
theorem in_bad {m nd:Nat}:∀ (bs all:List ty_Block.D),IdLt all→IdsR all→IdsR bs→(∀ b ∈ bs,onP m nd (Int.toNat b.2.1)=true)→(∀ k,k < 256→cntI k (all++bs)≤1)→∃ a,inO m nd all bs=some a
  | [],all,_,_,_,_,_=>⟨all,rfl⟩
  | b :: bs,all,h1,h2,h3,h4,h5=>by
    have hb:=h3 b (by simp)
    have hbn:=nat_255 hb
    have hn:hasId b.1 all=false:=by
      cases hh:hasId b.1 all with
      | false=>rfl
      | true =>
        obtain ⟨c,hc,hd⟩:=List.any_eq_true.1 hh
        have he:c.1=b.1:=of_decide_eq_true hd
        have:=h5 (Int.toNat b.1) hbn.2
        rw [cntI_fl,flI_app,List.length_append] at this
        have e2:flI (Int.toNat b.1) (b :: bs)=[b]++flI (Int.toNat b.1) bs:=by
          rw [show b :: bs=[b]++bs from rfl,flI_app,flI_one,if_pos rfl]
        rw [e2,List.length_append,List.length_singleton] at this
        have hcm:c ∈ flI (Int.toNat b.1) all:=List.mem_filter.2 ⟨hc,decide_eq_true (by rw [he])⟩
        have:=List.length_pos_of_mem hcm
        omega
    unfold inO
    rw [if_pos (by rw [h4 b (by simp),hn]; rfl)]
    refine in_bad bs (putL b all) (putL_lt h1 hn) (putL_ids h2 hb) (fun x hx=>h3 x (by simp [hx])) (fun x hx=>h4 x (by simp [hx])) fun k hk=>?_
    rw [cntI_fl,flI_app,flI_put hb h2 hn,← flI_app,List.append_assoc]
    exact h5 k hk
theorem out_bad {m:Nat} {w:Int}:∀ (cells:List ty_Cell.D) (nd:Nat) (all:List ty_Block.D),IdLt all→IdsR all→cells.all (ndOk m w)=true→(∀ i (hi:i < cells.length),∀ b ∈ ndB (Int.toNat w) cells[i],onP m (nd+i) (Int.toNat b.2.1)=true)→(∀ k,k < 256→cntI k (all++(ndsF w cells).flatten)≤1)→∃ a,outO m w nd cells all=some a
  | [],nd,all,_,_,_,_,_=>⟨all,rfl⟩
  | c :: cs,nd,all,h1,h2,h3,h4,h5=>by
    rw [List.all_cons,Bool.and_eq_true] at h3
    have hid:=ndOk_ids h3.1
    have hfl:(ndsF w (c :: cs)).flatten=ndB (Int.toNat w) c++(ndsF w cs).flatten:=rfl
    obtain ⟨a1,hi⟩:=in_bad (m:=m) (nd:=nd) (ndB (Int.toNat w) c) all h1 h2 hid (fun b hb=>h4 0 (by simp) b hb) (fun k hk=>by
      have:=h5 k hk
      rw [hfl,← List.append_assoc,cntI_fl,flI_app,List.length_append] at this
      rw [cntI_fl]
      omega)
    obtain ⟨q1,q2,q3,q4⟩:=in_good _ all a1 hi h1 h2 hid
    unfold outO
    rw [if_pos h3.1,hi]
    refine out_bad cs (nd+1) a1 q2 q3 h3.2 (fun i hi b hb=>?_) fun k hk=>?_
    · have:=h4 (i+1) (by simpa using hi) b (by simpa using hb)
      rw [show nd+1+i=nd+(i+1) by omega]
      exact this
    · rw [cntI_fl,flI_app,q4 k,← flI_app,List.append_assoc,← hfl]
      exact h5 k hk
theorem frO_f {l w b:Int} {m:ty_Mem.D} {st:List ty_Block.D} (h:frO l w b m st=false):(orX l w b m st).isSome=false:=by unfold orX; rw [h]; rfl
theorem ndsF_get (w:Int) (cells:List ty_Cell.D) {i:Nat} (hi:i < cells.length):(ndsF w cells)[i]'(by unfold ndsF; rw [List.length_map]; exact hi)=ndB (Int.toNat w) cells[i]:=by simp [ndsF]
theorem ndsF_len (w:Int) (cells:List ty_Cell.D):(ndsF w cells).length=cells.length:=by simp [ndsF]
theorem pow2_pos (n:Nat):(0:Int) < 2 ^ n:=Int.pow_pos (by omega)
theorem c_spec_TreeNodes (M:Mem) (m n:Nat) (h:m≤6) (hn:n=2 * 2 ^ m - 1):aCall T0 F_spec_TreeNodes [.int .i64 m] M=some (.int .i64 n,M):=by
  have hp:(2:Int) ^ m≤2 ^ 6:=pow2_le h
  have hq:(0:Int) < 2 ^ m:=pow2_pos m
  have hn2:(n:Int)=2 * 2 ^ m - 1:=by
    have:0 < 2 ^ m:=Nat.pow_pos (by omega)
    subst hn
    rw [Int.natCast_sub (by omega)]
    simp
  have e1:IntKind.i64.wrap (2 * 2 ^ m)=2 * 2 ^ m:=wrap_i64 (by omega) (by omega)
  have e2:IntKind.i64.wrap (2 * 2 ^ m - 1)=n:=by rw [hn2]; exact wrap_i64 (by omega) (by omega)
  have hb:(decide ((0:Int)≤m) && decide ((m:Int)≤6))=true:=by simp; omega
  have e3:=c_spec_l11Log M m
  rw [hb] at e3
  rw [aCall_eq T_spec_TreeNodes]; unfold A_spec_TreeNodes C_spec_TreeNodes; simp [e3,c_spec_l02Pow _ m (by omega),e1,e2]
def atB {α:Type} (p:α→Bool) (xs:List α) (i:Nat):Bool:=match xs[i]? with
  | some x=>p x
  | none=>true
theorem atB_get {α:Type} (p:α→Bool) {xs:List α} {i:Nat} (hi:i < xs.length):atB p xs i=p xs[i]:=by unfold atB; rw [List.getElem?_eq_getElem hi]
theorem atB_all {α:Type} {p:α→Bool} {xs:List α} (h:∀ i,i < xs.length→atB p xs i=true):xs.all p=true:=by
  rw [List.all_eq_true]
  intro x hx
  obtain ⟨i,hi,rfl⟩:=List.getElem_of_mem hx
  rw [← atB_get p hi]
  exact h i hi
theorem atB_not {α:Type} {p:α→Bool} {xs:List α} (h:∃ i,i < xs.length∧atB p xs i=false):xs.all p=false:=by
  obtain ⟨i,hi,hq⟩:=h
  rw [atB_get p hi] at hq
  rw [List.all_eq_false]
  exact ⟨xs[i],List.getElem_mem hi,by rw [hq]; decide⟩
theorem mem_shape {M:Mem} {cs:List V} {m:ty_Mem.D} (h:Rep ty_Mem M cs m):∃ (a b:Option Addr) (c d:Nat),cs=[.int .i64 m.1,.slice a m.2.1.length c,.slice b m.2.2.length d]∧Rep (.sl ty_Cell) M [.slice a m.2.1.length c] m.2.1∧Rep (.sl ty_Touch) M [.slice b m.2.2.length d] m.2.2:=by
  obtain ⟨u0,u1,rfl,_,r0,r1⟩:=rep_g_Mem h
  obtain ⟨a,c,rfl⟩:=r0.slen
  obtain ⟨b,d,rfl⟩:=r1.slen
  exact ⟨a,b,c,d,rfl,r0,r1⟩
theorem l_spec_MemOk_0 (M X:Mem) (m:ty_Mem.D) (a b:Option Addr) (c d p:Nat) (hM:M <+: X) (hb:X[p]?=some ⟨[.int .i64 m.1,.slice a m.2.1.length c,.slice b m.2.2.length d],1,2⟩) (h:Rep (.sl ty_Cell) M [.slice a m.2.1.length c] m.2.1) (hn:m.2.1.length≤128) :
    ((∀ i,i < m.2.1.length→atB (cellB m) m.2.1 i=true)∧lp (aCall T0) K_spec_MemOk_0 L_spec_MemOk_0 [O,.pointer (some ⟨p,0,none⟩),O,.int .i64 (0:Nat),O,O,O,O,O,O,O,O,O,O,O,O,O,O,O,O,O,O,O,O,O,O,O,O,O,O,O,O,O,O,O,O,O,O,O,O,O,O,O,O,O,O,O,O,O,O,O,O,O,O,O,O,O,O,O,O,O,O,O,O,O,O,O,O,O,O,O,O,O,O,O,O,O,O,O,O,O,O,O] X=lp (aCall T0) K_spec_MemOk_0 L_spec_MemOk_0 [O,.pointer (some ⟨p,0,none⟩),O,.int .i64 m.2.1.length,O,O,O,O,O,O,O,O,O,O,O,O,O,O,O,O,O,O,O,O,O,O,O,O,O,O,O,O,O,O,O,O,O,O,O,O,O,O,O,O,O,O,O,O,O,O,O,O,O,O,O,O,O,O,O,O,O,O,O,O,O,O,O,O,O,O,O,O,O,O,O,O,O,O,O,O,O,O,O] X) ∨
    ((∃ i,i < m.2.1.length∧atB (cellB m) m.2.1 i=false)∧∀ k,thenF M [.tmp 2] (thenS (blockR 0 (lp (aCall T0) K_spec_MemOk_0 L_spec_MemOk_0 [O,.pointer (some ⟨p,0,none⟩),O,.int .i64 (0:Nat),O,O,O,O,O,O,O,O,O,O,O,O,O,O,O,O,O,O,O,O,O,O,O,O,O,O,O,O,O,O,O,O,O,O,O,O,O,O,O,O,O,O,O,O,O,O,O,O,O,O,O,O,O,O,O,O,O,O,O,O,O,O,O,O,O,O,O,O,O,O,O,O,O,O,O,O,O,O,O] X)) (aCall T0) k)=some (.bool false,M)):=by
  have key:=loop_ok (call:=aCall T0) (K:=K_spec_MemOk_0) (L:=L_spec_MemOk_0) (fun _ Y=>Y=X) (fun i=>[O,.pointer (some ⟨p,0,none⟩),O,.int .i64 i,O,O,O,O,O,O,O,O,O,O,O,O,O,O,O,O,O,O,O,O,O,O,O,O,O,O,O,O,O,O,O,O,O,O,O,O,O,O,O,O,O,O,O,O,O,O,O,O,O,O,O,O,O,O,O,O,O,O,O,O,O,O,O,O,O,O,O,O,O,O,O,O,O,O,O,O,O,O,O]) (atB (cellB m) m.2.1) (n:=m.2.1.length) (M0:=M) (rs:=[.tmp 2]) (k0:=0) (a:=.bool false) X rfl ?_ ?_
  · rcases key with ⟨X',rfl,h1,h2⟩ | h
    · exact .inl ⟨h1,h2⟩
    · exact .inr h
  · intro i Y hi hq e
    subst e
    obtain ⟨l,o,u,rfl,q1,_,q3⟩:=at_Cell (h.mono hM) hi
    obtain ⟨_,_,rfl⟩:=q3.slen
    rw [atB_get _ hi] at hq
    have hq:=of_decide_eq_true hq
    have e6:IntKind.i64.wrap ((i:Int)+1)=i+1:=wrap_i64 (by omega) (by omega)
    refine ⟨Y,rfl,?_⟩
    rw [S_spec_MemOk_0]; unfold B_spec_MemOk_0; simp [apA,hb,hi,q1,hq,e6,rd1_K,rdJ_ok]
  · intro i Y hi hq e k
    subst e
    obtain ⟨l,o,u,rfl,q1,_,q3⟩:=at_Cell (h.mono hM) hi
    obtain ⟨_,_,rfl⟩:=q3.slen
    rw [atB_get _ hi] at hq
    have hq:=of_decide_eq_false hq
    have gb:=fun b=>gc_boolp hM b
    rw [S_spec_MemOk_0]; unfold B_spec_MemOk_0; simp [apA,hb,hi,q1,hq,gb,rd1_K,rdJ_ok]
theorem mem_cases (sz:Int) (n k:Nat):(mem0 sz n k=false∧((sz < 1∧¬ 1≤sz)∨((1≤sz∧¬ sz < 1)∧1000 < sz∧¬ sz≤1000)∨((1≤sz∧¬ sz < 1)∧(¬ 1000 < sz∧sz≤1000)∧128 < n∧(128:Int) < n)∨((1≤sz∧¬ sz < 1)∧(¬ 1000 < sz∧sz≤1000)∧(¬ 128 < n∧¬ (128:Int) < n)∧6000 < k∧(6000:Int) < k))) ∨
    (mem0 sz n k=true∧(1≤sz∧¬ sz < 1)∧(¬ 1000 < sz∧sz≤1000)∧(¬ 128 < n∧¬ (128:Int) < n)∧(¬ 6000 < k∧¬ (6000:Int) < k)):=by
  unfold mem0
  by_cases h:(1≤sz∧sz≤1000)∧n≤128∧k≤6000
  · rw [decide_eq_true h]
    right
    exact ⟨rfl,by omega,by omega,by omega,by omega⟩
  · rw [decide_eq_false h]
    left
    refine ⟨rfl,?_⟩
    omega
theorem at_Touch {M:Mem} {a:Option Addr} {n c:Nat} {xs:List ty_Touch.D} (h:Rep (.sl ty_Touch) M [.slice a n c] xs) {i:Nat} (hi:i < xs.length):∃ l o,a=some ⟨l,o,none⟩∧Rep ty_Touch M (enc_Touch xs[i]) xs[i]∧rdn M l (o+i * 3) 3=some (enc_Touch xs[i])∧rd1 M l (o+i * 3)=some (.int .i64 xs[i].1)∧rd1 M l (o+i * 3+1)=some (.int .i64 xs[i].2.1)∧rd1 M l (o+i * 3+2)=some (.int .i64 xs[i].2.2):=by
  obtain ⟨_,l,o,rfl,cs,hrd,hrep⟩:=rep_at h hi
  have hcs:=rep_Touch hrep
  subst hcs
  have hw:ty_Touch.w=3:=rfl
  rw [hw] at hrd
  exact ⟨l,o,rfl,hrep,hrd,rd1_of_rdn hrd (k:=0) rfl,rd1_of_rdn hrd (k:=1) rfl,rd1_of_rdn hrd (k:=2) rfl⟩
theorem touch_ok {sz n a b c:Int} (h:touch0 sz n a b c=true):(a=1∨a=2)∧¬ b < 0∧0≤b∧¬ n≤b∧b < n∧b≤n - 1∧c=sz:=by
  have h:=of_decide_eq_true h
  omega
theorem touch_cases {sz n a b c:Int} (h:touch0 sz n a b c=false):(¬ a=1∧¬ a=2)∨((a=1∨a=2)∧b < 0∧¬ 0≤b)∨((a=1∨a=2)∧(¬ b < 0∧0≤b)∧n≤b∧¬ b < n∧¬ b≤n - 1)∨((a=1∨a=2)∧(¬ b < 0∧0≤b)∧(¬ n≤b∧b < n∧b≤n - 1)∧¬ c=sz):=by
  have h:=of_decide_eq_false h
  omega
set_option maxHeartbeats 4000000 in
theorem l_spec_MemOk_1 (M X:Mem) (m:ty_Mem.D) (a b:Option Addr) (c d p:Nat) (hM:M <+: X) (hb:X[p]?=some ⟨[.int .i64 m.1,.slice a m.2.1.length c,.slice b m.2.2.length d],1,2⟩) (h:Rep (.sl ty_Touch) M [.slice b m.2.2.length d] m.2.2) (hn:m.2.2.length≤6000) :
    (∃ X',M <+: X'∧(∀ i,i < m.2.2.length→atB (touchB m) m.2.2 i=true)∧lp (aCall T0) K_spec_MemOk_1 L_spec_MemOk_1 [O,.pointer (some ⟨p,0,none⟩),O,O,.int .i64 (0:Nat),O,O,O,O,O,O,O,O,O,O,O,O,O,O,O,O,O,O,O,O,O,O,O,O,O,O,O,O,O,O,O,O,O,O,O,O,O,O,O,O,O,O,O,O,O,O,O,O,O,O,O,O,O,O,O,O,O,O,O,O,O,O,O,O,O,O,O,O,O,O,O,O,O,O,O,O,O,O] X=lp (aCall T0) K_spec_MemOk_1 L_spec_MemOk_1 [O,.pointer (some ⟨p,0,none⟩),O,O,.int .i64 m.2.2.length,O,O,O,O,O,O,O,O,O,O,O,O,O,O,O,O,O,O,O,O,O,O,O,O,O,O,O,O,O,O,O,O,O,O,O,O,O,O,O,O,O,O,O,O,O,O,O,O,O,O,O,O,O,O,O,O,O,O,O,O,O,O,O,O,O,O,O,O,O,O,O,O,O,O,O,O,O,O] X'∧X'[p]?=some ⟨[.int .i64 m.1,.slice a m.2.1.length c,.slice b m.2.2.length d],1,2⟩) ∨
    ((∃ i,i < m.2.2.length∧atB (touchB m) m.2.2 i=false)∧∀ k,thenF M [.tmp 2] (thenS (blockR 2 (lp (aCall T0) K_spec_MemOk_1 L_spec_MemOk_1 [O,.pointer (some ⟨p,0,none⟩),O,O,.int .i64 (0:Nat),O,O,O,O,O,O,O,O,O,O,O,O,O,O,O,O,O,O,O,O,O,O,O,O,O,O,O,O,O,O,O,O,O,O,O,O,O,O,O,O,O,O,O,O,O,O,O,O,O,O,O,O,O,O,O,O,O,O,O,O,O,O,O,O,O,O,O,O,O,O,O,O,O,O,O,O,O,O] X)) (aCall T0) k)=some (.bool false,M)):=by
  have key:=loop_ok (call:=aCall T0) (K:=K_spec_MemOk_1) (L:=L_spec_MemOk_1) (fun _ Y=>X <+: Y) (fun i=>[O,.pointer (some ⟨p,0,none⟩),O,O,.int .i64 i,O,O,O,O,O,O,O,O,O,O,O,O,O,O,O,O,O,O,O,O,O,O,O,O,O,O,O,O,O,O,O,O,O,O,O,O,O,O,O,O,O,O,O,O,O,O,O,O,O,O,O,O,O,O,O,O,O,O,O,O,O,O,O,O,O,O,O,O,O,O,O,O,O,O,O,O,O,O]) (atB (touchB m) m.2.2) (n:=m.2.2.length) (M0:=M) (rs:=[.tmp 2]) (k0:=2) (a:=.bool false) X (List.prefix_refl _) ?_ ?_
  · rcases key with ⟨X',h0,h1,h2⟩ | h
    · exact .inl ⟨X',hM.trans h0,h1,h2,get_pre h0 hb⟩
    · exact .inr h
  · intro i Y hi hq hY
    obtain ⟨l,o,rfl,_,q1,_⟩:=at_Touch (h.mono (hM.trans hY)) hi
    have hbY:=get_pre hY hb
    have hbY2:∀ N:Mem,(Y++N)[p]?=some ⟨[.int .i64 m.1,.slice a m.2.1.length c,.slice (some ⟨l,o,none⟩) m.2.2.length d],1,2⟩:=fun N=>get_pre' hbY
    rw [atB_get _ hi] at hq
    have hq:=touch_ok hq
    generalize m.2.2[i]=t at q1 hq
    obtain ⟨t1,t2,t3⟩:=t
    simp only at hq q1
    obtain ⟨g1,g2,_,g3,_,_,g4⟩:=hq
    have e6:IntKind.i64.wrap ((i:Int)+1)=i+1:=wrap_i64 (by omega) (by omega)
    refine ⟨Y++[⟨enc_Touch (t1,t2,t3),1,2⟩],hY.trans (List.prefix_append _ _),?_⟩
    rcases g1 with g1 | g1
    · rw [S_spec_MemOk_1]; unfold B_spec_MemOk_1; simp [apA,hbY,hbY2,hi,q1,g1,g2,g3,g4,e6,rd1_K,rdJ_ok]
    · rw [S_spec_MemOk_1]; unfold B_spec_MemOk_1; simp [apA,hbY,hbY2,hi,q1,g1,g2,g3,g4,e6,rd1_K,rdJ_ok]
  · intro i Y hi hq hY k
    obtain ⟨l,o,rfl,_,q1,_⟩:=at_Touch (h.mono (hM.trans hY)) hi
    have hbY:=get_pre hY hb
    have hbY2:∀ N:Mem,(Y++N)[p]?=some ⟨[.int .i64 m.1,.slice a m.2.1.length c,.slice (some ⟨l,o,none⟩) m.2.2.length d],1,2⟩:=fun N=>get_pre' hbY
    rw [atB_get _ hi] at hq
    have hq:=touch_cases hq
    generalize m.2.2[i]=t at q1 hq
    obtain ⟨t1,t2,t3⟩:=t
    simp only at hq q1
    have gb:=fun (cs:List V) b=>gc_boolp (hM.trans (hY.trans (List.prefix_append Y [⟨cs,1,2⟩]))) b
    rcases hq with ⟨g1,g2⟩ | ⟨g1,g2,_⟩ | ⟨g1,⟨g2,_⟩,g3,_⟩ | ⟨g1,⟨g2,_⟩,⟨g3,_⟩,g4⟩
    · rw [S_spec_MemOk_1]; unfold B_spec_MemOk_1; simp [apA,hbY,hbY2,hi,q1,g1,g2,gb,rd1_K,rdJ_ok]
    · rcases g1 with g1 | g1
      · rw [S_spec_MemOk_1]; unfold B_spec_MemOk_1; simp [apA,hbY,hbY2,hi,q1,g1,g2,gb,rd1_K,rdJ_ok]
      · rw [S_spec_MemOk_1]; unfold B_spec_MemOk_1; simp [apA,hbY,hbY2,hi,q1,g1,g2,gb,rd1_K,rdJ_ok]
    · rcases g1 with g1 | g1
      · rw [S_spec_MemOk_1]; unfold B_spec_MemOk_1; simp [apA,hbY,hbY2,hi,q1,g1,g2,g3,gb,rd1_K,rdJ_ok]
      · rw [S_spec_MemOk_1]; unfold B_spec_MemOk_1; simp [apA,hbY,hbY2,hi,q1,g1,g2,g3,gb,rd1_K,rdJ_ok]
    · rcases g1 with g1 | g1
      · rw [S_spec_MemOk_1]; unfold B_spec_MemOk_1; simp [apA,hbY,hbY2,hi,q1,g1,g2,g3,g4,gb,rd1_K,rdJ_ok]
      · rw [S_spec_MemOk_1]; unfold B_spec_MemOk_1; simp [apA,hbY,hbY2,hi,q1,g1,g2,g3,g4,gb,rd1_K,rdJ_ok]
theorem c_spec_MemOk (M:Mem) (cs:List V) (m:ty_Mem.D) (h:Rep ty_Mem M cs m):aCall T0 F_spec_MemOk [.agg cs.toArray] M=some (.bool (memB m),M):=by
  obtain ⟨a,b,c,d,rfl,r0,r1⟩:=mem_shape h
  unfold memB
  have hp:M <+: M++[⟨[.int .i64 m.1,.slice a m.2.1.length c,.slice b m.2.2.length d],1,2⟩]:=List.prefix_append _ _
  rcases mem_cases m.1 m.2.1.length m.2.2.length with ⟨h0,hh⟩ | ⟨h0,⟨_,h1⟩,⟨h2,_⟩,⟨h3,h3'⟩,⟨h4,h4'⟩⟩
  · rw [h0,Bool.false_and]
    clear h0
    rcases hh with ⟨h1,_⟩ | ⟨⟨_,h1⟩,h2,_⟩ | ⟨⟨_,h1⟩,⟨h2,_⟩,h3,h3'⟩ | ⟨⟨_,h1⟩,⟨h2,_⟩,⟨h3,h3'⟩,h4,h4'⟩
    · rw [aCall_eq T_spec_MemOk]; unfold A_spec_MemOk C_spec_MemOk; simp [apA,h1]
    · rw [aCall_eq T_spec_MemOk]; unfold A_spec_MemOk C_spec_MemOk; simp [apA,h1,h2]
    · rw [aCall_eq T_spec_MemOk]; unfold A_spec_MemOk C_spec_MemOk; simp [apA,h1,h2,h3,h3']
    · rw [aCall_eq T_spec_MemOk]; unfold A_spec_MemOk C_spec_MemOk; simp [apA,h1,h2,h3,h3',h4,h4']
  rw [h0,Bool.true_and]
  rcases l_spec_MemOk_0 M _ m a b c d M.length hp (by simp) r0 (by omega) with ⟨ha,e⟩ | ⟨hn,e⟩
  · simp only [Int.natCast_zero,Int.ofNat_zero] at e
    rw [atB_all ha,Bool.true_and]
    rcases l_spec_MemOk_1 M _ m a b c d M.length hp (by simp) r1 (by omega) with ⟨X',hX,ha2,e2,hb⟩ | ⟨hn2,e2⟩
    · simp only [Int.natCast_zero,Int.ofNat_zero] at e2
      rw [atB_all ha2]
      have gb:=fun b=>gc_boolp hX b
      rw [aCall_eq T_spec_MemOk]; unfold A_spec_MemOk C_spec_MemOk; simp [apA,h1,h2,h3,h3',h4,h4',e]
      rw [S_spec_MemOk_0]; unfold B_spec_MemOk_0; simp [apA,rd1_K,rdJ_ok]
      simp [e2]
      rw [S_spec_MemOk_1]; unfold B_spec_MemOk_1; simp [apA,rd1_K,rdJ_ok,hb,gb]
    · simp only [Int.natCast_zero,Int.ofNat_zero] at e2
      rw [atB_not hn2]
      rw [aCall_eq T_spec_MemOk]; unfold A_spec_MemOk C_spec_MemOk; simp [apA,h1,h2,h3,h3',h4,h4',e]
      rw [S_spec_MemOk_0]; unfold B_spec_MemOk_0; simp [apA,rd1_K,rdJ_ok]
      simp [e2]
  · simp only [Int.natCast_zero,Int.ofNat_zero] at e
    rw [atB_not hn,Bool.false_and]
    rw [aCall_eq T_spec_MemOk]; unfold A_spec_MemOk C_spec_MemOk; simp [apA,h1,h2,h3,h3',h4,h4',e]
set_option maxRecDepth 20000 in
set_option maxHeartbeats 4000000 in
theorem c_spec_oramOk (M:Mem) (l w b:Int) (m:ty_Mem.D) (st:List ty_Block.D) (aC:Option Addr) (cC:Nat) (aT:Option Addr) (cT:Nat) (aS:Option Addr) (cS:Nat)
    (hM:Rep ty_Mem M [.int .i64 m.1,.slice aC m.2.1.length cC,.slice aT m.2.2.length cT] m) (hC:Rep (.sl ty_Cell) M [.slice aC m.2.1.length cC] m.2.1) (hS:Rep (.sl ty_Block) M [.slice aS st.length cS] st) (hz:BlkSz st) (hcz:m.2.1.length≤1048576) (hsz:∀ c ∈ m.2.1,List.length (α:=UInt8) c≤1048576) :
    aCall T0 F_spec_OramOk [.agg (aO l w b m.1 aC m.2.1.length cC aT m.2.2.length cT aS st.length cS).toArray] M=some (.bool (orX l w b m st).isSome,M):=by
  have e1:=fun M=>c_spec_l12Frame M l w
  have hlw:(decide (0≤l) && decide (l≤6) && (decide (1≤w) && decide (w≤200)))=(lgB l && wdB w):=rfl
  rw [hlw] at e1
  have hpre:M <+: M++[(⟨aO l w b m.1 aC m.2.1.length cC aT m.2.2.length cT aS st.length cS,1,2⟩:Blk)]:=List.prefix_append _ _
  have e4:=fun N:Mem=>c_spec_MemOk (M++N) _ m (hM.mono (List.prefix_append _ _))
  have e5:=fun N:Mem=>c_spec_StashOk (M++N) _ st l w (hS.mono (List.prefix_append _ _)) hz.1
  have gb:=fun b=>gc_boolp hpre b
  cases h1:(lgB l && wdB w) with
  | false =>
    rw [h1] at e1
    rw [frO_f (by unfold frO; rw [← Bool.and_assoc,h1]; rfl)]
    rw [aCall_eq T_spec_OramOk]; unfold A_spec_OramOk C_spec_OramOk; simp [apA,e1,gb]
  | true =>
  rw [h1] at e1
  rw [Bool.and_eq_true] at h1
  obtain ⟨h1,h2⟩:=h1
  have hw:1≤w∧w≤200:=by unfold wdB at h2; simpa using h2
  obtain ⟨k,rfl,hk⟩:=log_nat h1
  have hk0:Int.toNat (k:Int)=k:=by omega
  by_cases h3:b < 0
  · rw [frO_f (by unfold frO bdB; rw [decide_eq_false (show ¬ 0≤b by omega)]; simp)]
    rw [aCall_eq T_spec_OramOk]; unfold A_spec_OramOk C_spec_OramOk; simp [apA,e1,h3,gb]
  by_cases h3':64 < b
  · rw [frO_f (by unfold frO bdB; rw [decide_eq_false (show ¬ b≤64 by omega)]; simp)]
    rw [aCall_eq T_spec_OramOk]; unfold A_spec_OramOk C_spec_OramOk; simp [apA,e1,h3,h3',gb]
  have h3b:bdB b=true:=by unfold bdB; rw [decide_eq_true (show 0≤b by omega),decide_eq_true (show b≤64 by omega)]; rfl
  by_cases h7:b < (st.length:Int)
  · rw [frO_f (by unfold frO; rw [decide_eq_false (show ¬ (st.length:Int)≤b by omega)]; simp)]
    rw [aCall_eq T_spec_OramOk]; unfold A_spec_OramOk C_spec_OramOk; simp [apA,e1,h3,h3',h7,gb]
  cases h8:stashB k w st with
  | false =>
    rw [h8] at e5
    rw [frO_f (by unfold frO; rw [h8]; simp)]
    rw [aCall_eq T_spec_OramOk]; unfold A_spec_OramOk C_spec_OramOk; simp [apA,e1,h3,h3',h7,e5,gb]
  | true =>
  rw [h8] at e5
  have hp6:2 ^ k≤2 ^ 6:=Nat.pow_le_pow_right (by omega) hk
  have hp0:0 < 2 ^ k:=Nat.two_pow_pos k
  have e6:=fun M=>c_spec_TreeNodes M k _ hk rfl
  obtain ⟨N,hN⟩:∃ N,N=2 * 2 ^ k - 1:=⟨_,rfl⟩
  rw [← hN] at e6
  obtain ⟨W,rfl⟩:∃ W:Nat,w=(W:Int):=⟨Int.toNat w,by omega⟩
  have e7:=fun M=>c_spec_NodeSize M W (4 * (W+3)) (by omega) (by omega) (by omega)
  by_cases h5:m.2.1.length=N
  · rw [← h5] at e6
    by_cases h6:(m.1:Int)=4 * ((W:Int)+3)
    · have h6':((4 * (W+3):Nat):Int)=m.1:=by rw [h6]; omega
      rw [h6'] at e7
      cases h4:memB m with
      | false =>
        rw [h4] at e4
        rw [frO_f (by unfold frO; rw [h4]; simp)]
        rw [aCall_eq T_spec_OramOk]; unfold A_spec_OramOk C_spec_OramOk; simp [apA,e1,h3,h3',h7,e5,e6,e7,e4,gb]
      | true =>
        rw [h4] at e4
        have hX:orX k W b m st=outO k W 1 m.2.1 st:=by
          unfold orX
          rw [hk0,if_pos]
          unfold frO
          rw [h1,h2,h3b,h4,hk0,← hN,decide_eq_true h5,decide_eq_true h6,decide_eq_true (show (st.length:Int)≤b by omega),h8]
          rfl
        rw [hX]
        have hNd:=c_spec_l14Nodes (M++[(⟨aO k W b m.1 aC m.2.1.length cC aT m.2.2.length cT aS st.length cS,1,2⟩:Blk)]) k W b m st aC cC aT cT aS cS (hC.mono hpre) hcz hsz
        rw [aCall_eq T_spec_OramOk]; unfold A_spec_OramOk C_spec_OramOk; simp [apA,e1,h3,h3',h7,e5,e6,e7,e4]
        generalize hx:aCall T0 F_spec_l14Nodes _ _=xhx
        obtain ⟨_,X1,rfl,r,LN,rfl,p1,g1,nN,kN⟩:=of_call hx hNd
        clear hx
        simp only at p1 g1
        have g1:=g1.rep
        have pM:=hpre.trans p1
        have hbx:=get_pre p1 (show (M++[(⟨aO k W b m.1 aC m.2.1.length cC aT m.2.2.length cT aS st.length cS,1,2⟩:Blk)])[M.length]?=some _ from List.getElem?_concat_length)
        have st8:st.length≤128∧blocksB k W st=true:=by unfold stashB at h8; simpa using h8
        have hlt:=blocks_lt st8.2
        have hid:=ids_of st8.2
        cases h9:m.2.1.all (ndOk k W) with
        | false =>
          have ho:outO k W 1 m.2.1 st=none:=by
            cases ho:outO k W 1 m.2.1 st with
            | none=>rfl
            | some a =>
              have:=(out_good m.2.1 1 st a ho hlt hid).1.1
              rw [h9] at this
              cases this
          rw [ho,h9] at *
          have gb:=fun b=>gc_boolp pM b
          have hrs:∃ z n c,r=.slice z n c:=by
            obtain ⟨a,c,rfl⟩:=g1.slen
            exact ⟨_,_,_,rfl⟩
          obtain ⟨z,n,c,rfl⟩:=hrs
          simp [apA,gb]
        | true =>
          rw [h9,if_pos rfl] at g1
          have hnl:(ndsF W m.2.1).length=m.2.1.length:=ndsF_len _ _
          obtain ⟨aN,cN,rfl⟩:=g1.slen
          have hget:∀ bs ∈ ndsF W m.2.1,∃ c ∈ m.2.1,bs=ndB (Int.toNat (W:Int)) c:=fun bs hb=>by
            obtain ⟨c,hc,rfl⟩:=List.mem_map.1 hb
            exact ⟨c,hc,rfl⟩
          have hndb:∀ c ∈ m.2.1,blocksB k W (ndB (Int.toNat (W:Int)) c)=true:=fun c hc=>by
            have:=List.all_eq_true.1 h9 c hc
            unfold ndOk at this
            simp only [Bool.and_eq_true] at this
            exact this.2.2.1
          have hon:∀ i,i < m.2.1.length→onAll k (ndsF W m.2.1) i=List.all (ndB (Int.toNat (W:Int)) (m.2.1.getD i [])) fun b=>onP k (i+1) (Int.toNat b.2.1):=fun i hi=>by
            rw [onAll_get (by rw [hnl]; exact hi),ndsF_get _ _ hi,List.getD_eq_getElem?_getD,List.getElem?_eq_getElem hi]
            rfl
          have hP:(outO k W 1 m.2.1 st).isSome=true ↔ (∀ i,i < m.2.1.length→onAll k (ndsF W m.2.1) i=true)∧∀ j,j < 256→decide (cntI j (st++(ndsF W m.2.1).flatten)≤1)=true:=by
            constructor
            · intro h
              obtain ⟨a,ho⟩:=Option.isSome_iff_exists.1 h
              obtain ⟨⟨q1,q2⟩,q3,q4,q5⟩:=out_good m.2.1 1 st a ho hlt hid
              refine ⟨fun i hi=>?_,fun j hj=>decide_eq_true ?_⟩
              · rw [onAll_get (by rw [hnl]; exact hi),ndsF_get _ _ hi,List.all_eq_true]
                intro b hb
                rw [Nat.add_comm]
                exact q2 i hi b hb
              · rw [cntI_fl,← q5 j]
                exact cnt_lt q3 q4 j
            · rintro ⟨h1,h2⟩
              obtain ⟨a,ho⟩:=out_bad m.2.1 1 st hlt hid h9 (fun i hi b hb=>by
                have:=h1 i hi
                rw [onAll_get (by rw [hnl]; exact hi),ndsF_get _ _ hi,List.all_eq_true] at this
                rw [Nat.add_comm]
                exact this b hb) (fun j hj=>of_decide_eq_true (h2 j hj))
              rw [ho]
              rfl
          have hcz0:cntV []=zc (.int .i64 0) 256:=rfl
          have hb6:rd1 X1 M.length 6=some (.slice aS st.length cS):=by simp [rd1,hbx]
          have hb0:rd1 X1 M.length 0=some (.int .i64 (k:Int)):=by simp [rd1,hbx]
          obtain ⟨_,X2,hX2,s0⟩:=l_spec_OramOk_0 X1 M.length X1.length (.slice aN (ndsF W m.2.1).length cN) st aS cS (hS.mono pM) hb6 (Nat.le_refl _) hid hz.1 (X1++[⟨zc (.int .i64 0) 256,1,2⟩]) ⟨List.prefix_append _ _,by rw [hcz0]; exact List.getElem?_concat_length⟩
          simp only [Int.natCast_zero,Int.ofNat_zero] at s0
          have hb62:=r1_pre hX2.1 hb6
          have k1:=l_spec_OramOk_1 X1 M.length X1.length k aN cN (ndsF W m.2.1) g1 hb0 (Nat.le_refl _) hk (by rw [hnl]; omega) (fun bs hb=>by
            obtain ⟨c,hc,rfl⟩:=hget bs hb
            exact leafs_of (hndb c hc)) (fun bs hb=>by
            obtain ⟨c,hc,rfl⟩:=hget bs hb
            exact ndB_len _ _) st (by omega) X2 hX2
          simp only [FtI,Int.natCast_zero,Int.ofNat_zero] at k1
          rcases k1 with ⟨_,X3,hX3,a1,s1⟩ | ⟨⟨i,hi,hf⟩,fr,X',s1,q2,q3⟩
          · have k2:=l_spec_OramOk_3 X1 X1.length (st++(ndsF W m.2.1).flatten) X3 hX3
            simp only [Int.natCast_zero,Int.ofNat_zero] at k2
            rcases k2 with ⟨_,rfl,a2,s2⟩ | ⟨⟨i,hi,hf⟩,fr,X',s2,q2,q3⟩
            · rw [hP.2 ⟨fun i hi=>a1 i (by rw [hnl]; exact hi),a2⟩]
              have gb:=fun b=>gc_boolp (pM.trans hX3.1) b
              simp [apA,zeroCells,s0]
              rw [S_spec_OramOk_0]; unfold B_spec_OramOk_0; simp [apA,hb62,s1]
              rw [S_spec_OramOk_1]; unfold B_spec_OramOk_1; simp [apA,s2]
              rw [S_spec_OramOk_3]; unfold B_spec_OramOk_3; simp [apA,gb]
            · have ho:(outO k W 1 m.2.1 st).isSome=false:=by
                cases h:(outO k W 1 m.2.1 st).isSome with
                | false=>rfl
                | true =>
                  have:=(hP.1 h).2 i hi
                  rw [hf] at this
                  cases this
              rw [ho]
              have gb:=fun b=>gc_boolp (pM.trans q3) b
              simp [apA,zeroCells,s0]
              rw [S_spec_OramOk_0]; unfold B_spec_OramOk_0; simp [apA,hb62,s1]
              rw [S_spec_OramOk_1]; unfold B_spec_OramOk_1; simp [apA,s2,q2,gb]
          · have ho:(outO k W 1 m.2.1 st).isSome=false:=by
              cases h:(outO k W 1 m.2.1 st).isSome with
              | false=>rfl
              | true =>
                have:=(hP.1 h).1 i (by rw [← hnl]; exact hi)
                rw [hf] at this
                cases this
            rw [ho]
            have gb:=fun b=>gc_boolp (pM.trans q3) b
            simp [apA,zeroCells,s0]
            rw [S_spec_OramOk_0]; unfold B_spec_OramOk_0; simp [apA,hb62,s1,q2,gb]
    · have h6':¬ (m.1:Int)=((4 * (W+3):Nat):Int):=fun e=>h6 (e.trans (show ((4 * (W+3):Nat):Int)=4 * ((W:Int)+3) by omega))
      generalize hq:4 * (W+3)=Q at *
      rw [frO_f (by unfold frO; rw [decide_eq_false h6]; simp)]
      rw [aCall_eq T_spec_OramOk]; unfold A_spec_OramOk C_spec_OramOk; simp [apA,e1,h3,h3',h7,e5,e6,e7,h6',gb]
  · have h5':¬ (m.2.1.length:Int)=(N:Int):=by omega
    rw [frO_f (by unfold frO; rw [hk0,← hN,decide_eq_false h5]; simp)]
    rw [aCall_eq T_spec_OramOk]; unfold A_spec_OramOk C_spec_OramOk; simp [apA,e1,h3,h3',h7,e5,e6,h5',gb]
theorem c_spec_OramOk (M:Mem) (cs:List V) (x:ty_Oram.D) (h:Rep ty_Oram M cs x) (hz:BlkSz x.2.2.2.2) (hc:x.2.2.2.1.2.1.length≤1048576) (hsz:∀ c ∈ x.2.2.2.1.2.1,List.length (α:=UInt8) c≤1048576):aCall T0 F_spec_OramOk [.agg cs.toArray] M=some (.bool (orO x).isSome,M):=by
  obtain ⟨aC,cC,aT,cT,aS,cS,rfl,hM,hS⟩:=oram_shape h
  obtain ⟨_,_,e,_,hC,_⟩:=rep_g_Mem hM
  cases e
  exact c_spec_oramOk M x.1 x.2.1 x.2.2.1 x.2.2.2.1 x.2.2.2.2 aC cC aT cT aS cS hM hC hS hz hc hsz
theorem posD_len {one:List ty_Block.D} {N:Nat} (h:∀ b ∈ one,List.length (α:=UInt8) b.2.2≤N):(posD one).length≤one.length * N:=by
  have:=flatten_len (ns:=one.map fun b=>bytI b.2.2) (k:=N) (fun x hx=>by
    obtain ⟨b,hb,rfl⟩:=List.mem_map.1 hx
    unfold bytI
    rw [List.length_map]
    exact h b hb)
  rw [List.length_map] at this
  exact this
theorem int_lt_len {xs:List Int} (h:xs.Pairwise (· < ·)) (hr:∀ y ∈ xs,0≤y∧y≤255):xs.length≤256:=by
  have key:∀ i (hi:i < xs.length),(i:Int)≤xs[i]:=by
    intro i
    induction i with
    | zero=>intro hi; exact (hr _ (List.getElem_mem hi)).1
    | succ i ih =>
      intro hi
      have h1:=ih (by omega)
      have h2:=List.pairwise_iff_getElem.1 h i (i+1) (by omega) hi (by omega)
      omega
  by_cases h0:xs.length=0
  · omega
  · have h1:=key (xs.length - 1) (by omega)
    have h2:=(hr _ (List.getElem_mem (show xs.length - 1 < xs.length by omega))).2
    omega
theorem lt_len {xs:List ty_Block.D} (h:IdLt xs) (hr:IdsR xs):xs.length≤256:=by
  have:=int_lt_len (xs:=xs.map fun b=>(b.1:Int)) ((List.pairwise_map (f:=fun b:ty_Block.D=>(b.1:Int)) (R:=(· < ·))).2 h) (fun y hy=>by
    obtain ⟨b,hb,rfl⟩:=List.mem_map.1 hy
    exact hr b hb)
  simpa using this
theorem orO_good {x:ty_Oram.D} {r:List ty_Block.D} (h:orO x=some r):∃ k:Nat,x.1=(k:Int)∧k≤6∧frO k x.2.1 x.2.2.1 x.2.2.2.1 x.2.2.2.2=true∧outO k x.2.1 1 x.2.2.2.1.2.1 x.2.2.2.2=some r∧IdLt r∧IdsR r∧x.2.2.2.1.2.1.all (ndOk k x.2.1)=true∧∀ j,flI j r=flI j (x.2.2.2.2++(ndsF x.2.1 x.2.2.2.1.2.1).flatten):=by
  unfold orO orX at h
  by_cases hfr:frO x.1 x.2.1 x.2.2.1 x.2.2.2.1 x.2.2.2.2=true
  · rw [if_pos hfr] at h
    have hfr2:=hfr
    unfold frO at hfr2
    simp only [Bool.and_eq_true] at hfr2
    obtain ⟨k,hk,hk6⟩:=log_nat hfr2.1
    rw [hk] at h hfr
    have hk0:Int.toNat (k:Int)=k:=by omega
    rw [hk0] at h
    have h8:=hfr2.2.2.2.2.2.2.2
    have st8:x.2.2.2.2.length≤128∧blocksB x.1 x.2.1 x.2.2.2.2=true:=by unfold stashB at h8; simpa using h8
    obtain ⟨⟨q1,q2⟩,q3,q4,q5⟩:=out_good _ 1 _ r h (blocks_lt st8.2) (ids_of st8.2)
    exact ⟨k,hk,hk6,hfr,h,q3,q4,q1,q5⟩
  · rw [if_neg hfr] at h
    cases h
theorem oram_len {x:ty_Oram.D} {r:List ty_Block.D} (h:orO x=some r):r.length≤256∧IdsR r:=by
  obtain ⟨k,hk,hk6,hfr,hout,q3,q4,q1,q5⟩:=orO_good h
  exact ⟨lt_len q3 q4,q4⟩
theorem filt_bd {P:ty_Block.D→Prop} {xs ys:List ty_Block.D} (h:∀ k,flI k xs=flI k ys) (hp:∀ y ∈ ys,P y):∀ x ∈ xs,P x:=fun x hx=>by
  have:x ∈ flI (Int.toNat x.1) xs:=List.mem_filter.2 ⟨hx,decide_eq_true rfl⟩
  rw [h] at this
  exact hp x (List.mem_filter.1 this).1
theorem oram_blk {x:ty_Oram.D} {r:List ty_Block.D} (h:orO x=some r):∀ b ∈ r,blockB x.1 x.2.1 b=true:=by
  obtain ⟨k,hk,hk6,hfr,hout,q3,q4,q1,q5⟩:=orO_good h
  unfold frO at hfr
  simp only [Bool.and_eq_true] at hfr
  have h8:=hfr.2.2.2.2.2.2.2
  have st8:x.2.2.2.2.length≤128∧blocksB k x.2.1 x.2.2.2.2=true:=by unfold stashB at h8; simpa using h8
  rw [hk]
  refine filt_bd q5 fun y hy=>?_
  rcases List.mem_append.1 hy with hy | hy
  · exact blocks_of st8.2 y hy
  · obtain ⟨bs,hbs,hx⟩:=List.mem_flatten.1 hy
    obtain ⟨c,hc,rfl⟩:=List.mem_map.1 hbs
    have:=List.all_eq_true.1 q1 c hc
    unfold ndOk at this
    simp only [Bool.and_eq_true] at this
    exact blocks_of this.2.2.1 y hx
theorem oram_dat {x:ty_Oram.D} {r:List ty_Block.D} (h:orO x=some r):∀ b ∈ r,(List.length (α:=UInt8) b.2.2:Int)=x.2.1∧List.length (α:=UInt8) b.2.2≤200:=fun b hb=>by
  have:=oram_blk h b hb
  unfold blockB wdB at this
  simp only [Bool.and_eq_true,decide_eq_true_eq] at this
  have aux:∀ (n:Nat) (w:Int),w≤200→(n:Int)=w→(n:Int)=w∧n≤200:=fun n w h1 h2=>⟨h2,by omega⟩
  exact aux _ _ this.1.2.2 this.2.2.2
def CbI (M:Mem) (v:V) (xs:List ty_Block.D) (X:Mem):Prop:=∃ L,M <+: X∧Gr (.sl ty_Block) X [v] xs L∧L.Nodup∧∀ l ∈ L,M.length≤l
set_option maxHeartbeats 1000000 in
theorem l_spec_l13Copy_0 (M:Mem) (a:Option Addr) (c:Nat) (xs:List ty_Block.D) (h:Rep (.sl ty_Block) M [.slice a xs.length c] xs) (hz:BlkSz xs) (v:V) (Z:Mem) (hZ:CbI M v [] Z) :
    ∃ v' X',CbI M v' xs X'∧lp (aCall T0) K_spec_l13Copy_0 L_spec_l13Copy_0 [.slice a xs.length c,O,O,v,.int .i64 (0:Nat),O,O,O,O,O,O,O,O,O,O,O,O,O,O,O,O,O,O,O,O,O,O,O,O,O,O,O,O,O] Z=lp (aCall T0) K_spec_l13Copy_0 L_spec_l13Copy_0 [.slice a xs.length c,O,O,v',.int .i64 xs.length,O,O,O,O,O,O,O,O,O,O,O,O,O,O,O,O,O,O,O,O,O,O,O,O,O,O,O,O,O] X':=by
  have key:=loop_to (call:=aCall T0) (K:=K_spec_l13Copy_0) (L:=L_spec_l13Copy_0) (fun i v X=>CbI M v (xs.take i) X) (fun i v=>[.slice a xs.length c,O,O,v,.int .i64 i,O,O,O,O,O,O,O,O,O,O,O,O,O,O,O,O,O,O,O,O,O,O,O,O,O,O,O,O,O]) (n:=xs.length) ?_ 0 v Z (by omega) (by simpa using hZ)
  · rw [List.take_length] at key
    exact key
  intro i v X hi ⟨L,pX,g0,nd,ge0⟩
  obtain ⟨l,o,u,rfl,q1,q2,q3,q4,w0,w1,qu,_⟩:=at_Block (h.mono pX) hi
  rw [List.take_succ_eq_append_getElem hi]
  have hlen:(xs.take i).length=i:=by rw [List.length_take]; omega
  have hzi:=hz.2 _ (List.getElem_mem hi)
  have hn:=hz.1
  generalize xs.take i=ys at g0 hlen ⊢
  generalize xs[i]=b at q1 q2 q3 q4 w0 w1 qu hzi ⊢
  obtain ⟨b1,b2,b3⟩:=b
  simp only at q1 q2 q3 q4 w0 w1 qu hzi ⊢
  obtain ⟨⟨a2,c2,rfl⟩,hc,_⟩:=rep_cellsF fl_Byte (qu.mono (List.prefix_append X [(⟨[],1,2⟩:Blk)]))
  have hc:sliceCells (X++[(⟨[],1,2⟩:Blk)]) 1 (.slice a2 (List.length (α:=UInt8) b3) c2)=some (List.length (α:=UInt8) b3,(List.map enc_Byte b3).flatten):=hc
  have e6:IntKind.i64.wrap ((i:Int)+1)=i+1:=wrap_i64 (by omega) (by omega)
  have hll:l < M.length:=by obtain ⟨blk,hbk,_⟩:=rep_blk h; exact get_lt hbk
  have hpl:=pX.length_le
  have q3':=fun N:Mem=>rd1_old (N:=N) q3
  obtain ⟨av,rfl⟩:=g0.shape
  have hh1:∀ ys:List Nat,(∀ y ∈ ys,y=l)→hits [X.length] ys=false:=fun ys hy=>hits_ge (K:=M.length) (by simp; omega) (fun y h=>by rw [hy y h]; exact hll)
  have hwL:∀ b ∈ wfs (.slice av ys.length ys.length),M.length≤b:=by
    obtain ⟨_,_,hw⟩:=g0.gr (K:=0) (by simp)
    exact fun b hb=>ge0 b (hw b hb)
  have hh2:∀ zs:List Nat,(∀ y ∈ zs,y=l)→hits (wfs (.slice av ys.length ys.length)) zs=false:=fun zs hy=>hits_ge (K:=M.length) hwL (fun y h=>by rw [hy y h]; exact hll)
  have s1:=hh1 [l] (by simp)
  have s2:=hh1 [l,l] (by simp)
  have s3:=hh1 [l,l,l] (by simp)
  have t1:=hh2 [l] (by simp)
  have t2:=hh2 [l,l] (by simp)
  have t3:=hh2 [l,l,l] (by simp)
  rw [S_spec_l13Copy_0]; unfold B_spec_l13Copy_0; simp [apA,hi,q1,q2,q3,q3',hc,zeroCells]
  generalize hy:appS _ _ _ _ _ _=xhy
  obtain ⟨l2,X3,rfl,hl2,gb,ag⟩:=cp_all (t:=.u8) (xs:=b3) fl_Byte hy (by simp [Ty.w]) (by simp) (by omega) (by omega)
  clear hy
  have p3:X <+: X3:=ag.pre (List.prefix_append _ _) (by simp)
  simp [apA,thenD_agree,ag,s1,s2,s3,zeroCells]
  generalize hy:appS _ _ _ _ _ _=xhy
  have hcg:Gr ty_Block (X3++[(⟨[.int .i64 b1,.int .i64 b2,.slice (some ⟨l2,0,none⟩) (List.length (α:=UInt8) b3) (List.length (α:=UInt8) b3)],3,2⟩:Blk)]) [.int .i64 b1,.int .i64 b2,.slice (some ⟨l2,0,none⟩) (List.length (α:=UInt8) b3) (List.length (α:=UInt8) b3)] (b1,b2,b3) [l2]:=gr_Block (x:=(b1,b2,b3)) w0 w1 (gb.grow (List.prefix_append _ _))
  obtain ⟨l4,X4,L',rfl,g4,ag2,len2,hw4,nd4,sub4,hl4⟩:=g0.app (t:=ty_Block) hy (p3.trans (List.prefix_append _ _)) hcg (by simpa using hl2) nd (by simp) (by rw [hlen]; omega) (by rw [hlen]; omega)
  clear hy
  have pX4:M <+: X4:=ag2.pre (pf_app (pX.trans p3)) hwL
  simp [apA,e6,thenD_agree,ag2,t1,t2,t3]
  refine ⟨_,_,⟨L',pX4,g4,nd4,fun j hj=>?_⟩,rfl⟩
  have hx3:=p3.length_le
  rcases sub4 j hj with h | h | h
  · exact ge0 j h
  · simp at h; omega
  · simp at hl4; omega
theorem c_spec_l13Copy (M:Mem) (v:V) (xs:List ty_Block.D) (h:Rep (.sl ty_Block) M [v] xs) (hz:BlkSz xs):Sat (aCall T0 F_spec_l13Copy [v] M) (GrV ty_Block M xs):=by
  obtain ⟨a,c,rfl⟩:=h.slen
  obtain ⟨v',X',⟨L,p1,g1,n1,k1⟩,e⟩:=l_spec_l13Copy_0 M a c xs h hz (.slice (some ⟨M.length,0,none⟩) 0 0) (M++[⟨[],3,2⟩]) ⟨[M.length],List.prefix_append _ _,gr0 (t:=ty_Block) (by simp [Ty.w]),by simp,by simp⟩
  simp only [Int.natCast_zero,Int.ofNat_zero] at e
  rw [aCall_eq T_spec_l13Copy]; unfold A_spec_l13Copy C_spec_l13Copy; simp [apA,zeroCells,e]
  obtain ⟨av,rfl⟩:=g1.shape
  rw [S_spec_l13Copy_0]; unfold B_spec_l13Copy_0; simp [apA]
  exact ⟨(_,X'),rfl,L,p1,g1,n1,k1⟩
theorem mem_bnd {m:ty_Mem.D} (h:memB m=true):m.2.1.length≤128∧m.2.2.length≤6000∧∀ c ∈ m.2.1,List.length (α:=UInt8) c≤1000:=by
  unfold memB mem0 at h
  simp only [Bool.and_eq_true,decide_eq_true_eq] at h
  obtain ⟨⟨⟨h1,h2⟩,h3,h4⟩,h5,h6⟩:=h
  refine ⟨h3,h4,fun c hc=>?_⟩
  have:=List.all_eq_true.1 h5 c hc
  unfold cellB at this
  have:=of_decide_eq_true this
  generalize m.1=sz at *
  omega
def Zl (zs:List (List V × ty_Block.D)):List V:=(zs.map (·.1)).flatten
theorem rep_zs {K:Nat} {X:Mem} {v:V} {zs:List (List V × ty_Block.D)} (h:Grow K 3 X v zs.length (Zl zs)) (hz:∀ z ∈ zs,Rep ty_Block X z.1 z.2):Rep (.sl ty_Block) X [v] (zs.map (·.2)):=by
  rcases h.2 with ⟨rfl,h0⟩ | ⟨l,_,rfl,hb⟩
  · have:zs=[]:=List.length_eq_zero_iff.1 h0
    subst this
    exact .inl ⟨rfl,rfl⟩
  · refine .inr ⟨l,0,zs.length,_,zs.map (·.1),by rw [List.length_map],hb,.inr (.inl rfl),rfl,by simp,?_,?_⟩
    · intro i ds x hd hx
      rw [List.getElem?_map] at hd hx
      obtain ⟨z,hz1,rfl⟩:=Option.map_eq_some_iff.1 hd
      obtain ⟨z',hz2,rfl⟩:=Option.map_eq_some_iff.1 hx
      rw [hz1] at hz2
      cases hz2
      exact hz z (List.mem_of_getElem? hz1)
    · rw [List.drop_zero]
      exact List.prefix_refl _
def SoI (M:Mem) (ys:List ty_Block.D) (v:V) (X:Mem):Prop:=M <+: X∧∃ zs:List (List V × ty_Block.D),zs.map (·.2)=ys∧(∀ z ∈ zs,Rep ty_Block M z.1 z.2)∧Grow M.length 3 X v zs.length (Zl zs)
theorem flI_take (k:Nat) (xs:List ty_Block.D) {i:Nat} (hi:i < xs.length):flI k (xs.take (i+1))=flI k (xs.take i)++(if Int.toNat xs[i].1=k then [xs[i]] else []):=by
  rw [List.take_succ_eq_append_getElem hi,flI_app,flI_one]
theorem Zl_app (zs zs':List (List V × ty_Block.D)):Zl (zs++zs')=Zl zs++Zl zs':=by simp [Zl]
set_option maxHeartbeats 1000000 in
theorem l_spec_l14Sorted_1 (M:Mem) (a:Option Addr) (c:Nat) (xs:List ty_Block.D) (h:Rep (.sl ty_Block) M [.slice a xs.length c] xs) (hr:IdsR xs) (hn:xs.length≤100000) (k:Nat) (hk:k < 256) (ys:List ty_Block.D) (hy:ys.length≤100000000) (v:V) (X:Mem) (hX:SoI M ys v X) :
    ∃ v' X',SoI M (ys++flI k xs) v' X'∧lp (aCall T0) K_spec_l14Sorted_1 L_spec_l14Sorted_1 [.slice a xs.length c,O,O,v,.int .i64 k,.int .i64 (0:Nat),O,O,O,O,O,O,O,O,O,O,O,O,O,O,O,O,O,O,O,O,O,O,O,O,O,O,O] X=lp (aCall T0) K_spec_l14Sorted_1 L_spec_l14Sorted_1 [.slice a xs.length c,O,O,v',.int .i64 k,.int .i64 xs.length,O,O,O,O,O,O,O,O,O,O,O,O,O,O,O,O,O,O,O,O,O,O,O,O,O,O,O] X':=by
  have key:=loop_to (call:=aCall T0) (K:=K_spec_l14Sorted_1) (L:=L_spec_l14Sorted_1) (fun i v X=>SoI M (ys++flI k (xs.take i)) v X) (fun i v=>[.slice a xs.length c,O,O,v,.int .i64 k,.int .i64 i,O,O,O,O,O,O,O,O,O,O,O,O,O,O,O,O,O,O,O,O,O,O,O,O,O,O,O]) (n:=xs.length) ?_ 0 v X (by omega) (by simpa [flI] using hX)
  · rw [List.take_length] at key
    exact key
  intro i v X hi ⟨pX,zs,hzs,hz,hg⟩
  have e6:IntKind.i64.wrap ((i:Int)+1)=i+1:=wrap_i64 (by omega) (by omega)
  obtain ⟨l,o,u,rfl,hr0,_,_,hrn,_,_,hub,hrep⟩:=at_Block (h.mono pX) hi
  obtain ⟨_,l',o',e,cs',hrd',hrepM⟩:=rep_at h hi
  cases e
  have hrd2:=rn_pre pX hrd'
  have hw:ty_Block.w=3:=rfl
  rw [hw] at hrd2
  rw [hrn] at hrd2
  have hcs:=(Option.some.inj hrd2).symm
  subst hcs
  obtain ⟨ub,uc,rfl⟩:=hub.slen
  rw [flI_take k xs hi,← List.append_assoc]
  have hid:=ids_nat hr _ (List.getElem_mem hi)
  have hfl:(flI k (xs.take i)).length≤i:=by
    have h1:(flI k (xs.take i)).length≤(xs.take i).length:=List.length_filter_le _ _
    rw [List.length_take] at h1
    omega
  have hzl:zs.length=ys.length+(flI k (xs.take i)).length:=by rw [← List.length_map (f:=Prod.snd),← List.length_append]; exact congrArg List.length hzs
  generalize flI k (xs.take i)=fl at *
  have hone:=hrepM.one
  generalize hxi:xs[i]=b at *
  obtain ⟨b1,b2,b3⟩:=b
  simp only at hr0 hrn hid hub hone hrepM
  rw [hid.1] at hr0 hrn hone hrepM
  have hlt:=hid.2
  by_cases hq:Int.toNat b1=k
  · rw [if_pos hq]
    subst hq
    generalize hdl:List.length (α:=UInt8) b3=dl at *
    generalize hq:Int.toNat b1=q at *
    rw [S_spec_l14Sorted_1]; unfold B_spec_l14Sorted_1; simp [apA,hi,hr0,hrn,hone,zeroCells]
    generalize hy:appS _ _ _ _ _ _=xhy
    obtain ⟨a2,X3,rfl,g3,ag,hl3,hw3⟩:=grow_app hg hy (List.prefix_append _ _) pX.length_le (by simp) (List.all_eq_true.2 fun x hx=>List.all_eq_true.1 hone x hx) (by omega) (by omega)
    clear hy
    simp [apA,e6]
    refine ⟨_,X3,⟨ag.pre (pX.trans (List.prefix_append _ _)) hg.ge,zs++[([.int .i64 (q:Int),.int .i64 b2,.slice ub dl uc],(b1,b2,b3))],by rw [List.map_append,hzs,List.append_assoc]; rfl,fun z hm=>?_,?_⟩,rfl⟩
    · rcases List.mem_append.1 hm with hm | hm
      · exact hz z hm
      · rw [List.mem_singleton.1 hm]
        show Rep ty_Block M _ (b1,b2,b3)
        rw [hid.1]
        exact hrepM
    · rw [List.length_append,Zl_app]
      exact g3
  · rw [if_neg hq,List.append_nil]
    generalize hdl:List.length (α:=UInt8) b3=dl at *
    generalize Int.toNat b1=q at *
    have hq2:¬ (q:Int)=(k:Int):=by omega
    rw [S_spec_l14Sorted_1]; unfold B_spec_l14Sorted_1; simp [apA,hi,hr0,hrn,hq2,hq,e6]
    exact ⟨v,X,⟨pX,zs,hzs,hz,hg⟩,rfl⟩
def srtL (n:Nat) (xs:List ty_Block.D):List ty_Block.D:=(List.range n).flatMap fun k=>flI k xs
theorem srtL_succ (n:Nat) (xs:List ty_Block.D):srtL (n+1) xs=srtL n xs++flI n xs:=by
  unfold srtL
  rw [List.range_succ,List.flatMap_append]
  simp
theorem srtL_len (xs:List ty_Block.D):∀ n,(srtL n xs).length≤n * xs.length
  | 0=>by simp [srtL]
  | n+1=>by
    have h1:(flI n xs).length≤xs.length:=List.length_filter_le _ _
    have h2:=srtL_len xs n
    rw [srtL_succ,List.length_append,Nat.succ_mul]
    omega
set_option maxHeartbeats 1000000 in
theorem c_spec_l14Sorted (M:Mem) (v:V) (xs:List ty_Block.D) (h:Rep (.sl ty_Block) M [v] xs) (hr:IdsR xs) (hn:xs.length≤4000) (hz:BlkSz xs):Sat (aCall T0 F_spec_l14Sorted [v] M) (GrV ty_Block M (srtL 256 xs)):=by
  obtain ⟨a,c,rfl⟩:=h.slen
  have key:=loop_to (call:=aCall T0) (K:=K_spec_l14Sorted_0) (L:=L_spec_l14Sorted_0) (fun i v X=>SoI M (srtL i xs) v X) (fun i v=>[.slice a xs.length c,O,O,v,.int .i64 i,O,O,O,O,O,O,O,O,O,O,O,O,O,O,O,O,O,O,O,O,O,O,O,O,O,O,O,O]) (n:=256) ?_ 0 (.slice (some ⟨M.length,0,none⟩) 0 0) (M++[⟨[],3,2⟩]) (by omega) ⟨List.prefix_append _ _,[],rfl,by simp,Grow.new (Nat.le_refl _) rfl⟩
  · obtain ⟨v',X',⟨pX,zs,hzs,hzr,hg⟩,e⟩:=key
    simp only [Int.natCast_zero,Int.ofNat_zero] at e
    have hrep:=rep_zs hg (fun z hm=>(hzr z hm).mono pX)
    rw [hzs] at hrep
    have hlen:=srtL_len xs 256
    have hC:=c_spec_l13Copy X' v' _ hrep ⟨by omega,fun x hx=>by
      obtain ⟨k,_,hk⟩:=List.mem_flatMap.1 hx
      exact hz.2 x (List.mem_filter.1 hk).1⟩
    rw [aCall_eq T_spec_l14Sorted]; unfold A_spec_l14Sorted C_spec_l14Sorted; simp [apA,zeroCells,e]
    rw [S_spec_l14Sorted_0]; unfold B_spec_l14Sorted_0; simp [apA]
    generalize hx:aCall T0 F_spec_l13Copy _ _=xhx
    obtain ⟨v3,X3,rfl,L3,p3,g3,n3,k3⟩:=of_call hx hC
    clear hx
    simp only at p3 g3
    obtain ⟨a3,rfl⟩:=g3.shape
    simp [apA]
    exact ⟨(_,X3),rfl,L3,pX.trans p3,g3,n3,fun j hj=>Nat.le_trans pX.length_le (k3 j hj)⟩
  · intro i v X hi hX
    have hlen:=srtL_len xs i
    have hle:i * xs.length≤256 * 4000:=Nat.mul_le_mul (by omega) hn
    obtain ⟨v',X',hX',e⟩:=l_spec_l14Sorted_1 M a c xs h hr (by omega) i hi (srtL i xs) (by omega) v X hX
    simp only [Int.natCast_zero,Int.ofNat_zero] at e
    have e6:IntKind.i64.wrap ((i:Int)+1)=i+1:=wrap_i64 (by omega) (by omega)
    have hi2:(i:Int)≤255:=by omega
    rw [srtL_succ]
    refine ⟨v',X',hX',?_⟩
    rw [S_spec_l14Sorted_0]; unfold B_spec_l14Sorted_0; simp [apA,hi2,e]
    rw [S_spec_l14Sorted_1]; unfold B_spec_l14Sorted_1; simp [apA,e6]
    try rfl
theorem nodup_sub {a:Nat} {Ls:List (List Nat)} {k:Nat} {K:List Nat} (hn:(a :: Ls.flatten).Nodup) (hK:Ls[k]?=some K):a ∉ K:=fun hm=>(List.nodup_cons.1 hn).1 (List.mem_flatten.2 ⟨K,List.mem_of_getElem? hK,hm⟩)
theorem zl_gr {M:Mem} {v:V} {xs:List ty_Block.D} {L:List Nat} (h:Gr (.sl ty_Block) M [v] xs L) (hn:L.Nodup):∃ zs:List (List V × ty_Block.D),zs.map (·.2)=xs∧(∀ z ∈ zs,∃ K,Gr ty_Block M z.1 z.2 K∧∀ j ∈ K,j ∈ L∧j ∉ wfs v)∧Grow 0 3 M v zs.length (Zl zs)∧∀ j ∈ wfs v,j ∈ L:=by
  rcases h with ⟨e,rfl,_⟩ | ⟨l,css,Ls,e,hb,h1,h2,h3,rfl⟩
  · cases e
    exact ⟨[],rfl,by simp,⟨rfl,.inl ⟨rfl,rfl⟩⟩,by simp [wfs]⟩
  · cases e
    have hzl:(css.zip xs).length=xs.length:=by rw [List.length_zip]; omega
    have hm:((css.zip xs).map (·.1))=css:=List.map_fst_zip (by omega)
    have hcl:∀ c ∈ css,c.length=3:=fun c hc=>by
      obtain ⟨k,hk,rfl⟩:=List.getElem_of_mem hc
      exact (h3 k _ (xs[k]'(by omega)) (Ls[k]'(by omega)) (by simp) (by simp) (by simp)).len
    refine ⟨css.zip xs,List.map_snd_zip (by omega),?_,⟨by unfold Zl; rw [hm,flat_len hcl,hzl,h1],.inr ⟨l,Nat.zero_le _,by rw [hzl],by unfold Zl; rw [hm]; exact hb⟩⟩,by simp [wfs]⟩
    intro z hz
    obtain ⟨i,hi,rfl⟩:=List.getElem_of_mem hz
    rw [List.length_zip] at hi
    rw [List.getElem_zip]
    have hK:Ls[i]?=some (Ls[i]'(by omega)):=List.getElem?_eq_getElem (by omega)
    refine ⟨_,h3 i _ _ _ (List.getElem?_eq_getElem (by omega)) (List.getElem?_eq_getElem (by omega)) hK,fun j hj=>⟨List.mem_cons_of_mem _ (List.mem_flatten.2 ⟨_,List.mem_of_getElem? hK,hj⟩),fun hw=>?_⟩⟩
    have:j=l:=by simpa [wfs] using hw
    subst this
    exact nodup_sub hn hK hj
theorem node_at {M:Mem} {v:V} {xs:List ty_Node.D} {L:List Nat} (h:Gr (.sl ty_Node) M [v] xs L) (hn:L.Nodup) {i:Nat} (hi:i < xs.length):∃ (l:Nat) (u:V) (K:List Nat),v=.slice (some ⟨l,0,none⟩) xs.length xs.length∧rd1 M l i=some u∧Gr (.sl ty_Block) M [u] xs[i] K∧K.Nodup∧l ∈ L∧∀ j ∈ K,j ∈ L:=by
  rcases h with ⟨_,rfl,_⟩ | ⟨l,css,Ls,e,hb,h1,h2,h3,rfl⟩
  · simp at hi
  · cases e
    have hq:=h3 i (css[i]'(by omega)) xs[i] (Ls[i]'(by omega)) (by simp) (by simp) (by simp)
    have hcl:∀ c ∈ css,c.length=1:=fun c hc=>by
      obtain ⟨k,hk,rfl⟩:=List.getElem_of_mem hc
      exact (h3 k _ (xs[k]'(by omega)) (Ls[k]'(by omega)) (by simp) (by simp) (by simp)).len
    have hfl:=flat_len hcl
    have hrd:rdn M l (i * 1) 1=some (css[i]'(by omega)):=by
      have:=flat_atr (w:=1) css i (by omega) [] hcl
      rw [List.append_nil] at this
      simp only [rdn,hb]
      rw [if_pos (by refine ⟨by simp,by omega⟩),this]
    have hnK:(Ls[i]'(by omega)).Nodup:=(List.pairwise_flatten.1 (List.nodup_cons.1 hn).2).1 _ (List.getElem_mem _)
    have hl:=hq.len
    rw [Nat.mul_one] at hrd
    have hsub:∀ j ∈ Ls[i]'(by omega),j ∈ l :: Ls.flatten:=fun j hj=>List.mem_cons_of_mem _ (List.mem_flatten.2 ⟨_,List.getElem_mem _,hj⟩)
    generalize css[i]'(by omega)=ds at *
    generalize Ls[i]'(by omega)=K at *
    match ds,hl,hrd,hq with
    | [u],_,hrd,hq=>exact ⟨l,u,K,rfl,rd1_of_one hrd,hq,hnK,List.mem_cons_self ..,hsub⟩
structure AlI (M Z:Mem) (D:List Nat) (ys:List ty_Block.D) (v:V) (X:Mem):Prop where
  pre:M <+: X
  ag:Agree Z X D
  wf:∀ b ∈ wfs v,b ∈ D∨Z.length≤b
  ge:∀ b ∈ wfs v,M.length≤b
  zs:∃ zs:List (List V × ty_Block.D),zs.map (·.2)=ys∧(∀ z ∈ zs,∃ K,Gr ty_Block Z z.1 z.2 K∧∀ j ∈ K,j ∉ D)∧Grow 0 3 X v zs.length (Zl zs)
theorem Zl_all {M:Mem} {zs:List (List V × ty_Block.D)} (h:∀ z ∈ zs,Rep ty_Block M z.1 z.2):(Zl zs).all one=true:=by
  rw [List.all_eq_true]
  intro x hx
  obtain ⟨c,hc,hx⟩:=List.mem_flatten.1 hx
  obtain ⟨z,hz,rfl⟩:=List.mem_map.1 hc
  exact List.all_eq_true.1 (h z hz).one x hx
set_option maxHeartbeats 2000000 in
theorem l_spec_OramBlocks_0 (M Z:Mem) (D:List Nat) (aN:Option Addr) (cN:Nat) (ns:List ty_Node.D) (LN:List Nat) (hN:Gr (.sl ty_Node) Z [.slice aN ns.length cN] ns LN) (nN:LN.Nodup) (hD:∀ j ∈ LN,j ∉ D) (hMZ:M.length≤Z.length) (hnl:∀ bs ∈ ns,List.length (α:=ty_Block.D) bs≤4) (hnn:ns.length≤1000) (ys:List ty_Block.D) (hys:ys.length≤1000) (v:V) (X:Mem) (h:AlI M Z D ys v X) :
    ∃ v' X',AlI M Z D (ys++ns.flatten) v' X'∧lp (aCall T0) K_spec_OramBlocks_0 L_spec_OramBlocks_0 [O,O,O,v,.slice aN ns.length cN,O,.int .i64 (0:Nat),O,O,O,O,O,O,O,O,O,O,O,O,O,O,O,O,O,O,O,O,O,O,O,O,O,O] X=lp (aCall T0) K_spec_OramBlocks_0 L_spec_OramBlocks_0 [O,O,O,v',.slice aN ns.length cN,O,.int .i64 ns.length,O,O,O,O,O,O,O,O,O,O,O,O,O,O,O,O,O,O,O,O,O,O,O,O,O,O] X':=by
  have key:=loop_to (call:=aCall T0) (K:=K_spec_OramBlocks_0) (L:=L_spec_OramBlocks_0) (fun i v X=>AlI M Z D (ys++(ns.take i).flatten) v X) (fun i v=>[O,O,O,v,.slice aN ns.length cN,O,.int .i64 i,O,O,O,O,O,O,O,O,O,O,O,O,O,O,O,O,O,O,O,O,O,O,O,O,O,O]) (n:=ns.length) ?_ 0 v X (by omega) (by simpa using h)
  · rw [List.take_length] at key
    exact key
  intro i v X hi hX
  have e6:IntKind.i64.wrap ((i:Int)+1)=i+1:=wrap_i64 (by omega) (by omega)
  have hfl:=flatten_len (ns:=ns.take i) (k:=4) (fun x hx=>hnl x (List.mem_of_mem_take hx))
  rw [List.length_take] at hfl
  have hbl:=hnl _ (List.getElem_mem hi)
  obtain ⟨zs,hzs,hz,hg⟩:=hX.zs
  have hzl:zs.length=ys.length+((ns.take i).flatten).length:=by rw [← List.length_map (f:=Prod.snd),← List.length_append]; exact congrArg List.length hzs
  rw [flatten_take ns hi,← List.append_assoc]
  obtain ⟨l,u,K,e,hrd,hgn,hnN,hlL,hK⟩:=node_at hN nN hi
  cases e
  have hrdZ:=hrd
  obtain ⟨zs2,hzs2,hz2,hg2,hw2⟩:=zl_gr hgn hnN
  have hru:rd1 X l i=some u:=by
    have hlt:=hN.lt l hlL
    have e2:=hX.ag.2 l hlt (hD l hlL)
    unfold rd1 at hrd ⊢
    rw [e2]
    exact hrd
  have hgX:Grow 0 3 X u zs2.length (Zl zs2):=hg2.keep fun b hb=>hX.ag.2 b (hg2.lt b hb) (hD b (hK b (hw2 b hb)))
  have hsc:=hgX.cells
  have hl2:zs2.length≤4:=by rw [← List.length_map (f:=Prod.snd),hzs2]; exact hbl
  have hall:(Zl zs2).all one=true:=Zl_all (M:=Z) fun z hm=>by
    obtain ⟨K2,q,_⟩:=hz2 z hm
    exact q.rep
  obtain ⟨au,rfl⟩:=hgX.shape
  generalize (ns.take i).flatten=fl at *
  rw [S_spec_OramBlocks_0]; unfold B_spec_OramBlocks_0; simp [apA,hi,hru,hsc]
  generalize hy:appS _ _ _ _ _ _=xhy
  obtain ⟨a2,X3,rfl,g3,ag,hl3,hw3⟩:=grow_app hg hy (List.prefix_refl _) (Nat.zero_le _) hgX.1 hall (by omega) (by omega)
  clear hy
  simp [apA,e6]
  have hagX:Agree Z X3 D:=⟨Nat.le_trans hX.ag.1 hl3,fun b hb hn=>by
    rw [ag.2 b (by have:=hX.ag.1; omega) (fun hm=>by rcases hX.wf b hm with h | h; exact hn h; omega)]
    exact hX.ag.2 b hb hn⟩
  refine ⟨_,X3,⟨ag.pre hX.pre hX.ge,hagX,fun b hb=>?_,fun b hb=>?_,zs++zs2,by rw [List.map_append,hzs,hzs2,List.append_assoc],fun z hm=>?_,?_⟩,rfl⟩
  · rcases hw3 b hb with h | h
    · exact hX.wf b h
    · right; have:=hX.ag.1; omega
  · rcases hw3 b hb with h | h
    · exact hX.ge b h
    · have:=hX.pre.length_le; omega
  · rcases List.mem_append.1 hm with hm | hm
    · exact hz z hm
    · obtain ⟨K2,q1,q2⟩:=hz2 z hm
      exact ⟨K2,q1,fun j hj=>hD j (hK j (q2 j hj).1)⟩
  · rw [List.length_append,Zl_app]
    exact g3
theorem srt_eq {a xs:List ty_Block.D} (h1:IdLt a) (h2:IdsR a) (h:∀ k,flI k a=flI k xs):srtL 256 xs=a:=by
  have e:srtL 256 xs=srtL 256 a:=by
    unfold srtL
    congr 1
    funext k
    rw [h k]
  rw [e]
  have key:∀ (n k:Nat) (a:List ty_Block.D),IdLt a→(∀ x ∈ a,(k:Int)≤x.1∧x.1 < ((k+n:Nat):Int))→(List.range' k n).flatMap (fun k=>flI k a)=a:=by
    intro n
    induction n with
    | zero =>
      intro k a _ h
      cases a with
      | nil=>rfl
      | cons x xs =>
        have:=h x (by simp)
        exfalso
        have h3:(k:Int) < ((k+0:Nat):Int):=Int.lt_of_le_of_lt this.1 this.2
        omega
    | succ n ih =>
      intro k a h1 h2
      rw [List.range'_succ,List.flatMap_cons]
      cases a with
      | nil=>simp [flI]
      | cons x xs =>
        have hx:=h2 x (by simp)
        have hp:=List.pairwise_cons.1 h1
        have hnn:∀ y ∈ x :: xs,y.1=((Int.toNat y.1:Nat):Int)∧k≤Int.toNat y.1:=fun y hy=>by
          have hy:=(h2 y hy).1
          generalize y.1=z at *
          exact (show ∀ z:Int,(k:Int)≤z→z=((Int.toNat z:Nat):Int)∧k≤Int.toNat z from fun z hz=>by omega) z hy
        by_cases hk:Int.toNat x.1=k
        · have hxk:=(hnn x (by simp)).1
          rw [hk] at hxk
          have hgt:∀ y ∈ xs,k < Int.toNat y.1:=fun y hy=>by
            have h3:=hp.1 y hy
            have h4:=hnn y (by simp [hy])
            rw [hxk,h4.1] at h3
            exact (show ∀ a b:Nat,(a:Int) < (b:Int)→a < b from fun a b h=>by omega) _ _ h3
          have e1:flI k (x :: xs)=[x]:=by
            rw [show x :: xs=[x]++xs from rfl,flI_app,flI_one,if_pos hk]
            have:flI k xs=[]:=by
              unfold flI
              rw [List.filter_eq_nil_iff]
              intro y hy hd
              have:=hgt y hy
              have:=of_decide_eq_true hd
              omega
            rw [this]
            rfl
          have e2:(List.range' (k+1) n).flatMap (fun j=>flI j (x :: xs))=(List.range' (k+1) n).flatMap (fun j=>flI j xs):=by
            rw [List.flatMap_def,List.flatMap_def]
            congr 1
            refine List.map_congr_left fun j hj=>?_
            have hj:=(List.mem_range'_1.1 hj).1
            rw [show x :: xs=[x]++xs from rfl,flI_app,flI_one,if_neg (by omega)]
            rfl
          rw [e1,e2,ih (k+1) xs hp.2 fun y hy=>?_]
          · rfl
          · have h3:=hgt y hy
            have h4:=(hnn y (by simp [hy])).1
            have h5:=(h2 y (by simp [hy])).2
            refine ⟨?_,?_⟩
            · rw [h4]
              exact Int.ofNat_le.2 h3
            · rw [show k+1+n=k+(n+1) by omega]
              exact h5
        · have hxk:=(hnn x (by simp)).2
          have hgt:∀ y ∈ x :: xs,k < Int.toNat y.1:=fun y hy=>by
            rcases List.mem_cons.1 hy with rfl | hy'
            · omega
            · have h3:=hp.1 y hy'
              have h4:=(hnn y hy).1
              rw [h4,(hnn x (by simp)).1] at h3
              have h5:Int.toNat x.1 < Int.toNat y.1:=(show ∀ a b:Nat,(a:Int) < (b:Int)→a < b from fun a b h=>by omega) _ _ h3
              omega
          have e1:flI k (x :: xs)=[]:=by
            unfold flI
            rw [List.filter_eq_nil_iff]
            intro y hy hd
            have:=hgt y hy
            have:=of_decide_eq_true hd
            omega
          rw [e1,List.nil_append]
          refine ih (k+1) (x :: xs) h1 fun y hy=>?_
          have h3:=hgt y hy
          have h4:=(hnn y hy).1
          have h5:=(h2 y hy).2
          refine ⟨?_,?_⟩
          · rw [h4]
            exact Int.ofNat_le.2 h3
          · rw [show k+1+n=k+(n+1) by omega]
            exact h5
  have hr:=key 256 0 a h1 fun x hx=>by
    have:=h2 x hx
    refine ⟨this.1,Int.lt_of_le_of_lt this.2 (by decide)⟩
  rw [← List.range_eq_range'] at hr
  exact hr
set_option maxRecDepth 20000 in
set_option maxHeartbeats 2000000 in
theorem c_spec_oramBlocks (M:Mem) (l w b:Int) (m:ty_Mem.D) (st:List ty_Block.D) (aC:Option Addr) (cC:Nat) (aT:Option Addr) (cT:Nat) (aS:Option Addr) (cS:Nat)
    (hM:Rep ty_Mem M [.int .i64 m.1,.slice aC m.2.1.length cC,.slice aT m.2.2.length cT] m) (hC:Rep (.sl ty_Cell) M [.slice aC m.2.1.length cC] m.2.1) (hS:Rep (.sl ty_Block) M [.slice aS st.length cS] st) (hz:BlkSz st) (hcz:m.2.1.length≤1048576) (hsz:∀ c ∈ m.2.1,List.length (α:=UInt8) c≤1048576) :
    Sat (aCall T0 F_spec_OramBlocks [.agg (aO l w b m.1 aC m.2.1.length cC aT m.2.2.length cT aS st.length cS).toArray] M) (GrV ty_Block M ((orX l w b m st).getD [])):=by
  have hpre:M <+: M++[(⟨aO l w b m.1 aC m.2.1.length cC aT m.2.2.length cT aS st.length cS,1,2⟩:Blk)]:=List.prefix_append _ _
  have hok:=c_spec_oramOk (M++[(⟨aO l w b m.1 aC m.2.1.length cC aT m.2.2.length cT aS st.length cS,1,2⟩:Blk)]) l w b m st aC cC aT cT aS cS (hM.mono hpre) (hC.mono hpre) (hS.mono hpre) hz hcz hsz
  cases ho:orX l w b m st with
  | none =>
    rw [ho] at hok
    simp only [Option.isSome_none] at hok
    rw [aCall_eq T_spec_OramBlocks]; unfold A_spec_OramBlocks C_spec_OramBlocks; simp [apA,hok]
    exact ⟨(_,_),rfl,[],hpre,Gr.nil,by simp,by simp⟩
  | some r =>
    rw [ho] at hok
    simp only [Option.isSome_some] at hok
    have hfr:frO l w b m st=true:=by
      cases h:frO l w b m st with
      | true=>rfl
      | false=>unfold orX at ho; rw [h] at ho; cases ho
    have hX:outO (Int.toNat l) w 1 m.2.1 st=some r:=by
      unfold orX at ho
      rw [if_pos hfr] at ho
      exact ho
    unfold frO at hfr
    simp only [Bool.and_eq_true,decide_eq_true_eq] at hfr
    obtain ⟨h1,h2,h3,h4,h5,h6,h7,h8⟩:=hfr
    have st8:st.length≤128∧blocksB l w st=true:=by unfold stashB at h8; simpa using h8
    have hlt:=blocks_lt st8.2
    have hid:=ids_of st8.2
    have hmb:=mem_bnd h4
    obtain ⟨k,rfl,hk⟩:=log_nat h1
    have hk0:Int.toNat (k:Int)=k:=by omega
    rw [hk0] at hX
    obtain ⟨⟨q1,q2⟩,q3,q4,q5⟩:=out_good m.2.1 1 st r hX hlt hid
    have hC1:=c_spec_l13Copy (M++[(⟨aO k w b m.1 aC m.2.1.length cC aT m.2.2.length cT aS st.length cS,1,2⟩:Blk)]) _ st (hS.mono hpre) hz
    have hbx0:(M++[(⟨aO k w b m.1 aC m.2.1.length cC aT m.2.2.length cT aS st.length cS,1,2⟩:Blk)])[M.length]?=some ⟨aO k w b m.1 aC m.2.1.length cC aT m.2.2.length cT aS st.length cS,1,2⟩:=List.getElem?_concat_length
    rw [aCall_eq T_spec_OramBlocks]; unfold A_spec_OramBlocks C_spec_OramBlocks; simp [apA,hok]
    generalize hx:aCall T0 F_spec_l13Copy _ _=xhx
    obtain ⟨v1,X1,rfl,L1,p1,g1,n1,k1⟩:=of_call hx hC1
    clear hx
    simp only at p1 g1
    have hbx:=get_pre p1 hbx0
    have hr7:rdn X1 M.length 0 7=some (aO k w b m.1 aC m.2.1.length cC aT m.2.2.length cT aS st.length cS):=rdn_box hbx rfl
    have pM1:=hpre.trans p1
    have hN:=c_spec_l14Nodes X1 k w b m st aC cC aT cT aS cS (hC.mono pM1) hcz hsz
    rw [q1,if_pos rfl] at hN
    simp [apA,hr7]
    generalize hx:aCall T0 F_spec_l14Nodes _ _=xhx
    obtain ⟨_,X2,rfl,r2,LN,rfl,p2,g2,nN,kN⟩:=of_call hx hN
    clear hx
    simp only at p2 g2
    have hnl:(ndsF w m.2.1).length=m.2.1.length:=ndsF_len _ _
    obtain ⟨aN,cN,rfl⟩:=g2.rep.slen
    obtain ⟨zs,hzs,hz1,hg1,hw1⟩:=zl_gr (g1.grow p2) n1
    have hml:=hpre.length_le
    obtain ⟨v3,X3,h3,e⟩:=l_spec_OramBlocks_0 M X2 (wfs v1) aN cN (ndsF w m.2.1) LN g2 nN (fun j hj hm=>by
      have:=kN j hj
      have:=g1.lt j (hw1 j hm)
      omega) (pM1.trans p2).length_le (fun bs hb=>by
      obtain ⟨c,_,rfl⟩:=List.mem_map.1 hb
      exact ndB_len _ _) (by omega) st (by omega) v1 X2 ⟨pM1.trans p2,⟨Nat.le_refl _,fun _ _ _=>rfl⟩,fun b hb=>.inl hb,fun b hb=>by
        have:=k1 b (hw1 b hb)
        omega,zs,hzs,fun z hm=>by
        obtain ⟨K,w1,w2⟩:=hz1 z hm
        exact ⟨K,w1,fun j hj=>(w2 j hj).2⟩,hg1⟩
    simp only [Int.natCast_zero,Int.ofNat_zero] at e
    obtain ⟨zs3,hzs3,hz3,hg3⟩:=h3.zs
    have hrep:=rep_zs hg3 (fun z hm=>by
      obtain ⟨K,w1,w2⟩:=hz3 z hm
      exact (w1.agree h3.ag w2).rep)
    rw [hzs3] at hrep
    have hfl:=flatten_len (ns:=ndsF w m.2.1) (k:=4) (fun bs hb=>by
      obtain ⟨c,_,rfl⟩:=List.mem_map.1 hb
      exact ndB_len _ _)
    have hmem:∀ x ∈ st++(ndsF w m.2.1).flatten,(0≤x.1∧x.1≤255)∧List.length (α:=UInt8) x.2.2≤1048576:=fun x hx=>by
      rcases List.mem_append.1 hx with hx | hx
      · exact ⟨hid x hx,hz.2 x hx⟩
      · obtain ⟨bs,hbs,hx⟩:=List.mem_flatten.1 hx
        obtain ⟨c,hc,rfl⟩:=List.mem_map.1 hbs
        have hnd:=List.all_eq_true.1 q1 c hc
        refine ⟨ndOk_ids hnd x hx,?_⟩
        have hcl:=hsz c hc
        unfold ndB at hx
        obtain ⟨j,_,rfl⟩:=List.mem_map.1 hx
        unfold blkAt
        show List.length (α:=UInt8) ((List.drop _ c).take _)≤1048576
        rw [List.length_take,List.length_drop]
        omega
    have hS4:=c_spec_l14Sorted X3 v3 _ hrep (fun x hx=>(hmem x hx).1) (by rw [List.length_append]; omega) ⟨by rw [List.length_append]; omega,fun x hx=>(hmem x hx).2⟩
    rw [srt_eq q3 q4 q5] at hS4
    obtain ⟨_,rfl⟩:=hg3.shape
    simp [apA,e]
    rw [S_spec_OramBlocks_0]; unfold B_spec_OramBlocks_0; simp [apA]
    generalize hx:aCall T0 F_spec_l14Sorted _ _=xhx
    obtain ⟨v4,X4,rfl,L4,p4,g4,n4,k4⟩:=of_call hx hS4
    clear hx
    simp only at p4 g4
    obtain ⟨a4,rfl⟩:=g4.shape
    simp [apA]
    exact ⟨(_,X4),rfl,L4,h3.pre.trans p4,g4,n4,fun j hj=>Nat.le_trans h3.pre.length_le (k4 j hj)⟩
theorem c_spec_oramBlocksO (M:Mem) (cs:List V) (x:ty_Oram.D) (h:Rep ty_Oram M cs x) (hz:BlkSz x.2.2.2.2) (hc:x.2.2.2.1.2.1.length≤1048576) (hsz:∀ c ∈ x.2.2.2.1.2.1,List.length (α:=UInt8) c≤1048576):Sat (aCall T0 F_spec_OramBlocks [.agg cs.toArray] M) (GrV ty_Block M ((orO x).getD [])):=by
  obtain ⟨aC,cC,aT,cT,aS,cS,rfl,hM,hS⟩:=oram_shape h
  obtain ⟨_,_,e,_,hC,_⟩:=rep_g_Mem hM
  cases e
  exact c_spec_oramBlocks M x.1 x.2.1 x.2.2.1 x.2.2.2.1 x.2.2.2.2 aC cC aT cT aS cS hM hC hS hz hc hsz
def dk0 (tb:List Int) (one:List ty_Block.D) (k:Nat):Bool:=match one[k]? with
  | some b=>decide (b.1=(k:Int)) && decide (b.2.1=tb.getD k 0)
  | none=>true
def keptB (k:Nat) (tb:List Int) (one:List ty_Block.D):Bool:=decide (one.length=2 ^ k) && (decide (tb.length=one.length) && (List.range one.length).all (dk0 tb one))
def KpV (M:Mem) (ok:Bool) (xs:List Int) (p:V × Mem):Prop:=∃ r L,p.1=.tuple #[r,.bool ok]∧M <+: p.2∧Gr (.sl ty_Int) p.2 [r] xs L∧L.Nodup∧∀ j ∈ L,M.length≤j
abbrev KfI (p:Nat) (v:V) (a:Option Addr) (n c:Nat) (k:Nat):List V:=[O,.pointer (some ⟨p,0,none⟩),O,O,v,.slice a n c,.int .i64 k,O,O,O,O,O,O,O,O,O,O,O,O,O,O,O,O,O,O,O,O,O,O,O,O,O,O,O,O,O,O,O,O,O,O,O,O,O,O,O,O,O,O,O,O,O,O,O,O,O,O,O,O,O,O,O,O,O,O,O,O,O,O,O]
theorem posD_take (one:List ty_Block.D) {k:Nat} (h:k < one.length):posD (one.take (k+1))=posD (one.take k)++bytI one[k].2.2:=by
  unfold posD
  rw [List.take_succ_eq_append_getElem h,List.map_append,List.flatten_append]
  simp
def KpI (M:Mem) (q:V) (one:List ty_Block.D) (L1:List Nat) (xs:List Int) (v:V) (X:Mem):Prop:=∃ L,M <+: X∧Gr (.sl ty_Block) X [q] one L1∧Gr (.sl ty_Int) X [v] xs L∧L.Nodup∧(∀ j ∈ L,M.length≤j)∧∀ j ∈ L1,j ∉ L
theorem bytI_take (ys:List UInt8) {j:Nat} (h:j < ys.length):bytI (ys.take (j+1))=bytI (ys.take j)++[(ys[j].toNat:Int)]:=by
  unfold bytI
  rw [List.take_succ_eq_append_getElem h,List.map_append]
  rfl
def inI (x:Int):Prop:=-9223372036854775808≤x∧x≤9223372036854775807
theorem gr_Int (M:Mem) {x:Int} (h:inI x):Gr ty_Int M [.int .i64 x] x []:=⟨⟨rfl,wf_range h⟩,rfl⟩
set_option maxHeartbeats 2000000 in
theorem l_spec_l16Kept_1 (Z:Mem) (p:Nat) (a:Option Addr) (c:Nat) (one:List ty_Block.D) (L1:List Nat) (k:Nat) (hk:k < one.length) (hd:List.length (α:=UInt8) one[k].2.2=4) (xs:List Int) (hx:xs.length≤1000000) (v:V) (X:Mem) (hX:KpI Z (.slice a one.length c) one L1 xs v X) :
    ∃ (v':V) (X':Mem),KpI Z (.slice a one.length c) one L1 (xs++bytI one[k].2.2) v' X'∧lp (aCall T0) K_spec_l16Kept_1 L_spec_l16Kept_1 [O,.pointer (some ⟨p,0,none⟩),O,O,v,.slice a one.length c,.int .i64 k,.int .i64 (0:Nat),O,O,O,O,O,O,O,O,O,O,O,O,O,O,O,O,O,O,O,O,O,O,O,O,O,O,O,O,O,O,O,O,O,O,O,O,O,O,O,O,O,O,O,O,O,O,O,O,O,O,O,O,O,O,O,O,O,O,O,O,O,O] X=lp (aCall T0) K_spec_l16Kept_1 L_spec_l16Kept_1 [O,.pointer (some ⟨p,0,none⟩),O,O,v',.slice a one.length c,.int .i64 k,.int .i64 (4:Nat),O,O,O,O,O,O,O,O,O,O,O,O,O,O,O,O,O,O,O,O,O,O,O,O,O,O,O,O,O,O,O,O,O,O,O,O,O,O,O,O,O,O,O,O,O,O,O,O,O,O,O,O,O,O,O,O,O,O,O,O,O,O] X':=by
  have key:=loop_to (call:=aCall T0) (K:=K_spec_l16Kept_1) (L:=L_spec_l16Kept_1) (fun r (v:V) X=>KpI Z (.slice a one.length c) one L1 (xs++bytI (List.take r one[k].2.2)) v X) (fun r v=>[O,.pointer (some ⟨p,0,none⟩),O,O,v,.slice a one.length c,.int .i64 k,.int .i64 r,O,O,O,O,O,O,O,O,O,O,O,O,O,O,O,O,O,O,O,O,O,O,O,O,O,O,O,O,O,O,O,O,O,O,O,O,O,O,O,O,O,O,O,O,O,O,O,O,O,O,O,O,O,O,O,O,O,O,O,O,O,O]) (n:=4) ?_ 0 v X (by omega) (by simpa [bytI] using hX)
  · rw [List.take_of_length_le (by rw [hd]; exact Nat.le_refl _)] at key
    exact key
  intro r v X hr ⟨L,pX,gB,g0,nd,ge,dis⟩
  obtain ⟨l0,o0,u,rfl,_,_,hru,_,_,_,hu,_⟩:=at_Block gB.rep hk
  generalize one[k]=b at *
  obtain ⟨b1,b2,ys⟩:=b
  simp only at hru hu hd g0 ⊢
  obtain ⟨ub,uc,rfl⟩:=hu.slen
  have hr4:r < List.length (α:=UInt8) ys:=by rw [hd]; exact hr
  obtain ⟨l1,o1,rfl,_,hrd⟩:=at_Byte hu hr4
  rw [bytI_take ys hr4,← List.append_assoc]
  have hbl:(xs++bytI (ys.take r)).length≤3000000:=by
    rw [List.length_append]
    unfold bytI
    rw [List.length_map,List.length_take]
    omega
  generalize xs++bytI (ys.take r)=zs at *
  have hy:byteV ys[r]=.int .u8 ((ys[r].toNat:Nat):Int):=rfl
  rw [hy] at hrd
  have n1:ys[r].toNat < 256:=UInt8.toNat_lt _
  generalize ys[r].toNat=y at *
  have c1:IntKind.i64.wrap (y:Int)=y:=wrap_i64 (by omega) (by omega)
  have e6:IntKind.i64.wrap ((r:Int)+1)=r+1:=wrap_i64 (by omega) (by omega)
  have hr4':(r:Int) < 4:=by omega
  have hd':ys.length=4:=hd
  have hk':(k:Int) < (one.length:Int):=by omega
  rw [hd'] at hru
  rw [S_spec_l16Kept_1]; unfold B_spec_l16Kept_1; simp [apA,hr,hr4',hk,hk',hru,hrd,c1,zeroCells,rd1_K,rdJ_ok]
  generalize hy2:appS _ _ _ _ _ _=xhy2
  have hin:inI (y:Int):=by unfold inI; omega
  obtain ⟨l4,X4,L',rfl,g4,ag2,len2,hw4,nd4,sub4,hl4⟩:=g0.app (t:=ty_Int) hy2 (List.prefix_append _ _) (gr_Int _ hin) (by simp) nd (by simp) (by omega) (by omega)
  clear hy2
  have hwL:∀ b ∈ wfs v,Z.length≤b:=by
    obtain ⟨_,_,hw⟩:=g0.gr (K:=0) (by simp)
    exact fun b hb=>ge b (hw b hb)
  have pX4:Z <+: X4:=ag2.pre (pX.trans (List.prefix_append _ _)) hwL
  simp [apA,e6]
  have hwL1:∀ b ∈ wfs v,b ∈ L:=by
    obtain ⟨_,_,hw⟩:=g0.gr (K:=0) (by simp)
    exact hw
  have gB4:=(gB.grow (List.prefix_append X [(⟨[.int .i64 (y:Int)],1,2⟩:Blk)])).agree ag2 (fun l hl hm=>dis l hl (hwL1 l hm))
  refine ⟨_,_,⟨L',pX4,gB4,g4,nd4,fun j hj=>?_,fun j hj hm=>?_⟩,rfl⟩
  · have hpl:=pX.length_le
    rcases sub4 j hj with h | h | h
    · exact ge j h
    · simp at h
    · simp at hl4; omega
  · have:=gB.lt j hj
    rcases sub4 j hm with h | h | h
    · exact dis j hj h
    · simp at h
    · simp at hl4; omega
theorem dk0_get {tb:List Int} {one:List ty_Block.D} {k:Nat} (h:k < one.length):dk0 tb one k=(decide (one[k].1=(k:Int)) && decide (one[k].2.1=tb.getD k 0)):=by unfold dk0; rw [List.getElem?_eq_getElem h]
theorem gc_sat {X X':Mem} {v:V} {P:V × Mem→Prop} (h1:P (v,X)) (h2:P (v,X')):Sat (gc X (some (v,X'))) P:=by
  unfold gc
  simp only
  split
  · exact sat_some h1
  · exact sat_some h2
set_option maxHeartbeats 2000000 in
theorem l_spec_l16Kept_0 (M Z:Mem) (hMZ:M <+: Z) (p:Nat) (a:Option Addr) (c:Nat) (one:List ty_Block.D) (L1:List Nat) (tb:List Int) (aT:Option Addr) (cT:Nat) (hT:Rep (.sl ty_Int) Z [.slice aT tb.length cT] tb) (hl:one.length=tb.length) (hp1:rd1 Z p 1=some (.slice aT tb.length cT)) (hn:one.length≤256) (hd:∀ b ∈ one,List.length (α:=UInt8) b.2.2=4) (v:V) (X:Mem) (hX:KpI Z (.slice a one.length c) one L1 [] v X) :
    (∃ (v':V) (X':Mem),KpI Z (.slice a one.length c) one L1 (posD one) v' X'∧(∀ i,i < one.length→dk0 tb one i=true)∧lp (aCall T0) K_spec_l16Kept_0 L_spec_l16Kept_0 (KfI p v a one.length c 0) X=lp (aCall T0) K_spec_l16Kept_0 L_spec_l16Kept_0 (KfI p v' a one.length c one.length) X') ∨
    ((∃ i,i < one.length∧dk0 tb one i=false)∧∀ k,Sat (thenF M [.tmp 2,.tmp 3] (thenS (blockR 0 (lp (aCall T0) K_spec_l16Kept_0 L_spec_l16Kept_0 (KfI p v a one.length c 0) X)) (aCall T0) k)) (KpV M false [])):=by
  have key:=loop_st (call:=aCall T0) (K:=K_spec_l16Kept_0) (L:=L_spec_l16Kept_0) (fun i (v:V) X=>KpI Z (.slice a one.length c) one L1 (posD (one.take i)) v X) (fun i v=>KfI p v a one.length c i) (dk0 tb one) (KpV M false []) (n:=one.length) (M0:=M) (rs:=[.tmp 2,.tmp 3]) (k0:=0) v X (by simpa [posD] using hX) ?_ ?_
  · rw [List.take_length] at key
    exact key
  · intro i v X hi ho hX
    rw [dk0_get hi] at ho
    obtain ⟨L,pX,gB,_⟩:=id hX
    have hdi:=hd _ (List.getElem_mem hi)
    have hpl:=posD_len (one:=one.take i) (N:=4) (fun b hb=>by rw [hd b (List.mem_of_mem_take hb)]; exact Nat.le_refl _)
    rw [List.length_take] at hpl
    have hxs:(posD (one.take i)).length≤1000000:=by omega
    obtain ⟨v',X',hX',e⟩:=l_spec_l16Kept_1 Z p a c one L1 i hi hdi _ hxs v X hX
    rw [← posD_take one hi] at hX'
    obtain ⟨l0,o0,u,rfl,h0,h1,_⟩:=at_Block gB.rep hi
    obtain ⟨lt,ot,rfl,_,hrt⟩:=at_Int (hT.mono pX) (i:=i) (by omega)
    have htg:tb[i]'(by omega)=tb.getD i 0:=by rw [List.getD_eq_getElem?_getD,List.getElem?_eq_getElem (by omega)]; rfl
    rw [htg] at hrt
    have e6:IntKind.i64.wrap ((i:Int)+1)=i+1:=wrap_i64 (by omega) (by omega)
    have iT:i < tb.length:=by omega
    have iT2:(i:Int) < (tb.length:Int):=by omega
    have iT3:(i:Int) < (one.length:Int):=by omega
    generalize tb.getD i 0=tg at *
    have hp1':=r1_pre pX hp1
    simp only [Bool.and_eq_true,decide_eq_true_eq] at ho
    obtain ⟨w1,w2⟩:=ho
    simp only [w1] at h0
    simp only [w2] at h1
    simp only [Int.natCast_zero,Int.ofNat_zero] at e
    refine ⟨v',X',hX',?_⟩
    rw [S_spec_l16Kept_0]; unfold B_spec_l16Kept_0; simp [apA,hi,h0,h1,hp1',hrt,iT,iT2,iT3,rd1_K,rdJ_ok]
    simp [apA,e]
    rw [S_spec_l16Kept_1]; unfold B_spec_l16Kept_1; simp [apA,e6]
    try rfl
  · intro i v X hi ho hX k
    rw [dk0_get hi] at ho
    obtain ⟨L,pX,gB,_⟩:=id hX
    obtain ⟨l0,o0,u,rfl,h0,h1,_⟩:=at_Block gB.rep hi
    obtain ⟨lt,ot,rfl,_,hrt⟩:=at_Int (hT.mono pX) (i:=i) (by omega)
    have htg:tb[i]'(by omega)=tb.getD i 0:=by rw [List.getD_eq_getElem?_getD,List.getElem?_eq_getElem (by omega)]; rfl
    rw [htg] at hrt
    have iT:i < tb.length:=by omega
    have iT2:(i:Int) < (tb.length:Int):=by omega
    have iT3:(i:Int) < (one.length:Int):=by omega
    generalize tb.getD i 0=tg at *
    generalize one[i]=b at *
    obtain ⟨b1,b2,ys⟩:=b
    simp only at h0 h1 ho
    have hp1':=r1_pre pX hp1
    have pM:=hMZ.trans pX
    have fin:KpV M false [] (.tuple #[.slice none 0 0,.bool false],M):=⟨_,[],rfl,List.prefix_refl _,Gr.nil,List.nodup_nil,by simp⟩
    have fin2:KpV M false [] (.tuple #[.slice none 0 0,.bool false],X):=⟨_,[],rfl,pM,Gr.nil,List.nodup_nil,by simp⟩
    by_cases w1:b1=(i:Int)
    · subst w1
      have w2:¬ b2=tg:=by
        intro e
        subst e
        simp at ho
      rw [S_spec_l16Kept_0]; unfold B_spec_l16Kept_0; simp [apA,hi,h0,h1,hp1',hrt,iT,iT2,iT3,rd1_K,rdJ_ok,w2]
      exact gc_sat fin fin2
    · rw [S_spec_l16Kept_0]; unfold B_spec_l16Kept_0; simp [apA,hi,h0,h1,hp1',hrt,iT,iT2,iT3,rd1_K,rdJ_ok,w1]
      exact gc_sat fin fin2
def KpO (M:Mem) (k:Nat) (tb:List Int) (one:List ty_Block.D) (p:V × Mem):Prop:=KpV M (keptB k tb one) (if keptB k tb one=true then posD one else []) p
theorem kpO_f {M:Mem} {k:Nat} {tb:List Int} {one:List ty_Block.D} {p:V × Mem} (h:keptB k tb one=false) (hp:KpV M false [] p):KpO M k tb one p:=by
  unfold KpO
  rw [h,if_neg (by decide)]
  exact hp
theorem kpO_t {M:Mem} {k:Nat} {tb:List Int} {one:List ty_Block.D} {p:V × Mem} (h:keptB k tb one=true) (hp:KpV M true (posD one) p):KpO M k tb one p:=by
  unfold KpO
  rw [h,if_pos rfl]
  exact hp
set_option maxHeartbeats 2000000 in
set_option maxRecDepth 20000 in
theorem c_spec_l16Kept (M:Mem) (cs:List V) (l:Int) (tb:List Int) (x1 x2:ty_Oram.D) (h:Rep ty_Deep M cs (l,tb,x1,x2)) (hz1:BlkSz x1.2.2.2.2) (hc1:x1.2.2.2.1.2.1.length≤1048576) (hs1:∀ c ∈ x1.2.2.2.1.2.1,List.length (α:=UInt8) c≤1048576) (one:List ty_Block.D) (k:Nat) (hk:k≤6) (hd:l - 2=(k:Int)) (h1:orO x1=some one) (w1:Int) (hw1:x1.2.1=w1) (h4:w1=4) :
    Sat (aCall T0 F_spec_l16Kept [.agg cs.toArray] M) (KpO M k tb one):=by
  have ho:=h.one
  obtain ⟨aT,cT,o1,o2,F⟩:=deep_shape h
  have hl:=F.hl
  have hpre:M <+: M++[(⟨cs,1,2⟩:Blk),⟨[],1,2⟩]:=List.prefix_append _ _
  have hbx:(M++[(⟨cs,1,2⟩:Blk),⟨[],1,2⟩])[M.length]?=some ⟨cs,1,2⟩:=by simp
  have hbe:(M++[(⟨cs,1,2⟩:Blk),⟨[],1,2⟩])[M.length+1]?=some ⟨[],1,2⟩:=by simp
  have g1:=rdn_bx hbx (by omega) F.n1
  have hK1:=c_spec_oramBlocksO (M++[(⟨cs,1,2⟩:Blk),⟨[],1,2⟩]) o1 x1 (F.r1.mono hpre) hz1 hc1 hs1
  rw [h1] at hK1
  have hdt:∀ b ∈ one,List.length (α:=UInt8) b.2.2=4:=fun b hb=>by
    have:=(oram_dat h1 b hb).1
    rw [hw1,h4] at this
    omega
  have on1:=oram_len h1
  have e2:IntKind.i64.wrap (l - 2)=(k:Int):=by rw [hd]; exact wrap_i64 (by omega) (by omega)
  have e3:=fun M=>c_spec_l02Pow M k (by omega)
  have hp2:(2:Int) ^ k=((2 ^ k:Nat):Int):=by simp
  rw [hp2] at e3
  have hp6:2 ^ k≤2 ^ 6:=Nat.pow_le_pow_right (by omega) hk
  have hkb:keptB k tb one=(decide (one.length=2 ^ k) && (decide (tb.length=one.length) && (List.range one.length).all (dk0 tb one))):=rfl
  generalize (2:Nat) ^ k=q at *
  unfold Option.getD at hK1
  simp only at hK1
  rw [aCall_eq T_spec_l16Kept]; unfold A_spec_l16Kept C_spec_l16Kept; simp [apA,ho,hl,g1,zeroCells]
  generalize hx:aCall T0 F_spec_OramBlocks _ _=xhx
  obtain ⟨v1,X1,rfl,L1,p1,gr1,n1,k1⟩:=of_call hx hK1
  clear hx
  simp only at p1 gr1
  have pM1:=hpre.trans p1
  have hb1:=get_pre p1 hbx
  have he1:=get_pre p1 hbe
  obtain ⟨a1,rfl⟩:=gr1.shape
  have t0:=rd1_bx hb1 F.c0
  have t1:=rd1_bx hb1 F.c1
  simp only at t0 t1
  have fin:KpV M false [] (.tuple #[.slice none 0 0,.bool false],M):=⟨_,[],rfl,List.prefix_refl _,Gr.nil,List.nodup_nil,by simp⟩
  have fin2:KpV M false [] (.tuple #[.slice none 0 0,.bool false],X1):=⟨_,[],rfl,pM1,Gr.nil,List.nodup_nil,by simp⟩
  by_cases h5:one.length=q
  · by_cases h6:tb.length=one.length
    · have hp0:M++[(⟨cs,1,2⟩:Blk)] <+: X1:=List.IsPrefix.trans ⟨[(⟨[],1,2⟩:Blk)],by simp⟩ p1
      have hbx0:(M++[(⟨cs,1,2⟩:Blk)])[M.length]?=some ⟨cs,1,2⟩:=List.getElem?_concat_length
      have t10:=rd1_bx hbx0 F.c1
      simp only at t10
      have ge0:Gr (.sl ty_Int) X1 [.slice (some ⟨M.length+1,0,none⟩) 0 0] [] [M.length+1]:=.inr ⟨M.length+1,[],[],rfl,he1,rfl,rfl,by simp,by simp⟩
      have inner:=l_spec_l16Kept_0 M (M++[(⟨cs,1,2⟩:Blk)]) (List.prefix_append _ _) M.length a1 one.length one L1 tb aT cT (F.rT.mono (List.prefix_append _ _)) h6.symm t10 on1.1 hdt (.slice (some ⟨M.length+1,0,none⟩) 0 0) X1 ⟨[M.length+1],hp0,gr1,ge0,by simp,by simp,fun j hj=>by have:=k1 j hj; simp at this ⊢; omega⟩
      simp only [KfI,Int.natCast_zero,Int.ofNat_zero] at inner
      have h5':(one.length:Int)=(q:Int):=by omega
      have h5t:((one.length:Int)=(q:Int))=True:=eq_true h5'
      have h5n:(one.length=q)=True:=eq_true h5
      rcases inner with ⟨v',X',⟨L,q1,_,q2,q3,q4,_⟩,hall,e⟩ | ⟨⟨i,hi,hf⟩,hS⟩
      · have hA:keptB k tb one=true:=by
          rw [hkb]
          rw [decide_eq_true h5,decide_eq_true h6,List.all_eq_true.2 fun i hi=>hall i (List.mem_range.1 hi)]
          rfl
        obtain ⟨a',rfl⟩:=q2.shape
        have t1':rd1 X1 M.length 1=some (.slice aT one.length cT):=by rw [← h6]; exact t1
        simp [apA,t0,t1',e2,e3,h5t,h5n,e]
        rw [S_spec_l16Kept_0]; unfold B_spec_l16Kept_0; simp [apA]
        exact sat_some (kpO_t hA ⟨_,L,rfl,(List.prefix_append _ _).trans q1,q2,q3,fun j hj=>by have:=q4 j hj; simp at this; omega⟩)
      · have hA:keptB k tb one=false:=by
          rw [hkb]
          have:(List.range one.length).all (dk0 tb one)=false:=by
            rw [List.all_eq_false]
            exact ⟨i,List.mem_range.2 hi,by rw [hf]; simp⟩
          rw [this]
          simp
        have t1':rd1 X1 M.length 1=some (.slice aT one.length cT):=by rw [← h6]; exact t1
        simp [apA,t0,t1',e2,e3,h5t,h5n]
        refine Sat.mono (hS _) fun p hp=>kpO_f hA hp
    · have h5':(one.length:Int)=(q:Int):=by omega
      have h6':¬ (tb.length:Int)=(q:Int):=by omega
      have hA:keptB k tb one=false:=by rw [hkb]; rw [decide_eq_false h6]; simp
      simp [apA,t0,t1,e2,e3,h5',h6']
      exact gc_sat (kpO_f hA fin) (kpO_f hA fin2)
  · have h5':¬ (one.length:Int)=(q:Int):=by omega
    have hA:keptB k tb one=false:=by rw [hkb]; rw [decide_eq_false h5]; simp
    simp [apA,t0,t1,e2,e3,h5']
    exact gc_sat (kpO_f hA fin) (kpO_f hA fin2)
def lowB (l:Int) (ys:List Int):Bool:=ys.all fun y=>decide (y < powI l)
def deepS (l:Int) (tb:List Int) (x1 x2:ty_Oram.D):Bool:=dlB l && (decide (x1.1=l - 2) && (decide (x1.2.1=(4:Int)) && (decide (x2.1=l) && (match orO x1,orO x2 with
  | some one,some two=>keptB (Int.toNat (l - 2)) tb one && (lowB l (posD one) && two.all (kpB (posD one)))
  | _,_=>false))))
theorem dkB_get {l:Int} {tb:List Int} {one:List ty_Block.D} {k:Nat} (h:k < one.length):dkB l tb one k=((decide (one[k].1=(k:Int)) && decide (one[k].2.1=tb.getD k 0)) && List.all (α:=UInt8) one[k].2.2 fun y=>leafB l (y.toNat:Int)):=by unfold dkB; rw [List.getElem?_eq_getElem h]
theorem leaf_low {l:Int} (h:dlB l=true) (y:Nat):leafB l (y:Int)=decide ((y:Int) < powI l):=by
  have hg:lgB l=true:=by
    unfold dlB at h
    unfold lgB
    simp only [Bool.and_eq_true,decide_eq_true_eq] at h ⊢
    omega
  have e:(2:Int) ^ l.toNat=powI l:=by unfold powI; simp
  unfold leafB
  rw [hg,e,decide_eq_true (show (0:Int)≤(y:Int) by omega)]
  simp
theorem dk_split {l:Int} (h:dlB l=true) (tb:List Int) (one:List ty_Block.D):(List.range one.length).all (dkB l tb one)=((List.range one.length).all (dk0 tb one) && lowB l (posD one)):=by
  rw [Bool.eq_iff_iff,Bool.and_eq_true]
  unfold lowB
  simp only [List.all_eq_true,List.mem_range]
  constructor
  · intro ha
    refine ⟨fun i hi=>?_,fun y hy=>?_⟩
    · have:=ha i hi
      rw [dkB_get hi,Bool.and_eq_true] at this
      rw [dk0_get hi]
      exact this.1
    · unfold posD at hy
      obtain ⟨ys,h1,h2⟩:=List.mem_flatten.1 hy
      obtain ⟨b,h3,rfl⟩:=List.mem_map.1 h1
      obtain ⟨i,hi,rfl⟩:=List.getElem_of_mem h3
      have:=ha i hi
      rw [dkB_get hi,Bool.and_eq_true] at this
      unfold bytI at h2
      obtain ⟨u,h4,rfl⟩:=List.mem_map.1 h2
      have:=List.all_eq_true.1 this.2 u h4
      rw [leaf_low h] at this
      exact this
  · rintro ⟨h1,h2⟩ i hi
    have:=h1 i hi
    rw [dk0_get hi] at this
    rw [dkB_get hi,this,Bool.true_and]
    refine List.all_eq_true.2 fun u hu=>?_
    rw [leaf_low h]
    refine h2 _ ?_
    unfold posD
    exact List.mem_flatten.2 ⟨_,List.mem_map.2 ⟨_,List.getElem_mem hi,rfl⟩,List.mem_map.2 ⟨u,hu,rfl⟩⟩
theorem deep_alt (l:Int) (tb:List Int) (x1 x2:ty_Oram.D):deepB (l,tb,x1,x2)=deepS l tb x1 x2:=by
  unfold deepB deepS dfB
  simp only
  cases h:dlB l with
  | false=>simp
  | true =>
    simp only [Bool.true_and]
    cases h1:orO x1 with
    | none=>simp
    | some one =>
      cases h2:orO x2 with
      | none=>simp
      | some two =>
        simp only
        unfold dtB keptB
        simp only
        rw [dk_split h]
        rw [Bool.eq_iff_iff]
        simp only [Bool.and_eq_true,decide_eq_true_eq]
        constructor
        · rintro ⟨⟨a,b,c,d⟩,e,⟨f,g⟩,i⟩
          exact ⟨b,c,d,⟨e.trans a,e.symm,f⟩,g,i⟩
        · rintro ⟨b,c,d,⟨e,e2,f⟩,g,i⟩
          exact ⟨⟨e2.trans e,b,c,d⟩,e2.symm,⟨f,g⟩,i⟩
def lowAt (l:Int) (ys:List Int) (i:Nat):Bool:=decide (ys.getD i 0 < powI l)
theorem lowAt_all {l:Int} {ys:List Int}:(∀ i,i < ys.length→lowAt l ys i=true)→lowB l ys=true:=fun h=>List.all_eq_true.2 fun y hy=>by
  obtain ⟨i,hi,rfl⟩:=List.getElem_of_mem hy
  have:=h i hi
  unfold lowAt at this
  rw [List.getD_eq_getElem?_getD,List.getElem?_eq_getElem hi] at this
  exact this
theorem lowAt_not {l:Int} {ys:List Int} {i:Nat} (hi:i < ys.length) (h:lowAt l ys i=false):lowB l ys=false:=by
  unfold lowB
  rw [List.all_eq_false]
  refine ⟨ys[i],List.getElem_mem hi,?_⟩
  unfold lowAt at h
  rw [List.getD_eq_getElem?_getD,List.getElem?_eq_getElem hi] at h
  simpa using h
theorem l_spec_DeepOk_0 (M X:Mem) (hMX:M <+: X) (p:Nat) (l:Int) (k:Nat) (hk:l=(k:Int)) (hk6:k≤6) (a:Option Addr) (c:Nat) (ys:List Int) (h:Rep (.sl ty_Int) X [.slice a ys.length c] ys) (hp:rd1 X p 0=some (.int .i64 l)) (hn:ys.length≤1000000) :
    (∃ X',X'=X∧(∀ i,i < ys.length→lowAt l ys i=true)∧lp (aCall T0) K_spec_DeepOk_0 L_spec_DeepOk_0 [O,.pointer (some ⟨p,0,none⟩),O,.slice a ys.length c,O,.int .i64 (0:Nat),O,O,O,O,O,O,O,O,O,O,O,O,O,O,O,O,O,O,O,O,O,O,O,O,O,O,O,O,O,O,O,O,O,O,O,O,O,O,O,O,O,O,O,O,O,O,O,O,O,O,O,O,O,O,O,O,O,O,O,O,O,O,O,O,O,O,O,O,O,O,O,O,O,O,O,O,O,O,O,O,O,O,O,O,O,O,O,O,O,O,O,O,O,O,O] X=lp (aCall T0) K_spec_DeepOk_0 L_spec_DeepOk_0 [O,.pointer (some ⟨p,0,none⟩),O,.slice a ys.length c,O,.int .i64 ys.length,O,O,O,O,O,O,O,O,O,O,O,O,O,O,O,O,O,O,O,O,O,O,O,O,O,O,O,O,O,O,O,O,O,O,O,O,O,O,O,O,O,O,O,O,O,O,O,O,O,O,O,O,O,O,O,O,O,O,O,O,O,O,O,O,O,O,O,O,O,O,O,O,O,O,O,O,O,O,O,O,O,O,O,O,O,O,O,O,O,O,O,O,O,O,O] X') ∨
    ((∃ i,i < ys.length∧lowAt l ys i=false)∧∀ k,thenF M [.tmp 2] (thenS (blockR 0 (lp (aCall T0) K_spec_DeepOk_0 L_spec_DeepOk_0 [O,.pointer (some ⟨p,0,none⟩),O,.slice a ys.length c,O,.int .i64 (0:Nat),O,O,O,O,O,O,O,O,O,O,O,O,O,O,O,O,O,O,O,O,O,O,O,O,O,O,O,O,O,O,O,O,O,O,O,O,O,O,O,O,O,O,O,O,O,O,O,O,O,O,O,O,O,O,O,O,O,O,O,O,O,O,O,O,O,O,O,O,O,O,O,O,O,O,O,O,O,O,O,O,O,O,O,O,O,O,O,O,O,O,O,O,O,O,O] X)) (aCall T0) k)=some (.bool false,M)):=by
  refine loop_ok (call:=aCall T0) (K:=K_spec_DeepOk_0) (L:=L_spec_DeepOk_0) (fun _ X'=>X'=X) (fun i=>[O,.pointer (some ⟨p,0,none⟩),O,.slice a ys.length c,O,.int .i64 i,O,O,O,O,O,O,O,O,O,O,O,O,O,O,O,O,O,O,O,O,O,O,O,O,O,O,O,O,O,O,O,O,O,O,O,O,O,O,O,O,O,O,O,O,O,O,O,O,O,O,O,O,O,O,O,O,O,O,O,O,O,O,O,O,O,O,O,O,O,O,O,O,O,O,O,O,O,O,O,O,O,O,O,O,O,O,O,O,O,O,O,O,O,O,O]) (lowAt l ys) (n:=ys.length) (M0:=M) (rs:=[.tmp 2]) (k0:=0) (a:=.bool false) X rfl ?_ ?_
  all_goals
    intro i X' hi ho hX'
    subst hX'
    obtain ⟨l1,o1,rfl,_,hr⟩:=at_Int h hi
    have e1:ys[i]=ys.getD i 0:=by rw [List.getD_eq_getElem?_getD,List.getElem?_eq_getElem hi]; rfl
    rw [e1] at hr
    unfold lowAt at ho
    have e2:=fun M=>c_spec_l02Pow M k (by omega)
    have e3:(2:Int) ^ k=powI l:=by
      subst hk
      unfold powI
      have:Int.toNat (k:Int)=k:=by omega
      rw [this]
      simp
    rw [e3,← hk] at e2
    generalize ys.getD i 0=y at *
    generalize powI l=q at *
    have iT:(i:Int) < (ys.length:Int):=by omega
    have e6:IntKind.i64.wrap ((i:Int)+1)=i+1:=wrap_i64 (by omega) (by omega)
  · have ho':y < q:=by simpa using ho
    have ho'':¬ q≤y:=by omega
    refine ⟨_,rfl,?_⟩
    rw [S_spec_DeepOk_0]; unfold B_spec_DeepOk_0; simp [apA,hi,iT,hr,hp,e2,ho',ho'',e6]
  · have ho':¬ y < q:=by simpa using ho
    have ho'':q≤y:=by omega
    intro k
    have gb:=fun b=>gc_boolp hMX b
    rw [S_spec_DeepOk_0]; unfold B_spec_DeepOk_0; simp [apA,hi,iT,hr,hp,e2,ho',ho'',gb]
def kpAt (ys:List Int) (two:List ty_Block.D) (i:Nat):Bool:=match two[i]? with
  | some b=>kpB ys b
  | none=>true
theorem kpAt_get {ys:List Int} {two:List ty_Block.D} {i:Nat} (h:i < two.length):kpAt ys two i=kpB ys two[i]:=by unfold kpAt; rw [List.getElem?_eq_getElem h]
abbrev cB (x:Int × Int × Int × Int) (u:V):List V:=[.int .i64 x.1,.int .i64 x.2.1,.int .i64 x.2.2.1,.int .i64 x.2.2.2,u]
theorem l_spec_DeepOk_1 (M X:Mem) (hMX:M <+: X) (a:Option Addr) (c:Nat) (ys:List Int) (h:Rep (.sl ty_Int) X [.slice a ys.length c] ys) (aB:Option Addr) (cB:Nat) (two:List ty_Block.D) (hB:Rep (.sl ty_Block) X [.slice aB two.length cB] two) (hn:two.length≤256) (h0:∀ b ∈ two,0≤(b.1:Int)) :
    (∃ X',X'=X∧(∀ i,i < two.length→kpAt ys two i=true)∧lp (aCall T0) K_spec_DeepOk_1 L_spec_DeepOk_1 [O,O,O,.slice a ys.length c,O,O,.slice aB two.length cB,.int .i64 (0:Nat),O,O,O,O,O,O,O,O,O,O,O,O,O,O,O,O,O,O,O,O,O,O,O,O,O,O,O,O,O,O,O,O,O,O,O,O,O,O,O,O,O,O,O,O,O,O,O,O,O,O,O,O,O,O,O,O,O,O,O,O,O,O,O,O,O,O,O,O,O,O,O,O,O,O,O,O,O,O,O,O,O,O,O,O,O,O,O,O,O,O,O,O,O] X=lp (aCall T0) K_spec_DeepOk_1 L_spec_DeepOk_1 [O,O,O,.slice a ys.length c,O,O,.slice aB two.length cB,.int .i64 two.length,O,O,O,O,O,O,O,O,O,O,O,O,O,O,O,O,O,O,O,O,O,O,O,O,O,O,O,O,O,O,O,O,O,O,O,O,O,O,O,O,O,O,O,O,O,O,O,O,O,O,O,O,O,O,O,O,O,O,O,O,O,O,O,O,O,O,O,O,O,O,O,O,O,O,O,O,O,O,O,O,O,O,O,O,O,O,O,O,O,O,O,O,O] X') ∨
    ((∃ i,i < two.length∧kpAt ys two i=false)∧∀ k,thenF M [.tmp 2] (thenS (blockR 2 (lp (aCall T0) K_spec_DeepOk_1 L_spec_DeepOk_1 [O,O,O,.slice a ys.length c,O,O,.slice aB two.length cB,.int .i64 (0:Nat),O,O,O,O,O,O,O,O,O,O,O,O,O,O,O,O,O,O,O,O,O,O,O,O,O,O,O,O,O,O,O,O,O,O,O,O,O,O,O,O,O,O,O,O,O,O,O,O,O,O,O,O,O,O,O,O,O,O,O,O,O,O,O,O,O,O,O,O,O,O,O,O,O,O,O,O,O,O,O,O,O,O,O,O,O,O,O,O,O,O,O,O,O] X)) (aCall T0) k)=some (.bool false,M)):=by
  refine loop_ok (call:=aCall T0) (K:=K_spec_DeepOk_1) (L:=L_spec_DeepOk_1) (fun _ X'=>X'=X) (fun i=>[O,O,O,.slice a ys.length c,O,O,.slice aB two.length cB,.int .i64 i,O,O,O,O,O,O,O,O,O,O,O,O,O,O,O,O,O,O,O,O,O,O,O,O,O,O,O,O,O,O,O,O,O,O,O,O,O,O,O,O,O,O,O,O,O,O,O,O,O,O,O,O,O,O,O,O,O,O,O,O,O,O,O,O,O,O,O,O,O,O,O,O,O,O,O,O,O,O,O,O,O,O,O,O,O,O,O,O,O,O,O,O,O]) (kpAt ys two) (n:=two.length) (M0:=M) (rs:=[.tmp 2]) (k0:=2) (a:=.bool false) X rfl ?_ ?_
  all_goals
    intro i X' hi ho hX'
    subst hX'
    rw [kpAt_get hi] at ho
    obtain ⟨l1,o1,u,rfl,hr0,hr1,_⟩:=at_Block hB hi
    have h0i:=h0 _ (List.getElem_mem hi)
    generalize two[i]=b at *
    obtain ⟨b1,b2,b3⟩:=b
    simp only at hr0 hr1 h0i
    unfold kpB at ho
    simp only at ho
    obtain ⟨t,rfl⟩:∃ t:Nat,b1=(t:Int):=⟨Int.toNat b1,(show ∀ z:Int,0≤z→z=((Int.toNat z:Nat):Int) from fun z hz=>by omega) b1 h0i⟩
    have ht:Int.toNat (t:Int)=t:=by omega
    rw [ht] at ho
    have iT:(i:Int) < (two.length:Int):=by omega
    have e6:IntKind.i64.wrap ((i:Int)+1)=i+1:=wrap_i64 (by omega) (by omega)
  · simp only [Bool.and_eq_true,decide_eq_true_eq] at ho
    obtain ⟨o2a,o3⟩:=ho
    have o2:(t:Int) < (ys.length:Int):=o2a
    have ht1:t < ys.length:=by omega
    have ht2:¬ (ys.length:Int)≤(t:Int):=by omega
    obtain ⟨l2,o4,rfl,_,hr⟩:=at_Int h ht1
    have e1:ys[t]=ys.getD t 0:=by rw [List.getD_eq_getElem?_getD,List.getElem?_eq_getElem ht1]; rfl
    rw [e1,o3] at hr
    refine ⟨_,rfl,?_⟩
    rw [S_spec_DeepOk_1]; unfold B_spec_DeepOk_1; simp [apA,hi,iT,hr0,hr1,o2,ht1,ht2,hr,e6]
  · intro k
    have gb:=fun b=>gc_boolp hMX b
    by_cases ht1:t < ys.length
    · have o2:(t:Int) < (ys.length:Int):=by omega
      have ht2:¬ (ys.length:Int)≤(t:Int):=by omega
      have o3:¬ ys.getD t 0=b2:=by
        intro e
        rw [decide_eq_true o2,decide_eq_true e] at ho
        cases ho
      obtain ⟨l2,o4,rfl,_,hr⟩:=at_Int h ht1
      have e1:ys[t]=ys.getD t 0:=by rw [List.getD_eq_getElem?_getD,List.getElem?_eq_getElem ht1]; rfl
      rw [e1] at hr
      generalize ys.getD t 0=z at *
      have o4:¬ b2=z:=fun e=>o3 e.symm
      rw [S_spec_DeepOk_1]; unfold B_spec_DeepOk_1; simp [apA,hi,iT,hr0,hr1,o2,ht1,ht2,hr,o3,o4,gb]
    · have ht2:(ys.length:Int)≤(t:Int):=by omega
      rw [S_spec_DeepOk_1]; unfold B_spec_DeepOk_1; simp [apA,hi,iT,hr0,hr1,ht1,ht2,gb]
set_option maxRecDepth 20000 in
set_option maxHeartbeats 4000000 in
theorem c_spec_DeepOk0 (M:Mem) (cs:List V) (l:Int) (tb:List Int) (x1 x2:ty_Oram.D) (h:Rep ty_Deep M cs (l,tb,x1,x2)) (l1 w1 l2:Int) (hl1:x1.1=l1) (hw1:x1.2.1=w1) (hl2:x2.1=l2)
    (hz1:BlkSz x1.2.2.2.2) (hc1:x1.2.2.2.1.2.1.length≤1048576) (hs1:∀ c ∈ x1.2.2.2.1.2.1,List.length (α:=UInt8) c≤1048576) (hz2:BlkSz x2.2.2.2.2) (hc2:x2.2.2.2.1.2.1.length≤1048576) (hs2:∀ c ∈ x2.2.2.2.1.2.1,List.length (α:=UInt8) c≤1048576) :
    aCall T0 F_spec_DeepOk [.agg cs.toArray] M=some (.bool (deepB (l,tb,x1,x2)),M):=by
  have ho:=h.one
  obtain ⟨aT,cT,o1,o2,F⟩:=deep_shape h
  have hl:=F.hl
  have hpre:M <+: M++[(⟨cs,1,2⟩:Blk)]:=List.prefix_append _ _
  have hbx:(M++[(⟨cs,1,2⟩:Blk)])[M.length]?=some ⟨cs,1,2⟩:=List.getElem?_concat_length
  have f0:=rd1_bx hbx F.c0
  have f2:=rd1_bx hbx F.c2
  have f3:=rd1_bx hbx F.c3
  have f9:=rd1_bx hbx F.c9
  have g1:=rdn_bx hbx (by omega) F.n1
  have g2:=rdn_bx hbx (by omega) F.n2
  have gA:=rdn_bx (k:=0) (n:=16) hbx (by omega) (by rw [List.drop_zero,List.take_of_length_le (by omega)])
  simp only [hl1,hw1,hl2] at f0 f2 f3 f9
  have e1:=fun M=>c_spec_l16Log M l
  have hdl:(decide (2≤l) && decide (l≤6))=dlB l:=rfl
  rw [hdl] at e1
  have gb:=fun b=>gc_boolp hpre b
  have eO1:=c_spec_OramOk (M++[(⟨cs,1,2⟩:Blk)]) o1 x1 (F.r1.mono hpre) hz1 hc1 hs1
  have eO2:=c_spec_OramOk (M++[(⟨cs,1,2⟩:Blk)]) o2 x2 (F.r2.mono hpre) hz2 hc2 hs2
  rw [deep_alt]
  have hS:deepS l tb x1 x2=(dlB l && (decide (l1=l - 2) && (decide (w1=4) && (decide (l2=l) && (match orO x1,orO x2 with
    | some one,some two=>keptB (Int.toNat (l - 2)) tb one && (lowB l (posD one) && two.all (kpB (posD one)))
    | _,_=>false))))):=by rw [← hl1,← hw1,← hl2]; rfl
  rw [hS]
  clear hS
  cases h1:dlB l with
  | false =>
    rw [h1] at e1
    rw [Bool.false_and]
    rw [aCall_eq T_spec_DeepOk]; unfold A_spec_DeepOk C_spec_DeepOk; simp [apA,ho,hl,f0,e1,gb]
  | true =>
  rw [h1] at e1
  rw [Bool.true_and]
  have hlr:2≤l∧l≤6:=by unfold dlB at h1; simpa using h1
  obtain ⟨k,hk⟩:∃ k:Nat,l - 2=(k:Int):=⟨Int.toNat (l - 2),by omega⟩
  have hk4:k≤4:=by omega
  have hk0:Int.toNat (l - 2)=k:=by omega
  have e2:IntKind.i64.wrap (l - 2)=(k:Int):=by rw [hk]; exact wrap_i64 (by omega) (by omega)
  rw [hk0,hk]
  by_cases h3:l1=(k:Int)
  rotate_left
  · rw [decide_eq_false h3,Bool.false_and]
    rw [aCall_eq T_spec_DeepOk]; unfold A_spec_DeepOk C_spec_DeepOk; simp [apA,ho,hl,f0,f2,e1,e2,h3,gb]
  rw [decide_eq_true h3,Bool.true_and]
  subst h3
  by_cases h4:w1=4
  rotate_left
  · rw [decide_eq_false h4,Bool.false_and]
    rw [aCall_eq T_spec_DeepOk]; unfold A_spec_DeepOk C_spec_DeepOk; simp [apA,ho,hl,f0,f2,f3,e1,e2,h4,gb]
  rw [decide_eq_true h4,Bool.true_and]
  by_cases h5:l2=l
  rotate_left
  · rw [decide_eq_false h5,Bool.false_and]
    subst h4
    rw [aCall_eq T_spec_DeepOk]; unfold A_spec_DeepOk C_spec_DeepOk; simp [apA,ho,hl,f0,f2,f3,f9,e1,e2,h5,gb]
  rw [decide_eq_true h5,Bool.true_and]
  subst h5
  cases q1:orO x1 with
  | none =>
    rw [q1] at eO1
    simp only [Option.isSome_none] at eO1
    subst h4
    rw [aCall_eq T_spec_DeepOk]; unfold A_spec_DeepOk C_spec_DeepOk; simp [apA,ho,hl,f0,f2,f3,f9,e1,e2,g1,eO1,gb]
  | some one =>
  rw [q1] at eO1
  simp only [Option.isSome_some] at eO1
  cases q2:orO x2 with
  | none =>
    rw [q2] at eO2
    simp only [Option.isSome_none] at eO2
    subst h4
    rw [aCall_eq T_spec_DeepOk]; unfold A_spec_DeepOk C_spec_DeepOk; simp [apA,ho,hl,f0,f2,f3,f9,e1,e2,g1,eO1,g2,eO2,gb]
  | some two =>
  rw [q2] at eO2
  simp only [Option.isSome_some] at eO2
  simp only
  have hKp:=c_spec_l16Kept (M++[(⟨cs,1,2⟩:Blk)]) cs l2 tb x1 x2 (h.mono hpre) hz1 hc1 hs1 one k (by omega) hk q1 w1 hw1 h4
  subst h4
  rw [aCall_eq T_spec_DeepOk]; unfold A_spec_DeepOk C_spec_DeepOk; simp [apA,ho,hl,f0,f2,f3,f9,e1,e2,g1,eO1,g2,eO2,gA]
  generalize hx:aCall T0 F_spec_l16Kept _ _=xhx
  obtain ⟨_,X1,rfl,v,L,rfl,p1,gk,nk,kk⟩:=of_call hx hKp
  clear hx
  simp only at p1 gk
  have pM1:=hpre.trans p1
  have hb1:=get_pre p1 hbx
  have gb1:=fun b=>gc_boolp pM1 b
  cases hkp:keptB k tb one with
  | false =>
    rw [Bool.false_and]
    simp [apA,gb1]
  | true =>
  rw [hkp,if_pos rfl] at gk
  rw [Bool.true_and]
  obtain ⟨a,rfl⟩:=gk.shape
  have t0:=rd1_bx hb1 F.c0
  simp only at t0
  have on1:=oram_len q1
  have on2:=oram_len q2
  have hpl:=posD_len (one:=one) (N:=200) (fun b hb=>(oram_dat q1 b hb).2)
  generalize posD one=ys at *
  have in0:=l_spec_DeepOk_0 M X1 pM1 M.length l2 (Int.toNat l2) (by omega) (by omega) a ys.length ys gk.rep t0 (by omega)
  simp only [Int.natCast_zero,Int.ofNat_zero] at in0
  rcases in0 with ⟨Y0,hY0,hall,e⟩ | ⟨⟨i,hi,hf⟩,e⟩
  rotate_left
  · rw [lowAt_not hi hf,Bool.false_and]
    simp [apA,e]
  rw [hY0] at e
  clear hY0
  rw [lowAt_all hall,Bool.true_and]
  have g3:=rdn_bx hb1 (by omega) F.n2
  have hK2:=c_spec_oramBlocksO X1 o2 x2 (F.r2.mono pM1) hz2 hc2 hs2
  rw [q2] at hK2
  unfold Option.getD at hK2
  simp only at hK2
  simp [apA,e]
  rw [S_spec_DeepOk_0]; unfold B_spec_DeepOk_0; simp [apA,g3]
  generalize hx:aCall T0 F_spec_OramBlocks _ _=xhx
  obtain ⟨v2,X2,rfl,L2,p2,gr2,n2,k2⟩:=of_call hx hK2
  clear hx
  simp only at p2 gr2
  obtain ⟨a2,rfl⟩:=gr2.shape
  have pM2:=pM1.trans p2
  have gb2:=fun b=>gc_boolp pM2 b
  have in1:=l_spec_DeepOk_1 M X2 pM2 a ys.length ys (gk.rep.mono p2) a2 two.length two gr2.rep (by omega) (fun b hb=>(on2.2 b hb).1)
  simp only [Int.natCast_zero,Int.ofNat_zero] at in1
  rcases in1 with ⟨Y1,hY1,hall2,e'⟩ | ⟨⟨i,hi,hf⟩,e'⟩
  · rw [hY1] at e'
    have hA:two.all (kpB ys)=true:=List.all_eq_true.2 fun b hb=>by
      obtain ⟨i,hi,rfl⟩:=List.getElem_of_mem hb
      have:=hall2 i hi
      rw [kpAt_get hi] at this
      exact this
    rw [hA]
    simp [apA,e']
    rw [S_spec_DeepOk_1]; unfold B_spec_DeepOk_1; simp [apA,gb2]
  · have hA:two.all (kpB ys)=false:=by
      rw [List.all_eq_false]
      refine ⟨two[i],List.getElem_mem hi,?_⟩
      rw [kpAt_get hi] at hf
      rw [hf]
      simp
    rw [hA]
    simp [apA,e']
theorem d_spec_DeepOk (M:Mem) (cs:List V) (d:ty_Deep.D) (h:Rep ty_Deep M cs d) (hb:Bd 1048576 ty_Deep d):aCall T0 F_spec_DeepOk [.agg cs.toArray] M=some (.bool (deepB d),M):=by
  obtain ⟨⟨a1,a2,a3⟩,⟨b1,b2,b3⟩,c⟩:=deep_bd hb
  obtain ⟨l,tb,x1,x2⟩:=d
  exact c_spec_DeepOk0 M cs l tb x1 x2 h _ _ _ rfl rfl rfl a1 a2 a3 b1 b2 b3
def posR (d:ty_Deep.D):List Int:=if deepB d=true then posD ((orO d.2.2.1).getD []) else []
theorem deep_kept {l:Int} {tb:List Int} {x1 x2:ty_Oram.D} (h:deepB (l,tb,x1,x2)=true):∃ (k:Nat) (one two:List ty_Block.D),l - 2=(k:Int)∧k≤4∧orO x1=some one∧orO x2=some two∧x1.2.1=(4:Int)∧keptB k tb one=true∧lowB l (posD one)=true:=by
  rw [deep_alt] at h
  unfold deepS at h
  cases q1:orO x1 with
  | none=>rw [q1] at h; simp at h
  | some one =>
    cases q2:orO x2 with
    | none=>rw [q1,q2] at h; simp at h
    | some two =>
      rw [q1,q2] at h
      simp only [Bool.and_eq_true,decide_eq_true_eq] at h
      obtain ⟨h1,_,h3,_,h5,h6,_⟩:=h
      have hlr:2≤l∧l≤6:=by unfold dlB at h1; simpa using h1
      obtain ⟨k,hk⟩:∃ k:Nat,l - 2=(k:Int):=⟨Int.toNat (l - 2),by omega⟩
      have hk0:Int.toNat (l - 2)=k:=by omega
      rw [hk0] at h5
      exact ⟨k,one,two,hk,by omega,rfl,rfl,h3,h5,h6⟩
theorem c_spec_DeepPos (M:Mem) (cs:List V) (d:ty_Deep.D) (h:Rep ty_Deep M cs d) (hb:Bd 1048576 ty_Deep d) :
    Sat (aCall T0 F_spec_DeepPos [.agg cs.toArray] M) (GrV ty_Int M (posR d)):=by
  have ho:=h.one
  have hl:cs.length=16:=h.len
  have hpre:M <+: M++[(⟨cs,1,2⟩:Blk)]:=List.prefix_append _ _
  have hbx:(M++[(⟨cs,1,2⟩:Blk)])[M.length]?=some ⟨cs,1,2⟩:=List.getElem?_concat_length
  have gA:=rdn_bx (k:=0) (n:=16) hbx (by omega) (by rw [List.drop_zero,List.take_of_length_le (by omega)])
  have eD:=d_spec_DeepOk (M++[(⟨cs,1,2⟩:Blk)]) cs d (h.mono hpre) hb
  have hps:posR d=if deepB d=true then posD ((orO d.2.2.1).getD []) else []:=rfl
  cases hd:deepB d with
  | false =>
    rw [hd,if_neg (by decide)] at hps
    rw [hps]
    rw [hd] at eD
    rw [aCall_eq T_spec_DeepPos]; unfold A_spec_DeepPos C_spec_DeepPos; simp [apA,ho,hl,gA,eD]
    exact ⟨(_,_),rfl,[],hpre,Gr.nil,List.nodup_nil,by simp⟩
  | true =>
    rw [hd,if_pos rfl] at hps
    rw [hps]
    rw [hd] at eD
    obtain ⟨⟨a1,a2,a3⟩,_⟩:=deep_bd hb
    obtain ⟨l,tb,x1,x2⟩:=d
    obtain ⟨k,one,two,hk,hk4,h1,h2,h3,h5,_⟩:=deep_kept hd
    simp only [h1,Option.getD_some]
    have hK:=c_spec_l16Kept (M++[(⟨cs,1,2⟩:Blk)]) cs l tb x1 x2 (h.mono hpre) a1 a2 a3 one k (by omega) hk h1 _ rfl h3
    rw [aCall_eq T_spec_DeepPos]; unfold A_spec_DeepPos C_spec_DeepPos; simp [apA,ho,hl,gA,eD]
    generalize hx:aCall T0 F_spec_l16Kept _ _=xhx
    obtain ⟨_,X1,rfl,v,L,rfl,p1,g1,n1,k1⟩:=of_call hx hK
    clear hx
    simp only at p1 g1
    rw [h5,if_pos rfl] at g1
    obtain ⟨a',rfl⟩:=g1.shape
    simp [apA]
    exact ⟨(_,X1),rfl,L,hpre.trans p1,g1,n1,fun j hj=>by have:=k1 j hj; simp at this; omega⟩
structure QI (Z:Mem) (q0 q1:Nat) (top low one two:List Int) (v1 v2:V) (X:Mem):Prop where
  pre:Z <+: X
  b0:X[q0]?=some ⟨top.map fun z=>(.int .i64 z:V),1,2⟩
  b1:X[q1]?=some ⟨low.map fun z=>(.int .i64 z:V),1,2⟩
  g1:Grow Z.length 1 X v1 one.length (one.map fun z=>(.int .i64 z:V))
  g2:Grow Z.length 1 X v2 two.length (two.map fun z=>(.int .i64 z:V))
  ne:q0 ≠ q1
  k0:Z.length≤q0
  k1:Z.length≤q1
  d10:q0 ∉ wfs v1
  d11:q1 ∉ wfs v1
  d20:q0 ∉ wfs v2
  d21:q1 ∉ wfs v2
  d12:∀ b ∈ wfs v1,b ∉ wfs v2
theorem QI.swap {Z X:Mem} {q0 q1:Nat} {top low one two:List Int} {v1 v2:V} (h:QI Z q0 q1 top low one two v1 v2 X):QI Z q0 q1 top low two one v2 v1 X :=
  ⟨h.pre,h.b0,h.b1,h.g2,h.g1,h.ne,h.k0,h.k1,h.d20,h.d21,h.d10,h.d11,fun b hb hm=>h.d12 b hm hb⟩
theorem QI.flip {Z X:Mem} {q0 q1:Nat} {top low one two:List Int} {v1 v2:V} (h:QI Z q0 q1 top low one two v1 v2 X):QI Z q1 q0 low top one two v1 v2 X :=
  ⟨h.pre,h.b1,h.b0,h.g1,h.g2,fun e=>h.ne e.symm,h.k1,h.k0,h.d11,h.d10,h.d21,h.d20,h.d12⟩
theorem QI.grow {Z X Y:Mem} {q0 q1:Nat} {top low one two:List Int} {v1 v2:V} (h:QI Z q0 q1 top low one two v1 v2 X) (hp:X <+: Y):QI Z q0 q1 top low one two v1 v2 Y :=
  ⟨h.pre.trans hp,get_pre hp h.b0,get_pre hp h.b1,h.g1.pre hp,h.g2.pre hp,h.ne,h.k0,h.k1,h.d10,h.d11,h.d20,h.d21,h.d12⟩
theorem QI.app {Z X X2:Mem} {q0 q1:Nat} {top low one two:List Int} {v1 v2:V} (h:QI Z q0 q1 top low one two v1 v2 X) (hp:X <+: X2) (hn:one.length≤3000000) {y:Int} {x:Option (V × Mem)} (e:appS X2 1 8 v1 1 [.int .i64 y]=x) :
    ∃ (a:Option Addr) (X3:Mem),x=some (.slice a (one.length+1) (one.length+1),X3)∧QI Z q0 q1 top low (one++[y]) two (.slice a (one.length+1) (one.length+1)) v2 X3∧Agree X2 X3 (wfs v1):=by
  have hZ:=h.pre.length_le
  have hXl:=hp.length_le
  obtain ⟨a,X3,rfl,g3,ag,hl3,hw3⟩:=grow_app h.g1 e hp hZ (by simp) (by simp [GoAm.one]) (by omega) (by omega)
  have hq0:=get_lt h.b0
  have hq1:=get_lt h.b1
  refine ⟨a,X3,rfl,⟨ag.pre (h.pre.trans hp) h.g1.ge,ag.get (get_pre hp h.b0) h.d10,ag.get (get_pre hp h.b1) h.d11,?_,?_,h.ne,h.k0,h.k1,fun hm=>?_,fun hm=>?_,h.d20,h.d21,fun b hb hm=>?_⟩,ag⟩
  · rw [List.length_append,List.map_append]
    exact g3
  · refine (h.g2.pre hp).keep fun b hb=>?_
    have:=(h.g2.pre hp).lt b hb
    exact ag.2 b this (fun hm=>h.d12 b hm hb)
  · rcases hw3 _ hm with h' | h'
    · exact h.d10 h'
    · omega
  · rcases hw3 _ hm with h' | h'
    · exact h.d11 h'
    · omega
  · have:=h.g2.lt b hm
    rcases hw3 _ hb with h' | h'
    · exact h.d12 b h' hm
    · omega
theorem QI.rd {Z X:Mem} {q0 q1:Nat} {top low one two:List Int} {v1 v2:V} (h:QI Z q0 q1 top low one two v1 v2 X) {i:Nat} (hi:i < top.length):rd1 X q0 i=some (.int .i64 (top.getD i 0)):=by
  unfold rd1
  rw [h.b0,List.getD_eq_getElem?_getD]
  simp [hi]
theorem QI.wr {Z X:Mem} {q0 q1:Nat} {top low one two:List Int} {v1 v2:V} (h:QI Z q0 q1 top low one two v1 v2 X) {i:Nat} (hi:i < top.length) (y:Int) :
    ∃ X',wrn X q0 i [.int .i64 y]=some X'∧QI Z q0 q1 (top.set i y) low one two v1 v2 X':=by
  have hl:i+1≤(top.map fun z=>(.int .i64 z:V)).length:=by simp; omega
  refine ⟨X.set q0 ⟨splice (top.map fun z=>(.int .i64 z:V)) i [.int .i64 y],1,2⟩,?_,?_⟩
  · rw [wrn_eq h.b0 rfl (by simpa using hl) rfl]
  · have e:splice (top.map fun z=>(.int .i64 z:V)) i [.int .i64 y]=(top.set i y).map fun z=>(.int .i64 z:V):=by
      unfold splice
      rw [List.map_set]
      rw [List.set_eq_take_append_cons_drop]
      simp [hi]
    rw [e]
    refine ⟨pf_set h.k0 h.pre,gs_of h.b0 _,by rw [gt_set h.ne]; exact h.b1,?_,?_,h.ne,h.k0,h.k1,h.d10,h.d11,h.d20,h.d21,h.d12⟩
    · exact h.g1.keep fun b hb=>List.getElem?_set_ne fun e=>h.d10 (by rw [e]; exact hb)
    · exact h.g2.keep fun b hb=>List.getElem?_set_ne fun e=>h.d20 (by rw [e]; exact hb)
def Lv (Z:Mem) (q0 q1:Nat) (s:Lv4) (v:V × V) (X:Mem):Prop:=QI Z q0 q1 s.1 s.2.1 s.2.2.1 s.2.2.2 v.1 v.2 X
def inA (s:Lv4):Prop:=(∀ z ∈ s.1,inI z)∧(∀ z ∈ s.2.1,inI z)∧(∀ z ∈ s.2.2.1,inI z)∧∀ z ∈ s.2.2.2,inI z
theorem drB_t {x:Int} (h:drB x=true):¬ x < 0∧¬ 65535 < x:=by
  simp only [drB,Bool.and_eq_true,decide_eq_true_eq] at h; omega
theorem leafI_in (d l:Int):inI (leafI d l):=by
  unfold leafI
  split
  · rename_i h
    have:=drB_t h.1
    have h2:d.toNat % 2 ^ l.toNat≤d.toNat:=Nat.mod_le _ _
    unfold inI
    omega
  · unfold inI
    omega
theorem getD_in {xs:List Int} (h:∀ z ∈ xs,inI z) (i:Nat):inI (xs.getD i 0):=by
  rw [List.getD_eq_getElem?_getD]
  by_cases hi:i < xs.length
  · rw [List.getElem?_eq_getElem hi]
    exact h _ (List.getElem_mem hi)
  · rw [List.getElem?_eq_none (by omega)]
    unfold inI
    exact ⟨by decide,by decide⟩
theorem set_in {xs:List Int} (h:∀ z ∈ xs,inI z) (i:Nat) {y:Int} (hy:inI y):∀ z ∈ xs.set i y,inI z:=fun z hz=>by
  rcases List.mem_or_eq_of_mem_set hz with hz | rfl
  · exact h z hz
  · exact hy
theorem app_in {xs:List Int} (h:∀ z ∈ xs,inI z) {y:Int} (hy:inI y):∀ z ∈ xs++[y],inI z:=fun z hz=>by
  rcases List.mem_append.1 hz with hz | hz
  · exact h z hz
  · rw [List.mem_singleton.1 hz]
    exact hy
theorem lvStep_in {l:Int} {ds:List Int} {i:Nat} {id:Int} {s:Lv4} (h:inA s):inA (lvStep l ds i id s):=by
  obtain ⟨h1,h2,h3,h4⟩:=h
  unfold lvStep
  split
  · exact ⟨h1,h2,app_in h3 (leafI_in _ _),app_in h4 (leafI_in _ _)⟩
  · exact ⟨set_in h1 _ (leafI_in _ _),set_in h2 _ (leafI_in _ _),app_in h3 (getD_in h1 _),app_in h4 (getD_in h2 _)⟩
theorem lvRun_in {l:Int} {ds ids:List Int} {s:Lv4} (h:inA s) (i:Nat):inA (lvRun l ds ids s i):=by
  induction i with
  | zero=>exact h
  | succ i ih=>exact lvStep_in ih
theorem posD_in (one:List ty_Block.D):∀ z ∈ posD one,inI z:=fun z hz=>by
  unfold posD at hz
  obtain ⟨ys,h1,h2⟩:=List.mem_flatten.1 hz
  obtain ⟨b,_,rfl⟩:=List.mem_map.1 h1
  unfold bytI at h2
  obtain ⟨u,_,rfl⟩:=List.mem_map.1 h2
  have:=UInt8.toNat_lt u
  unfold inI
  omega
def LvV (M:Mem) (d:ty_Deep.D) (ids ds:List Int) (p:V × Mem):Prop:=∃ r1 r2 L1 L2,p.1=.tuple #[r1,r2,.bool (lvOk d ids ds)]∧M <+: p.2∧Gr (.sl ty_Int) p.2 [r1] (lvA d ids ds) L1∧Gr (.sl ty_Int) p.2 [r2] (lvB d ids ds) L2∧(L1++L2).Nodup∧∀ j ∈ L1++L2,M.length≤j
theorem lv_f {M X:Mem} {d:ty_Deep.D} {ids ds:List Int} (h:lvOk d ids ds=false) (hp:M <+: X):LvV M d ids ds (.tuple #[.slice none 0 0,.slice none 0 0,.bool false],X):=by
  have e1:lvA d ids ds=[]:=by unfold lvA; rw [h]; rfl
  have e2:lvB d ids ds=[]:=by unfold lvB; rw [h]; rfl
  refine ⟨.slice none 0 0,.slice none 0 0,[],[],?_,hp,?_,?_,by simp,by simp⟩
  · rw [h]
  · rw [e1]; exact Gr.nil
  · rw [e2]; exact Gr.nil
theorem fl1 (xs:List Int):(xs.map fun z=>[(.int .i64 z:V)]).flatten=xs.map fun z=>(.int .i64 z:V):=by
  induction xs with
  | nil=>rfl
  | cons x xs ih=>simp only [List.map_cons,List.flatten_cons,ih]; rfl
theorem fl_Int:FlatE ty_Int (fun x=>[(.int .i64 x:V)]) inI:=⟨fun M x h=>gr_Int M h,fun M cs x h=>⟨h.1,wf_i64 h.2⟩⟩
theorem lv_t {M Z X:Mem} {d:ty_Deep.D} {ids ds:List Int} {q0 q1:Nat} {v1 v2:V} (h:lvOk d ids ds=true) (hMZ:M <+: Z) (hin:inA (lvF d ids ds)) (hq:Lv Z q0 q1 (lvF d ids ds) (v1,v2) X):LvV M d ids ds (.tuple #[v1,v2,.bool true],X):=by
  have e1:lvA d ids ds=(lvF d ids ds).2.2.1:=by unfold lvA; rw [h]; rfl
  have e2:lvB d ids ds=(lvF d ids ds).2.2.2:=by unfold lvB; rw [h]; rfl
  obtain ⟨_,_,i3,i4⟩:=hin
  unfold Lv at hq
  have hM:=hMZ.length_le
  have G1:=hq.g1
  have G2:=hq.g2
  have D:=hq.d12
  simp only at G1 G2 D
  rw [← fl1] at G1 G2
  rcases G1.2 with ⟨rfl,n1⟩ | ⟨l1,k1,rfl,b1⟩ <;> rcases G2.2 with ⟨rfl,n2⟩ | ⟨l2,k2,rfl,b2⟩
  · refine ⟨.slice none 0 0,.slice none 0 0,[],[],by rw [h],hMZ.trans hq.pre,?_,?_,by simp,by simp⟩
    · rw [e1,List.length_eq_zero_iff.1 n1]; exact Gr.nil
    · rw [e2,List.length_eq_zero_iff.1 n2]; exact Gr.nil
  · refine ⟨.slice none 0 0,.slice (some ⟨l2,0,none⟩) _ _,[],[l2],by rw [h],hMZ.trans hq.pre,?_,?_,by simp,by simp; omega⟩
    · rw [e1,List.length_eq_zero_iff.1 n1]; exact Gr.nil
    · rw [e2]; exact gr_flat fl_Int b2 fun z hz=>i4 z hz
  · refine ⟨.slice (some ⟨l1,0,none⟩) _ _,.slice none 0 0,[l1],[],by rw [h],hMZ.trans hq.pre,?_,?_,by simp,by simp; omega⟩
    · rw [e1]; exact gr_flat fl_Int b1 fun z hz=>i3 z hz
    · rw [e2,List.length_eq_zero_iff.1 n2]; exact Gr.nil
  · refine ⟨.slice (some ⟨l1,0,none⟩) _ _,.slice (some ⟨l2,0,none⟩) _ _,[l1],[l2],by rw [h],hMZ.trans hq.pre,?_,?_,?_,by simp; omega⟩
    · rw [e1]; exact gr_flat fl_Int b1 fun z hz=>i3 z hz
    · rw [e2]; exact gr_flat fl_Int b2 fun z hz=>i4 z hz
    · have:l1 ≠ l2:=fun e=>by
        subst e
        exact D l1 (by simp [wfs]) (by simp [wfs])
      simp [this]
theorem gr_blk {X:Mem} {v:V} {xs:List Int} {L:List Nat} (h:Gr (.sl ty_Int) X [v] xs L) (hn:xs ≠ []):∃ l,v=.slice (some ⟨l,0,none⟩) xs.length xs.length∧X[l]?=some ⟨xs.map fun z=>(.int .i64 z:V),1,2⟩∧l ∈ L:=by
  rcases h with ⟨_,e,_⟩ | ⟨l,css,Ls,e,hb,h1,h2,h3,hL⟩
  · exact absurd e hn
  · simp only [List.cons.injEq,and_true] at e
    refine ⟨l,e,?_,by rw [hL]; simp⟩
    have hc:css=xs.map fun z=>[(.int .i64 z:V)]:=by
      apply List.ext_getElem?
      intro i
      rw [List.getElem?_map]
      by_cases hi:i < xs.length
      · have e1:css[i]?=some (css[i]'(by omega)):=List.getElem?_eq_getElem (by omega)
        have e2:xs[i]?=some xs[i]:=List.getElem?_eq_getElem hi
        have e3:Ls[i]?=some (Ls[i]'(by omega)):=List.getElem?_eq_getElem (by omega)
        have:=(h3 i _ _ _ e1 e2 e3).1.1
        rw [e1,e2,this]
        rfl
      · rw [List.getElem?_eq_none (by omega),List.getElem?_eq_none (by omega)]
        rfl
    rw [hb,hc,fl1]
    rfl
theorem posD_mul {one:List ty_Block.D} {N:Nat} (hdt:∀ b ∈ one,List.length (α:=UInt8) b.2.2=N):(posD one).length=one.length * N:=by
  unfold posD
  induction one with
  | nil=>simp
  | cons b bs ih =>
    simp only [List.map_cons,List.flatten_cons,List.length_append,List.length_cons]
    rw [ih (fun x hx=>hdt x (List.mem_cons_of_mem _ hx))]
    have:=hdt b List.mem_cons_self
    unfold bytI
    rw [List.length_map,this,Nat.succ_mul]
    omega
theorem low_len {l:Int} {tb:List Int} {x1:ty_Oram.D} {k:Nat} {one:List ty_Block.D} (hk:l - 2=(k:Int)) (hk4:k≤4) (h1:orO x1=some one) (h4:x1.2.1=(4:Int)) (h5:keptB k tb one=true):tb.length=2 ^ k∧(posD one).length=4 * 2 ^ k∧powI l=((4 * 2 ^ k:Nat):Int):=by
  unfold keptB at h5
  simp only [Bool.and_eq_true,decide_eq_true_eq] at h5
  obtain ⟨e1,e2,_⟩:=h5
  have hdt:∀ b ∈ one,List.length (α:=UInt8) b.2.2=4:=fun b hb=>by
    have:=(oram_dat h1 b hb).1
    rw [h4] at this
    omega
  have hlen:=posD_mul hdt
  refine ⟨e2.trans e1,by omega,?_⟩
  unfold powI
  have:Int.toNat l=k+2:=by omega
  rw [this,Nat.pow_add]
  omega
def lvAt (l:Int) (ids ds:List Int) (i:Nat):Bool:=idqB l (ids.getD i 0) && (drB (ds.getD (2 * i) 0) && drB (ds.getD (2 * i+1) 0))
theorem lvAt_all {l:Int} {ids ds:List Int} (hdn:ds.length=2 * ids.length) (h:∀ i,i < ids.length→lvAt l ids ds i=true):drsB (2 * (ids.length:Int)) ds=true∧ids.all (idqB l)=true:=by
  have key:∀ i,i < ids.length→idqB l (ids.getD i 0)=true∧drB (ds.getD (2 * i) 0)=true∧drB (ds.getD (2 * i+1) 0)=true:=fun i hi=>by
    have:=h i hi
    unfold lvAt at this
    simpa using this
  refine ⟨?_,List.all_eq_true.2 fun x hx=>?_⟩
  · unfold drsB
    rw [decide_eq_true (by omega),Bool.true_and]
    refine List.all_eq_true.2 fun x hx=>?_
    obtain ⟨j,hj,rfl⟩:=List.getElem_of_mem hx
    have h2:=key (j / 2) (by omega)
    rcases Nat.mod_two_eq_zero_or_one j with hm | hm
    · have e:2 * (j / 2)=j:=by omega
      have:=h2.2.1
      rw [e,List.getD_eq_getElem?_getD,List.getElem?_eq_getElem hj] at this
      exact this
    · have e:2 * (j / 2)+1=j:=by omega
      have:=h2.2.2
      rw [e,List.getD_eq_getElem?_getD,List.getElem?_eq_getElem hj] at this
      exact this
  · obtain ⟨j,hj,rfl⟩:=List.getElem_of_mem hx
    have:=(key j hj).1
    rw [List.getD_eq_getElem?_getD,List.getElem?_eq_getElem hj] at this
    exact this
theorem lvAt_not {l:Int} {ids ds:List Int} (hdn:ds.length=2 * ids.length) {i:Nat} (hi:i < ids.length) (h:lvAt l ids ds i=false):(drsB (2 * (ids.length:Int)) ds && ids.all (idqB l))=false:=by
  cases h1:drsB (2 * (ids.length:Int)) ds with
  | false=>rfl
  | true =>
    cases h2:ids.all (idqB l) with
    | false=>rfl
    | true =>
      exfalso
      unfold drsB at h1
      rw [Bool.and_eq_true] at h1
      have a1:=List.all_eq_true.1 h1.2
      have a2:=List.all_eq_true.1 h2
      have e1:idqB l (ids.getD i 0)=true:=by
        rw [List.getD_eq_getElem?_getD,List.getElem?_eq_getElem hi]
        exact a2 _ (List.getElem_mem hi)
      have e2:drB (ds.getD (2 * i) 0)=true:=by
        rw [List.getD_eq_getElem?_getD,List.getElem?_eq_getElem (by omega)]
        exact a1 _ (List.getElem_mem _)
      have e3:drB (ds.getD (2 * i+1) 0)=true:=by
        rw [List.getD_eq_getElem?_getD,List.getElem?_eq_getElem (by omega)]
        exact a1 _ (List.getElem_mem _)
      unfold lvAt at h
      rw [e1,e2,e3] at h
      cases h
theorem c_spec_l16Draw (M:Mem) (x:Int):aCall T0 F_spec_l16Draw [.int .i64 x] M=some (.bool (drB x),M):=by
  unfold drB
  rw [aCall_eq T_spec_l16Draw]; unfold A_spec_l16Draw C_spec_l16Draw; simp
  repeat' ((first | rw [selO_some] | rw [condR_bool] | rw [selD_some]); split <;> rename_i hq <;> (have hq2:=hq) <;> (try simp at hq2) <;> (try simp [*]))
def LvN (M X:Mem) (p:V × Mem):Prop:=p=(.tuple #[.slice none 0 0,.slice none 0 0,.bool false],M)∨p=(.tuple #[.slice none 0 0,.slice none 0 0,.bool false],X)
set_option maxRecDepth 20000 in
set_option maxHeartbeats 2000000 in
theorem l_spec_DeepLeaves_0 (M X:Mem) (p:Nat) (l:Int) (k:Nat) (hk:l=(k:Int)) (hk6:k≤6) (hp:rd1 X p 0=some (.int .i64 l)) (ids ds:List Int) (aI aD:Option Addr) (cI cD:Nat) (hI:Rep (.sl ty_Int) X [.slice aI ids.length cI] ids) (hD:Rep (.sl ty_Int) X [.slice aD ds.length cD] ds) (hn:ids.length≤700) (hdn:ds.length=2 * ids.length) :
    (∃ (u:Unit) (X':Mem),X'=X∧(∀ i,i < ids.length→lvAt l ids ds i=true)∧lp (aCall T0) K_spec_DeepLeaves_0 L_spec_DeepLeaves_0 [O,.slice aI ids.length cI,.slice aD ds.length cD,.pointer (some ⟨p,0,none⟩),O,O,O,O,O,.int .i64 (0:Nat),O,O,O,O,O,O,O,O,O,O,O,O,O,O,O,O,O,O,O,O,O,O,O,O,O,O,O,O,O,O,O,O,O,O,O,O,O,O,O,O,O,O,O,O,O,O,O,O,O,O,O,O,O,O,O,O,O,O,O,O,O,O,O,O,O,O,O,O,O,O,O,O,O,O,O,O,O,O,O,O,O,O,O,O,O,O,O,O,O,O,O,O,O,O,O,O,O,O,O,O,O,O,O,O,O,O,O,O,O,O,O,O,O,O,O,O,O,O,O,O,O,O,O,O,O,O,O,O,O,O,O,O,O,O,O,O,O,O,O,O,O,O,O,O,O,O] X=lp (aCall T0) K_spec_DeepLeaves_0 L_spec_DeepLeaves_0 [O,.slice aI ids.length cI,.slice aD ds.length cD,.pointer (some ⟨p,0,none⟩),O,O,O,O,O,.int .i64 ids.length,O,O,O,O,O,O,O,O,O,O,O,O,O,O,O,O,O,O,O,O,O,O,O,O,O,O,O,O,O,O,O,O,O,O,O,O,O,O,O,O,O,O,O,O,O,O,O,O,O,O,O,O,O,O,O,O,O,O,O,O,O,O,O,O,O,O,O,O,O,O,O,O,O,O,O,O,O,O,O,O,O,O,O,O,O,O,O,O,O,O,O,O,O,O,O,O,O,O,O,O,O,O,O,O,O,O,O,O,O,O,O,O,O,O,O,O,O,O,O,O,O,O,O,O,O,O,O,O,O,O,O,O,O,O,O,O,O,O,O,O,O,O,O,O,O,O] X') ∨
    ((∃ i,i < ids.length∧lvAt l ids ds i=false)∧∀ k,Sat (thenF M [.tmp 6,.tmp 7,.tmp 8] (thenS (blockR 0 (lp (aCall T0) K_spec_DeepLeaves_0 L_spec_DeepLeaves_0 [O,.slice aI ids.length cI,.slice aD ds.length cD,.pointer (some ⟨p,0,none⟩),O,O,O,O,O,.int .i64 (0:Nat),O,O,O,O,O,O,O,O,O,O,O,O,O,O,O,O,O,O,O,O,O,O,O,O,O,O,O,O,O,O,O,O,O,O,O,O,O,O,O,O,O,O,O,O,O,O,O,O,O,O,O,O,O,O,O,O,O,O,O,O,O,O,O,O,O,O,O,O,O,O,O,O,O,O,O,O,O,O,O,O,O,O,O,O,O,O,O,O,O,O,O,O,O,O,O,O,O,O,O,O,O,O,O,O,O,O,O,O,O,O,O,O,O,O,O,O,O,O,O,O,O,O,O,O,O,O,O,O,O,O,O,O,O,O,O,O,O,O,O,O,O,O,O,O,O,O] X)) (aCall T0) k)) (LvN M X)):=by
  have e4:(2:Int) ^ k=powI l:=by
    subst hk
    unfold powI
    have:Int.toNat (k:Int)=k:=by omega
    rw [this]
    simp
  have e5:=fun M=>c_spec_l02Pow M k (by omega)
  rw [e4,← hk] at e5
  refine loop_st (call:=aCall T0) (K:=K_spec_DeepLeaves_0) (L:=L_spec_DeepLeaves_0) (fun _ (_:Unit) X'=>X'=X) (fun i (_:Unit)=>[O,.slice aI ids.length cI,.slice aD ds.length cD,.pointer (some ⟨p,0,none⟩),O,O,O,O,O,.int .i64 i,O,O,O,O,O,O,O,O,O,O,O,O,O,O,O,O,O,O,O,O,O,O,O,O,O,O,O,O,O,O,O,O,O,O,O,O,O,O,O,O,O,O,O,O,O,O,O,O,O,O,O,O,O,O,O,O,O,O,O,O,O,O,O,O,O,O,O,O,O,O,O,O,O,O,O,O,O,O,O,O,O,O,O,O,O,O,O,O,O,O,O,O,O,O,O,O,O,O,O,O,O,O,O,O,O,O,O,O,O,O,O,O,O,O,O,O,O,O,O,O,O,O,O,O,O,O,O,O,O,O,O,O,O,O,O,O,O,O,O,O,O,O,O,O,O,O]) (lvAt l ids ds) (LvN M X) (n:=ids.length) (M0:=M) (rs:=[.tmp 6,.tmp 7,.tmp 8]) (k0:=0) () X rfl ?_ ?_
  all_goals
    intro i _ X' hi ho hX'
    subst hX'
    obtain ⟨li,oi,rfl,_,hrI⟩:=at_Int hI hi
    obtain ⟨j,hj⟩:∃ j,2 * i=j:=⟨_,rfl⟩
    obtain ⟨j1,hj1⟩:∃ j1,j+1=j1:=⟨_,rfl⟩
    obtain ⟨ld,od,rfl,_,hr0⟩:=at_Int hD (i:=j) (by omega)
    obtain ⟨ld',od',e',_,hr1⟩:=at_Int hD (i:=j1) (by omega)
    cases e'
    have gi:ids[i]=ids.getD i 0:=by rw [List.getD_eq_getElem?_getD,List.getElem?_eq_getElem hi]; rfl
    have g0:ds[j]'(by omega)=ds.getD (2 * i) 0:=by rw [List.getD_eq_getElem?_getD,hj,List.getElem?_eq_getElem (by omega)]; rfl
    have g1:ds[j1]'(by omega)=ds.getD (2 * i+1) 0:=by rw [List.getD_eq_getElem?_getD,hj,hj1,List.getElem?_eq_getElem (by omega)]; rfl
    rw [gi] at hrI
    rw [g0] at hr0
    rw [g1] at hr1
    unfold lvAt idqB at ho
    have eX:=fun M=>c_spec_l16Draw M (ds.getD (2 * i) 0)
    have eY:=fun M=>c_spec_l16Draw M (ds.getD (2 * i+1) 0)
    generalize drB (ds.getD (2 * i) 0)=bx at *
    generalize drB (ds.getD (2 * i+1) 0)=bY at *
    generalize ds.getD (2 * i) 0=dx at *
    generalize ds.getD (2 * i+1) 0=dy at *
    generalize ids.getD i 0=id at *
    have e1:IntKind.i64.wrap (2 * (i:Int))=(j:Int):=by rw [wrap_i64 (by omega) (by omega)]; omega
    have e2:IntKind.i64.wrap ((j:Int)+1)=(j1:Int):=by rw [wrap_i64 (by omega) (by omega)]; omega
    have e6:IntKind.i64.wrap ((i:Int)+1)=i+1:=wrap_i64 (by omega) (by omega)
    have iT:(i:Int) < (ids.length:Int):=by omega
    have jT:(j:Int) < (ds.length:Int):=by omega
    have j1T:(j1:Int) < (ds.length:Int):=by omega
    have jN:j < ds.length:=by omega
    have j1N:j1 < ds.length:=by omega
    generalize powI l=q at *
  · simp only [Bool.and_eq_true,decide_eq_true_eq] at ho
    obtain ⟨⟨o1,o2⟩,rfl,rfl⟩:=ho
    have o3:¬ id < -1:=by omega
    have o4:¬ q≤id:=by omega
    refine ⟨(),_,rfl,?_⟩
    rw [S_spec_DeepLeaves_0]; unfold B_spec_DeepLeaves_0; simp [apA,hi,iT,hrI,hr0,hr1,hp,e1,e2,e5,eX,eY,jT,j1T,jN,j1N,o3,o4,e6]
  · intro kk
    have fin:Sat (gc M (some ((.tuple #[.slice none 0 0,.slice none 0 0,.bool false]:V),X'))) (LvN M X'):=gc_sat (.inl rfl) (.inr rfl)
    by_cases o3:id < -1
    · rw [S_spec_DeepLeaves_0]; unfold B_spec_DeepLeaves_0; simp [apA,hi,iT,hrI,hp,o3]
      exact fin
    by_cases o4:q≤id
    · rw [S_spec_DeepLeaves_0]; unfold B_spec_DeepLeaves_0; simp [apA,hi,iT,hrI,hp,e5,o3,o4]
      exact fin
    rw [decide_eq_true (show -1≤id by omega),decide_eq_true (show id < q by omega)] at ho
    cases bx with
    | false =>
      rw [S_spec_DeepLeaves_0]; unfold B_spec_DeepLeaves_0; simp [apA,hi,iT,hrI,hr0,hp,e1,e5,eX,jT,jN,o3,o4]
      exact fin
    | true =>
      have:bY=false:=by simpa using ho
      subst this
      rw [S_spec_DeepLeaves_0]; unfold B_spec_DeepLeaves_0; simp [apA,hi,iT,hrI,hr0,hr1,hp,e1,e2,e5,eX,eY,jT,j1T,jN,j1N,o3,o4]
      exact fin
theorem c_spec_LeafOf (M:Mem) (d l:Int):aCall T0 F_spec_LeafOf [.int .i64 d,.int .i64 l] M=some (.int .i64 (leafI d l),M):=by
  unfold leafI drB
  by_cases h1:d < 0
  · have:¬ 0≤d:=by omega
    rw [aCall_eq T_spec_LeafOf]; unfold A_spec_LeafOf C_spec_LeafOf; simp [h1,this]
  by_cases h2:65535 < d
  · have:¬ d≤65535:=by omega
    rw [aCall_eq T_spec_LeafOf]; unfold A_spec_LeafOf C_spec_LeafOf; simp [h1,h2,this]
  by_cases h3:l < 0
  · have:¬ 0≤l:=by omega
    rw [aCall_eq T_spec_LeafOf]; unfold A_spec_LeafOf C_spec_LeafOf; simp [h1,h2,h3,this]
  by_cases h4:6 < l
  · have:¬ l≤6:=by omega
    rw [aCall_eq T_spec_LeafOf]; unfold A_spec_LeafOf C_spec_LeafOf; simp [h1,h2,h3,h4,this]
  obtain ⟨m,rfl⟩:∃ m:Nat,l=m:=⟨l.toNat,by omega⟩
  obtain ⟨k,rfl⟩:∃ k:Nat,d=k:=⟨d.toNat,by omega⟩
  have hq:(2:Int) ^ m ≠ 0:=by have:=pow2_pos m; omega
  have e2:Int.tmod (k:Int) (2 ^ m)=(k % 2 ^ m:Nat):=by
    rw [Int.tmod_eq_emod_of_nonneg (by omega)]; simp
  have e7:(k:Int)≤65535:=by omega
  have e8:(m:Int)≤6:=by omega
  rw [aCall_eq T_spec_LeafOf]; unfold A_spec_LeafOf C_spec_LeafOf; simp [h1,h2,h3,h4,e7,e8,c_spec_l02Pow _ m (by omega),hq]
  rw [e2]
  simp
end GoAm
