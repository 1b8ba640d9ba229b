/- What the functions do that the law reaches. -/
import Derived.Test.YtlniheedmeaeeaaGreatDeepLeavesl1
set_option autoImplicit false
set_option linter.unusedVariables false
set_option linter.unusedSimpArgs false
namespace GoAm
open Go
set_option maxRecDepth 20000 in
set_option maxHeartbeats 4000000 in
theorem r_spec_DeepLeaves_1 (Z:Mem) (p q0 q1:Nat) (l:Int) (hl:2≤l∧l≤6) (hp:rd1 Z p 0=some (.int .i64 l)) (ids ds:List Int) (aI aD:Option Addr) (cI cD:Nat) (hI:Rep (.sl ty_Int) Z [.slice aI ids.length cI] ids) (hD:Rep (.sl ty_Int) Z [.slice aD ds.length cD] ds) (hn:ids.length≤700) (hdn:ds.length=2 * ids.length) (nT nW cT cW:Nat) (hW:nW=4 * nT) (hnT:nT≤1000) (hid:∀ x ∈ ids,x < (nW:Int)) (i:Nat) (hi:i < ids.length) (s:Lv4) (h1:s.1.length=nT) (h2:s.2.1.length=nW) (h3:s.2.2.1.length=i) (h4:s.2.2.2.length=i) (v:V × V) (X:Mem) (hX:Lv Z q0 q1 s v X) :
    ∃ (v':V × V) (X':Mem),Lv Z q0 q1 (lvStep l ds i (ids.getD i 0) s) v' X' ∧
      lp (aCall T0) K_spec_DeepLeaves_1 L_spec_DeepLeaves_1 [O,.slice aI ids.length cI,.slice aD ds.length cD,.pointer (some ⟨p,0,none⟩),O,O,O,O,O,O,.slice (some ⟨q0,0,none⟩) nT cT,.slice (some ⟨q1,0,none⟩) nW cW,v.1,v.2,.int .i64 i,O,O,O,O,O,O,O,O,O,O,O,O,O,O,O,O,O,O,O,O,O,O,O,O,O,O,O,O,O,O,O,O,O,O,O,O,O,O,O,O,O,O,O,O,O,O,O,O,O,O,O,O,O,O,O,O,O,O,O,O,O,O,O,O,O,O,O,O,O,O,O,O,O,O,O,O,O,O,O,O,O,O,O,O,O,O,O,O,O,O,O,O,O,O,O,O,O,O,O,O,O,O,O,O,O,O,O,O,O,O,O,O,O,O,O,O,O,O,O,O,O,O,O,O,O,O,O,O,O,O,O,O,O,O,O,O,O,O,O,O,O] X =
      lp (aCall T0) K_spec_DeepLeaves_1 L_spec_DeepLeaves_1 [O,.slice aI ids.length cI,.slice aD ds.length cD,.pointer (some ⟨p,0,none⟩),O,O,O,O,O,O,.slice (some ⟨q0,0,none⟩) nT cT,.slice (some ⟨q1,0,none⟩) nW cW,v'.1,v'.2,.int .i64 (i+1:Nat),O,O,O,O,O,O,O,O,O,O,O,O,O,O,O,O,O,O,O,O,O,O,O,O,O,O,O,O,O,O,O,O,O,O,O,O,O,O,O,O,O,O,O,O,O,O,O,O,O,O,O,O,O,O,O,O,O,O,O,O,O,O,O,O,O,O,O,O,O,O,O,O,O,O,O,O,O,O,O,O,O,O,O,O,O,O,O,O,O,O,O,O,O,O,O,O,O,O,O,O,O,O,O,O,O,O,O,O,O,O,O,O,O,O,O,O,O,O,O,O,O,O,O,O,O,O,O,O,O,O,O,O,O,O,O,O,O,O,O,O,O] X':=by
  obtain ⟨t,w,a,b⟩:=s
  obtain ⟨v1,v2⟩:=v
  unfold Lv at hX ⊢
  simp only at hX h1 h2 h3 h4 ⊢
  have pX:=hX.pre
  obtain ⟨li,oi,rfl,_,hrI0⟩:=at_Int hI hi
  have hrI:=r1_pre pX hrI0
  obtain ⟨j,hj⟩:∃ j,2 * i=j:=⟨_,rfl⟩
  obtain ⟨j1,hj1⟩:∃ j1,j+1=j1:=⟨_,rfl⟩
  obtain ⟨ld,od,rfl,_,hr0⟩:=at_Int (hD.mono pX) (i:=j) (by omega)
  obtain ⟨ld',od',e',_,hr1⟩:=at_Int (hD.mono pX) (i:=j1) (by omega)
  cases e'
  have hdi:=hid _ (List.getElem_mem hi)
  have gi:ids[i]=ids.getD i 0:=by rw [List.getD_eq_getElem?_getD,List.getElem?_eq_getElem hi]; rfl
  have g0:ds[j]'(by omega)=ds.getD (2 * i) 0:=by rw [List.getD_eq_getElem?_getD,hj,List.getElem?_eq_getElem (by omega)]; rfl
  have g1:ds[j1]'(by omega)=ds.getD (2 * i+1) 0:=by rw [List.getD_eq_getElem?_getD,hj,hj1,List.getElem?_eq_getElem (by omega)]; rfl
  rw [gi] at hrI hrI0 hdi
  rw [g0] at hr0
  rw [g1] at hr1
  unfold lvStep
  have eX:=fun M=>c_spec_LeafOf M (ds.getD (2 * i) 0) (l - 2)
  have eY:=fun M=>c_spec_LeafOf M (ds.getD (2 * i+1) 0) l
  have hx:leafI (ds.getD (2 * i) 0) (l - 2)=lvX l ds i:=rfl
  have hy:leafI (ds.getD (2 * i+1) 0) l=lvY l ds i:=rfl
  rw [hx] at eX
  rw [hy] at eY
  generalize lvX l ds i=x at *
  generalize lvY l ds i=y at *
  generalize ds.getD (2 * i) 0=dx at *
  generalize ds.getD (2 * i+1) 0=dy at *
  generalize ids.getD i 0=id at *
  have e1:IntKind.i64.wrap (2 * (i:Int))=(j:Int):=by rw [wrap_i64 (by omega) (by omega)]; omega
  have e2:IntKind.i64.wrap ((j:Int)+1)=(j1:Int):=by rw [wrap_i64 (by omega) (by omega)]; omega
  have e3:IntKind.i64.wrap (l - 2)=l - 2:=wrap_i64 (by omega) (by omega)
  have e6:IntKind.i64.wrap ((i:Int)+1)=i+1:=wrap_i64 (by omega) (by omega)
  have hp':=r1_pre pX hp
  have iT:(i:Int) < (ids.length:Int):=by omega
  have jT:(j:Int) < (ds.length:Int):=by omega
  have j1T:(j1:Int) < (ds.length:Int):=by omega
  have jN:j < ds.length:=by omega
  have j1N:j1 < ds.length:=by omega
  by_cases hneg:id < 0
  · rw [if_pos hneg]
    rw [S_spec_DeepLeaves_1]; unfold B_spec_DeepLeaves_1; simp [apA,hi,iT,hrI,hr0,hr1,hp',e1,e2,e3,eX,eY,jT,j1T,jN,j1N,hneg,zeroCells]
    generalize hy2:appS _ _ _ _ _ _=xhy2
    obtain ⟨a1,X1,rfl,hX1,ag1⟩:=hX.app (List.prefix_append _ _) (by omega) hy2
    clear hy2
    simp [apA,zeroCells]
    generalize hy2:appS _ _ _ _ _ _=xhy2
    obtain ⟨a2,X2,rfl,hX2,ag2⟩:=hX1.swap.app (List.prefix_append _ _) (by omega) hy2
    clear hy2
    simp [apA,e6]
    exact ⟨_,_,_,hX2.swap,rfl⟩
  · rw [if_neg hneg]
    obtain ⟨k,rfl⟩:∃ k:Nat,id=(k:Int):=⟨Int.toNat id,by omega⟩
    have hk0:Int.toNat (k:Int)=k:=by omega
    rw [hk0]
    obtain ⟨s,hs⟩:∃ s,k / 4=s:=⟨_,rfl⟩
    rw [hs]
    have hsT:s < t.length:=by omega
    have hkW:k < w.length:=by omega
    have r0:=hX.rd hsT
    have e4:Int.tdiv (k:Int) 4=(s:Int):=by rw [Int.tdiv_eq_ediv_of_nonneg (by omega)]; omega
    have e5:IntKind.i64.wrap (s:Int)=(s:Int):=wrap_i64 (by omega) (by omega)
    have sT:(s:Int) < (nT:Int):=by omega
    have kW:(k:Int) < (nW:Int):=by omega
    have sN:s < nT:=by omega
    have kN:k < nW:=by omega
    generalize t.getD s 0=tv at *
    obtain ⟨wv,hwv⟩:∃ wv,w.getD k 0=wv:=⟨_,rfl⟩
    rw [hwv]
    rw [S_spec_DeepLeaves_1]; unfold B_spec_DeepLeaves_1; simp [apA,hi,iT,hrI,hr0,hr1,hp',e1,e2,e3,eX,eY,jT,j1T,jN,j1N,e4,e5,sT,kW,sN,kN,r0,hneg,zeroCells]
    generalize hy2:appS _ _ _ _ _ _=xhy2
    obtain ⟨a1,X1,rfl,hX1,ag1⟩:=hX.app (List.prefix_append _ _) (by omega) hy2
    clear hy2
    have hrI1:=r1_pre hX1.pre hrI0
    have r1:=hX1.flip.rd hkW
    rw [hwv] at r1
    simp [apA,hrI1,r1,kW,kN,iT,hi,zeroCells]
    generalize hy2:appS _ _ _ _ _ _=xhy2
    obtain ⟨a2,X2,rfl,hX2,ag2⟩:=hX1.swap.app (List.prefix_append _ _) (by omega) hy2
    clear hy2
    have hrI2:=r1_pre hX2.pre hrI0
    obtain ⟨X3,w3,hX3⟩:=hX2.wr hsT x
    have hrI3:=r1_pre hX3.pre hrI0
    obtain ⟨X4,w4,hX4⟩:=hX3.flip.wr hkW y
    simp [apA,hrI2,e4,e5,sT,sN,iT,hi,w3,hrI3,kW,kN,w4,e6]
    exact ⟨_,_,_,hX4.flip.swap,rfl⟩
def LvL (Z:Mem) (q0 q1:Nat) (l:Int) (ds ids:List Int) (s0:Lv4) (i:Nat) (v:V × V) (X:Mem):Prop:=Lv Z q0 q1 (lvRun l ds ids s0 i) v X
set_option maxRecDepth 20000 in
theorem l_spec_DeepLeaves_1 (Z:Mem) (p q0 q1:Nat) (l:Int) (hl:2≤l∧l≤6) (hp:rd1 Z p 0=some (.int .i64 l)) (ids ds:List Int) (aI aD:Option Addr) (cI cD:Nat) (hI:Rep (.sl ty_Int) Z [.slice aI ids.length cI] ids) (hD:Rep (.sl ty_Int) Z [.slice aD ds.length cD] ds) (hn:ids.length≤700) (hdn:ds.length=2 * ids.length) (nT nW cT cW:Nat) (hW:nW=4 * nT) (hnT:nT≤1000) (hid:∀ x ∈ ids,x < (nW:Int)) (top low:List Int) (h1:top.length=nT) (h2:low.length=nW) (v:V × V) (X:Mem) (hX:Lv Z q0 q1 (top,low,[],[]) v X) :
    ∃ (v':V × V) (X':Mem),LvL Z q0 q1 l ds ids (top,low,[],[]) ids.length v' X' ∧
      lp (aCall T0) K_spec_DeepLeaves_1 L_spec_DeepLeaves_1 [O,.slice aI ids.length cI,.slice aD ds.length cD,.pointer (some ⟨p,0,none⟩),O,O,O,O,O,O,.slice (some ⟨q0,0,none⟩) nT cT,.slice (some ⟨q1,0,none⟩) nW cW,v.1,v.2,.int .i64 (0:Nat),O,O,O,O,O,O,O,O,O,O,O,O,O,O,O,O,O,O,O,O,O,O,O,O,O,O,O,O,O,O,O,O,O,O,O,O,O,O,O,O,O,O,O,O,O,O,O,O,O,O,O,O,O,O,O,O,O,O,O,O,O,O,O,O,O,O,O,O,O,O,O,O,O,O,O,O,O,O,O,O,O,O,O,O,O,O,O,O,O,O,O,O,O,O,O,O,O,O,O,O,O,O,O,O,O,O,O,O,O,O,O,O,O,O,O,O,O,O,O,O,O,O,O,O,O,O,O,O,O,O,O,O,O,O,O,O,O,O,O,O,O] X =
      lp (aCall T0) K_spec_DeepLeaves_1 L_spec_DeepLeaves_1 [O,.slice aI ids.length cI,.slice aD ds.length cD,.pointer (some ⟨p,0,none⟩),O,O,O,O,O,O,.slice (some ⟨q0,0,none⟩) nT cT,.slice (some ⟨q1,0,none⟩) nW cW,v'.1,v'.2,.int .i64 ids.length,O,O,O,O,O,O,O,O,O,O,O,O,O,O,O,O,O,O,O,O,O,O,O,O,O,O,O,O,O,O,O,O,O,O,O,O,O,O,O,O,O,O,O,O,O,O,O,O,O,O,O,O,O,O,O,O,O,O,O,O,O,O,O,O,O,O,O,O,O,O,O,O,O,O,O,O,O,O,O,O,O,O,O,O,O,O,O,O,O,O,O,O,O,O,O,O,O,O,O,O,O,O,O,O,O,O,O,O,O,O,O,O,O,O,O,O,O,O,O,O,O,O,O,O,O,O,O,O,O,O,O,O,O,O,O,O,O,O,O,O,O] X':=by
  refine loop_to (call:=aCall T0) (K:=K_spec_DeepLeaves_1) (L:=L_spec_DeepLeaves_1) (fun i (v:V × V) X=>LvL Z q0 q1 l ds ids (top,low,[],[]) i v X) (fun i v=>[O,.slice aI ids.length cI,.slice aD ds.length cD,.pointer (some ⟨p,0,none⟩),O,O,O,O,O,O,.slice (some ⟨q0,0,none⟩) nT cT,.slice (some ⟨q1,0,none⟩) nW cW,v.1,v.2,.int .i64 i,O,O,O,O,O,O,O,O,O,O,O,O,O,O,O,O,O,O,O,O,O,O,O,O,O,O,O,O,O,O,O,O,O,O,O,O,O,O,O,O,O,O,O,O,O,O,O,O,O,O,O,O,O,O,O,O,O,O,O,O,O,O,O,O,O,O,O,O,O,O,O,O,O,O,O,O,O,O,O,O,O,O,O,O,O,O,O,O,O,O,O,O,O,O,O,O,O,O,O,O,O,O,O,O,O,O,O,O,O,O,O,O,O,O,O,O,O,O,O,O,O,O,O,O,O,O,O,O,O,O,O,O,O,O,O,O,O,O,O,O,O]) (n:=ids.length) (fun i v X hi hX=>?_) 0 v X (by omega) hX
  have hl4:=lvRun_len l ds ids (top,low,[],[]) i
  simp only [List.length_nil,Nat.zero_add] at hl4
  exact r_spec_DeepLeaves_1 Z p q0 q1 l hl hp ids ds aI aD cI cD hI hD hn hdn nT nW cT cW hW hnT hid i hi _ (hl4.1.trans h1) (hl4.2.1.trans h2) hl4.2.2.1 hl4.2.2.2 v X hX
set_option maxRecDepth 20000 in
set_option maxHeartbeats 4000000 in
theorem c_spec_DeepLeaves (M:Mem) (cs:List V) (d:ty_Deep.D) (h:Rep ty_Deep M cs d) (hb:Bd 1048576 ty_Deep d) (vI:V) (ids:List Int) (hI:Rep (.sl ty_Int) M [vI] ids) (hiL:ids.length≤1048576) (vD:V) (ds:List Int) (hD:Rep (.sl ty_Int) M [vD] ds) (hdL:ds.length≤1048576) :
    Sat (aCall T0 F_spec_DeepLeaves [.agg cs.toArray,vI,vD] M) (LvV M d ids ds):=by
  have ho:=h.one
  have hl:cs.length=16:=h.len
  obtain ⟨aI,cI,rfl⟩:=hI.slen
  obtain ⟨aD,cD,rfl⟩:=hD.slen
  have hpre:M <+: M++[(⟨cs,1,2⟩:Blk)]:=List.prefix_append _ _
  have hbx:(M++[(⟨cs,1,2⟩:Blk)])[M.length]?=some ⟨cs,1,2⟩:=List.getElem?_concat_length
  have gA:=rdn_bx (k:=0) (n:=16) hbx (by omega) (by rw [List.drop_zero,List.take_of_length_le (by omega)])
  have eD:=d_spec_DeepOk (M++[(⟨cs,1,2⟩:Blk)]) cs d (h.mono hpre) hb
  have hok:lvOk d ids ds=(deepB d && (decide (ids.length≤700) && (drsB (2 * (ids.length:Int)) ds && ids.all (idqB d.1)))):=rfl
  have ff:=fun hf=>gc_sat (lv_f (d:=d) (ids:=ids) (ds:=ds) hf (List.prefix_refl M)) (lv_f (d:=d) (ids:=ids) (ds:=ds) hf hpre)
  have w1:IntKind.i64.wrap (2 * (ids.length:Int))=2 * (ids.length:Int):=wrap_i64 (by omega) (by omega)
  cases hd:deepB d with
  | false =>
    rw [hd] at eD
    have hf:lvOk d ids ds=false:=by rw [hok,hd]; rfl
    rw [aCall_eq T_spec_DeepLeaves]; unfold A_spec_DeepLeaves C_spec_DeepLeaves; simp [apA,ho,hl,gA,eD]
    exact ff hf
  | true =>
  rw [hd] at eD
  by_cases h7:ids.length≤700
  rotate_left
  · have hf:lvOk d ids ds=false:=by rw [hok,decide_eq_false h7]; simp
    have h7':(700:Int) < (ids.length:Int):=by omega
    have h7n:700 < ids.length:=by omega
    rw [aCall_eq T_spec_DeepLeaves]; unfold A_spec_DeepLeaves C_spec_DeepLeaves; simp [apA,ho,hl,gA,eD,h7',h7n]
    exact ff hf
  have h7':¬ (700:Int) < (ids.length:Int):=by omega
  have h7n:¬ 700 < ids.length:=by omega
  by_cases hdn:ds.length=2 * ids.length
  rotate_left
  · have hr:drsB (2 * (ids.length:Int)) ds=false:=by
      unfold drsB
      rw [decide_eq_false (by omega)]
      rfl
    have hf:lvOk d ids ds=false:=by rw [hok,hr]; simp
    have hdn':¬ (ds.length:Int)=2 * (ids.length:Int):=by omega
    rw [aCall_eq T_spec_DeepLeaves]; unfold A_spec_DeepLeaves C_spec_DeepLeaves; simp [apA,ho,hl,gA,eD,h7',h7n,w1,hdn',hdn]
    exact ff hf
  obtain ⟨⟨a1,a2,a3⟩,_,hcT⟩:=deep_bd hb
  obtain ⟨aT,cT,o1,o2,F⟩:=deep_shape h
  have hD0:=hd
  obtain ⟨l,tb,x1,x2⟩:=d
  obtain ⟨k,one,two,hk,hk4,q1,q2,h3,h5,h6⟩:=deep_kept hd
  simp only at a1 a2 a3 hcT
  have t0:=rd1_bx hbx F.c0
  have t1:=rd1_bx hbx F.c1
  simp only at t0 t1
  simp only at hok
  have hdn':(ds.length:Int)=2 * (ids.length:Int):=by omega
  have hdnT:((ds.length:Int)=2 * (ids.length:Int))=True:=eq_true hdn'
  have key:=l_spec_DeepLeaves_0 M (M++[(⟨cs,1,2⟩:Blk)]) M.length l (k+2) (by omega) (by omega) t0 ids ds aI aD cI cD (hI.mono hpre) (hD.mono hpre) h7 hdn
  simp only [Int.natCast_zero,Int.ofNat_zero] at key
  rcases key with ⟨_,Y0,hY0,hall,e0⟩ | ⟨⟨i,hi,hf⟩,hS⟩
  rotate_left
  · have hA:=lvAt_not hdn hi hf
    have hf:lvOk (l,tb,x1,x2) ids ds=false:=by rw [hok,hA]; simp
    rw [aCall_eq T_spec_DeepLeaves]; unfold A_spec_DeepLeaves C_spec_DeepLeaves; simp [apA,ho,hl,gA,eD,h7',h7n,w1,hdnT]
    refine Sat.mono (hS _) fun p hp=>?_
    rcases hp with rfl | rfl
    · exact lv_f hf (List.prefix_refl _)
    · exact lv_f hf hpre
  rw [hY0] at e0
  clear hY0
  obtain ⟨hr,ha⟩:=lvAt_all hdn hall
  have ht:lvOk (l,tb,x1,x2) ids ds=true:=by rw [hok,hd,decide_eq_true h7,hr,ha]; rfl
  obtain ⟨z1,z2,z3⟩:=low_len hk hk4 q1 h3 h5
  have hp6:2 ^ k≤2 ^ 4:=Nat.pow_le_pow_right (by omega) hk4
  have hp0:0 < 2 ^ k:=Nat.two_pow_pos k
  have hid:∀ x ∈ ids,x < ((4 * 2 ^ k:Nat):Int):=fun x hx=>by
    have:=List.all_eq_true.1 ha x hx
    unfold idqB at this
    simp only [Bool.and_eq_true,decide_eq_true_eq] at this
    rw [← z3]
    exact this.2
  generalize (2:Nat) ^ k=q at *
  have hlF:lvF (l,tb,x1,x2) ids ds=lvRun l ds ids (tb,posD one,[],[]) ids.length:=by unfold lvF; simp only [q1]; rfl
  have hpR:posR (l,tb,x1,x2)=posD one:=by unfold posR; rw [if_pos hd,q1]; rfl
  have hpre2:M++[(⟨cs,1,2⟩:Blk)] <+: (M++[(⟨cs,1,2⟩:Blk)])++[(⟨[],1,2⟩:Blk)]:=List.prefix_append _ _
  have hC:=(rep_cellsF fl_Int ((F.rT.mono hpre).mono hpre2)).2
  have hce:sliceCells ((M++[(⟨cs,1,2⟩:Blk)])++[(⟨[],1,2⟩:Blk)]) 1 (.slice aT tb.length cT)=some (tb.length,(tb.map fun z=>[(.int .i64 z:V)]).flatten):=hC.1
  have hce':sliceCells (M++[(⟨cs,1,2⟩:Blk),⟨[],1,2⟩]) 1 (.slice aT tb.length cT)=some (tb.length,(tb.map fun z=>[(.int .i64 z:V)]).flatten):=by simpa using hce
  have t1':rd1 (M++[(⟨cs,1,2⟩:Blk),⟨[],1,2⟩]) M.length 1=some (.slice aT tb.length cT):=by have:=r1_pre hpre2 t1; simpa using this
  rw [aCall_eq T_spec_DeepLeaves]; unfold A_spec_DeepLeaves C_spec_DeepLeaves; simp [apA,ho,hl,gA,eD,h7',h7n,w1,hdnT,e0]
  rw [S_spec_DeepLeaves_0]; unfold B_spec_DeepLeaves_0; simp [apA,t1',hce',zeroCells]
  generalize hy:appS _ _ _ _ _ _=xhy
  have hbe:(M++[(⟨cs,1,2⟩:Blk),⟨[],1,2⟩])[M.length+1]?=some ⟨[],1,2⟩:=by simp
  have hwI:∀ y ∈ tb,inI y:=hC.2
  obtain ⟨q0,X1,rfl,hl2,gT,agT⟩:=cp_all (t:=ty_Int) fl_Int hy hbe hwI (by omega) (by omega)
  clear hy
  obtain ⟨q0',e',b0,m0⟩:=gr_blk gT (by intro e; rw [e] at z1; simp at z1; omega)
  cases e'
  have hZ1:M++[(⟨cs,1,2⟩:Blk)] <+: X1:=agT.pre (⟨[(⟨[],1,2⟩:Blk)],by simp⟩) (by simp)
  have pM1:=hpre.trans hZ1
  have hb1:=get_pre hZ1 hbx
  have gA1:=rdn_bx (k:=0) (n:=16) hb1 (by omega) (by rw [List.drop_zero,List.take_of_length_le (by omega)])
  have hK:=c_spec_DeepPos X1 cs (l,tb,x1,x2) (h.mono pM1) hb
  rw [hpR] at hK
  have hq0l:=get_lt b0
  simp [apA,gA1]
  generalize hx:aCall T0 F_spec_DeepPos _ _=xhx
  obtain ⟨vP,X2,rfl,L2,p2,g2,n2,k2⟩:=of_call hx hK
  clear hx
  simp only at p2 g2
  obtain ⟨q1',rfl,b1,m1⟩:=gr_blk g2 (by intro e; rw [e] at z2; simp at z2; omega)
  have hq1:=k2 q1' m1
  have hZL:=hZ1.length_le
  have h2L:=p2.length_le
  simp at hZL
  have hq1l:=get_lt b1
  have p3:X2 <+: X2++[(⟨[],1,2⟩:Blk),⟨[],1,2⟩]:=List.prefix_append _ _
  have hQ:Lv (M++[(⟨cs,1,2⟩:Blk)]) q0 q1' (tb,posD one,[],[]) (.slice (some ⟨X2.length,0,none⟩) 0 0,.slice (some ⟨X2.length+1,0,none⟩) 0 0) (X2++[(⟨[],1,2⟩:Blk),⟨[],1,2⟩]):=by
    refine ⟨(hZ1.trans p2).trans p3,get_pre (p2.trans p3) b0,get_pre p3 b1,⟨rfl,.inr ⟨X2.length,by simp; omega,rfl,by simp⟩⟩,⟨rfl,.inr ⟨X2.length+1,by simp; omega,rfl,by simp⟩⟩,by omega,by simp; omega,by simp; omega,?_,?_,?_,?_,?_⟩
    all_goals
      simp [wfs]
      try omega
  obtain ⟨v',X3,hX3,e⟩:=l_spec_DeepLeaves_1 (M++[(⟨cs,1,2⟩:Blk)]) M.length q0 q1' l (by omega) t0 ids ds aI aD cI cD (hI.mono hpre) (hD.mono hpre) h7 hdn q (4 * q) q (4 * q) rfl (by omega) hid tb (posD one) z1 z2 _ _ hQ
  simp only [Int.natCast_zero,Int.ofNat_zero] at e
  simp only [z1,z2]
  obtain ⟨v1,v2⟩:=v'
  have hin:inA (lvF (l,tb,x1,x2) ids ds):=by
    rw [hlF]
    exact lvRun_in ⟨hwI,posD_in one,by simp,by simp⟩ _
  have hX4:Lv (M++[(⟨cs,1,2⟩:Blk)]) q0 q1' (lvF (l,tb,x1,x2) ids ds) (v1,v2) X3:=by rw [hlF]; exact hX3
  have fin:=lv_t ht hpre hin hX4
  obtain ⟨s1,rfl⟩:=(show ∃ a,v1=.slice a _ _ from (show QI _ _ _ _ _ _ _ _ _ _ from hX4).g1.shape)
  simp [apA,e,zeroCells]
  rw [S_spec_DeepLeaves_1]; unfold B_spec_DeepLeaves_1; simp [apA]
  exact sat_some fin
theorem d_spec_DeepLeaves (M:Mem) (cs:List V) (d:ty_Deep.D) (h:Rep ty_Deep M cs d) (hb:Bd 1048576 ty_Deep d) (vI:V) (ids:List Int) (hI:Rep (.sl ty_Int) M [vI] ids) (hbI:Bd 1048576 (.sl ty_Int) ids) (vD:V) (ds:List Int) (hD:Rep (.sl ty_Int) M [vD] ds) (hbD:Bd 1048576 (.sl ty_Int) ds) :
    ∃ M' r1 r2,M <+: M'∧aCall T0 F_spec_DeepLeaves [.agg cs.toArray,vI,vD] M=some (.tuple #[r1,r2,.bool (lvOk d ids ds)],M')∧Rep (.sl ty_Int) M' [r1] (lvA d ids ds)∧Rep (.sl ty_Int) M' [r2] (lvB d ids ds):=by
  obtain ⟨⟨p,M'⟩,e,r1,r2,L1,L2,rfl,q1,g1,g2,nd,ge⟩:=c_spec_DeepLeaves M cs d h hb vI ids hI hbI.1 vD ds hD hbD.1
  exact ⟨M',r1,r2,q1,e,g1.rep,g2.rep⟩
theorem r_idx_Int (M:Mem) (a:Option Addr) (c:Nat) (xs:List ty_Int.D) (h:Rep (.sl ty_Int) M [.slice a xs.length c] xs) (hn:xs.length≤9223372036854775807) (f:FuncId) (cap:List V) (p:Int→Bool)
    (hp:∀ i (hi:i < xs.length),aCall T0 f (.int .i64 xs[i] :: cap) M=some (.bool (p xs[i]),M)) (i:Nat) (hi:i < xs.length) (hq:p xs[i]=false) :
    lp (aCall T0) K_slices_IndexFunc_int_int_0 L_slices_IndexFunc_int_int_0 [.slice a xs.length c,.func (.func f) #[] cap.toArray,O,O,O,O,O,.int .i64 xs.length,.int .i64 i,O,O,O,O,O,O,O,O,O,O] M =
    lp (aCall T0) K_slices_IndexFunc_int_int_0 L_slices_IndexFunc_int_int_0 [.slice a xs.length c,.func (.func f) #[] cap.toArray,O,O,O,O,O,.int .i64 xs.length,.int .i64 (i+1:Nat),O,O,O,O,O,O,O,O,O,O] M:=by
  obtain ⟨l,o,rfl,hrep,hrd⟩:=at_Int h hi
  have ec:=hp i hi
  have e6:IntKind.i64.wrap ((i:Int)+1)=i+1:=wrap_i64 (by omega) (by omega)
  rw [S_slices_IndexFunc_int_int_0]; unfold B_slices_IndexFunc_int_int_0; simp [hrd,ec,e6,hi,hq]
theorem x_idx_Int (M:Mem) (a:Option Addr) (c:Nat) (xs:List ty_Int.D) (h:Rep (.sl ty_Int) M [.slice a xs.length c] xs) (f:FuncId) (cap:List V) (p:Int→Bool)
    (hp:∀ i (hi:i < xs.length),aCall T0 f (.int .i64 xs[i] :: cap) M=some (.bool (p xs[i]),M)) (i:Nat) (hi:i < xs.length) (hq:p xs[i]=true) (k:ACode) :
    thenF M [.tmp 4] (thenS (blockR 0 (lp (aCall T0) K_slices_IndexFunc_int_int_0 L_slices_IndexFunc_int_int_0 [.slice a xs.length c,.func (.func f) #[] cap.toArray,O,O,O,O,O,.int .i64 xs.length,.int .i64 i,O,O,O,O,O,O,O,O,O,O] M)) (aCall T0) k)=some (.int .i64 i,M):=by
  obtain ⟨l,o,rfl,hrep,hrd⟩:=at_Int h hi
  have ec:=hp i hi
  rw [S_slices_IndexFunc_int_int_0]; unfold B_slices_IndexFunc_int_int_0; simp [hrd,ec,hi,hq]
theorem c_idx_Int (M:Mem) (v:V) (xs:List ty_Int.D) (h:Rep (.sl ty_Int) M [v] xs) (hn:xs.length≤9223372036854775807) (f:FuncId) (cap:List V) (p:Int→Bool)
    (hp:∀ i (hi:i < xs.length),aCall T0 f (.int .i64 xs[i] :: cap) M=some (.bool (p xs[i]),M)) :
    aCall T0 F_slices_IndexFunc_int_int [v,.func (.func f) #[] cap.toArray] M=some (.int .i64 (idx p xs),M):=by
  obtain ⟨a,c,rfl⟩:=h.slen
  rcases idx_cases p xs with ⟨ha,h1⟩ | ⟨j,hj,ha,h1,h2⟩
  · have hc:=chain (g:=fun i:Nat=>lp (aCall T0) K_slices_IndexFunc_int_int_0 L_slices_IndexFunc_int_int_0 [.slice a xs.length c,.func (.func f) #[] cap.toArray,O,O,O,O,O,.int .i64 xs.length,.int .i64 i,O,O,O,O,O,O,O,O,O,O] M) (n:=xs.length) fun i hi=>r_idx_Int M a c xs h hn f cap p hp i hi (h1 i hi)
    simp only [Int.natCast_zero,Int.ofNat_zero] at hc
    rw [ha]
    rw [aCall_eq T_slices_IndexFunc_int_int]; unfold A_slices_IndexFunc_int_int C_slices_IndexFunc_int_int; simp [hc]
    rw [S_slices_IndexFunc_int_int_0]; unfold B_slices_IndexFunc_int_int_0; simp
  · have hc:=chain (g:=fun i:Nat=>lp (aCall T0) K_slices_IndexFunc_int_int_0 L_slices_IndexFunc_int_int_0 [.slice a xs.length c,.func (.func f) #[] cap.toArray,O,O,O,O,O,.int .i64 xs.length,.int .i64 i,O,O,O,O,O,O,O,O,O,O] M) (n:=j) fun i hi=>r_idx_Int M a c xs h hn f cap p hp i (by omega) (h1 i (by omega) hi)
    simp only [Int.natCast_zero,Int.ofNat_zero] at hc
    rw [ha]
    rw [aCall_eq T_slices_IndexFunc_int_int]; unfold A_slices_IndexFunc_int_int C_slices_IndexFunc_int_int; simp [hc,x_idx_Int M a c xs h f cap p hp j hj h2]
theorem c_any_Int (M:Mem) (v:V) (xs:List ty_Int.D) (h:Rep (.sl ty_Int) M [v] xs) (hn:xs.length≤9223372036854775807) (f:FuncId) (cap:List V) (p:Int→Bool)
    (hp:∀ i (hi:i < xs.length),aCall T0 f (.int .i64 xs[i] :: cap) M=some (.bool (p xs[i]),M)) :
    aCall T0 F_slices_ContainsFunc_int_int [v,.func (.func f) #[] cap.toArray] M=some (.bool (xs.any p),M):=by
  have h1:=c_idx_Int M v xs h hn f cap p hp
  have h2:=idx_any p xs
  rw [← h2]
  rw [aCall_eq T_slices_ContainsFunc_int_int]; unfold A_slices_ContainsFunc_int_int C_slices_ContainsFunc_int_int; simp [h1]
theorem c_impl_within (M:Mem) (x a b:Int):aCall T0 F_impl_within [.int .i64 x,.int .i64 a,.int .i64 b] M=some (.bool (decide (a≤x) && decide (x≤b)),M):=by
  rw [aCall_eq T_impl_within]; unfold A_impl_within C_impl_within; simp
  repeat' ((first | rw [selO_some] | rw [condR_bool] | rw [selD_some]); split <;> rename_i hq <;> (have hq2:=hq) <;> (try simp at hq2) <;> (try simp [*]))
theorem c_impl_isDeepLog (M:Mem) (x:Int):aCall T0 F_impl_isDeepLog [.int .i64 x] M=some (.bool (decide (2≤x) && decide (x≤6)),M):=by
  rw [aCall_eq T_impl_isDeepLog]; unfold A_impl_isDeepLog C_impl_isDeepLog; simp [c_impl_within]
abbrev FdI (p q:Nat) (v5:V) (a:Option Addr) (n c:Nat) (i:Nat):List V:=[O,.pointer (some ⟨p,0,none⟩),O,O,O,v5,O,.pointer (some ⟨q,0,none⟩),O,O,O,O,O,O,O,O,O,O,O,O,O,O,O,O,O,O,O,O,O,O,O,O,O,O,O,O,O,O,O,O,O,O,O,O,O,O,O,O,O,O,O,O,O,O,O,O,O,O,O,O,O,O,O,O,O,O,O,O,O,O,O,O,O,O,O,.slice a n c,.int .i64 n,.int .i64 i,O,O,O,O,O,O,O,O,O,O,O,O,O,O,O,O,O,O,O,O,O,O,O,O,O,O,O,O,O,O,O,O,O,O,O,O,O,O,O,O,O,O]
def DpI (Z:Mem) (q:Nat) (ys:List Int) (X:Mem):Prop:=Z <+: X∧∃ v,X[q]?=some ⟨[v],1,2⟩∧Grow Z.length 1 X v ys.length (ys.map fun z=>.int .i64 z)∧q ∉ wfs v
def lfAt (l:Int) (ys:List UInt8) (j:Nat):Bool:=match ys[j]? with
  | some y=>leafB l (y.toNat:Int)
  | none=>true
theorem lfAt_get {l:Int} {ys:List UInt8} {j:Nat} (h:j < ys.length):lfAt l ys j=leafB l (ys[j].toNat:Int):=by unfold lfAt; rw [List.getElem?_eq_getElem h]
theorem c_impl_isLog (M:Mem) (x:Int):aCall T0 F_impl_isLog [.int .i64 x] M=some (.bool (decide (0≤x) && decide (x≤6)),M):=by
  rw [aCall_eq T_impl_isLog]; unfold A_impl_isLog C_impl_isLog; simp [c_impl_within]
theorem pow6 {m:Nat} (h:m≤6):(1:Int)≤2 ^ m∧(2:Int) ^ m≤64:=⟨by have:=pow2_pos m; omega,by have:=pow2_le h; omega⟩
theorem c_impl_isLeaf (M:Mem) (l x:Int):aCall T0 F_impl_isLeaf [.int .i64 l,.int .i64 x] M=some (.bool (leafB l x),M):=by
  unfold leafB
  cases h:lgB l with
  | false =>
    have e:(decide (0≤l) && decide (l≤6))=false:=h
    rw [aCall_eq T_impl_isLeaf]; unfold A_impl_isLeaf C_impl_isLeaf; simp [c_impl_isLog,e]
  | true =>
    have e:(decide (0≤l) && decide (l≤6))=true:=h
    obtain ⟨m,rfl,hm⟩:=log_nat h
    have e2:=fun M=>(c_impl_isLog M m).trans (by rw [e])
    have hp:=pow6 hm
    have e1:bshl .i64 1 m=2 ^ m:=by
      unfold bshl
      have h:min (m:Int).toNat IntKind.i64.bits=m:=by show min _ 64=m; omega
      rw [h,wrap_i64 (by omega) (by omega)]
      omega
    have e3:IntKind.i64.wrap ((2:Int) ^ m - 1)=2 ^ m - 1:=wrap_i64 (by omega) (by omega)
    have e4:decide (x≤2 ^ m - 1)=decide (x < 2 ^ m):=by
      by_cases h:x < 2 ^ m
      · rw [decide_eq_true h,decide_eq_true (by omega)]
      · rw [decide_eq_false h,decide_eq_false (by omega)]
    rw [aCall_eq T_impl_isLeaf]; unfold A_impl_isLeaf C_impl_isLeaf; simp [e2,e1,e3,c_impl_within,e4]
set_option maxRecDepth 20000 in
set_option maxHeartbeats 2000000 in
theorem l_impl_isDeep_1 (Z:Mem) (p q:Nat) (l:Int) (v5 v75 v76 v77:V) (a:Option Addr) (c:Nat) (ys:List UInt8) (h:Rep (.sl ty_Byte) Z [.slice a ys.length c] ys) (hp:rd1 Z p 0=some (.int .i64 l)) (hq:Z.length≤q) (hn:ys.length≤1048576) (xs:List Int) (hx:xs.length≤1000000) (X:Mem) (hX:DpI Z q xs X) :
    (∃ (u:Unit) (X':Mem),DpI Z q (xs++bytI ys) X'∧(∀ j,j < ys.length→lfAt l ys j=true)∧lp (aCall T0) K_impl_isDeep_1 L_impl_isDeep_1 [O,.pointer (some ⟨p,0,none⟩),O,O,O,v5,O,.pointer (some ⟨q,0,none⟩),O,O,O,O,O,O,O,O,O,O,O,O,O,O,O,O,O,O,O,O,O,O,O,O,O,O,O,O,O,O,O,O,O,O,O,O,O,O,O,O,O,O,O,O,O,O,O,O,O,O,O,O,O,O,O,O,O,O,O,O,O,O,O,O,O,O,O,v75,v76,v77,O,O,O,O,O,O,O,O,O,O,O,O,O,O,O,O,O,O,O,.slice a ys.length c,.int .i64 ys.length,.int .i64 (0:Nat),O,O,O,O,O,O,O,O,O,O,O,O,O,O,O,O,O,O,O,O] X=lp (aCall T0) K_impl_isDeep_1 L_impl_isDeep_1 [O,.pointer (some ⟨p,0,none⟩),O,O,O,v5,O,.pointer (some ⟨q,0,none⟩),O,O,O,O,O,O,O,O,O,O,O,O,O,O,O,O,O,O,O,O,O,O,O,O,O,O,O,O,O,O,O,O,O,O,O,O,O,O,O,O,O,O,O,O,O,O,O,O,O,O,O,O,O,O,O,O,O,O,O,O,O,O,O,O,O,O,O,v75,v76,v77,O,O,O,O,O,O,O,O,O,O,O,O,O,O,O,O,O,O,O,.slice a ys.length c,.int .i64 ys.length,.int .i64 ys.length,O,O,O,O,O,O,O,O,O,O,O,O,O,O,O,O,O,O,O,O] X') ∨
    ((∃ j,j < ys.length∧lfAt l ys j=false)∧RtB Z (lp (aCall T0) K_impl_isDeep_1 L_impl_isDeep_1 [O,.pointer (some ⟨p,0,none⟩),O,O,O,v5,O,.pointer (some ⟨q,0,none⟩),O,O,O,O,O,O,O,O,O,O,O,O,O,O,O,O,O,O,O,O,O,O,O,O,O,O,O,O,O,O,O,O,O,O,O,O,O,O,O,O,O,O,O,O,O,O,O,O,O,O,O,O,O,O,O,O,O,O,O,O,O,O,O,O,O,O,O,v75,v76,v77,O,O,O,O,O,O,O,O,O,O,O,O,O,O,O,O,O,O,O,.slice a ys.length c,.int .i64 ys.length,.int .i64 (0:Nat),O,O,O,O,O,O,O,O,O,O,O,O,O,O,O,O,O,O,O,O] X)):=by
  have key:=loop_rt (call:=aCall T0) (K:=K_impl_isDeep_1) (L:=L_impl_isDeep_1) (fun j (_:Unit) X=>DpI Z q (xs++bytI (ys.take j)) X) (fun j (_:Unit)=>[O,.pointer (some ⟨p,0,none⟩),O,O,O,v5,O,.pointer (some ⟨q,0,none⟩),O,O,O,O,O,O,O,O,O,O,O,O,O,O,O,O,O,O,O,O,O,O,O,O,O,O,O,O,O,O,O,O,O,O,O,O,O,O,O,O,O,O,O,O,O,O,O,O,O,O,O,O,O,O,O,O,O,O,O,O,O,O,O,O,O,O,O,v75,v76,v77,O,O,O,O,O,O,O,O,O,O,O,O,O,O,O,O,O,O,O,.slice a ys.length c,.int .i64 ys.length,.int .i64 j,O,O,O,O,O,O,O,O,O,O,O,O,O,O,O,O,O,O,O,O]) (lfAt l ys) (RtB Z) (n:=ys.length) () X (by simpa [bytI] using hX) ?_ ?_
  · rw [List.take_length] at key
    exact key
  all_goals
    intro j _ X hj ho ⟨pX,v,hb,hg,hqv⟩
    rw [lfAt_get hj] at ho
    obtain ⟨l0,o0,rfl,_,hrd⟩:=at_Byte (h.mono pX) hj
    have hy:byteV ys[j]=.int .u8 ((ys[j].toNat:Nat):Int):=rfl
    rw [hy] at hrd
    have e6:IntKind.i64.wrap ((j:Int)+1)=j+1:=wrap_i64 (by omega) (by omega)
    have hlf:=fun M=>c_impl_isLeaf M l ((ys[j].toNat:Nat):Int)
    rw [ho] at hlf
    have n1:ys[j].toNat < 256:=UInt8.toNat_lt _
    try rw [bytI_take ys hj,← List.append_assoc]
    have hbl:(xs++bytI (ys.take j)).length≤3000000:=by
      rw [List.length_append]
      unfold bytI
      rw [List.length_map,List.length_take]
      omega
    generalize xs++bytI (ys.take j)=zs at *
    generalize ys[j].toNat=y at *
    have c1:IntKind.i64.wrap (y:Int)=y:=wrap_i64 (by omega) (by omega)
    have hp':=r1_pre pX hp
    have hrq:rd1 X q 0=some v:=by simp [rd1,hb]
  · rw [S_impl_isDeep_1]; unfold B_impl_isDeep_1; simp [apA,hj,hrd,hp',c1,hlf,hrq,zeroCells]
    generalize hy2:appS _ _ _ _ _ _=xhy2
    obtain ⟨a2,X3,rfl,g3,ag,hl3,hw3⟩:=grow_app hg hy2 (List.prefix_append _ _) pX.length_le (by simp) (by simp [GoAm.one]) (by omega) (by omega)
    clear hy2
    have hqX:=get_lt hb
    have hb3:=ag.get (get_pre (List.prefix_append X [(⟨[.int .i64 (y:Int)],1,2⟩:Blk)]) hb) hqv
    have pZ3:Z <+: X3:=ag.pre (pX.trans (List.prefix_append _ _)) hg.ge
    have hqn:q ∉ wfs (.slice a2 (zs.length+1) (zs.length+1)):=fun hm=>by
      rcases hw3 q hm with h | h
      · exact hqv h
      · simp at h; omega
    have hwr:wrn X3 q 0 [.slice a2 (zs.length+1) (zs.length+1)]=some (X3.set q ⟨[.slice a2 (zs.length+1) (zs.length+1)],1,2⟩):=by
      rw [wrn_eq hb3 rfl (by simp) rfl]
      rfl
    simp [apA,hwr,e6]
    refine ⟨_,⟨pf_set hq pZ3,_,gs_of hb3 _,?_,hqn⟩,rfl⟩
    rw [List.length_append,List.map_append]
    exact g3.keep fun b hb=>List.getElem?_set_ne (fun e=>hqn (by rw [e]; exact hb))
  · rw [S_impl_isDeep_1]; unfold B_impl_isDeep_1; simp [apA,hj,hrd,hp',c1,hlf]
    refine ⟨_,_,rfl,?_,pX⟩
    rfl
set_option maxRecDepth 20000 in
set_option maxHeartbeats 2000000 in
theorem l_impl_isDeep_0 (Z:Mem) (p q:Nat) (l:Int) (v5:V) (a:Option Addr) (c:Nat) (one:List ty_Block.D) (h:Rep (.sl ty_Block) Z [.slice a one.length c] one) (tb:List Int) (aT:Option Addr) (cT:Nat) (hT:Rep (.sl ty_Int) Z [.slice aT tb.length cT] tb) (hl:one.length=tb.length) (hp:rd1 Z p 0=some (.int .i64 l)) (hp1:rd1 Z p 1=some (.slice aT tb.length cT)) (hq:Z.length≤q) (hn:one.length≤256) (hd:∀ b ∈ one,List.length (α:=UInt8) b.2.2≤1000) (X:Mem) (hX:DpI Z q [] X) :
    (∃ (u:Unit) (X':Mem),DpI Z q (posD one) X'∧(∀ i,i < one.length→dkB l tb one i=true)∧lp (aCall T0) K_impl_isDeep_0 L_impl_isDeep_0 (FdI p q v5 a one.length c 0) X=lp (aCall T0) K_impl_isDeep_0 L_impl_isDeep_0 (FdI p q v5 a one.length c one.length) X') ∨
    ((∃ i,i < one.length∧dkB l tb one i=false)∧RtB Z (lp (aCall T0) K_impl_isDeep_0 L_impl_isDeep_0 (FdI p q v5 a one.length c 0) X)):=by
  have key:=loop_rt (call:=aCall T0) (K:=K_impl_isDeep_0) (L:=L_impl_isDeep_0) (fun i (_:Unit) X=>DpI Z q (posD (one.take i)) X) (fun i (_:Unit)=>FdI p q v5 a one.length c i) (dkB l tb one) (RtB Z) (n:=one.length) () X (by simpa [posD] using hX) ?_ ?_
  · rw [List.take_length] at key
    exact key
  all_goals
    intro i _ X hi ho hX
    rw [dkB_get hi] at ho
    have pX:=hX.1
    obtain ⟨l0,o0,u,rfl,_,_,_,hrn,_,_,hu,_⟩:=at_Block h hi
    obtain ⟨ub,uc,rfl⟩:=hu.slen
    have hrX:=rn_pre pX hrn
    obtain ⟨lt,ot,rfl,_,hrt⟩:=at_Int hT (i:=i) (by omega)
    have htg:tb[i]'(by omega)=tb.getD i 0:=by rw [List.getD_eq_getElem?_getD,List.getElem?_eq_getElem (by omega)]; rfl
    rw [htg] at hrt
    have hdi:=hd _ (List.getElem_mem hi)
    have hpl:=posD_len (one:=one.take i) (N:=1000) (fun b hb=>hd b (List.mem_of_mem_take hb))
    rw [List.length_take] at hpl
    have e6:IntKind.i64.wrap ((i:Int)+1)=i+1:=wrap_i64 (by omega) (by omega)
    have iT:i < tb.length:=by omega
    have iT2:(i:Int) < (tb.length:Int):=by omega
    try rw [posD_take one hi]
    have hxs:(posD (one.take i)).length≤1000000:=by omega
    generalize posD (one.take i)=xs at *
    generalize tb.getD i 0=tg at *
    generalize hbi:one[i]=b at *
    obtain ⟨b1,b2,b3⟩:=b
    simp only at hrX hrn hu ho hdi ⊢
    have hp':=fun N:Mem=>r1_pre (pX.trans (List.prefix_append X N)) hp
    have hp1':=fun N:Mem=>r1_pre (pX.trans (List.prefix_append X N)) hp1
    have hrt':=fun N:Mem=>r1_pre (pX.trans (List.prefix_append X N)) hrt
    have hXb:DpI Z q xs (X++[(⟨[.int .i64 b1,.int .i64 b2,.slice ub (List.length (α:=UInt8) b3) uc],1,2⟩:Blk)]):=by
      obtain ⟨_,v,w1,w2,w3⟩:=hX
      exact ⟨pX.trans (List.prefix_append _ _),v,get_pre (List.prefix_append _ _) w1,w2.pre (List.prefix_append _ _),w3⟩
    have inner:=l_impl_isDeep_1 Z p q l v5 (.slice (some ⟨l0,o0,none⟩) one.length c) (.int .i64 one.length) (.int .i64 i) ub uc b3 hu hp hq (by omega) xs hxs _ hXb
    simp only [Int.natCast_zero,Int.ofNat_zero] at inner
  · simp only [Bool.and_eq_true,decide_eq_true_eq] at ho
    obtain ⟨⟨h1,h2⟩,h3⟩:=ho
    subst h1
    subst h2
    rcases inner with ⟨_,X',hX',_,e⟩ | ⟨⟨j,hj,hf⟩,_⟩
    · refine ⟨(),X',hX',?_⟩
      rw [S_impl_isDeep_0]; unfold B_impl_isDeep_0; simp [apA,hi,hrX,hp',hp1',hrt',iT,iT2,rd1_K,rdJ_ok,zeroCells]
      simp [apA,e]
      rw [S_impl_isDeep_1]; unfold B_impl_isDeep_1; simp [apA,e6]
      try rfl
    · exfalso
      have:=List.all_eq_true.1 h3 _ (List.getElem_mem hj)
      rw [lfAt_get hj] at hf
      rw [hf] at this
      cases this
  · by_cases h1:b1=(i:Int)
    · subst h1
      by_cases h2:b2=tg
      · subst h2
        rcases inner with ⟨_,X',hX',hall,e⟩ | ⟨_,fr,X',e,q2,q3⟩
        · exfalso
          have:(List.all (α:=UInt8) b3 fun y=>leafB l (y.toNat:Int))=true:=List.all_eq_true.2 fun y hy=>by
            obtain ⟨j,hj,rfl⟩:=List.getElem_of_mem hy
            have:=hall j hj
            rw [lfAt_get hj] at this
            exact this
          simp [this] at ho
        · rw [S_impl_isDeep_0]; unfold B_impl_isDeep_0; simp [apA,hi,hrX,hp',hp1',hrt',iT,iT2,rd1_K,rdJ_ok,zeroCells]
          simp [apA,e]
          exact ⟨fr,X',rfl,q2,q3⟩
      · rw [S_impl_isDeep_0]; unfold B_impl_isDeep_0; simp [apA,hi,hrX,hp',hp1',hrt',iT,iT2,rd1_K,rdJ_ok,zeroCells,h2]
        refine ⟨_,_,rfl,?_,pX.trans (List.prefix_append _ _)⟩
        rfl
    · rw [S_impl_isDeep_0]; unfold B_impl_isDeep_0; simp [apA,hi,hrX,hp',hp1',hrt',iT,iT2,rd1_K,rdJ_ok,zeroCells,h1]
      refine ⟨_,_,rfl,?_,pX.trans (List.prefix_append _ _)⟩
      rfl
theorem grow_at {K:Nat} {X:Mem} {v:V} {pos:List Int} (h:Grow K 1 X v pos.length (pos.map fun z=>.int .i64 z)) {i:Nat} (hi:i < pos.length):∃ l,v=.slice (some ⟨l,0,none⟩) pos.length pos.length∧rd1 X l i=some (.int .i64 (pos.getD i 0)):=by
  rcases h.2 with ⟨_,h0⟩ | ⟨l,_,rfl,hb⟩
  · omega
  · refine ⟨l,rfl,?_⟩
    unfold rd1
    rw [hb,List.getD_eq_getElem?_getD]
    simp [hi]
theorem c_impl_isDeep_1 (X:Mem) (q:Nat) (v:V) (pos:List Int) (K:Nat) (hb:X[q]?=some ⟨[v],1,2⟩) (hg:Grow K 1 X v pos.length (pos.map fun z=>.int .i64 z)) (hn:pos.length≤1000000) (cs:List V) (b:ty_Block.D) (h:Rep ty_Block X cs b) (h0:0≤b.1) :
    aCall T0 F_impl_isDeep_1 [.agg cs.toArray,.pointer (some ⟨q,0,none⟩)] X=some (.bool (!kpB pos b),X):=by
  obtain ⟨u,rfl,w0,w1,qu⟩:=rep_g_Block h
  obtain ⟨ua,uc,rfl⟩:=qu.slen
  have hrq:=fun N:Mem=>r1_pre (List.prefix_append X N) (show rd1 X q 0=some v by simp [rd1,hb])
  obtain ⟨b1,b2,b3⟩:=b
  simp only at h0 hrq ⊢
  unfold kpB
  obtain ⟨t,rfl⟩:∃ t:Nat,b1=(t:Int):=⟨Int.toNat b1,(show ∀ z:Int,0≤z→z=((Int.toNat z:Nat):Int) from fun z hz=>by omega) b1 h0⟩
  have ht:Int.toNat (t:Int)=t:=by omega
  simp only [ht]
  by_cases h1:t < pos.length
  · have h1':(t:Int) < (pos.length:Int):=by omega
    have h1'':¬ (pos.length:Int)≤(t:Int):=by omega
    obtain ⟨l,rfl,hr⟩:=grow_at hg h1
    have hr':=fun N:Mem=>r1_pre (List.prefix_append X N) hr
    generalize pos.getD t 0=z at *
    by_cases h2:z=b2
    · subst h2
      rw [decide_eq_true h1',decide_eq_true rfl]
      rw [aCall_eq T_impl_isDeep_1]; unfold A_impl_isDeep_1 C_impl_isDeep_1; simp [hrq,hr',h1,h1',h1'']
    · rw [decide_eq_true h1',decide_eq_false h2]
      rw [aCall_eq T_impl_isDeep_1]; unfold A_impl_isDeep_1 C_impl_isDeep_1; simp [hrq,hr',h1,h1',h1'',h2]
  · have h1':¬ (t:Int) < (pos.length:Int):=by omega
    have h1'':(pos.length:Int)≤(t:Int):=by omega
    obtain ⟨a,rfl⟩:=hg.shape
    rw [decide_eq_false h1']
    rw [aCall_eq T_impl_isDeep_1]; unfold A_impl_isDeep_1 C_impl_isDeep_1; simp [hrq,h1,h1',h1'']
def OrV (M:Mem) (o:Option (List ty_Block.D)) (p:V × Mem):Prop:=∃ r L,p.1=.tuple #[r,.bool o.isSome]∧M <+: p.2∧Gr (.sl ty_Block) p.2 [r] (o.getD []) L∧L.Nodup∧∀ j ∈ L,M.length≤j
theorem c_impl_isBlock (M:Mem) (cs:List V) (b:ty_Block.D) (h:Rep ty_Block M cs b) (l w:Int):aCall T0 F_impl_isBlock [.agg cs.toArray,.int .i64 l,.int .i64 w] M=some (.bool (blockB l w b),M):=by
  obtain ⟨u,rfl,w0,w1,hr⟩:=rep_g_Block h
  obtain ⟨a,c,rfl⟩:=hr.slen
  have e2:=fun M=>c_impl_isLeaf M l b.2.1
  have e3:=fun M=>c_impl_within M w 1 200
  have e4:=fun M=>c_impl_within M b.1 0 255
  have hb:blockB l w b=(leafB l b.2.1 && wdB w && bidB b.1 && decide ((List.length (α:=UInt8) b.2.2:Int)=w)):=by
    unfold blockB leafB
    cases lgB l <;> cases wdB w <;> cases bidB b.1 <;> simp
  rw [hb]
  clear hb
  cases h4:leafB l b.2.1 with
  | false=>rw [aCall_eq T_impl_isBlock]; unfold A_impl_isBlock C_impl_isBlock; simp [e2,h4]
  | true =>
    cases h5:wdB w with
    | false =>
      have h5:(decide (1≤w) && decide (w≤200))=false:=h5
      rw [aCall_eq T_impl_isBlock]; unfold A_impl_isBlock C_impl_isBlock; simp [e2,h4,e3,h5]
    | true =>
      have h5:(decide (1≤w) && decide (w≤200))=true:=h5
      cases h6:bidB b.1 with
      | false =>
        have h6:(decide (0≤b.1) && decide (b.1≤255))=false:=h6
        rw [aCall_eq T_impl_isBlock]; unfold A_impl_isBlock C_impl_isBlock; simp [e2,h4,e3,h5,e4,h6]
      | true =>
        have h6:(decide (0≤b.1) && decide (b.1≤255))=true:=h6
        rw [aCall_eq T_impl_isBlock]; unfold A_impl_isBlock C_impl_isBlock; simp [e2,h4,e3,h5,e4,h6]
theorem l_impl_areBlocks_0 (M:Mem) (a:Option Addr) (c:Nat) (xs:List ty_Block.D) (l w:Int) (h:Rep (.sl ty_Block) M [.slice a xs.length c] xs) (hn:xs.length≤1048576) :
    (∃ X',M <+: X'∧(∀ i,i < xs.length→stepB l w xs i=true)∧lp (aCall T0) K_impl_areBlocks_0 L_impl_areBlocks_0 [.slice a xs.length c,.int .i64 l,.int .i64 w,O,O,O,O,O,O,.slice a xs.length c,.int .i64 xs.length,.int .i64 (0:Nat),O,O,O,O,O,O,O,O,O,O,O,O,O,O,O,O,O,O,O,O,O,O,O,O,O,O,O,O,O,O,O] M=lp (aCall T0) K_impl_areBlocks_0 L_impl_areBlocks_0 [.slice a xs.length c,.int .i64 l,.int .i64 w,O,O,O,O,O,O,.slice a xs.length c,.int .i64 xs.length,.int .i64 xs.length,O,O,O,O,O,O,O,O,O,O,O,O,O,O,O,O,O,O,O,O,O,O,O,O,O,O,O,O,O,O,O] X') ∨
    ((∃ i,i < xs.length∧stepB l w xs i=false)∧∀ k,thenF M [.tmp 6] (thenS (blockR 0 (lp (aCall T0) K_impl_areBlocks_0 L_impl_areBlocks_0 [.slice a xs.length c,.int .i64 l,.int .i64 w,O,O,O,O,O,O,.slice a xs.length c,.int .i64 xs.length,.int .i64 (0:Nat),O,O,O,O,O,O,O,O,O,O,O,O,O,O,O,O,O,O,O,O,O,O,O,O,O,O,O,O,O,O,O] M)) (aCall T0) k)=some (.bool false,M)):=by
  have key:=loop_ok (call:=aCall T0) (K:=K_impl_areBlocks_0) (L:=L_impl_areBlocks_0) (fun _ Y=>M <+: Y) (fun i=>[.slice a xs.length c,.int .i64 l,.int .i64 w,O,O,O,O,O,O,.slice a xs.length c,.int .i64 xs.length,.int .i64 i,O,O,O,O,O,O,O,O,O,O,O,O,O,O,O,O,O,O,O,O,O,O,O,O,O,O,O,O,O,O,O]) (stepB l w xs) (n:=xs.length) (M0:=M) (rs:=[.tmp 6]) (k0:=0) (a:=.bool false) M (List.prefix_refl _) ?_ ?_
  · rcases key with ⟨X',hp,h1,h2⟩ | h
    · exact .inl ⟨X',hp,h1,h2⟩
    · exact .inr h
  · intro i Y hi hq hY
    have e6:IntKind.i64.wrap ((i:Int)+1)=i+1:=wrap_i64 (by omega) (by omega)
    have e8:IntKind.i64.wrap 1=1:=wrap_i64 (by omega) (by omega)
    obtain ⟨b,o,u,rfl,q1,q2,q3,q4,_,_,qu,qr⟩:=at_Block (h.mono hY) hi
    obtain ⟨ua,uc,rfl⟩:=qu.slen
    have hc:=fun N:Mem=>c_impl_isBlock (Y++N) _ _ (qr.mono (List.prefix_append Y N)) l w
    refine ⟨Y++[⟨[.int .i64 xs[i].1,.int .i64 xs[i].2.1,.slice ua (List.length (α:=UInt8) xs[i].2.2) uc],1,2⟩],hY.trans (List.prefix_append _ _),?_⟩
    rcases Nat.eq_zero_or_pos i with h0 | h0
    · subst h0
      rw [stepB_zero hi] at hq
      simp only [Int.natCast_zero,Int.ofNat_zero,Nat.zero_mul,Nat.add_zero] at *
      rw [S_impl_areBlocks_0]; unfold B_impl_areBlocks_0; simp [apA,hi,q4,hc,hq,e6,e8]
    · rw [stepB_pos hi h0,Bool.and_eq_true] at hq
      have hi':(0:Int) < (i:Int):=by omega
      have e7:IntKind.i64.wrap ((i:Int) - 1)=((i - 1:Nat):Int):=by rw [wrap_i64 (by omega) (by omega)]; omega
      obtain ⟨b',o',u',e,q1',_⟩:=at_Block (h.mono hY) (i:=i - 1) (by omega)
      cases e
      have q1':=fun N:Mem=>rd1_old (N:=N) q1'
      have hlt:=of_decide_eq_true hq.2
      have hge:¬ (xs[i].1≤(xs[i - 1]'(by omega)).1):=Int.not_le.2 hlt
      have hi1:i - 1 < xs.length:=by omega
      rw [S_impl_areBlocks_0]; unfold B_impl_areBlocks_0; simp [apA,hi,q4,hc,hq.1,e6,hi',h0,e7,q1',hge,hi1]
  · intro i Y hi hq hY k
    have e6:IntKind.i64.wrap ((i:Int)+1)=i+1:=wrap_i64 (by omega) (by omega)
    have e8:IntKind.i64.wrap 1=1:=wrap_i64 (by omega) (by omega)
    obtain ⟨b,o,u,rfl,q1,q2,q3,q4,_,_,qu,qr⟩:=at_Block (h.mono hY) hi
    obtain ⟨ua,uc,rfl⟩:=qu.slen
    have hc:=fun N:Mem=>c_impl_isBlock (Y++N) _ _ (qr.mono (List.prefix_append Y N)) l w
    have gb:=fun (N:Mem) b=>gc_boolp (hY.trans (List.prefix_append Y N)) b
    rcases Nat.eq_zero_or_pos i with h0 | h0
    · subst h0
      rw [stepB_zero hi] at hq
      simp only [Int.natCast_zero,Int.ofNat_zero,Nat.zero_mul,Nat.add_zero] at *
      rw [S_impl_areBlocks_0]; unfold B_impl_areBlocks_0; simp [apA,hi,q4,hc,hq,e6,e8,gb]
    · rw [stepB_pos hi h0] at hq
      have hi':(0:Int) < (i:Int):=by omega
      have e7:IntKind.i64.wrap ((i:Int) - 1)=((i - 1:Nat):Int):=by rw [wrap_i64 (by omega) (by omega)]; omega
      obtain ⟨b',o',u',e,q1',_⟩:=at_Block (h.mono hY) (i:=i - 1) (by omega)
      cases e
      have q1':=fun N:Mem=>rd1_old (N:=N) q1'
      have hi1:i - 1 < xs.length:=by omega
      cases hb:blockB l w xs[i] with
      | false =>
        rw [hb] at hc
        rw [S_impl_areBlocks_0]; unfold B_impl_areBlocks_0; simp [apA,hi,q4,hc,e6,gb]
      | true =>
        rw [hb] at hc
        rw [hb,Bool.true_and] at hq
        have hlt:=of_decide_eq_false hq
        have hge:xs[i].1≤(xs[i - 1]'(by omega)).1:=Int.not_lt.1 hlt
        rw [S_impl_areBlocks_0]; unfold B_impl_areBlocks_0; simp [apA,hi,q4,hc,e6,hi',h0,e7,q1',hge,hi1,gb]
theorem c_impl_areBlocks (M:Mem) (v:V) (xs:List ty_Block.D) (l w:Int) (h:Rep (.sl ty_Block) M [v] xs) (hn:xs.length≤1048576):aCall T0 F_impl_areBlocks [v,.int .i64 l,.int .i64 w] M=some (.bool (blocksB l w xs),M):=by
  obtain ⟨a,c,rfl⟩:=h.slen
  have e1:=fun M=>c_impl_isLog M l
  have e2:=fun M=>c_impl_within M w 1 200
  unfold blocksB
  rcases l_impl_areBlocks_0 M a c xs l w h hn with ⟨X',hp,ha,e⟩ | ⟨hx,e⟩
  · simp only [Int.natCast_zero,Int.ofNat_zero] at e
    rw [rall_all ha,Bool.and_true]
    have gb:=fun b=>gc_boolp hp b
    unfold lgB wdB
    cases h1:(decide (0≤l) && decide (l≤6)) with
    | false =>
      rw [aCall_eq T_impl_areBlocks]; unfold A_impl_areBlocks C_impl_areBlocks; simp [apA,e]
      rw [S_impl_areBlocks_0]; unfold B_impl_areBlocks_0; simp [apA,e1,h1,gb]
    | true =>
      rw [aCall_eq T_impl_areBlocks]; unfold A_impl_areBlocks C_impl_areBlocks; simp [apA,e]
      rw [S_impl_areBlocks_0]; unfold B_impl_areBlocks_0; simp [apA,e1,h1,e2,gb]
  · simp only [Int.natCast_zero,Int.ofNat_zero] at e
    rw [rall_not hx,Bool.and_false]
    rw [aCall_eq T_impl_areBlocks]; unfold A_impl_areBlocks C_impl_areBlocks; simp [apA,e]
theorem c_impl_isStash (M:Mem) (v:V) (xs:List ty_Block.D) (l w:Int) (h:Rep (.sl ty_Block) M [v] xs) (hn:xs.length≤1048576):aCall T0 F_impl_isStash [v,.int .i64 l,.int .i64 w] M=some (.bool (stashB l w xs),M):=by
  have e1:=c_impl_areBlocks M v xs l w h hn
  obtain ⟨a,c,rfl⟩:=h.slen
  unfold stashB
  by_cases hs:xs.length≤128
  · have hs':(xs.length:Int)≤128:=by omega
    rw [aCall_eq T_impl_isStash]; unfold A_impl_isStash C_impl_isStash; simp [apA,e1,hs,hs']
  · have hs':¬ (xs.length:Int)≤128:=by omega
    rw [aCall_eq T_impl_isStash]; unfold A_impl_isStash C_impl_isStash; simp [apA,e1,hs,hs']
theorem sl_pre {M X:Mem} {w:Nat} {v:V} {r:Nat × List V} (hp:M <+: X) (h:sliceCells M w v=some r):sliceCells X w v=some r:=by
  unfold sliceCells at h ⊢
  split at h
  · exact h
  · split at h
    · rename_i h0; rw [if_pos h0]; exact h
    · rename_i h0
      rw [if_neg h0]
      obtain ⟨y,hy,rfl⟩:=Option.map_eq_some_iff.1 h
      rw [rn_pre hp hy]
      rfl
  · cases h
def ClB (M:Mem) (zs:List (List V × ty_Block.D)) (p:V × Mem):Prop:=M <+: p.2∧((zs=[]∧∃ La,Gr (.sl ty_Block) p.2 [p.1] [] La∧La.Nodup∧∀ l ∈ La,M.length≤l)∨zs ≠ []∧∃ l,p.1=.slice (some ⟨l,0,none⟩) zs.length zs.length∧M.length≤l∧p.2[l]?=some ⟨Zl zs,3,2⟩)
theorem c_clone_Block (M0 M:Mem) (hp0:M0 <+: M) (v:V) (zs:List (List V × ty_Block.D)) (hv:∃ a c,v=.slice a zs.length c) (h2:∀ z ∈ zs,Rep ty_Block M0 z.1 z.2) (h3:sliceCells M0 3 v=some (zs.length,Zl zs)) (hn:zs.length≤1048576) :
    Sat (aCall T0 F_slices_Clone_impl_Block_impl_Block [v] M) (ClB M zs):=by
  have hc:∀ N:Mem,sliceCells (M++N) 3 v=some (zs.length,Zl zs):=fun N=>sl_pre (hp0.trans (List.prefix_append M N)) h3
  obtain ⟨a,c,rfl⟩:=hv
  have hfl:(Zl zs).length=zs.length * 3:=by
    unfold Zl
    rw [flat_len (w:=3)]
    · simp
    · intro c hc
      obtain ⟨z,hz,rfl⟩:=List.mem_map.1 hc
      exact (h2 z hz).len
  have hone:(Zl zs).all one=true:=by
    unfold Zl
    rw [List.all_flatten,List.all_eq_true]
    intro c hc
    obtain ⟨z,hz,rfl⟩:=List.mem_map.1 hc
    exact (h2 z hz).one
  cases a with
  | none =>
    have hx:zs=[]:=by
      cases zs with
      | nil=>rfl
      | cons z zs=>simp [sliceCells] at h3
    subst hx
    rw [aCall_eq T_slices_Clone_impl_Block_impl_Block]; unfold A_slices_Clone_impl_Block_impl_Block C_slices_Clone_impl_Block_impl_Block; simp [apA]
    exact ⟨_,rfl,List.prefix_refl _,.inl ⟨rfl,[],Gr.nil,by simp,by simp⟩⟩
  | some a =>
    by_cases h0:zs=[]
    · subst h0
      have hz:Zl []=[]:=rfl
      rw [hz] at hc
      simp only [List.length_nil] at hc
      rw [aCall_eq T_slices_Clone_impl_Block_impl_Block]; unfold A_slices_Clone_impl_Block_impl_Block C_slices_Clone_impl_Block_impl_Block; simp [apA,hc,zeroCells,appS]
      exact ⟨(_,M++[⟨[],3,2⟩]),rfl,List.prefix_append _ _,.inl ⟨rfl,[M.length],gr0 (t:=ty_Block) (by simp [Ty.w]),by simp,by simp⟩⟩
    · have hpos:=List.length_pos_iff.2 h0
      rw [aCall_eq T_slices_Clone_impl_Block_impl_Block]; unfold A_slices_Clone_impl_Block_impl_Block C_slices_Clone_impl_Block_impl_Block; simp [apA,hc,zeroCells]
      generalize hy:appS _ _ _ _ _ _=xhy
      have hg1:Grow M.length 3 (M++[(⟨[],3,2⟩:Blk)]) (.slice (some ⟨M.length,0,none⟩) 0 0) 0 []:=Grow.new (Nat.le_refl _) rfl
      obtain ⟨a3,X3,rfl,g3,ag,l3⟩:=hg1.at hy (List.prefix_refl _) (by simp) hfl hpos hone (by omega) (by omega)
      clear hy
      simp [apA]
      obtain ⟨_,⟨e,e0⟩ | ⟨l,hl,e,hb⟩⟩:=g3
      · cases e
      · cases e
        simp only [Nat.zero_add,List.nil_append] at hb ⊢
        exact ⟨_,rfl,ag.pre (List.prefix_append _ _) (fun b hb=>hg1.ge b hb),.inr ⟨h0,l,rfl,hl,hb⟩⟩
theorem rep_hdz {t:Ty} {M:Mem} {v:V} {xs:List t.D} (h:Rep (.sl t) M [v] xs):∃ zs:List (List V × t.D),zs.map (·.2)=xs∧(∀ z ∈ zs,Rep t M z.1 z.2)∧sliceCells M t.w v=some (xs.length,(zs.map (·.1)).flatten):=by
  rcases h with ⟨e,rfl⟩ | ⟨l,o,c,blk,css,e,h2,h3,h4,h5,h6,h7⟩
  · cases e
    exact ⟨[],rfl,by simp,rfl⟩
  · cases e
    refine ⟨css.zip xs,List.map_snd_zip (by omega),?_,?_⟩
    · intro z hz
      obtain ⟨i,hi,rfl⟩:=List.getElem_of_mem hz
      rw [List.length_zip] at hi
      rw [List.getElem_zip]
      exact h6 i _ _ (List.getElem?_eq_getElem (by omega)) (List.getElem?_eq_getElem (by omega))
    · have hm:((css.zip xs).map (·.1))=css:=List.map_fst_zip (by omega)
      rw [hm]
      have hl:css.flatten.length=xs.length * t.w:=by
        rw [flat_len (w:=t.w),h5]
        intro ds hd
        obtain ⟨i,hi,rfl⟩:=List.getElem_of_mem hd
        exact (h6 i css[i] (xs[i]'(by omega)) (by simp) (by simp)).len
      by_cases h0:xs.length * t.w=0
      · have:css.flatten=[]:=List.length_eq_zero_iff.1 (by omega)
        simp [sliceCells,h0,this]
      · obtain ⟨r,hr⟩:=h7
        have hne:xs ≠ []:=by rintro rfl; simp at h0
        have hle:o+xs.length * t.w≤blk.cells.length:=by
          have:=congrArg List.length hr
          rw [List.length_append,List.length_drop,hl] at this
          omega
        have hst:blk.st=1∨blk.st=2:=by
          rcases h3 with h | h | h
          · exact .inl h
          · exact .inr h
          · exact absurd h hne
        simp only [sliceCells,h0,if_false,rdn,h2]
        rw [if_pos ⟨hst,hle⟩,← hr,← hl,List.take_left]
        rfl
theorem zl_of {M:Mem} {v:V} {xs:List ty_Block.D} (h:Rep (.sl ty_Block) M [v] xs):∃ zs:List (List V × ty_Block.D),zs.map (·.2)=xs∧(∃ a c,v=.slice a zs.length c)∧(∀ z ∈ zs,Rep ty_Block M z.1 z.2)∧sliceCells M 3 v=some (zs.length,Zl zs):=by
  obtain ⟨zs,h1,h2,h3⟩:=rep_hdz h
  have hl:xs.length=zs.length:=by rw [← h1]; simp
  rw [hl] at h3
  obtain ⟨a,c,rfl⟩:=h.slen
  exact ⟨zs,h1,⟨a,c,by rw [hl]⟩,h2,h3⟩
def CkI (M:Mem) (l:Nat) (zs:List (List V × ty_Block.D)) (i:Nat) (X:Mem):Prop :=
  ∃ (ds:List (List V)) (Ls:List (List Nat)),M <+: X∧X[l]?=some ⟨ds.flatten++Zl (zs.drop i),3,2⟩∧ds.length=i∧Ls.length=i∧(∀ (k:Nat) (d:List V) (z:List V × ty_Block.D) (K:List Nat),ds[k]?=some d→zs[k]?=some z→Ls[k]?=some K→Gr ty_Block X d z.2 K)∧(l :: Ls.flatten).Nodup∧∀ j ∈ Ls.flatten,M.length≤j
theorem Zl_cons (z:List V × ty_Block.D) (zs:List (List V × ty_Block.D)):Zl (z :: zs)=z.1++Zl zs:=by simp [Zl]
theorem splice_mid (A:List V) (x y u w:V) (B:List V):splice (A++([x,y,u]++B)) (A.length+2) [w]=A++([x,y,w]++B):=by
  rw [splice1 (by simp),List.set_append_right _ _ (by omega)]
  have:A.length+2 - A.length=2:=by omega
  rw [this]
  rfl
theorem l_impl_cloneBlocks_0 (M:Mem) (l:Nat) (zs:List (List V × ty_Block.D)) (hl:M.length≤l) (hz:∀ z ∈ zs,Rep ty_Block M z.1 z.2) (hn:zs.length≤1048576) (hs:∀ z ∈ zs,List.length (α:=UInt8) z.2.2.2≤1048576) (Z:Mem) (hZ:CkI M l zs 0 Z) :
    ∃ (u:Unit) (X':Mem),CkI M l zs zs.length X'∧lp (aCall T0) K_impl_cloneBlocks_0 L_impl_cloneBlocks_0 [O,O,O,.slice (some ⟨l,0,none⟩) zs.length zs.length,O,O,O,O,.slice (some ⟨l,0,none⟩) zs.length zs.length,.int .i64 zs.length,.int .i64 (0:Nat),O,O,O,O,O,O,O,O,O,O,O,O,O] Z=lp (aCall T0) K_impl_cloneBlocks_0 L_impl_cloneBlocks_0 [O,O,O,.slice (some ⟨l,0,none⟩) zs.length zs.length,O,O,O,O,.slice (some ⟨l,0,none⟩) zs.length zs.length,.int .i64 zs.length,.int .i64 zs.length,O,O,O,O,O,O,O,O,O,O,O,O,O] X':=by
  refine loop_to (call:=aCall T0) (K:=K_impl_cloneBlocks_0) (L:=L_impl_cloneBlocks_0) (fun i (_:Unit) X=>CkI M l zs i X) (fun i (_:Unit)=>[O,O,O,.slice (some ⟨l,0,none⟩) zs.length zs.length,O,O,O,O,.slice (some ⟨l,0,none⟩) zs.length zs.length,.int .i64 zs.length,.int .i64 i,O,O,O,O,O,O,O,O,O,O,O,O,O]) (n:=zs.length) ?_ 0 () Z (by omega) hZ
  intro i _ X hi ⟨ds,Ls,pX,hb,hd,hL,hg,nd,hge⟩
  have e6:IntKind.i64.wrap ((i:Int)+1)=i+1:=wrap_i64 (by omega) (by omega)
  have hzm:=List.getElem_mem hi
  have hR:=hz _ hzm
  have hsz:=hs _ hzm
  obtain ⟨u,hu,w0,w1,qu⟩:=rep_g_Block hR
  have hdr:zs.drop i=zs[i] :: zs.drop (i+1):=List.drop_eq_getElem_cons hi
  rw [hdr,Zl_cons,hu] at hb
  have hdl:ds.flatten.length=i * 3:=by
    rw [flat_len (w:=3),hd]
    intro c hc
    obtain ⟨k,hk,rfl⟩:=List.getElem_of_mem hc
    exact (hg k _ (zs[k]'(by omega)) (Ls[k]'(by omega)) (by simp) (by simp) (by simp)).len
  generalize hzi:zs[i]=z at *
  obtain ⟨z1,b1,b2,b3⟩:=z
  simp only at hu w0 w1 qu hsz hb hR
  subst hu
  have hl3:∀ u:V,(ds.flatten++([(.int .i64 b1:V),.int .i64 b2,u]++Zl (zs.drop (i+1)))).length=i * 3+3+(Zl (zs.drop (i+1))).length:=fun u=>by
    rw [List.length_append,hdl,List.length_append]
    simp only [List.length_cons,List.length_nil]
    omega
  have hrd:rdn X l (i * 3) 3=some [.int .i64 b1,.int .i64 b2,u]:=by
    simp only [rdn,hb]
    rw [if_pos (by rw [hl3]; refine ⟨by simp,by omega⟩),List.drop_left' hdl]
    rfl
  have hrd':=fun N:Mem=>rn_pre (List.prefix_append X N) hrd
  have s1:=clone_sl (M:=X++[(⟨[.int .i64 b1,.int .i64 b2,u],1,2⟩:Blk)]) T_bytes_Clone (t:=.u8) fl_Byte rfl (qu.mono (pX.trans (List.prefix_append _ _))) (by omega) (by omega)
  obtain ⟨ua,uc,rfl⟩:=qu.slen
  have hlX:=get_lt hb
  rw [S_impl_cloneBlocks_0]; unfold B_impl_cloneBlocks_0; simp [apA,hi,hrd,hrd',zeroCells,rdJ_ok,rd1_K]
  generalize hx:aCall T0 F_bytes_Clone _ _=xhx
  obtain ⟨w1',X3,rfl,K2,p3',gb,ndb,geb⟩:=of_call hx s1
  clear hx
  simp only at p3' gb geb
  have p3:X <+: X3:=(List.prefix_append _ _).trans p3'
  obtain ⟨a7,rfl⟩:=gb.shape
  have hb3:=get_pre p3 hb
  have hwr:wrn X3 l (i * 3+2) [.slice a7 (List.length (α:=UInt8) b3) (List.length (α:=UInt8) b3)]=some (X3.set l ⟨ds.flatten++([.int .i64 b1,.int .i64 b2,.slice a7 (List.length (α:=UInt8) b3) (List.length (α:=UInt8) b3)]++Zl (zs.drop (i+1))),3,2⟩):=by
    simp only [wrn,hb3]
    rw [if_pos (by rw [hl3]; refine ⟨by simp,by simp only [List.length_cons,List.length_nil]; omega,rfl⟩),← hdl,splice_mid]
  simp [apA,hi,hwr,e6]
  have hlK:l ∉ K2:=fun hm=>by have:=geb l hm; simp at this; omega
  have hlt:∀ K ∈ Ls,∀ j ∈ K,j < X.length:=by
    intro K hK j hj
    obtain ⟨k,hk,rfl⟩:=List.getElem_of_mem hK
    exact (hg k (ds[k]'(by omega)) (zs[k]'(by omega)) _ (by simp) (by simp) (by simp)).lt j hj
  have hnd:=List.nodup_cons.1 nd
  refine ⟨_,⟨ds++[[.int .i64 b1,.int .i64 b2,.slice a7 (List.length (α:=UInt8) b3) (List.length (α:=UInt8) b3)]],Ls++[K2],pf_set hl (pX.trans p3),?_,by simp [hd],by simp [hL],?_,?_,?_⟩,rfl⟩
  · rw [gs_of hb3]; simp
  · intro k d z K hdk hzk hKk
    by_cases hk:k < i
    · rw [List.getElem?_append_left (by omega)] at hdk hKk
      have g:=hg k d z K hdk hzk hKk
      refine (g.grow p3).set _ (fun hm=>hnd.1 (List.mem_flatten.2 ⟨K,List.mem_of_getElem? hKk,hm⟩))
    · have hki:k=i:=by
        have:=(List.getElem?_eq_some_iff.1 hdk).1
        simp at this
        omega
      subst hki
      rw [List.getElem?_append_right (by omega)] at hdk hKk
      simp [hd] at hdk
      simp [hL] at hKk
      rw [List.getElem?_eq_getElem hi,hzi] at hzk
      cases hzk
      subst hdk
      subst hKk
      exact gr_Block (x:=(b1,b2,b3)) w0 w1 (gb.set _ hlK)
  · rw [List.flatten_append,List.flatten_cons,List.flatten_nil,List.append_nil]
    refine List.nodup_cons.2 ⟨fun hm=>?_,List.nodup_append.2 ⟨hnd.2,ndb,fun a ha b hb2 e=>?_⟩⟩
    · rcases List.mem_append.1 hm with h | h
      · exact hnd.1 h
      · exact hlK h
    · subst e
      obtain ⟨K,hK,ha⟩:=List.mem_flatten.1 ha
      have h1:=hlt K hK a ha
      have h2:=geb a hb2
      simp at h2
      omega
  · intro j hj
    rw [List.flatten_append,List.flatten_cons,List.flatten_nil,List.append_nil] at hj
    rcases List.mem_append.1 hj with h | h
    · exact hge j h
    · have:=geb j h
      have:=pX.length_le
      simp at *
      omega
theorem c_impl_cloneBlocks (M:Mem) (v:V) (xs:List ty_Block.D) (h:Rep (.sl ty_Block) M [v] xs) (hz:BlkSz xs):Sat (aCall T0 F_impl_cloneBlocks [v] M) (GrV ty_Block M xs):=by
  obtain ⟨zs,rfl,hv,hz2,h3⟩:=zl_of h
  have hn:zs.length≤1048576:=by have:=hz.1; simpa using this
  have hs:∀ z ∈ zs,List.length (α:=UInt8) z.2.2.2≤1048576:=fun z hm=>hz.2 z.2 (List.mem_map_of_mem hm)
  have hC:=c_clone_Block M M (List.prefix_refl _) v zs hv hz2 h3 hn
  obtain ⟨av,cv,rfl⟩:=hv
  rw [aCall_eq T_impl_cloneBlocks]; unfold A_impl_cloneBlocks C_impl_cloneBlocks; simp [apA]
  generalize hx:aCall T0 F_slices_Clone_impl_Block_impl_Block _ _=xhx
  obtain ⟨v1,X1,rfl,p1,⟨h0,La,g1,g2,g3⟩ | ⟨h0,l,rfl,hl,hb⟩⟩:=of_call hx hC
  · clear hx
    subst h0
    simp only at p1 g1
    obtain ⟨a,rfl⟩:=g1.shape
    simp only [List.length_nil]
    simp [apA]
    rw [S_impl_cloneBlocks_0]; unfold B_impl_cloneBlocks_0; simp [apA]
    exact ⟨(_,X1),rfl,La,p1,g1,g2,g3⟩
  · clear hx
    simp only at p1 hb
    have hlt:=get_lt hb
    obtain ⟨_,X',⟨ds,Ls,pX,hb',hd,hL,hg,nd,hge⟩,e⟩:=l_impl_cloneBlocks_0 M l zs hl hz2 hn hs X1 ⟨[],[],p1,by simpa using hb,rfl,rfl,by simp,by simp,by simp⟩
    simp only [Int.natCast_zero,Int.ofNat_zero] at e
    simp [apA,e]
    rw [S_impl_cloneBlocks_0]; unfold B_impl_cloneBlocks_0; simp [apA]
    refine ⟨(_,X'),rfl,l :: Ls.flatten,pX,.inr ⟨l,ds,Ls,by simp,?_,by simp [hd],by simp [hL],?_,rfl⟩,nd,?_⟩
    · show X'[l]?=_
      rw [hb']
      simp [Zl,Ty.w]
    · intro k d x K hdk hxk hKk
      rw [List.getElem?_map] at hxk
      obtain ⟨z,hz,rfl⟩:=Option.map_eq_some_iff.1 hxk
      exact hg k d z K hdk hz hKk
    · intro j hj
      rcases List.mem_cons.1 hj with rfl | hj
      · exact hl
      · exact hge j hj
abbrev FoO (p:Nat) (v:V) (aC:Option Addr) (nC cC:Nat) (i:Nat):List V:=[O,.pointer (some ⟨p,0,none⟩),O,O,v,O,O,O,O,O,O,O,O,O,O,O,O,O,O,O,O,O,O,O,O,O,O,O,O,O,O,O,O,O,O,O,O,O,O,O,O,O,O,O,O,O,O,O,O,O,O,O,O,O,O,O,O,O,O,O,O,O,O,O,O,O,O,O,O,O,O,O,O,O,O,O,.slice aC nC cC,.int .i64 nC,.int .i64 i,O,O,O,O,O,O,O,O,O,O,O,O,O,O,O,O,O,O,O,O,O,O,O,O,O,O,O,O,O,O,O,O,O,O,O,O,O,O,O,O,O,O,O]
def FoOn (p:Nat) (aC:Option Addr) (nC cC:Nat) (i:Nat) (v:V):List V:=FoO p v aC nC cC i
structure OuI (M:Mem) (all:List ty_Block.D) (v:V) (X:Mem):Prop where
  pre:M <+: X
  gr:∃ L,Gr (.sl ty_Block) X [v] all L∧L.Nodup∧(∀ j ∈ L,M.length≤j)
  lt:IdLt all
  rg:IdsR all
def nxO (m:Nat) (w:Int) (nd:Nat) (c:ty_Cell.D) (all:List ty_Block.D):Option (List ty_Block.D):=if ndOk m w c=true then inO m nd all (ndB (Int.toNat w) c) else none
def RtF (M:Mem) (r:R):Prop:=∃ fr X',r=some (.ret,fr,X')∧resOf fr X' [.tmp 2,.tmp 3]=some (.tuple #[.slice none 0 0,.bool false])∧M <+: X'
def StO (M:Mem) (Lp:List V→Mem→R) (F:V→List V):Option (List ty_Block.D)→R→Prop
  | some a,r=>∃ v' X',OuI M a v' X'∧r=Lp (F v') X'
  | none,r=>RtF M r
set_option maxHeartbeats 1000000 in
theorem l_impl_nodeOf_0 (M0:Mem) (w:Nat) (a:Option Addr) (c:Nat) (bs:List ty_Block.D) (h:Rep (.sl ty_Block) M0 [.slice a bs.length c] bs) (hn:bs.length≤1000) (hw:w≤200) (hk:BkOk w bs) (v:V) (Z:Mem) (hZ:NoI M0 [] v Z) :
    ∃ v' X',NoI M0 bs v' X'∧lp (aCall T0) K_impl_nodeOf_0 L_impl_nodeOf_0 [O,.int .i64 (w:Int),O,O,O,v,O,O,.slice a bs.length c,.int .i64 bs.length,.int .i64 (0:Nat),O,O,O,O,O,O,O,O,O,O,O,O,O,O,O,O,O,O,O,O,O,O,O,O] Z=lp (aCall T0) K_impl_nodeOf_0 L_impl_nodeOf_0 [O,.int .i64 (w:Int),O,O,O,v',O,O,.slice a bs.length c,.int .i64 bs.length,.int .i64 bs.length,O,O,O,O,O,O,O,O,O,O,O,O,O,O,O,O,O,O,O,O,O,O,O,O] X':=by
  have key:=loop_to (call:=aCall T0) (K:=K_impl_nodeOf_0) (L:=L_impl_nodeOf_0) (fun i v X=>NoI M0 (bs.take i) v X) (fun i v=>[O,.int .i64 (w:Int),O,O,O,v,O,O,.slice a bs.length c,.int .i64 bs.length,.int .i64 i,O,O,O,O,O,O,O,O,O,O,O,O,O,O,O,O,O,O,O,O,O,O,O,O]) (n:=bs.length) ?_ 0 v Z (by omega) (by simpa using hZ)
  · rw [List.take_length] at key
    exact key
  intro i v X hi ⟨pX,hg⟩
  have e6:IntKind.i64.wrap ((i:Int)+1)=i+1:=wrap_i64 (by omega) (by omega)
  have hkt:BkOk w (bs.take i):=fun b hb=>hk b (List.mem_of_mem_take hb)
  have hlen:=blksY_len hkt
  have hle:(bs.take i).length * (w+3)≤1000 * 203:=Nat.mul_le_mul (by rw [List.length_take]; omega) (by omega)
  obtain ⟨l,o,u,rfl,_,_,_,hrd,_,_,qu,_⟩:=at_Block (h.mono pX) hi
  obtain ⟨_,_,u9,e9,_,_,_,hrd9,_,_,hq0,_⟩:=at_Block h hi
  cases e9
  have hu9:u9=u:=by have:=rn_pre pX hrd9; rw [hrd] at this; simp at this; exact this.symm
  subst hu9
  have hki:=hk _ (List.getElem_mem hi)
  unfold NoI
  rw [blksY_succ hi]
  generalize bs[i]=b at *
  generalize blksY (bs.take i)=ys at *
  obtain ⟨b1,b2,b3⟩:=b
  simp only at hrd qu hki hq0
  obtain ⟨h1,h2,h3⟩:=hki
  obtain ⟨y1,z1⟩:=byte_int h1
  obtain ⟨y2,z2⟩:=byte_int h2
  obtain ⟨ua,uc,hu,hsc⟩:=cells_Byte qu
  cases hu
  have hrd':=fun N:Mem=>rn_pre (List.prefix_append X N) hrd
  obtain ⟨av,rfl⟩:=hg.shape
  have hll:=hg.lt
  rw [S_impl_nodeOf_0]; unfold B_impl_nodeOf_0; simp [apA,hi,hrd,hrd',zeroCells,z1,z2]
  generalize hy:appS _ _ _ _ _ _=xhy
  obtain ⟨a2,X2,rfl,hg2,ag2,hl2,hw2⟩:=grow_app hg hy (List.prefix_append _ _) (by have:=pX.length_le; omega) (by rfl) (by rfl) (by omega) (by omega)
  clear hy
  have hpX:M0 <+: X2:=ag2.pre (pf_app pX) hg.ge
  have hbx:X2[X.length]?=some ⟨[.int .i64 b1,.int .i64 b2,.slice ua (List.length (α:=UInt8) b3) uc],1,2⟩:=ag2.get (by simp) (fun hm=>by have:=hll _ hm; omega)
  have hr2:rd1 X2 X.length 2=some (.slice ua (List.length (α:=UInt8) b3) uc):=rd1_of_rdn (rdn_box hbx rfl) (k:=2) rfl
  have hA:∀ zs:List Nat,(∀ y ∈ zs,y=X.length)→hits (wfs (.slice av ys.length ys.length)) zs=false:=fun zs hz=>hits_ne fun x hx y hy e=>by
    have:=hll x hx
    have:=hz y hy
    omega
  have hA2:=hA [X.length,X.length] (by simp)
  have hB:hits [X.length] (wfs (.slice av ys.length ys.length))=false:=hits_ne fun x hx y hy e=>by
    have:=hll y hy
    simp at hx
    omega
  have hC:hits (wfs (.slice a2 (ys.length+3) (ys.length+3))) [X.length,X.length,X.length]=false:=hits_ne fun x hx y hy e=>by
    simp at hy
    rcases hw2 x hx with h | h
    · have:=hll x h; omega
    · simp at h; omega
  have qu2:Rep (.sl ty_Byte) X2 [.slice ua (List.length (α:=UInt8) b3) uc] b3:=(hq0:Rep (.sl ty_Byte) M0 _ _).mono hpX
  obtain ⟨_,_,hu2,hsc2⟩:=cells_Byte qu2
  cases hu2
  simp [apA,thenD_agree,ag2,hA2,hB,hr2,hsc2]
  generalize hy:appS _ _ _ _ _ _=xhy
  obtain ⟨a3,X3,rfl,hg3,ag3,hl3,hw3⟩:=grow_app hg2 hy (List.prefix_refl _) (by have:=hpX.length_le; omega) (by simp) (map_byte_all _) (by omega) (by omega)
  clear hy
  have hpX3:M0 <+: X3:=ag3.pre hpX hg2.ge
  simp [apA,thenD_agree,ag3,hC,e6]
  refine ⟨_,X3,⟨hpX3,?_⟩,rfl⟩
  have hl4:(blkY (b1,b2,b3)).length=3+List.length (α:=UInt8) b3:=blkY_len _
  have hc4:(blkY (b1,b2,b3)).map byteV=[.int .u8 1,.int .u8 b1,.int .u8 b2]++List.map byteV b3:=by
    unfold blkY
    simp only [List.map_cons,byteV_one,y1,y2]
    rfl
  rw [hl4,hc4]
  simpa [Nat.add_assoc] using hg3
theorem c_impl_nodeOf (M:Mem) (v:V) (bs:List ty_Block.D) (w:Nat) (h:Rep (.sl ty_Block) M [v] bs) (hn:bs.length≤4) (hw:w≤200) (hk:BkOk w bs):Sat (aCall T0 F_impl_nodeOf [v,.int .i64 (w:Int)] M) (Bytes M (ndY w bs)):=by
  obtain ⟨a,c,rfl⟩:=h.slen
  obtain ⟨v',X',⟨pX,hg⟩,e⟩:=l_impl_nodeOf_0 M w a c bs h (by omega) hw hk (.slice none 0 0) M ⟨List.prefix_refl _,Grow.nil⟩
  simp only [Int.natCast_zero,Int.ofNat_zero] at e
  have hlen:=blksY_len hk
  have hle:bs.length * (w+3)≤4 * (w+3):=Nat.mul_le_mul_right _ hn
  have e1:IntKind.i64.wrap ((w:Int)+3)=(w:Int)+3:=wrap_i64 (by omega) (by omega)
  have e2:IntKind.i64.wrap (4 * ((w:Int)+3))=4 * ((w:Int)+3):=wrap_i64 (by omega) (by omega)
  have e3:IntKind.i64.wrap (4 * ((w:Int)+3) - ((blksY bs).length:Int))=((4 * (w+3) - (blksY bs).length:Nat):Int):=by rw [wrap_i64 (by omega) (by omega)]; omega
  obtain ⟨v2,X2,q,g2⟩:=bg_padz (⟨_,rfl,pX,hg⟩:BG M X' v' (blksY bs)) rfl (4 * (w+3) - (blksY bs).length) (by omega)
  obtain ⟨av,rfl⟩:=hg.shape
  obtain ⟨n2,_,_,hg2⟩:=id g2
  obtain ⟨a2,rfl⟩:=hg2.shape
  have hbd1:(((4 * (w+3) - (blksY bs).length:Nat):Int))≤9223372036854775807:=by omega
  have hbd2:(((4 * (w+3) - (blksY bs).length:Nat):Int))≤281474976710656:=by omega
  generalize hm:4 * (w+3) - (blksY bs).length=m at *
  rw [aCall_eq T_impl_nodeOf]; unfold A_impl_nodeOf C_impl_nodeOf; simp [apA,e]
  rw [S_impl_nodeOf_0]; unfold B_impl_nodeOf_0; simp [apA,e1,e2,e3,q,hbd1,hbd2]
  exact ⟨(_,X2),rfl,by unfold ndY; rw [hm]; exact g2⟩
set_option maxHeartbeats 2000000 in
theorem l_impl_nodeRead_0 (M:Mem) (a:Option Addr) (c:Nat) (ys:List UInt8) (w:Nat) (lg:V) (h:Rep (.sl ty_Byte) M [.slice a ys.length c] ys) (hw:w≤200) (hw1:1≤w) (hl:ys.length=4 * (w+3)) (v:V) (Z:Mem) (hZ:CbI M v [] Z) :
    ∃ v' X',CbI M v' (ndB w ys) X'∧lp (aCall T0) K_impl_nodeRead_0 L_impl_nodeRead_0 [.slice a ys.length c,lg,.int .i64 (w:Int),O,O,O,O,O,v,.int .i64 ((0 * (w+3):Nat):Int),O,O,O,O,O,O,O,O,O,O,O,O,O,O,O,O,O,O,O,O,O,O,O,O,O,O,O,O,O,O,O,O,O,O,O,O,O,O,O,O,O,O,O,O,O,O,O,O,O,O,O,O,O,O,O,O,O,O,O,O,O,O,O,O,O,O,O,O,O,O] Z=lp (aCall T0) K_impl_nodeRead_0 L_impl_nodeRead_0 [.slice a ys.length c,lg,.int .i64 (w:Int),O,O,O,O,O,v',.int .i64 ((nbC w ys * (w+3):Nat):Int),O,O,O,O,O,O,O,O,O,O,O,O,O,O,O,O,O,O,O,O,O,O,O,O,O,O,O,O,O,O,O,O,O,O,O,O,O,O,O,O,O,O,O,O,O,O,O,O,O,O,O,O,O,O,O,O,O,O,O,O,O,O,O,O,O,O,O,O,O,O] X':=by
  refine loop_to (call:=aCall T0) (K:=K_impl_nodeRead_0) (L:=L_impl_nodeRead_0) (fun i v X=>CbI M v (ndP w ys i) X) (fun i v=>[.slice a ys.length c,lg,.int .i64 (w:Int),O,O,O,O,O,v,.int .i64 ((i * (w+3):Nat):Int),O,O,O,O,O,O,O,O,O,O,O,O,O,O,O,O,O,O,O,O,O,O,O,O,O,O,O,O,O,O,O,O,O,O,O,O,O,O,O,O,O,O,O,O,O,O,O,O,O,O,O,O,O,O,O,O,O,O,O,O,O,O,O,O,O,O,O,O,O,O]) (n:=nbC w ys) ?_ 0 v Z (by omega) (by simpa [ndP] using hZ)
  intro i v X hi ⟨L,pX,g0,nd,ge0⟩
  have hi4:=nbC_le w ys
  have hone:=nbF_one w ys 4 0 i (by omega) hi
  have hbnd:i * (w+3)+(w+3)≤4 * (w+3):=by rw [← Nat.succ_mul]; exact Nat.mul_le_mul_right _ (by omega)
  rw [ndP_succ]
  have hlen:=ndP_len w ys i
  generalize ndP w ys i=xs at g0 hlen ⊢
  obtain ⟨l,o,rfl,_,_⟩:=at_Byte h (i:=0) (by omega)
  have hlM:l < M.length:=by obtain ⟨blk,hbk,_⟩:=rep_blk h; exact get_lt hbk
  have b0:=r1_pre pX (byte_at h (i:=i * (w+3)) (by omega))
  have b1:=r1_pre pX (byte_at h (i:=i * (w+3)+1) (by omega))
  have b2:=r1_pre pX (byte_at h (i:=i * (w+3)+2) (by omega))
  rw [hone] at b0
  have hnxt:(i+1) * (w+3)=i * (w+3)+(w+3):=Nat.succ_mul _ _
  have hsub:=rep_sub (h.mono pX) (i * (w+3)+3) w (by omega)
  have hbd:blkAt w ys i=(((ys.getD (i * (w+3)+1) 0).toNat:Int),((ys.getD (i * (w+3)+2) 0).toNat:Int),(ys.drop (i * (w+3)+3)).take w):=rfl
  have hdl:List.length (α:=UInt8) ((ys.drop (i * (w+3)+3)).take w)=w:=by rw [List.length_take,List.length_drop]; omega
  have n1:(ys.getD (i * (w+3)+1) 0).toNat < 256:=UInt8.toNat_lt _
  have n2:(ys.getD (i * (w+3)+2) 0).toNat < 256:=UInt8.toNat_lt _
  rw [hbd]
  generalize (ys.drop (i * (w+3)+3)).take w=dat at *
  generalize (ys.getD (i * (w+3)+1) 0).toNat=q1 at *
  generalize (ys.getD (i * (w+3)+2) 0).toNat=q2 at *
  generalize hat:i * (w+3)=at0 at *
  have e1:IntKind.i64.wrap ((at0:Int)+1)=(at0:Int)+1:=wrap_i64 (by omega) (by omega)
  have e2:IntKind.i64.wrap ((at0:Int)+2)=(at0:Int)+2:=wrap_i64 (by omega) (by omega)
  have e3:IntKind.i64.wrap ((at0:Int)+3)=(at0:Int)+3:=wrap_i64 (by omega) (by omega)
  have e4:IntKind.i64.wrap ((at0:Int)+3+(w:Int))=(at0:Int)+3+(w:Int):=wrap_i64 (by omega) (by omega)
  have e5:IntKind.i64.wrap ((w:Int)+3)=(w:Int)+3:=wrap_i64 (by omega) (by omega)
  have e6:IntKind.i64.wrap ((at0:Int)+((w:Int)+3))=(at0:Int)+((w:Int)+3):=wrap_i64 (by omega) (by omega)
  have d1:(0:Int)≤(at0:Int)+1∧(at0:Int)+1 < (ys.length:Int):=by omega
  have d2:(0:Int)≤(at0:Int)+2∧(at0:Int)+2 < (ys.length:Int):=by omega
  have d3:(0:Int)≤(at0:Int)+3∧(at0:Int)+3≤(at0:Int)+3+(w:Int)∧((at0:Int)+3+(w:Int)≤(ys.length:Int)∨(at0:Int)+3+(w:Int)≤(c:Int)):=by omega
  have d5:((at0:Int)+2).toNat=at0+2:=by omega
  have d6:((at0:Int)+3).toNat=at0+3:=by omega
  have d7:((at0:Int)+1).toNat=at0+1:=by omega
  have d4:((at0:Int)+3+(w:Int) - ((at0:Int)+3)).toNat=w:=by omega
  have c1:IntKind.i64.wrap (q1:Int)=q1:=wrap_i64 (by omega) (by omega)
  have c2:IntKind.i64.wrap (q2:Int)=q2:=wrap_i64 (by omega) (by omega)
  have g1:at0 < ys.length:=by omega
  have g2:at0+1 < ys.length:=by omega
  have g3:at0+2 < ys.length:=by omega
  have g4:at0+3+w≤ys.length:=by omega
  obtain ⟨blk,hbk,hbw⟩:=rep_blk h
  have hbX:=get_pre pX hbk
  obtain ⟨av,rfl⟩:=g0.shape
  have hwL:∀ b ∈ wfs (.slice av xs.length xs.length),M.length≤b:=by
    obtain ⟨_,_,hw⟩:=g0.gr (K:=0) (by simp)
    exact fun b hb=>ge0 b (hw b hb)
  have hbw1:blk.w=1:=hbw.1
  have s1:=clone_sl (M:=X) T_bytes_Clone (t:=.u8) fl_Byte rfl (hsub (max ys.length c - (at0+3))) (by omega) (by omega)
  have hh2:∀ zs:List Nat,(∀ y ∈ zs,y=l)→hits (wfs (.slice av xs.length xs.length)) zs=false:=fun zs hy=>hits_ge (K:=M.length) hwL (fun y h=>by rw [hy y h]; exact hlM)
  have t3:=hh2 [l,l,l] (by simp)
  rw [S_impl_nodeRead_0]; unfold B_impl_nodeRead_0; simp [apA,b0,b1,b2,g1,d1,d2,d3,d4,d5,d6,d7,e1,e2,e3,e4,c1,c2,hbX,hbw1,rfp_slc2,rfS_some]
  generalize hx:aCall T0 F_bytes_Clone _ _=xhx
  obtain ⟨v1,X3,rfl,K2,p3,gb,ndb,geb⟩:=of_call hx s1
  clear hx
  simp only at p3 gb geb
  obtain ⟨a7,rfl⟩:=gb.shape
  simp [apA,thenD_pre,p3,zeroCells]
  generalize hy:appS _ _ _ _ _ _=xhy
  have hdl2:List.length (α:=UInt8) dat=w:=hdl
  have w0:(Lit.int .i64 (q1:Int)).wf=true:=wf_mk (by omega) (by omega)
  have w1:(Lit.int .i64 (q2:Int)).wf=true:=wf_mk (by omega) (by omega)
  obtain ⟨l4,X4,L',rfl,g4,ag2,len2,hw4,nd4,sub4,hl4⟩:=g0.app (t:=ty_Block) hy (p3.trans (List.prefix_append _ _)) (gr_Block (x:=((q1:Int),(q2:Int),dat)) w0 w1 (gb.grow (List.prefix_append _ _))) (fun j hj=>geb j hj) nd ndb (by rw [hlen]; omega) (by rw [hlen]; omega)
  clear hy
  have pX4:M <+: X4:=ag2.pre (pf_app (pX.trans p3)) hwL
  simp [apA,thenD_agree,ag2,t3,e5,e6]
  have hfin:((i:Int)+1) * ((w:Int)+3)=(at0:Int)+((w:Int)+3):=by
    have e9:((i * (w+3):Nat):Int)=(i:Int) * ((w:Int)+3):=by rw [Int.natCast_mul]; rfl
    rw [Int.add_mul,Int.one_mul,← e9,hat]
  refine ⟨_,_,⟨L',pX4,g4,nd4,fun j hj=>?_⟩,?_⟩
  · have hx3:=p3.length_le
    have hpl:=pX.length_le
    rcases sub4 j hj with h | h | h
    · exact ge0 j h
    · have:=geb j h; omega
    · simp at hl4; omega
  · rw [hfin]
def NrV (M:Mem) (ok:Bool) (bs:List ty_Block.D) (p:V × Mem):Prop:=∃ r L,p.1=.tuple #[r,.bool ok]∧M <+: p.2∧Gr (.sl ty_Block) p.2 [r] bs L∧L.Nodup∧∀ j ∈ L,M.length≤j
theorem c_bytes_Equal (M:Mem) (u v:V) (xs ys:List UInt8) (h:Rep (.sl ty_Byte) M [u] xs) (h2:Rep (.sl ty_Byte) M [v] ys):aCall T0 F_bytes_Equal [u,v] M=some (.bool (decide (xs=ys)),M):=by
  obtain ⟨a,c,rfl,s1⟩:=cells_Byte h
  obtain ⟨b,d,rfl,s2⟩:=cells_Byte h2
  rw [aCall_eq T_bytes_Equal]; unfold A_bytes_Equal C_bytes_Equal; simp [s1,s2,toBytes_map]
set_option maxHeartbeats 1000000 in
theorem c_impl_nodeRead (M:Mem) (v:V) (ys:List UInt8) (l w:Int) (h:Rep (.sl ty_Byte) M [v] ys) (hn:ys.length≤1048576):Sat (aCall T0 F_impl_nodeRead [v,.int .i64 l,.int .i64 w] M) (NrV M (ndOk l w ys) (ndX l w ys)):=by
  have e1:=fun M=>c_impl_isLog M l
  have e2:=fun M=>c_impl_within M w 1 200
  have hlg:(decide (0≤l) && decide (l≤6))=lgB l:=rfl
  have hwd:(decide (1≤w) && decide (w≤200))=wdB w:=rfl
  rw [hlg] at e1
  rw [hwd] at e2
  obtain ⟨a,c,rfl⟩:=h.slen
  have hnil:∀ {X:Mem},Gr (.sl ty_Block) X [.slice none 0 0] [] []:=Gr.nil
  cases h1:lgB l with
  | false =>
    have hs:ndOk l w ys=false:=by simp [ndOk,h1]
    have hx:ndX l w ys=[]:=by simp [ndX,hs]
    rw [hs,hx]
    rw [h1] at e1
    rw [aCall_eq T_impl_nodeRead]; unfold A_impl_nodeRead C_impl_nodeRead; simp [apA,e1]
    exact ⟨(_,_),rfl,_,[],rfl,List.prefix_refl _,hnil,by simp,by simp⟩
  | true =>
    rw [h1] at e1
    cases h2:wdB w with
    | false =>
      have hs:ndOk l w ys=false:=by simp [ndOk,h2]
      have hx:ndX l w ys=[]:=by simp [ndX,hs]
      rw [hs,hx]
      rw [h2] at e2
      rw [aCall_eq T_impl_nodeRead]; unfold A_impl_nodeRead C_impl_nodeRead; simp [apA,e1,e2]
      exact ⟨(_,_),rfl,_,[],rfl,List.prefix_refl _,hnil,by simp,by simp⟩
    | true =>
      rw [h2] at e2
      have hw:1≤w∧w≤200:=by unfold wdB at h2; simpa using h2
      obtain ⟨W,rfl⟩:∃ W:Nat,w=(W:Int):=⟨Int.toNat w,by omega⟩
      have hW:Int.toNat (W:Int)=W:=by omega
      have w1:IntKind.i64.wrap ((W:Int)+3)=(W:Int)+3:=wrap_i64 (by omega) (by omega)
      have w2:IntKind.i64.wrap (4 * ((W:Int)+3))=4 * ((W:Int)+3):=wrap_i64 (by omega) (by omega)
      by_cases h3:(ys.length:Int)=4 * ((W:Int)+3)
      · have h3n:ys.length=4 * (W+3):=by omega
        obtain ⟨m,rfl,hm⟩:=log_nat h1
        obtain ⟨v1,X1,⟨L1,p1,g1,n1,k1⟩,e⟩:=l_impl_nodeRead_0 M a c ys W (.int .i64 (m:Int)) h (by omega) (by omega) h3n (.slice none 0 0) M ⟨[],List.prefix_refl _,Gr.nil,by simp,by simp⟩
        simp only [Nat.zero_mul,Int.natCast_zero,Int.ofNat_zero] at e
        have hblen:=ndB_len W ys
        have e3:=c_impl_areBlocks X1 v1 _ m W g1.rep (by omega)
        obtain ⟨l0,o0,rfl,_,_⟩:=at_Byte h (i:=0) (by omega)
        have hex:=exit_byte h h3n
        have hO:ndOk m W ys=(blocksB m W (ndB W ys) && decide (ndY W (ndB W ys)=ys)):=by
          unfold ndOk
          rw [h1,h2,hW]
          simp [h3]
        have hX:ndX m W ys=if ndOk m W ys=true then ndB W ys else []:=by unfold ndX; rw [hW]
        rw [hX,hO]
        have hNO:=fun (hb:blocksB m W (ndB W ys)=true)=>c_impl_nodeOf X1 v1 (ndB W ys) W g1.rep hblen (by omega) (bk_of hm hb)
        have hyl:=fun (hb:blocksB m W (ndB W ys)=true)=>ndB_len W ys
        generalize ndB W ys=bs at *
        generalize hat:nbC W ys * (W+3)=at0 at *
        obtain ⟨a1,rfl⟩:=g1.shape
        have hcase:(((¬ (at0:Int) < (ys.length:Int))∧(¬ at0 < ys.length))∧(¬ at0 < ys.length))∨(at0 < ys.length∧∃ b:Nat,rd1 X1 l0 (o0+at0)=some (.int .u8 (b:Int))∧¬ (b:Int)=1):=by
          rcases hex with hh | ⟨hh,b,q1,q2⟩
          · exact .inl ⟨⟨by omega,by omega⟩,by omega⟩
          · exact .inr ⟨hh,b,r1_pre p1 q1,q2⟩
        rcases hcase with ⟨⟨F1,F2⟩,F3⟩ | ⟨F1,b,F2,F3⟩
        all_goals
          cases hb:blocksB m W bs with
          | false =>
            rw [hb] at e3
            rw [Bool.false_and,if_neg (by simp)]
            rw [aCall_eq T_impl_nodeRead]; unfold A_impl_nodeRead C_impl_nodeRead; simp [apA,e1,e2,w1,w2,h3,e]
            rw [S_impl_nodeRead_0]; unfold B_impl_nodeRead_0; simp [apA,F1,F2,F3,e3]
            exact ⟨(_,X1),rfl,_,[],rfl,p1,hnil,by simp,by simp⟩
          | true =>
            rw [hb] at e3
            rw [Bool.true_and]
            rw [aCall_eq T_impl_nodeRead]; unfold A_impl_nodeRead C_impl_nodeRead; simp [apA,e1,e2,w1,w2,h3,e]
            rw [S_impl_nodeRead_0]; unfold B_impl_nodeRead_0; simp [apA,F1,F2,F3,e3]
            generalize hx:aCall T0 F_impl_nodeOf _ _=xhx
            obtain ⟨v2,X2,rfl,g2⟩:=of_call hx (hNO hb)
            clear hx
            obtain ⟨L2,p2,o2,_⟩:=bg_rep g2
            have e5:=c_bytes_Equal X2 v2 _ _ ys o2.rep (h.mono (p1.trans p2))
            obtain ⟨_,_,rfl⟩:=o2.rep.slen
            by_cases hq:ndY W bs=ys
            · rw [decide_eq_true hq] at e5
              rw [decide_eq_true hq,if_pos hq]
              simp [apA,e5]
              exact ⟨(_,X2),rfl,_,L1,rfl,p1.trans p2,g1.grow p2,n1,k1⟩
            · rw [decide_eq_false hq] at e5
              rw [decide_eq_false hq,if_neg hq]
              simp [apA,e5]
              exact ⟨(_,X2),rfl,_,[],rfl,p1.trans p2,hnil,by simp,by simp⟩
      · have hs:ndOk l W ys=false:=by simp [ndOk,h3]
        have hx:ndX l W ys=[]:=by simp [ndX,hs]
        rw [hs,hx]
        rw [aCall_eq T_impl_nodeRead]; unfold A_impl_nodeRead C_impl_nodeRead; simp [apA,e1,e2,w1,w2,h3]
        exact ⟨(_,_),rfl,_,[],rfl,List.prefix_refl _,hnil,by simp,by simp⟩
abbrev FoB (p:Nat) (v:V) (nd0:Nat) (a76 n77 i78:V) (l2 n:Nat) (i:Nat):List V:=[O,.pointer (some ⟨p,0,none⟩),O,O,v,.int .i64 nd0,O,O,O,O,O,O,O,O,O,O,O,O,O,O,O,O,O,O,O,O,O,O,O,O,O,O,O,O,O,O,O,O,O,O,O,O,O,O,O,O,O,O,O,O,O,O,O,O,O,O,O,O,O,O,O,O,O,O,O,O,O,O,O,O,O,O,O,O,O,O,a76,n77,i78,O,O,O,O,O,O,O,O,O,O,O,O,O,O,O,O,.slice (some ⟨l2,0,none⟩) n n,.int .i64 n,.int .i64 i,O,O,O,O,O,O,O,O,O,O,O,O,O,O,O,O,O,O,O,O,O,O,O,O]
structure InI (M:Mem) (bs:List ty_Block.D) (l2:Nat) (css:List (List V)) (Ls:List (List Nat)) (i:Nat) (all:List ty_Block.D) (v:V) (X:Mem):Prop where
  pre:M <+: X
  gr:∃ L,Gr (.sl ty_Block) X [v] all L∧L.Nodup∧(∀ j ∈ L,M.length≤j)∧(∀ j ∈ L,j ≠ l2∧∀ (k:Nat) (K:List Nat),i≤k→Ls[k]?=some K→j ∉ K)
  hb:X[l2]?=some ⟨css.flatten,3,2⟩
  el:∀ (k:Nat) (ds:List V) (x:ty_Block.D) (K:List Nat),i≤k→css[k]?=some ds→bs[k]?=some x→Ls[k]?=some K→Gr ty_Block X ds x K∧(∀ j ∈ K,M.length≤j∧j ≠ l2)
  lt:IdLt all
  rg:IdsR all
theorem gr_Block_nd {M:Mem} {ds:List V} {x:ty_Block.D} {K:List Nat} (h:Gr ty_Block M ds x K):K.Nodup:=by
  obtain ⟨c1,c2,L1,L2,_,⟨_,rfl⟩,⟨c3,c4,L3,L4,_,⟨_,rfl⟩,h,rfl⟩,rfl⟩:=h
  rcases h with ⟨_,_,rfl⟩ | ⟨l,css,Ls,_,_,h1,h2,h3,rfl⟩
  · simp
  · have:Ls.flatten=[]:=by
      rw [List.flatten_eq_nil_iff]
      intro K hK
      obtain ⟨i,hi,rfl⟩:=List.getElem_of_mem hK
      exact (h3 i (css[i]'(by omega)) (x.2.2[i]'(by omega)) Ls[i] (by simp) (by simp) (by simp)).2
    simp [this]
abbrev tgB (t1 t2:Int) (ta:Option Addr) (tn tc:Nat):List V:=[.int .i64 t1,.int .i64 t2,.slice ta tn tc]
theorem c_impl_blockPut_1 (M:Mem) (a a2 b b2:Int) (ua ub:Option Addr) (na ca nb cb:Nat) (ha:0≤a∧a≤255) (hb:0≤b∧b≤255):aCall T0 F_impl_blockPut_1 [.agg (tgB a a2 ua na ca).toArray,.agg (tgB b b2 ub nb cb).toArray] M=some (.int .i64 (a - b),M):=by
  have e:IntKind.i64.wrap (a - b)=a - b:=wrap_i64 (by omega) (by omega)
  rw [aCall_eq T_impl_blockPut_1]; unfold A_impl_blockPut_1 C_impl_blockPut_1; simp [e]
theorem r_bsB (M:Mem) (a:Option Addr) (c:Nat) (xs:List ty_Block.D) (h:Rep (.sl ty_Block) M [.slice a xs.length c] xs) (hn:xs.length≤1048576) (hr:IdsR xs) (pt:Nat) (t1 t2:Int) (ta:Option Addr) (tn tc:Nat) (hpt:M[pt]?=some ⟨tgB t1 t2 ta tn tc,1,2⟩) (ht:0≤t1∧t1≤255) (i j:Nat) (hij:i < j) (hj:j≤xs.length) (hi:(i+j) / 2 < xs.length) :
    lp (aCall T0) K_slices_BinarySearchFunc_impl_Block_impl_Block_impl_Block_0 L_slices_BinarySearchFunc_impl_Block_impl_Block_impl_Block_0 [.slice a xs.length c,O,.func (.func F_impl_blockPut_1) #[] #[],O,.pointer (some ⟨pt,0,none⟩),O,O,O,.int .i64 xs.length,.int .i64 i,.int .i64 j,O,O,O,O,O,O,O,O,O,O,O,O,O,O,O,O,O,O,O,O,O,O,O,O,O,O,O,O,O,O,O,O,O,O,O,O,O,O] M =
    lp (aCall T0) K_slices_BinarySearchFunc_impl_Block_impl_Block_impl_Block_0 L_slices_BinarySearchFunc_impl_Block_impl_Block_impl_Block_0 [.slice a xs.length c,O,.func (.func F_impl_blockPut_1) #[] #[],O,.pointer (some ⟨pt,0,none⟩),O,O,O,.int .i64 xs.length,.int .i64 (if (xs[(i+j) / 2]).1 < t1 then (((i+j) / 2+1:Nat):Int) else (i:Int)),.int .i64 (if (xs[(i+j) / 2]).1 < t1 then (j:Int) else (((i+j) / 2:Nat):Int)),O,O,O,O,O,O,O,O,O,O,O,O,O,O,O,O,O,O,O,O,O,O,O,O,O,O,O,O,O,O,O,O,O,O,O,O,O,O] M:=by
  obtain ⟨m,hm⟩:∃ m,m=(i+j) / 2:=⟨_,rfl⟩
  simp only [← hm] at hi ⊢
  obtain ⟨l,o,u,rfl,_,_,_,hrd,_,_,qu,_⟩:=at_Block h hi
  have hx:=hr _ (List.getElem_mem hi)
  generalize xs[m]=b at *
  obtain ⟨b1,b2,b3⟩:=b
  simp only at *
  obtain ⟨ua,uc,rfl⟩:=qu.slen
  have s1:=c_impl_blockPut_1 M b1 b2 t1 t2 ua ta (List.length (α:=UInt8) b3) uc tn tc hx ht
  simp only [tgB] at s1 hpt
  have g0:(i:Int) < j:=by omega
  have e1:IntKind.i64.wrap ((i:Int)+j)=(i:Int)+j:=wrap_i64 (by omega) (by omega)
  have e2:IntKind.u64.wrap ((i:Int)+j)=(i:Int)+j:=wrap_u64 (by omega) (by omega)
  have e4:bshr .u64 ((i:Int)+j) 1=(m:Int):=by
    unfold bshr
    have hm2:min (1:Int).toNat IntKind.u64.bits=1:=rfl
    rw [hm2,hm]
    show ((i:Int)+j).fdiv (2 ^ 1)=_
    rw [Int.fdiv_eq_ediv_of_nonneg _ (by omega)]
    omega
  have e3:IntKind.i64.wrap ((m:Nat):Int)=m:=wrap_i64 (by omega) (by omega)
  have e6:IntKind.i64.wrap ((m:Int)+1)=m+1:=wrap_i64 (by omega) (by omega)
  have hpr:rdn M pt 0 3=some [.int .i64 t1,.int .i64 t2,.slice ta tn tc]:=rdn_box hpt rfl
  by_cases hq:b1 < t1
  · have hq2:b1 - t1 < 0:=Int.sub_neg_of_lt hq
    rw [S_slices_BinarySearchFunc_impl_Block_impl_Block_impl_Block_0]; unfold B_slices_BinarySearchFunc_impl_Block_impl_Block_impl_Block_0; simp [g0,hij,e1,e2,e4,e3,hi,hrd,hpr,s1,hq,hq2,e6]
  · have hq2:¬ b1 - t1 < 0:=fun hh=>hq (Int.lt_of_sub_neg hh)
    rw [S_slices_BinarySearchFunc_impl_Block_impl_Block_impl_Block_0]; unfold B_slices_BinarySearchFunc_impl_Block_impl_Block_impl_Block_0; simp [g0,hij,e1,e2,e4,e3,hi,hrd,hpr,s1,hq,hq2,e6]
theorem l_bsB (M:Mem) (a:Option Addr) (c:Nat) (xs:List ty_Block.D) (h:Rep (.sl ty_Block) M [.slice a xs.length c] xs) (hn:xs.length≤1048576) (hr:IdsR xs) (pt:Nat) (t1 t2:Int) (ta:Option Addr) (tn tc:Nat) (hpt:M[pt]?=some ⟨tgB t1 t2 ta tn tc,1,2⟩) (ht:0≤t1∧t1≤255):∀ (d i j:Nat),j - i≤d→i≤j→j≤xs.length →
    (∀ (q:0 < i) (hq:i - 1 < xs.length),(xs[i - 1]).1 < t1)→(∀ (hq:j < xs.length),¬ (xs[j]).1 < t1) →
    ∃ r:Nat,r≤xs.length∧(∀ (q:0 < r) (hq:r - 1 < xs.length),(xs[r - 1]).1 < t1)∧(∀ (hq:r < xs.length),¬ (xs[r]).1 < t1) ∧
    lp (aCall T0) K_slices_BinarySearchFunc_impl_Block_impl_Block_impl_Block_0 L_slices_BinarySearchFunc_impl_Block_impl_Block_impl_Block_0 [.slice a xs.length c,O,.func (.func F_impl_blockPut_1) #[] #[],O,.pointer (some ⟨pt,0,none⟩),O,O,O,.int .i64 xs.length,.int .i64 i,.int .i64 j,O,O,O,O,O,O,O,O,O,O,O,O,O,O,O,O,O,O,O,O,O,O,O,O,O,O,O,O,O,O,O,O,O,O,O,O,O,O] M =
    lp (aCall T0) K_slices_BinarySearchFunc_impl_Block_impl_Block_impl_Block_0 L_slices_BinarySearchFunc_impl_Block_impl_Block_impl_Block_0 [.slice a xs.length c,O,.func (.func F_impl_blockPut_1) #[] #[],O,.pointer (some ⟨pt,0,none⟩),O,O,O,.int .i64 xs.length,.int .i64 r,.int .i64 r,O,O,O,O,O,O,O,O,O,O,O,O,O,O,O,O,O,O,O,O,O,O,O,O,O,O,O,O,O,O,O,O,O,O,O,O,O,O] M
  | 0,i,j,hd,hij,hj,h1,h2=>by
    have e:i=j:=by omega
    subst e
    exact ⟨i,hj,h1,h2,rfl⟩
  | d+1,i,j,hd,hij,hj,h1,h2=>by
    by_cases e:i=j
    · subst e
      exact ⟨i,hj,h1,h2,rfl⟩
    have hm:(i+j) / 2 < xs.length:=by omega
    have hrr:=r_bsB M a c xs h hn hr pt t1 t2 ta tn tc hpt ht i j (by omega) hj hm
    by_cases hq:(xs[(i+j) / 2]).1 < t1
    · rw [if_pos hq,if_pos hq] at hrr
      rw [hrr]
      exact l_bsB M a c xs h hn hr pt t1 t2 ta tn tc hpt ht d ((i+j) / 2+1) j (by omega) (by omega) hj (fun _ _=>hq) h2
    · rw [if_neg hq,if_neg hq] at hrr
      rw [hrr]
      exact l_bsB M a c xs h hn hr pt t1 t2 ta tn tc hpt ht d i ((i+j) / 2) (by omega) (by omega) (by omega) h1 (fun _=>hq)
theorem c_bsB (M:Mem) (v:V) (xs:List ty_Block.D) (h:Rep (.sl ty_Block) M [v] xs) (hn:xs.length≤1048576) (hr:IdsR xs) (t1 t2:Int) (ta:Option Addr) (tn tc:Nat) (ht:0≤t1∧t1≤255) :
    ∃ r:Nat,r≤xs.length∧(∀ (q:0 < r) (hq:r - 1 < xs.length),(xs[r - 1]).1 < t1)∧(∀ (hq:r < xs.length),¬ (xs[r]).1 < t1) ∧
    aCall T0 F_slices_BinarySearchFunc_impl_Block_impl_Block_impl_Block [v,.agg (tgB t1 t2 ta tn tc).toArray,.func (.func F_impl_blockPut_1) #[] #[]] M=some (.tuple #[.int .i64 r,.bool (decide (∃ hq:r < xs.length,(xs[r]).1=t1))],M):=by
  obtain ⟨a,c,rfl⟩:=h.slen
  obtain ⟨r,h1,h2,h3,h4⟩:=l_bsB (M++[⟨tgB t1 t2 ta tn tc,1,2⟩]) a c xs (h.mono (List.prefix_append _ _)) hn hr M.length t1 t2 ta tn tc (by simp) ht xs.length 0 xs.length (by omega) (by omega) (Nat.le_refl _) (fun q=>by omega) (fun q=>by omega)
  refine ⟨r,h1,h2,h3,?_⟩
  simp only [Int.natCast_zero,Int.ofNat_zero] at h4
  have hpr:rdn (M++[⟨tgB t1 t2 ta tn tc,1,2⟩]) M.length 0 3=some [.int .i64 t1,.int .i64 t2,.slice ta tn tc]:=rdn_box (by simp) rfl
  simp only [tgB] at h4 hpr ⊢
  by_cases hr2:r < xs.length
  · obtain ⟨l,o,u,rfl,_,_,_,hrd,_,_,qu,_⟩:=at_Block (h.mono (List.prefix_append M [⟨[.int .i64 t1,.int .i64 t2,.slice ta tn tc],1,2⟩])) hr2
    have hx:=hr _ (List.getElem_mem hr2)
    have hd:decide (∃ hq:r < xs.length,(xs[r]).1=t1)=decide (xs[r].1 - t1=0):=by
      rw [decide_eq_decide]
      exact ⟨fun ⟨_,q⟩=>Int.sub_eq_zero.2 q,fun q=>⟨hr2,Int.sub_eq_zero.1 q⟩⟩
    have g:¬ r < r:=by omega
    rw [hd]
    generalize xs[r]=b at *
    obtain ⟨b1,b2,b3⟩:=b
    simp only at *
    obtain ⟨ua,uc,rfl⟩:=qu.slen
    have s1:=c_impl_blockPut_1 (M++[⟨[.int .i64 t1,.int .i64 t2,.slice ta tn tc],1,2⟩]) b1 b2 t1 t2 ua ta (List.length (α:=UInt8) b3) uc tn tc hx ht
    simp only [tgB] at s1
    rw [aCall_eq T_slices_BinarySearchFunc_impl_Block_impl_Block_impl_Block]; unfold A_slices_BinarySearchFunc_impl_Block_impl_Block_impl_Block C_slices_BinarySearchFunc_impl_Block_impl_Block_impl_Block; simp [h4]
    rw [S_slices_BinarySearchFunc_impl_Block_impl_Block_impl_Block_0]; unfold B_slices_BinarySearchFunc_impl_Block_impl_Block_impl_Block_0; simp [hr2,hrd,hpr,s1]
  · have hd:decide (∃ hq:r < xs.length,(xs[r]).1=t1)=false:=by
      rw [decide_eq_false_iff_not]
      exact fun ⟨q,_⟩=>hr2 q
    rw [hd]
    rw [aCall_eq T_slices_BinarySearchFunc_impl_Block_impl_Block_impl_Block]; unfold A_slices_BinarySearchFunc_impl_Block_impl_Block_impl_Block C_slices_BinarySearchFunc_impl_Block_impl_Block_impl_Block; simp [h4]
    rw [S_slices_BinarySearchFunc_impl_Block_impl_Block_impl_Block_0]; unfold B_slices_BinarySearchFunc_impl_Block_impl_Block_impl_Block_0; simp [hr2]
def InsD (M:Mem) (L J:List Nat) (zs:List ty_Block.D) (p:V × Mem):Prop:=∃ L',Gr (.sl ty_Block) p.2 [p.1] zs L'∧L'.Nodup∧(∀ j ∈ L',j ∈ L∨j ∈ J∨M.length≤j)∧Agree M p.2 L∧M.length < p.2.length
theorem agree_sub {M M':Mem} {w w':List Nat} (h:Agree M M' w) (hs:∀ b ∈ w,b ∈ w'):Agree M M' w':=⟨h.1,fun b hb hn=>h.2 b hb (fun hm=>hn (hs b hm))⟩
theorem c_insB (M:Mem) (v:V) (xs:List ty_Block.D) (L:List Nat) (i:Nat) (ds:List V) (y:ty_Block.D) (J:List Nat) (l2:Nat) (h:Gr (.sl ty_Block) M [v] xs L) (hi:i≤xs.length) (hy:Gr ty_Block M ds y J) (hb2:M[l2]?=some ⟨ds,3,2⟩) (hl2:l2 ∉ L) (hj:∀ j ∈ J,j ∉ L) (hn:L.Nodup) (hnj:J.Nodup) (hs:xs.length≤10000) :
    Sat (aCall T0 F_slices_Insert_impl_Block_impl_Block [v,.int .i64 (i:Int),.slice (some ⟨l2,0,none⟩) 1 1] M) (InsD M L J (xs.take i++y :: xs.drop i)):=by
  have hlen:=hy.len
  have hw:ty_Block.w=3:=rfl
  rw [hw] at hlen
  obtain ⟨a,rfl⟩:=h.shape
  by_cases he:i=xs.length
  · subst he
    have hr2:sliceCells M 3 (.slice (some ⟨l2,0,none⟩) 1 1)=some (1,ds):=by
      simp only [sliceCells,rdn,hb2]
      rw [if_neg (by omega),if_pos (by refine ⟨by simp,by omega⟩),List.drop_zero,List.take_of_length_le (by omega)]
      rfl
    have hfin:xs.take xs.length++y :: xs.drop xs.length=xs++[y]:=by simp
    rw [hfin]
    have key:∀ x,appS M 3 40 (.slice a xs.length xs.length) 1 ds=x→Sat x (InsD M L J (xs++[y])):=by
      intro x hx
      obtain ⟨l,X3,L',rfl,g,ag,hl,hw2,nd,hL,_⟩:=h.app2 (t:=ty_Block) (bytes:=40) hx (List.prefix_refl _) hy hj hn hnj (by omega) (by omega)
      exact ⟨_,rfl,L',g,nd,fun j hm=>(hL j hm).elim .inl (fun h=>h.elim (fun h=>.inr (.inl h)) (fun h=>.inr (.inr (by omega)))),agree_sub ag hw2,hl⟩
    have hle:(xs.length:Int)≤(xs.length:Int):=Int.le_refl _
    have hk:(a=none∧xs.length=0)∨∃ l k,a=some ⟨l,0,none⟩∧M[l]?=some k∧k.w=3:=by
      rcases h with ⟨e,rfl,_⟩ | ⟨l,css,Ls,e,hb,_⟩
      · cases e; exact .inl ⟨rfl,rfl⟩
      · cases e; exact .inr ⟨l,_,rfl,hb,rfl⟩
    rcases hk with ⟨rfl,h0⟩ | ⟨l,k,rfl,hk,hkw⟩
    · rw [aCall_eq T_slices_Insert_impl_Block_impl_Block]; unfold A_slices_Insert_impl_Block_impl_Block C_slices_Insert_impl_Block_impl_Block; simp [apA,hr2]
      generalize hy2:appS _ _ _ _ _ _=xhy2
      obtain ⟨⟨v3,X3⟩,rfl,L',g,nd,hL,ag,hlen3⟩:=key _ hy2
      clear hy2
      try simp only at g ag hlen3
      obtain ⟨a3,rfl⟩:=g.shape
      have hq:(xs++[y]).length=xs.length+1:=by simp
      rw [hq] at g ⊢
      simp [apA]
      exact ⟨_,rfl,L',g,nd,hL,ag,hlen3⟩
    · obtain ⟨⟨v3,X3⟩,hap,L',g,nd,hL,ag,hlen3⟩:=key _ rfl
      simp only at g ag hlen3
      rw [appS_sl _ _ _ _ _ _ _ _ _ (by omega),hk] at hap
      obtain ⟨a3,rfl⟩:=g.shape
      have hq:(xs++[y]).length=xs.length+1:=by simp
      rw [hq] at g hap
      rw [aCall_eq T_slices_Insert_impl_Block_impl_Block]; unfold A_slices_Insert_impl_Block_impl_Block C_slices_Insert_impl_Block_impl_Block; simp [apA,hk,hkw,hr2,hap]
      exact ⟨_,rfl,L',g,nd,hL,ag,hlen3⟩
  · have hlt:i < xs.length:=by omega
    obtain ⟨X',L',e,g,ag,hxl,hwl,nd,hL⟩:=h.ins (bytes:=40) hlt hy hb2 hl2 (by show 1 < 3; omega) hj hn hnj (by omega) (by omega)
    have hne:¬ (i:Int)=(xs.length:Int):=by omega
    have hle:(i:Int)≤(xs.length:Int):=by omega
    have hkb:∃ l k,a=some ⟨l,0,none⟩∧M[l]?=some k∧k.w=3:=by
      rcases h with ⟨_,rfl,_⟩ | ⟨l,css,Ls,e,hb,_⟩
      · simp at hlt
      · cases e
        exact ⟨l,_,rfl,hb,rfl⟩
    obtain ⟨l,k,rfl,hk,hkw⟩:=hkb
    rw [hw] at e
    rw [aCall_eq T_slices_Insert_impl_Block_impl_Block]; unfold A_slices_Insert_impl_Block_impl_Block C_slices_Insert_impl_Block_impl_Block; simp [apA,hk,hkw,hne,hle,hlt,he,e]
    exact ⟨(_,X'),rfl,L',g,nd,fun j hm=>(hL j hm).elim .inl (fun h=>h.elim (fun h=>.inr (.inl h)) (fun h=>.inr (.inr (by omega)))),agree_sub ag hwl,by show M.length < X'.length; omega⟩
theorem sorted_below {xs:List ty_Block.D} {id:Int} {r:Nat} (hs:IdLt xs) (hr:r≤xs.length) (h1:∀ (q:0 < r) (hq:r - 1 < xs.length),(xs[r - 1]).1 < id):∀ k (hk:k < xs.length),k < r→xs[k].1 < id:=by
  intro k hk hkr
  have h:=h1 (by omega) (by omega)
  by_cases e:k=r - 1
  · subst e; exact h
  · exact Int.lt_trans (List.pairwise_iff_getElem.1 hs k (r - 1) hk (by omega) (by omega)) h
theorem withoutL_app (id:Int) (xs ys:List ty_Block.D):withoutL id (xs++ys)=withoutL id xs++withoutL id ys:=List.filter_append ..
theorem lbB_eq {id:Int}:∀ {xs:List ty_Block.D} {r:Nat},r≤xs.length→(∀ k (hk:k < xs.length),k < r→xs[k].1 < id)→(∀ hr:r < xs.length,¬ xs[r].1 < id)→lbB id xs=r
  | [],r,h,_,_=>by simp at h; simp [lbB,h]
  | b :: xs,0,_,_,h2=>by
    have h:=h2 (by simp)
    simp only [List.getElem_cons_zero] at h
    simp [lbB,List.takeWhile_cons,decide_eq_false h]
  | b :: xs,r+1,hl,h1,h2=>by
    have h:=h1 0 (by simp) (by omega)
    simp only [List.getElem_cons_zero] at h
    have ih:=lbB_eq (id:=id) (xs:=xs) (r:=r) (by simpa using hl) (fun k hk hkr=>h1 (k+1) (by simpa using hk) (by omega)) (fun hr=>h2 (by simpa using hr))
    unfold lbB at ih ⊢
    simp only [List.takeWhile_cons,decide_eq_true h,if_true,List.length_cons,ih]
theorem put_found {b:ty_Block.D} {xs:List ty_Block.D} {r:Nat} (hs:IdLt xs) (hr:r < xs.length) (he:xs[r].1=b.1):putL b xs=xs.set r b∧(withoutL b.1 xs).length+1=xs.length:=by
  have e:xs=xs.take r++xs[r] :: xs.drop (r+1):=by rw [← List.drop_eq_getElem_cons hr,List.take_append_drop]
  have hlo:∀ c ∈ xs.take r,c.1 < b.1:=by
    intro c hc
    obtain ⟨k,hk,rfl⟩:=List.getElem_of_mem hc
    rw [List.length_take] at hk
    rw [List.getElem_take,← he]
    exact sorted_above hs (r:=k) (by omega) r hr (by omega)
  have hhi:∀ c ∈ xs.drop (r+1),b.1 < c.1:=by
    intro c hc
    obtain ⟨k,hk,rfl⟩:=List.getElem_of_mem hc
    rw [List.length_drop] at hk
    rw [List.getElem_drop,← he]
    exact sorted_above hs hr _ (by omega) (by omega)
  have hw:withoutL b.1 xs=xs.take r++xs.drop (r+1):=by
    have h1:withoutL b.1 [xs[r]]=[]:=by simp [withoutL,he]
    have h2:xs.take r++xs[r] :: xs.drop (r+1)=xs.take r++([xs[r]]++xs.drop (r+1)):=by simp
    conv=>lhs; rw [e,h2]
    rw [withoutL_app,withoutL_app,h1,List.nil_append,without_same (fun c hc=>Int.ne_of_lt (hlo c hc)),without_same (fun c hc=>(Int.ne_of_lt (hhi c hc)).symm)]
  have hlt:(xs.take r).length=r:=by rw [List.length_take]; omega
  have hlb:lbB b.1 (xs.take r++xs.drop (r+1))=r:=by
    refine lbB_eq (by rw [List.length_append]; omega) (fun k hk hkr=>?_) (fun hrr=>?_)
    · rw [List.getElem_append_left (by omega)]
      exact hlo _ (List.getElem_mem _)
    · rw [List.getElem_append_right (by omega)]
      exact fun h=>Int.lt_irrefl _ (Int.lt_trans h (hhi _ (List.getElem_mem _)))
  unfold putL insL
  rw [hw,hlb]
  refine ⟨?_,?_⟩
  · rw [List.take_left' hlt,List.drop_left' hlt,List.set_eq_take_append_cons_drop,if_pos hr]
  · rw [List.length_append,List.length_take,List.length_drop]
    omega
theorem put_new {b:ty_Block.D} {xs:List ty_Block.D} {r:Nat} (hs:IdLt xs) (hr:r≤xs.length) (h1:∀ k (hk:k < xs.length),k < r→xs[k].1 < b.1) (h2:∀ hq:r < xs.length,¬ xs[r].1 < b.1) (hn:¬ ∃ hq:r < xs.length,xs[r].1=b.1):putL b xs=xs.take r++b :: xs.drop r∧withoutL b.1 xs=xs:=by
  have hw:withoutL b.1 xs=xs:=by
    refine without_same fun c hc=>?_
    obtain ⟨k,hk,rfl⟩:=List.getElem_of_mem hc
    by_cases hkr:k < r
    · exact Int.ne_of_lt (h1 k hk hkr)
    · by_cases e:k=r
      · subst e
        exact fun e=>hn ⟨hk,e⟩
      · have h3:=sorted_above hs (r:=r) (by omega) k hk (by omega)
        have h4:=h2 (by omega)
        exact fun e=>h4 (by rw [← e]; exact h3)
  unfold putL insL
  rw [hw,lbB_eq hr h1 h2]
  exact ⟨rfl,rfl⟩
def BpD (M:Mem) (L J:List Nat) (zs:List ty_Block.D) (p:V × Mem):Prop:=∃ L',Gr (.sl ty_Block) p.2 [p.1] zs L'∧L'.Nodup∧(∀ j ∈ L',j ∈ L∨j ∈ J∨M.length≤j)∧Agree M p.2 L∧M.length≤p.2.length
theorem c_impl_blockPut (M:Mem) (v:V) (xs:List ty_Block.D) (L:List Nat) (ds:List V) (y:ty_Block.D) (J:List Nat) (h:Gr (.sl ty_Block) M [v] xs L) (hy:Gr ty_Block M ds y J) (hj:∀ j ∈ J,j ∉ L) (hn:L.Nodup) (hnj:J.Nodup) (hs:xs.length≤10000) (hlt:IdLt xs) (hr:IdsR xs) (hyr:0≤y.1∧y.1≤255) :
    Sat (aCall T0 F_impl_blockPut [v,.agg ds.toArray] M) (BpD M L J (putL y xs)):=by
  obtain ⟨u,rfl,w0,w1,qu⟩:=rep_g_Block hy.rep
  obtain ⟨ua,uc,rfl⟩:=qu.slen
  obtain ⟨r,r1,r2,r3,r4⟩:=c_bsB (M++[⟨[.int .i64 y.1,.int .i64 y.2.1,.slice ua (List.length (α:=UInt8) y.2.2) uc],1,2⟩]) v xs (h.rep.mono (List.prefix_append _ _)) (by omega) hr y.1 y.2.1 ua (List.length (α:=UInt8) y.2.2) uc hyr
  have hb:=sorted_below hlt r1 r2
  have hpr:rdn (M++[⟨[.int .i64 y.1,.int .i64 y.2.1,.slice ua (List.length (α:=UInt8) y.2.2) uc],1,2⟩]) M.length 0 3=some [.int .i64 y.1,.int .i64 y.2.1,.slice ua (List.length (α:=UInt8) y.2.2) uc]:=rdn_box (by simp) rfl
  obtain ⟨a,rfl⟩:=h.shape
  simp only [tgB] at r4
  by_cases hf:∃ hq:r < xs.length,(xs[r]).1=y.1
  · rw [decide_eq_true hf] at r4
    obtain ⟨hq,he⟩:=hf
    rw [(put_found hlt hq he).1]
    obtain ⟨l,cs,L',e,hbl,hle,hlL,g,nd,hL⟩:=(h.grow (List.prefix_append M [(⟨[.int .i64 y.1,.int .i64 y.2.1,.slice ua (List.length (α:=UInt8) y.2.2) uc],1,2⟩:Blk)])).put hq (hy.grow (List.prefix_append _ _)) hj hn hnj
    cases e
    have hw:ty_Block.w=3:=rfl
    rw [hw] at hbl hle g
    have hwr:=wrn_eq (o:=r * 3) hbl rfl hle hy.one
    have hlX:=h.lt l hlL
    generalize splice cs (r * 3) [.int .i64 y.1,.int .i64 y.2.1,.slice ua (List.length (α:=UInt8) y.2.2) uc]=cs2 at g hwr
    rw [aCall_eq T_impl_blockPut]; unfold A_impl_blockPut C_impl_blockPut; simp [apA,r4,hpr,hq,hwr]
    refine ⟨(_,_),rfl,L',g,nd,fun j hm=>(hL j hm).elim .inl (fun h=>.inr (.inl h)),⟨by simp,fun b hb1 hb2=>?_⟩,by simp⟩
    show (List.set _ l _)[b]?=_
    rw [List.getElem?_set_ne (fun e=>hb2 (by rw [← e]; exact hlL)),List.getElem?_append_left hb1]
  · rw [decide_eq_false hf] at r4
    rw [(put_new hlt r1 hb r3 hf).1]
    have hI:=c_insB (M++[⟨[.int .i64 y.1,.int .i64 y.2.1,.slice ua (List.length (α:=UInt8) y.2.2) uc],1,2⟩,⟨[.int .i64 y.1,.int .i64 y.2.1,.slice ua (List.length (α:=UInt8) y.2.2) uc],3,2⟩]) (.slice a xs.length xs.length) xs L r [.int .i64 y.1,.int .i64 y.2.1,.slice ua (List.length (α:=UInt8) y.2.2) uc] y J (M.length+1)
      (h.grow (List.prefix_append _ _)) r1 (hy.grow (List.prefix_append _ _)) (by simp) (fun hm=>by have:=h.lt _ hm; omega) hj hn hnj hs
    rw [aCall_eq T_impl_blockPut]; unfold A_impl_blockPut C_impl_blockPut; simp [apA,r4,hpr,zeroCells]
    generalize hx:aCall T0 F_slices_Insert_impl_Block_impl_Block _ _=xhx
    obtain ⟨v5,X5,rfl,L',g,nd,hL,ag,hl5⟩:=of_call hx hI
    clear hx
    try simp only at g ag hl5
    generalize xs.take r++y :: xs.drop r=zz at g ⊢
    obtain ⟨a5,rfl⟩:=g.shape
    simp [apA]
    try simp at hl5
    refine ⟨(_,X5),rfl,L',g,nd,fun j hm=>(hL j hm).elim .inl (fun h=>h.elim (fun h=>.inr (.inl h)) (fun h=>.inr (.inr (by simp at h; omega)))),⟨by show M.length≤X5.length; omega,fun b hb1 hb2=>?_⟩,by show M.length≤X5.length; omega⟩
    have:=ag.2 b (by simp; omega) hb2
    rw [this,List.getElem?_append_left hb1]
theorem blen7 {x:Nat} (h:x < 128):blen x≤7:=blen_le.2 (by simpa using h)
def len8:List UInt8:=[0,1,2,2,3,3,3,3,4,4,4,4,4,4,4,4,5,5,5,5,5,5,5,5,5,5,5,5,5,5,5,5,6,6,6,6,6,6,6,6,6,6,6,6,6,6,6,6,6,6,6,6,6,6,6,6,6,6,6,6,6,6,6,6,7,7,7,7,7,7,7,7,7,7,7,7,7,7,7,7,7,7,7,7,7,7,7,7,7,7,7,7,7,7,7,7,7,7,7,7,7,7,7,7,7,7,7,7,7,7,7,7,7,7,7,7,7,7,7,7,7,7,7,7,7,7,7,7,8,8,8,8,8,8,8,8,8,8,8,8,8,8,8,8,8,8,8,8,8,8,8,8,8,8,8,8,8,8,8,8,8,8,8,8,8,8,8,8,8,8,8,8,8,8,8,8,8,8,8,8,8,8,8,8,8,8,8,8,8,8,8,8,8,8,8,8,8,8,8,8,8,8,8,8,8,8,8,8,8,8,8,8,8,8,8,8,8,8,8,8,8,8,8,8,8,8,8,8,8,8,8,8,8,8,8,8,8,8,8,8,8,8,8,8,8,8,8,8,8,8,8,8,8,8,8,8]
set_option maxRecDepth 100000 in
theorem len8_all:∀ x:Fin 128,len8[x.1]?=some (UInt8.ofNat (blen x.1)):=by decide +kernel
theorem len8_at {x:Nat} (hx:x < 128):len8[x]?=some (UInt8.ofNat (blen x)):=len8_all ⟨x,hx⟩
set_option maxRecDepth 100000 in
set_option maxHeartbeats 4000000 in
theorem c_math_bits_Len64 (M:Mem) (x:Nat) (hx:x < 128):aCall T0 F_math_bits_Len64 [.int .u64 x] M=some (.int .i64 (blen x),M):=by
  have h1:¬ (4294967296:Int)≤x:=by omega
  have h2:¬ (65536:Int)≤x:=by omega
  have h3:¬ (256:Int)≤x:=by omega
  have hb:=blen7 hx
  have w1:IntKind.u8.wrap (x:Int)=x:=wrap_u8 (by omega) (by omega)
  have w2:IntKind.i64.wrap ((blen x:Nat):Int)=blen x:=wrap_i64 (by omega) (by omega)
  have h0:(0:Int)≤x:=by omega
  have w3:(UInt8.ofNat (blen x)).toNat=blen x:=by simp; omega
  have ht:=len8_at hx
  unfold len8 at ht
  rw [aCall_eq T_math_bits_Len64]; unfold A_math_bits_Len64 C_math_bits_Len64; simp [apA,h1,h2,h3,w1,h0]
  simp only [ht]
  simp [apA,w2,w3,byteV]
theorem c_math_bits_Len (M:Mem) (x:Nat) (hx:x < 128):aCall T0 F_math_bits_Len [.int .u64 x] M=some (.int .i64 (blen x),M):=by
  have e:=fun M=>c_math_bits_Len64 M x hx
  rw [aCall_eq T_math_bits_Len]; unfold A_math_bits_Len C_math_bits_Len; simp [apA,e]
theorem shr_i64 {x k:Nat} (hx:x < 9223372036854775807) (hk:k≤63):bshr .i64 (x:Int) (k:Int)=((x / 2 ^ k:Nat):Int):=by
  unfold bshr
  have h1:min ((k:Int).toNat) IntKind.i64.bits=k:=by
    have:((k:Int).toNat)=k:=by omega
    rw [this]
    show min k 64=k
    omega
  rw [h1,Int.fdiv_eq_ediv_of_nonneg _ (by exact_mod_cast Nat.zero_le _)]
  have e:((2:Int) ^ k)=((2 ^ k:Nat):Int):=by simp
  rw [e]
  rfl
theorem c_impl_nodeAt (M:Mem) (m leaf lv:Nat) (hm:m≤6) (hl:leaf < 2 ^ m) (hv:lv≤m):aCall T0 F_impl_nodeAt [.int .i64 m,.int .i64 leaf,.int .i64 lv] M=some (.int .i64 (((2 ^ m+leaf) / 2 ^ (m - lv):Nat):Int),M):=by
  have hp:2 ^ m≤2 ^ 6:=Nat.pow_le_pow_right (by omega) hm
  have e1:bshl .i64 1 m=((2 ^ m:Nat):Int):=by
    unfold bshl
    have h1:min ((m:Int).toNat) IntKind.i64.bits=m:=by
      have:((m:Int).toNat)=m:=by omega
      rw [this]
      show min m 64=m
      omega
    rw [h1]
    have e:(1:Int) * 2 ^ m=((2 ^ m:Nat):Int):=by simp
    rw [e]
    exact wrap_i64 (by omega) (by omega)
  have e2:IntKind.i64.wrap (((2 ^ m:Nat):Int)+(leaf:Int))=((2 ^ m+leaf:Nat):Int):=by rw [wrap_i64 (by omega) (by omega)]; omega
  have e3:IntKind.i64.wrap ((m:Int) - (lv:Int))=((m - lv:Nat):Int):=by rw [wrap_i64 (by omega) (by omega)]; omega
  have e4:=shr_i64 (x:=2 ^ m+leaf) (k:=m - lv) (by omega) (by omega)
  have h0:¬ ((m - lv:Nat):Int) < 0:=by omega
  have h00:¬ (m:Int) < 0:=by omega
  generalize 2 ^ m+leaf=N at *
  generalize (2:Nat) ^ m=q at *
  generalize m - lv=k at *
  generalize N / 2 ^ k=r at *
  rw [aCall_eq T_impl_nodeAt]; unfold A_impl_nodeAt C_impl_nodeAt; simp [apA,e1,e2,e3,e4,h0,h00]
theorem c_impl_onPath (M:Mem) (m node leaf:Nat) (hm:m≤6) (hl:leaf < 2 ^ m) (h1:1≤node) (h2:node < 2 * 2 ^ m):aCall T0 F_impl_onPath [.int .i64 m,.int .i64 node,.int .i64 leaf] M=some (.bool (onP m node leaf),M):=by
  have hp:2 ^ m≤2 ^ 6:=Nat.pow_le_pow_right (by omega) hm
  have hb:blen node≤m+1:=blen_le.2 (by rw [Nat.pow_succ]; omega)
  have hb1:=blen_pos (x:=node) (by omega)
  have e1:IntKind.u64.wrap (node:Int)=node:=wrap_u64 (by omega) (by omega)
  have e2:=fun M=>c_math_bits_Len M node (by omega)
  have e3:IntKind.i64.wrap (((blen node:Nat):Int) - 1)=((blen node - 1:Nat):Int):=by rw [wrap_i64 (by omega) (by omega)]; omega
  have e4:=fun M=>c_impl_nodeAt M m leaf (blen node - 1) hm hl (by omega)
  unfold onP
  generalize (2 ^ m+leaf) / 2 ^ (m - (blen node - 1))=q at *
  by_cases hq:q=node
  · have hq':(q:Int)=(node:Int):=by omega
    rw [decide_eq_true hq]
    rw [aCall_eq T_impl_onPath]; unfold A_impl_onPath C_impl_onPath; simp [apA,e1,e2,e3,e4,hq,hq']
  · have hq':¬ (q:Int)=(node:Int):=by omega
    rw [decide_eq_false hq]
    rw [aCall_eq T_impl_onPath]; unfold A_impl_onPath C_impl_onPath; simp [apA,e1,e2,e3,e4,hq,hq']
theorem first_of {p:Nat→Bool}:∀ {n:Nat},(∃ i,i < n∧p i=true)→∃ i,i < n∧p i=true∧∀ j,j < i→p j=false
  | 0,⟨i,hi,_⟩=>by omega
  | n+1,⟨i,hi,hp⟩=>by
    by_cases h:∃ j,j < n∧p j=true
    · obtain ⟨j,h1,h2,h3⟩:=first_of h
      exact ⟨j,by omega,h2,h3⟩
    · have e:i=n:=by
        apply Classical.byContradiction
        intro hne
        exact h ⟨i,by omega,hp⟩
      subst e
      refine ⟨i,by omega,hp,fun j hj=>?_⟩
      cases hh:p j with
      | false=>rfl
      | true=>exact absurd ⟨j,hj,hh⟩ h
theorem c_impl_blockIndex_1 (M:Mem) (p:Nat) (id b1 b2:Int) (ua:Option Addr) (n c:Nat) (hp:rd1 M p 0=some (.int .i64 id)):aCall T0 F_impl_blockIndex_1 [.agg (tgB b1 b2 ua n c).toArray,.pointer (some ⟨p,0,none⟩)] M=some (.bool (decide (b1=id)),M):=by
  have hp':=fun N:Mem=>r1_pre (List.prefix_append M N) hp
  by_cases h:b1=id
  · rw [decide_eq_true h]
    rw [aCall_eq T_impl_blockIndex_1]; unfold A_impl_blockIndex_1 C_impl_blockIndex_1; simp [hp',h]
  · rw [decide_eq_false h]
    rw [aCall_eq T_impl_blockIndex_1]; unfold A_impl_blockIndex_1 C_impl_blockIndex_1; simp [hp',h]
theorem l_idxB (M:Mem) (p:Nat) (id:Int) (a:Option Addr) (c:Nat) (xs:List ty_Block.D) (h:Rep (.sl ty_Block) M [.slice a xs.length c] xs) (hp:rd1 M p 0=some (.int .i64 id)) (hn:xs.length≤1048576) (r:Nat) (hr:r≤xs.length) (hlt:∀ k (hk:k < xs.length),k < r→xs[k].1 ≠ id) :
    lp (aCall T0) K_slices_IndexFunc_impl_Block_impl_Block_0 L_slices_IndexFunc_impl_Block_impl_Block_0 [.slice a xs.length c,.func (.func F_impl_blockIndex_1) #[] #[.pointer (some ⟨p,0,none⟩)],O,O,O,O,O,.int .i64 xs.length,.int .i64 (0:Nat),O,O,O,O,O,O,O,O,O,O] M=lp (aCall T0) K_slices_IndexFunc_impl_Block_impl_Block_0 L_slices_IndexFunc_impl_Block_impl_Block_0 [.slice a xs.length c,.func (.func F_impl_blockIndex_1) #[] #[.pointer (some ⟨p,0,none⟩)],O,O,O,O,O,.int .i64 xs.length,.int .i64 r,O,O,O,O,O,O,O,O,O,O] M:=by
  have key:=loop_to (call:=aCall T0) (K:=K_slices_IndexFunc_impl_Block_impl_Block_0) (L:=L_slices_IndexFunc_impl_Block_impl_Block_0) (fun i (_:Nat) Y=>Y=M) (fun i (_:Nat)=>[.slice a xs.length c,.func (.func F_impl_blockIndex_1) #[] #[.pointer (some ⟨p,0,none⟩)],O,O,O,O,O,.int .i64 xs.length,.int .i64 i,O,O,O,O,O,O,O,O,O,O]) (n:=r) ?_ 0 0 M (by omega) rfl
  · obtain ⟨_,X',rfl,e⟩:=key
    exact e
  intro i _ Y hi hY
  subst hY
  have hix:i < xs.length:=by omega
  obtain ⟨l,o,u,rfl,_,_,_,hrd,_,_,qu,_⟩:=at_Block h hix
  have hb:=hlt i hix hi
  generalize xs[i]=b at *
  obtain ⟨b1,b2,b3⟩:=b
  simp only at *
  obtain ⟨ua,uc,rfl⟩:=qu.slen
  have s1:=c_impl_blockIndex_1 Y p id b1 b2 ua (List.length (α:=UInt8) b3) uc hp
  simp only [tgB] at s1
  rw [decide_eq_false hb] at s1
  have e6:IntKind.i64.wrap ((i:Int)+1)=i+1:=wrap_i64 (by omega) (by omega)
  refine ⟨0,Y,rfl,?_⟩
  rw [S_slices_IndexFunc_impl_Block_impl_Block_0]; unfold B_slices_IndexFunc_impl_Block_impl_Block_0; simp [apA,hix,hrd,s1,e6]
theorem c_impl_blockIndex (M:Mem) (v:V) (xs:List ty_Block.D) (id:Int) (h:Rep (.sl ty_Block) M [v] xs) (hn:xs.length≤1048576):∃ r:Int,aCall T0 F_impl_blockIndex [v,.int .i64 id] M=some (.int .i64 r,M)∧decide (0≤r)=hasId id xs∧(0≤r∨r=-1):=by
  obtain ⟨a,c,rfl⟩:=h.slen
  have hm:=h.mono (List.prefix_append M [(⟨[.int .i64 id],1,2⟩:Blk)])
  have hp:rd1 (M++[(⟨[.int .i64 id],1,2⟩:Blk)]) M.length 0=some (.int .i64 id):=by simp [rd1]
  cases hh:hasId id xs with
  | false =>
    have hlt:∀ k (hk:k < xs.length),k < xs.length→xs[k].1 ≠ id:=fun k hk _ e=>by
      have:hasId id xs=true:=List.any_eq_true.2 ⟨xs[k],List.getElem_mem hk,decide_eq_true e⟩
      rw [hh] at this
      cases this
    have e:=l_idxB _ M.length id a c xs hm hp hn xs.length (Nat.le_refl _) hlt
    simp only [Int.natCast_zero,Int.ofNat_zero] at e
    have e2:aCall T0 F_slices_IndexFunc_impl_Block_impl_Block [.slice a xs.length c,.func (.func F_impl_blockIndex_1) #[] #[.pointer (some ⟨M.length,0,none⟩)]] (M++[(⟨[.int .i64 id],1,2⟩:Blk)])=some (.int .i64 (-1),M++[(⟨[.int .i64 id],1,2⟩:Blk)]):=by
      rw [aCall_eq T_slices_IndexFunc_impl_Block_impl_Block]; unfold A_slices_IndexFunc_impl_Block_impl_Block C_slices_IndexFunc_impl_Block_impl_Block; simp [apA,e]
      rw [S_slices_IndexFunc_impl_Block_impl_Block_0]; unfold B_slices_IndexFunc_impl_Block_impl_Block_0; simp [apA]
    refine ⟨-1,?_,by simp,.inr rfl⟩
    rw [aCall_eq T_impl_blockIndex]; unfold A_impl_blockIndex C_impl_blockIndex; simp [apA,e2]
  | true =>
    obtain ⟨b,hb1,hb2⟩:=List.any_eq_true.1 hh
    obtain ⟨i0,hi0,rfl⟩:=List.getElem_of_mem hb1
    obtain ⟨i,hi,hq,hlt⟩:=first_of (p:=fun k=>match xs[k]? with | some b=>decide (b.1=id) | none=>false) (n:=xs.length) ⟨i0,hi0,by rw [List.getElem?_eq_getElem hi0]; exact hb2⟩
    rw [List.getElem?_eq_getElem hi] at hq
    have hq:xs[i].1=id:=of_decide_eq_true hq
    have hlt2:∀ k (hk:k < xs.length),k < i→xs[k].1 ≠ id:=fun k hk hki e=>by
      have:=hlt k hki
      rw [List.getElem?_eq_getElem hk] at this
      exact absurd e (of_decide_eq_false this)
    have e:=l_idxB _ M.length id a c xs hm hp hn i (by omega) hlt2
    simp only [Int.natCast_zero,Int.ofNat_zero] at e
    obtain ⟨l,o,u,rfl,_,_,_,hrd,_,_,qu,_⟩:=at_Block hm hi
    generalize xs[i]=b at *
    obtain ⟨b1,b2,b3⟩:=b
    simp only at *
    obtain ⟨ua,uc,rfl⟩:=qu.slen
    have s1:=c_impl_blockIndex_1 _ M.length id b1 b2 ua (List.length (α:=UInt8) b3) uc hp
    simp only [tgB] at s1
    rw [decide_eq_true hq] at s1
    have e2:aCall T0 F_slices_IndexFunc_impl_Block_impl_Block [.slice (some ⟨l,o,none⟩) xs.length c,.func (.func F_impl_blockIndex_1) #[] #[.pointer (some ⟨M.length,0,none⟩)]] (M++[(⟨[.int .i64 id],1,2⟩:Blk)])=some (.int .i64 (i:Int),M++[(⟨[.int .i64 id],1,2⟩:Blk)]):=by
      rw [aCall_eq T_slices_IndexFunc_impl_Block_impl_Block]; unfold A_slices_IndexFunc_impl_Block_impl_Block C_slices_IndexFunc_impl_Block_impl_Block; simp [apA,e]
      rw [S_slices_IndexFunc_impl_Block_impl_Block_0]; unfold B_slices_IndexFunc_impl_Block_impl_Block_0; simp [apA,hi,hrd,s1]
    refine ⟨i,?_,by simp,.inl (by omega)⟩
    rw [aCall_eq T_impl_blockIndex]; unfold A_impl_blockIndex C_impl_blockIndex; simp [apA,e2]
set_option maxHeartbeats 2000000 in
theorem s_oramBlocks_1 (M:Mem) (p m nd0:Nat) (a76 n77 i78:V) (bs:List ty_Block.D) (l2:Nat) (css:List (List V)) (Ls:List (List Nat)) (i:Nat) (hi:i < bs.length) (hp:rd1 M p 0=some (.int .i64 (m:Int))) (hm:m≤6) (hnd:nd0+1 < 2 * 2 ^ m) (h1:css.length=bs.length) (h2:Ls.length=bs.length) (hw:∀ c ∈ css,c.length=3)
    (hbs:∀ b ∈ bs,(0≤b.1∧b.1≤255)∧b.2.1=((Int.toNat b.2.1:Nat):Int)∧Int.toNat b.2.1 < 2 ^ m) (hnl:bs.length≤4) (hnd2:Ls.flatten.Nodup) (hj:∀ (a b:Nat) (A B:List Nat),a ≠ b→Ls[a]?=some A→Ls[b]?=some B→∀ j ∈ A,j ∉ B)
    (all:List ty_Block.D) (hal:all.length≤5000) (v:V) (X:Mem) (h:InI M bs l2 css Ls i all v X) :
    ((onP m (nd0+1) (Int.toNat bs[i].2.1) && !(hasId bs[i].1 all))=true∧∃ v' X',InI M bs l2 css Ls (i+1) (putL bs[i] all) v' X'∧lp (aCall T0) K_impl_oramBlocks_1 L_impl_oramBlocks_1 (FoB p v nd0 a76 n77 i78 l2 bs.length i) X=lp (aCall T0) K_impl_oramBlocks_1 L_impl_oramBlocks_1 (FoB p v' nd0 a76 n77 i78 l2 bs.length (i+1)) X') ∨
    ((onP m (nd0+1) (Int.toNat bs[i].2.1) && !(hasId bs[i].1 all))=false∧RtF M (lp (aCall T0) K_impl_oramBlocks_1 L_impl_oramBlocks_1 (FoB p v nd0 a76 n77 i78 l2 bs.length i) X)):=by
  obtain ⟨L,g,nd,hge,hdis⟩:=h.gr
  have hp6:2 ^ m≤2 ^ 6:=Nat.pow_le_pow_right (by omega) hm
  have hki:=hbs _ (List.getElem_mem hi)
  have hds:=h.el i (css[i]'(by omega)) bs[i] (Ls[i]'(by omega)) (Nat.le_refl _) (by simp) (by simp) (by simp)
  have hfl:css.flatten.length=bs.length * 3:=by rw [flat_len hw,h1]
  have hrd:rdn X l2 (i * 3) 3=some (css[i]'(by omega)):=by
    have:=flat_atr (w:=3) css i (by omega) [] hw
    simp only [rdn,h.hb]
    rw [List.append_nil] at this
    rw [if_pos (by refine ⟨by simp,by omega⟩),this]
  obtain ⟨gb,gk⟩:=hds
  obtain ⟨u,hu,w0,w1,qu⟩:=rep_g_Block gb.rep
  obtain ⟨ua,uc,rfl⟩:=qu.slen
  have hon:∀ Y,aCall T0 F_impl_onPath [.int .i64 m,.int .i64 ((nd0:Int)+1),.int .i64 (Int.toNat bs[i].2.1:Int)] Y=some (.bool (onP m (nd0+1) (Int.toNat bs[i].2.1)),Y):=fun Y=>c_impl_onPath Y m (nd0+1) (Int.toNat bs[i].2.1) hm (by exact hki.2.2) (by omega) hnd
  obtain ⟨a,rfl⟩:=g.shape
  have e6:IntKind.i64.wrap ((i:Int)+1)=i+1:=wrap_i64 (by omega) (by omega)
  have e7:IntKind.i64.wrap ((nd0:Int)+1)=nd0+1:=wrap_i64 (by omega) (by omega)
  have hp':=fun N:Mem=>r1_pre (h.pre.trans (List.prefix_append X N)) hp
  rw [hu] at hrd gb
  have hlf:=hki.2.1
  have hidR:=hki.1
  have hnbi:=hdis
  generalize hbi:bs[i]=b at *
  obtain ⟨b1,b2,b3⟩:=b
  simp only at hlf hidR hon hrd gb w0 w1 qu ⊢
  generalize Int.toNat b2=lf at *
  subst hlf
  have hxp:X <+: X++[(⟨[.int .i64 b1,.int .i64 (lf:Int),.slice ua (List.length (α:=UInt8) b3) uc],1,2⟩:Blk)]:=List.prefix_append _ _
  obtain ⟨r,hr1,hr2,hr3⟩:=c_impl_blockIndex _ _ all b1 (g.grow hxp).rep (by omega)
  have hpr:rdn (X++[(⟨[.int .i64 b1,.int .i64 (lf:Int),.slice ua (List.length (α:=UInt8) b3) uc],1,2⟩:Blk)]) X.length 0 3=some [.int .i64 b1,.int .i64 (lf:Int),.slice ua (List.length (α:=UInt8) b3) uc]:=rdn_box (by simp) rfl
  cases h3:onP m (nd0+1) lf with
  | false =>
    rw [h3] at hon
    right
    refine ⟨rfl,?_⟩
    rw [S_impl_oramBlocks_1]; unfold B_impl_oramBlocks_1; simp [apA,hi,hrd,hp',e7,hon,zeroCells]
    refine ⟨_,_,rfl,?_,h.pre.trans hxp⟩
    rfl
  | true =>
    rw [h3] at hon
    cases h4:hasId b1 all with
    | true =>
      rw [h4] at hr2
      have hr2:=of_decide_eq_true hr2
      right
      refine ⟨rfl,?_⟩
      rw [S_impl_oramBlocks_1]; unfold B_impl_oramBlocks_1; simp [apA,hi,hrd,hp',e7,hon,hr1,hr2,zeroCells]
      refine ⟨_,_,rfl,?_,h.pre.trans hxp⟩
      rfl
    | false =>
      rw [h4] at hr2
      have hr2:¬ 0≤r:=of_decide_eq_false hr2
      have hB:=c_impl_blockPut _ (.slice a all.length all.length) all L [.int .i64 b1,.int .i64 (lf:Int),.slice ua (List.length (α:=UInt8) b3) uc] (b1,(lf:Int),b3) _ (g.grow hxp) (gb.grow hxp) (fun j hj hm=>by
        have q1:=(hdis j hm).2 i _ (Nat.le_refl _) (List.getElem?_eq_getElem (by omega))
        exact q1 hj) nd (gr_Block_nd gb) (by omega) h.lt h.rg hidR
      left
      refine ⟨rfl,?_⟩
      rw [S_impl_oramBlocks_1]; unfold B_impl_oramBlocks_1; simp [apA,hi,hrd,hp',e7,hon,hr1,hr2,hpr,zeroCells]
      generalize hx:aCall T0 F_impl_blockPut _ _=xhx
      obtain ⟨v3,X3,rfl,L3,g3,n3,hL3,ag,hl3⟩:=of_call hx hB
      clear hx
      simp only at g3 ag hl3
      simp [apA,e6]
      have hlX:=get_lt h.hb
      have hlen:(X++[(⟨[.int .i64 b1,.int .i64 (lf:Int),.slice ua (List.length (α:=UInt8) b3) uc],1,2⟩:Blk)]).length=X.length+1:=by simp
      have hL2:l2 ∉ L:=fun hm=>(hdis l2 hm).1 rfl
      have hpM:=(h.pre.trans hxp).length_le
      have hgetL:Ls[i]?=some (Ls[i]'(by omega)):=List.getElem?_eq_getElem (by omega)
      refine ⟨v3,X3,⟨ag.pre (h.pre.trans hxp) hge,⟨L3,g3,n3,fun j hm=>?_,fun j hm=>?_⟩,?_,?_,putL_lt h.lt h4,putL_ids h.rg hidR⟩,rfl⟩
      · rcases hL3 j hm with q | q | q
        · exact hge j q
        · exact (gk j q).1
        · have:=h.pre.length_le; omega
      · rcases hL3 j hm with q | q | q
        · exact ⟨(hdis j q).1,fun k K hk hK=>(hdis j q).2 k K (by omega) hK⟩
        · exact ⟨(gk j q).2,fun k K hk hK=>hj i k _ K (by omega) hgetL hK j q⟩
        · refine ⟨by omega,fun k K hk hK hjK=>?_⟩
          have hk2:k < Ls.length:=(List.getElem?_eq_some_iff.1 hK).1
          have:=(h.el k (css[k]'(by omega)) (bs[k]'(by omega)) K (by omega) (List.getElem?_eq_getElem (by omega)) (List.getElem?_eq_getElem (by omega)) hK).1.lt j hjK
          omega
      · rw [ag.2 l2 (by omega) hL2]
        exact get_pre hxp h.hb
      · intro k ds x K hk hd hx hK
        obtain ⟨q1,q2⟩:=h.el k ds x K (by omega) hd hx hK
        exact ⟨(q1.grow hxp).agree ag (fun j hm hmL=>(hdis j hmL).2 k K (by omega) hK hm),q2⟩
theorem l_oramBlocks_1 (M:Mem) (p m nd0:Nat) (a76 n77 i78:V) (bs:List ty_Block.D) (l2:Nat) (css:List (List V)) (Ls:List (List Nat)) (hp:rd1 M p 0=some (.int .i64 (m:Int))) (hm:m≤6) (hnd:nd0+1 < 2 * 2 ^ m) (h1:css.length=bs.length) (h2:Ls.length=bs.length) (hw:∀ c ∈ css,c.length=3)
    (hbs:∀ b ∈ bs,(0≤b.1∧b.1≤255)∧b.2.1=((Int.toNat b.2.1:Nat):Int)∧Int.toNat b.2.1 < 2 ^ m) (hnl:bs.length≤4) (hnd2:Ls.flatten.Nodup) (hj:∀ (a b:Nat) (A B:List Nat),a ≠ b→Ls[a]?=some A→Ls[b]?=some B→∀ j ∈ A,j ∉ B) :
    ∀ (d i:Nat),i+d=bs.length→∀ (all:List ty_Block.D) (v:V) (X:Mem),InI M bs l2 css Ls i all v X →
    (∃ all' v' X',inO m (nd0+1) all (bs.drop i)=some all'∧InI M bs l2 css Ls bs.length all' v' X'∧lp (aCall T0) K_impl_oramBlocks_1 L_impl_oramBlocks_1 (FoB p v nd0 a76 n77 i78 l2 bs.length i) X=lp (aCall T0) K_impl_oramBlocks_1 L_impl_oramBlocks_1 (FoB p v' nd0 a76 n77 i78 l2 bs.length bs.length) X') ∨
    (inO m (nd0+1) all (bs.drop i)=none∧RtF M (lp (aCall T0) K_impl_oramBlocks_1 L_impl_oramBlocks_1 (FoB p v nd0 a76 n77 i78 l2 bs.length i) X))
  | 0,i,hd,all,v,X,h=>by
    have e:i=bs.length:=by omega
    subst e
    exact .inl ⟨all,v,X,by simp [inO],h,rfl⟩
  | d+1,i,hd,all,v,X,h=>by
    have hi:i < bs.length:=by omega
    have hlen:=lt_len h.lt h.rg
    have hdr:bs.drop i=bs[i] :: bs.drop (i+1):=List.drop_eq_getElem_cons hi
    rw [hdr]
    unfold inO
    rcases s_oramBlocks_1 M p m nd0 a76 n77 i78 bs l2 css Ls i hi hp hm hnd h1 h2 hw hbs hnl hnd2 hj all (by omega) v X h with ⟨q,v',X',h',e⟩ | ⟨q,r⟩
    · rw [if_pos q,e]
      exact l_oramBlocks_1 M p m nd0 a76 n77 i78 bs l2 css Ls hp hm hnd h1 h2 hw hbs hnl hnd2 hj d (i+1) (by omega) _ v' X' h'
    · rw [if_neg (by rw [q]; simp)]
      exact .inr ⟨rfl,r⟩
theorem in_bs {M X:Mem} {w:V} {bs:List ty_Block.D} {K:List Nat} (hp:M <+: X) (h:Gr (.sl ty_Block) X [w] bs K) (nd:K.Nodup) (hK:∀ j ∈ K,M.length≤j) (hne:bs ≠ []):∃ l2 css Ls,w=.slice (some ⟨l2,0,none⟩) bs.length bs.length∧css.length=bs.length∧Ls.length=bs.length∧(∀ c ∈ css,c.length=3)∧(∀ (a b:Nat) (A B:List Nat),a ≠ b→Ls[a]?=some A→Ls[b]?=some B→∀ j ∈ A,j ∉ B)∧Ls.flatten.Nodup∧K=l2 :: Ls.flatten ∧
    ∀ (all:List ty_Block.D) (v:V) (L:List Nat),Gr (.sl ty_Block) X [v] all L→L.Nodup→(∀ j ∈ L,M.length≤j)→(∀ j ∈ L,j ∉ K)→IdLt all→IdsR all→InI M bs l2 css Ls 0 all v X:=by
  rcases h with ⟨_,rfl,_⟩ | ⟨l2,css,Ls,e,hb,h1,h2,h3,rfl⟩
  · exact absurd rfl hne
  cases e
  have hnd:=List.nodup_cons.1 nd
  have hfl:=hnd.2
  have hw:∀ c ∈ css,c.length=3:=fun c hc=>by
    obtain ⟨k,hk,rfl⟩:=List.getElem_of_mem hc
    exact (h3 k _ (bs[k]'(by omega)) (Ls[k]'(by omega)) (by simp) (by simp) (by simp)).len
  refine ⟨l2,css,Ls,rfl,h1,h2,hw,?_,hfl,rfl,fun all v L g1 g2 g3 g4 g5 g6=>⟨hp,⟨L,g1,g2,g3,fun j hj=>⟨fun e=>g4 j hj (by rw [e]; exact List.mem_cons_self ..),fun k K _ hK hm=>g4 j hj (List.mem_cons_of_mem _ (List.mem_flatten.2 ⟨K,List.mem_of_getElem? hK,hm⟩))⟩⟩,hb,fun k ds x K _ q1 q2 q3=>⟨h3 k ds x K q1 q2 q3,fun j hj=>⟨hK j (List.mem_cons_of_mem _ (List.mem_flatten.2 ⟨K,List.mem_of_getElem? q3,hj⟩)),fun e=>hnd.1 (by rw [← e]; exact List.mem_flatten.2 ⟨K,List.mem_of_getElem? q3,hj⟩)⟩⟩,g5,g6⟩⟩
  intro a b A B hab hA hB j hjA hjB
  have hfl:=List.pairwise_flatten.1 hfl
  obtain ⟨ha,rfl⟩:=List.getElem?_eq_some_iff.1 hA
  obtain ⟨hb2,rfl⟩:=List.getElem?_eq_some_iff.1 hB
  have hpw:=List.pairwise_iff_getElem.1 hfl.2
  rcases Nat.lt_or_ge a b with h | h
  · exact hpw a b ha hb2 h j hjA j hjB rfl
  · exact hpw b a hb2 ha (by omega) j hjB j hjA rfl
theorem sto_some {M:Mem} {Lp:List V→Mem→R} {F:V→List V} {o:Option (List ty_Block.D)} {a:List ty_Block.D} {r:R} (ho:o=some a) (h:∃ v' X',OuI M a v' X'∧r=Lp (F v') X'):StO M Lp F o r:=by subst ho; exact h
theorem sto_none {M:Mem} {Lp:List V→Mem→R} {F:V→List V} {o:Option (List ty_Block.D)} {r:R} (ho:o=none) (h:RtF M r):StO M Lp F o r:=by subst ho; exact h
set_option maxHeartbeats 2000000 in
theorem s_oramBlocks_0 (M:Mem) (p m:Nat) (w:Int) (aC:Option Addr) (cC:Nat) (cells:List ty_Cell.D) (hC:Rep (.sl ty_Cell) M [.slice aC cells.length cC] cells) (i:Nat) (hi:i < cells.length) (hp:rd1 M p 0=some (.int .i64 (m:Int))) (hpw:rd1 M p 1=some (.int .i64 w)) (hm:m≤6) (hlen:cells.length+1=2 * 2 ^ m) (hsz:∀ c ∈ cells,List.length (α:=UInt8) c≤1048576)
    (all:List ty_Block.D) (v:V) (X:Mem) (h:OuI M all v X) :
    StO M (lp (aCall T0) K_impl_oramBlocks_0 L_impl_oramBlocks_0) (FoOn p aC cells.length cC (i+1)) (nxO m w (i+1) cells[i] all) (lp (aCall T0) K_impl_oramBlocks_0 L_impl_oramBlocks_0 (FoO p v aC cells.length cC i) X):=by
  obtain ⟨L,g,nd,hge⟩:=h.gr
  obtain ⟨l,o,u,rfl,hrd,hrn,hu⟩:=at_Cell (hC.mono h.pre) hi
  have hszi:=hsz _ (List.getElem_mem hi)
  have hp6:2 ^ m≤2 ^ 6:=Nat.pow_le_pow_right (by omega) hm
  obtain ⟨ua,uc,rfl⟩:=hu.slen
  generalize hcl:cells[i]=c at *
  have e6:IntKind.i64.wrap ((i:Int)+1)=i+1:=wrap_i64 (by omega) (by omega)
  have hp':=fun N:Mem=>r1_pre (h.pre.trans (List.prefix_append X N)) hp
  have hpw':=fun N:Mem=>r1_pre (h.pre.trans (List.prefix_append X N)) hpw
  have hNR:=c_impl_nodeRead (X++[(⟨[.slice ua (List.length (α:=UInt8) c) uc],1,2⟩:Blk)]) (.slice ua (List.length (α:=UInt8) c) uc) c m w (hu.mono (List.prefix_append _ _)) hszi
  rw [S_impl_oramBlocks_0]; unfold B_impl_oramBlocks_0; simp [apA,hi,hrd,hrn,hp',hpw',zeroCells]
  generalize hx:aCall T0 F_impl_nodeRead _ _=xhx
  obtain ⟨_,X1,rfl,r,L1,rfl,p1,g1,n1,k1⟩:=of_call hx hNR
  clear hx
  simp only at p1 g1
  have pX:X <+: X1:=(List.prefix_append _ _).trans p1
  have pM:=h.pre.trans pX
  have hk1:∀ j ∈ L1,X.length≤j:=fun j hj=>by have:=k1 j hj; simp at this; omega
  unfold nxO
  cases hok:ndOk m w c with
  | false =>
    refine sto_none (by simp) ?_
    simp [apA]
    refine ⟨_,_,rfl,?_,pM⟩
    rfl
  | true =>
    have hx:ndX m w c=ndB (Int.toNat w) c:=by unfold ndX; rw [if_pos hok]
    have hbl:blocksB m w (ndB (Int.toNat w) c)=true:=by
      unfold ndOk at hok
      simp only [Bool.and_eq_true] at hok
      exact hok.2.2.1
    have hbs:=leafs_of hbl
    have hnl:=ndB_len (Int.toNat w) c
    rw [hx] at g1
    rw [if_pos rfl]
    generalize ndB (Int.toNat w) c=bs at *
    obtain ⟨a1,rfl⟩:=g1.shape
    have g':=g.grow pX
    by_cases hne:bs=[]
    · subst hne
      refine sto_some (a:=all) rfl ?_
      simp only [List.length_nil]
      simp [apA]
      rw [S_impl_oramBlocks_1]; unfold B_impl_oramBlocks_1; simp [apA,e6]
      exact ⟨_,X1,⟨pM,⟨L,g',nd,hge⟩,h.lt,h.rg⟩,rfl⟩
    · obtain ⟨l2,css,Ls,e,h1,h2,hw,hj,hfl,rfl,hI⟩:=in_bs pM g1 n1 (fun j hj=>by have:=hk1 j hj; have:=h.pre.length_le; omega) hne
      cases e
      have hI0:=hI all v L g' nd hge (fun j hj hm=>by have:=hk1 j hm; have:=g.lt j hj; omega) h.lt h.rg
      have key:=l_oramBlocks_1 M p m i (.slice (some ⟨l,o,none⟩) cells.length cC) (.int .i64 cells.length) (.int .i64 i) bs l2 css Ls hp hm (by omega) h1 h2 hw hbs hnl hfl hj bs.length 0 (by omega) all v X1 hI0
      rw [List.drop_zero] at key
      simp only [FoB,Int.natCast_zero,Int.ofNat_zero] at key
      rcases key with ⟨all',v',X',q1,q2,e⟩ | ⟨q1,fr,X',e,q2,q3⟩
      · refine sto_some q1 ?_
        simp [apA,e]
        rw [S_impl_oramBlocks_1]; unfold B_impl_oramBlocks_1; simp [apA,e6]
        obtain ⟨L',g2,n2,k2,_⟩:=q2.gr
        exact ⟨_,X',⟨q2.pre,⟨L',g2,n2,k2⟩,q2.lt,q2.rg⟩,rfl⟩
      · refine sto_none q1 ?_
        simp [apA,e]
        exact ⟨fr,X',rfl,q2,q3⟩
theorem l_oramBlocks_0 (M:Mem) (p m:Nat) (w:Int) (aC:Option Addr) (cC:Nat) (cells:List ty_Cell.D) (hC:Rep (.sl ty_Cell) M [.slice aC cells.length cC] cells) (hp:rd1 M p 0=some (.int .i64 (m:Int))) (hpw:rd1 M p 1=some (.int .i64 w)) (hm:m≤6) (hlen:cells.length+1=2 * 2 ^ m) (hsz:∀ c ∈ cells,List.length (α:=UInt8) c≤1048576) :
    ∀ (d i:Nat),i+d=cells.length→∀ (all:List ty_Block.D) (v:V) (X:Mem),OuI M all v X →
    StO M (lp (aCall T0) K_impl_oramBlocks_0 L_impl_oramBlocks_0) (FoOn p aC cells.length cC cells.length) (outO m w (i+1) (cells.drop i) all) (lp (aCall T0) K_impl_oramBlocks_0 L_impl_oramBlocks_0 (FoO p v aC cells.length cC i) X)
  | 0,i,hd,all,v,X,h=>by
    have e:i=cells.length:=by omega
    subst e
    rw [List.drop_length]
    exact ⟨v,X,h,rfl⟩
  | d+1,i,hd,all,v,X,h=>by
    have hi:i < cells.length:=by omega
    have hdr:cells.drop i=cells[i] :: cells.drop (i+1):=List.drop_eq_getElem_cons hi
    rw [hdr]
    have key:=s_oramBlocks_0 M p m w aC cC cells hC i hi hp hpw hm hlen hsz all v X h
    unfold outO
    unfold nxO at key
    by_cases hok:ndOk m w cells[i]=true
    · rw [if_pos hok] at key ⊢
      cases hq:inO m (i+1) all (ndB (Int.toNat w) cells[i]) with
      | none =>
        rw [hq] at key
        exact key
      | some a =>
        rw [hq] at key
        obtain ⟨v',X',h',e⟩:=key
        rw [e]
        exact l_oramBlocks_0 M p m w aC cC cells hC hp hpw hm hlen hsz d (i+1) (by omega) a v' X' h'
    · rw [if_neg hok] at key ⊢
      exact key
theorem c_impl_treeNodes (M:Mem) (m n:Nat) (h:m≤6) (hn:n=2 * 2 ^ m - 1):aCall T0 F_impl_treeNodes [.int .i64 m] M=some (.int .i64 n,M):=by
  subst hn
  match m,h with
  | 0,_=>rw [aCall_eq T_impl_treeNodes]; unfold A_impl_treeNodes C_impl_treeNodes; simp; decide
  | 1,_=>rw [aCall_eq T_impl_treeNodes]; unfold A_impl_treeNodes C_impl_treeNodes; simp; decide
  | 2,_=>rw [aCall_eq T_impl_treeNodes]; unfold A_impl_treeNodes C_impl_treeNodes; simp; decide
  | 3,_=>rw [aCall_eq T_impl_treeNodes]; unfold A_impl_treeNodes C_impl_treeNodes; simp; decide
  | 4,_=>rw [aCall_eq T_impl_treeNodes]; unfold A_impl_treeNodes C_impl_treeNodes; simp; decide
  | 5,_=>rw [aCall_eq T_impl_treeNodes]; unfold A_impl_treeNodes C_impl_treeNodes; simp; decide
  | 6,_=>rw [aCall_eq T_impl_treeNodes]; unfold A_impl_treeNodes C_impl_treeNodes; simp; decide
theorem win_ok (M:Mem) (x a b:Int):aCall T0 F_impl_within [.int .i64 x,.int .i64 a,.int .i64 b] M=some (.bool (decide (a≤x∧x≤b)),M):=by
  rw [c_impl_within,Bool.decide_and]
theorem within_ok {a lo hi:Int} (h1:lo≤a) (h2:a≤hi):decide (lo≤a∧a≤hi)=true:=decide_eq_true ⟨h1,h2⟩
theorem l_impl_isMem_0 (M X:Mem) (m:ty_Mem.D) (a b:Option Addr) (c d p:Nat) (hM:M <+: X) (hb:X[p]?=some ⟨[.int .i64 m.1,.slice a m.2.1.length c,.slice b m.2.2.length d],1,2⟩) (h:Rep (.sl ty_Touch) M [.slice b m.2.2.length d] m.2.2) (hn:m.2.2.length≤6000) (hn2:m.2.1.length≤128) :
    (∃ X',M <+: X'∧X <+: X'∧(∀ i,i < m.2.2.length→atB (touchB m) m.2.2 i=true)∧lp (aCall T0) K_impl_isMem_0 L_impl_isMem_0 [O,.pointer (some ⟨p,0,none⟩),O,O,O,O,O,O,O,O,O,O,O,O,O,O,O,O,O,O,O,O,.slice b m.2.2.length d,.int .i64 m.2.2.length,.int .i64 (0:Nat),O,O,O,O,O,O,O,O,O,O,O,O,O,O,O,O,O,O,O,O,O,O,O,O,O,O,O,O,O,O] X=lp (aCall T0) K_impl_isMem_0 L_impl_isMem_0 [O,.pointer (some ⟨p,0,none⟩),O,O,O,O,O,O,O,O,O,O,O,O,O,O,O,O,O,O,O,O,.slice b m.2.2.length d,.int .i64 m.2.2.length,.int .i64 m.2.2.length,O,O,O,O,O,O,O,O,O,O,O,O,O,O,O,O,O,O,O,O,O,O,O,O,O,O,O,O,O,O] X'∧X'[p]?=some ⟨[.int .i64 m.1,.slice a m.2.1.length c,.slice b m.2.2.length d],1,2⟩) ∨
    ((∃ i,i < m.2.2.length∧atB (touchB m) m.2.2 i=false)∧∀ k,thenF M [.tmp 2] (thenS (blockR 0 (lp (aCall T0) K_impl_isMem_0 L_impl_isMem_0 [O,.pointer (some ⟨p,0,none⟩),O,O,O,O,O,O,O,O,O,O,O,O,O,O,O,O,O,O,O,O,.slice b m.2.2.length d,.int .i64 m.2.2.length,.int .i64 (0:Nat),O,O,O,O,O,O,O,O,O,O,O,O,O,O,O,O,O,O,O,O,O,O,O,O,O,O,O,O,O,O] X)) (aCall T0) k)=some (.bool false,M)):=by
  have key:=loop_ok (call:=aCall T0) (K:=K_impl_isMem_0) (L:=L_impl_isMem_0) (fun _ Y=>X <+: Y) (fun i=>[O,.pointer (some ⟨p,0,none⟩),O,O,O,O,O,O,O,O,O,O,O,O,O,O,O,O,O,O,O,O,.slice b m.2.2.length d,.int .i64 m.2.2.length,.int .i64 i,O,O,O,O,O,O,O,O,O,O,O,O,O,O,O,O,O,O,O,O,O,O,O,O,O,O,O,O,O,O]) (atB (touchB m) m.2.2) (n:=m.2.2.length) (M0:=M) (rs:=[.tmp 2]) (k0:=0) (a:=.bool false) X (List.prefix_refl _) ?_ ?_
  · rcases key with ⟨X',h0,h1,h2⟩ | h
    · exact .inl ⟨X',hM.trans h0,h0,h1,h2,get_pre h0 hb⟩
    · exact .inr h
  · intro i Y hi hq hY
    obtain ⟨l,o,rfl,_,q1,_⟩:=at_Touch (h.mono (hM.trans hY)) hi
    have hbY:=get_pre hY hb
    have hbY2:∀ N:Mem,(Y++N)[p]?=some ⟨[.int .i64 m.1,.slice a m.2.1.length c,.slice (some ⟨l,o,none⟩) m.2.2.length d],1,2⟩:=fun N=>get_pre' hbY
    rw [atB_get _ hi] at hq
    have hq:=touch_ok hq
    generalize m.2.2[i]=t at q1 hq
    obtain ⟨t1,t2,t3⟩:=t
    simp only at hq q1
    obtain ⟨g1,g2,g2',g3,g3',g3'',g4⟩:=hq
    have e5:IntKind.i64.wrap ((m.2.1.length:Int) - 1)=m.2.1.length - 1:=wrap_i64 (by omega) (by omega)
    have e6:IntKind.i64.wrap ((i:Int)+1)=i+1:=wrap_i64 (by omega) (by omega)
    have w1:=fun N:Mem=>win_ok (Y++N) t1 1 2
    rw [within_ok (by omega) (by omega)] at w1
    have w2:=fun N:Mem=>win_ok (Y++N) t2 0 (m.2.1.length - 1)
    rw [within_ok g2' g3''] at w2
    refine ⟨Y++[⟨enc_Touch (t1,t2,t3),1,2⟩],hY.trans (List.prefix_append _ _),?_⟩
    clear g1
    rw [S_impl_isMem_0]; unfold B_impl_isMem_0; simp [apA,hbY,hbY2,hi,q1,w1,w2,e5,g4,e6,rd1_K,rdJ_ok]
  · intro i Y hi hq hY k
    obtain ⟨l,o,rfl,_,q1,_⟩:=at_Touch (h.mono (hM.trans hY)) hi
    have hbY:=get_pre hY hb
    have hbY2:∀ N:Mem,(Y++N)[p]?=some ⟨[.int .i64 m.1,.slice a m.2.1.length c,.slice (some ⟨l,o,none⟩) m.2.2.length d],1,2⟩:=fun N=>get_pre' hbY
    rw [atB_get _ hi] at hq
    have hq:=touch_cases hq
    generalize m.2.2[i]=t at q1 hq
    obtain ⟨t1,t2,t3⟩:=t
    simp only at hq q1
    have gb:=fun (cs:List V) b=>gc_boolp (hM.trans (hY.trans (List.prefix_append Y [⟨cs,1,2⟩]))) b
    have e5:IntKind.i64.wrap ((m.2.1.length:Int) - 1)=m.2.1.length - 1:=wrap_i64 (by omega) (by omega)
    have w1:=fun N:Mem=>win_ok (Y++N) t1 1 2
    have w2:=fun N:Mem=>win_ok (Y++N) t2 0 (m.2.1.length - 1)
    rcases hq with ⟨g1,g2⟩ | ⟨g1,_,g2⟩ | ⟨g1,⟨_,g2⟩,_,_,g3⟩ | ⟨g1,⟨_,g2⟩,⟨_,_,g3⟩,g4⟩
    · rw [decide_eq_false (by omega)] at w1
      rw [S_impl_isMem_0]; unfold B_impl_isMem_0; simp [apA,hbY,hbY2,hi,q1,w1,gb,rd1_K,rdJ_ok]
    · rw [within_ok (by omega) (by omega)] at w1
      rw [decide_eq_false (by omega)] at w2
      clear g1
      rw [S_impl_isMem_0]; unfold B_impl_isMem_0; simp [apA,hbY,hbY2,hi,q1,w1,w2,e5,gb,rd1_K,rdJ_ok]
    · rw [within_ok (by omega) (by omega)] at w1
      rw [decide_eq_false (by omega)] at w2
      clear g1
      rw [S_impl_isMem_0]; unfold B_impl_isMem_0; simp [apA,hbY,hbY2,hi,q1,w1,w2,e5,gb,rd1_K,rdJ_ok]
    · rw [within_ok (by omega) (by omega)] at w1
      rw [within_ok g2 g3] at w2
      clear g1
      rw [S_impl_isMem_0]; unfold B_impl_isMem_0; simp [apA,hbY,hbY2,hi,q1,w1,w2,e5,g4,gb,rd1_K,rdJ_ok]
theorem c_impl_isMem_1 (M:Mem) (u:V) (x:ty_Cell.D) (h:Rep (.sl ty_Byte) M [u] x) (p:Nat) (sz:Int) (hp:rd1 M p 0=some (.int .i64 sz)):aCall T0 F_impl_isMem_1 [.agg #[u],.pointer (some ⟨p,0,none⟩)] M=some (.bool (decide (¬ ((List.length (α:=UInt8) x:Nat):Int)=sz)),M):=by
  have h2:∀ N,rd1 (M++N) p 0=some (.int .i64 sz):=fun N=>rd1_old hp
  obtain ⟨_,_,rfl⟩:=h.slen
  rw [aCall_eq T_impl_isMem_1]; unfold A_impl_isMem_1 C_impl_isMem_1; simp [apA,h2]
theorem rep_cell1 {M:Mem} {cs:List V} {x:ty_Cell.D} (h:Rep ty_Cell M cs x):∃ u,cs=[u]:=by
  rcases h with ⟨rfl,_⟩ | ⟨_,_,_,_,_,rfl,_⟩
  · exact ⟨_,rfl⟩
  · exact ⟨_,rfl⟩
theorem c_impl_isMem (M:Mem) (cs:List V) (m:ty_Mem.D) (h:Rep ty_Mem M cs m):aCall T0 F_impl_isMem [.agg cs.toArray] M=some (.bool (memB m),M):=by
  obtain ⟨a,b,c,d,rfl,r0,r1⟩:=mem_shape h
  unfold memB
  have hp:M <+: M++[⟨[.int .i64 m.1,.slice a m.2.1.length c,.slice b m.2.2.length d],1,2⟩]:=List.prefix_append _ _
  have w1:=fun N:Mem=>win_ok (M++N) m.1 1 1000
  rcases mem_cases m.1 m.2.1.length m.2.2.length with ⟨h0,hh⟩ | ⟨h0,⟨h1,_⟩,⟨_,h2⟩,⟨h3,h3'⟩,⟨h4,h4'⟩⟩
  · rw [h0,Bool.false_and]
    clear h0
    rcases hh with ⟨_,h1⟩ | ⟨⟨h1,_⟩,_,h2⟩ | ⟨⟨h1,_⟩,⟨_,h2⟩,h3,h3'⟩ | ⟨⟨h1,_⟩,⟨_,h2⟩,⟨h3,h3'⟩,h4,h4'⟩
    · rw [decide_eq_false (fun q=>h1 q.1)] at w1
      rw [aCall_eq T_impl_isMem]; unfold A_impl_isMem C_impl_isMem; simp [apA,w1]
    · rw [decide_eq_false (fun q=>h2 q.2)] at w1
      rw [aCall_eq T_impl_isMem]; unfold A_impl_isMem C_impl_isMem; simp [apA,w1]
    · rw [within_ok h1 h2] at w1
      rw [aCall_eq T_impl_isMem]; unfold A_impl_isMem C_impl_isMem; simp [apA,w1,h3,h3']
    · rw [within_ok h1 h2] at w1
      rw [aCall_eq T_impl_isMem]; unfold A_impl_isMem C_impl_isMem; simp [apA,w1,h3,h3',h4,h4']
  rw [h0,Bool.true_and]
  rw [within_ok h1 h2] at w1
  rcases l_impl_isMem_0 M _ m a b c d M.length hp (by simp) r1 (by omega) (by omega) with ⟨X',hX,hX2,ha2,e2,hb⟩ | ⟨hn2,e2⟩
  · simp only [Int.natCast_zero,Int.ofNat_zero] at e2
    rw [atB_all ha2,Bool.and_true]
    have gb:=fun b=>gc_boolp hX b
    have ha:=any_sl T_slices_ContainsFunc_impl_Cell_impl_Cell T_slices_IndexFunc_impl_Cell_impl_Cell rfl (r0.mono hX) (by omega) F_impl_isMem_1 [.pointer (some ⟨M.length,0,none⟩)] (fun x=>decide (¬ ((List.length (α:=UInt8) x:Nat):Int)=m.1)) (fun i hi cs hr=>by
      obtain ⟨u,rfl⟩:=rep_cell1 hr
      exact c_impl_isMem_1 X' u _ hr M.length m.1 (by rw [rd1_K,hb]; rfl))
    have hall:(m.2.1.any (fun x=>decide (¬ ((List.length (α:=UInt8) x:Nat):Int)=m.1)))=!(m.2.1.all (cellB m)):=by
      rw [List.any_eq_not_all_not]
      congr 2
      funext x
      unfold cellB
      simp
    rw [hall] at ha
    cases hq:m.2.1.all (cellB m) with
    | true =>
      rw [hq] at ha
      rw [aCall_eq T_impl_isMem]; unfold A_impl_isMem C_impl_isMem; simp [apA,w1,h3,h3',h4,h4',e2]
      rw [S_impl_isMem_0]; unfold B_impl_isMem_0; simp [apA,rd1_K,rdJ_ok,hb,gb,ha]
    | false =>
      rw [hq] at ha
      rw [aCall_eq T_impl_isMem]; unfold A_impl_isMem C_impl_isMem; simp [apA,w1,h3,h3',h4,h4',e2]
      rw [S_impl_isMem_0]; unfold B_impl_isMem_0; simp [apA,rd1_K,rdJ_ok,hb,gb,ha]
  · simp only [Int.natCast_zero,Int.ofNat_zero] at e2
    rw [atB_not hn2,Bool.and_false]
    rw [aCall_eq T_impl_isMem]; unfold A_impl_isMem C_impl_isMem; simp [apA,w1,h3,h3',h4,h4',e2]
set_option maxRecDepth 20000 in
set_option maxHeartbeats 2000000 in
theorem c_impl_oramBlocks (M:Mem) (l w b:Int) (m:ty_Mem.D) (st:List ty_Block.D) (aC:Option Addr) (cC:Nat) (aT:Option Addr) (cT:Nat) (aS:Option Addr) (cS:Nat)
    (hM:Rep ty_Mem M [.int .i64 m.1,.slice aC m.2.1.length cC,.slice aT m.2.2.length cT] m) (hS:Rep (.sl ty_Block) M [.slice aS st.length cS] st) (hz:BlkSz st) (hcz:m.2.1.length≤1048576) :
    Sat (aCall T0 F_impl_oramBlocks [.agg (aO l w b m.1 aC m.2.1.length cC aT m.2.2.length cT aS st.length cS).toArray] M) (OrV M (orX l w b m st)):=by
  have e1:=fun M=>c_impl_isLog M l
  have e2:=fun M=>c_impl_within M w 1 200
  have e3:=fun M=>c_impl_within M b 0 64
  have hlg:(decide (0≤l) && decide (l≤6))=lgB l:=rfl
  have hwd:(decide (1≤w) && decide (w≤200))=wdB w:=rfl
  have hbd:(decide (0≤b) && decide (b≤64))=bdB b:=rfl
  rw [hlg] at e1
  rw [hwd] at e2
  rw [hbd] at e3
  have e4:=fun N:Mem=>c_impl_isMem (M++N) _ m (hM.mono (List.prefix_append _ _))
  have e5:=fun N:Mem=>c_impl_isStash (M++N) _ st l w (hS.mono (List.prefix_append _ _)) hz.1
  have hnil:∀ {X:Mem},Gr (.sl ty_Block) X [.slice none 0 0] [] []:=Gr.nil
  have hpre:M <+: M++[(⟨aO l w b m.1 aC m.2.1.length cC aT m.2.2.length cT aS st.length cS,1,2⟩:Blk)]:=List.prefix_append _ _
  have fin:∀ {o:Option (List ty_Block.D)} {r},o=none→r=some (.tuple #[.slice none 0 0,.bool false],M++[(⟨aO l w b m.1 aC m.2.1.length cC aT m.2.2.length cT aS st.length cS,1,2⟩:Blk)])→Sat r (OrV M o):=fun ho hr=>by
    subst ho
    subst hr
    exact ⟨(_,_),rfl,_,[],rfl,hpre,hnil,by simp,by simp⟩
  have hf:frO l w b m st=false→orX l w b m st=none:=fun h=>by unfold orX; rw [h]; rfl
  cases h1:lgB l with
  | false =>
    rw [h1] at e1
    refine fin (hf (by unfold frO; simp [h1])) ?_
    rw [aCall_eq T_impl_oramBlocks]; unfold A_impl_oramBlocks C_impl_oramBlocks; simp [apA,e1]
  | true =>
  rw [h1] at e1
  cases h2:wdB w with
  | false =>
    rw [h2] at e2
    refine fin (hf (by unfold frO; simp [h2])) ?_
    rw [aCall_eq T_impl_oramBlocks]; unfold A_impl_oramBlocks C_impl_oramBlocks; simp [apA,e1,e2]
  | true =>
  rw [h2] at e2
  cases h3:bdB b with
  | false =>
    rw [h3] at e3
    refine fin (hf (by unfold frO; simp [h3])) ?_
    rw [aCall_eq T_impl_oramBlocks]; unfold A_impl_oramBlocks C_impl_oramBlocks; simp [apA,e1,e2,e3]
  | true =>
  rw [h3] at e3
  have hw:1≤w∧w≤200:=by unfold wdB at h2; simpa using h2
  have hb:0≤b∧b≤64:=by unfold bdB at h3; simpa using h3
  obtain ⟨k,rfl,hk⟩:=log_nat h1
  have hk0:Int.toNat (k:Int)=k:=by omega
  have e6:=fun M=>c_impl_treeNodes M k _ hk rfl
  have w1:IntKind.i64.wrap (w+3)=w+3:=wrap_i64 (by omega) (by omega)
  have w2:IntKind.i64.wrap (4 * (w+3))=4 * (w+3):=wrap_i64 (by omega) (by omega)
  have hp6:2 ^ k≤2 ^ 6:=Nat.pow_le_pow_right (by omega) hk
  have hp0:0 < 2 ^ k:=Nat.two_pow_pos k
  have hN:∃ N,N=2 * 2 ^ k - 1:=⟨_,rfl⟩
  obtain ⟨N,hN⟩:=hN
  cases h4:memB m with
  | false =>
    rw [h4] at e4
    refine fin (hf (by unfold frO; simp [h4])) ?_
    rw [aCall_eq T_impl_oramBlocks]; unfold A_impl_oramBlocks C_impl_oramBlocks; simp [apA,e1,e2,e3,e4]
  | true =>
  rw [h4] at e4
  by_cases h5:m.2.1.length=N
  · have hmb:=mem_bnd h4
    rw [← hN,← h5] at e6
    by_cases h6:(m.1:Int)=4 * (w+3)
    · have w2:IntKind.i64.wrap (4 * (w+3))=m.1:=w2.trans h6.symm
      by_cases h7:(st.length:Int)≤b
      · have h7':¬ b < (st.length:Int):=by omega
        cases h8:stashB k w st with
        | false =>
          rw [h8] at e5
          refine fin (hf (by unfold frO; simp [h8])) ?_
          rw [aCall_eq T_impl_oramBlocks]; unfold A_impl_oramBlocks C_impl_oramBlocks; simp [apA,e1,e2,e3,e4,e5,e6,w1,w2,h7']
        | true =>
          rw [h8] at e5
          have hX:orX k w b m st=outO k w 1 m.2.1 st:=by
            unfold orX
            rw [hk0,if_pos]
            unfold frO
            rw [h1,h2,h3,h4,hk0,← hN,decide_eq_true h5,decide_eq_true h6,decide_eq_true h7,h8]
            rfl
          rw [hX]
          have hCB:=fun N:Mem=>c_impl_cloneBlocks (M++N) _ st (hS.mono (List.prefix_append _ _)) hz
          rw [aCall_eq T_impl_oramBlocks]; unfold A_impl_oramBlocks C_impl_oramBlocks; simp [apA,e1,e2,e3,e4,e5,e6,w1,w2,h7']
          generalize hx:aCall T0 F_impl_cloneBlocks _ _=xhx
          obtain ⟨v1,X1,rfl,L1,p1,g1,n1,k1⟩:=of_call hx (hCB _)
          clear hx
          simp only at p1 g1
          have hbx:=get_pre p1 (show (M++[(⟨aO k w b m.1 aC m.2.1.length cC aT m.2.2.length cT aS st.length cS,1,2⟩:Blk)])[M.length]?=some _ from List.getElem?_concat_length)
          have hb4:rd1 X1 M.length 4=some (.slice aC m.2.1.length cC):=by simp [rd1,hbx]
          have st8:st.length≤128∧blocksB k w st=true:=by unfold stashB at h8; simpa using h8
          have key:=l_oramBlocks_0 (M++[(⟨aO k w b m.1 aC m.2.1.length cC aT m.2.2.length cT aS st.length cS,1,2⟩:Blk)]) M.length k w aC cC m.2.1 ((rep_g_Mem hM).elim fun u0 h=>by
            obtain ⟨u1,e,_,r0,_⟩:=h
            cases e
            exact r0.mono hpre) (by simp [rd1]) (by simp [rd1]) hk (by omega) (fun c hc=>by have:=hmb.2.2 c hc; omega) m.2.1.length 0 (by omega) st v1 X1 ⟨p1,⟨L1,g1,n1,k1⟩,blocks_lt st8.2,ids_of st8.2⟩
          rw [List.drop_zero] at key
          simp only [FoO,Int.natCast_zero,Int.ofNat_zero] at key
          cases ho:outO k w (0+1) m.2.1 st with
          | none =>
            rw [ho] at key
            obtain ⟨fr,X',e,q2,q3⟩:=key
            have pX:=hpre.trans q3
            simp [apA,hb4,e]
            have q2:(fr[2]?.getD O)=.slice none 0 0∧(fr[3]?.getD O)=.bool false:=by simpa [resOf] using q2
            rw [q2.1,q2.2,gc_not rfl]
            exact ⟨(_,X'),rfl,_,[],rfl,pX,hnil,by simp,by simp⟩
          | some a =>
            rw [ho] at key
            obtain ⟨v',X',⟨q1,⟨L',g2,n2,k2⟩,_,_⟩,e⟩:=key
            simp only [FoOn,FoO] at e
            have pX:=hpre.trans q1
            simp [apA,hb4,e]
            obtain ⟨a5,rfl⟩:=g2.shape
            rw [S_impl_oramBlocks_0]; unfold B_impl_oramBlocks_0; simp [apA,pX]
            exact ⟨(_,X'),rfl,_,L',rfl,pX,g2,n2,fun j hj=>by have:=k2 j hj; simp at this; omega⟩
      · have h7':b < (st.length:Int):=by omega
        refine fin (hf (by unfold frO; rw [decide_eq_false h7]; simp)) ?_
        rw [aCall_eq T_impl_oramBlocks]; unfold A_impl_oramBlocks C_impl_oramBlocks; simp [apA,e1,e2,e3,e4,e6,w1,w2,h7']
    · refine fin (hf (by unfold frO; rw [decide_eq_false h6]; simp)) ?_
      rw [aCall_eq T_impl_oramBlocks]; unfold A_impl_oramBlocks C_impl_oramBlocks; simp [apA,e1,e2,e3,e4,e6,w1,w2,h6]
  · have h5':¬ (m.2.1.length:Int)=(N:Int):=by omega
    refine fin (hf (by unfold frO; rw [hk0,← hN,decide_eq_false h5]; simp)) ?_
    rw [← hN] at e6
    generalize m.2.1.length=nC at *
    rw [aCall_eq T_impl_oramBlocks]; unfold A_impl_oramBlocks C_impl_oramBlocks; simp [apA,e1,e2,e3,e4,e6,h5',h5]
theorem c_impl_oramBlocksO (M:Mem) (cs:List V) (x:ty_Oram.D) (h:Rep ty_Oram M cs x) (hz:BlkSz x.2.2.2.2) (hc:x.2.2.2.1.2.1.length≤1048576):Sat (aCall T0 F_impl_oramBlocks [.agg cs.toArray] M) (OrV M (orO x)):=by
  obtain ⟨aC,cC,aT,cT,aS,cS,rfl,hM,hS⟩:=oram_shape h
  exact c_impl_oramBlocks M x.1 x.2.1 x.2.2.1 x.2.2.2.1 x.2.2.2.2 aC cC aT cT aS cS hM hS hz hc
theorem bshlP {k:Nat} (hk:k≤6):bshl .i64 1 (k:Int)=((2 ^ k:Nat):Int):=by
  unfold bshl
  have hp:2 ^ k≤2 ^ 6:=Nat.pow_le_pow_right (by omega) hk
  have h1:min ((k:Int).toNat) IntKind.i64.bits=k:=by
    have:((k:Int).toNat)=k:=by omega
    rw [this]
    show min k 64=k
    omega
  rw [h1]
  have e:(1:Int) * 2 ^ k=((2 ^ k:Nat):Int):=by simp
  rw [e]
  generalize (2:Nat) ^ k=q at *
  exact wrap_i64 (by omega) (by omega)
theorem dfB_f {d:ty_Deep.D} (h:dfB d=false):deepB d=false:=by unfold deepB; rw [h]; rfl
theorem dfB_t {d:ty_Deep.D} (h:dfB d=true):deepB d=(match orO d.2.2.1,orO d.2.2.2 with
  | some one,some two=>dtB d one two
  | _,_=>false):=by
  unfold deepB
  cases orO d.2.2.1 <;> cases orO d.2.2.2 <;> simp [h]
set_option maxRecDepth 20000 in
set_option maxHeartbeats 4000000 in
theorem c_impl_isDeep0 (M:Mem) (cs:List V) (l:Int) (tb:List Int) (x1 x2:ty_Oram.D) (l1 w1 l2:Int) (hl1:x1.1=l1) (hw1:x1.2.1=w1) (hl2:x2.1=l2) (aT:Option Addr) (cT:Nat) (o1 o2:List V) (F:DpF M cs (l,tb,x1,x2) aT cT o1 o2) (ho:cs.all one=true) (hz1:BlkSz x1.2.2.2.2) (hc1:x1.2.2.2.1.2.1.length≤1048576) (hz2:BlkSz x2.2.2.2.2) (hc2:x2.2.2.2.1.2.1.length≤1048576) (ht:tb.length≤1048576) :
    aCall T0 F_impl_isDeep [.agg cs.toArray] M=some (.bool (deepB (l,tb,x1,x2)),M):=by
  have hl:=F.hl
  have hpre:M <+: M++[(⟨cs,1,2⟩:Blk)]:=List.prefix_append _ _
  have hbx:(M++[(⟨cs,1,2⟩:Blk)])[M.length]?=some ⟨cs,1,2⟩:=List.getElem?_concat_length
  have f0:=rd1_bx hbx F.c0
  have f1:=rd1_bx hbx F.c1
  have f2:=rd1_bx hbx F.c2
  have f3:=rd1_bx hbx F.c3
  have f9:=rd1_bx hbx F.c9
  have g1:=rdn_bx hbx (by omega) F.n1
  simp only [hl1,hw1,hl2] at f0 f1 f2 f3 f9
  have e1:=fun M=>c_impl_isDeepLog M l
  have hdl:(decide (2≤l) && decide (l≤6))=dlB l:=rfl
  rw [hdl] at e1
  have gb:=fun b=>gc_boolp hpre b
  have hK1:=c_impl_oramBlocksO (M++[(⟨cs,1,2⟩:Blk)]) o1 x1 (F.r1.mono hpre) hz1 hc1
  have hff:dfB (l,tb,x1,x2)=(dlB l && (decide (tb.length=2 ^ Int.toNat (l - 2)) && (decide (l1=l - 2) && (decide (w1=4) && decide (l2=l))))):=by rw [← hl1,← hw1,← hl2]; rfl
  cases h1:dlB l with
  | false =>
    rw [h1] at e1
    rw [dfB_f (by rw [hff,h1]; rfl)]
    rw [aCall_eq T_impl_isDeep]; unfold A_impl_isDeep C_impl_isDeep; simp [apA,ho,hl,f0,e1,gb]
  | true =>
  rw [h1] at e1
  have hlr:2≤l∧l≤6:=by unfold dlB at h1; simpa using h1
  obtain ⟨k,hk⟩:∃ k:Nat,l - 2=(k:Int):=⟨Int.toNat (l - 2),by omega⟩
  have hk4:k≤4:=by omega
  have hk0:Int.toNat (l - 2)=k:=by omega
  have e2:IntKind.i64.wrap (l - 2)=(k:Int):=by rw [hk]; exact wrap_i64 (by omega) (by omega)
  have e3:=bshlP (k:=k) (by omega)
  have hp6:2 ^ k≤2 ^ 4:=Nat.pow_le_pow_right (by omega) hk4
  have hkn:¬ (k:Int) < 0:=by omega
  rw [h1,hk0,hk] at hff
  generalize hq:(2:Nat) ^ k=q at *
  by_cases h2:tb.length=q
  · have h2':(tb.length:Int)=(q:Int):=by omega
    by_cases h3:l1=(k:Int)
    · subst h3
      by_cases h4:w1=4
      · subst h4
        by_cases h5:l2=l
        · subst h5
          rw [show deepB (l2,tb,x1,x2)=(match orO x1,orO x2 with
            | some one,some two=>dtB (l2,tb,x1,x2) one two
            | _,_=>false) from dfB_t (by rw [hff,decide_eq_true h2]; simp)]
          rw [aCall_eq T_impl_isDeep]; unfold A_impl_isDeep C_impl_isDeep; simp [apA,ho,hl,f0,f1,f2,f3,f9,g1,e1,e2,e3,hkn,h2']
          generalize hx:aCall T0 F_impl_oramBlocks _ _=xhx
          obtain ⟨_,X1,rfl,r1,L1,rfl,p1,gr1,n1,k1⟩:=of_call hx hK1
          clear hx
          simp only at p1 gr1
          have pM1:=hpre.trans p1
          have hb1:=get_pre p1 hbx
          have g2:=rdn_bx hb1 (by omega) F.n2
          have hK2:=c_impl_oramBlocksO X1 o2 x2 (F.r2.mono pM1) hz2 hc2
          simp [apA,g2]
          generalize hx:aCall T0 F_impl_oramBlocks _ _=xhx
          obtain ⟨_,X2,rfl,r2,L2,rfl,p2,gr2,n2,k2⟩:=of_call hx hK2
          clear hx
          simp only at p2 gr2
          have pM2:=pM1.trans p2
          have hb2:=get_pre p2 hb1
          have gb2:=fun b=>gc_boolp pM2 b
          obtain ⟨a1,rfl⟩:=gr1.shape
          obtain ⟨a2,rfl⟩:=gr2.shape
          have t1:=rd1_bx hb2 F.c1
          simp only at t1
          cases q1:orO x1 with
          | none =>
            simp only [Option.isSome_none]
            simp [apA,gb2]
          | some one =>
            cases q2:orO x2 with
            | none =>
              simp only [Option.isSome_none,Option.isSome_some]
              simp [apA,gb2]
            | some two =>
              rw [q1] at gr1
              rw [q2] at gr2
              simp only [Option.isSome_some,Option.getD_some] at gr1 gr2 ⊢
              by_cases h6:one.length=tb.length
              · have h6':(one.length:Int)=(tb.length:Int):=by omega
                have t0:=rd1_bx hb2 F.c0
                simp only at t0
                have t1':rd1 X2 M.length 1=some (.slice aT one.length cT):=by rw [h6]; exact t1
                have on1:=oram_len q1
                have on2:=oram_len q2
                have key:=l_impl_isDeep_0 X2 M.length X2.length l2 (.slice a2 two.length two.length) a1 one.length one (gr1.rep.mono p2) tb aT cT (F.rT.mono pM2) h6 t0 t1 (Nat.le_refl _) on1.1 (fun b hb=>by
                  have:=oram_dat q1 b hb
                  omega) (X2++[⟨[.slice none 0 0],1,2⟩]) ⟨List.prefix_append _ _,_,List.getElem?_concat_length,⟨rfl,.inl ⟨rfl,rfl⟩⟩,by simp [wfs]⟩
                simp only [FdI,Int.natCast_zero,Int.ofNat_zero] at key
                have hdt:dtB (l2,tb,x1,x2) one two=((List.range one.length).all (dkB l2 tb one) && two.all (kpB (posD one))):=by unfold dtB; rw [decide_eq_true h6]; rfl
                rw [hdt]
                rcases key with ⟨_,X',hX',hall,e⟩ | ⟨⟨i,hi,hf⟩,fr,X',e,w2,w3⟩
                · have hA:(List.range one.length).all (dkB l2 tb one)=true:=List.all_eq_true.2 fun i hi=>hall i (List.mem_range.1 hi)
                  rw [hA,Bool.true_and]
                  obtain ⟨pX,v,hb,hg,hqv⟩:=hX'
                  have hpl:=posD_len (one:=one) (N:=200) (fun b hb=>by
                    have:=oram_dat q1 b hb
                    omega)
                  have ha:=any_sl T_slices_ContainsFunc_impl_Block_impl_Block T_slices_IndexFunc_impl_Block_impl_Block rfl (gr2.rep.mono pX) (by omega) F_impl_isDeep_1 [.pointer (some ⟨X2.length,0,none⟩)] (fun b=>!kpB (posD one) b) (fun i hi cs' hr=>c_impl_isDeep_1 X' X2.length v (posD one) _ hb hg (by omega) cs' _ hr (on2.2 _ (List.getElem_mem hi)).1)
                  have hall2:(two.any fun b=>!kpB (posD one) b)=!(two.all (kpB (posD one))):=by rw [List.not_all_eq_any_not]
                  rw [hall2] at ha
                  have gb3:=fun b=>gc_boolp (pM2.trans pX) b
                  simp [apA,t1',e]
                  rw [S_impl_isDeep_0]; unfold B_impl_isDeep_0; simp [apA,ha,gb3]
                · have hA:(List.range one.length).all (dkB l2 tb one)=false:=by
                    rw [List.all_eq_false]
                    exact ⟨i,List.mem_range.2 hi,by rw [hf]; simp⟩
                  rw [hA,Bool.false_and]
                  have gb3:=fun b=>gc_boolp (pM2.trans w3) b
                  simp [apA,t1',e,w2,gb3]
              · have h6':¬ (one.length:Int)=(tb.length:Int):=by omega
                rw [show dtB (l2,tb,x1,x2) one two=false by unfold dtB; rw [decide_eq_false h6]; rfl]
                simp [apA,t1,h6',gb2]
        · rw [dfB_f (by rw [hff,decide_eq_false h5]; simp)]
          rw [aCall_eq T_impl_isDeep]; unfold A_impl_isDeep C_impl_isDeep; simp [apA,ho,hl,f0,f1,f2,f3,f9,e1,e2,e3,hkn,h2',h5,gb]
      · rw [dfB_f (by rw [hff,decide_eq_false h4]; simp)]
        rw [aCall_eq T_impl_isDeep]; unfold A_impl_isDeep C_impl_isDeep; simp [apA,ho,hl,f0,f1,f2,f3,e1,e2,e3,hkn,h2',h4,gb]
    · rw [dfB_f (by rw [hff,decide_eq_false h3]; simp)]
      rw [aCall_eq T_impl_isDeep]; unfold A_impl_isDeep C_impl_isDeep; simp [apA,ho,hl,f0,f1,f2,e1,e2,e3,hkn,h2',h3,gb]
  · have h2':¬ (tb.length:Int)=(q:Int):=by omega
    rw [dfB_f (by rw [hff,decide_eq_false h2]; simp)]
    rw [aCall_eq T_impl_isDeep]; unfold A_impl_isDeep C_impl_isDeep; simp [apA,ho,hl,f0,f1,e1,e2,e3,hkn,h2',gb]
theorem c_impl_isDeep (M:Mem) (cs:List V) (d:ty_Deep.D) (h:Rep ty_Deep M cs d) (hb:Bd 1048576 ty_Deep d):aCall T0 F_impl_isDeep [.agg cs.toArray] M=some (.bool (deepB d),M):=by
  have ho:=h.one
  obtain ⟨⟨a1,a2,_⟩,⟨b1,b2,_⟩,c⟩:=deep_bd hb
  obtain ⟨aT,cT,o1,o2,F⟩:=deep_shape h
  obtain ⟨l,tb,x1,x2⟩:=d
  exact c_impl_isDeep0 M cs l tb x1 x2 _ _ _ rfl rfl rfl aT cT o1 o2 F ho a1 a2 b1 b2 c
theorem c_impl_areDraws_1 (M:Mem) (x:Int):aCall T0 F_impl_areDraws_1 [.int .i64 x] M=some (.bool (!drB x),M):=by
  unfold drB
  rw [aCall_eq T_impl_areDraws_1]; unfold A_impl_areDraws_1 C_impl_areDraws_1; simp [c_impl_within]
theorem c_impl_areDraws (M:Mem) (v:V) (ds:List Int) (h:Rep (.sl ty_Int) M [v] ds) (hl:ds.length≤9223372036854775807) (k:Int):aCall T0 F_impl_areDraws [v,.int .i64 k] M=some (.bool (drsB k ds),M):=by
  have e:aCall T0 F_slices_ContainsFunc_int_int [v,.func (.func F_impl_areDraws_1) #[] #[]] M=_:=c_any_Int M v ds h hl F_impl_areDraws_1 [] (fun x=>!drB x) (fun i hi=>c_impl_areDraws_1 M ds[i])
  obtain ⟨a,c,rfl⟩:=h.slen
  have e2:ds.all drB=!ds.any (fun x=>!drB x):=by simp [List.any_eq_not_all_not]
  unfold drsB
  rw [e2]
  by_cases hk:(ds.length:Int)=k
  · subst hk
    rw [aCall_eq T_impl_areDraws]; unfold A_impl_areDraws C_impl_areDraws; simp [e]
  · rw [aCall_eq T_impl_areDraws]; unfold A_impl_areDraws C_impl_areDraws; simp [hk]
abbrev PfI (v:V) (a:Option Addr) (n c:Nat) (i:Nat):List V:=[O,O,O,O,O,v,O,O,O,O,O,O,O,O,O,O,O,O,.slice a n c,.int .i64 n,.int .i64 i,O,O,O,O,O,O,O,O,O,O,O,O,O,O,O,O,O,O]
def PsI (M:Mem) (xs:List Int) (v:V) (X:Mem):Prop:=∃ L,M <+: X∧Gr (.sl ty_Int) X [v] xs L∧L.Nodup∧∀ j ∈ L,M.length≤j
theorem PsI.pre {M X:Mem} {xs:List Int} {v:V} (h:PsI M xs v X):M <+: X:=by
  obtain ⟨_,h,_⟩:=h
  exact h
theorem PsI.grow {M X Y:Mem} {xs:List Int} {v:V} (h:PsI M xs v X) (hp:X <+: Y):PsI M xs v Y:=by
  obtain ⟨L,h1,h2,h3⟩:=h
  exact ⟨L,h1.trans hp,h2.grow hp,h3⟩
theorem PsI.app {Z X X2:Mem} {xs:List Int} {v:V} (h:PsI Z xs v X) (hp:X <+: X2) (hx:xs.length≤3000000) {y:Int} (hy:inI y) {x:Option (V × Mem)} (e:appS X2 1 8 v 1 [.int .i64 y]=x) :
    ∃ (l:Nat) (X3:Mem),x=some (.slice (some ⟨l,0,none⟩) (xs.length+1) (xs.length+1),X3)∧PsI Z (xs++[y]) (.slice (some ⟨l,0,none⟩) (xs.length+1) (xs.length+1)) X3:=by
  obtain ⟨L,pX,g0,nd,ge⟩:=h
  obtain ⟨l4,X4,L',rfl,g4,ag2,len2,hw4,nd4,sub4,hl4⟩:=g0.app (t:=ty_Int) e hp (gr_Int _ hy) (by simp) nd (by simp) (by omega) (by omega)
  have pX4:Z <+: X4:=ag2.pre (pX.trans hp) (fun b hb=>ge b (hw4 b hb))
  refine ⟨l4,X4,rfl,L',pX4,g4,nd4,fun j hj=>?_⟩
  have hpl:=pX.length_le
  have hpl2:=hp.length_le
  rcases sub4 j hj with h | h | h
  · exact ge j h
  · simp at h
  · omega
set_option maxHeartbeats 2000000 in
theorem l_impl_Deep_pos_1 (Z:Mem) (v18 v19 v20:V) (a:Option Addr) (c:Nat) (ys:List UInt8) (h:Rep (.sl ty_Byte) Z [.slice a ys.length c] ys) (hn:ys.length≤1000) (xs:List Int) (hx:xs.length≤1000000) (v:V) (X:Mem) (hX:PsI Z xs v X) :
    ∃ (v':V) (X':Mem),PsI Z (xs++bytI ys) v' X'∧lp (aCall T0) K_impl_Deep_pos_1 L_impl_Deep_pos_1 [O,O,O,O,O,v,O,O,O,O,O,O,O,O,O,O,O,O,v18,v19,v20,O,O,O,O,.slice a ys.length c,.int .i64 ys.length,.int .i64 (0:Nat),O,O,O,O,O,O,O,O,O,O,O] X=lp (aCall T0) K_impl_Deep_pos_1 L_impl_Deep_pos_1 [O,O,O,O,O,v',O,O,O,O,O,O,O,O,O,O,O,O,v18,v19,v20,O,O,O,O,.slice a ys.length c,.int .i64 ys.length,.int .i64 ys.length,O,O,O,O,O,O,O,O,O,O,O] X':=by
  have key:=loop_to (call:=aCall T0) (K:=K_impl_Deep_pos_1) (L:=L_impl_Deep_pos_1) (fun j (v:V) X=>PsI Z (xs++bytI (ys.take j)) v X) (fun j v=>[O,O,O,O,O,v,O,O,O,O,O,O,O,O,O,O,O,O,v18,v19,v20,O,O,O,O,.slice a ys.length c,.int .i64 ys.length,.int .i64 j,O,O,O,O,O,O,O,O,O,O,O]) (n:=ys.length) ?_ 0 v X (by omega) (by simpa [bytI] using hX)
  · rw [List.take_length] at key
    exact key
  intro j v X hj hX
  obtain ⟨l0,o0,rfl,_,hrd⟩:=at_Byte (h.mono hX.pre) hj
  have hy:byteV ys[j]=.int .u8 ((ys[j].toNat:Nat):Int):=rfl
  rw [hy] at hrd
  have e6:IntKind.i64.wrap ((j:Int)+1)=j+1:=wrap_i64 (by omega) (by omega)
  have n1:ys[j].toNat < 256:=UInt8.toNat_lt _
  rw [bytI_take ys hj,← List.append_assoc]
  have hbl:(xs++bytI (ys.take j)).length≤3000000:=by
    rw [List.length_append]
    unfold bytI
    rw [List.length_map,List.length_take]
    omega
  generalize xs++bytI (ys.take j)=zs at *
  generalize ys[j].toNat=y at *
  have c1:IntKind.i64.wrap (y:Int)=y:=wrap_i64 (by omega) (by omega)
  have hj2:(j:Int) < (ys.length:Int):=by omega
  rw [S_impl_Deep_pos_1]; unfold B_impl_Deep_pos_1; simp [apA,hj,hj2,hrd,c1,zeroCells]
  generalize hy2:appS _ _ _ _ _ _=xhy2
  obtain ⟨l4,X4,rfl,h4⟩:=hX.app (List.prefix_append _ _) hbl (show inI (y:Int) by unfold inI; omega) hy2
  clear hy2
  simp [apA,e6]
  exact ⟨_,_,h4,rfl⟩
set_option maxHeartbeats 2000000 in
theorem l_impl_Deep_pos_0 (Z:Mem) (a:Option Addr) (c:Nat) (one:List ty_Block.D) (h:Rep (.sl ty_Block) Z [.slice a one.length c] one) (hn:one.length≤256) (hd:∀ b ∈ one,List.length (α:=UInt8) b.2.2≤200) (v:V) (X:Mem) (hX:PsI Z [] v X) :
    ∃ (v':V) (X':Mem),PsI Z (posD one) v' X'∧lp (aCall T0) K_impl_Deep_pos_0 L_impl_Deep_pos_0 (PfI v a one.length c 0) X=lp (aCall T0) K_impl_Deep_pos_0 L_impl_Deep_pos_0 (PfI v' a one.length c one.length) X':=by
  have key:=loop_to (call:=aCall T0) (K:=K_impl_Deep_pos_0) (L:=L_impl_Deep_pos_0) (fun i (v:V) X=>PsI Z (posD (one.take i)) v X) (fun i v=>PfI v a one.length c i) (n:=one.length) ?_ 0 v X (by omega) (by simpa [posD] using hX)
  · rw [List.take_length] at key
    exact key
  intro i v X hi hX
  obtain ⟨l0,o0,u,rfl,_,_,_,hrn,_,_,hu,_⟩:=at_Block h hi
  obtain ⟨ub,uc,rfl⟩:=hu.slen
  have hrX:=rn_pre hX.pre hrn
  have hdi:=hd _ (List.getElem_mem hi)
  have hpl:=posD_len (one:=one.take i) (N:=200) (fun b hb=>hd b (List.mem_of_mem_take hb))
  rw [List.length_take] at hpl
  have e6:IntKind.i64.wrap ((i:Int)+1)=i+1:=wrap_i64 (by omega) (by omega)
  rw [posD_take one hi]
  have hxs:(posD (one.take i)).length≤1000000:=by omega
  generalize posD (one.take i)=xs at *
  generalize one[i]=b at *
  obtain ⟨b1,b2,b3⟩:=b
  simp only at hrX hu hdi ⊢
  have iT:(i:Int) < (one.length:Int):=by omega
  obtain ⟨v',X',hX',e⟩:=l_impl_Deep_pos_1 Z (.slice (some ⟨l0,o0,none⟩) one.length c) (.int .i64 one.length) (.int .i64 i) ub uc b3 hu (by omega) xs hxs v (X++[(⟨[.int .i64 b1,.int .i64 b2,.slice ub (List.length (α:=UInt8) b3) uc],1,2⟩:Blk)]) (hX.grow (List.prefix_append _ _))
  simp only [Int.natCast_zero,Int.ofNat_zero] at e
  refine ⟨v',X',hX',?_⟩
  rw [S_impl_Deep_pos_0]; unfold B_impl_Deep_pos_0; simp [apA,hi,iT,hrX,rd1_K,rdJ_ok,zeroCells]
  simp [apA,e]
  rw [S_impl_Deep_pos_1]; unfold B_impl_Deep_pos_1; simp [apA,e6]
  try rfl
theorem c_impl_Deep_pos (M:Mem) (p:Nat) (cs:List V) (l:Int) (tb:List Int) (x1 x2:ty_Oram.D) (aT:Option Addr) (cT:Nat) (o1 o2:List V) (F:DpF M cs (l,tb,x1,x2) aT cT o1 o2) (hb:M[p]?=some ⟨cs,1,2⟩) (hz1:BlkSz x1.2.2.2.2) (hc1:x1.2.2.2.1.2.1.length≤1048576) (one:List ty_Block.D) (h1:orO x1=some one) :
    Sat (aCall T0 F_impl_Deep_pos [.pointer (some ⟨p,0,none⟩)] M) (GrV ty_Int M (posD one)):=by
  have hl:=F.hl
  have g1:=rdn_bx hb (by omega) F.n1
  have hK1:=c_impl_oramBlocksO M o1 x1 F.r1 hz1 hc1
  rw [h1] at hK1
  have on1:=oram_len h1
  rw [aCall_eq T_impl_Deep_pos]; unfold A_impl_Deep_pos C_impl_Deep_pos; simp [apA,g1]
  generalize hx:aCall T0 F_impl_oramBlocks _ _=xhx
  obtain ⟨_,X1,rfl,r1,L1,rfl,p1,gr1,n1,k1⟩:=of_call hx hK1
  clear hx
  simp only [Option.getD_some] at p1 gr1
  obtain ⟨a1,rfl⟩:=gr1.shape
  obtain ⟨v',X',⟨L,q1,q2,q3,q4⟩,e⟩:=l_impl_Deep_pos_0 X1 a1 one.length one gr1.rep on1.1 (fun b hb=>(oram_dat h1 b hb).2) (.slice none 0 0) X1 ⟨[],List.prefix_refl _,Gr.nil,List.nodup_nil,by simp⟩
  simp only [PfI,Int.natCast_zero,Int.ofNat_zero] at e
  obtain ⟨a',rfl⟩:=q2.shape
  simp [apA,e]
  rw [S_impl_Deep_pos_0]; unfold B_impl_Deep_pos_0; simp [apA]
  exact sat_some ⟨L,p1.trans q1,q2,q3,fun j hj=>by have:=q4 j hj; have:=p1.length_le; omega⟩
theorem c_impl_DeepLeaves_1 (M:Mem) (p:Nat) (l x:Int) (k:Nat) (hk:l=(k:Int)) (hk6:k≤6) (hp:rd1 M p 0=some (.int .i64 l)):aCall T0 F_impl_DeepLeaves_1 [.int .i64 x,.pointer (some ⟨p,0,none⟩)] M=some (.bool (!idqB l x),M):=by
  have e1:=bshlP (k:=k) hk6
  have hpw:powI l=((2 ^ k:Nat):Int):=by
    unfold powI
    rw [hk]
    have:Int.toNat (k:Int)=k:=by omega
    rw [this]
  have hp6:2 ^ k≤2 ^ 6:=Nat.pow_le_pow_right (by omega) hk6
  unfold idqB
  rw [hpw]
  subst hk
  generalize (2:Nat) ^ k=q at *
  have e2:IntKind.i64.wrap ((q:Int) - 1)=(q:Int) - 1:=wrap_i64 (by omega) (by omega)
  have e3:=fun M=>c_impl_within M x (-1) ((q:Int) - 1)
  have e4:decide (x≤(q:Int) - 1)=decide (x < (q:Int)):=by simp only [decide_eq_decide]; omega
  rw [e4] at e3
  have hkn:¬ (k:Int) < 0:=by omega
  rw [aCall_eq T_impl_DeepLeaves_1]; unfold A_impl_DeepLeaves_1 C_impl_DeepLeaves_1; simp [hp,e1,e2,e3,hkn]
theorem c_impl_LeafOf (M:Mem) (d l:Int):aCall T0 F_impl_LeafOf [.int .i64 d,.int .i64 l] M=some (.int .i64 (leafI d l),M):=by
  unfold leafI
  cases hd:drB d with
  | false =>
    have e:(decide (0≤d) && decide (d≤65535))=false:=hd
    rw [aCall_eq T_impl_LeafOf]; unfold A_impl_LeafOf C_impl_LeafOf; simp [c_impl_within,e]
  | true =>
    have e:(decide (0≤d) && decide (d≤65535))=true:=hd
    have hd2:0≤d∧d≤65535:=by simpa using e
    by_cases hl:0≤l∧l≤6
    · obtain ⟨m,rfl⟩:∃ m:Nat,l=m:=⟨l.toNat,by omega⟩
      obtain ⟨k,rfl⟩:∃ k:Nat,d=k:=⟨d.toNat,by omega⟩
      have e2:(decide (0≤(m:Int)) && decide ((m:Int)≤6))=true:=by simp; omega
      have hp:2 ^ m≤2 ^ 6:=Nat.pow_le_pow_right (by omega) (by omega)
      have hq:0 < 2 ^ m:=Nat.two_pow_pos m
      have e1:bshl .i64 1 m=((2 ^ m:Nat):Int):=by
        unfold bshl
        have hm:min (m:Int).toNat IntKind.i64.bits=m:=by show min _ 64=m; omega
        rw [hm,wrap_i64 (by have:=pow2_pos m; omega) (by have:=pow2_le (show m≤6 by omega); omega)]
        simp
      have e3:IntKind.i64.wrap (((2 ^ m:Nat):Int) - 1)=((2 ^ m - 1:Nat):Int):=by
        rw [wrap_i64 (by omega) (by omega)]; omega
      have e4:=and_i64 (a:=k) (b:=2 ^ m - 1) (by omega) (by omega)
      rw [Nat.and_two_pow_sub_one_eq_mod] at e4
      rw [if_pos ⟨rfl,hl⟩]
      simp only [Int.natCast_pow] at e1 e3 e4
      have e5:(decide ((k:Int)≤65535))=true:=by simp; omega
      have e6:(decide ((m:Int)≤6))=true:=by simp; omega
      have e7:(k:Int)≤65535:=by omega
      have e8:(m:Int)≤6:=by omega
      rw [aCall_eq T_impl_LeafOf]; unfold A_impl_LeafOf C_impl_LeafOf; simp [c_impl_within,e7,e8,e1]
      simp at e3 e4
      rw [e3,e4]
    · have e2:(decide (0≤l) && decide (l≤6))=false:=by simpa using hl
      rw [if_neg (fun h=>hl h.2)]
      rw [aCall_eq T_impl_LeafOf]; unfold A_impl_LeafOf C_impl_LeafOf; simp [c_impl_within,e,e2]
set_option maxRecDepth 20000 in
set_option maxHeartbeats 4000000 in
theorem r_impl_DeepLeaves_0 (Z:Mem) (p q0 q1:Nat) (l:Int) (hl:2≤l∧l≤6) (hp:rd1 Z p 0=some (.int .i64 l)) (ids ds:List Int) (aI aD:Option Addr) (cI cD:Nat) (hI:Rep (.sl ty_Int) Z [.slice aI ids.length cI] ids) (hD:Rep (.sl ty_Int) Z [.slice aD ds.length cD] ds) (hn:ids.length≤700) (hdn:ds.length=2 * ids.length) (nT nW cT cW:Nat) (hW:nW=4 * nT) (hnT:nT≤1000) (hid:∀ x ∈ ids,x < (nW:Int)) (i:Nat) (hi:i < ids.length) (s:Lv4) (h1:s.1.length=nT) (h2:s.2.1.length=nW) (h3:s.2.2.1.length=i) (h4:s.2.2.2.length=i) (v:V × V) (X:Mem) (hX:Lv Z q0 q1 s v X) :
    ∃ (v':V × V) (X':Mem),Lv Z q0 q1 (lvStep l ds i (ids.getD i 0) s) v' X' ∧
      lp (aCall T0) K_impl_DeepLeaves_0 L_impl_DeepLeaves_0 [O,O,.slice aD ds.length cD,.pointer (some ⟨p,0,none⟩),O,O,O,O,O,.slice (some ⟨q0,0,none⟩) nT cT,.slice (some ⟨q1,0,none⟩) nW cW,v.1,v.2,O,O,O,O,O,O,O,O,O,O,O,O,O,O,O,O,O,O,O,O,O,O,O,O,O,O,O,O,O,.slice aI ids.length cI,.int .i64 ids.length,.int .i64 i,O,O,O,O,O,O,O,O,O,O,O,O,O,O,O,O,O,O,O,O,O,O,O,O,O,O,O,O,O,O,O,O,O,O,O,O,O,O,O,O,O,O,O,O,O,O,O,O,O,O,O,O,O,O,O,O,O,O,O] X =
      lp (aCall T0) K_impl_DeepLeaves_0 L_impl_DeepLeaves_0 [O,O,.slice aD ds.length cD,.pointer (some ⟨p,0,none⟩),O,O,O,O,O,.slice (some ⟨q0,0,none⟩) nT cT,.slice (some ⟨q1,0,none⟩) nW cW,v'.1,v'.2,O,O,O,O,O,O,O,O,O,O,O,O,O,O,O,O,O,O,O,O,O,O,O,O,O,O,O,O,O,.slice aI ids.length cI,.int .i64 ids.length,.int .i64 (i+1:Nat),O,O,O,O,O,O,O,O,O,O,O,O,O,O,O,O,O,O,O,O,O,O,O,O,O,O,O,O,O,O,O,O,O,O,O,O,O,O,O,O,O,O,O,O,O,O,O,O,O,O,O,O,O,O,O,O,O,O,O] X':=by
  obtain ⟨t,w,a,b⟩:=s
  obtain ⟨v1,v2⟩:=v
  unfold Lv at hX ⊢
  simp only at hX h1 h2 h3 h4 ⊢
  have pX:=hX.pre
  obtain ⟨li,oi,rfl,_,hrI⟩:=at_Int (hI.mono pX) hi
  obtain ⟨j,hj⟩:∃ j,2 * i=j:=⟨_,rfl⟩
  obtain ⟨j1,hj1⟩:∃ j1,j+1=j1:=⟨_,rfl⟩
  obtain ⟨ld,od,rfl,_,hr0⟩:=at_Int (hD.mono pX) (i:=j) (by omega)
  obtain ⟨ld',od',e',_,hr1⟩:=at_Int (hD.mono pX) (i:=j1) (by omega)
  cases e'
  have hdi:=hid _ (List.getElem_mem hi)
  have gi:ids[i]=ids.getD i 0:=by rw [List.getD_eq_getElem?_getD,List.getElem?_eq_getElem hi]; rfl
  have g0:ds[j]'(by omega)=ds.getD (2 * i) 0:=by rw [List.getD_eq_getElem?_getD,hj,List.getElem?_eq_getElem (by omega)]; rfl
  have g1:ds[j1]'(by omega)=ds.getD (2 * i+1) 0:=by rw [List.getD_eq_getElem?_getD,hj,hj1,List.getElem?_eq_getElem (by omega)]; rfl
  rw [gi] at hrI hdi
  rw [g0] at hr0
  rw [g1] at hr1
  unfold lvStep
  have eX:=fun M=>c_impl_LeafOf M (ds.getD (2 * i) 0) (l - 2)
  have eY:=fun M=>c_impl_LeafOf M (ds.getD (2 * i+1) 0) l
  have hx:leafI (ds.getD (2 * i) 0) (l - 2)=lvX l ds i:=rfl
  have hy:leafI (ds.getD (2 * i+1) 0) l=lvY l ds i:=rfl
  rw [hx] at eX
  rw [hy] at eY
  generalize lvX l ds i=x at *
  generalize lvY l ds i=y at *
  generalize ds.getD (2 * i) 0=dx at *
  generalize ds.getD (2 * i+1) 0=dy at *
  generalize ids.getD i 0=id at *
  have e1:IntKind.i64.wrap (2 * (i:Int))=(j:Int):=by rw [wrap_i64 (by omega) (by omega)]; omega
  have e2:IntKind.i64.wrap ((j:Int)+1)=(j1:Int):=by rw [wrap_i64 (by omega) (by omega)]; omega
  have e3:IntKind.i64.wrap (l - 2)=l - 2:=wrap_i64 (by omega) (by omega)
  have e6:IntKind.i64.wrap ((i:Int)+1)=i+1:=wrap_i64 (by omega) (by omega)
  have hp':=r1_pre pX hp
  have iT:(i:Int) < (ids.length:Int):=by omega
  have jT:(j:Int) < (ds.length:Int):=by omega
  have j1T:(j1:Int) < (ds.length:Int):=by omega
  have jN:j < ds.length:=by omega
  have j1N:j1 < ds.length:=by omega
  by_cases hneg:id < 0
  · rw [if_pos hneg]
    rw [S_impl_DeepLeaves_0]; unfold B_impl_DeepLeaves_0; simp [apA,hi,iT,hrI,hr0,hr1,hp',e1,e2,e3,eX,eY,jT,j1T,jN,j1N,hneg,zeroCells]
    generalize hy2:appS _ _ _ _ _ _=xhy2
    obtain ⟨a1,X1,rfl,hX1,ag1⟩:=hX.app (List.prefix_append _ _) (by omega) hy2
    clear hy2
    simp [apA,zeroCells]
    generalize hy2:appS _ _ _ _ _ _=xhy2
    obtain ⟨a2,X2,rfl,hX2,ag2⟩:=hX1.swap.app (List.prefix_append _ _) (by omega) hy2
    clear hy2
    simp [apA,e6]
    exact ⟨_,_,_,hX2.swap,rfl⟩
  · rw [if_neg hneg]
    obtain ⟨k,rfl⟩:∃ k:Nat,id=(k:Int):=⟨Int.toNat id,by omega⟩
    have hk0:Int.toNat (k:Int)=k:=by omega
    rw [hk0]
    obtain ⟨s,hs⟩:∃ s,k / 4=s:=⟨_,rfl⟩
    rw [hs]
    have hsT:s < t.length:=by omega
    have hkW:k < w.length:=by omega
    have r0:=hX.rd hsT
    have e4:Int.tdiv (k:Int) 4=(s:Int):=by rw [Int.tdiv_eq_ediv_of_nonneg (by omega)]; omega
    have e5:IntKind.i64.wrap (s:Int)=(s:Int):=wrap_i64 (by omega) (by omega)
    have sT:(s:Int) < (nT:Int):=by omega
    have kW:(k:Int) < (nW:Int):=by omega
    have sN:s < nT:=by omega
    have kN:k < nW:=by omega
    generalize t.getD s 0=tv at *
    obtain ⟨wv,hwv⟩:∃ wv,w.getD k 0=wv:=⟨_,rfl⟩
    rw [hwv]
    rw [S_impl_DeepLeaves_0]; unfold B_impl_DeepLeaves_0; simp [apA,hi,iT,hrI,hr0,hr1,hp',e1,e2,e3,eX,eY,jT,j1T,jN,j1N,e4,e5,sT,kW,sN,kN,r0,hneg,zeroCells]
    generalize hy2:appS _ _ _ _ _ _=xhy2
    obtain ⟨a1,X1,rfl,hX1,ag1⟩:=hX.app (List.prefix_append _ _) (by omega) hy2
    clear hy2
    have hh:hits (wfs v1) [q0]=false:=hits_ne fun x hx y hy e=>by
      simp at hy
      subst hy
      subst e
      exact hX.d10 hx
    have r1:=hX1.flip.rd hkW
    rw [hwv] at r1
    have hh1:hits [q1] (wfs v1)=false:=hits_ne fun x hx y hy e=>by
      simp at hx
      subst hx
      subst e
      exact hX.d11 hy
    have hn1:∀ z ∈ wfs v1,¬ q1=z:=fun z hz e=>hX.d11 (e ▸ hz)
    simp [apA,thenD_agree,ag1,hh,hh1,r1,kW,kN,zeroCells]
    generalize hy2:appS _ _ _ _ _ _=xhy2
    obtain ⟨a2,X2,rfl,hX2,ag2⟩:=hX1.swap.app (List.prefix_append _ _) (by omega) hy2
    clear hy2
    have h21:hits (wfs v2) [q1,q0]=false:=hits_ne fun x hx y hy e=>by
      simp at hy
      subst e
      rcases hy with rfl | rfl
      · exact hX.d21 hx
      · exact hX.d20 hx
    have h22:hits (wfs v2) [q0,q1]=false:=hits_ne fun x hx y hy e=>by
      simp at hy
      subst e
      rcases hy with rfl | rfl
      · exact hX.d20 hx
      · exact hX.d21 hx
    obtain ⟨X3,w3,hX3⟩:=hX2.wr hsT x
    obtain ⟨X4,w4,hX4⟩:=hX3.flip.wr hkW y
    simp [apA,thenD_agree,ag2,h21,h22,e4,e5,sT,sN,kW,kN,w3,w4,e6]
    exact ⟨_,_,_,hX4.flip.swap,rfl⟩
set_option maxRecDepth 20000 in
theorem l_impl_DeepLeaves_0 (Z:Mem) (p q0 q1:Nat) (l:Int) (hl:2≤l∧l≤6) (hp:rd1 Z p 0=some (.int .i64 l)) (ids ds:List Int) (aI aD:Option Addr) (cI cD:Nat) (hI:Rep (.sl ty_Int) Z [.slice aI ids.length cI] ids) (hD:Rep (.sl ty_Int) Z [.slice aD ds.length cD] ds) (hn:ids.length≤700) (hdn:ds.length=2 * ids.length) (nT nW cT cW:Nat) (hW:nW=4 * nT) (hnT:nT≤1000) (hid:∀ x ∈ ids,x < (nW:Int)) (top low:List Int) (h1:top.length=nT) (h2:low.length=nW) (v:V × V) (X:Mem) (hX:Lv Z q0 q1 (top,low,[],[]) v X) :
    ∃ (v':V × V) (X':Mem),LvL Z q0 q1 l ds ids (top,low,[],[]) ids.length v' X' ∧
      lp (aCall T0) K_impl_DeepLeaves_0 L_impl_DeepLeaves_0 [O,O,.slice aD ds.length cD,.pointer (some ⟨p,0,none⟩),O,O,O,O,O,.slice (some ⟨q0,0,none⟩) nT cT,.slice (some ⟨q1,0,none⟩) nW cW,v.1,v.2,O,O,O,O,O,O,O,O,O,O,O,O,O,O,O,O,O,O,O,O,O,O,O,O,O,O,O,O,O,.slice aI ids.length cI,.int .i64 ids.length,.int .i64 (0:Nat),O,O,O,O,O,O,O,O,O,O,O,O,O,O,O,O,O,O,O,O,O,O,O,O,O,O,O,O,O,O,O,O,O,O,O,O,O,O,O,O,O,O,O,O,O,O,O,O,O,O,O,O,O,O,O,O,O,O,O] X =
      lp (aCall T0) K_impl_DeepLeaves_0 L_impl_DeepLeaves_0 [O,O,.slice aD ds.length cD,.pointer (some ⟨p,0,none⟩),O,O,O,O,O,.slice (some ⟨q0,0,none⟩) nT cT,.slice (some ⟨q1,0,none⟩) nW cW,v'.1,v'.2,O,O,O,O,O,O,O,O,O,O,O,O,O,O,O,O,O,O,O,O,O,O,O,O,O,O,O,O,O,.slice aI ids.length cI,.int .i64 ids.length,.int .i64 ids.length,O,O,O,O,O,O,O,O,O,O,O,O,O,O,O,O,O,O,O,O,O,O,O,O,O,O,O,O,O,O,O,O,O,O,O,O,O,O,O,O,O,O,O,O,O,O,O,O,O,O,O,O,O,O,O,O,O,O,O] X':=by
  refine loop_to (call:=aCall T0) (K:=K_impl_DeepLeaves_0) (L:=L_impl_DeepLeaves_0) (fun i (v:V × V) X=>LvL Z q0 q1 l ds ids (top,low,[],[]) i v X) (fun i v=>[O,O,.slice aD ds.length cD,.pointer (some ⟨p,0,none⟩),O,O,O,O,O,.slice (some ⟨q0,0,none⟩) nT cT,.slice (some ⟨q1,0,none⟩) nW cW,v.1,v.2,O,O,O,O,O,O,O,O,O,O,O,O,O,O,O,O,O,O,O,O,O,O,O,O,O,O,O,O,O,.slice aI ids.length cI,.int .i64 ids.length,.int .i64 i,O,O,O,O,O,O,O,O,O,O,O,O,O,O,O,O,O,O,O,O,O,O,O,O,O,O,O,O,O,O,O,O,O,O,O,O,O,O,O,O,O,O,O,O,O,O,O,O,O,O,O,O,O,O,O,O,O,O,O]) (n:=ids.length) (fun i v X hi hX=>?_) 0 v X (by omega) hX
  have hl4:=lvRun_len l ds ids (top,low,[],[]) i
  simp only [List.length_nil,Nat.zero_add] at hl4
  exact r_impl_DeepLeaves_0 Z p q0 q1 l hl hp ids ds aI aD cI cD hI hD hn hdn nT nW cT cW hW hnT hid i hi _ (hl4.1.trans h1) (hl4.2.1.trans h2) hl4.2.2.1 hl4.2.2.2 v X hX
set_option maxRecDepth 20000 in
set_option maxHeartbeats 4000000 in
theorem c_impl_DeepLeaves (M:Mem) (cs:List V) (d:ty_Deep.D) (h:Rep ty_Deep M cs d) (hb:Bd 1048576 ty_Deep d) (vI:V) (ids:List Int) (hI:Rep (.sl ty_Int) M [vI] ids) (hiL:ids.length≤1048576) (vD:V) (ds:List Int) (hD:Rep (.sl ty_Int) M [vD] ds) (hdL:ds.length≤1048576) :
    Sat (aCall T0 F_impl_DeepLeaves [.agg cs.toArray,vI,vD] M) (LvV M d ids ds):=by
  have ho:=h.one
  have hl:cs.length=16:=h.len
  obtain ⟨aI,cI,rfl⟩:=hI.slen
  obtain ⟨aD,cD,rfl⟩:=hD.slen
  have hpre:M <+: M++[(⟨cs,1,2⟩:Blk)]:=List.prefix_append _ _
  have hbx:(M++[(⟨cs,1,2⟩:Blk)])[M.length]?=some ⟨cs,1,2⟩:=List.getElem?_concat_length
  have gA:=rdn_bx (k:=0) (n:=16) hbx (by omega) (by rw [List.drop_zero,List.take_of_length_le (by omega)])
  have eD:=c_impl_isDeep (M++[(⟨cs,1,2⟩:Blk)]) cs d (h.mono hpre) hb
  have eR:=c_impl_areDraws (M++[(⟨cs,1,2⟩:Blk)]) _ ds (hD.mono hpre) (by omega) (2 * (ids.length:Int))
  have hok:lvOk d ids ds=(deepB d && (decide (ids.length≤700) && (drsB (2 * (ids.length:Int)) ds && ids.all (idqB d.1)))):=rfl
  have ff:=fun hf=>gc_sat (lv_f (d:=d) (ids:=ids) (ds:=ds) hf (List.prefix_refl M)) (lv_f (d:=d) (ids:=ids) (ds:=ds) hf hpre)
  have w1:IntKind.i64.wrap (2 * (ids.length:Int))=2 * (ids.length:Int):=wrap_i64 (by omega) (by omega)
  cases hd:deepB d with
  | false =>
    rw [hd] at eD
    have hf:lvOk d ids ds=false:=by rw [hok,hd]; rfl
    rw [aCall_eq T_impl_DeepLeaves]; unfold A_impl_DeepLeaves C_impl_DeepLeaves; simp [apA,ho,hl,gA,eD]
    exact ff hf
  | true =>
  rw [hd] at eD
  by_cases h7:ids.length≤700
  rotate_left
  · have hf:lvOk d ids ds=false:=by rw [hok,decide_eq_false h7]; simp
    have h7':(700:Int) < (ids.length:Int):=by omega
    have h7n:700 < ids.length:=by omega
    rw [aCall_eq T_impl_DeepLeaves]; unfold A_impl_DeepLeaves C_impl_DeepLeaves; simp [apA,ho,hl,gA,eD,h7',h7n]
    exact ff hf
  have h7':¬ (700:Int) < (ids.length:Int):=by omega
  have h7n:¬ 700 < ids.length:=by omega
  cases hr:drsB (2 * (ids.length:Int)) ds with
  | false =>
    rw [hr] at eR
    have hf:lvOk d ids ds=false:=by rw [hok,hr]; simp
    rw [aCall_eq T_impl_DeepLeaves]; unfold A_impl_DeepLeaves C_impl_DeepLeaves; simp [apA,ho,hl,gA,eD,h7',h7n,w1,eR]
    exact ff hf
  | true =>
  rw [hr] at eR
  obtain ⟨⟨a1,a2,a3⟩,_,hcT⟩:=deep_bd hb
  obtain ⟨aT,cT,o1,o2,F⟩:=deep_shape h
  obtain ⟨l,tb,x1,x2⟩:=d
  obtain ⟨k,one,two,hk,hk4,q1,q2,h3,h5,h6⟩:=deep_kept hd
  simp only at a1 a2 a3
  have t0:=rd1_bx hbx F.c0
  have t1:=rd1_bx hbx F.c1
  simp only at t0 t1
  have eA:=c_any_Int (M++[(⟨cs,1,2⟩:Blk)]) _ ids (hI.mono hpre) (by omega) F_impl_DeepLeaves_1 [.pointer (some ⟨M.length,0,none⟩)] (fun x=>!idqB l x) (fun i hi=>c_impl_DeepLeaves_1 _ M.length l _ (k+2) (by omega) (by omega) t0)
  have hany:(ids.any fun x=>!idqB l x)=!(ids.all (idqB l)):=by rw [List.not_all_eq_any_not]
  rw [hany] at eA
  simp only at hok
  cases ha:ids.all (idqB l) with
  | false =>
    rw [ha] at eA
    have hf:lvOk (l,tb,x1,x2) ids ds=false:=by rw [hok,ha]; simp
    rw [aCall_eq T_impl_DeepLeaves]; unfold A_impl_DeepLeaves C_impl_DeepLeaves; simp [apA,ho,hl,gA,eD,h7',h7n,w1,eR,eA]
    exact ff hf
  | true =>
  rw [ha] at eA
  have ht:lvOk (l,tb,x1,x2) ids ds=true:=by rw [hok,hd,decide_eq_true h7,hr,ha]; rfl
  obtain ⟨z1,z2,z3⟩:=low_len hk hk4 q1 h3 h5
  have hp6:2 ^ k≤2 ^ 4:=Nat.pow_le_pow_right (by omega) hk4
  have hp0:0 < 2 ^ k:=Nat.two_pow_pos k
  have hdn:ds.length=2 * ids.length:=by
    unfold drsB at hr
    simp only [Bool.and_eq_true,decide_eq_true_eq] at hr
    omega
  have hid:∀ x ∈ ids,x < ((4 * 2 ^ k:Nat):Int):=fun x hx=>by
    have:=List.all_eq_true.1 ha x hx
    unfold idqB at this
    simp only [Bool.and_eq_true,decide_eq_true_eq] at this
    rw [← z3]
    exact this.2
  generalize (2:Nat) ^ k=q at *
  have hC:=clone_sl (M:=M++[(⟨cs,1,2⟩:Blk)]) T_slices_Clone_int_int (t:=ty_Int) fl_Int rfl (F.rT.mono hpre) (show tb.length * 8≤_ by omega) (show tb.length≤_ by omega)
  have hlF:lvF (l,tb,x1,x2) ids ds=lvRun l ds ids (tb,posD one,[],[]) ids.length:=by unfold lvF; simp only [q1]; rfl
  rw [aCall_eq T_impl_DeepLeaves]; unfold A_impl_DeepLeaves C_impl_DeepLeaves; simp [apA,ho,hl,gA,eD,h7',h7n,w1,eR,eA,t1]
  generalize hx:aCall T0 F_slices_Clone_int_int _ _=xhx
  obtain ⟨vT,X1,rfl,L1,p1,g1,n1,k1⟩:=of_call hx hC
  clear hx
  simp only at p1 g1
  obtain ⟨q0,rfl,b0,m0⟩:=gr_blk g1 (by intro e; rw [e] at z1; simp at z1; omega)
  have pM1:=hpre.trans p1
  have hb1:=get_pre p1 hbx
  obtain ⟨aT',cT',o1',o2',F'⟩:=deep_shape (h.mono pM1)
  have hK:=c_impl_Deep_pos X1 M.length cs l tb x1 x2 aT' cT' o1' o2' F' hb1 a1 a2 one q1
  have hq0:=k1 q0 m0
  have hq0l:=get_lt b0
  simp [apA]
  generalize hx:aCall T0 F_impl_Deep_pos _ _=xhx
  obtain ⟨vP,X2,rfl,L2,p2,g2,n2,k2⟩:=of_call hx hK
  clear hx
  simp only at p2 g2
  obtain ⟨q1',rfl,b1,m1⟩:=gr_blk g2 (by intro e; rw [e] at z2; simp at z2; omega)
  have hq1:=k2 q1' m1
  have hZ1:=p1.length_le
  have hQ:Lv (M++[(⟨cs,1,2⟩:Blk)]) q0 q1' (tb,posD one,[],[]) (.slice none 0 0,.slice none 0 0) X2:=⟨p1.trans p2,get_pre p2 b0,b1,Grow.nil,Grow.nil,by omega,hq0,by omega,by simp [wfs],by simp [wfs],by simp [wfs],by simp [wfs],by simp [wfs]⟩
  obtain ⟨v',X3,hX3,e⟩:=l_impl_DeepLeaves_0 (M++[(⟨cs,1,2⟩:Blk)]) M.length q0 q1' l (by omega) t0 ids ds aI aD cI cD (hI.mono hpre) (hD.mono hpre) h7 hdn q (4 * q) q (4 * q) rfl (by omega) hid tb (posD one) z1 z2 _ X2 hQ
  simp only [Int.natCast_zero,Int.ofNat_zero] at e
  simp only [z1,z2]
  obtain ⟨v1,v2⟩:=v'
  have hin:inA (lvF (l,tb,x1,x2) ids ds):=by
    rw [hlF]
    refine lvRun_in ⟨fun z hz=>?_,posD_in one,by simp,by simp⟩ _
    exact (rep_cellsF fl_Int F.rT).2.2 z hz
  have hX4:Lv (M++[(⟨cs,1,2⟩:Blk)]) q0 q1' (lvF (l,tb,x1,x2) ids ds) (v1,v2) X3:=by rw [hlF]; exact hX3
  have fin:=lv_t ht hpre hin hX4
  obtain ⟨s1,rfl⟩:=(show ∃ a,v1=.slice a _ _ from (show QI _ _ _ _ _ _ _ _ _ _ from hX4).g1.shape)
  simp [apA,e]
  rw [S_impl_DeepLeaves_0]; unfold B_impl_DeepLeaves_0; simp [apA]
  exact sat_some fin
theorem d_impl_DeepLeaves (M:Mem) (cs:List V) (d:ty_Deep.D) (h:Rep ty_Deep M cs d) (hb:Bd 1048576 ty_Deep d) (vI:V) (ids:List Int) (hI:Rep (.sl ty_Int) M [vI] ids) (hbI:Bd 1048576 (.sl ty_Int) ids) (vD:V) (ds:List Int) (hD:Rep (.sl ty_Int) M [vD] ds) (hbD:Bd 1048576 (.sl ty_Int) ds) :
    ∃ M' r1 r2 L1 L2,M <+: M'∧aCall T0 F_impl_DeepLeaves [.agg cs.toArray,vI,vD] M=some (.tuple #[r1,r2,.bool (lvOk d ids ds)],M')∧Own (.sl ty_Int) M' [r1] (lvA d ids ds) L1∧Own (.sl ty_Int) M' [r2] (lvB d ids ds) L2∧Fresh M M' (L1++L2):=by
  obtain ⟨⟨p,M'⟩,e,r1,r2,L1,L2,rfl,q1,g1,g2,nd,ge⟩:=c_impl_DeepLeaves M cs d h hb vI ids hI hbI.1 vD ds hD hbD.1
  simp only at q1 g1 g2
  obtain ⟨J1,o1,s1⟩:=g1.own
  obtain ⟨J2,o2,s2⟩:=g2.own
  have hs:=s1.append s2
  refine ⟨M',r1,r2,J1,J2,q1,e,o1,o2,hs.nodup nd,fun j hj=>⟨ge j (hs.subset hj),?_⟩⟩
  rcases List.mem_append.1 (hs.subset hj) with hj | hj
  · exact g1.lt j hj
  · exact g2.lt j hj
end GoAm
