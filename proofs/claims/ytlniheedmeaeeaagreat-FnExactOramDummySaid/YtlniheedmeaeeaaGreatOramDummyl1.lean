/- What the functions do that the law reaches. -/
import Derived.Test.YtlniheedmeaeeaaGreatOramDummyl0
set_option autoImplicit false
set_option linter.unusedVariables false
set_option linter.unusedSimpArgs false
namespace GoAm
open Go
theorem Zq8 {α:Type} (ns:List (List α)) {i:Nat} (hi:i < ns.length):(ns.take (i+1)).flatten=(ns.take i).flatten++ns[i]:=by
  rw [List.take_succ_eq_append_getElem hi,List.flatten_append,List.flatten_cons,List.flatten_nil,List.append_nil]
theorem Zr3 {α:Type} {ns:List (List α)} {k:Nat} (h:∀ x ∈ ns,x.length≤k):ns.flatten.length≤ns.length * k:=by
  induction ns with
  | nil=>simp
  | cons x xs ih =>
    rw [List.flatten_cons,List.length_append,List.length_cons,Nat.succ_mul]
    have h1:=h x (by simp)
    have h2:=ih (fun y hy=>h y (by simp [hy]))
    omega
set_option maxRecDepth 20000 in
set_option maxHeartbeats 2000000 in
theorem Zoc (M:Mem) (p q m:Nat) (aN:Option Addr) (cN:Nat) (ns:List Zah.D) (hN:Rep (.sl Zah) M [.slice aN ns.length cN] ns) (hp:rd1 M p 0=some (.int .i64 (m:Int))) (hq:M.length≤q) (hm:m≤6) (hlen:ns.length+1=2 * 2 ^ m) (hbs:∀ bs ∈ ns,∀ b ∈ bs,(0≤b.1∧b.1≤255)∧b.2.1=((Int.toNat b.2.1:Nat):Int)∧Int.toNat b.2.1 < 2 ^ m) (hnl:∀ bs ∈ ns,List.length (α:=Za.D) bs≤4)
    (st:List Za.D) (hst:st.length≤1000) (X:Mem) (h:SeI M q st X) :
    (∃ (u:Unit) (X':Mem),SeI M q (st++ns.flatten) X'∧(∀ i,i < ns.length→ZrZ m ns i=true)∧lp (Zb T0) Qm JO (FtI p q aN ns.length cN 0) X=lp (Zb T0) Qm JO (FtI p q aN ns.length cN ns.length) X') ∨
    ((∃ i,i < ns.length∧ZrZ m ns i=false)∧RtB M (lp (Zb T0) Qm JO (FtI p q aN ns.length cN 0) X)):=by
  have hp6:2 ^ m≤2 ^ 6:=Nat.pow_le_pow_right (by omega) hm
  have key:=Zsp (call:=Zb T0) (K:=Qm) (L:=JO) (fun i (_:Unit) X=>SeI M q (st++(ns.take i).flatten) X) (fun i (_:Unit)=>FtI p q aN ns.length cN i) (ZrZ m ns) (RtB M) (n:=ns.length) () X (by simpa using h) ?_ ?_
  · rw [List.take_length] at key
    exact key
  all_goals
    intro i _ X hi ho hX
    rw [ZlH hi] at ho
    have hfl:=Zr3 (ns:=ns.take i) (k:=4) (fun x hx=>hnl x (List.mem_of_mem_take hx))
    rw [List.length_take] at hfl
    have key:=ZnA M p q m aN cN ns hN hp hq hm hlen i hi (hbs _ (List.getElem_mem hi)) (hnl _ (List.getElem_mem hi)) (st++(ns.take i).flatten) (by rw [List.length_append]; omega) X hX
    have e6:IntKind.i64.wrap ((i:Int)+1)=i+1:=Zd (by omega) (by omega)
    obtain ⟨l,o,u,rfl,hru,_,hrep⟩:=Zs9 (hN.mono hX.1) hi
    obtain ⟨a1,c1,rfl⟩:=hrep.slen
    simp only [FsI,Int.natCast_zero,Int.ofNat_zero] at key
    rcases key with ⟨_,X',hX',hall,e⟩ | ⟨⟨j,hj,hon⟩,fr,X',e,q2,q3⟩
  · refine ⟨(),X',by rw [Zq8 ns hi,← List.append_assoc]; exact hX',?_⟩
    obtain ⟨l',o',u',e',hru',_,hrep'⟩:=Zs9 (hN.mono hX'.1) hi
    cases e'
    obtain ⟨a1',c1',rfl⟩:=hrep'.slen
    rw [ZdT]; unfold ZaD; simp [apA,hi,e]
    rw [Zf4]; unfold Zb6; simp [apA,hi,hru',e6]
    try rfl
  · exfalso
    rw [Zp4 hj] at hon
    have:=List.all_eq_true.1 ho _ (List.getElem_mem hj)
    rw [hon] at this
    cases this
  · exfalso
    have:(List.all (α:=Za.D) ns[i] fun b=>onP m (i+1) (Int.toNat b.2.1))=true:=List.all_eq_true.2 fun b hb=>by
      obtain ⟨k,hk,rfl⟩:=List.getElem_of_mem hb
      rw [← Zp4 hk]
      exact hall k hk
    rw [this] at ho
    cases ho
  · rw [ZdT]; unfold ZaD; simp [apA,hi,e]
    exact ⟨fr,X',rfl,q2,q3⟩
set_option maxRecDepth 20000 in
set_option maxHeartbeats 2000000 in
theorem Zod (M:Mem) (q:Nat) (xs:List Za.D) (X:Mem) (h:SeI M q xs X) :
    (∃ X',X'=X∧(∀ i,i < 256→decide (ZoX i xs≤1)=true)∧lp (Zb T0) Qi JK [O,O,O,O,O,.slice (some ⟨q,0,none⟩) 256 256,O,O,O,O,.int .i64 (0:Nat),O,O,O,O,O,O,O,O,O,O,O,O,O,O,O,O,O,O,O,O,O,O,O,O,O,O,O,O,O,O,O,O,O,O,O,O,O,O,O,O,O,O,O,O,O,O,O,O,O,O,O,O,O,O,O,O,O,O,O,O,O,O,O,O,O,O,O,O,O,O,O,O,O,O,O,O,O,O,O,O,O,O,O,O,O,O,O,O,O,O,O,O,O,O,O,O,O,O,O,O,O,O,O,O,O,O,O,O,O,O,O,O,O,O,O,O,O,O,O,O,O,O,O,O,O,O,O,O,O,O,O,O,O] X=lp (Zb T0) Qi JK [O,O,O,O,O,.slice (some ⟨q,0,none⟩) 256 256,O,O,O,O,.int .i64 (256:Nat),O,O,O,O,O,O,O,O,O,O,O,O,O,O,O,O,O,O,O,O,O,O,O,O,O,O,O,O,O,O,O,O,O,O,O,O,O,O,O,O,O,O,O,O,O,O,O,O,O,O,O,O,O,O,O,O,O,O,O,O,O,O,O,O,O,O,O,O,O,O,O,O,O,O,O,O,O,O,O,O,O,O,O,O,O,O,O,O,O,O,O,O,O,O,O,O,O,O,O,O,O,O,O,O,O,O,O,O,O,O,O,O,O,O,O,O,O,O,O,O,O,O,O,O,O,O,O,O,O,O,O,O,O] X') ∨
    ((∃ i,i < 256∧decide (ZoX i xs≤1)=false)∧RtB M (lp (Zb T0) Qi JK [O,O,O,O,O,.slice (some ⟨q,0,none⟩) 256 256,O,O,O,O,.int .i64 (0:Nat),O,O,O,O,O,O,O,O,O,O,O,O,O,O,O,O,O,O,O,O,O,O,O,O,O,O,O,O,O,O,O,O,O,O,O,O,O,O,O,O,O,O,O,O,O,O,O,O,O,O,O,O,O,O,O,O,O,O,O,O,O,O,O,O,O,O,O,O,O,O,O,O,O,O,O,O,O,O,O,O,O,O,O,O,O,O,O,O,O,O,O,O,O,O,O,O,O,O,O,O,O,O,O,O,O,O,O,O,O,O,O,O,O,O,O,O,O,O,O,O,O,O,O,O,O,O,O,O,O,O,O,O,O] X)):=by
  have key:=Zsp (call:=Zb T0) (K:=Qi) (L:=JK) (fun _ (_:Unit) Y=>Y=X) (fun i (_:Unit)=>[O,O,O,O,O,.slice (some ⟨q,0,none⟩) 256 256,O,O,O,O,.int .i64 i,O,O,O,O,O,O,O,O,O,O,O,O,O,O,O,O,O,O,O,O,O,O,O,O,O,O,O,O,O,O,O,O,O,O,O,O,O,O,O,O,O,O,O,O,O,O,O,O,O,O,O,O,O,O,O,O,O,O,O,O,O,O,O,O,O,O,O,O,O,O,O,O,O,O,O,O,O,O,O,O,O,O,O,O,O,O,O,O,O,O,O,O,O,O,O,O,O,O,O,O,O,O,O,O,O,O,O,O,O,O,O,O,O,O,O,O,O,O,O,O,O,O,O,O,O,O,O,O,O,O,O,O,O]) (fun i=>decide (ZoX i xs≤1)) (RtB M) (n:=256) () X rfl ?_ ?_
  · rcases key with ⟨_,X',h1,h2,h3⟩ | h
    · exact .inl ⟨X',h1,h2,h3⟩
    · exact .inr h
  all_goals
    intro i _ Y hi ho hY
    subst hY
    have hget:=Zj5 xs hi
    have hr:rd1 Y q i=some (.int .i64 (ZoX i xs:Int)):=by simp [rd1,h.2,hget]
    have e6:IntKind.i64.wrap ((i:Int)+1)=i+1:=Zd (by omega) (by omega)
    have hi2:(i:Int) < 256:=by omega
  · have ho:=of_decide_eq_true ho
    generalize ZoX i xs=z at *
    have ho2:¬ (1:Int) < (z:Int):=by omega
    refine ⟨(),Y,rfl,?_⟩
    rw [Zgs]; unfold ZbV; simp [apA,hi,hi2,hr,ho2,e6]
    try rfl
  · have ho:=of_decide_eq_false ho
    generalize ZoX i xs=z at *
    have ho2:(1:Int) < (z:Int):=by omega
    rw [Zgs]; unfold ZbV; simp [apA,hi,hi2,hr,ho2,e6]
    refine ⟨_,_,rfl,?_,h.1⟩
    rfl
def flI (k:Nat) (xs:List Za.D):List Za.D:=xs.filter fun b=>decide (Int.toNat b.1=k)
theorem Zjt (k:Nat) (xs:List Za.D):ZoX k xs=(flI k xs).length:=rfl
theorem toNat_inj {a b:Int} (ha:0≤a) (hb:0≤b) (h:Int.toNat a=Int.toNat b):a=b:=by omega
theorem ZBu {xs:List Za.D} (h:ZhP xs) (hr:Zgv xs) (k:Nat):ZoX k xs≤1:=by
  rw [Zjt]
  by_cases h2:(flI k xs).length≤1
  · exact h2
  · exfalso
    have hs:(flI k xs).Pairwise fun a b=>a.1 < b.1:=h.sublist List.filter_sublist
    have h3:=List.pairwise_iff_getElem.1 hs 0 1 (by omega) (by omega) (by omega)
    have m0:=List.mem_filter.1 (List.getElem_mem (show 0 < (flI k xs).length by omega))
    have m1:=List.mem_filter.1 (List.getElem_mem (show 1 < (flI k xs).length by omega))
    have e:=toNat_inj (hr _ m0.1).1 (hr _ m1.1).1 ((of_decide_eq_true m0.2).trans (of_decide_eq_true m1.2).symm)
    rw [e] at h3
    exact Int.lt_irrefl _ h3
theorem JG (k:Nat) (xs ys:List Za.D):flI k (xs++ys)=flI k xs++flI k ys:=List.filter_append ..
theorem Zwj (id:Int):∀ (xs:List Za.D),lbB id xs≤xs.length
  | []=>by simp [lbB]
  | b :: xs=>by
    have ih:=Zwj id xs
    unfold lbB at ih ⊢
    by_cases h:b.1 < id
    · simp only [List.takeWhile_cons,decide_eq_true h,if_true,List.length_cons]; omega
    · simp only [List.takeWhile_cons,decide_eq_false h,Bool.false_eq_true,if_false,List.length_nil]; omega
theorem ZgL {xs:List Za.D} {r:Nat} (hs:ZhP xs) (hr:r < xs.length):∀ k (hk:k < xs.length),r < k→xs[r].1 < xs[k].1:=fun k hk hkr=>List.pairwise_iff_getElem.1 hs r k hr hk hkr
theorem Zxl (id:Int):∀ (xs:List Za.D) (k:Nat) (hk:k < xs.length),k < lbB id xs→xs[k].1 < id
  | [],k,hk,_=>by simp at hk
  | b :: xs,k,hk,h=>by
    unfold lbB at h
    by_cases hb:b.1 < id
    · simp only [List.takeWhile_cons,decide_eq_true hb,if_true,List.length_cons] at h
      cases k with
      | zero=>exact hb
      | succ k=>exact Zxl id xs k (by simpa using hk) (by unfold lbB; omega)
    · simp only [List.takeWhile_cons,decide_eq_false hb,Bool.false_eq_true,if_false,List.length_nil] at h
      omega
theorem ZBq (id:Int):∀ (xs:List Za.D) (h:lbB id xs < xs.length),¬ (xs[lbB id xs]).1 < id
  | [],h=>by simp at h
  | b :: xs,h=>by
    by_cases hb:b.1 < id
    · have e:lbB id (b :: xs)=lbB id xs+1:=by
        unfold lbB
        simp only [List.takeWhile_cons,decide_eq_true hb,if_true,List.length_cons]
      have h2:lbB id xs < xs.length:=by rw [e] at h; simpa using h
      have ih:=ZBq id xs h2
      have:(b :: xs)[lbB id (b :: xs)]=xs[lbB id xs]:=by
        simp only [e]
        rfl
      rw [this]
      exact ih
    · have e:lbB id (b :: xs)=0:=by
        unfold lbB
        simp only [List.takeWhile_cons,decide_eq_false hb,Bool.false_eq_true,if_false,List.length_nil]
      have:(b :: xs)[lbB id (b :: xs)]=b:=by
        simp only [e]
        rfl
      rw [this]
      exact hb
theorem ZwB {id:Int} {xs:List Za.D} (h:ZaP id xs=false):∀ c ∈ xs,c.1 ≠ id:=fun c hc e=>by
  have:ZaP id xs=true:=List.any_eq_true.2 ⟨c,hc,decide_eq_true e⟩
  rw [h] at this
  cases this
theorem Zdo {id:Int} {xs:List Za.D} (h:∀ b ∈ xs,b.1 ≠ id):ZP id xs=xs:=by
  unfold ZP
  rw [List.filter_eq_self]
  intro b hb
  exact decide_eq_true (h b hb)
theorem ZyX (b:Za.D) (ys:List Za.D):(Zyx b ys).length=ys.length+1:=by
  unfold Zyx
  have:=Zwj b.1 ys
  simp only [List.length_append,List.length_take,List.length_cons,List.length_drop]
  omega
theorem Zti (b:Za.D) (xs:List Za.D):(Zj7 b xs).length=(ZP b.1 xs).length+1:=ZyX _ _
theorem Ztr {b:Za.D} {xs:List Za.D} (h:ZaP b.1 xs=false):Zj7 b xs=Zyx b xs∧(Zj7 b xs).length=xs.length+1:=by
  have e:=Zdo (ZwB h)
  refine ⟨by unfold Zj7; rw [e],by rw [Zti,e]⟩
theorem Zqe {b:Za.D} {xs:List Za.D} (hs:ZhP xs) (h:ZaP b.1 xs=false):ZhP (Zj7 b xs):=by
  rw [(Ztr h).1]
  unfold Zyx
  have hle:=Zwj b.1 xs
  have h1:=Zxl b.1 xs
  have h2:=ZBq b.1 xs
  generalize lbB b.1 xs=r at *
  have ha:∀ c ∈ xs.take r,c.1 < b.1:=fun c hc=>by
    obtain ⟨k,hk,rfl⟩:=List.getElem_of_mem hc
    rw [List.length_take] at hk
    rw [List.getElem_take]
    exact h1 k (by omega) (by omega)
  have hb:∀ c ∈ xs.drop r,b.1 < c.1:=fun c hc=>by
    obtain ⟨k,hk,rfl⟩:=List.getElem_of_mem hc
    rw [List.length_drop] at hk
    rw [List.getElem_drop]
    have hr:r < xs.length:=by omega
    have h3:=h2 hr
    have h4:=ZwB h _ (List.getElem_mem hr)
    have h5:b.1 < xs[r].1:=Int.lt_iff_le_and_ne.2 ⟨Int.not_lt.1 h3,fun e=>h4 e.symm⟩
    by_cases hk0:k=0
    · subst hk0; exact h5
    · exact Int.lt_trans h5 (ZgL hs hr _ (by omega) (by omega))
  unfold ZhP
  refine List.pairwise_append.2 ⟨hs.sublist (List.take_sublist _ _),List.pairwise_cons.2 ⟨hb,hs.sublist (List.drop_sublist _ _)⟩,fun a h7 c hc=>?_⟩
  rcases List.mem_cons.1 hc with rfl | hc
  · exact ha a h7
  · exact Int.lt_trans (ha a h7) (hb c hc)
theorem ZtD {b c:Za.D} {ys:List Za.D} (h:c ∈ Zyx b ys):c=b∨c ∈ ys:=by
  unfold Zyx at h
  rcases List.mem_append.1 h with h | h
  · exact .inr (List.mem_of_mem_take h)
  · rcases List.mem_cons.1 h with h | h
    · exact .inl h
    · exact .inr (List.mem_of_mem_drop h)
theorem Zj0 {b:Za.D} {xs:List Za.D} (hs:Zgv xs) (hb:0≤b.1∧b.1≤255):Zgv (Zj7 b xs):=fun x hx=>by
  unfold Zj7 at hx
  rcases ZtD hx with rfl | h
  · exact hb
  · exact hs x (List.mem_filter.1 h).1
theorem ZnI (k:Nat) (b:Za.D):flI k [b]=if Int.toNat b.1=k then [b] else []:=by
  unfold flI
  by_cases h:Int.toNat b.1=k
  · rw [if_pos h,List.filter_cons,if_pos (decide_eq_true h)]; rfl
  · rw [if_neg h,List.filter_cons,if_neg (by rw [decide_eq_false h]; simp)]; rfl
theorem ZBd {id:Int} (h0:0≤id) {xs:List Za.D} (hr:Zgv xs) (h:ZaP id xs=false):flI (Int.toNat id) xs=[]:=by
  unfold flI
  rw [List.filter_eq_nil_iff]
  intro c hc hd
  exact ZwB h c hc (toNat_inj (hr c hc).1 h0 (of_decide_eq_true hd))
theorem ZsO {b:Za.D} {xs:List Za.D} (hb:0≤b.1∧b.1≤255) (hr:Zgv xs) (h:ZaP b.1 xs=false) (k:Nat):flI k (Zj7 b xs)=flI k (xs++[b]):=by
  rw [(Ztr h).1]
  unfold Zyx
  generalize lbB b.1 xs=r
  have e:xs.take r++b :: xs.drop r=xs.take r++([b]++xs.drop r):=by simp
  rw [e,JG,JG,JG,ZnI]
  have hx:flI k (xs.take r)++flI k (xs.drop r)=flI k xs:=by rw [← JG,List.take_append_drop]
  by_cases hk:Int.toNat b.1=k
  · rw [if_pos hk]
    have h0:=ZBd hb.1 hr h
    rw [hk] at h0
    rw [h0] at hx ⊢
    have:=List.append_eq_nil_iff.1 hx
    rw [this.1,this.2]
    rfl
  · rw [if_neg hk,List.nil_append,hx,List.append_nil]
theorem ZsB {m nd:Nat}:∀ (bs all a:List Za.D),inO m nd all bs=some a→ZhP all→Zgv all→Zgv bs→(∀ b ∈ bs,onP m nd (Int.toNat b.2.1)=true)∧ZhP a∧Zgv a∧∀ k,flI k a=flI k (all++bs)
  | [],all,a,h,h1,h2,h3=>by
    cases h
    exact ⟨by simp,h1,h2,by simp⟩
  | b :: bs,all,a,h,h1,h2,h3=>by
    unfold inO at h
    by_cases hc:(onP m nd (Int.toNat b.2.1) && !(ZaP b.1 all))=true
    · rw [if_pos hc] at h
      rw [Bool.and_eq_true] at hc
      have hn:ZaP b.1 all=false:=by simpa using hc.2
      have hb:=h3 b (by simp)
      obtain ⟨q1,q2,q3,q4⟩:=ZsB bs (Zj7 b all) a h (Zqe h1 hn) (Zj0 h2 hb) (fun x hx=>h3 x (by simp [hx]))
      refine ⟨fun x hx=>?_,q2,q3,fun k=>?_⟩
      · rcases List.mem_cons.1 hx with rfl | hx
        · exact hc.1
        · exact q1 x hx
      · rw [q4 k,JG,ZsO hb h2 hn,← JG,List.append_assoc]
        rfl
    · rw [if_neg hc] at h
      cases h
theorem Zqc {l w:Int} {c:Zi.D} (h:ZfD l w c=true):Zgv (ndB (Int.toNat w) c):=by
  unfold ZfD at h
  simp only [Bool.and_eq_true] at h
  exact ZjI h.2.2.1
theorem Zno {m:Nat} {w:Int}:∀ (cells:List Zi.D) (nd:Nat) (all a:List Za.D),ZpM m w nd cells all=some a→ZhP all→Zgv all →
    (cells.all (ZfD m w)=true∧∀ i (hi:i < cells.length),∀ b ∈ ndB (Int.toNat w) cells[i],onP m (nd+i) (Int.toNat b.2.1)=true)∧ZhP a∧Zgv a∧∀ k,flI k a=flI k (all++(Zd9 w cells).flatten)
  | [],nd,all,a,h,h1,h2=>by
    cases h
    exact ⟨⟨rfl,by simp⟩,h1,h2,by simp [Zd9]⟩
  | c :: cs,nd,all,a,h,h1,h2=>by
    unfold ZpM at h
    by_cases hok:ZfD m w c=true
    · rw [if_pos hok] at h
      have hid:=Zqc hok
      cases hi:inO m nd all (ndB (Int.toNat w) c) with
      | none=>rw [hi] at h; cases h
      | some a1 =>
        rw [hi] at h
        obtain ⟨q1,q2,q3,q4⟩:=ZsB _ all a1 hi h1 h2 hid
        obtain ⟨⟨r1,r2⟩,r3,r4,r5⟩:=Zno cs (nd+1) a1 a h q2 q3
        refine ⟨⟨by rw [List.all_cons,hok,r1]; rfl,fun i hi b hb=>?_⟩,r3,r4,fun k=>?_⟩
        · cases i with
          | zero=>exact q1 b hb
          | succ i =>
            have:=r2 i (by simpa using hi) b (by simpa using hb)
            rw [show nd+(i+1)=nd+1+i by omega]
            exact this
        · rw [r5 k,JG,q4 k,← JG,List.append_assoc]
          rfl
    · rw [if_neg hok] at h
      cases h
theorem ZBl {m nd:Nat}:∀ (bs all:List Za.D),ZhP all→Zgv all→Zgv bs→(∀ b ∈ bs,onP m nd (Int.toNat b.2.1)=true)→(∀ k,k < 256→ZoX k (all++bs)≤1)→∃ a,inO m nd all bs=some a
  | [],all,_,_,_,_,_=>⟨all,rfl⟩
  | b :: bs,all,h1,h2,h3,h4,h5=>by
    have hb:=h3 b (by simp)
    have hbn:=Zr7 hb
    have hn:ZaP b.1 all=false:=by
      cases hh:ZaP b.1 all with
      | false=>rfl
      | true =>
        obtain ⟨c,hc,hd⟩:=List.any_eq_true.1 hh
        have he:c.1=b.1:=of_decide_eq_true hd
        have:=h5 (Int.toNat b.1) hbn.2
        rw [Zjt,JG,List.length_append] at this
        have e2:flI (Int.toNat b.1) (b :: bs)=[b]++flI (Int.toNat b.1) bs:=by
          rw [show b :: bs=[b]++bs from rfl,JG,ZnI,if_pos rfl]
        rw [e2,List.length_append,List.length_singleton] at this
        have hcm:c ∈ flI (Int.toNat b.1) all:=List.mem_filter.2 ⟨hc,decide_eq_true (by rw [he])⟩
        have:=List.length_pos_of_mem hcm
        omega
    unfold inO
    rw [if_pos (by rw [h4 b (by simp),hn]; rfl)]
    refine ZBl bs (Zj7 b all) (Zqe h1 hn) (Zj0 h2 hb) (fun x hx=>h3 x (by simp [hx])) (fun x hx=>h4 x (by simp [hx])) fun k hk=>?_
    rw [Zjt,JG,ZsO hb h2 hn,← JG,List.append_assoc]
    exact h5 k hk
theorem ZwQ {m:Nat} {w:Int}:∀ (cells:List Zi.D) (nd:Nat) (all:List Za.D),ZhP all→Zgv all→cells.all (ZfD m w)=true→(∀ i (hi:i < cells.length),∀ b ∈ ndB (Int.toNat w) cells[i],onP m (nd+i) (Int.toNat b.2.1)=true)→(∀ k,k < 256→ZoX k (all++(Zd9 w cells).flatten)≤1)→∃ a,ZpM m w nd cells all=some a
  | [],nd,all,_,_,_,_,_=>⟨all,rfl⟩
  | c :: cs,nd,all,h1,h2,h3,h4,h5=>by
    rw [List.all_cons,Bool.and_eq_true] at h3
    have hid:=Zqc h3.1
    have hfl:(Zd9 w (c :: cs)).flatten=ndB (Int.toNat w) c++(Zd9 w cs).flatten:=rfl
    obtain ⟨a1,hi⟩:=ZBl (m:=m) (nd:=nd) (ndB (Int.toNat w) c) all h1 h2 hid (fun b hb=>h4 0 (by simp) b hb) (fun k hk=>by
      have:=h5 k hk
      rw [hfl,← List.append_assoc,Zjt,JG,List.length_append] at this
      rw [Zjt]
      omega)
    obtain ⟨q1,q2,q3,q4⟩:=ZsB _ all a1 hi h1 h2 hid
    unfold ZpM
    rw [if_pos h3.1,hi]
    refine ZwQ cs (nd+1) a1 q2 q3 h3.2 (fun i hi b hb=>?_) fun k hk=>?_
    · have:=h4 (i+1) (by simpa using hi) b (by simpa using hb)
      rw [show nd+1+i=nd+(i+1) by omega]
      exact this
    · rw [Zjt,JG,q4 k,← JG,List.append_assoc,← hfl]
      exact h5 k hk
theorem Zq9 {l w b:Int} {m:ZT.D} {st:List Za.D} (h:frO l w b m st=false):(orX l w b m st).isSome=false:=by unfold orX; rw [h]; rfl
theorem Zqp (w:Int) (cells:List Zi.D) {i:Nat} (hi:i < cells.length):(Zd9 w cells)[i]'(by unfold Zd9; rw [List.length_map]; exact hi)=ndB (Int.toNat w) cells[i]:=by simp [Zd9]
theorem ZAK (w:Int) (cells:List Zi.D):(Zd9 w cells).length=cells.length:=by simp [Zd9]
theorem Ztk (n:Nat):(0:Int) < 2 ^ n:=Int.pow_pos (by omega)
theorem Zm5 (M:Mem) (m n:Nat) (h:m≤6) (hn:n=2 * 2 ^ m - 1):Zb T0 Zc4 [.int .i64 m] M=some (.int .i64 n,M):=by
  have hp:(2:Int) ^ m≤2 ^ 6:=Zs1 h
  have hq:(0:Int) < 2 ^ m:=Ztk m
  have hn2:(n:Int)=2 * 2 ^ m - 1:=by
    have:0 < 2 ^ m:=Nat.pow_pos (by omega)
    subst hn
    rw [Int.natCast_sub (by omega)]
    simp
  have e1:IntKind.i64.wrap (2 * 2 ^ m)=2 * 2 ^ m:=Zd (by omega) (by omega)
  have e2:IntKind.i64.wrap (2 * 2 ^ m - 1)=n:=by rw [hn2]; exact Zd (by omega) (by omega)
  have hb:(decide ((0:Int)≤m) && decide ((m:Int)≤6))=true:=by simp; omega
  have e3:=ZfV M m
  rw [hb] at e3
  rw [Zc Zna]; unfold Ze5 ZiI; simp [e3,Zie _ m (by omega),e1,e2]
def atB {α:Type} (p:α→Bool) (xs:List α) (i:Nat):Bool:=match xs[i]? with
  | some x=>p x
  | none=>true
theorem Zdr {α:Type} (p:α→Bool) {xs:List α} {i:Nat} (hi:i < xs.length):atB p xs i=p xs[i]:=by unfold atB; rw [List.getElem?_eq_getElem hi]
theorem Zs0 {α:Type} {p:α→Bool} {xs:List α} (h:∀ i,i < xs.length→atB p xs i=true):xs.all p=true:=by
  rw [List.all_eq_true]
  intro x hx
  obtain ⟨i,hi,rfl⟩:=List.getElem_of_mem hx
  rw [← Zdr p hi]
  exact h i hi
theorem ZsH {α:Type} {p:α→Bool} {xs:List α} (h:∃ i,i < xs.length∧atB p xs i=false):xs.all p=false:=by
  obtain ⟨i,hi,hq⟩:=h
  rw [Zdr p hi] at hq
  rw [List.all_eq_false]
  exact ⟨xs[i],List.getElem_mem hi,by rw [hq]; decide⟩
theorem ZkX {M:Mem} {cs:List V} {m:ZT.D} (h:Rep ZT M cs m):∃ (a b:Option Addr) (c d:Nat),cs=[.int .i64 m.1,.slice a m.2.1.length c,.slice b m.2.2.length d]∧Rep (.sl Zi) M [.slice a m.2.1.length c] m.2.1∧Rep (.sl Zf) M [.slice b m.2.2.length d] m.2.2:=by
  obtain ⟨u0,u1,rfl,_,r0,r1⟩:=ZbW h
  obtain ⟨a,c,rfl⟩:=r0.slen
  obtain ⟨b,d,rfl⟩:=r1.slen
  exact ⟨a,b,c,d,rfl,r0,r1⟩
theorem ZoN (M X:Mem) (m:ZT.D) (a b:Option Addr) (c d p:Nat) (hM:M <+: X) (hb:X[p]?=some ⟨[.int .i64 m.1,.slice a m.2.1.length c,.slice b m.2.2.length d],1,2⟩) (h:Rep (.sl Zi) M [.slice a m.2.1.length c] m.2.1) (hn:m.2.1.length≤128) :
    ((∀ i,i < m.2.1.length→atB (Zq0 m) m.2.1 i=true)∧lp (Zb T0) QT Zag [O,.pointer (some ⟨p,0,none⟩),O,.int .i64 (0:Nat),O,O,O,O,O,O,O,O,O,O,O,O,O,O,O,O,O,O,O,O,O,O,O,O,O,O,O,O,O,O,O,O,O,O,O,O,O,O,O,O,O,O,O,O,O,O,O,O,O,O,O,O,O,O,O,O,O,O,O,O,O,O,O,O,O,O,O,O,O,O,O,O,O,O,O,O,O,O,O] X=lp (Zb T0) QT Zag [O,.pointer (some ⟨p,0,none⟩),O,.int .i64 m.2.1.length,O,O,O,O,O,O,O,O,O,O,O,O,O,O,O,O,O,O,O,O,O,O,O,O,O,O,O,O,O,O,O,O,O,O,O,O,O,O,O,O,O,O,O,O,O,O,O,O,O,O,O,O,O,O,O,O,O,O,O,O,O,O,O,O,O,O,O,O,O,O,O,O,O,O,O,O,O,O,O] X) ∨
    ((∃ i,i < m.2.1.length∧atB (Zq0 m) m.2.1 i=false)∧∀ k,ZjG M [.tmp 2] (Zjx (Ze1 0 (lp (Zb T0) QT Zag [O,.pointer (some ⟨p,0,none⟩),O,.int .i64 (0:Nat),O,O,O,O,O,O,O,O,O,O,O,O,O,O,O,O,O,O,O,O,O,O,O,O,O,O,O,O,O,O,O,O,O,O,O,O,O,O,O,O,O,O,O,O,O,O,O,O,O,O,O,O,O,O,O,O,O,O,O,O,O,O,O,O,O,O,O,O,O,O,O,O,O,O,O,O,O,O,O] X)) (Zb T0) k)=some (.bool false,M)):=by
  have key:=Zl1 (call:=Zb T0) (K:=QT) (L:=Zag) (fun _ Y=>Y=X) (fun i=>[O,.pointer (some ⟨p,0,none⟩),O,.int .i64 i,O,O,O,O,O,O,O,O,O,O,O,O,O,O,O,O,O,O,O,O,O,O,O,O,O,O,O,O,O,O,O,O,O,O,O,O,O,O,O,O,O,O,O,O,O,O,O,O,O,O,O,O,O,O,O,O,O,O,O,O,O,O,O,O,O,O,O,O,O,O,O,O,O,O,O,O,O,O,O]) (atB (Zq0 m) m.2.1) (n:=m.2.1.length) (M0:=M) (rs:=[.tmp 2]) (k0:=0) (a:=.bool false) X rfl ?_ ?_
  · rcases key with ⟨X',rfl,h1,h2⟩ | h
    · exact .inl ⟨h1,h2⟩
    · exact .inr h
  · intro i Y hi hq e
    subst e
    obtain ⟨l,o,u,rfl,q1,_,q3⟩:=Zic (h.mono hM) hi
    obtain ⟨_,_,rfl⟩:=q3.slen
    rw [Zdr _ hi] at hq
    have hq:=of_decide_eq_true hq
    have e6:IntKind.i64.wrap ((i:Int)+1)=i+1:=Zd (by omega) (by omega)
    refine ⟨Y,rfl,?_⟩
    rw [ZeL]; unfold Zbt; simp [apA,hb,hi,q1,hq,e6,Y1,Z3]
  · intro i Y hi hq e k
    subst e
    obtain ⟨l,o,u,rfl,q1,_,q3⟩:=Zic (h.mono hM) hi
    obtain ⟨_,_,rfl⟩:=q3.slen
    rw [Zdr _ hi] at hq
    have hq:=of_decide_eq_false hq
    have gb:=fun b=>ZbH hM b
    rw [ZeL]; unfold Zbt; simp [apA,hb,hi,q1,hq,gb,Y1,Z3]
theorem ZqZ (sz:Int) (n k:Nat):(ZE0 sz n k=false∧((sz < 1∧¬ 1≤sz)∨((1≤sz∧¬ sz < 1)∧1000 < sz∧¬ sz≤1000)∨((1≤sz∧¬ sz < 1)∧(¬ 1000 < sz∧sz≤1000)∧128 < n∧(128:Int) < n)∨((1≤sz∧¬ sz < 1)∧(¬ 1000 < sz∧sz≤1000)∧(¬ 128 < n∧¬ (128:Int) < n)∧6000 < k∧(6000:Int) < k))) ∨
    (ZE0 sz n k=true∧(1≤sz∧¬ sz < 1)∧(¬ 1000 < sz∧sz≤1000)∧(¬ 128 < n∧¬ (128:Int) < n)∧(¬ 6000 < k∧¬ (6000:Int) < k)):=by
  unfold ZE0
  by_cases h:(1≤sz∧sz≤1000)∧n≤128∧k≤6000
  · rw [decide_eq_true h]
    right
    exact ⟨rfl,by omega,by omega,by omega,by omega⟩
  · rw [decide_eq_false h]
    left
    refine ⟨rfl,?_⟩
    omega
theorem ZtK {sz n a b c:Int} (h:Zxj sz n a b c=true):(a=1∨a=2)∧¬ b < 0∧0≤b∧¬ n≤b∧b < n∧b≤n - 1∧c=sz:=by
  have h:=of_decide_eq_true h
  omega
theorem Zon {sz n a b c:Int} (h:Zxj sz n a b c=false):(¬ a=1∧¬ a=2)∨((a=1∨a=2)∧b < 0∧¬ 0≤b)∨((a=1∨a=2)∧(¬ b < 0∧0≤b)∧n≤b∧¬ b < n∧¬ b≤n - 1)∨((a=1∨a=2)∧(¬ b < 0∧0≤b)∧(¬ n≤b∧b < n∧b≤n - 1)∧¬ c=sz):=by
  have h:=of_decide_eq_false h
  omega
set_option maxHeartbeats 4000000 in
theorem Zpn (M X:Mem) (m:ZT.D) (a b:Option Addr) (c d p:Nat) (hM:M <+: X) (hb:X[p]?=some ⟨[.int .i64 m.1,.slice a m.2.1.length c,.slice b m.2.2.length d],1,2⟩) (h:Rep (.sl Zf) M [.slice b m.2.2.length d] m.2.2) (hn:m.2.2.length≤6000) :
    (∃ X',M <+: X'∧(∀ i,i < m.2.2.length→atB (ZnO m) m.2.2 i=true)∧lp (Zb T0) QW Zal [O,.pointer (some ⟨p,0,none⟩),O,O,.int .i64 (0:Nat),O,O,O,O,O,O,O,O,O,O,O,O,O,O,O,O,O,O,O,O,O,O,O,O,O,O,O,O,O,O,O,O,O,O,O,O,O,O,O,O,O,O,O,O,O,O,O,O,O,O,O,O,O,O,O,O,O,O,O,O,O,O,O,O,O,O,O,O,O,O,O,O,O,O,O,O,O,O] X=lp (Zb T0) QW Zal [O,.pointer (some ⟨p,0,none⟩),O,O,.int .i64 m.2.2.length,O,O,O,O,O,O,O,O,O,O,O,O,O,O,O,O,O,O,O,O,O,O,O,O,O,O,O,O,O,O,O,O,O,O,O,O,O,O,O,O,O,O,O,O,O,O,O,O,O,O,O,O,O,O,O,O,O,O,O,O,O,O,O,O,O,O,O,O,O,O,O,O,O,O,O,O,O,O] X'∧X'[p]?=some ⟨[.int .i64 m.1,.slice a m.2.1.length c,.slice b m.2.2.length d],1,2⟩) ∨
    ((∃ i,i < m.2.2.length∧atB (ZnO m) m.2.2 i=false)∧∀ k,ZjG M [.tmp 2] (Zjx (Ze1 2 (lp (Zb T0) QW Zal [O,.pointer (some ⟨p,0,none⟩),O,O,.int .i64 (0:Nat),O,O,O,O,O,O,O,O,O,O,O,O,O,O,O,O,O,O,O,O,O,O,O,O,O,O,O,O,O,O,O,O,O,O,O,O,O,O,O,O,O,O,O,O,O,O,O,O,O,O,O,O,O,O,O,O,O,O,O,O,O,O,O,O,O,O,O,O,O,O,O,O,O,O,O,O,O,O] X)) (Zb T0) k)=some (.bool false,M)):=by
  have key:=Zl1 (call:=Zb T0) (K:=QW) (L:=Zal) (fun _ Y=>X <+: Y) (fun i=>[O,.pointer (some ⟨p,0,none⟩),O,O,.int .i64 i,O,O,O,O,O,O,O,O,O,O,O,O,O,O,O,O,O,O,O,O,O,O,O,O,O,O,O,O,O,O,O,O,O,O,O,O,O,O,O,O,O,O,O,O,O,O,O,O,O,O,O,O,O,O,O,O,O,O,O,O,O,O,O,O,O,O,O,O,O,O,O,O,O,O,O,O,O,O]) (atB (ZnO m) m.2.2) (n:=m.2.2.length) (M0:=M) (rs:=[.tmp 2]) (k0:=2) (a:=.bool false) X (List.prefix_refl _) ?_ ?_
  · rcases key with ⟨X',h0,h1,h2⟩ | h
    · exact .inl ⟨X',hM.trans h0,h1,h2,Zh h0 hb⟩
    · exact .inr h
  · intro i Y hi hq hY
    obtain ⟨l,o,rfl,_,q1,_⟩:=Zlo (h.mono (hM.trans hY)) hi
    have hbY:=Zh hY hb
    have hbY2:∀ N:Mem,(Y++N)[p]?=some ⟨[.int .i64 m.1,.slice a m.2.1.length c,.slice (some ⟨l,o,none⟩) m.2.2.length d],1,2⟩:=fun N=>Zw hbY
    rw [Zdr _ hi] at hq
    have hq:=ZtK hq
    generalize m.2.2[i]=t at q1 hq
    obtain ⟨t1,t2,t3⟩:=t
    simp only at hq q1
    obtain ⟨g1,g2,_,g3,_,_,g4⟩:=hq
    have e6:IntKind.i64.wrap ((i:Int)+1)=i+1:=Zd (by omega) (by omega)
    refine ⟨Y++[⟨Z7 (t1,t2,t3),1,2⟩],hY.trans (List.prefix_append _ _),?_⟩
    rcases g1 with g1 | g1
    · rw [Qh]; unfold YF; simp [apA,hbY,hbY2,hi,q1,g1,g2,g3,g4,e6,Y1,Z3]
    · rw [Qh]; unfold YF; simp [apA,hbY,hbY2,hi,q1,g1,g2,g3,g4,e6,Y1,Z3]
  · intro i Y hi hq hY k
    obtain ⟨l,o,rfl,_,q1,_⟩:=Zlo (h.mono (hM.trans hY)) hi
    have hbY:=Zh hY hb
    have hbY2:∀ N:Mem,(Y++N)[p]?=some ⟨[.int .i64 m.1,.slice a m.2.1.length c,.slice (some ⟨l,o,none⟩) m.2.2.length d],1,2⟩:=fun N=>Zw hbY
    rw [Zdr _ hi] at hq
    have hq:=Zon hq
    generalize m.2.2[i]=t at q1 hq
    obtain ⟨t1,t2,t3⟩:=t
    simp only at hq q1
    have gb:=fun (cs:List V) b=>ZbH (hM.trans (hY.trans (List.prefix_append Y [⟨cs,1,2⟩]))) b
    rcases hq with ⟨g1,g2⟩ | ⟨g1,g2,_⟩ | ⟨g1,⟨g2,_⟩,g3,_⟩ | ⟨g1,⟨g2,_⟩,⟨g3,_⟩,g4⟩
    · rw [Qh]; unfold YF; simp [apA,hbY,hbY2,hi,q1,g1,g2,gb,Y1,Z3]
    · rcases g1 with g1 | g1
      · rw [Qh]; unfold YF; simp [apA,hbY,hbY2,hi,q1,g1,g2,gb,Y1,Z3]
      · rw [Qh]; unfold YF; simp [apA,hbY,hbY2,hi,q1,g1,g2,gb,Y1,Z3]
    · rcases g1 with g1 | g1
      · rw [Qh]; unfold YF; simp [apA,hbY,hbY2,hi,q1,g1,g2,g3,gb,Y1,Z3]
      · rw [Qh]; unfold YF; simp [apA,hbY,hbY2,hi,q1,g1,g2,g3,gb,Y1,Z3]
    · rcases g1 with g1 | g1
      · rw [Qh]; unfold YF; simp [apA,hbY,hbY2,hi,q1,g1,g2,g3,g4,gb,Y1,Z3]
      · rw [Qh]; unfold YF; simp [apA,hbY,hbY2,hi,q1,g1,g2,g3,g4,gb,Y1,Z3]
theorem Zre (M:Mem) (cs:List V) (m:ZT.D) (h:Rep ZT M cs m):Zb T0 Zgy [.agg cs.toArray] M=some (.bool (ZAO m),M):=by
  obtain ⟨a,b,c,d,rfl,r0,r1⟩:=ZkX h
  unfold ZAO
  have hp:M <+: M++[⟨[.int .i64 m.1,.slice a m.2.1.length c,.slice b m.2.2.length d],1,2⟩]:=List.prefix_append _ _
  rcases ZqZ m.1 m.2.1.length m.2.2.length with ⟨h0,hh⟩ | ⟨h0,⟨_,h1⟩,⟨h2,_⟩,⟨h3,h3'⟩,⟨h4,h4'⟩⟩
  · rw [h0,Bool.false_and]
    clear h0
    rcases hh with ⟨h1,_⟩ | ⟨⟨_,h1⟩,h2,_⟩ | ⟨⟨_,h1⟩,⟨h2,_⟩,h3,h3'⟩ | ⟨⟨_,h1⟩,⟨h2,_⟩,⟨h3,h3'⟩,h4,h4'⟩
    · rw [Zc ZbY]; unfold J8 ZaL; simp [apA,h1]
    · rw [Zc ZbY]; unfold J8 ZaL; simp [apA,h1,h2]
    · rw [Zc ZbY]; unfold J8 ZaL; simp [apA,h1,h2,h3,h3']
    · rw [Zc ZbY]; unfold J8 ZaL; simp [apA,h1,h2,h3,h3',h4,h4']
  rw [h0,Bool.true_and]
  rcases ZoN M _ m a b c d M.length hp (by simp) r0 (by omega) with ⟨ha,e⟩ | ⟨hn,e⟩
  · simp only [Int.natCast_zero,Int.ofNat_zero] at e
    rw [Zs0 ha,Bool.true_and]
    rcases Zpn M _ m a b c d M.length hp (by simp) r1 (by omega) with ⟨X',hX,ha2,e2,hb⟩ | ⟨hn2,e2⟩
    · simp only [Int.natCast_zero,Int.ofNat_zero] at e2
      rw [Zs0 ha2]
      have gb:=fun b=>ZbH hX b
      rw [Zc ZbY]; unfold J8 ZaL; simp [apA,h1,h2,h3,h3',h4,h4',e]
      rw [ZeL]; unfold Zbt; simp [apA,Y1,Z3]
      simp [e2]
      rw [Qh]; unfold YF; simp [apA,Y1,Z3,hb,gb]
    · simp only [Int.natCast_zero,Int.ofNat_zero] at e2
      rw [ZsH hn2]
      rw [Zc ZbY]; unfold J8 ZaL; simp [apA,h1,h2,h3,h3',h4,h4',e]
      rw [ZeL]; unfold Zbt; simp [apA,Y1,Z3]
      simp [e2]
  · simp only [Int.natCast_zero,Int.ofNat_zero] at e
    rw [ZsH hn,Bool.false_and]
    rw [Zc ZbY]; unfold J8 ZaL; simp [apA,h1,h2,h3,h3',h4,h4',e]
set_option maxRecDepth 20000 in
set_option maxHeartbeats 4000000 in
theorem ZpR (M:Mem) (l w b:Int) (m:ZT.D) (st:List Za.D) (aC:Option Addr) (cC:Nat) (aT:Option Addr) (cT:Nat) (aS:Option Addr) (cS:Nat)
    (hM:Rep ZT M [.int .i64 m.1,.slice aC m.2.1.length cC,.slice aT m.2.2.length cT] m) (hC:Rep (.sl Zi) M [.slice aC m.2.1.length cC] m.2.1) (hS:Rep (.sl Za) M [.slice aS st.length cS] st) (hz:Zcz st) (hcz:m.2.1.length≤1048576) (hsz:∀ c ∈ m.2.1,List.length (α:=UInt8) c≤1048576) :
    Zb T0 ZdS [.agg (aO l w b m.1 aC m.2.1.length cC aT m.2.2.length cT aS st.length cS).toArray] M=some (.bool (orX l w b m st).isSome,M):=by
  have e1:=fun M=>Zd4 M l w
  have hlw:(decide (0≤l) && decide (l≤6) && (decide (1≤w) && decide (w≤200)))=(lgB l && wdB w):=rfl
  rw [hlw] at e1
  have hpre:M <+: M++[(⟨aO l w b m.1 aC m.2.1.length cC aT m.2.2.length cT aS st.length cS,1,2⟩:Blk)]:=List.prefix_append _ _
  have e4:=fun N:Mem=>Zre (M++N) _ m (hM.mono (List.prefix_append _ _))
  have e5:=fun N:Mem=>Zhf (M++N) _ st l w (hS.mono (List.prefix_append _ _)) hz.1
  have gb:=fun b=>ZbH hpre b
  cases h1:(lgB l && wdB w) with
  | false =>
    rw [h1] at e1
    rw [Zq9 (by unfold frO; rw [← Bool.and_assoc,h1]; rfl)]
    rw [Zc Jr]; unfold Qp QV; simp [apA,e1,gb]
  | true =>
  rw [h1] at e1
  rw [Bool.and_eq_true] at h1
  obtain ⟨h1,h2⟩:=h1
  have hw:1≤w∧w≤200:=by unfold wdB at h2; simpa using h2
  obtain ⟨k,rfl,hk⟩:=ZjF h1
  have hk0:Int.toNat (k:Int)=k:=by omega
  by_cases h3:b < 0
  · rw [Zq9 (by unfold frO bdB; rw [decide_eq_false (show ¬ 0≤b by omega)]; simp)]
    rw [Zc Jr]; unfold Qp QV; simp [apA,e1,h3,gb]
  by_cases h3':64 < b
  · rw [Zq9 (by unfold frO bdB; rw [decide_eq_false (show ¬ b≤64 by omega)]; simp)]
    rw [Zc Jr]; unfold Qp QV; simp [apA,e1,h3,h3',gb]
  have h3b:bdB b=true:=by unfold bdB; rw [decide_eq_true (show 0≤b by omega),decide_eq_true (show b≤64 by omega)]; rfl
  by_cases h7:b < (st.length:Int)
  · rw [Zq9 (by unfold frO; rw [decide_eq_false (show ¬ (st.length:Int)≤b by omega)]; simp)]
    rw [Zc Jr]; unfold Qp QV; simp [apA,e1,h3,h3',h7,gb]
  cases h8:ZeV k w st with
  | false =>
    rw [h8] at e5
    rw [Zq9 (by unfold frO; rw [h8]; simp)]
    rw [Zc Jr]; unfold Qp QV; simp [apA,e1,h3,h3',h7,e5,gb]
  | true =>
  rw [h8] at e5
  have hp6:2 ^ k≤2 ^ 6:=Nat.pow_le_pow_right (by omega) hk
  have hp0:0 < 2 ^ k:=Nat.two_pow_pos k
  have e6:=fun M=>Zm5 M k _ hk rfl
  obtain ⟨N,hN⟩:∃ N,N=2 * 2 ^ k - 1:=⟨_,rfl⟩
  rw [← hN] at e6
  obtain ⟨W,rfl⟩:∃ W:Nat,w=(W:Int):=⟨Int.toNat w,by omega⟩
  have e7:=fun M=>Zdt M W (4 * (W+3)) (by omega) (by omega) (by omega)
  by_cases h5:m.2.1.length=N
  · rw [← h5] at e6
    by_cases h6:(m.1:Int)=4 * ((W:Int)+3)
    · have h6':((4 * (W+3):Nat):Int)=m.1:=by rw [h6]; omega
      rw [h6'] at e7
      cases h4:ZAO m with
      | false =>
        rw [h4] at e4
        rw [Zq9 (by unfold frO; rw [h4]; simp)]
        rw [Zc Jr]; unfold Qp QV; simp [apA,e1,h3,h3',h7,e5,e6,e7,e4,gb]
      | true =>
        rw [h4] at e4
        have hX:orX k W b m st=ZpM k W 1 m.2.1 st:=by
          unfold orX
          rw [hk0,if_pos]
          unfold frO
          rw [h1,h2,h3b,h4,hk0,← hN,decide_eq_true h5,decide_eq_true h6,decide_eq_true (show (st.length:Int)≤b by omega),h8]
          rfl
        rw [hX]
        have hNd:=Zjc (M++[(⟨aO k W b m.1 aC m.2.1.length cC aT m.2.2.length cT aS st.length cS,1,2⟩:Blk)]) k W b m st aC cC aT cT aS cS (hC.mono hpre) hcz hsz
        rw [Zc Jr]; unfold Qp QV; simp [apA,e1,h3,h3',h7,e5,e6,e7,e4]
        generalize hx:Zb T0 JL _ _=xhx
        obtain ⟨_,X1,rfl,r,LN,rfl,p1,g1,nN,kN⟩:=ZQ hx hNd
        clear hx
        simp only at p1 g1
        have g1:=g1.rep
        have pM:=hpre.trans p1
        have hbx:=Zh p1 (show (M++[(⟨aO k W b m.1 aC m.2.1.length cC aT m.2.2.length cT aS st.length cS,1,2⟩:Blk)])[M.length]?=some _ from List.getElem?_concat_length)
        have st8:st.length≤128∧Z4 k W st=true:=by unfold ZeV at h8; simpa using h8
        have hlt:=Zgh st8.2
        have hid:=ZjI st8.2
        cases h9:m.2.1.all (ZfD k W) with
        | false =>
          have ho:ZpM k W 1 m.2.1 st=none:=by
            cases ho:ZpM k W 1 m.2.1 st with
            | none=>rfl
            | some a =>
              have:=(Zno m.2.1 1 st a ho hlt hid).1.1
              rw [h9] at this
              cases this
          rw [ho,h9] at *
          have gb:=fun b=>ZbH pM b
          have hrs:∃ z n c,r=.slice z n c:=by
            obtain ⟨a,c,rfl⟩:=g1.slen
            exact ⟨_,_,_,rfl⟩
          obtain ⟨z,n,c,rfl⟩:=hrs
          simp [apA,gb]
        | true =>
          rw [h9,if_pos rfl] at g1
          have hnl:(Zd9 W m.2.1).length=m.2.1.length:=ZAK _ _
          obtain ⟨aN,cN,rfl⟩:=g1.slen
          have hget:∀ bs ∈ Zd9 W m.2.1,∃ c ∈ m.2.1,bs=ndB (Int.toNat (W:Int)) c:=fun bs hb=>by
            obtain ⟨c,hc,rfl⟩:=List.mem_map.1 hb
            exact ⟨c,hc,rfl⟩
          have hndb:∀ c ∈ m.2.1,Z4 k W (ndB (Int.toNat (W:Int)) c)=true:=fun c hc=>by
            have:=List.all_eq_true.1 h9 c hc
            unfold ZfD at this
            simp only [Bool.and_eq_true] at this
            exact this.2.2.1
          have hon:∀ i,i < m.2.1.length→ZrZ k (Zd9 W m.2.1) i=List.all (ndB (Int.toNat (W:Int)) (m.2.1.getD i [])) fun b=>onP k (i+1) (Int.toNat b.2.1):=fun i hi=>by
            rw [ZlH (by rw [hnl]; exact hi),Zqp _ _ hi,List.getD_eq_getElem?_getD,List.getElem?_eq_getElem hi]
            rfl
          have hP:(ZpM k W 1 m.2.1 st).isSome=true ↔ (∀ i,i < m.2.1.length→ZrZ k (Zd9 W m.2.1) i=true)∧∀ j,j < 256→decide (ZoX j (st++(Zd9 W m.2.1).flatten)≤1)=true:=by
            constructor
            · intro h
              obtain ⟨a,ho⟩:=Option.isSome_iff_exists.1 h
              obtain ⟨⟨q1,q2⟩,q3,q4,q5⟩:=Zno m.2.1 1 st a ho hlt hid
              refine ⟨fun i hi=>?_,fun j hj=>decide_eq_true ?_⟩
              · rw [ZlH (by rw [hnl]; exact hi),Zqp _ _ hi,List.all_eq_true]
                intro b hb
                rw [Nat.add_comm]
                exact q2 i hi b hb
              · rw [Zjt,← q5 j]
                exact ZBu q3 q4 j
            · rintro ⟨h1,h2⟩
              obtain ⟨a,ho⟩:=ZwQ m.2.1 1 st hlt hid h9 (fun i hi b hb=>by
                have:=h1 i hi
                rw [ZlH (by rw [hnl]; exact hi),Zqp _ _ hi,List.all_eq_true] at this
                rw [Nat.add_comm]
                exact this b hb) (fun j hj=>of_decide_eq_true (h2 j hj))
              rw [ho]
              rfl
          have hcz0:ZvN []=zc (.int .i64 0) 256:=rfl
          have hb6:rd1 X1 M.length 6=some (.slice aS st.length cS):=by simp [rd1,hbx]
          have hb0:rd1 X1 M.length 0=some (.int .i64 (k:Int)):=by simp [rd1,hbx]
          obtain ⟨_,X2,hX2,s0⟩:=Zou X1 M.length X1.length (.slice aN (Zd9 W m.2.1).length cN) st aS cS (hS.mono pM) hb6 (Nat.le_refl _) hid hz.1 (X1++[⟨zc (.int .i64 0) 256,1,2⟩]) ⟨List.prefix_append _ _,by rw [hcz0]; exact List.getElem?_concat_length⟩
          simp only [Int.natCast_zero,Int.ofNat_zero] at s0
          have hb62:=Qt hX2.1 hb6
          have k1:=Zoc X1 M.length X1.length k aN cN (Zd9 W m.2.1) g1 hb0 (Nat.le_refl _) hk (by rw [hnl]; omega) (fun bs hb=>by
            obtain ⟨c,hc,rfl⟩:=hget bs hb
            exact Zqq (hndb c hc)) (fun bs hb=>by
            obtain ⟨c,hc,rfl⟩:=hget bs hb
            exact Zh6 _ _) st (by omega) X2 hX2
          simp only [FtI,Int.natCast_zero,Int.ofNat_zero] at k1
          rcases k1 with ⟨_,X3,hX3,a1,s1⟩ | ⟨⟨i,hi,hf⟩,fr,X',s1,q2,q3⟩
          · have k2:=Zod X1 X1.length (st++(Zd9 W m.2.1).flatten) X3 hX3
            simp only [Int.natCast_zero,Int.ofNat_zero] at k2
            rcases k2 with ⟨_,rfl,a2,s2⟩ | ⟨⟨i,hi,hf⟩,fr,X',s2,q2,q3⟩
            · rw [hP.2 ⟨fun i hi=>a1 i (by rw [hnl]; exact hi),a2⟩]
              have gb:=fun b=>ZbH (pM.trans hX3.1) b
              simp [apA,zeroCells,s0]
              rw [ZdK]; unfold ZaB; simp [apA,hb62,s1]
              rw [ZdT]; unfold ZaD; simp [apA,s2]
              rw [Zgs]; unfold ZbV; simp [apA,gb]
            · have ho:(ZpM k W 1 m.2.1 st).isSome=false:=by
                cases h:(ZpM k W 1 m.2.1 st).isSome with
                | false=>rfl
                | true =>
                  have:=(hP.1 h).2 i hi
                  rw [hf] at this
                  cases this
              rw [ho]
              have gb:=fun b=>ZbH (pM.trans q3) b
              simp [apA,zeroCells,s0]
              rw [ZdK]; unfold ZaB; simp [apA,hb62,s1]
              rw [ZdT]; unfold ZaD; simp [apA,s2,q2,gb]
          · have ho:(ZpM k W 1 m.2.1 st).isSome=false:=by
              cases h:(ZpM k W 1 m.2.1 st).isSome with
              | false=>rfl
              | true =>
                have:=(hP.1 h).1 i (by rw [← hnl]; exact hi)
                rw [hf] at this
                cases this
            rw [ho]
            have gb:=fun b=>ZbH (pM.trans q3) b
            simp [apA,zeroCells,s0]
            rw [ZdK]; unfold ZaB; simp [apA,hb62,s1,q2,gb]
    · have h6':¬ (m.1:Int)=((4 * (W+3):Nat):Int):=fun e=>h6 (e.trans (show ((4 * (W+3):Nat):Int)=4 * ((W:Int)+3) by omega))
      generalize hq:4 * (W+3)=Q at *
      rw [Zq9 (by unfold frO; rw [decide_eq_false h6]; simp)]
      rw [Zc Jr]; unfold Qp QV; simp [apA,e1,h3,h3',h7,e5,e6,e7,h6',gb]
  · have h5':¬ (m.2.1.length:Int)=(N:Int):=by omega
    rw [Zq9 (by unfold frO; rw [hk0,← hN,decide_eq_false h5]; simp)]
    rw [Zc Jr]; unfold Qp QV; simp [apA,e1,h3,h3',h7,e5,e6,h5',gb]
theorem Zp8 (M:Mem) (cs:List V) (x:Zx.D) (h:Rep Zx M cs x) (hz:Zcz x.2.2.2.2) (hc:x.2.2.2.1.2.1.length≤1048576) (hsz:∀ c ∈ x.2.2.2.1.2.1,List.length (α:=UInt8) c≤1048576):Zb T0 ZdS [.agg cs.toArray] M=some (.bool (orO x).isSome,M):=by
  obtain ⟨aC,cC,aT,cT,aS,cS,rfl,hM,hS⟩:=Zj3 h
  obtain ⟨_,_,e,_,hC,_⟩:=ZbW hM
  cases e
  exact ZpR M x.1 x.2.1 x.2.2.1 x.2.2.2.1 x.2.2.2.2 aC cC aT cT aS cS hM hC hS hz hc hsz
theorem Znu {x:Zx.D} {r:List Za.D} (h:orO x=some r):∃ k:Nat,x.1=(k:Int)∧k≤6∧frO k x.2.1 x.2.2.1 x.2.2.2.1 x.2.2.2.2=true∧ZpM k x.2.1 1 x.2.2.2.1.2.1 x.2.2.2.2=some r∧ZhP r∧Zgv r∧x.2.2.2.1.2.1.all (ZfD k x.2.1)=true∧∀ j,flI j r=flI j (x.2.2.2.2++(Zd9 x.2.1 x.2.2.2.1.2.1).flatten):=by
  unfold orO orX at h
  by_cases hfr:frO x.1 x.2.1 x.2.2.1 x.2.2.2.1 x.2.2.2.2=true
  · rw [if_pos hfr] at h
    have hfr2:=hfr
    unfold frO at hfr2
    simp only [Bool.and_eq_true] at hfr2
    obtain ⟨k,hk,hk6⟩:=ZjF hfr2.1
    rw [hk] at h hfr
    have hk0:Int.toNat (k:Int)=k:=by omega
    rw [hk0] at h
    have h8:=hfr2.2.2.2.2.2.2.2
    have st8:x.2.2.2.2.length≤128∧Z4 x.1 x.2.1 x.2.2.2.2=true:=by unfold ZeV at h8; simpa using h8
    obtain ⟨⟨q1,q2⟩,q3,q4,q5⟩:=Zno _ 1 _ r h (Zgh st8.2) (ZjI st8.2)
    exact ⟨k,hk,hk6,hfr,h,q3,q4,q1,q5⟩
  · rw [if_neg hfr] at h
    cases h
theorem Jw {X:Mem} {p:Nat} {cs:List V} {u:V} {k:Nat} (hb:X[p]?=some ⟨cs,1,2⟩) (h:cs[k]?=some u):rd1 X p k=some u:=by
  unfold rd1
  rw [hb]
  exact h
theorem Zfv {X:Mem} {p:Nat} {cs us:List V} {k n:Nat} (hb:X[p]?=some ⟨cs,1,2⟩) (hl:k+n≤cs.length) (h:(cs.drop k).take n=us):rdn X p k n=some us:=by
  unfold rdn
  rw [hb]
  simp only
  rw [if_pos ⟨.inr trivial,hl⟩,h]
theorem ZxY {X:Mem} {p:Nat} (hX:X[p]?=some ⟨[.int .i64 0,.int .i64 0,.int .i64 0,.int .i64 0,.slice none 0 0,.slice none 0 0,.slice none 0 0],1,2⟩):wrn X p 0 [.int .i64 0,.int .i64 0,.int .i64 0,.int .i64 0,.slice none 0 0,.slice none 0 0,.slice none 0 0]=some X∧rdn X p 0 7=some [.int .i64 0,.int .i64 0,.int .i64 0,.int .i64 0,.slice none 0 0,.slice none 0 0,.slice none 0 0]:=by
  refine ⟨?_,Zfv hX (by simp) rfl⟩
  rw [ZdU hX rfl (by simp) rfl]
  congr 1
  apply List.ext_getElem?
  intro j
  by_cases e:j=p
  · subst e
    rw [ZbN hX,hX]
    rfl
  · rw [Je (fun e2=>e e2.symm)]
def CbI (M:Mem) (v:V) (xs:List Za.D) (X:Mem):Prop:=∃ L,M <+: X∧Gr (.sl Za) X [v] xs L∧L.Nodup∧∀ l ∈ L,M.length≤l
set_option maxHeartbeats 1000000 in
theorem ZmZ (M:Mem) (a:Option Addr) (c:Nat) (xs:List Za.D) (h:Rep (.sl Za) M [.slice a xs.length c] xs) (hz:Zcz xs) (v:V) (Z:Mem) (hZ:CbI M v [] Z) :
    ∃ v' X',CbI M v' xs X'∧lp (Zb T0) QE JS [.slice a xs.length c,O,O,v,.int .i64 (0:Nat),O,O,O,O,O,O,O,O,O,O,O,O,O,O,O,O,O,O,O,O,O,O,O,O,O,O,O,O,O] Z=lp (Zb T0) QE JS [.slice a xs.length c,O,O,v',.int .i64 xs.length,O,O,O,O,O,O,O,O,O,O,O,O,O,O,O,O,O,O,O,O,O,O,O,O,O,O,O,O,O] X':=by
  have key:=YT (call:=Zb T0) (K:=QE) (L:=JS) (fun i v X=>CbI M v (xs.take i) X) (fun i v=>[.slice a xs.length c,O,O,v,.int .i64 i,O,O,O,O,O,O,O,O,O,O,O,O,O,O,O,O,O,O,O,O,O,O,O,O,O,O,O,O,O]) (n:=xs.length) ?_ 0 v Z (by omega) (by simpa using hZ)
  · rw [List.take_length] at key
    exact key
  intro i v X hi ⟨L,pX,g0,nd,ge0⟩
  obtain ⟨l,o,u,rfl,q1,q2,q3,q4,w0,w1,qu,_⟩:=Y5 (h.mono pX) hi
  rw [List.take_succ_eq_append_getElem hi]
  have hlen:(xs.take i).length=i:=by rw [List.length_take]; omega
  have hzi:=hz.2 _ (List.getElem_mem hi)
  have hn:=hz.1
  generalize xs.take i=ys at g0 hlen ⊢
  generalize xs[i]=b at q1 q2 q3 q4 w0 w1 qu hzi ⊢
  obtain ⟨b1,b2,b3⟩:=b
  simp only at q1 q2 q3 q4 w0 w1 qu hzi ⊢
  obtain ⟨⟨a2,c2,rfl⟩,hc,_⟩:=Zeg Zfs (qu.mono (List.prefix_append X [(⟨[],1,2⟩:Blk)]))
  have hc:Zj (X++[(⟨[],1,2⟩:Blk)]) 1 (.slice a2 (List.length (α:=UInt8) b3) c2)=some (List.length (α:=UInt8) b3,(List.map Qq b3).flatten):=hc
  have e6:IntKind.i64.wrap ((i:Int)+1)=i+1:=Zd (by omega) (by omega)
  have hll:l < M.length:=by obtain ⟨blk,hbk,_⟩:=Zij h; exact ZI hbk
  have hpl:=pX.length_le
  have q3':=fun N:Mem=>Zhe (N:=N) q3
  obtain ⟨av,rfl⟩:=g0.shape
  have hh1:∀ ys:List Nat,(∀ y ∈ ys,y=l)→Zfx [X.length] ys=false:=fun ys hy=>Zif (K:=M.length) (by simp; omega) (fun y h=>by rw [hy y h]; exact hll)
  have hwL:∀ b ∈ wfs (.slice av ys.length ys.length),M.length≤b:=by
    obtain ⟨_,_,hw⟩:=g0.gr (K:=0) (by simp)
    exact fun b hb=>ge0 b (hw b hb)
  have hh2:∀ zs:List Nat,(∀ y ∈ zs,y=l)→Zfx (wfs (.slice av ys.length ys.length)) zs=false:=fun zs hy=>Zif (K:=M.length) hwL (fun y h=>by rw [hy y h]; exact hll)
  have s1:=hh1 [l] (by simp)
  have s2:=hh1 [l,l] (by simp)
  have s3:=hh1 [l,l,l] (by simp)
  have t1:=hh2 [l] (by simp)
  have t2:=hh2 [l,l] (by simp)
  have t3:=hh2 [l,l,l] (by simp)
  rw [ZiP]; unfold Zda; simp [apA,hi,q1,q2,q3,q3',hc,zeroCells]
  generalize hy:Zdq _ _ _ _ _ _=xhy
  obtain ⟨l2,X3,rfl,hl2,gb,ag⟩:=Zq5 (t:=.u8) (xs:=b3) Zfs hy (by simp [Ty.w]) (by simp) (by omega) (by omega)
  clear hy
  have p3:X <+: X3:=ag.pre (List.prefix_append _ _) (by simp)
  simp [apA,YD,ag,s1,s2,s3,zeroCells]
  generalize hy:Zdq _ _ _ _ _ _=xhy
  have hcg:Gr Za (X3++[(⟨[.int .i64 b1,.int .i64 b2,.slice (some ⟨l2,0,none⟩) (List.length (α:=UInt8) b3) (List.length (α:=UInt8) b3)],3,2⟩:Blk)]) [.int .i64 b1,.int .i64 b2,.slice (some ⟨l2,0,none⟩) (List.length (α:=UInt8) b3) (List.length (α:=UInt8) b3)] (b1,b2,b3) [l2]:=Znt (x:=(b1,b2,b3)) w0 w1 (gb.grow (List.prefix_append _ _))
  obtain ⟨l4,X4,L',rfl,g4,ag2,len2,hw4,nd4,sub4,hl4⟩:=g0.app (t:=Za) hy (p3.trans (List.prefix_append _ _)) hcg (by simpa using hl2) nd (by simp) (by rw [hlen]; omega) (by rw [hlen]; omega)
  clear hy
  have pX4:M <+: X4:=ag2.pre (JZ (pX.trans p3)) hwL
  simp [apA,e6,YD,ag2,t1,t2,t3]
  refine ⟨_,_,⟨L',pX4,g4,nd4,fun j hj=>?_⟩,rfl⟩
  have hx3:=p3.length_le
  rcases sub4 j hj with h | h | h
  · exact ge0 j h
  · simp at h; omega
  · simp at hl4; omega
theorem Zbr (M:Mem) (v:V) (xs:List Za.D) (h:Rep (.sl Za) M [v] xs) (hz:Zcz xs):Sat (Zb T0 Z5 [v] M) (GrV Za M xs):=by
  obtain ⟨a,c,rfl⟩:=h.slen
  obtain ⟨v',X',⟨L,p1,g1,n1,k1⟩,e⟩:=ZmZ M a c xs h hz (.slice (some ⟨M.length,0,none⟩) 0 0) (M++[⟨[],3,2⟩]) ⟨[M.length],List.prefix_append _ _,gr0 (t:=Za) (by simp [Ty.w]),by simp,by simp⟩
  simp only [Int.natCast_zero,Int.ofNat_zero] at e
  rw [Zc Zo0]; unfold ZgX Zkh; simp [apA,zeroCells,e]
  obtain ⟨av,rfl⟩:=g1.shape
  rw [ZiP]; unfold Zda; simp [apA]
  exact ⟨(_,X'),rfl,L,p1,g1,n1,k1⟩
def evB (l w lf:Int) (xs:List Za.D):Bool:=ZeV l w xs && ZeU l lf
def EvI (M:Mem) (xs:List Za.D) (N:Nat) (vo vr:V) (s:List ZB.D × List Za.D × Nat) (X:Mem):Prop :=
  ∃ Lo Lr,M <+: X∧Gr (.sl ZB) X [vo] s.1 Lo∧Gr (.sl Za) X [vr] s.2.1 Lr∧Lo.Nodup∧(∀ l ∈ Lo,M.length≤l)∧(∀ l ∈ Lr,M.length≤l)∧(∀ l ∈ Lo,l ∉ Lr)∧List.Sublist s.2.1 xs∧s.2.2≤4∧s.1.length≤N
theorem Zb0 (m leaf:Nat) (xs:List Za.D) (k:Nat):ZS m leaf xs (k+1)=ZmC m leaf xs (ZS m leaf xs k) (m - k):=by
  unfold ZS
  rw [List.range_succ,List.foldl_append]
  rfl
def ZzN (m:Nat) (xs:List Za.D):Prop:=∀ x ∈ xs,x.2.1=((Int.toNat x.2.1:Nat):Int)∧Int.toNat x.2.1 < 2 ^ m
theorem ZDY {M M':Mem} (hp:M <+: M') (k:IntKind) (n:Int):gc M (some (.int k n,M'))=some (.int k n,M):=by
  obtain ⟨N,rfl⟩:=hp
  exact ZBe M N k n
theorem Zy9 {a b:Nat}:a ^^^ b=0 ↔ a=b:=by
  constructor
  · intro h
    have e:a ^^^ b ^^^ b=0 ^^^ b:=by rw [h]
    simpa [Nat.xor_assoc] using e
  · rintro rfl
    exact Nat.xor_self a
theorem ZDW {m a b i:Nat} (hi:i≤m) (ha:a < 2 ^ m) (hb:b < 2 ^ m):(2 ^ m+a) / 2 ^ (m - i)=(2 ^ m+b) / 2 ^ (m - i) ↔ i≤m - ZgA (a ^^^ b):=by
  have hx:=ZjC.2 (Nat.xor_lt_two_pow ha hb)
  have hd:∀ c,(2 ^ m+c) / 2 ^ (m - i)=2 ^ i+c / 2 ^ (m - i):=fun c=>by
    have e:2 ^ m=2 ^ i * 2 ^ (m - i):=by rw [← Nat.pow_add]; congr 1; omega
    rw [e,Nat.add_comm,Nat.add_mul_div_right _ _ (Nat.two_pow_pos _),Nat.add_comm]
  rw [hd,hd]
  have h1:(2 ^ i+a / 2 ^ (m - i)=2 ^ i+b / 2 ^ (m - i)) ↔ a >>> (m - i)=b >>> (m - i):=by rw [Nat.shiftRight_eq_div_pow,Nat.shiftRight_eq_div_pow]; omega
  rw [h1,← Zy9,← Nat.shiftRight_xor_distrib,Nat.shiftRight_eq_div_pow,Nat.div_eq_zero_iff,← ZjC]
  constructor
  · rintro (h | h)
    · have:=Nat.two_pow_pos (m - i); omega
    · omega
  · intro h
    right; omega
theorem ZsG (M:Mem) (m a b:Nat) (hm:m≤6) (ha:a < 2 ^ m) (hb:b < 2 ^ m):Zb T0 Ziu [.int .i64 m,.int .i64 a,.int .i64 b] M=some (.int .i64 ((m - ZgA (a ^^^ b):Nat):Int),M):=by
  have hL:∀ x:Nat,x < 2 ^ m→ZeU m x=true:=fun x hx=>by
    unfold ZeU lgB
    have:(x:Int) < 2 ^ m:=by rw [Zlp]; omega
    simp [this]; omega
  have e1:=fun M=>(Zak M m a).trans (by rw [hL a ha])
  have e2:=fun M=>(Zak M m b).trans (by rw [hL b hb])
  rw [Zc ZrV]; unfold ZkM Zn5; simp [apA,e1,e2]
  generalize hx:Zb T0 YG _ _=xhx
  obtain ⟨_,X1,rfl,av,rfl,p1,g1⟩:=ZQ hx (ZcY M m a hm ha)
  clear hx
  simp [apA]
  generalize hx:Zb T0 YG _ _=xhx
  obtain ⟨_,X2,rfl,bv,rfl,p2,g2⟩:=ZQ hx (ZcY X1 m b hm hb)
  clear hx
  simp only at p1 g1 p2 g2
  have g1:=g1.pre p2
  have key:=YT (call:=Zb T0) (K:=Zcr) (L:=ZfL) (fun _ (_:Unit) X=>X=X2) (fun i _=>[O,O,O,O,O,O,O,.slice av (m+1) (m+1),.slice bv (m+1) (m+1),.int .i64 ((min (i - 1) (m - ZgA (a ^^^ b)):Nat):Int),.int .i64 i,O,O,O,O,O,O,O,O,O,O,O,O,O,O,O,O,O,O,O,O,O,O,O,O,O,O,O,O,O,O,O,O,O]) (n:=m+1) ?_ 0 () X2 (by omega) rfl
  · obtain ⟨_,X',rfl,e⟩:=key
    have e0:min (m+1 - 1) (m - ZgA (a ^^^ b))=m - ZgA (a ^^^ b):=by omega
    simp only [e0,Nat.zero_sub,Nat.zero_min,Nat.min_eq_left,Nat.zero_le,Int.natCast_zero,Int.ofNat_zero] at e
    have gb:=fun n:Int=>ZDY (p1.trans p2) .i64 n
    simp [apA,e]
    rw [Zh3]; unfold ZdJ; simp [apA,gb]
  · intro i _ X hi hX
    subst hX
    have e6:IntKind.i64.wrap ((i:Int)+1)=i+1:=Zd (by omega) (by omega)
    obtain ⟨l1,o1,rfl,q1⟩:=ZCx g1 (i:=i) (by rw [ZhS]; omega)
    obtain ⟨l2,o2,rfl,q2⟩:=ZCx g2 (i:=i) (by rw [ZhS]; omega)
    rw [Znn] at q1 q2
    have hsub:m+1 - 1 - i=m - i:=by omega
    rw [hsub] at q1 q2
    have hlt:(i:Int) < (m:Int)+1:=by omega
    have hlt':i < m+1:=by omega
    have hpe:=ZDW (i:=i) (by omega) ha hb
    refine ⟨(),X,rfl,?_⟩
    by_cases he:i≤m - ZgA (a ^^^ b)
    · have hq:=hpe.2 he
      have e7:min (i+1 - 1) (m - ZgA (a ^^^ b))=i:=by omega
      rw [e7]
      rw [hq] at q1
      rw [Zh3]; unfold ZdJ; simp [apA,hlt,hlt',q1,q2,e6]
    · have hq:¬ ((((2 ^ m+a) / 2 ^ (m - i):Nat):Int)=((2 ^ m+b) / 2 ^ (m - i):Nat)):=fun h=>he (hpe.1 (by omega))
      have e7:min (i+1 - 1) (m - ZgA (a ^^^ b))=min (i - 1) (m - ZgA (a ^^^ b)):=by omega
      rw [e7]
      generalize (2 ^ m+a) / 2 ^ (m - i)=x at q1 hq
      generalize (2 ^ m+b) / 2 ^ (m - i)=y at q2 hq
      rw [Zh3]; unfold ZdJ; simp [apA,hlt,hlt',q1,q2,hq,e6]
def Hg (t:Ty) (M:Mem) (v:V) (ys:List t.D) (X:Mem):Prop:=∃ css:List (List V),M <+: X∧Zdg M.length t.w X v ys.length css.flatten∧css.length=ys.length∧∀ (i:Nat) (ds:List V) (x:t.D),css[i]?=some ds→ys[i]?=some x→Rep t M ds x
theorem Hg.rep {t:Ty} {M:Mem} {v:V} {ys:List t.D} {X:Mem} (h:Hg t M v ys X):Rep (.sl t) X [v] ys:=by
  obtain ⟨css,hp,⟨h1,h2⟩,h3,h4⟩:=h
  rcases h2 with ⟨rfl,h0⟩ | ⟨l,_,rfl,hb⟩
  · exact .inl ⟨rfl,List.length_eq_zero_iff.1 h0⟩
  · exact .inr ⟨l,0,_,_,css,rfl,hb,.inr (.inl rfl),rfl,h3,fun i ds x hd hx=>(h4 i ds x hd hx).mono hp,by simp⟩
theorem ZAm {α β:Type} {R:α→β→Prop} {as:List α} {bs:List β} {a:α} {b:β} (hl:as.length=bs.length) (h:∀ (i:Nat) (x:α) (y:β),as[i]?=some x→bs[i]?=some y→R x y) (hab:R a b):∀ (i:Nat) (x:α) (y:β),(as++[a])[i]?=some x→(bs++[b])[i]?=some y→R x y:=by
  intro i x y hx hy
  rcases QF hx with ⟨h1,hx⟩ | ⟨h1,rfl⟩
  · rcases QF hy with ⟨h2,hy⟩ | ⟨h2,rfl⟩
    · exact h i x y hx hy
    · omega
  · rcases QF hy with ⟨h2,hy⟩ | ⟨h2,rfl⟩
    · omega
    · exact hab
theorem ZkE (M:Mem) (a:Option Addr) (c:Nat) (xs:List Za.D) (id:Int) (h:Rep (.sl Za) M [.slice a xs.length c] xs) (hz:xs.length≤1048576) (v:V) (Z:Mem) (hZ:Hg Za M v [] Z) :
    ∃ v' X',Hg Za M v' (ZP id xs) X'∧lp (Zb T0) YB QM [.slice a xs.length c,.int .i64 id,O,O,O,v,.int .i64 (0:Nat),O,O,O,O,O,O,O,O,O,O,O,O,O,O,O,O,O,O,O,O,O,O,O] Z=lp (Zb T0) YB QM [.slice a xs.length c,.int .i64 id,O,O,O,v',.int .i64 xs.length,O,O,O,O,O,O,O,O,O,O,O,O,O,O,O,O,O,O,O,O,O,O,O] X':=by
  have key:=YT (call:=Zb T0) (K:=YB) (L:=QM) (fun i v X=>Hg Za M v (ZP id (xs.take i)) X) (fun i v=>[.slice a xs.length c,.int .i64 id,O,O,O,v,.int .i64 i,O,O,O,O,O,O,O,O,O,O,O,O,O,O,O,O,O,O,O,O,O,O,O]) (n:=xs.length) ?_ 0 v Z (by omega) (by simpa [ZP] using hZ)
  · rw [List.take_length] at key
    exact key
  intro i v X hi ⟨css,pX,g0,hl0,hr0⟩
  obtain ⟨l,o,u,rfl,q1,q2,q3,q4,w0,w1,qu,qr⟩:=Y5 h hi
  have hw:ZP id (xs.take (i+1))=ZP id (xs.take i)++if xs[i].1=id then [] else [xs[i]]:=by
    unfold ZP
    rw [List.take_succ_eq_append_getElem hi,List.filter_append]
    congr 1
    by_cases hx:xs[i].1=id <;> simp [hx]
  have hle:(ZP id (xs.take i)).length≤i:=by
    refine Nat.le_trans (List.length_filter_le _ _) ?_
    rw [List.length_take]; omega
  have e6:IntKind.i64.wrap ((i:Int)+1)=i+1:=Zd (by omega) (by omega)
  have q1:=Qt pX q1
  have q4:=ZjS pX q4
  rw [hw]
  generalize ZP id (xs.take i)=ys at g0 hl0 hr0 hle ⊢
  generalize xs[i]=b at q1 q4 qu qr ⊢
  obtain ⟨b1,b2,b3⟩:=b
  simp only at q1 q4 qr ⊢
  by_cases hb:b1=id
  · rw [if_pos hb,List.append_nil]
    rw [Zdd]; unfold JF; simp [apA,hi,q1,hb,e6]
    exact ⟨_,_,⟨css,pX,g0,hl0,hr0⟩,rfl⟩
  · rw [if_neg hb]
    obtain ⟨ua,uc,rfl⟩:=qu.slen
    obtain ⟨av,rfl⟩:=g0.shape
    rw [Zdd]; unfold JF; simp [apA,hi,q1,q4,hb,zeroCells]
    generalize hy:Zdq _ _ _ _ _ _=xhy
    obtain ⟨a3,X3,rfl,g3,ag,l3⟩:=g0.at hy (List.prefix_append _ _) pX.length_le (by rfl) (by omega) (by rfl) (by omega) (by omega)
    clear hy
    simp [apA,e6]
    refine ⟨_,_,⟨css++[[.int .i64 b1,.int .i64 b2,.slice ua (List.length (α:=UInt8) b3) uc]],ag.pre (JZ pX) fun b hb=>g0.ge b hb,?_,by simp [hl0],ZAm hl0 hr0 qr⟩,rfl⟩
    simpa using g3
theorem ZsF {id:Int} {xs:List Za.D} (h:Zcz xs):Zcz (ZP id xs):=⟨Nat.le_trans (List.length_filter_le _ _) h.1,fun x hx=>h.2 x (List.mem_filter.1 hx).1⟩
theorem ZhL (M:Mem) (v:V) (xs:List Za.D) (id:Int) (h:Rep (.sl Za) M [v] xs) (hz:Zcz xs):Sat (Zb T0 Qd [v,.int .i64 id] M) (GrV Za M (ZP id xs)):=by
  obtain ⟨a,c,rfl⟩:=h.slen
  obtain ⟨v',X',hX,e⟩:=ZkE M a c xs id h hz.1 (.slice (some ⟨M.length,0,none⟩) 0 0) (M++[⟨[],3,2⟩]) ⟨[],List.prefix_append _ _,Zdg.new (Nat.le_refl _) rfl,rfl,by simp⟩
  simp only [Int.natCast_zero,Int.ofNat_zero] at e
  have hr:=hX.rep
  have hpM:M <+: X':=by obtain ⟨_,hp,_⟩:=hX; exact hp
  obtain ⟨a',c',rfl⟩:=hr.slen
  rw [Zc Zmi]; unfold Zer ZhG; simp [apA,zeroCells,e]
  rw [Zdd]; unfold JF; simp [apA]
  generalize hx:Zb T0 Z5 _ _=xhx
  obtain ⟨v2,X2,rfl,L,p2,g2,n2,k2⟩:=ZQ hx (Zbr X' _ _ hr (ZsF hz))
  clear hx
  simp only at p2 g2
  obtain ⟨a2,rfl⟩:=g2.shape
  simp [apA]
  have:=hpM.length_le
  exact ⟨(_,X2),rfl,L,hpM.trans p2,g2,n2,fun l hl=>by have:=k2 l hl; omega⟩
def ZAk (M:Mem) (id:Int) (xs:List Za.D) (p:V × Mem):Prop :=
  (∃ (i:Nat) (hi:i < xs.length) (ds:List V) (L:List Nat),(∀ j (hj:j < i),(xs[j]'(by omega)).1 ≠ id)∧xs[i].1=id∧p.1=.tuple #[.agg ds.toArray,.bool true]∧M <+: p.2∧Gr Za p.2 ds xs[i] L∧L.Nodup∧∀ l ∈ L,M.length≤l) ∨
  ((∀ b ∈ xs,b.1 ≠ id)∧p.1=.tuple #[.agg #[.int .i64 0,.int .i64 0,.slice none 0 0],.bool false]∧M <+: p.2)
theorem ZC4 {t:Ty} {M:Mem} {l o n c:Nat} {xs:List t.D} (h:Rep (.sl t) M [.slice (some ⟨l,o,none⟩) n c] xs) {i:Nat} (hi:i < xs.length) (c2:Nat):Rep (.sl t) M [.slice (some ⟨l,o+i * t.w,none⟩) 1 c2] [xs[i]]:=by
  rcases h with ⟨e,rfl⟩ | ⟨l',o',c',blk,css,e,h2,h3,h4,h5,h6,h7⟩
  · simp at e
  · simp only [List.cons.injEq,Value.slice.injEq,Option.some.injEq,Addr.mk.injEq,and_true] at e
    obtain ⟨⟨rfl,rfl⟩,rfl,rfl⟩:=e
    have hw:∀ ds ∈ css,ds.length=t.w:=fun ds hd=>by
      obtain ⟨j,hj,rfl⟩:=List.getElem_of_mem hd
      exact (h6 j css[j] (xs[j]'(by omega)) (by simp) (by simp)).len
    obtain ⟨r,hr⟩:=h7
    refine .inr ⟨l,o+i * t.w,c2,blk,[css[i]'(by omega)],rfl,h2,?_,h4,rfl,?_,?_⟩
    · rcases h3 with h | h | h
      · exact .inl h
      · exact .inr (.inl h)
      · subst h; simp at hi
    · intro j ds x hd hx
      match j with
      | 0 =>
        simp only [List.getElem?_cons_zero,Option.some.injEq] at hd hx
        subst hd hx
        exact h6 i _ _ (by simp) (by simp)
      | j+1=>simp at hd
    · have e:=ZkW css i (by omega) r hw
      rw [List.flatten_cons,List.flatten_nil,List.append_nil,← List.drop_drop,← hr,← e]
      exact List.take_prefix _ _
theorem ZkN {M:Mem} {ds:List V} {x:Za.D} {K:List Nat} (h:Gr Za M ds x K):K.Nodup:=by
  obtain ⟨c1,c2,L1,L2,_,⟨_,rfl⟩,⟨c3,c4,L3,L4,_,⟨_,rfl⟩,h,rfl⟩,rfl⟩:=h
  rcases h with ⟨_,_,rfl⟩ | ⟨l,css,Ls,_,_,h1,h2,h3,rfl⟩
  · simp
  · have:Ls.flatten=[]:=by
      rw [List.flatten_eq_nil_iff]
      intro K hK
      obtain ⟨i,hi,rfl⟩:=List.getElem_of_mem hK
      exact (h3 i (css[i]'(by omega)) (x.2.2[i]'(by omega)) Ls[i] (by simp) (by simp) (by simp)).2
    simp [this]
theorem Zlk (M:Mem) (a:Option Addr) (c:Nat) (xs:List Za.D) (id:Int) (h:Rep (.sl Za) M [.slice a xs.length c] xs) (hz:Zcz xs) (hn:xs.length≤128) :
    ((∀ i,i < xs.length→atB (fun b=>decide (b.1 ≠ id)) xs i=true)∧lp (Zb T0) Yu Qo [.slice a xs.length c,.int .i64 id,O,O,.pointer (some ⟨M.length,0,none⟩),O,.int .i64 (0:Nat),O,O,O,O,O,O,O,O,O,O,O,O,O,O,O,O,O,O,O,O,O,O,O,O,O,O,O] (M++[⟨[.int .i64 0,.int .i64 0,.slice none 0 0],1,2⟩])=lp (Zb T0) Yu Qo [.slice a xs.length c,.int .i64 id,O,O,.pointer (some ⟨M.length,0,none⟩),O,.int .i64 xs.length,O,O,O,O,O,O,O,O,O,O,O,O,O,O,O,O,O,O,O,O,O,O,O,O,O,O,O] (M++[⟨[.int .i64 0,.int .i64 0,.slice none 0 0],1,2⟩])) ∨
    (∀ k,Sat (ZjG M [.celln 4 3,.tmp 5] (Zjx (Ze1 0 (lp (Zb T0) Yu Qo [.slice a xs.length c,.int .i64 id,O,O,.pointer (some ⟨M.length,0,none⟩),O,.int .i64 (0:Nat),O,O,O,O,O,O,O,O,O,O,O,O,O,O,O,O,O,O,O,O,O,O,O,O,O,O,O] (M++[⟨[.int .i64 0,.int .i64 0,.slice none 0 0],1,2⟩]))) (Zb T0) k)) (ZAk M id xs)):=by
  have key:=Zs7 (call:=Zb T0) (K:=Yu) (L:=Qo) (fun i (_:Unit) Y=>Y=M++[⟨[.int .i64 0,.int .i64 0,.slice none 0 0],1,2⟩]∧∀ j,j < i→atB (fun b=>decide (b.1 ≠ id)) xs j=true) (fun i _=>[.slice a xs.length c,.int .i64 id,O,O,.pointer (some ⟨M.length,0,none⟩),O,.int .i64 i,O,O,O,O,O,O,O,O,O,O,O,O,O,O,O,O,O,O,O,O,O,O,O,O,O,O,O]) (atB (fun b=>decide (b.1 ≠ id)) xs) (ZAk M id xs) (n:=xs.length) (M0:=M) (rs:=[.celln 4 3,.tmp 5]) (k0:=0) () _ ⟨rfl,by omega⟩ ?_ ?_
  · rcases key with ⟨_,X',⟨rfl,_⟩,h1,h2⟩ | ⟨_,h⟩
    · exact .inl ⟨h1,h2⟩
    · exact .inr h
  · intro i _ Y hi hq ⟨hY,hj⟩
    subst hY
    obtain ⟨l,o,u,rfl,q1,q2,q3,q4,w0,w1,qu,qr⟩:=Y5 h hi
    have hq0:=hq
    rw [Zdr _ hi] at hq
    have hq:=of_decide_eq_true hq
    have e6:IntKind.i64.wrap ((i:Int)+1)=i+1:=Zd (by omega) (by omega)
    have hn':(xs.length:Int)≤128:=by omega
    have q1':=fun N:Mem=>Zhe (N:=N) q1
    refine ⟨(),_,⟨rfl,fun j hj'=>?_⟩,?_⟩
    · by_cases e:j=i
      · subst e; exact hq0
      · exact hj j (by omega)
    · rw [ZdF]; unfold J7; simp [apA,hi,hn,hn',q1',hq,e6]
  · intro i _ Y hi hq ⟨hY,hj⟩ k
    subst hY
    obtain ⟨l,o,u,rfl,q1,q2,q3,q4,w0,w1,qu,qr⟩:=Y5 h hi
    rw [Zdr _ hi] at hq
    have hq:=of_decide_eq_false hq
    have hq:xs[i].1=id:=Classical.not_not.1 hq
    have e6:IntKind.i64.wrap ((i:Int)+1)=i+1:=Zd (by omega) (by omega)
    have hn':(xs.length:Int)≤128:=by omega
    have q1':=fun N:Mem=>Zhe (N:=N) q1
    obtain ⟨blk,hb1,hb2,_⟩:=Zij h
    have hb1':=fun N:Mem=>Zw (N:=N) hb1
    have hw3:Za.w=3:=rfl
    rw [hw3] at hb2
    have hr:=fun N:Mem=>fun c2=>(ZC4 h hi c2).mono (List.prefix_append M N)
    rw [hw3] at hr
    have hil:i+1≤xs.length:=hi
    have hil':(i:Int)+1≤(xs.length:Int):=by omega
    have hii:(i:Int)≤(i:Int)+1:=by omega
    have hsub:((i:Int)+1 - (i:Int)).toNat=1:=by omega
    rw [ZdF]; unfold J7; simp [apA,hi,hn,hn',q1',hq,e6,hb1',hb2,hil,hil',hsub,hii]
    generalize hx:Zb T0 Z5 _ _=xhx
    obtain ⟨v2,X2,rfl,L,p2,g2,n2,k2⟩:=ZQ hx (Zbr _ _ [xs[i]] (hr _ _) ⟨by simp,fun x hx=>by simp at hx; subst hx; exact hz.2 _ (List.getElem_mem hi)⟩)
    clear hx
    simp only at p2 g2
    obtain ⟨l2,ds,K,hv2,hrd,hg,hK⟩:=g2.at (i:=0) (by simp)
    cases hv2
    simp only [List.getElem_cons_zero] at hg
    obtain ⟨u2,rfl,v0,v1,r2⟩:=YE hg.rep
    obtain ⟨ua,uc,rfl⟩:=r2.slen
    have hbx:X2[M.length]?=some ⟨[.int .i64 0,.int .i64 0,.slice none 0 0],1,2⟩:=Zh p2 (by simp)
    have hrd:rdn X2 l2 0 3=some [.int .i64 xs[i].1,.int .i64 xs[i].2.1,.slice ua (List.length (α:=UInt8) xs[i].2.2) uc]:=by
      have:0 * Za.w=0:=rfl
      rw [this] at hrd
      exact hrd
    simp [apA,hrd,hbx,ZbN hbx,Y1,Z3,Zm7,ZiG,ZhB,Zdj]
    rw [ZBA rfl]
    have hgt:∀ l ∈ K,M.length+1≤l:=fun l hl=>by have:=k2 l (hK l hl); simp at this; omega
    refine Zcw (.inl ⟨i,hi,_,K,fun j hj'=>?_,hq,rfl,QQ (Nat.le_refl _) ((List.prefix_append _ _).trans p2),hg.set _ (fun hm=>by have:=hgt _ hm; omega),?_,fun l hl=>by have:=hgt l hl; omega⟩)
    · have:=hj j hj'
      rw [Zdr _ (by omega)] at this
      exact of_decide_eq_true this
    · exact ZkN hg
theorem ZiQ (M:Mem) (v:V) (xs:List Za.D) (id:Int) (h:Rep (.sl Za) M [v] xs) (hz:Zcz xs) (hn:xs.length≤128):Sat (Zb T0 Qz [v,.int .i64 id] M) (ZAk M id xs):=by
  obtain ⟨a,c,rfl⟩:=h.slen
  rcases Zlk M a c xs id h hz hn with ⟨hx,e⟩ | e
  · simp only [Int.natCast_zero,Int.ofNat_zero] at e
    rw [Zc ZiO]; unfold Zc5 Ze8; simp [apA,e]
    rw [ZdF]; unfold J7; simp [apA]
    refine Zcw (.inr ⟨fun b hb=>?_,rfl,List.prefix_append _ _⟩)
    obtain ⟨i,hi,rfl⟩:=List.getElem_of_mem hb
    have:=hx i hi
    rw [Zdr _ hi] at this
    exact of_decide_eq_true this
  · simp only [Int.natCast_zero,Int.ofNat_zero] at e
    rw [Zc ZiO]; unfold Zc5 Ze8; simp [apA]
    exact e _
theorem ZvZ {xs ys:List Za.D} (h:Zcz xs) (hs:List.Sublist ys xs):Zcz ys:=⟨Nat.le_trans hs.length_le h.1,fun x hx=>h.2 x (hs.subset hx)⟩
theorem Zvu {M:Mem} {id:Int} {xs:List Za.D} {p:V × Mem} (h:ZAk M id xs p):M <+: p.2∧∃ u0 u1 u2,p.1=.tuple #[.agg #[u0,u1,u2],.bool (ZaP id xs)]∧one u0=true∧one u1=true∧one u2=true:=by
  rcases h with ⟨i,hi,ds,L,h1,h2,h3,h4,h5,_⟩ | ⟨h1,h2,h3⟩
  · have:ZaP id xs=true:=List.any_eq_true.2 ⟨xs[i],List.getElem_mem hi,decide_eq_true h2⟩
    obtain ⟨u,rfl,_,_,hr⟩:=YE h5.rep
    obtain ⟨_,_,rfl⟩:=hr.slen
    exact ⟨h4,_,_,_,by rw [h3,this],rfl,rfl,rfl⟩
  · have:ZaP id xs=false:=by
      unfold ZaP
      rw [List.any_eq_false]
      intro b hb
      simpa using h1 b hb
    exact ⟨h3,_,_,_,by rw [h2,this],rfl,rfl,rfl⟩
theorem ZBk {M:Mem} {a b:Int} (h0:(Lit.int .i64 a).wf=true) (h1:(Lit.int .i64 b).wf=true):Gr ZB M [.int .i64 a,.int .i64 b] (a,b) [] :=
  ⟨[.int .i64 a],[.int .i64 b],[],[],rfl,⟨⟨rfl,h0⟩,rfl⟩,⟨⟨rfl,h1⟩,rfl⟩,rfl⟩
set_option maxHeartbeats 2000000 in
theorem Zlc (M:Mem) (a:Option Addr) (c:Nat) (xs:List Za.D) (m leaf lv:Nat) (h:Rep (.sl Za) M [.slice a xs.length c] xs) (hz:Zcz xs) (hn:xs.length≤128) (hL:ZzN m xs) (hm:m≤6) (hlf:leaf < 2 ^ m) (hlv:lv≤m) (vo vr:V) (s:List ZB.D × List Za.D × Nat) (Z:Mem) (N:Nat) (hN:N≤10000) (hZ:EvI M xs N vo vr s Z) :
    ∃ vo' vr' X',EvI M xs (N+xs.length) vo' vr' (xs.foldl (Zfd m leaf lv) s) X'∧lp (Zb T0) YX Jc [.slice a xs.length c,.int .i64 m,O,.int .i64 leaf,O,O,O,O,O,vo,vr,.int .i64 lv,.int .i64 s.2.2,.int .i64 (0:Nat),O,O,O,O,O,O,O,O,O,O,O,O,O,O,O,O,O,O,O,O,O,O,O,O,O,O,O,O,O,O,O,O,O,O,O,O,O,O,O,O,O,O,O,O,O,O,O,O,O,O,O,O,O,O,O,O,O,O,O,O,O,O,O,O,O,O,O,O,O,O,O,O,O,O] Z=lp (Zb T0) YX Jc [.slice a xs.length c,.int .i64 m,O,.int .i64 leaf,O,O,O,O,O,vo',vr',.int .i64 lv,.int .i64 (xs.foldl (Zfd m leaf lv) s).2.2,.int .i64 xs.length,O,O,O,O,O,O,O,O,O,O,O,O,O,O,O,O,O,O,O,O,O,O,O,O,O,O,O,O,O,O,O,O,O,O,O,O,O,O,O,O,O,O,O,O,O,O,O,O,O,O,O,O,O,O,O,O,O,O,O,O,O,O,O,O,O,O,O,O,O,O,O,O,O,O] X':=by
  have key:=YT (call:=Zb T0) (K:=YX) (L:=Jc) (fun i (w:V × V) X=>EvI M xs (N+i) w.1 w.2 ((xs.take i).foldl (Zfd m leaf lv) s) X) (fun i (w:V × V)=>[.slice a xs.length c,.int .i64 m,O,.int .i64 leaf,O,O,O,O,O,w.1,w.2,.int .i64 lv,.int .i64 ((xs.take i).foldl (Zfd m leaf lv) s).2.2,.int .i64 i,O,O,O,O,O,O,O,O,O,O,O,O,O,O,O,O,O,O,O,O,O,O,O,O,O,O,O,O,O,O,O,O,O,O,O,O,O,O,O,O,O,O,O,O,O,O,O,O,O,O,O,O,O,O,O,O,O,O,O,O,O,O,O,O,O,O,O,O,O,O,O,O,O,O]) (n:=xs.length) ?_ 0 (vo,vr) Z (by omega) (by simpa using hZ)
  · obtain ⟨⟨vo',vr'⟩,X',hX,e⟩:=key
    rw [List.take_length] at hX e
    exact ⟨vo',vr',X',hX,e⟩
  intro i w X hi hX
  obtain ⟨vo,vr⟩:=w
  rw [List.take_succ_eq_append_getElem hi,List.foldl_append]
  simp only [List.foldl_cons,List.foldl_nil] at hX ⊢
  generalize (xs.take i).foldl (Zfd m leaf lv) s=st at hX ⊢
  obtain ⟨out,rest,n⟩:=st
  obtain ⟨Lo,Lr,pX,go,gr,nd,geo,ger,hdj,hsub,hn4,hoN⟩:=hX
  simp only at go gr hsub hn4 hoN ⊢
  obtain ⟨l,o,u,rfl,q1,q2,q3,q4,w0,w1,qu,qr⟩:=Y5 h hi
  obtain ⟨hl1,hl2⟩:=hL _ (List.getElem_mem hi)
  have e6:IntKind.i64.wrap ((i:Int)+1)=i+1:=Zd (by omega) (by omega)
  have hll:l < M.length:=ZvU q1
  have hst:Zfd m leaf lv (out,rest,n) xs[i]=if ZaP xs[i].1 rest=true∧n < 4∧lv≤mtN m leaf xs[i] then (out++[((lv:Int),xs[i].1)],ZP xs[i].1 rest,n+1) else (out,rest,n):=rfl
  have hmt:mtN m leaf xs[i]=m - ZgA (Int.toNat xs[i].2.1 ^^^ leaf):=rfl
  rw [hst]
  have hrl:rest.length≤128:=Nat.le_trans hsub.length_le hn
  have q1X:=Qt pX q1
  have q2X:=Qt pX q2
  have hS:=ZiQ X vr rest xs[i].1 gr.rep (ZvZ hz hsub) hrl
  generalize xs[i]=b at *
  obtain ⟨b1,b2,b3⟩:=b
  simp only at *
  generalize Int.toNat b2=b2n at *
  subst hl1
  obtain ⟨av,rfl⟩:=gr.shape
  obtain ⟨ao,rfl⟩:=go.shape
  rw [Zgw]; unfold Zbz; simp [apA,hi,q1X]
  generalize hx:Zb T0 Qz _ _=xhx
  obtain ⟨v1,X1,rfl,hF⟩:=ZQ hx hS
  clear hx
  obtain ⟨p1,u0,u1,u2,hv1,o0,o1,o2⟩:=Zvu hF
  simp only at p1 hv1
  subst hv1
  have q1':=fun N:Mem=>Qt (p1.trans (List.prefix_append X1 N)) q1X
  have q2':=fun N:Mem=>Qt (p1.trans (List.prefix_append X1 N)) q2X
  have hM:=fun N:Mem=>ZsG N m b2n leaf hm hl2 hlf
  have hf:EvI M (xs) (N+(i+1)) (.slice ao out.length out.length) (.slice av rest.length rest.length) (out,rest,n) (X1++[⟨[u0,u1,u2],1,2⟩]) :=
    ⟨Lo,Lr,JZ (pX.trans p1),go.grow (JZ p1),gr.grow (JZ p1),nd,geo,ger,hdj,hsub,hn4,by show out.length≤_; omega⟩
  cases hh:ZaP b1 rest with
  | false =>
    simp only [Bool.false_eq_true,false_and,if_false]
    simp [apA,o0,o1,o2,e6,zeroCells]
    exact ⟨_,_,_,hf,rfl⟩
  | true =>
    simp only [true_and]
    rw [hmt]
    generalize m - ZgA (b2n ^^^ leaf)=mu at hM
    by_cases hc:n < 4
    · have hc':(n:Int) < 4:=by omega
      by_cases hv:lv≤mu
      · have hv':(lv:Int)≤(mu:Int):=by omega
        have e7:IntKind.i64.wrap ((n:Int)+1)=n+1:=Zd (by omega) (by omega)
        rw [if_pos ⟨hc,hv⟩]
        simp [apA,o0,o1,o2,zeroCells,hi,q1',q2',hM,hc,hc',hv,hv']
        generalize hy:Zdq _ _ _ _ _ _=xhy
        have hs1:(out.length+1) * 16≤140737488355328:=by omega
        have hwl:(Lit.int .i64 (lv:Int)).wf=true:=ZqQ (by omega) (by omega)
        obtain ⟨l2,X3,L',rfl,go3,ag,hlen,hwo,nd3,hL3,hl2⟩:=go.app (t:=ZB) (bytes:=16) hy (JZ p1) (ZBk (a:=(lv:Int)) (b:=b1) hwl w0) (by simp) nd (by simp) hs1 (by omega)
        clear hy
        have gr3:Gr (.sl Za) X3 [.slice av rest.length rest.length] rest Lr:=(gr.grow (JZ p1)).agree ag (fun j hj hm=>hdj j (hwo j hm) hj)
        have p3:M <+: X3:=ag.pre (JZ (pX.trans p1)) (fun b hb=>geo b (hwo b hb))
        have q13:=Qt p3 q1
        simp [apA,hi,q13]
        generalize hx:Zb T0 Qd _ _=xhx
        obtain ⟨v4,X4,rfl,L4,p4,g4,n4,k4⟩:=ZQ hx (ZhL X3 _ rest b1 gr3.rep (ZvZ hz hsub))
        clear hx
        simp only at p4 g4
        simp [apA,e6,e7]
        have hx3:=p3.length_le
        refine ⟨_,_,_,⟨L',L4,p3.trans p4,go3.grow p4,g4,nd3,fun j hj=>?_,fun j hj=>Nat.le_trans hx3 (k4 j hj),fun j hj hm=>?_,(List.filter_sublist).trans hsub,by show n+1≤4; omega,by simp; omega⟩,rfl⟩
        · rcases hL3 j hj with h | h | h
          · exact geo j h
          · simp at h
          · have:=(JZ (pX.trans p1):M <+: X1++[(⟨[u0,u1,u2],1,2⟩:Blk)]).length_le
            simp at this hl2
            omega
        · have h1:=go3.lt j hj
          have h2:=k4 j hm
          omega
      · have hv':¬ (lv:Int)≤(mu:Int):=by omega
        rw [if_neg (fun h=>hv h.2)]
        simp [apA,o0,o1,o2,e6,zeroCells,hi,q1',q2',hM,hc,hc',hv,hv']
        exact ⟨_,_,_,hf,rfl⟩
    · have hc':¬ (n:Int) < 4:=by omega
      rw [if_neg (fun h=>hc h.1)]
      simp [apA,o0,o1,o2,e6,zeroCells,hi,q1',q2',hM,hc,hc']
      exact ⟨_,_,_,hf,rfl⟩
theorem ZlG (M:Mem) (a:Option Addr) (c:Nat) (xs:List Za.D) (m leaf:Nat) (h:Rep (.sl Za) M [.slice a xs.length c] xs) (hz:Zcz xs) (hn:xs.length≤128) (hL:ZzN m xs) (hm:m≤6) (hlf:leaf < 2 ^ m) (vo vr:V) (Z:Mem) (hZ:EvI M xs 0 vo vr ([],xs,0) Z) :
    ∃ vo' vr' X',EvI M xs ((m+1) * xs.length) vo' vr' ((ZS m leaf xs (m+1)).1,(ZS m leaf xs (m+1)).2,0) X'∧lp (Zb T0) YZ Jf [.slice a xs.length c,.int .i64 m,O,.int .i64 leaf,O,O,O,O,O,vo,vr,.int .i64 ((m:Int) - (0:Nat)),O,O,O,O,O,O,O,O,O,O,O,O,O,O,O,O,O,O,O,O,O,O,O,O,O,O,O,O,O,O,O,O,O,O,O,O,O,O,O,O,O,O,O,O,O,O,O,O,O,O,O,O,O,O,O,O,O,O,O,O,O,O,O,O,O,O,O,O,O,O,O,O,O,O,O,O] Z=lp (Zb T0) YZ Jf [.slice a xs.length c,.int .i64 m,O,.int .i64 leaf,O,O,O,O,O,vo',vr',.int .i64 ((m:Int) - (m+1:Nat)),O,O,O,O,O,O,O,O,O,O,O,O,O,O,O,O,O,O,O,O,O,O,O,O,O,O,O,O,O,O,O,O,O,O,O,O,O,O,O,O,O,O,O,O,O,O,O,O,O,O,O,O,O,O,O,O,O,O,O,O,O,O,O,O,O,O,O,O,O,O,O,O,O,O,O,O] X':=by
  have key:=YT (call:=Zb T0) (K:=YZ) (L:=Jf) (fun k (w:V × V) X=>EvI M xs (k * xs.length) w.1 w.2 ((ZS m leaf xs k).1,(ZS m leaf xs k).2,0) X) (fun k (w:V × V)=>[.slice a xs.length c,.int .i64 m,O,.int .i64 leaf,O,O,O,O,O,w.1,w.2,.int .i64 ((m:Int) - (k:Nat)),O,O,O,O,O,O,O,O,O,O,O,O,O,O,O,O,O,O,O,O,O,O,O,O,O,O,O,O,O,O,O,O,O,O,O,O,O,O,O,O,O,O,O,O,O,O,O,O,O,O,O,O,O,O,O,O,O,O,O,O,O,O,O,O,O,O,O,O,O,O,O,O,O,O,O,O]) (n:=m+1) ?_ 0 (vo,vr) Z (by omega) (by simpa [ZS] using hZ)
  · obtain ⟨⟨vo',vr'⟩,X',hX,e⟩:=key
    exact ⟨vo',vr',X',hX,e⟩
  intro k w X hk hX
  obtain ⟨vo,vr⟩:=w
  simp only at hX ⊢
  have hkm:k * xs.length≤10000:=Nat.le_trans (Nat.mul_le_mul (show k≤6 by omega) hn) (by omega)
  obtain ⟨vo',vr',X',hX',e⟩:=Zlc M a c xs m leaf (m - k) h hz hn hL hm hlf (by omega) vo vr _ X _ hkm hX
  rw [Zb0]
  have hlv:((m - k:Nat):Int)=(m:Int) - k:=by omega
  have hge:k≤m:=by omega
  have e7:IntKind.i64.wrap ((m:Int) - k - 1)=(m:Int) - (k+1:Nat):=by rw [Zd (by omega) (by omega)]; omega
  simp only [Int.natCast_zero,Int.ofNat_zero,hlv] at e
  have hfo:EvI M xs ((k+1) * xs.length) vo' vr' ((ZmC m leaf xs (ZS m leaf xs k) (m - k)).1,(ZmC m leaf xs (ZS m leaf xs k) (m - k)).2,0) X':=by
    obtain ⟨Lo,Lr,h1,h2,h3,h4,h5,h6,h7,h8,h9,h10⟩:=hX'
    exact ⟨Lo,Lr,h1,h2,h3,h4,h5,h6,h7,h8,by show 0≤4; omega,by rw [Nat.succ_mul]; exact h10⟩
  refine ⟨(vo',vr'),X',hfo,?_⟩
  rw [ZgW]; unfold ZbL; simp [apA,hge,e]
  rw [Zgw]; unfold Zbz; simp [apA,e7]
theorem ZGB {m:Nat} {w:Int} {xs:List Za.D} (h:Z4 m w xs=true):ZzN m xs:=fun b hb=>by
  have:=Zhx h b hb
  unfold ZbS at this
  simp only [Bool.and_eq_true] at this
  exact ZfS this.2.2.1
theorem ZE4 {l w lf:Int} {xs:List Za.D} (h:evB l w lf xs=true):∃ m n:Nat,l=m∧lf=n∧m≤6∧n < 2 ^ m∧ZzN m xs∧xs.length≤128∧Z4 m w xs=true:=by
  unfold evB ZeV at h
  simp only [Bool.and_eq_true,decide_eq_true_eq] at h
  obtain ⟨⟨h1,h2⟩,h3⟩:=h
  have hl:lgB l=true:=by
    unfold ZeU at h3
    rw [Bool.and_eq_true] at h3
    exact h3.1
  obtain ⟨m,rfl,hm⟩:=ZjF hl
  obtain ⟨q1,q2⟩:=ZfS h3
  exact ⟨m,lf.toNat,rfl,q1,hm,q2,ZGB h2,h1,h2⟩
theorem ZiY (M:Mem) (v:V) (xs:List Za.D) (l w lf:Int) (h:Rep (.sl Za) M [v] xs) (hz:Zcz xs):(evB l w lf xs=false∧Zb T0 QD [v,.int .i64 l,.int .i64 w,.int .i64 lf] M=some (.slice none 0 0,M)) ∨
    (evB l w lf xs=true∧Sat (Zb T0 QD [v,.int .i64 l,.int .i64 w,.int .i64 lf] M) (GrV ZB M (ZS l.toNat lf.toNat xs (l.toNat+1)).1)):=by
  have e1:=fun M' (hp:M <+: M')=>Zhf M' v xs l w (h.mono hp) hz.1
  have e1:=e1 M (List.prefix_refl _)
  have e2:=fun M=>Zak M l lf
  obtain ⟨a,c,rfl⟩:=h.slen
  cases hb:evB l w lf xs with
  | false =>
    left
    refine ⟨rfl,?_⟩
    unfold evB at hb
    cases h1:ZeV l w xs with
    | false =>
      rw [h1] at e1
      rw [Zc Zft]; unfold Za9 ZcV; simp [apA,e1]
    | true =>
      rw [h1] at e1 hb
      rw [Bool.true_and] at hb
      rw [hb] at e2
      rw [Zc Zft]; unfold Za9 ZcV; simp [apA,e1,e2]
  | true =>
    right
    refine ⟨rfl,?_⟩
    obtain ⟨m,n,rfl,rfl,hm,hn,hL,hle,_⟩:=ZE4 hb
    unfold evB at hb
    rw [Bool.and_eq_true] at hb
    rw [hb.1] at e1
    rw [hb.2] at e2
    have t1:((m:Int).toNat)=m:=by omega
    have t2:((n:Int).toNat)=n:=by omega
    rw [t1,t2]
    rw [Zc Zft]; unfold Za9 ZcV; simp [apA,e1,e2,zeroCells]
    generalize hx:Zb T0 Z5 _ _=xhx
    obtain ⟨v1,X1,rfl,L1,p1,g1,n1,k1⟩:=ZQ hx (Zbr _ _ xs (h.mono (List.prefix_append M _)) hz)
    clear hx
    simp only at p1 g1
    have hZ:EvI M xs 0 (.slice (some ⟨M.length,0,none⟩) 0 0) v1 ([],xs,0) X1:=⟨[M.length],L1,(List.prefix_append _ _).trans p1,gr0 (t:=ZB) (Zh p1 (by simp [Ty.w])),g1,by simp,by simp,fun l hl=>by have:=k1 l hl; simp at this; omega,fun l hl hm=>by
      simp at hl
      have:=k1 l hm
      simp at this
      omega,List.Sublist.refl _,by simp,by simp⟩
    obtain ⟨vo',vr',X',⟨Lo,Lr,q1,q2,q3,q4,q5,_⟩,e⟩:=ZlG M a c xs m n h hz hle hL hm hn _ _ X1 hZ
    simp only [Int.natCast_zero,Int.ofNat_zero,Int.sub_zero] at e
    obtain ⟨av,rfl⟩:=g1.shape
    obtain ⟨ao,rfl⟩:=q2.shape
    have hneg:¬ (m:Int)+1≤(m:Int):=by omega
    simp [apA,e]
    rw [ZgW]; unfold ZbL; simp [apA,hneg]
    exact ⟨(_,X'),rfl,Lo,q1,q2,q4,q5⟩
def Zl (zs:List (List V × Za.D)):List V:=(zs.map (·.1)).flatten
theorem Zya {K:Nat} {X:Mem} {v:V} {zs:List (List V × Za.D)} (h:Zdg K 3 X v zs.length (Zl zs)) (hz:∀ z ∈ zs,Rep Za X z.1 z.2):Rep (.sl Za) X [v] (zs.map (·.2)):=by
  rcases h.2 with ⟨rfl,h0⟩ | ⟨l,_,rfl,hb⟩
  · have:zs=[]:=List.length_eq_zero_iff.1 h0
    subst this
    exact .inl ⟨rfl,rfl⟩
  · refine .inr ⟨l,0,zs.length,_,zs.map (·.1),by rw [List.length_map],hb,.inr (.inl rfl),rfl,by simp,?_,?_⟩
    · intro i ds x hd hx
      rw [List.getElem?_map] at hd hx
      obtain ⟨z,hz1,rfl⟩:=Option.map_eq_some_iff.1 hd
      obtain ⟨z',hz2,rfl⟩:=Option.map_eq_some_iff.1 hx
      rw [hz1] at hz2
      cases hz2
      exact hz z (List.mem_of_getElem? hz1)
    · rw [List.drop_zero]
      exact List.prefix_refl _
def SoI (M:Mem) (ys:List Za.D) (v:V) (X:Mem):Prop:=M <+: X∧∃ zs:List (List V × Za.D),zs.map (·.2)=ys∧(∀ z ∈ zs,Rep Za M z.1 z.2)∧Zdg M.length 3 X v zs.length (Zl zs)
theorem Zzq (k:Nat) (xs:List Za.D) {i:Nat} (hi:i < xs.length):flI k (xs.take (i+1))=flI k (xs.take i)++(if Int.toNat xs[i].1=k then [xs[i]] else []):=by
  rw [List.take_succ_eq_append_getElem hi,JG,ZnI]
theorem ZxQ (zs zs':List (List V × Za.D)):Zl (zs++zs')=Zl zs++Zl zs':=by simp [Zl]
set_option maxHeartbeats 1000000 in
theorem Zlz (M:Mem) (a:Option Addr) (c:Nat) (xs:List Za.D) (h:Rep (.sl Za) M [.slice a xs.length c] xs) (hr:Zgv xs) (hn:xs.length≤100000) (k:Nat) (hk:k < 256) (ys:List Za.D) (hy:ys.length≤100000000) (v:V) (X:Mem) (hX:SoI M ys v X) :
    ∃ v' X',SoI M (ys++flI k xs) v' X'∧lp (Zb T0) YV Jg [.slice a xs.length c,O,O,v,.int .i64 k,.int .i64 (0:Nat),O,O,O,O,O,O,O,O,O,O,O,O,O,O,O,O,O,O,O,O,O,O,O,O,O,O,O] X=lp (Zb T0) YV Jg [.slice a xs.length c,O,O,v',.int .i64 k,.int .i64 xs.length,O,O,O,O,O,O,O,O,O,O,O,O,O,O,O,O,O,O,O,O,O,O,O,O,O,O,O] X':=by
  have key:=YT (call:=Zb T0) (K:=YV) (L:=Jg) (fun i v X=>SoI M (ys++flI k (xs.take i)) v X) (fun i v=>[.slice a xs.length c,O,O,v,.int .i64 k,.int .i64 i,O,O,O,O,O,O,O,O,O,O,O,O,O,O,O,O,O,O,O,O,O,O,O,O,O,O,O]) (n:=xs.length) ?_ 0 v X (by omega) (by simpa [flI] using hX)
  · rw [List.take_length] at key
    exact key
  intro i v X hi ⟨pX,zs,hzs,hz,hg⟩
  have e6:IntKind.i64.wrap ((i:Int)+1)=i+1:=Zd (by omega) (by omega)
  obtain ⟨l,o,u,rfl,hr0,_,_,hrn,_,_,hub,hrep⟩:=Y5 (h.mono pX) hi
  obtain ⟨_,l',o',e,cs',hrd',hrepM⟩:=Zga h hi
  cases e
  have hrd2:=ZjS pX hrd'
  have hw:Za.w=3:=rfl
  rw [hw] at hrd2
  rw [hrn] at hrd2
  have hcs:=(Option.some.inj hrd2).symm
  subst hcs
  obtain ⟨ub,uc,rfl⟩:=hub.slen
  rw [Zzq k xs hi,← List.append_assoc]
  have hid:=Zxu hr _ (List.getElem_mem hi)
  have hfl:(flI k (xs.take i)).length≤i:=by
    have h1:(flI k (xs.take i)).length≤(xs.take i).length:=List.length_filter_le _ _
    rw [List.length_take] at h1
    omega
  have hzl:zs.length=ys.length+(flI k (xs.take i)).length:=by rw [← List.length_map (f:=Prod.snd),← List.length_append]; exact congrArg List.length hzs
  generalize flI k (xs.take i)=fl at *
  have hone:=hrepM.one
  generalize hxi:xs[i]=b at *
  obtain ⟨b1,b2,b3⟩:=b
  simp only at hr0 hrn hid hub hone hrepM
  rw [hid.1] at hr0 hrn hone hrepM
  have hlt:=hid.2
  by_cases hq:Int.toNat b1=k
  · rw [if_pos hq]
    subst hq
    generalize hdl:List.length (α:=UInt8) b3=dl at *
    generalize hq:Int.toNat b1=q at *
    rw [ZdZ]; unfold J5; simp [apA,hi,hr0,hrn,hone,zeroCells]
    generalize hy:Zdq _ _ _ _ _ _=xhy
    obtain ⟨a2,X3,rfl,g3,ag,hl3,hw3⟩:=ZgG hg hy (List.prefix_append _ _) pX.length_le (by simp) (List.all_eq_true.2 fun x hx=>List.all_eq_true.1 hone x hx) (by omega) (by omega)
    clear hy
    simp [apA,e6]
    refine ⟨_,X3,⟨ag.pre (pX.trans (List.prefix_append _ _)) hg.ge,zs++[([.int .i64 (q:Int),.int .i64 b2,.slice ub dl uc],(b1,b2,b3))],by rw [List.map_append,hzs,List.append_assoc]; rfl,fun z hm=>?_,?_⟩,rfl⟩
    · rcases List.mem_append.1 hm with hm | hm
      · exact hz z hm
      · rw [List.mem_singleton.1 hm]
        show Rep Za M _ (b1,b2,b3)
        rw [hid.1]
        exact hrepM
    · rw [List.length_append,ZxQ]
      exact g3
  · rw [if_neg hq,List.append_nil]
    generalize hdl:List.length (α:=UInt8) b3=dl at *
    generalize Int.toNat b1=q at *
    have hq2:¬ (q:Int)=(k:Int):=by omega
    rw [ZdZ]; unfold J5; simp [apA,hi,hr0,hrn,hq2,hq,e6]
    exact ⟨v,X,⟨pX,zs,hzs,hz,hg⟩,rfl⟩
def Zvn (n:Nat) (xs:List Za.D):List Za.D:=(List.range n).flatMap fun k=>flI k xs
theorem ZqS (n:Nat) (xs:List Za.D):Zvn (n+1) xs=Zvn n xs++flI n xs:=by
  unfold Zvn
  rw [List.range_succ,List.flatMap_append]
  simp
theorem Zp2 (xs:List Za.D):∀ n,(Zvn n xs).length≤n * xs.length
  | 0=>by simp [Zvn]
  | n+1=>by
    have h1:(flI n xs).length≤xs.length:=List.length_filter_le _ _
    have h2:=Zp2 xs n
    rw [ZqS,List.length_append,Nat.succ_mul]
    omega
set_option maxHeartbeats 1000000 in
theorem ZmX (M:Mem) (v:V) (xs:List Za.D) (h:Rep (.sl Za) M [v] xs) (hr:Zgv xs) (hn:xs.length≤4000) (hz:Zcz xs):Sat (Zb T0 JU [v] M) (GrV Za M (Zvn 256 xs)):=by
  obtain ⟨a,c,rfl⟩:=h.slen
  have key:=YT (call:=Zb T0) (K:=Jb) (L:=ZbA) (fun i v X=>SoI M (Zvn i xs) v X) (fun i v=>[.slice a xs.length c,O,O,v,.int .i64 i,O,O,O,O,O,O,O,O,O,O,O,O,O,O,O,O,O,O,O,O,O,O,O,O,O,O,O,O]) (n:=256) ?_ 0 (.slice (some ⟨M.length,0,none⟩) 0 0) (M++[⟨[],3,2⟩]) (by omega) ⟨List.prefix_append _ _,[],rfl,by simp,Zdg.new (Nat.le_refl _) rfl⟩
  · obtain ⟨v',X',⟨pX,zs,hzs,hzr,hg⟩,e⟩:=key
    simp only [Int.natCast_zero,Int.ofNat_zero] at e
    have hrep:=Zya hg (fun z hm=>(hzr z hm).mono pX)
    rw [hzs] at hrep
    have hlen:=Zp2 xs 256
    have hC:=Zbr X' v' _ hrep ⟨by omega,fun x hx=>by
      obtain ⟨k,_,hk⟩:=List.mem_flatMap.1 hx
      exact hz.2 x (List.mem_filter.1 hk).1⟩
    rw [Zc ZmI]; unfold Zfm ZiD; simp [apA,zeroCells,e]
    rw [ZgP]; unfold ZbB; simp [apA]
    generalize hx:Zb T0 Z5 _ _=xhx
    obtain ⟨v3,X3,rfl,L3,p3,g3,n3,k3⟩:=ZQ hx hC
    clear hx
    simp only at p3 g3
    obtain ⟨a3,rfl⟩:=g3.shape
    simp [apA]
    exact ⟨(_,X3),rfl,L3,pX.trans p3,g3,n3,fun j hj=>Nat.le_trans pX.length_le (k3 j hj)⟩
  · intro i v X hi hX
    have hlen:=Zp2 xs i
    have hle:i * xs.length≤256 * 4000:=Nat.mul_le_mul (by omega) hn
    obtain ⟨v',X',hX',e⟩:=Zlz M a c xs h hr (by omega) i hi (Zvn i xs) (by omega) v X hX
    simp only [Int.natCast_zero,Int.ofNat_zero] at e
    have e6:IntKind.i64.wrap ((i:Int)+1)=i+1:=Zd (by omega) (by omega)
    have hi2:(i:Int)≤255:=by omega
    rw [ZqS]
    refine ⟨v',X',hX',?_⟩
    rw [ZgP]; unfold ZbB; simp [apA,hi2,e]
    rw [ZdZ]; unfold J5; simp [apA,e6]
    try rfl
theorem ZxO {a:Nat} {Ls:List (List Nat)} {k:Nat} {K:List Nat} (hn:(a :: Ls.flatten).Nodup) (hK:Ls[k]?=some K):a ∉ K:=fun hm=>(List.nodup_cons.1 hn).1 (List.mem_flatten.2 ⟨K,List.mem_of_getElem? hK,hm⟩)
theorem ZEr {M:Mem} {v:V} {xs:List Za.D} {L:List Nat} (h:Gr (.sl Za) M [v] xs L) (hn:L.Nodup):∃ zs:List (List V × Za.D),zs.map (·.2)=xs∧(∀ z ∈ zs,∃ K,Gr Za M z.1 z.2 K∧∀ j ∈ K,j ∈ L∧j ∉ wfs v)∧Zdg 0 3 M v zs.length (Zl zs)∧∀ j ∈ wfs v,j ∈ L:=by
  rcases h with ⟨e,rfl,_⟩ | ⟨l,css,Ls,e,hb,h1,h2,h3,rfl⟩
  · cases e
    exact ⟨[],rfl,by simp,⟨rfl,.inl ⟨rfl,rfl⟩⟩,by simp [wfs]⟩
  · cases e
    have hzl:(css.zip xs).length=xs.length:=by rw [List.length_zip]; omega
    have hm:((css.zip xs).map (·.1))=css:=List.map_fst_zip (by omega)
    have hcl:∀ c ∈ css,c.length=3:=fun c hc=>by
      obtain ⟨k,hk,rfl⟩:=List.getElem_of_mem hc
      exact (h3 k _ (xs[k]'(by omega)) (Ls[k]'(by omega)) (by simp) (by simp) (by simp)).len
    refine ⟨css.zip xs,List.map_snd_zip (by omega),?_,⟨by unfold Zl; rw [hm,YP hcl,hzl,h1],.inr ⟨l,Nat.zero_le _,by rw [hzl],by unfold Zl; rw [hm]; exact hb⟩⟩,by simp [wfs]⟩
    intro z hz
    obtain ⟨i,hi,rfl⟩:=List.getElem_of_mem hz
    rw [List.length_zip] at hi
    rw [List.getElem_zip]
    have hK:Ls[i]?=some (Ls[i]'(by omega)):=List.getElem?_eq_getElem (by omega)
    refine ⟨_,h3 i _ _ _ (List.getElem?_eq_getElem (by omega)) (List.getElem?_eq_getElem (by omega)) hK,fun j hj=>⟨List.mem_cons_of_mem _ (List.mem_flatten.2 ⟨_,List.mem_of_getElem? hK,hj⟩),fun hw=>?_⟩⟩
    have:j=l:=by simpa [wfs] using hw
    subst this
    exact ZxO hn hK hj
theorem Zq2 (id:Int) (xs:List Za.D):ZP id (ZP id xs)=ZP id xs:=by
  unfold ZP
  rw [List.filter_filter]
  congr 1
  funext b
  simp
theorem ZpO {b:Za.D} {xs:List Za.D} (hs:ZhP xs):ZhP (Zj7 b xs):=by
  have e:Zj7 b xs=Zj7 b (ZP b.1 xs):=by
    unfold Zj7
    rw [Zq2]
  rw [e]
  refine Zqe ?_ ?_
  · unfold ZP
    exact hs.sublist List.filter_sublist
  · unfold ZaP ZP
    rw [List.any_eq_false]
    intro c hc
    have:=(List.mem_filter.1 hc).2
    simpa using this
theorem Zqa:∀ (bs all:List Za.D),ZhP all→Zgv all→Zgv bs→ZhP (Zpx all bs)∧Zgv (Zpx all bs)
  | [],all,h1,h2,_=>⟨h1,h2⟩
  | b :: bs,all,h1,h2,h3=>Zqa bs (Zj7 b all) (ZpO h1) (Zj0 h2 (h3 b (by simp))) (fun x hx=>h3 x (List.mem_cons_of_mem _ hx))
theorem ZiA {m a i:Nat} (ha:a < 2 ^ m) (hi:i≤m):1≤(2 ^ m+a) / 2 ^ (m - i)∧(2 ^ m+a) / 2 ^ (m - i) < 2 * 2 ^ m:=by
  have h1:2 ^ (m - i)≤2 ^ m:=Nat.pow_le_pow_right (by omega) (by omega)
  refine ⟨(Nat.le_div_iff_mul_le (Nat.two_pow_pos _)).2 (by omega),?_⟩
  have:=Nat.div_le_self (2 ^ m+a) (2 ^ (m - i))
  omega
theorem Zox (sz:Int) (N m:Nat) (log:List Zf.D) (i:Nat):(lgR sz N m log i).length=log.length+i:=by
  induction i with
  | zero=>rfl
  | succ i ih=>simp only [lgR,List.length_append,ih,List.length_cons,List.length_nil]; omega
theorem ZlI (m leaf lv:Nat):∀ (xs:List Za.D) (s:List ZB.D × List Za.D × Nat),s.2.2≤4→∃ ys:List Za.D,List.Sublist ys xs∧(xs.foldl (Zfd m leaf lv) s).1=s.1++ys.map (fun b=>(((lv:Int),b.1):ZB.D))∧ys.length+s.2.2≤4
  | [],s,h=>⟨[],List.Sublist.refl _,by simp,by simpa using h⟩
  | b :: xs,s,h=>by
    rw [List.foldl_cons]
    by_cases hc:ZaP b.1 s.2.1=true∧s.2.2 < 4∧lv≤mtN m leaf b
    · have e:Zfd m leaf lv s b=(s.1++[((lv:Int),b.1)],ZP b.1 s.2.1,s.2.2+1):=by unfold Zfd; rw [if_pos hc]
      rw [e]
      obtain ⟨ys,h1,h2,h3⟩:=ZlI m leaf lv xs (s.1++[((lv:Int),b.1)],ZP b.1 s.2.1,s.2.2+1) (by simp only; omega)
      refine ⟨b :: ys,h1.cons_cons b,?_,?_⟩
      · rw [h2]
        simp
      · simp only [List.length_cons] at h3 ⊢
        omega
    · have e:Zfd m leaf lv s b=s:=by unfold Zfd; rw [if_neg hc]
      rw [e]
      obtain ⟨ys,h1,h2,h3⟩:=ZlI m leaf lv xs s h
      exact ⟨ys,h1.cons b,h2,h3⟩
theorem Zp1 (m leaf:Nat) (xs:List Za.D):∀ (k:Nat),(ZS m leaf xs k).1.length≤4 * k∧∀ q ∈ (ZS m leaf xs k).1,ZaP q.2 xs=true
  | 0=>by simp [ZS]
  | k+1=>by
    obtain ⟨h1,h2⟩:=Zp1 m leaf xs k
    rw [Zb0]
    unfold ZmC
    obtain ⟨zs,g1,g2,g3⟩:=ZlI m leaf (m - k) xs ((ZS m leaf xs k).1,(ZS m leaf xs k).2,0) (by simp)
    simp only at g2 g3 ⊢
    rw [g2]
    refine ⟨?_,fun q hq=>?_⟩
    · rw [List.length_append,List.length_map]
      omega
    · rcases List.mem_append.1 hq with hq | hq
      · exact h2 q hq
      · obtain ⟨b,hb,rfl⟩:=List.mem_map.1 hq
        exact List.any_eq_true.2 ⟨b,g1.subset hb,decide_eq_true rfl⟩
theorem ZtL (m leaf:Nat) (xs:List Za.D):∀ (k:Nat),k≤m+1→∀ (j:Nat),j≤m→∃ ys:List Za.D,List.Sublist ys xs∧ys.length≤4∧(ZS m leaf xs k).1.filter (fun q=>decide (q.1=(j:Int)))=ys.map (fun b=>(((j:Int),b.1):ZB.D))∧(j < m+1 - k→ys=[])
  | 0,_,j,hj=>⟨[],List.nil_sublist _,by simp,by simp [ZS],fun _=>rfl⟩
  | k+1,hk,j,hj=>by
    obtain ⟨ys,h1,h2,h3,h4⟩:=ZtL m leaf xs k (by omega) j hj
    rw [Zb0]
    unfold ZmC
    obtain ⟨zs,g1,g2,g3⟩:=ZlI m leaf (m - k) xs ((ZS m leaf xs k).1,(ZS m leaf xs k).2,0) (by simp)
    simp only at g2 g3 ⊢
    rw [g2,List.filter_append,h3]
    by_cases e:j=m - k
    · have e0:=h4 (by omega)
      subst e0
      refine ⟨zs,g1,by omega,?_,fun h=>by omega⟩
      rw [List.map_nil,List.nil_append,List.filter_eq_self.2]
      · rw [e]
      · intro q hq
        obtain ⟨b,_,rfl⟩:=List.mem_map.1 hq
        simp [e]
    · refine ⟨ys,h1,h2,?_,fun h=>h4 (by omega)⟩
      have:(zs.map fun b=>((((m - k:Nat):Int),b.1):ZB.D)).filter (fun q=>decide (q.1=(j:Int)))=[]:=by
        rw [List.filter_eq_nil_iff]
        intro q hq
        obtain ⟨b,_,rfl⟩:=List.mem_map.1 hq
        have:¬ (((m - k:Nat):Int)=(j:Int)):=by omega
        simpa using this
      rw [this,List.append_nil]
theorem Zrf:∀ {xs:List Za.D},ZhP xs→∀ b ∈ xs,ZyF b.1 xs=b
  | [],_,b,hb=>by cases hb
  | c :: xs,h,b,hb=>by
    unfold ZyF
    rw [List.find?_cons]
    rcases List.mem_cons.1 hb with rfl | hb
    · simp
    · have hlt:=(List.pairwise_cons.1 h).1 b hb
      have hne:¬ c.1=b.1:=fun e=>by
        rw [e] at hlt
        exact Int.lt_irrefl _ hlt
      rw [decide_eq_false hne]
      exact Zrf (List.pairwise_cons.1 h).2 b hb
theorem Zr8 {m leaf:Nat} {xs:List Za.D} (h:ZhP xs) {j:Nat} (hj:j≤m):List.Sublist (Zgp xs (j:Int) (ZS m leaf xs (m+1)).1) xs∧(Zgp xs (j:Int) (ZS m leaf xs (m+1)).1).length≤4:=by
  obtain ⟨ys,h1,h2,h3,_⟩:=ZtL m leaf xs (m+1) (Nat.le_refl _) j hj
  have e:Zgp xs (j:Int) (ZS m leaf xs (m+1)).1=ys:=by
    unfold Zgp
    rw [h3,List.map_map]
    have:∀ b ∈ ys,((fun q:ZB.D=>ZyF q.2 xs) ∘ fun b:Za.D=>(((j:Int),b.1):ZB.D)) b=b:=fun b hb=>Zrf h b (h1.subset hb)
    rw [List.map_congr_left this]
    simp
  rw [e]
  exact ⟨h1,h2⟩
theorem Zoy {l w:Int} {xs:List Za.D} (h1:lgB l=true) (h2:wdB w=true) (hb:∀ b ∈ xs,ZbS l w b=true) (hlt:ZhP xs):Z4 l w xs=true:=by
  unfold Z4
  rw [h1,h2]
  simp only [Bool.and_self,Bool.true_and]
  refine ZqE fun i hi=>?_
  unfold Zl3
  rw [List.getElem?_eq_getElem hi]
  simp only
  rw [hb _ (List.getElem_mem hi),Bool.true_and,Bool.or_eq_true]
  by_cases h0:i=0
  · left; simp [h0]
  · right
    rw [List.getElem?_eq_getElem (by omega)]
    exact decide_eq_true (List.pairwise_iff_getElem.1 hlt (i - 1) i (by omega) hi (by omega))
theorem Zw1 {m w:Nat} {cells:List Zi.D} (hok:∀ c ∈ cells,ZfD m w c=true) {nd:Nat} (h1:1≤nd) (h2:nd≤cells.length):Z4 m w (ZqF w cells nd)=true∧(ZqF w cells nd).length≤4:=by
  unfold ZqF
  have hi:nd - 1 < cells.length:=by omega
  rw [List.getD_eq_getElem?_getD,List.getElem?_eq_getElem hi]
  have:=hok _ (List.getElem_mem hi)
  refine ⟨?_,Zh6 _ _⟩
  unfold ZfD at this
  simp only [Bool.and_eq_true] at this
  exact this.2.2.1
theorem ZyO {b x:Za.D} {xs:List Za.D} (h:x ∈ Zj7 b xs):x=b∨x ∈ xs:=by
  unfold Zj7 at h
  rcases ZtD h with h | h
  · exact .inl h
  · exact .inr (List.mem_filter.1 h).1
theorem ZB4 (b:Za.D) (xs:List Za.D):(Zj7 b xs).length≤xs.length+1:=by
  rw [Zti]
  unfold ZP
  exact Nat.succ_le_succ (List.length_filter_le _ _)
theorem Ztm:∀ (bs all:List Za.D),(∀ x ∈ Zpx all bs,x ∈ all∨x ∈ bs)∧(Zpx all bs).length≤all.length+bs.length
  | [],all=>⟨fun x hx=>.inl hx,by simp [Zpx]⟩
  | b :: bs,all=>by
    obtain ⟨h1,h2⟩:=Ztm bs (Zj7 b all)
    have e:Zpx all (b :: bs)=Zpx (Zj7 b all) bs:=rfl
    rw [e]
    refine ⟨fun x hx=>?_,?_⟩
    · rcases h1 x hx with h | h
      · rcases ZyO h with rfl | h
        · exact .inr (by simp)
        · exact .inl h
      · exact .inr (List.mem_cons_of_mem _ h)
    · have:=ZB4 b all
      simp only [List.length_cons]
      omega
theorem ZtH {m a w:Nat} {cells:List Zi.D} {st:List Za.D} (ha:a < 2 ^ m) (hlen:cells.length+1=2 * 2 ^ m) (hok:∀ c ∈ cells,ZfD m w c=true) (hst:Z4 m w st=true):∀ i,i≤m+1→(∀ b ∈ Zl4 w cells (2 ^ m+a) m st i,ZbS m w b=true)∧(Zl4 w cells (2 ^ m+a) m st i).length≤st.length+4 * i
  | 0,_=>⟨Zhx hst,by simp [Zl4]⟩
  | i+1,hi=>by
    obtain ⟨h1,h2⟩:=ZtH ha hlen hok hst i (by omega)
    obtain ⟨b1,b2⟩:=ZiA (m:=m) (a:=a) (i:=i) ha (by omega)
    obtain ⟨n1,n2⟩:=Zw1 hok b1 (by omega)
    obtain ⟨g1,g2⟩:=Ztm (ZqF w cells ((2 ^ m+a) / 2 ^ (m - i))) (Zl4 w cells (2 ^ m+a) m st i)
    refine ⟨fun b hb=>?_,?_⟩
    · rcases g1 b hb with h | h
      · exact h1 b h
      · exact Zhx n1 b h
    · simp only [Zl4]
      omega
def ZpZ (w:Int) (cells:List Zi.D) (N m:Nat) (st:List Za.D):Nat→List Za.D
  | 0=>st
  | i+1=>ZpZ w cells N m st i++ZqF w cells (N / 2 ^ (m - i))
theorem ZvR (w:Int) (cells:List Zi.D) (N m:Nat) (st:List Za.D) (i:Nat):(ZpZ w cells N m st i).length≤st.length+4 * i:=by
  induction i with
  | zero=>simp [ZpZ]
  | succ i ih =>
    have h:=Zh6 (Int.toNat w) (cells.getD (N / 2 ^ (m - i) - 1) [])
    have h2:(ZqF w cells (N / 2 ^ (m - i))).length≤4:=h
    simp only [ZpZ,List.length_append]
    omega
theorem ZFP {a xs:List Za.D} (h1:ZhP a) (h2:Zgv a) (h:∀ k,flI k a=flI k xs):Zvn 256 xs=a:=by
  have e:Zvn 256 xs=Zvn 256 a:=by
    unfold Zvn
    congr 1
    funext k
    rw [h k]
  rw [e]
  have key:∀ (n k:Nat) (a:List Za.D),ZhP a→(∀ x ∈ a,(k:Int)≤x.1∧x.1 < ((k+n:Nat):Int))→(List.range' k n).flatMap (fun k=>flI k a)=a:=by
    intro n
    induction n with
    | zero =>
      intro k a _ h
      cases a with
      | nil=>rfl
      | cons x xs =>
        have:=h x (by simp)
        exfalso
        have h3:(k:Int) < ((k+0:Nat):Int):=Int.lt_of_le_of_lt this.1 this.2
        omega
    | succ n ih =>
      intro k a h1 h2
      rw [List.range'_succ,List.flatMap_cons]
      cases a with
      | nil=>simp [flI]
      | cons x xs =>
        have hx:=h2 x (by simp)
        have hp:=List.pairwise_cons.1 h1
        have hnn:∀ y ∈ x :: xs,y.1=((Int.toNat y.1:Nat):Int)∧k≤Int.toNat y.1:=fun y hy=>by
          have hy:=(h2 y hy).1
          generalize y.1=z at *
          exact (show ∀ z:Int,(k:Int)≤z→z=((Int.toNat z:Nat):Int)∧k≤Int.toNat z from fun z hz=>by omega) z hy
        by_cases hk:Int.toNat x.1=k
        · have hxk:=(hnn x (by simp)).1
          rw [hk] at hxk
          have hgt:∀ y ∈ xs,k < Int.toNat y.1:=fun y hy=>by
            have h3:=hp.1 y hy
            have h4:=hnn y (by simp [hy])
            rw [hxk,h4.1] at h3
            exact (show ∀ a b:Nat,(a:Int) < (b:Int)→a < b from fun a b h=>by omega) _ _ h3
          have e1:flI k (x :: xs)=[x]:=by
            rw [show x :: xs=[x]++xs from rfl,JG,ZnI,if_pos hk]
            have:flI k xs=[]:=by
              unfold flI
              rw [List.filter_eq_nil_iff]
              intro y hy hd
              have:=hgt y hy
              have:=of_decide_eq_true hd
              omega
            rw [this]
            rfl
          have e2:(List.range' (k+1) n).flatMap (fun j=>flI j (x :: xs))=(List.range' (k+1) n).flatMap (fun j=>flI j xs):=by
            rw [List.flatMap_def,List.flatMap_def]
            congr 1
            refine List.map_congr_left fun j hj=>?_
            have hj:=(List.mem_range'_1.1 hj).1
            rw [show x :: xs=[x]++xs from rfl,JG,ZnI,if_neg (by omega)]
            rfl
          rw [e1,e2,ih (k+1) xs hp.2 fun y hy=>?_]
          · rfl
          · have h3:=hgt y hy
            have h4:=(hnn y (by simp [hy])).1
            have h5:=(h2 y (by simp [hy])).2
            refine ⟨?_,?_⟩
            · rw [h4]
              exact Int.ofNat_le.2 h3
            · rw [show k+1+n=k+(n+1) by omega]
              exact h5
        · have hxk:=(hnn x (by simp)).2
          have hgt:∀ y ∈ x :: xs,k < Int.toNat y.1:=fun y hy=>by
            rcases List.mem_cons.1 hy with rfl | hy'
            · omega
            · have h3:=hp.1 y hy'
              have h4:=(hnn y hy).1
              rw [h4,(hnn x (by simp)).1] at h3
              have h5:Int.toNat x.1 < Int.toNat y.1:=(show ∀ a b:Nat,(a:Int) < (b:Int)→a < b from fun a b h=>by omega) _ _ h3
              omega
          have e1:flI k (x :: xs)=[]:=by
            unfold flI
            rw [List.filter_eq_nil_iff]
            intro y hy hd
            have:=hgt y hy
            have:=of_decide_eq_true hd
            omega
          rw [e1,List.nil_append]
          refine ih (k+1) (x :: xs) h1 fun y hy=>?_
          have h3:=hgt y hy
          have h4:=(hnn y hy).1
          have h5:=(h2 y hy).2
          refine ⟨?_,?_⟩
          · rw [h4]
            exact Int.ofNat_le.2 h3
          · rw [show k+1+n=k+(n+1) by omega]
            exact h5
  have hr:=key 256 0 a h1 fun x hx=>by
    have:=h2 x hx
    refine ⟨this.1,Int.lt_of_le_of_lt this.2 (by decide)⟩
  rw [← List.range_eq_range'] at hr
  exact hr
theorem ZBi:∀ (bs all:List Za.D),ZhP all→Zgv all→Zgv bs→(∀ k,(flI k (all++bs)).length≤1)→∀ k,flI k (Zpx all bs)=flI k (all++bs)
  | [],all,_,_,_,_,k=>by simp [Zpx]
  | b :: bs,all,h1,h2,h3,h4,k=>by
    have hb:=h3 b (by simp)
    have hn:ZaP b.1 all=false:=by
      cases hh:ZaP b.1 all with
      | false=>rfl
      | true =>
        exfalso
        obtain ⟨c,hc,hc2⟩:=List.any_eq_true.1 hh
        have hc2:=of_decide_eq_true hc2
        have:=h4 (Int.toNat b.1)
        rw [JG,List.length_append] at this
        have p1:0 < (flI (Int.toNat b.1) all).length:=List.length_pos_iff.2 (List.ne_nil_of_mem (List.mem_filter.2 ⟨hc,by rw [hc2]; simp⟩))
        have p2:0 < (flI (Int.toNat b.1) (b :: bs)).length:=List.length_pos_iff.2 (List.ne_nil_of_mem (List.mem_filter.2 ⟨List.mem_cons_self ..,by simp⟩))
        omega
    have hput:=ZsO hb h2 hn
    have e:Zpx all (b :: bs)=Zpx (Zj7 b all) bs:=rfl
    have hk:∀ k,flI k (Zj7 b all++bs)=flI k (all++b :: bs):=fun k=>by
      rw [JG,hput k,← JG,List.append_assoc]
      rfl
    rw [e,ZBi bs (Zj7 b all) (ZpO h1) (Zj0 h2 hb) (fun x hx=>h3 x (List.mem_cons_of_mem _ hx)) (fun k=>by rw [hk k]; exact h4 k),hk k]
theorem ZE2 {m a i:Nat} (ha:a < 2 ^ m) (hi:i < m):(2 ^ m+a) / 2 ^ (m - i) < (2 ^ m+a) / 2 ^ (m - (i+1)):=by
  have h1:=(ZiA (m:=m) (a:=a) (i:=i) ha (by omega)).1
  have e:m - i=(m - (i+1))+1:=by omega
  rw [e,Nat.pow_succ,← Nat.div_div_eq_div_mul] at h1 ⊢
  omega
theorem ZsS (w:Int) (cells:List Zi.D) (q:Nat) (h:q < cells.length) (hq:q < (Zd9 w cells).length):ZqF w cells (q+1)=(Zd9 w cells)[q]'hq:=by
  have e:(Zd9 w cells)[q]'hq=ndB (Int.toNat w) cells[q]:=by simp [Zd9]
  rw [e]
  unfold ZqF
  rw [Nat.add_sub_cancel,List.getD_eq_getElem?_getD,List.getElem?_eq_getElem h]
  rfl
theorem Zxb {m a:Nat} {w:Int} {cells:List Zi.D} {st:List Za.D} (ha:a < 2 ^ m) (hlen:cells.length+1=2 * 2 ^ m):∀ i,i≤m→∃ xs:List Za.D,ZpZ w cells (2 ^ m+a) m st (i+1)=st++xs∧List.Sublist xs ((Zd9 w cells).take ((2 ^ m+a) / 2 ^ (m - i))).flatten
  | 0,_=>by
    refine ⟨ZqF w cells ((2 ^ m+a) / 2 ^ (m - 0)),by simp [ZpZ],?_⟩
    obtain ⟨b1,b2⟩:=ZiA (m:=m) (a:=a) (i:=0) ha (by omega)
    generalize (2 ^ m+a) / 2 ^ (m - 0)=N at *
    obtain ⟨q,rfl⟩:∃ q,N=q+1:=⟨N - 1,by omega⟩
    have hq:q < (Zd9 w cells).length:=by unfold Zd9; rw [List.length_map]; omega
    have hn:=ZsS w cells q (by omega) hq
    rw [List.take_succ_eq_append_getElem hq,List.flatten_append,hn]
    simp only [List.flatten_cons,List.flatten_nil,List.append_nil]
    exact List.sublist_append_right _ _
  | i+1,hi=>by
    obtain ⟨xs,h1,h2⟩:=Zxb ha hlen i (by omega)
    obtain ⟨b1,b2⟩:=ZiA (m:=m) (a:=a) (i:=i+1) ha hi
    have hlt:=ZE2 (m:=m) (a:=a) (i:=i) ha (by omega)
    refine ⟨xs++ZqF w cells ((2 ^ m+a) / 2 ^ (m - (i+1))),?_,?_⟩
    · show ZpZ w cells (2 ^ m+a) m st (i+1)++_=_
      rw [h1,List.append_assoc]
    · generalize (2 ^ m+a) / 2 ^ (m - (i+1))=N at *
      generalize (2 ^ m+a) / 2 ^ (m - i)=N0 at *
      obtain ⟨q,rfl⟩:∃ q,N=q+1:=⟨N - 1,by omega⟩
      have hq:q < (Zd9 w cells).length:=by unfold Zd9; rw [List.length_map]; omega
      have hn:=ZsS w cells q (by omega) hq
      rw [List.take_succ_eq_append_getElem hq,List.flatten_append,hn]
      simp only [List.flatten_cons,List.flatten_nil,List.append_nil]
      refine List.Sublist.append (h2.trans ?_) (List.Sublist.refl _)
      have hpre:(Zd9 w cells).take N0 <+: (Zd9 w cells).take q:=List.take_prefix_take_left (by omega)
      obtain ⟨R,hR⟩:=hpre
      rw [← hR,List.flatten_append]
      exact List.sublist_append_left _ _
theorem Zve {m a:Nat} {w:Int} {cells:List Zi.D} {st r:List Za.D} (ha:a < 2 ^ m) (hlen:cells.length+1=2 * 2 ^ m) (hok:∀ c ∈ cells,ZfD m w c=true) (hst:ZhP st∧Zgv st) (hr:ZhP r∧Zgv r) (h5:∀ j,flI j r=flI j (st++(Zd9 w cells).flatten)) :
    Zvn 256 (ZpZ w cells (2 ^ m+a) m st (m+1))=Zl4 w cells (2 ^ m+a) m st (m+1)∧Zgv (ZpZ w cells (2 ^ m+a) m st (m+1)):=by
  have hnd:∀ i,i≤m→Zgv (ZqF w cells ((2 ^ m+a) / 2 ^ (m - i))):=fun i hi=>by
    obtain ⟨b1,b2⟩:=ZiA (m:=m) (a:=a) (i:=i) ha hi
    unfold ZqF
    have hq:(2 ^ m+a) / 2 ^ (m - i) - 1 < cells.length:=by omega
    rw [List.getD_eq_getElem?_getD,List.getElem?_eq_getElem hq]
    exact Zqc (hok _ (List.getElem_mem hq))
  have hone:∀ i,i≤m+1→∀ k,(flI k (ZpZ w cells (2 ^ m+a) m st i)).length≤1:=fun i hi k=>by
    have h1:=ZBu hr.1 hr.2 k
    rw [Zjt,h5 k] at h1
    have hs:List.Sublist (ZpZ w cells (2 ^ m+a) m st i) (st++(Zd9 w cells).flatten):=by
      cases i with
      | zero=>exact List.sublist_append_left _ _
      | succ i =>
        obtain ⟨xs,e1,e2⟩:=Zxb (w:=w) (st:=st) ha hlen i (by omega)
        rw [e1]
        refine List.Sublist.append (List.Sublist.refl _) (e2.trans ?_)
        have:=List.take_append_drop ((2 ^ m+a) / 2 ^ (m - i)) (Zd9 w cells)
        rw [← this,List.flatten_append]
        simp only [List.take_append_drop]
        exact List.sublist_append_left _ _
    exact Nat.le_trans (hs.filter _).length_le h1
  have key:∀ i,i≤m+1→ZhP (Zl4 w cells (2 ^ m+a) m st i)∧Zgv (Zl4 w cells (2 ^ m+a) m st i)∧Zgv (ZpZ w cells (2 ^ m+a) m st i)∧∀ k,flI k (Zl4 w cells (2 ^ m+a) m st i)=flI k (ZpZ w cells (2 ^ m+a) m st i):=fun i=>by
    induction i with
    | zero=>exact fun _=>⟨hst.1,hst.2,hst.2,fun _=>rfl⟩
    | succ i ih =>
      intro hi
      obtain ⟨g1,g2,g3,g4⟩:=ih (by omega)
      have hn:=hnd i (by omega)
      obtain ⟨a1,a2⟩:=Zqa (ZqF w cells ((2 ^ m+a) / 2 ^ (m - i))) _ g1 g2 hn
      have hf:∀ k,flI k (Zl4 w cells (2 ^ m+a) m st i++ZqF w cells ((2 ^ m+a) / 2 ^ (m - i)))=flI k (ZpZ w cells (2 ^ m+a) m st (i+1)):=fun k=>by
        show _=flI k (ZpZ w cells (2 ^ m+a) m st i++_)
        rw [JG,g4 k,← JG]
      refine ⟨a1,a2,fun x hx=>?_,fun k=>?_⟩
      · rcases List.mem_append.1 (show x ∈ ZpZ w cells (2 ^ m+a) m st i++_ from hx) with h | h
        · exact g3 x h
        · exact hn x h
      · show flI k (Zpx _ _)=_
        rw [ZBi _ _ g1 g2 hn (fun k=>by rw [hf k]; exact hone (i+1) hi k) k,hf k]
  obtain ⟨k1,k2,k3,k4⟩:=key (m+1) (Nat.le_refl _)
  exact ⟨ZFP k1 k2 k4,k3⟩
structure AlI (M Z:Mem) (D:List Nat) (ys:List Za.D) (v:V) (X:Mem):Prop where
  pre:M <+: X
  ag:JQ Z X D
  wf:∀ b ∈ wfs v,b ∈ D∨Z.length≤b
  ge:∀ b ∈ wfs v,M.length≤b
  zs:∃ zs:List (List V × Za.D),zs.map (·.2)=ys∧(∀ z ∈ zs,∃ K,Gr Za Z z.1 z.2 K∧∀ j ∈ K,j ∉ D)∧Zdg 0 3 X v zs.length (Zl zs)
structure MbI (M Z:Mem) (D:List Nat) (q:Nat) (sz:Int) (uC:V) (cells:List Zi.D) (log:List Zf.D) (v:V) (X:Mem):Prop where
  ex:∃ uT L0 L1,X[q]?=some ⟨[.int .i64 sz,uC,uT],1,2⟩∧Gr (.sl Zi) X [uC] cells L0∧Gr (.sl Zf) X [uT] log L1∧(L0++L1).Nodup∧q ∉ L0++L1∧(∀ j ∈ q :: (L0++L1),(j ∈ D∨Z.length≤j)∧M.length≤j)∧∀ b ∈ wfs v,b ∉ q :: (L0++L1)
def WlI (M Z:Mem) (D:List Nat) (q:Nat) (sz:Int) (uC:V) (cells:List Zi.D) (log:List Zf.D) (ys:List Za.D) (v:V) (X:Mem):Prop:=AlI M Z D ys v X∧MbI M Z D q sz uC cells log v X
abbrev FsW (v1 v2 v3 v4 v5:V) (po pz lP n:Nat) (aN:Option Addr) (nN cN:Nat) (q:Nat) (v:V) (i:Nat):List V:=[O,v1,v2,v3,v4,v5,.pointer (some ⟨po,0,none⟩),O,O,O,O,O,.pointer (some ⟨pz,0,none⟩),O,O,.slice (some ⟨lP,0,none⟩) n n,.slice aN nN cN,O,.pointer (some ⟨q,0,none⟩),v,.int .i64 i,O,O,O,O,O,O,O,O,O,O,O,O,O,O,O,O,O,O,O,O,O,O,O,O,O,O,O,O,O,O,O,O,O,O,O,O,O,O,O,O,O,O,O,O,O,O,O,O,O,O,O,O,O,O,O,O,O,O,O,O,O,O,O,O,O,O,O,O,O,O,O,O,O,O,O,O,O,O,O,O,O,O,O,O,O,O,O,O,O,O,O,O,O,O,O,O,O,O,O,O,O,O,O,O,O,O,O,O,O,O,O,O,O,O,O,O,O,O,O,O,O,O,O,O,O,O,O,O,O,O,O,O,O,O,O,O,O,O,O,O,O,O,O,O,O,O,O,O,O,O,O,O,O,O,O,O,O,O,O,O,O,O,O,O,O,O,O,O,O,O,O,O,O,O,O,O,O,O,O,O,O,O,O,O,O,O,O,O,O,O,O,O,O,O,O,O,O,O,O,O,O,O,O,O,O,O]
theorem ZBT {M:Mem} {v:V} {xs:List Zah.D} {L:List Nat} (h:Gr (.sl Zah) M [v] xs L) (hn:L.Nodup) {i:Nat} (hi:i < xs.length):∃ (l:Nat) (u:V) (K:List Nat),v=.slice (some ⟨l,0,none⟩) xs.length xs.length∧rd1 M l i=some u∧Gr (.sl Za) M [u] xs[i] K∧K.Nodup∧l ∈ L∧∀ j ∈ K,j ∈ L:=by
  rcases h with ⟨_,rfl,_⟩ | ⟨l,css,Ls,e,hb,h1,h2,h3,rfl⟩
  · simp at hi
  · cases e
    have hq:=h3 i (css[i]'(by omega)) xs[i] (Ls[i]'(by omega)) (by simp) (by simp) (by simp)
    have hcl:∀ c ∈ css,c.length=1:=fun c hc=>by
      obtain ⟨k,hk,rfl⟩:=List.getElem_of_mem hc
      exact (h3 k _ (xs[k]'(by omega)) (Ls[k]'(by omega)) (by simp) (by simp) (by simp)).len
    have hfl:=YP hcl
    have hrd:rdn M l (i * 1) 1=some (css[i]'(by omega)):=by
      have:=ZkW (w:=1) css i (by omega) [] hcl
      rw [List.append_nil] at this
      simp only [rdn,hb]
      rw [if_pos (by refine ⟨by simp,by omega⟩),this]
    have hnK:(Ls[i]'(by omega)).Nodup:=(List.pairwise_flatten.1 (List.nodup_cons.1 hn).2).1 _ (List.getElem_mem _)
    have hl:=hq.len
    rw [Nat.mul_one] at hrd
    have hsub:∀ j ∈ Ls[i]'(by omega),j ∈ l :: Ls.flatten:=fun j hj=>List.mem_cons_of_mem _ (List.mem_flatten.2 ⟨_,List.getElem_mem _,hj⟩)
    generalize css[i]'(by omega)=ds at *
    generalize Ls[i]'(by omega)=K at *
    match ds,hl,hrd,hq with
    | [u],_,hrd,hq=>exact ⟨l,u,K,rfl,ZjY hrd,hq,hnK,List.mem_cons_self ..,hsub⟩
theorem ZFy {M:Mem} {zs:List (List V × Za.D)} (h:∀ z ∈ zs,Rep Za M z.1 z.2):(Zl zs).all one=true:=by
  rw [List.all_eq_true]
  intro x hx
  obtain ⟨c,hc,hx⟩:=List.mem_flatten.1 hx
  obtain ⟨z,hz,rfl⟩:=List.mem_map.1 hc
  exact List.all_eq_true.1 (h z hz).one x hx
theorem Znp {Y X X':Mem} {W V':List Nat} (h:JQ Y X W) (h2:JQ X X' V') (hV:∀ j ∈ V',j ∈ W∨Y.length≤j):JQ Y X' W:=⟨Nat.le_trans h.1 h2.1,fun j hj hn=>by
  rw [h2.2 j (Nat.lt_of_lt_of_le hj h.1) (fun hm=>by
    rcases hV j hm with h3 | h3
    · exact hn h3
    · omega)]
  exact h.2 j hj hn⟩
theorem ZnE {X:Mem} {lP N m:Nat} (hb:X[lP]?=some ⟨Ic (ZkO N (m+1)),1,2⟩) {i:Nat} (hi:i≤m):rd1 X lP i=some (.int .i64 ((N / 2 ^ (m - i):Nat):Int)):=by
  unfold rd1
  rw [hb]
  have hl:i < (ZkO N (m+1)).length:=by rw [ZhS]; omega
  have hg:=Znn hl
  have hs:m+1 - 1 - i=m - i:=by omega
  rw [hs] at hg
  unfold Ic
  simp only [List.getElem?_map,List.getElem?_eq_getElem hl,Option.map_some]
  rw [hg]
  simp
def wf3 (x:Zf.D):Prop:=(Lit.int .i64 x.1).wf=true∧(Lit.int .i64 x.2.1).wf=true∧(Lit.int .i64 x.2.2).wf=true
theorem Zir:Zri Zf Z7 wf3:=⟨fun M x h=>⟨[.int .i64 x.1],[.int .i64 x.2.1,.int .i64 x.2.2],[],[],rfl,⟨⟨rfl,h.1⟩,rfl⟩,⟨[.int .i64 x.2.1],[.int .i64 x.2.2],[],[],rfl,⟨⟨rfl,h.2.1⟩,rfl⟩,⟨⟨rfl,h.2.2⟩,rfl⟩,rfl⟩,rfl⟩,fun M cs x h=>by
  obtain ⟨_,_,rfl,⟨rfl,w1⟩,⟨_,_,rfl,⟨rfl,w2⟩,⟨rfl,w3⟩⟩⟩:=h
  exact ⟨rfl,w1,w2,w3⟩⟩
theorem Zyn {X:Mem} {q:Nat} {sz:Int} {uC uT:V} {cells:List Zi.D} {log:List Zf.D} {L0 L1:List Nat} (hb:X[q]?=some ⟨[.int .i64 sz,uC,uT],1,2⟩) (gC:Gr (.sl Zi) X [uC] cells L0) (gT:Gr (.sl Zf) X [uT] log L1) (nd:(L0++L1).Nodup) (hq:q ∉ L0++L1) (iC:one uC=true) {t:Zf.D} (ht:(Lit.int .i64 t.1).wf=true∧(Lit.int .i64 t.2.1).wf=true∧(Lit.int .i64 t.2.2).wf=true) (hl:log.length≤1000000) {X2:Mem} (hp:X <+: X2) {x:Option (V × Mem)} (e:Zdq X2 3 24 uT 1 (Z7 t)=x) :
    ∃ (l:Nat) (X3:Mem),x=some (.slice (some ⟨l,0,none⟩) (log.length+1) (log.length+1),X3)∧JQ X2 X3 (wfs uT)∧(∀ b ∈ wfs uT,b ∈ L1)∧∃ X4 L1',wrn X3 q 2 [.slice (some ⟨l,0,none⟩) (log.length+1) (log.length+1)]=some X4∧X4[q]?=some ⟨[.int .i64 sz,uC,.slice (some ⟨l,0,none⟩) (log.length+1) (log.length+1)],1,2⟩∧Gr (.sl Zi) X4 [uC] cells L0∧Gr (.sl Zf) X4 [.slice (some ⟨l,0,none⟩) (log.length+1) (log.length+1)] (log++[t]) L1'∧(L0++L1').Nodup∧q ∉ L0++L1'∧(∀ j ∈ L1',j ∈ L1∨X.length≤j)∧JQ X X4 (q :: L1):=by
  have ndp:=List.nodup_append.1 nd
  have hqX:=ZI hb
  obtain ⟨l,X3,L',rfl,g3,ag,len2,hw,nd3,sub3,hl3⟩:=gT.app (t:=Zf) e hp (Zir.1 X2 t ht) (by simp) ndp.2.1 (by simp) (by omega) (by omega)
  have hpl:=hp.length_le
  have hqw:q ∉ wfs uT:=fun hm=>hq (List.mem_append_right _ (hw q hm))
  have hb3:=ag.get (Zh hp hb) hqw
  have hqL':q ∉ L':=fun hm=>by
    rcases sub3 q hm with h | h | h
    · exact hq (List.mem_append_right _ h)
    · simp at h
    · omega
  have gC3:=(gC.grow hp).agree ag (fun j hj hm=>ndp.2.2 j hj j (hw j hm) rfl)
  refine ⟨l,X3,rfl,ag,hw,X3.set q ⟨[.int .i64 sz,uC,.slice (some ⟨l,0,none⟩) (log.length+1) (log.length+1)],1,2⟩,L',by rw [ZdU hb3 rfl (by simp) rfl]; rfl,ZbN hb3 _,gC3.set _ (fun h=>hq (List.mem_append_left _ h)),g3.set _ hqL',?_,?_,fun j hj=>?_,?_⟩
  · refine List.nodup_append.2 ⟨ndp.1,nd3,fun a ha b hb e=>?_⟩
    subst e
    rcases sub3 a hb with h | h | h
    · exact ndp.2.2 a ha a h rfl
    · simp at h
    · have:=gC.lt a ha; omega
  · intro hm
    rcases List.mem_append.1 hm with h | h
    · exact hq (List.mem_append_left _ h)
    · exact hqL' h
  · rcases sub3 j hj with h | h | h
    · exact .inl h
    · simp at h
    · right; omega
  · refine ⟨by rw [List.length_set]; omega,fun j hj hn=>?_⟩
    rw [Je (fun e2=>hn (by rw [← e2]; exact List.mem_cons_self ..)),ag.2 j (by omega) (fun hm=>hn (List.mem_cons_of_mem _ (hw j hm)))]
    obtain ⟨R,rfl⟩:=hp
    exact List.getElem?_append_left hj
set_option maxRecDepth 20000 in
set_option maxHeartbeats 4000000 in
theorem ZzT (M Z:Mem) (D:List Nat) (v1 v2 v3 v4 v5:V) (po pz lP m a q:Nat) (w:Int) (sz:Int) (uC:V) (cells:List Zi.D) (hm:m≤6) (ha:a < 2 ^ m) (hlen:cells.length+1=2 * 2 ^ m) (hP:Z[lP]?=some ⟨Ic (ZkO (2 ^ m+a) (m+1)),1,2⟩) (hPD:lP ∉ D) (aN:Option Addr) (cN:Nat) (LN:List Nat) (hN:Gr (.sl Zah) Z [.slice aN (Zd9 w cells).length cN] (Zd9 w cells) LN) (nN:LN.Nodup) (hD:∀ j ∈ LN,j ∉ D) (hwf:(Lit.int .i64 sz).wf=true) (hMZ:M.length≤Z.length)
    (i:Nat) (hi:i < m+1) (ys:List Za.D) (hys:ys.length≤1000) (log:List Zf.D) (hlg:log.length≤900000) (v:V) (X:Mem) (h:WlI M Z D q sz uC cells log ys v X) :
    ∃ v' X',WlI M Z D q sz uC cells (log++[((1:Int),(((2 ^ m+a) / 2 ^ (m - i) - 1:Nat):Int),sz)]) (ys++ZqF w cells ((2 ^ m+a) / 2 ^ (m - i))) v' X'∧lp (Zb T0) YJ Qu (FsW v1 v2 v3 v4 v5 po pz lP (m+1) aN (Zd9 w cells).length cN q v i) X=lp (Zb T0) YJ Qu (FsW v1 v2 v3 v4 v5 po pz lP (m+1) aN (Zd9 w cells).length cN q v' (i+1)) X':=by
  obtain ⟨hX,⟨uT,L0,L1,hb,gC,gT,nd,hqL,hJ,hvq⟩⟩:=h
  have e6:IntKind.i64.wrap ((i:Int)+1)=i+1:=Zd (by omega) (by omega)
  have hPi:=ZnE (hX.ag.get hP hPD) (i:=i) (by omega)
  obtain ⟨b1,b2⟩:=ZiA (m:=m) (a:=a) (i:=i) ha (by omega)
  have hp6:2 ^ m≤2 ^ 6:=Nat.pow_le_pow_right (by omega) hm
  generalize hNe:(2 ^ m+a) / 2 ^ (m - i)=N at *
  obtain ⟨k,rfl⟩:∃ k,N=k+1:=⟨N - 1,by omega⟩
  have hkc:k < cells.length:=by omega
  have hkn:k < (Zd9 w cells).length:=by unfold Zd9; rw [List.length_map]; exact hkc
  have hnod:=ZsS w cells k hkc hkn
  rw [hnod,Nat.add_sub_cancel]
  have hbl:List.length (α:=Za.D) (Zd9 w cells)[k]≤4:=by rw [← hnod]; exact Zh6 _ _
  obtain ⟨zs,hzs,hz,hg⟩:=hX.zs
  have hzl:zs.length=ys.length:=by rw [← List.length_map (f:=Prod.snd)]; exact congrArg List.length hzs
  obtain ⟨l,u,K,e,hrd,hgn,hnN,hlL,hK⟩:=ZBT hN nN hkn
  cases e
  obtain ⟨zs2,hzs2,hz2,hg2,hw2⟩:=ZEr hgn hnN
  have hru:rd1 X l k=some u:=by
    have hlt:=hN.lt l hlL
    have e2:=hX.ag.2 l hlt (hD l hlL)
    unfold rd1 at hrd ⊢
    rw [e2]
    exact hrd
  have hgX:Zdg 0 3 X u zs2.length (Zl zs2):=hg2.keep fun b hb=>hX.ag.2 b (hg2.lt b hb) (hD b (hK b (hw2 b hb)))
  have hsc:=hgX.cells
  have hl2:zs2.length≤4:=by rw [← List.length_map (f:=Prod.snd),hzs2]; exact hbl
  have hall:(Zl zs2).all one=true:=ZFy (M:=Z) fun z hm=>by
    obtain ⟨K2,q,_⟩:=hz2 z hm
    exact q.rep
  obtain ⟨au,rfl⟩:=hgX.shape
  have e7:IntKind.i64.wrap (k:Int)=k:=Zd (by omega) (by omega)
  have iT:(i:Int) < (m:Int)+1:=by omega
  have kT:(k:Int) < ((Zd9 w cells).length:Int):=by omega
  generalize (Zd9 w cells)[k]=bs at *
  generalize (Zd9 w cells).length=nn at *
  rw [ZiN]; unfold Zdb; simp [apA,hi,iT,hPi,e7,hkn,kT,hru,hsc]
  generalize hy:Zdq _ _ _ _ _ _=xhy
  obtain ⟨a2,X3,rfl,g3,ag,hl3,hw3⟩:=ZgG hg hy (List.prefix_refl _) (Nat.zero_le _) hgX.1 hall (by omega) (by omega)
  clear hy
  have hqv:q ∉ wfs v:=fun hm=>hvq q hm (List.mem_cons_self ..)
  have hb3:=ag.get hb hqv
  have ndp:=List.nodup_append.1 nd
  have gC3:=gC.agree ag (fun j hj hm=>hvq j hm (List.mem_cons_of_mem _ (List.mem_append_left _ hj)))
  have gT3:=gT.agree ag (fun j hj hm=>hvq j hm (List.mem_cons_of_mem _ (List.mem_append_right _ hj)))
  have hlPZ:=ZI hP
  have hPX3:=ag.get (hX.ag.get hP hPD) (fun hm=>by
    rcases hX.wf lP hm with h | h
    · exact hPD h
    · omega)
  have hPi3:=ZnE hPX3 (i:=i) (by omega)
  rw [hNe] at hPi3
  obtain ⟨aC,hCs⟩:=gC.shape
  obtain ⟨aT,hTs⟩:=gT.shape
  have r2:rd1 X3 q 2=some uT:=Jw hb3 rfl
  have r0:rd1 X3 q 0=some (.int .i64 sz):=Jw hb3 rfl
  have iuT:one uT=true:=by rw [hTs]; rfl
  simp [apA,r2,r0,hPi3,iT,hi,e7,iuT,zeroCells]
  generalize hy:Zdq _ _ _ _ _ _=xhy
  have hwfT:(Lit.int .i64 ((1:Int),(k:Int),sz).1).wf=true∧(Lit.int .i64 ((1:Int),(k:Int),sz).2.1).wf=true∧(Lit.int .i64 ((1:Int),(k:Int),sz).2.2).wf=true:=⟨ZfT (z:=1) (by omega),ZfT (z:=(k:Int)) (by omega),hwf⟩
  obtain ⟨l5,X5,rfl,ag5,hwT,X6,L1',hwr,hb6,gC6,gT6,nd6,hq6,hL6,ag6⟩:=Zyn (t:=((1:Int),(k:Int),sz)) hb3 gC3 gT3 nd hqL (by rw [hCs]; rfl) hwfT (by omega) (List.prefix_append _ _) hy
  clear hy
  have hL1D:∀ j ∈ q :: (L0++L1),j ∈ D∨Z.length≤j:=fun j hj=>(hJ j hj).1
  have hh:Zfx (wfs uT) [q,lP,q]=false:=Zg7 fun x hx y hy e=>by
    have h1:=hwT x hx
    simp at hy
    subst e
    rcases hy with rfl | rfl | rfl
    rotate_left 2
    · exact hqL (List.mem_append_right _ h1)
    · exact hqL (List.mem_append_right _ h1)
    · rcases hL1D x (List.mem_cons_of_mem _ (List.mem_append_right _ h1)) with h | h
      · exact hPD h
      · omega
  have hqX:=ZI hb
  have hagX:JQ Z X3 D:=⟨Nat.le_trans hX.ag.1 hl3,fun b hb hn=>by
    rw [ag.2 b (by have:=hX.ag.1; omega) (fun hm=>by rcases hX.wf b hm with h | h; exact hn h; omega)]
    exact hX.ag.2 b hb hn⟩
  have hvn:∀ b ∈ wfs (.slice a2 (zs.length+zs2.length) (zs.length+zs2.length)),b ∉ q :: (L0++L1):=fun b hb=>by
    rcases hw3 b hb with h | h
    · exact hvq b h
    · intro hm
      rcases List.mem_cons.1 hm with e | hm
      · omega
      · rcases List.mem_append.1 hm with hm | hm
        · have:=gC.lt b hm; omega
        · have:=gT.lt b hm; omega
  have hbZ:=hX.ag.1
  have hM3:=hX.pre.length_le
  simp [apA,YD,ag5,hh,hwr,e6]
  refine ⟨_,X6,⟨⟨ag6.pre (ag.pre hX.pre hX.ge) (fun b hb=>?_),Znp hagX ag6 (fun b hb=>?_),fun b hb=>?_,fun b hb=>?_,zs++zs2,by rw [List.map_append,hzs,hzs2],fun z hm=>?_,?_⟩,⟨_,L0,L1',hb6,gC6,gT6,nd6,hq6,fun j hj=>?_,fun b hb'=>?_⟩⟩,rfl⟩
  · rcases List.mem_cons.1 hb with rfl | hb
    · exact (hJ _ (List.mem_cons_self ..)).2
    · exact (hJ b (List.mem_cons_of_mem _ (List.mem_append_right _ hb))).2
  · rcases List.mem_cons.1 hb with rfl | hb
    · exact hL1D _ (List.mem_cons_self ..)
    · exact hL1D b (List.mem_cons_of_mem _ (List.mem_append_right _ hb))
  · rcases hw3 b hb with h | h
    · exact hX.wf b h
    · right; omega
  · rcases hw3 b hb with h | h
    · exact hX.ge b h
    · omega
  · rcases List.mem_append.1 hm with hm | hm
    · exact hz z hm
    · obtain ⟨K2,q1,q2⟩:=hz2 z hm
      exact ⟨K2,q1,fun j hj=>hD j (hK j (q2 j hj).1)⟩
  · rw [List.length_append,ZxQ]
    refine g3.keep fun b hb=>ag6.2 b (g3.lt b hb) (fun hm=>hvn b hb ?_)
    rcases List.mem_cons.1 hm with rfl | hm
    · exact List.mem_cons_self ..
    · exact List.mem_cons_of_mem _ (List.mem_append_right _ hm)
  · rcases List.mem_cons.1 hj with rfl | hj
    · exact hJ _ (List.mem_cons_self ..)
    · rcases List.mem_append.1 hj with hj | hj
      · exact hJ j (List.mem_cons_of_mem _ (List.mem_append_left _ hj))
      · rcases hL6 j hj with h | h
        · exact hJ j (List.mem_cons_of_mem _ (List.mem_append_right _ h))
        · exact ⟨.inr (by omega),by omega⟩
  · intro hm
    have hlt:=g3.lt b hb'
    rcases List.mem_cons.1 hm with e | hm
    · exact hvn b hb' (by rw [e]; exact List.mem_cons_self ..)
    · rcases List.mem_append.1 hm with hm | hm
      · exact hvn b hb' (List.mem_cons_of_mem _ (List.mem_append_left _ hm))
      · rcases hL6 b hm with h | h
        · exact hvn b hb' (List.mem_cons_of_mem _ (List.mem_append_right _ h))
        · omega
theorem Zy2 (M Z:Mem) (D:List Nat) (v1 v2 v3 v4 v5:V) (po pz lP m a q:Nat) (w:Int) (sz:Int) (uC:V) (cells:List Zi.D) (hm:m≤6) (ha:a < 2 ^ m) (hlen:cells.length+1=2 * 2 ^ m) (hP:Z[lP]?=some ⟨Ic (ZkO (2 ^ m+a) (m+1)),1,2⟩) (hPD:lP ∉ D) (aN:Option Addr) (cN:Nat) (LN:List Nat) (hN:Gr (.sl Zah) Z [.slice aN (Zd9 w cells).length cN] (Zd9 w cells) LN) (nN:LN.Nodup) (hD:∀ j ∈ LN,j ∉ D) (hwf:(Lit.int .i64 sz).wf=true) (hMZ:M.length≤Z.length)
    (st:List Za.D) (hst:st.length≤128) (log:List Zf.D) (hlg:log.length≤800000) (v:V) (X:Mem) (h:WlI M Z D q sz uC cells log st v X) :
    ∃ v' X',WlI M Z D q sz uC cells (lgR sz (2 ^ m+a) m log (m+1)) (ZpZ w cells (2 ^ m+a) m st (m+1)) v' X'∧lp (Zb T0) YJ Qu (FsW v1 v2 v3 v4 v5 po pz lP (m+1) aN (Zd9 w cells).length cN q v 0) X=lp (Zb T0) YJ Qu (FsW v1 v2 v3 v4 v5 po pz lP (m+1) aN (Zd9 w cells).length cN q v' (m+1)) X' :=
  YT (call:=Zb T0) (K:=YJ) (L:=Qu) (fun i (v:V) X=>WlI M Z D q sz uC cells (lgR sz (2 ^ m+a) m log i) (ZpZ w cells (2 ^ m+a) m st i) v X) (fun i v=>FsW v1 v2 v3 v4 v5 po pz lP (m+1) aN (Zd9 w cells).length cN q v i) (n:=m+1) (fun i v X hi hX=>by
    have h1:=ZvR w cells (2 ^ m+a) m st i
    exact ZzT M Z D v1 v2 v3 v4 v5 po pz lP m a q w sz uC cells hm ha hlen hP hPD aN cN LN hN nN hD hwf hMZ i hi _ (by omega) _ (by rw [Zox]; omega) v X hX) 0 v X (by omega) h
def MqI (Y:Mem) (W:List Nat) (q:Nat) (sz:Int) (uC:V) (cells:List Zi.D) (log:List Zf.D) (X:Mem):Prop:=∃ uT L0 L1,X[q]?=some ⟨[.int .i64 sz,uC,uT],1,2⟩∧Gr (.sl Zi) X [uC] cells L0∧Gr (.sl Zf) X [uT] log L1∧(L0++L1).Nodup∧q ∉ L0++L1∧JQ Y X W∧∀ j ∈ q :: (L0++L1),j ∈ W∨Y.length≤j
theorem ZsD (w:Nat) (sz:Int) (N m:Nat) (xs:List Za.D) (plan:List ZB.D) (cells:List Zi.D) (log:List Zf.D) (k:Nat):(wrS w sz N m xs plan cells log k).1.length=cells.length∧(wrS w sz N m xs plan cells log k).2.length=log.length+k:=by
  induction k with
  | zero=>exact ⟨rfl,rfl⟩
  | succ k ih =>
    obtain ⟨h1,h2⟩:=ih
    refine ⟨?_,?_⟩
    · show ((wrS w sz N m xs plan cells log k).1.set _ _).length=_
      rw [List.length_set,h1]
    · show ((wrS w sz N m xs plan cells log k).2++_).length=_
      rw [List.length_append,h2]
      simp
      omega
abbrev cB (x:Int × Int × Int × Int) (u:V):List V:=[.int .i64 x.1,.int .i64 x.2.1,.int .i64 x.2.2.1,.int .i64 x.2.2.2,u]
abbrev FsN (v1:V) (po pz lP n q:Nat) (aB:Option Addr) (nB cB:Nat) (v21:V) (aP:Option Addr) (nP cP:Nat) (z:Int):List V:=[O,v1,O,O,O,O,.pointer (some ⟨po,0,none⟩),O,O,O,O,O,.pointer (some ⟨pz,0,none⟩),O,O,.slice (some ⟨lP,0,none⟩) n n,O,O,.pointer (some ⟨q,0,none⟩),.slice aB nB cB,O,v21,O,O,O,O,.slice aP nP cP,.int .i64 z,O,O,O,O,O,O,O,O,O,O,O,O,O,O,O,O,O,O,O,O,O,O,O,O,O,O,O,O,O,O,O,O,O,O,O,O,O,O,O,O,O,O,O,O,O,O,O,O,O,O,O,O,O,O,O,O,O,O,O,O,O,O,O,O,O,O,O,O,O,O,O,O,O,O,O,O,O,O,O,O,O,O,O,O,O,O,O,O,O,O,O,O,O,O,O,O,O,O,O,O,O,O,O,O,O,O,O,O,O,O,O,O,O,O,O,O,O,O,O,O,O,O,O,O,O,O,O,O,O,O,O,O,O,O,O,O,O,O,O,O,O,O,O,O,O,O,O,O,O,O,O,O,O,O,O,O,O,O,O,O,O,O,O,O,O,O,O,O,O,O,O,O,O,O,O,O,O,O,O,O,O,O,O,O,O,O,O,O,O,O,O,O,O,O,O,O,O,O,O]
def NdI (B:Mem) (r:Nat) (bs:List Za.D) (X:Mem):Prop:=B <+: X∧B.length≤r∧∃ v L,X[r]?=some ⟨[v],1,2⟩∧Gr (.sl Za) X [v] bs L∧L.Nodup∧(∀ j ∈ L,B.length≤j)∧r ∉ L
abbrev FsP (v1:V) (po pz:Nat) (v15 v18:V) (aB:Option Addr) (nB cB:Nat) (v21:V) (aP:Option Addr) (n cP:Nat) (lv:Int) (r:Nat) (j:Nat):List V:=[O,v1,O,O,O,O,.pointer (some ⟨po,0,none⟩),O,O,O,O,O,.pointer (some ⟨pz,0,none⟩),O,O,v15,O,O,v18,.slice aB nB cB,O,v21,O,O,O,O,.slice aP n cP,.int .i64 lv,.pointer (some ⟨r,0,none⟩),.int .i64 j,O,O,O,O,O,O,O,O,O,O,O,O,O,O,O,O,O,O,O,O,O,O,O,O,O,O,O,O,O,O,O,O,O,O,O,O,O,O,O,O,O,O,O,O,O,O,O,O,O,O,O,O,O,O,O,O,O,O,O,O,O,O,O,O,O,O,O,O,O,O,O,O,O,O,O,O,O,O,O,O,O,O,O,O,O,O,O,O,O,O,O,O,O,O,O,O,O,O,O,O,O,O,O,O,O,O,O,O,O,O,O,O,O,O,O,O,O,O,O,O,O,O,O,O,O,O,O,O,O,O,O,O,O,O,O,O,O,O,O,O,O,O,O,O,O,O,O,O,O,O,O,O,O,O,O,O,O,O,O,O,O,O,O,O,O,O,O,O,O,O,O,O,O,O,O,O,O,O,O,O,O,O,O,O,O,O,O,O,O,O,O,O,O,O,O,O,O]
abbrev ZrX (x:ZB.D):List V:=[.int .i64 x.1,.int .i64 x.2]
theorem ZB2 {M:Mem} {cs:List V} {x:ZB.D} (h:Rep ZB M cs x):cs=ZrX x:=by
  obtain ⟨_,_,rfl,⟨rfl,_⟩,⟨rfl,_⟩⟩:=h
  rfl
theorem ZBD {M:Mem} {a:Option Addr} {n c:Nat} {xs:List ZB.D} (h:Rep (.sl ZB) M [.slice a n c] xs) {i:Nat} (hi:i < xs.length):∃ l o,a=some ⟨l,o,none⟩∧Rep ZB M (ZrX xs[i]) xs[i]∧rdn M l (o+i * 2) 2=some (ZrX xs[i])∧rd1 M l (o+i * 2)=some (.int .i64 xs[i].1)∧rd1 M l (o+i * 2+1)=some (.int .i64 xs[i].2):=by
  obtain ⟨_,l,o,rfl,cs,hrd,hrep⟩:=Zga h hi
  have hcs:=ZB2 hrep
  subst hcs
  have hw:ZB.w=2:=rfl
  rw [hw] at hrd
  exact ⟨l,o,rfl,hrep,hrd,Q6 hrd (k:=0) rfl,Q6 hrd (k:=1) rfl⟩
theorem Zrj (xs:List Za.D) (lv:Int) (plan:List ZB.D) {i:Nat} (hi:i < plan.length):Zgp xs lv (plan.take (i+1))=Zgp xs lv (plan.take i)++(if plan[i].1=lv then [ZyF plan[i].2 xs] else []):=by
  unfold Zgp
  rw [List.take_succ_eq_append_getElem hi,List.filter_append,List.map_append]
  congr 1
  by_cases h:plan[i].1=lv
  · simp [h]
  · simp [h]
theorem Zuy {id:Int} {xs:List Za.D} {i:Nat} (hi:i < xs.length) (h1:∀ j (hj:j < i),(xs[j]'(by omega)).1 ≠ id) (h2:xs[i].1=id):ZyF id xs=xs[i]:=by
  have:xs.find? (fun b=>decide (b.1=id))=some xs[i]:=by
    rw [List.find?_eq_some_iff_getElem]
    exact ⟨decide_eq_true h2,i,hi,rfl,fun j hj=>by simpa using h1 j hj⟩
  unfold ZyF
  rw [this]
  rfl
set_option maxRecDepth 20000 in
set_option maxHeartbeats 4000000 in
theorem ZAf (B:Mem) (v1:V) (po pz:Nat) (v15 v18 v21:V) (aB:Option Addr) (cB:Nat) (xs:List Za.D) (hB:Rep (.sl Za) B [.slice aB xs.length cB] xs) (hn:xs.length≤128) (hz:Zcz xs) (lv:Int) (aP:Option Addr) (cP:Nat) (plan:List ZB.D) (hP:Rep (.sl ZB) B [.slice aP plan.length cP] plan) (hpn:plan.length≤10000) (hid:∀ q ∈ plan,ZaP q.2 xs=true) (r:Nat) (X:Mem) (hX:NdI B r [] X) :
    ∃ X',NdI B r (Zgp xs lv plan) X'∧lp (Zb T0) YK QB (FsP v1 po pz v15 v18 aB xs.length cB v21 aP plan.length cP lv r 0) X=lp (Zb T0) YK QB (FsP v1 po pz v15 v18 aB xs.length cB v21 aP plan.length cP lv r plan.length) X':=by
  obtain ⟨_,X',h',e⟩:=YT (call:=Zb T0) (K:=YK) (L:=QB) (fun i (_:Unit) X=>NdI B r (Zgp xs lv (plan.take i)) X) (fun i (_:Unit)=>FsP v1 po pz v15 v18 aB xs.length cB v21 aP plan.length cP lv r i) (n:=plan.length) (fun i _ X hi hX=>by
    have step:∃ X',NdI B r (Zgp xs lv (plan.take (i+1))) X'∧lp (Zb T0) YK QB (FsP v1 po pz v15 v18 aB xs.length cB v21 aP plan.length cP lv r i) X=lp (Zb T0) YK QB (FsP v1 po pz v15 v18 aB xs.length cB v21 aP plan.length cP lv r (i+1)) X':=by
      obtain ⟨pX,hrB,v,L,hbr,g,nd,hge,hrL⟩:=hX
      have e6:IntKind.i64.wrap ((i:Int)+1)=i+1:=Zd (by omega) (by omega)
      have hidi:=hid _ (List.getElem_mem hi)
      rw [Zrj xs lv plan hi]
      have hfl:(Zgp xs lv (plan.take i)).length≤i:=by
        unfold Zgp
        rw [List.length_map]
        have h1:=List.length_filter_le (fun q:ZB.D=>decide (q.1=lv)) (plan.take i)
        rw [List.length_take] at h1
        omega
      generalize Zgp xs lv (plan.take i)=fl at *
      obtain ⟨lP,oP,rfl,_,_,q3,q4⟩:=ZBD hP hi
      have q3X:=Qt pX q3
      have q4X:=Qt pX q4
      generalize plan[i]=q at *
      obtain ⟨p1,p2⟩:=q
      simp only at hidi q3X q4X ⊢
      have iT:(i:Int) < (plan.length:Int):=by omega
      by_cases hq:p1=lv
      · rw [if_pos hq]
        subst hq
        have hF:=ZiQ X _ xs p2 (hB.mono pX) hz hn
        rw [Zfc]; unfold Za7; simp [apA,hi,iT,q3X,q4X]
        generalize hx:Zb T0 Qz _ _=xhx
        obtain ⟨_,X1,rfl,hfd⟩:=ZQ hx hF
        clear hx
        rcases hfd with ⟨k,hk,ds,J,f1,f2,e1,px,gd,ndJ,geJ⟩ | ⟨f1,_⟩
        rotate_left
        · exfalso
          obtain ⟨c,hc,hc2⟩:=List.any_eq_true.1 hidi
          exact f1 c hc (of_decide_eq_true hc2)
        simp only at e1 px gd
        subst e1
        rw [Zuy hk f1 f2]
        generalize xs[k]=b at *
        obtain ⟨b1,b2,b3⟩:=b
        obtain ⟨u,hds,_,_,hu⟩:=YE gd.rep
        obtain ⟨ua,uc,rfl⟩:=hu.slen
        subst hds
        simp only at hu gd ⊢
        have pX1:=px.trans (List.prefix_append X1 [(⟨[.int .i64 b1,.int .i64 b2,.slice ua (List.length (α:=UInt8) b3) uc],1,2⟩:Blk)])
        have rr:rd1 (X1++[(⟨[.int .i64 b1,.int .i64 b2,.slice ua (List.length (α:=UInt8) b3) uc],1,2⟩:Blk)]) r 0=some v:=Jw (Zh pX1 hbr) rfl
        have rn:rdn (X1++[(⟨[.int .i64 b1,.int .i64 b2,.slice ua (List.length (α:=UInt8) b3) uc],1,2⟩:Blk)]) X1.length 0 3=some [.int .i64 b1,.int .i64 b2,.slice ua (List.length (α:=UInt8) b3) uc]:=Qf (by simp) rfl
        obtain ⟨av,hav⟩:=g.shape
        have iv:one v=true:=by rw [hav]; rfl
        simp [apA,rr,rn,iv,zeroCells]
        generalize hy:Zdq _ _ _ _ _ _=xhy
        have hrl:=ZI hbr
        have hpxl:=px.length_le
        obtain ⟨l4,X4,L',rfl,g4,ag2,len2,hw4,nd4,sub4,hl4⟩:=g.app (t:=Za) hy (px.trans (List.prefix_append _ _)) (gd.grow (List.prefix_append _ _)) geJ nd ndJ (by omega) (by omega)
        clear hy
        simp only [List.length_append,List.length_cons,List.length_nil] at hl4
        have hrv:r ∉ wfs v:=fun hm=>hrL (hw4 r hm)
        have hr4:=ag2.get (Zh (px.trans (List.prefix_append _ _)) hbr) hrv
        have hrL':r ∉ L':=fun hm=>by
          rcases sub4 r hm with h | h | h
          · exact hrL h
          · have:=geJ r h; omega
          · omega
        have hwr:wrn X4 r 0 [.slice (some ⟨l4,0,none⟩) (fl.length+1) (fl.length+1)]=some (X4.set r ⟨[.slice (some ⟨l4,0,none⟩) (fl.length+1) (fl.length+1)],1,2⟩):=by
          rw [ZdU hr4 rfl (by simp) rfl]
          rfl
        simp [apA,hwr,e6]
        refine ⟨_,⟨QQ hrB (ag2.pre (pX.trans (px.trans (List.prefix_append _ _))) (fun b hb=>hge b (hw4 b hb))),hrB,_,L',ZbN hr4 _,g4.set _ hrL',nd4,fun j hj=>?_,hrL'⟩,rfl⟩
        have hBl:=pX.length_le
        rcases sub4 j hj with h | h | h
        · exact hge j h
        · have:=geJ j h; omega
        · omega
      · rw [if_neg hq,List.append_nil]
        refine ⟨X,⟨pX,hrB,v,L,hbr,g,nd,hge,hrL⟩,?_⟩
        rw [Zfc]; unfold Za7; simp [apA,hi,iT,q3X,hq,e6]
        try rfl
    obtain ⟨X',h1,h2⟩:=step
    exact ⟨(),X',h1,h2⟩) 0 () X (by omega) (by simpa [Zgp] using hX)
  rw [List.take_length] at h'
  exact ⟨X',h',e⟩
theorem ZGt (ys:List UInt8):(ys.map fun b=>[Y0 b]).flatten=ys.map Y0:=by
  induction ys with
  | nil=>rfl
  | cons y ys ih=>simp only [List.map_cons,List.flatten_cons,ih]; rfl
set_option maxRecDepth 20000 in
set_option maxHeartbeats 4000000 in
theorem ZzD (Y:Mem) (W:List Nat) (v1:V) (po pz lP m a q w:Nat) (sz:Int) (uC v21:V) (hm:m≤6) (ha:a < 2 ^ m) (hw2:1≤w∧w≤200) (hP:Y[lP]?=some ⟨Ic (ZkO (2 ^ m+a) (m+1)),1,2⟩) (hW:lP ∉ W) (hwf:(Lit.int .i64 sz).wf=true) (ocs:List V) (hO:Y[po]?=some ⟨ocs,1,2⟩) (hOW:po ∉ W) (hO0:ocs[0]?=some (.int .i64 m)) (hO1:ocs[1]?=some (.int .i64 w))
    (aB:Option Addr) (cB:Nat) (xs:List Za.D) (L:List Nat) (gL:Gr (.sl Za) Y [.slice aB xs.length cB] xs L) (hLW:∀ j ∈ L,j ∉ W) (hxn:xs.length≤128) (hxz:Zcz xs) (aP:Option Addr) (cP:Nat) (plan:List ZB.D) (Lp:List Nat) (gP:Gr (.sl ZB) Y [.slice aP plan.length cP] plan Lp) (hPW:∀ j ∈ Lp,j ∉ W) (hpn:plan.length≤10000) (hid:∀ q ∈ plan,ZaP q.2 xs=true)
    (hbs:∀ j:Nat,j≤m→(Zgp xs (j:Int) plan).length≤4∧Z4 m w (Zgp xs (j:Int) plan)=true) (k:Nat) (hk:k < m+1) (cells:List Zi.D) (log:List Zf.D) (hlen:cells.length+1=2 * 2 ^ m) (hlg:log.length≤900000) (X:Mem) (h:MqI Y W q sz uC cells log X) :
    ∃ X',MqI Y W q sz uC (cells.set ((2 ^ m+a) / 2 ^ k - 1) (ndY w (Zgp xs ((m - k:Nat):Int) plan))) (log++[((2:Int),(((2 ^ m+a) / 2 ^ k - 1:Nat):Int),sz)]) X' ∧
      lp (Zb T0) YH Qy (FsN v1 po pz lP (m+1) q aB xs.length cB v21 aP plan.length cP ((m:Int) - k)) X=lp (Zb T0) YH Qy (FsN v1 po pz lP (m+1) q aB xs.length cB v21 aP plan.length cP ((m:Int) - (k+1:Nat))) X':=by
  obtain ⟨uT,L0,L1,hb,gC,gT,nd,hqL,ag,hV⟩:=h
  obtain ⟨j,hj⟩:∃ j,m - k=j:=⟨_,rfl⟩
  have hkj:m - j=k:=by omega
  have hjm:j≤m:=by omega
  have hPX:=ag.get hP hW
  have hOX:=ag.get hO hOW
  obtain ⟨b1,b2⟩:=ZiA (m:=m) (a:=a) (i:=j) ha hjm
  rw [hkj] at b1 b2
  have hp6:2 ^ m≤2 ^ 6:=Nat.pow_le_pow_right (by omega) hm
  obtain ⟨hb4,hbk⟩:=hbs j hjm
  rw [hj]
  have ez:(m:Int) - k=(j:Int):=by omega
  have ez2:(m:Int) - (k+1:Nat)=(j:Int) - 1:=by omega
  rw [ez,ez2]
  have rL:=(gL.agree ag hLW).rep
  have rP:=(gP.agree ag hPW).rep
  have hX':NdI X X.length [] (X++[(⟨[.slice none 0 0],1,2⟩:Blk)]):=⟨List.prefix_append _ _,Nat.le_refl _,_,[],List.getElem?_concat_length,Gr.nil,List.nodup_nil,by simp,by simp⟩
  obtain ⟨X4,⟨p4,hrB,v4,L4,hbr,g4,nd4,ge4,hr4⟩,e4⟩:=ZAf X v1 po pz (.slice (some ⟨lP,0,none⟩) (m+1) (m+1)) (.pointer (some ⟨q,0,none⟩)) v21 aB cB xs rL hxn hxz (j:Int) aP cP plan rP hpn hid X.length _ hX'
  simp only [FsP,Int.natCast_zero,Int.ofNat_zero] at e4
  have hNO:=ZkV X4 v4 (Zgp xs (j:Int) plan) m w g4.rep (by omega) hw2.2 hw2.1
  rw [if_pos (by rw [hbk,decide_eq_true hb4]; rfl)] at hNO
  have hylen:(ndY w (Zgp xs (j:Int) plan)).length≤1048576:=by
    have hBk:=ZAT hm hbk
    unfold ndY
    rw [List.length_append,List.length_replicate,Ze2 hBk]
    have:(Zgp xs (j:Int) plan).length * (w+3)≤4 * 203:=Nat.mul_le_mul hb4 (by omega)
    omega
  generalize ndY w (Zgp xs (j:Int) plan)=ysB at *
  generalize Zgp xs (j:Int) plan=bs at *
  generalize hNe:(2 ^ m+a) / 2 ^ k=N at *
  obtain ⟨c,rfl⟩:∃ c,N=c+1:=⟨N - 1,by omega⟩
  rw [Nat.add_sub_cancel]
  have hci:c < cells.length:=by omega
  have e7:IntKind.i64.wrap (c:Int)=c:=Zd (by omega) (by omega)
  have e8:IntKind.i64.wrap ((j:Int) - 1)=(j:Int) - 1:=Zd (by omega) (by omega)
  have hj0:(0:Int)≤(j:Int):=by omega
  have jT:(j:Int) < (m:Int)+1:=by omega
  have jN:j < m+1:=by omega
  have hPi4:=ZnE (Zh p4 hPX) (i:=j) hjm
  rw [hkj,hNe] at hPi4
  obtain ⟨aC,hCs⟩:=gC.shape
  have hb4':=Zh p4 hb
  have r1:rd1 X4 q 1=some uC:=Jw hb4' rfl
  have o0:=Jw (Zh p4 hOX) hO0
  have o1:=Jw (Zh p4 hOX) hO1
  have rn:rdn X4 X.length 0 1=some [v4]:=Zfv hbr (by simp) rfl
  obtain ⟨a4,hv4⟩:=g4.shape
  have iv4:one v4=true:=by rw [hv4]; rfl
  have cT:(c:Int) < (cells.length:Int):=by omega
  rw [Zi0]; unfold Zc3; simp [apA,hj0,e4,zeroCells]
  rw [Zfc]; unfold Za7; simp [apA,r1,hPi4,jT,jN,e7,rn,o0,o1,iv4]
  generalize hx:Zb T0 ZaR _ _=xhx
  obtain ⟨vB,X5,rfl,n5,hbl,p5,gB⟩:=ZQ hx hNO
  clear hx
  simp only at p5 gB
  obtain ⟨a5,hvB⟩:=gB.shape
  subst hvB
  rw [← ZGt] at gB
  obtain ⟨JB,gBy,nJB,geJB⟩:=ZCi (t:=.u8) Zfs gB hbl (by simp)
  have p45:=p4.trans p5
  have h45:=p45.length_le
  have h4l:=p4.length_le
  have gC5:=gC.grow p45
  have gT5:=gT.grow p45
  have hb5:=Zh p45 hb
  have ndp:=List.nodup_append.1 nd
  obtain ⟨lC,csC,L0',eC,hbC,hfit,hlC,gC6,nd0',sub0⟩:=gC5.put hci (ds:=[.slice a5 n5 n5]) (y:=ysB) (J:=JB) gBy (fun j hj hm=>by have:=geJB j hj; have:=gC.lt j hm; omega) ndp.1 nJB
  have hwC:Zi.w=1:=rfl
  rw [hwC,Nat.mul_one] at hfit gC6
  rw [hwC] at hbC
  have iB:one (.slice a5 n5 n5:V)=true:=rfl
  have hqlC:lC ≠ q:=fun e=>hqL (by rw [← e]; exact List.mem_append_left _ hlC)
  obtain ⟨X6,hX6,hw6⟩:∃ X6,X6=X5.set lC ⟨splice csC c [.slice a5 n5 n5],1,2⟩∧wrn X5 lC c [.slice a5 n5 n5]=some X6:=⟨_,rfl,by rw [ZdU hbC rfl (by simpa using hfit) (by simp [iB])]⟩
  rw [← hX6] at gC6
  have hb6:X6[q]?=some ⟨[.int .i64 sz,uC,uT],1,2⟩:=by rw [hX6,Je hqlC]; exact hb5
  have gT6:Gr (.sl Zf) X6 [uT] log L1:=by rw [hX6]; exact gT5.set _ (fun hm=>ndp.2.2 lC hlC lC hm rfl)
  have hlen6:X6.length=X5.length:=by rw [hX6,List.length_set]
  have nd6:(L0'++L1).Nodup:=List.nodup_append.2 ⟨nd0',ndp.2.1,fun x hx y hy e=>by
    subst e
    rcases sub0 x hx with h | h
    · exact ndp.2.2 x h x hy rfl
    · have:=geJB x h; have:=gT.lt x hy; omega⟩
  have hqX:=ZI hb
  have hq6:q ∉ L0'++L1:=fun hm=>by
    rcases List.mem_append.1 hm with h | h
    · rcases sub0 q h with h | h
      · exact hqL (List.mem_append_left _ h)
      · have:=geJB q h; omega
    · exact hqL (List.mem_append_right _ h)
  have hlPlC:lC ≠ lP:=fun e=>by
    rcases hV lC (List.mem_cons_of_mem _ (List.mem_append_left _ hlC)) with h | h
    · exact hW (by rw [← e]; exact h)
    · have:=ZI hP; omega
  have hPi6:rd1 X6 lP j=some (.int .i64 ((c+1:Nat):Int)):=by
    have:=ZnE (X:=X6) (lP:=lP) (N:=2 ^ m+a) (m:=m) (by rw [hX6,Je hlPlC]; exact Zh p5 (Zh p4 hPX)) (i:=j) hjm
    rw [hkj,hNe] at this
    exact this
  have hcc:cells.length=cells.length:=rfl
  subst eC
  have hfit':c+1≤csC.length:=by simpa using hfit
  have t2:rd1 X6 q 2=some uT:=Jw hb6 rfl
  have t0:rd1 X6 q 0=some (.int .i64 sz):=Jw hb6 rfl
  obtain ⟨aT,hTs⟩:=gT.shape
  have iuT:one uT=true:=by rw [hTs]; rfl
  have ag56:∀ i,i < X5.length→i ≠ lC→X6[i]?=X5[i]?:=fun i _ hne=>by rw [hX6,Je (fun e=>hne e.symm)]
  clear hX6
  simp [apA,Jo,p5,hw6,iB,cT,hci,e7]
  simp [apA,t2,t0,hPi6,jT,jN,e7,iuT,zeroCells]
  generalize hy:Zdq _ _ _ _ _ _=xhy
  have hwfT:(Lit.int .i64 ((2:Int),(c:Int),sz).1).wf=true∧(Lit.int .i64 ((2:Int),(c:Int),sz).2.1).wf=true∧(Lit.int .i64 ((2:Int),(c:Int),sz).2.2).wf=true:=⟨ZfT (z:=2) (by omega),ZfT (z:=(c:Int)) (by omega),hwf⟩
  obtain ⟨l8,X7,rfl,ag7,hwT,X8,L1',hwr,hb8,gC8,gT8,nd8,hq8,hL8,ag8⟩:=Zyn (t:=((2:Int),(c:Int),sz)) hb6 gC6 gT6 nd6 hq6 rfl hwfT (by omega) (List.prefix_append _ _) hy
  clear hy
  have hh:Zfx (wfs uT) [q,lP,q]=false:=Zg7 fun x hx y hy e=>by
    have h1:=hwT x hx
    have hqq:x ≠ q:=fun e2=>hqL (by rw [← e2]; exact List.mem_append_right _ h1)
    have hll:x ≠ lP:=fun e2=>by
      rcases hV x (List.mem_cons_of_mem _ (List.mem_append_right _ h1)) with h | h
      · exact hW (by rw [← e2]; exact h)
      · have:=ZI hP; omega
    simp at hy
    subst e
    rcases hy with rfl | rfl | rfl
    · exact hqq rfl
    · exact hll rfl
    · exact hqq rfl
  have hl5:=p5.length_le
  have agX:JQ X X8 (q :: (L0++L1)):=⟨by have:=ag8.1; omega,fun i hi hn=>by
    have n1:i ∉ q :: L1:=fun hm=>hn (by
      rcases List.mem_cons.1 hm with rfl | hm
      · exact List.mem_cons_self ..
      · exact List.mem_cons_of_mem _ (List.mem_append_right _ hm))
    rw [ag8.2 i (by omega) n1,ag56 i (by omega) (fun e=>hn (by rw [e]; exact List.mem_cons_of_mem _ (List.mem_append_left _ hlC)))]
    obtain ⟨R,hR⟩:=p45
    rw [← hR]
    exact List.getElem?_append_left hi⟩
  have hagl:=ag.1
  simp [apA,YD,ag7,hh,hwr,e8]
  refine ⟨X8,⟨_,L0',L1',hb8,gC8,gT8,nd8,hq8,Znp ag agX hV,fun i hi=>?_⟩,rfl⟩
  rcases List.mem_cons.1 hi with rfl | hi
  · exact hV _ (List.mem_cons_self ..)
  · rcases List.mem_append.1 hi with hi | hi
    · rcases sub0 i hi with h | h
      · exact hV i (List.mem_cons_of_mem _ (List.mem_append_left _ h))
      · right; have:=geJB i h; omega
    · rcases hL8 i hi with h | h
      · exact hV i (List.mem_cons_of_mem _ (List.mem_append_right _ h))
      · right; omega
theorem ZAH (Y:Mem) (W:List Nat) (v1:V) (po pz lP m a q w:Nat) (sz:Int) (uC v21:V) (hm:m≤6) (ha:a < 2 ^ m) (hw2:1≤w∧w≤200) (hP:Y[lP]?=some ⟨Ic (ZkO (2 ^ m+a) (m+1)),1,2⟩) (hW:lP ∉ W) (hwf:(Lit.int .i64 sz).wf=true) (ocs:List V) (hO:Y[po]?=some ⟨ocs,1,2⟩) (hOW:po ∉ W) (hO0:ocs[0]?=some (.int .i64 m)) (hO1:ocs[1]?=some (.int .i64 w))
    (aB:Option Addr) (cB:Nat) (xs:List Za.D) (L:List Nat) (gL:Gr (.sl Za) Y [.slice aB xs.length cB] xs L) (hLW:∀ j ∈ L,j ∉ W) (hxn:xs.length≤128) (hxz:Zcz xs) (aP:Option Addr) (cP:Nat) (plan:List ZB.D) (Lp:List Nat) (gP:Gr (.sl ZB) Y [.slice aP plan.length cP] plan Lp) (hPW:∀ j ∈ Lp,j ∉ W) (hpn:plan.length≤10000) (hid:∀ q ∈ plan,ZaP q.2 xs=true)
    (hbs:∀ j:Nat,j≤m→(Zgp xs (j:Int) plan).length≤4∧Z4 m w (Zgp xs (j:Int) plan)=true) (cells:List Zi.D) (log:List Zf.D) (hlen:cells.length+1=2 * 2 ^ m) (hlg:log.length≤800000) (X:Mem) (h:MqI Y W q sz uC cells log X) :
    ∃ X',MqI Y W q sz uC (wrS w sz (2 ^ m+a) m xs plan cells log (m+1)).1 (wrS w sz (2 ^ m+a) m xs plan cells log (m+1)).2 X' ∧
      lp (Zb T0) YH Qy (FsN v1 po pz lP (m+1) q aB xs.length cB v21 aP plan.length cP m) X=lp (Zb T0) YH Qy (FsN v1 po pz lP (m+1) q aB xs.length cB v21 aP plan.length cP (-1)) X':=by
  obtain ⟨_,X',h',e⟩:=YT (call:=Zb T0) (K:=YH) (L:=Qy) (fun k (_:Unit) X=>MqI Y W q sz uC (wrS w sz (2 ^ m+a) m xs plan cells log k).1 (wrS w sz (2 ^ m+a) m xs plan cells log k).2 X) (fun k (_:Unit)=>FsN v1 po pz lP (m+1) q aB xs.length cB v21 aP plan.length cP ((m:Int) - (k:Nat))) (n:=m+1) (fun k _ X hk hX=>by
    obtain ⟨z1,z2⟩:=ZsD w sz (2 ^ m+a) m xs plan cells log k
    obtain ⟨X',h1,h2⟩:=ZzD Y W v1 po pz lP m a q w sz uC v21 hm ha hw2 hP hW hwf ocs hO hOW hO0 hO1 aB cB xs L gL hLW hxn hxz aP cP plan Lp gP hPW hpn hid hbs k hk _ _ (by rw [z1]; exact hlen) (by rw [z2]; omega) X hX
    exact ⟨(),X',h1,h2⟩) 0 () X (by omega) h
  refine ⟨X',h',?_⟩
  have e1:(m:Int) - ((0:Nat):Int)=(m:Int):=by omega
  have e2:(m:Int) - ((m+1:Nat):Int)=-1:=by omega
  rw [e1,e2] at e
  exact e
def ZmT (xs:List Za.D) (plan:List ZB.D):List Za.D:=plan.foldl (fun r p=>ZP p.2 r) xs
theorem ZpF (xs:List Za.D) (plan:List ZB.D) (p:ZB.D):ZmT xs (plan++[p])=ZP p.2 (ZmT xs plan):=by
  unfold ZmT
  rw [List.foldl_append]
  rfl
theorem Zpt (m leaf lv:Nat) (ws:List Za.D):∀ (xs:List Za.D) (s:List ZB.D × List Za.D × Nat),s.2.1=ZmT ws s.1→(xs.foldl (Zfd m leaf lv) s).2.1=ZmT ws (xs.foldl (Zfd m leaf lv) s).1
  | [],s,h=>h
  | b :: xs,s,h=>by
    rw [List.foldl_cons]
    refine Zpt m leaf lv ws xs _ ?_
    unfold Zfd
    split
    · simp only
      rw [ZpF,h]
    · exact h
theorem Zih (m leaf:Nat) (xs:List Za.D):∀ k,(ZS m leaf xs k).2=ZmT xs (ZS m leaf xs k).1
  | 0=>rfl
  | k+1=>by
    rw [Zb0]
    exact Zpt m leaf (m - k) xs xs _ (Zih m leaf xs k)
theorem ZA3 {l w lf:Int} {xs:List Za.D} (h:evB l w lf xs=true):(ZS l.toNat lf.toNat xs (l.toNat+1)).1.length≤10000:=by
  obtain ⟨m,n,rfl,rfl,hm,hn,hL,hle,hbl⟩:=ZE4 h
  have t1:((m:Int).toNat)=m:=by omega
  have t2:((n:Int).toNat)=n:=by omega
  rw [t1,t2]
  have key:∀ k,(ZS m n xs k).1.length≤k * 128:=by
    intro k
    induction k with
    | zero=>simp [ZS]
    | succ k ih =>
      rw [Zb0]
      have h2:∀ (ys:List Za.D) (s:List ZB.D × List Za.D × Nat),(ys.foldl (Zfd m n (m - k)) s).1.length≤s.1.length+ys.length:=by
        intro ys
        induction ys with
        | nil=>intro s; simp
        | cons y ys ih2 =>
          intro s
          rw [List.foldl_cons]
          have:=ih2 (Zfd m n (m - k) s y)
          have h3:(Zfd m n (m - k) s y).1.length≤s.1.length+1:=by
            unfold Zfd
            split
            · simp
            · omega
          simp only [List.length_cons]
          omega
      have:=h2 xs ((ZS m n xs k).1,(ZS m n xs k).2,0)
      simp only at this
      unfold ZmC
      simp only
      omega
  have:=key (m+1)
  omega
theorem Zlf:∀ (ps:List ZB.D) (xs:List Za.D),List.Sublist (ZmT xs ps) xs
  | [],xs=>List.Sublist.refl _
  | p :: ps,xs=>(Zlf ps (ZP p.2 xs)).trans List.filter_sublist
def RsG (M:Mem) (v:V) (ys:List Za.D) (X:Mem):Prop:=∃ L,M <+: X∧Gr (.sl Za) X [v] ys L∧L.Nodup∧∀ j ∈ L,M.length≤j
theorem Zlm (M:Mem) (a:Option Addr) (c:Nat) (ps:List ZB.D) (Z:Mem) (h:Rep (.sl ZB) Z [.slice a ps.length c] ps) (hMZ:M <+: Z) (hn:ps.length≤1048576) (xs:List Za.D) (hz:Zcz xs) (v:V) (hZ:RsG M v xs Z) :
    ∃ v' X',RsG M v' (ZmT xs ps) X'∧lp (Zb T0) YU Ji [O,O,O,O,O,O,O,O,O,v,.slice a ps.length c,.int .i64 (0:Nat),O,O,O,O,O,O,O,O,O,O,O,O,O,O,O,O,O,O,O,O,O,O,O,O,O,O,O,O,O,O,O,O] Z=lp (Zb T0) YU Ji [O,O,O,O,O,O,O,O,O,v',.slice a ps.length c,.int .i64 ps.length,O,O,O,O,O,O,O,O,O,O,O,O,O,O,O,O,O,O,O,O,O,O,O,O,O,O,O,O,O,O,O,O] X':=by
  have key:=YT (call:=Zb T0) (K:=YU) (L:=Ji) (fun i v X=>RsG M v (ZmT xs (ps.take i)) X∧Z <+: X) (fun i v=>[O,O,O,O,O,O,O,O,O,v,.slice a ps.length c,.int .i64 i,O,O,O,O,O,O,O,O,O,O,O,O,O,O,O,O,O,O,O,O,O,O,O,O,O,O,O,O,O,O,O,O]) (n:=ps.length) ?_ 0 v Z (by omega) ⟨by simpa [ZmT] using hZ,List.prefix_refl _⟩
  · obtain ⟨v',X',⟨hX,_⟩,e⟩:=key
    rw [List.take_length] at hX
    exact ⟨v',X',hX,e⟩
  intro i v X hi ⟨⟨L,pX,g,nd,ge⟩,pZ⟩
  rw [List.take_succ_eq_append_getElem hi,ZpF]
  have hsz:Zcz (ZmT xs (ps.take i)):=ZvZ hz (Zlf _ _)
  generalize ZmT xs (ps.take i)=ys at *
  obtain ⟨l,o,rfl,q1,q2,q3,q4⟩:=ZBD h hi
  have q4X:=Qt pZ q4
  have e6:IntKind.i64.wrap ((i:Int)+1)=i+1:=Zd (by omega) (by omega)
  have hW:=ZhL X _ ys ps[i].2 g.rep hsz
  obtain ⟨av,rfl⟩:=g.shape
  rw [ZgD]; unfold ZbI; simp [apA,hi,q4X]
  generalize hx:Zb T0 Qd _ _=xhx
  obtain ⟨v1,X1,rfl,L1,p1,g1,n1,k1⟩:=ZQ hx hW
  clear hx
  simp only at p1 g1
  simp [apA,e6]
  exact ⟨v1,X1,⟨⟨L1,pX.trans p1,g1,n1,fun j hj=>by have:=k1 j hj; have:=pX.length_le; omega⟩,pZ.trans p1⟩,rfl⟩
theorem ZmO (M:Mem) (v:V) (xs:List Za.D) (h:Rep (.sl Za) M [v] xs) (hz:Zcz xs) (l w lf:Int) (hev:evB l w lf xs=true) :
    Sat (Zb T0 Zbf [v,.int .i64 l,.int .i64 w,.int .i64 lf] M) (GrV Za M (ZS l.toNat lf.toNat xs (l.toNat+1)).2):=by
  have e1:=Zhf M v xs l w h hz.1
  have e2:=fun M=>Zak M l lf
  rw [Zih]
  have hpl:=ZA3 hev
  have hP:=fun M' (hp:M <+: M')=>ZiY M' v xs l w lf (h.mono hp) hz
  have hC:=Zbr M v xs h hz
  have hev':=hev
  unfold evB at hev'
  rw [Bool.and_eq_true] at hev'
  rw [hev'.1] at e1
  rw [hev'.2] at e2
  obtain ⟨a,c,rfl⟩:=h.slen
  rw [Zc ZmW]; unfold Zfh Ziz; simp [apA,e1,e2]
  generalize hx:Zb T0 Z5 _ _=xhx
  obtain ⟨v1,X1,rfl,L1,p1,g1,n1,k1⟩:=ZQ hx hC
  clear hx
  simp only at p1 g1
  obtain ⟨a1,rfl⟩:=g1.shape
  simp [apA]
  generalize hx:Zb T0 QD _ _=xhx
  rcases hP X1 p1 with ⟨hf,_⟩ | ⟨_,hS⟩
  · rw [hev] at hf; cases hf
  obtain ⟨v2,X2,rfl,L2,p2,g2,n2,k2⟩:=ZQ hx hS
  clear hx
  simp only at p2 g2
  generalize (ZS l.toNat lf.toNat xs (l.toNat+1)).1=plan at *
  obtain ⟨a2,rfl⟩:=g2.shape
  obtain ⟨v3,X3,⟨L3,p3,g3,n3,k3⟩,e⟩:=Zlm M a2 plan.length plan X2 g2.rep (p1.trans p2) (by omega) xs hz _ ⟨L1,p1.trans p2,g1.grow p2,n1,k1⟩
  simp only [Int.natCast_zero,Int.ofNat_zero] at e
  obtain ⟨a3,rfl⟩:=g3.shape
  simp [apA,e]
  rw [ZgD]; unfold ZbI; simp [apA]
  exact ⟨(_,X3),rfl,L3,p3,g3,n3,k3⟩
def WkV (M:Mem) (x:Zx.D) (lf:Int) (p:V × Mem):Prop:=∃ cs v3,p.1=.tuple #[.agg cs.toArray,v3,.int .i64 (dmC x lf)]∧one v3=true∧M <+: p.2∧∃ L,Own Zx p.2 cs (dmO x lf) L∧∀ j ∈ L,M.length≤j
theorem ZCn (M:Mem):Own Zx M [.int .i64 0,.int .i64 0,.int .i64 0,.int .i64 0,.slice none 0 0,.slice none 0 0,.slice none 0 0] Zm2 []:=Ze0 (x:=Zm2) (by decide) (by decide) (by decide) (by decide) (.inl ⟨rfl,rfl,.inl ⟨rfl,rfl⟩⟩) (.inl ⟨rfl,rfl,.inl ⟨rfl,rfl⟩⟩) (.inl ⟨rfl,rfl,.inl ⟨rfl,rfl⟩⟩)
theorem ZG4 {M X:Mem} {x:Zx.D} {lf c:Int} (h:dmC x lf=c) (hc:c ≠ 0) (hp:M <+: X):WkV M x lf (.tuple #[.agg #[.int .i64 0,.int .i64 0,.int .i64 0,.int .i64 0,.slice none 0 0,.slice none 0 0,.slice none 0 0],.slice none 0 0,.int .i64 c],X):=by
  refine ⟨_,_,by rw [h],rfl,hp,?_⟩
  have e:dmO x lf=Zm2:=by unfold dmO; rw [if_neg (by rw [h]; exact hc)]
  rw [e]
  exact ⟨[],ZCn X,by simp⟩
def CpS (M:Mem) (m:ZT.D) (a b:Option Addr) (c d p lg:Nat) (X:Mem) (u0 u1:V) (xs:List Zi.D):Prop:=∃ L,M <+: X∧X[M.length]?=some ⟨[.int .i64 m.1,.slice a m.2.1.length c,.slice b m.2.2.length d],1,2⟩∧X[M.length+1]?=some ⟨[.int .i64 0,.slice none 0 0,.slice none 0 0],1,2⟩∧X[p]?=some ⟨[.int .i64 m.1,u0,u1],1,2⟩∧Gr (.sl Zi) X [u0] xs L∧L.Nodup∧(∀ l ∈ L,p < l)∧Gr (.sl Zf) X [u1] m.2.2 [lg]
theorem ZmY (M:Mem) (m:ZT.D) (a b:Option Addr) (c d p lg:Nat) (h:Rep (.sl Zi) M [.slice a m.2.1.length c] m.2.1) (hn:m.2.1.length≤128) (hm:∀ x ∈ m.2.1,x.length≤1048576) (u0 u1:V) (Z:Mem) (hp:M.length+2≤p) (hl1:M.length+2≤lg) (hl2:lg < p) (hZ:CpS M m a b c d p lg Z u0 u1 []) :
    ∃ u0' X',CpS M m a b c d p lg X' u0' u1 m.2.1∧lp (Zb T0) Qv JT [O,.pointer (some ⟨M.length,0,none⟩),.pointer (some ⟨M.length+1,0,none⟩),.pointer (some ⟨p,0,none⟩),.int .i64 (0:Nat),O,O,O,O,O,O,O,O,O,O,O,O,O,O,O,O,O,O,O,O,O,O,O,O,O,O,O,O,O] Z=lp (Zb T0) Qv JT [O,.pointer (some ⟨M.length,0,none⟩),.pointer (some ⟨M.length+1,0,none⟩),.pointer (some ⟨p,0,none⟩),.int .i64 m.2.1.length,O,O,O,O,O,O,O,O,O,O,O,O,O,O,O,O,O,O,O,O,O,O,O,O,O,O,O,O,O] X':=by
  have key:=YT (call:=Zb T0) (K:=Qv) (L:=JT) (fun i u0 X=>CpS M m a b c d p lg X u0 u1 (m.2.1.take i)) (fun i _=>[O,.pointer (some ⟨M.length,0,none⟩),.pointer (some ⟨M.length+1,0,none⟩),.pointer (some ⟨p,0,none⟩),.int .i64 i,O,O,O,O,O,O,O,O,O,O,O,O,O,O,O,O,O,O,O,O,O,O,O,O,O,O,O,O,O]) (n:=m.2.1.length) ?_ 0 u0 Z (by omega) (by simpa using hZ)
  · rw [List.take_length] at key
    exact key
  intro i u X hi hX
  obtain ⟨L,pX,b0,b1,b2,g0,hnd,hge,g1⟩:=hX
  obtain ⟨l,o,w,rfl,q1,_,q3⟩:=Zic (h.mono pX) hi
  rw [List.take_succ_eq_append_getElem hi]
  have hlen:(m.2.1.take i).length=i:=by rw [List.length_take]; omega
  generalize m.2.1.take i=xs at g0 hlen ⊢
  have hmc:=hm _ (List.getElem_mem hi)
  generalize m.2.1[i]=cell at q3 hmc ⊢
  obtain ⟨⟨a2,c2,rfl⟩,hc,_⟩:=Zeg Zfs (q3.mono (List.prefix_append X [(⟨[],1,2⟩:Blk)]))
  have hc:Zj (X++[(⟨[],1,2⟩:Blk)]) 1 (.slice a2 (List.length (α:=UInt8) cell) c2)=some (List.length (α:=UInt8) cell,(List.map Qq cell).flatten):=hc
  have e6:IntKind.i64.wrap ((i:Int)+1)=i+1:=Zd (by omega) (by omega)
  have b0':=fun N:Mem=>Zw (N:=N) b0
  have b2':=fun N:Mem=>Zw (N:=N) b2
  have q1':=fun N:Mem=>Zhe (N:=N) q1
  simp only [Y1] at q1 q1'
  obtain ⟨a3,rfl⟩:=g0.shape
  have hll:l < M.length:=by obtain ⟨blk,hbk,_⟩:=Zij h; exact ZI hbk
  have hlX:=ZI b2
  have hh1:Zfx [X.length] [l,M.length,p]=false:=Zif (K:=X.length) (by simp) (by simp; omega)
  rw [ZiT]; unfold ZcX; simp [apA,b0,b2,b0',b2',hi,q1,q1',hc,zeroCells,Y1,Z3]
  generalize hy:Zdq _ _ _ _ _ _=xhy
  obtain ⟨l2,X3,rfl,hl2',gb,ag⟩:=Zq5 (t:=.u8) (xs:=cell) Zfs hy (by simp [Ty.w]) (by simp) (by omega) (by omega)
  clear hy
  have p3:X <+: X3:=ag.pre (List.prefix_append _ _) (by simp)
  have b2'':=fun N:Mem=>Zw (N:=N) (Zh p3 b2)
  have hwL:∀ b ∈ wfs (.slice a3 xs.length xs.length),p < b:=by
    obtain ⟨_,_,hw⟩:=g0.gr (K:=0) (by simp)
    exact fun b hb=>hge b (hw b hb)
  have hh2:Zfx (wfs (.slice a3 xs.length xs.length)) [l,M.length,p]=false:=Zif (K:=p+1) (fun b hb=>hwL b hb) (by simp; omega)
  simp [apA,YD,ag,hh1,zeroCells]
  generalize hy:Zdq _ _ _ _ _ _=xhy
  have hcg:Gr Zi (X3++[(⟨[.slice (some ⟨l2,0,none⟩) (List.length (α:=UInt8) cell) (List.length (α:=UInt8) cell)],1,2⟩:Blk)]) [.slice (some ⟨l2,0,none⟩) (List.length (α:=UInt8) cell) (List.length (α:=UInt8) cell)] cell [l2]:=gb.grow (List.prefix_append _ _)
  obtain ⟨l4,X4,L',rfl,g4,ag2,len2,hw4,nd4,sub4,hl4⟩:=g0.app (t:=Zi) hy (p3.trans (List.prefix_append _ _)) hcg (by simpa using hl2') hnd (by simp) (by rw [hlen]; omega) (by rw [hlen]; omega)
  clear hy
  have hnw:∀ j,j≤p→j ∉ wfs (.slice a3 xs.length xs.length):=fun j hj hm=>by have:=hwL j hm; omega
  have y0:=ag2.get (Zw (Zh p3 b0)) (hnw _ (by omega))
  have y1:=ag2.get (Zw (Zh p3 b1)) (hnw _ (by omega))
  have y2:=ag2.get (Zw (Zh p3 b2)) (hnw _ (Nat.le_refl _))
  have gl:=(((g1.grow p3).grow (List.prefix_append X3 [(⟨[.slice (some ⟨l2,0,none⟩) (List.length (α:=UInt8) cell) (List.length (α:=UInt8) cell)],1,2⟩:Blk)])).agree ag2 (by
    intro j hj hm
    have:=hwL j hm
    simp at hj
    omega))
  have pX4:M <+: X4:=ag2.pre (JZ (pX.trans p3)) (fun j hj=>by have:=hwL j hj; omega)
  have hgt:∀ j ∈ L',p < j:=fun j hj=>by
    have hx3:=p3.length_le
    rcases sub4 j hj with h | h | h
    · exact hge j h
    · simp at h; omega
    · simp at hl4; omega
  simp [apA,y2,e6,YD,ag2,hh2,Y1,Z3,ZhB,Zdj]
  refine ⟨_,_,⟨L',QQ (by omega) pX4,?_,?_,ZbN y2 _,?_,nd4,hgt,?_⟩,rfl⟩
  · rw [Je (by omega)]; exact y0
  · rw [Je (by omega)]; exact y1
  · exact g4.set _ (fun hm=>by have:=hgt _ hm; omega)
  · exact gl.set _ (by simp; omega)
def ZCJ (m:ZT.D):Prop:=m.2.1.length≤128∧m.2.2.length≤6000∧∀ x ∈ m.2.1,x.length≤1048576
theorem ZBm {M:Mem} {x:ZT.D} {u0 u1:V} {L0 L1:List Nat} (w0:(Lit.int .i64 x.1).wf=true) (r0:Gr (.sl Zi) M [u0] x.2.1 L0) (r1:Gr (.sl Zf) M [u1] x.2.2 L1):Gr ZT M [.int .i64 x.1,u0,u1] x (L0++L1) :=
  ⟨[.int .i64 x.1],[u0,u1],[],L0++L1,rfl,⟨⟨rfl,w0⟩,rfl⟩,⟨[u0],[u1],L0,L1,rfl,r0,r1,rfl⟩,rfl⟩
theorem ZBv {M:Mem} {cs:List V} {m:ZT.D} (h:Rep ZT M cs m):(Lit.int .i64 m.1).wf=true:=by
  obtain ⟨_,_,_,w,_⟩:=ZbW h
  exact w
set_option maxHeartbeats 1000000 in
theorem Zpk (M:Mem) (cs:List V) (m:ZT.D) (h:Rep ZT M cs m) (hz:ZCJ m):Sat (Zb T0 ZcU [.agg cs.toArray] M) (GrD ZT M m):=by
  have hw:=ZBv h
  obtain ⟨a,b,c,d,rfl,r0,r1⟩:=ZkX h
  obtain ⟨z1,z2,z3⟩:=hz
  have hc:∀ N:Mem,Zj (M++N) 3 (.slice b m.2.2.length d)=some (m.2.2.length,(m.2.2.map Z7).flatten):=fun N=>(Zeg Zir (r1.mono (List.prefix_append M N))).2.1
  have hP:=(Zeg Zir r1).2.2
  have hh2:Zfx [M.length+2] [M.length,M.length]=false:=Zif (K:=M.length+2) (by simp) (by simp)
  rw [Zc Zo7]; unfold Zg3 Zkb; simp [apA,zeroCells,hc]
  generalize hy:Zdq _ _ _ _ _ _=xhy
  obtain ⟨lg,X3,rfl,hlg,g1,ag⟩:=Zq5 (t:=Zf) (xs:=m.2.2) Zir hy (by simp [Ty.w]) hP (by omega) (by omega)
  clear hy
  have b0:X3[M.length]?=some ⟨[.int .i64 m.1,.slice a m.2.1.length c,.slice b m.2.2.length d],1,2⟩:=ag.get (by simp) (by simp)
  have b1:X3[M.length+1]?=some ⟨[.int .i64 0,.slice none 0 0,.slice none 0 0],1,2⟩:=ag.get (by simp) (by simp)
  have p3:M <+: X3:=ag.pre (List.prefix_append _ _) (by simp)
  have hl3:lg < X3.length:=g1.lt lg (by simp)
  simp [apA,YD,ag,hh2,zeroCells]
  have hZ:CpS M m a b c d X3.length lg (X3++[⟨[.int .i64 m.1,.slice none 0 0,.slice (some ⟨lg,0,none⟩) m.2.2.length m.2.2.length],1,2⟩]) (.slice none 0 0) (.slice (some ⟨lg,0,none⟩) m.2.2.length m.2.2.length) [] :=
    ⟨[],JZ p3,Zw b0,Zw b1,by simp,Gr.nil,by simp,by simp,g1.grow (List.prefix_append _ _)⟩
  obtain ⟨u0',X',⟨L,q1,q2,q3,q4,q5,q6,q7,q8⟩,e⟩:=ZmY M m a b c d X3.length lg r0 z1 z3 (.slice none 0 0) (.slice (some ⟨lg,0,none⟩) m.2.2.length m.2.2.length) _ (by have:=ZI b1; omega) (by omega) hl3 hZ
  simp only [Int.natCast_zero,Int.ofNat_zero] at e
  simp only [e]
  obtain ⟨a5,rfl⟩:=q5.shape
  rw [ZiT]; unfold ZcX; simp [apA,q2,q4,Y1,Z3]
  simp [apA,q2,q3,q4,ZbN q3,Y1,Z3,Zm7,ZiG,ZhB,Zdj]
  refine Zcw ⟨_,L++[lg],rfl,QQ (by omega) q1,?_,?_,?_⟩
  · refine ZBm hw (q5.set _ fun hm=>?_) (q8.set _ (by simp; omega))
    have:=q7 _ hm
    have:=ZI b1
    omega
  · refine List.nodup_append.2 ⟨q6,by simp,fun x hx y hy e=>?_⟩
    simp at hy
    have:=q7 x hx
    omega
  · intro l hl
    rcases List.mem_append.1 hl with hl | hl
    · have:=q7 l hl
      have:=ZI b1
      omega
    · simp at hl
      omega
theorem Zpr {M:Mem} {ds:List V} {m:ZT.D} {L:List Nat} (h:Gr ZT M ds m L):∃ u0 u1 L0 L1,ds=[.int .i64 m.1,u0,u1]∧(Lit.int .i64 m.1).wf=true∧Gr (.sl Zi) M [u0] m.2.1 L0∧Gr (.sl Zf) M [u1] m.2.2 L1∧L=L0++L1:=by
  obtain ⟨c1,c2,K1,K2,rfl,⟨⟨rfl,w⟩,rfl⟩,⟨d1,d2,K3,K4,rfl,g0,g1,rfl⟩,rfl⟩:=h
  have h0:=g0.len
  have h1:=g1.len
  match d1,h0,d2,h1 with
  | [u0],_,[u1],_=>exact ⟨u0,u1,K3,K4,rfl,w,g0,g1,rfl⟩
theorem Zsm (X:Mem) (w:List Nat):JQ X X w:=⟨Nat.le_refl _,fun _ _ _=>rfl⟩
set_option maxRecDepth 20000 in
set_option maxHeartbeats 8000000 in
theorem Zru (M:Mem) (k wn a:Nat) (b sz:Int) (cells:List Zi.D) (log:List Zf.D) (st r:List Za.D) (aC:Option Addr) (cC:Nat) (aT:Option Addr) (cT:Nat) (aS:Option Addr) (cS:Nat)
    (hM:Rep ZT M [.int .i64 sz,.slice aC cells.length cC,.slice aT log.length cT] (sz,cells,log)) (hS:Rep (.sl Za) M [.slice aS st.length cS] st) (hC:Rep (.sl Zi) M [.slice aC cells.length cC] cells) (hk:k≤6) (ha:a < 2 ^ k) (hw:1≤wn∧wn≤200) (hlen:cells.length+1=2 * 2 ^ k) (hcl:cells.length≤128) (hok:∀ c ∈ cells,ZfD k wn c=true) (hsz:∀ c ∈ cells,List.length (α:=UInt8) c≤1048576) (hst:Z4 k wn st=true) (hsl:st.length≤64) (hlg:log.length≤6000) (y0:(Lit.int .i64 (k:Int)).wf=true) (y1:(Lit.int .i64 (wn:Int)).wf=true) (y2:(Lit.int .i64 b).wf=true) (y3:(Lit.int .i64 sz).wf=true) (hbz:Zcz st) (hor:orO ((k:Int),(wn:Int),b,(sz,cells,log),st)=some r) (hlB:ZeU k a=true) :
    Sat (Zb T0 ZcG [.agg (aO k wn b sz aC cells.length cC aT log.length cT aS st.length cS).toArray,.int .i64 a,.int .i64 (-1),.int .i64 0,.int .i64 0,.slice none 0 0] M) (WkV M ((k:Int),(wn:Int),b,(sz,cells,log),st) a):=by
  have hk0:Int.toNat (k:Int)=k:=by omega
  have hw0:Int.toNat (wn:Int)=wn:=by omega
  have ha0:Int.toNat (a:Int)=a:=by omega
  have hpre:M <+: M++[(⟨aO k wn b sz aC cells.length cC aT log.length cT aS st.length cS,1,2⟩:Blk),⟨[.int .i64 0,.int .i64 0,.int .i64 0,.int .i64 0,.slice none 0 0,.slice none 0 0,.slice none 0 0],1,2⟩]:=List.prefix_append _ _
  have hbo:(M++[(⟨aO k wn b sz aC cells.length cC aT log.length cT aS st.length cS,1,2⟩:Blk),⟨[.int .i64 0,.int .i64 0,.int .i64 0,.int .i64 0,.slice none 0 0,.slice none 0 0,.slice none 0 0],1,2⟩])[M.length]?=some ⟨aO k wn b sz aC cells.length cC aT log.length cT aS st.length cS,1,2⟩:=by simp
  have hbz0:(M++[(⟨aO k wn b sz aC cells.length cC aT log.length cT aS st.length cS,1,2⟩:Blk),⟨[.int .i64 0,.int .i64 0,.int .i64 0,.int .i64 0,.slice none 0 0,.slice none 0 0,.slice none 0 0],1,2⟩])[M.length+1]?=some ⟨[.int .i64 0,.int .i64 0,.int .i64 0,.int .i64 0,.slice none 0 0,.slice none 0 0,.slice none 0 0],1,2⟩:=by simp
  have hML:(M++[(⟨aO k wn b sz aC cells.length cC aT log.length cT aS st.length cS,1,2⟩:Blk),⟨[.int .i64 0,.int .i64 0,.int .i64 0,.int .i64 0,.slice none 0 0,.slice none 0 0,.slice none 0 0],1,2⟩]).length=M.length+2:=by simp
  have o0:=Jw (k:=0) hbo rfl
  have hPN:=ZcY (M++[(⟨aO k wn b sz aC cells.length cC aT log.length cT aS st.length cS,1,2⟩:Blk),⟨[.int .i64 0,.int .i64 0,.int .i64 0,.int .i64 0,.slice none 0 0,.slice none 0 0,.slice none 0 0],1,2⟩]) k a hk ha
  have eX:Znv ((k:Int),(wn:Int),b,(sz,cells,log),st) a=Zl4 wn cells (2 ^ k+a) k st (k+1):=by unfold Znv; simp only [hk0,ha0]
  have hdc:dmC ((k:Int),(wn:Int),b,(sz,cells,log),st) a=acC log k (Zpq ((k:Int),(wn:Int),b,(sz,cells,log),st) a) b:=by
    unfold dmC
    rw [hor]
    simp only [Option.isSome_some,hlB,Bool.and_self,if_true,hk0]
  generalize hM0:M++[(⟨aO k wn b sz aC cells.length cC aT log.length cT aS st.length cS,1,2⟩:Blk),⟨[.int .i64 0,.int .i64 0,.int .i64 0,.int .i64 0,.slice none 0 0,.slice none 0 0,.slice none 0 0],1,2⟩]=M0 at *
  rw [Zc Zpl]; unfold Zhl Zkt; simp [apA,hM0,o0]
  generalize hx:Zb T0 YG _ _=xhx
  obtain ⟨_,X1,rfl,av,rfl,p1,gP⟩:=ZQ hx hPN
  clear hx
  simp only at p1 gP
  rcases gP.2 with ⟨_,h0⟩ | ⟨lP,hlP,e,hPb⟩
  · omega
  cases e
  have hbo1:=Zh p1 hbo
  have r5:rd1 X1 M.length 5=some (.slice aT log.length cT):=Jw hbo1 rfl
  have w1:IntKind.i64.wrap (2 * ((k:Int)+1))=2 * ((k:Int)+1):=Zd (by omega) (by omega)
  have w2:IntKind.i64.wrap ((log.length:Int)+2 * ((k:Int)+1))=(log.length:Int)+2 * ((k:Int)+1):=Zd (by omega) (by omega)
  have pM1:=hpre.trans p1
  by_cases hf:6000 < log.length+2 * (k+1)
  · have hc:dmC ((k:Int),(wn:Int),b,(sz,cells,log),st) a=4:=by rw [hdc]; unfold acC; rw [if_pos hf]
    have hf':(6000:Int) < (log.length:Int)+2 * ((k:Int)+1):=by omega
    have z1:=ZxY (Zh p1 hbz0)
    simp [apA,r5,w1,w2,hf',z1.1,z1.2]
    exact ⟨_,rfl,ZG4 hc (by decide) pM1⟩
  have hf':¬ (6000:Int) < (log.length:Int)+2 * ((k:Int)+1):=by omega
  have hNN:=Zjc X1 k wn b (sz,cells,log) st aC cC aT cT aS cS (hC.mono pM1) (by simp only; omega) hsz
  have hall:cells.all (ZfD k wn)=true:=List.all_eq_true.2 hok
  simp only [hall,if_true] at hNN
  have gA1:rdn X1 M.length 0 7=some (aO k wn b sz aC cells.length cC aT log.length cT aS st.length cS):=Zfv hbo1 (by simp) rfl
  simp [apA,r5,w1,w2,hf',gA1]
  generalize hx:Zb T0 JL _ _=xhx
  obtain ⟨_,X2,rfl,vN,LN,rfl,p2,gN,nN,kN⟩:=ZQ hx hNN
  clear hx
  simp only at p2 gN
  obtain ⟨aN,hvN⟩:=gN.shape
  subst hvN
  have pM2:=pM1.trans p2
  have hbo2:=Zh p2 hbo1
  have g3:rdn X2 M.length 3 3=some [.int .i64 sz,.slice aC cells.length cC,.slice aT log.length cT]:=Zfv hbo2 (by simp) rfl
  have hL4:=Zpk X2 _ (sz,cells,log) (hM.mono pM2) ⟨hcl,hlg,hsz⟩
  simp [apA,g3]
  generalize hx:Zb T0 ZcU _ _=xhx
  obtain ⟨_,X3,rfl,ds,J,rfl,p3,gM,nM,kM⟩:=ZQ hx hL4
  clear hx
  simp only at p3 gM
  obtain ⟨uC,uT,J0,J1,rfl,_,gC,gT,rfl⟩:=Zpr gM
  obtain ⟨a1,hC1⟩:=gC.shape
  obtain ⟨a2,hT1⟩:=gT.shape
  subst hC1 hT1
  simp only at gC gT ⊢
  have pq:X3 <+: X3++[(⟨[.int .i64 sz,.slice a1 cells.length cells.length,.slice a2 log.length log.length],1,2⟩:Blk)]:=List.prefix_append _ _
  have hbq:(X3++[(⟨[.int .i64 sz,.slice a1 cells.length cells.length,.slice a2 log.length log.length],1,2⟩:Blk)])[X3.length]?=some ⟨[.int .i64 sz,.slice a1 cells.length cells.length,.slice a2 log.length log.length],1,2⟩:=List.getElem?_concat_length
  have r6:rd1 (X3++[(⟨[.int .i64 sz,.slice a1 cells.length cells.length,.slice a2 log.length log.length],1,2⟩:Blk)]) M.length 6=some (.slice aS st.length cS):=Jw (Zh pq (Zh p3 hbo2)) rfl
  have pM3q:=(pM2.trans p3).trans pq
  have hL13:=Zbr _ _ st (hS.mono pM3q) hbz
  simp [apA,zeroCells,r6]
  generalize hx:Zb T0 Z5 _ _=xhx
  obtain ⟨v0,X4,rfl,LL,p4,gS,nS,kS⟩:=ZQ hx hL13
  clear hx
  simp only at p4 gS
  have l0:=p1.length_le
  have l2:=p2.length_le
  have l3:=p3.length_le
  have l4:=p4.length_le
  simp only [List.length_append,List.length_cons,List.length_nil] at l4 kS
  obtain ⟨zs,hzs,hz1,hg1,hw1⟩:=ZEr gS nS
  have pM4:=pM3q.trans p4
  have p04:M0 <+: X4:=((p1.trans p2).trans p3).trans (pq.trans p4)
  have hlP4:X4[lP]?=some ⟨Ic (ZkO (2 ^ k+a) (k+1)),1,2⟩:=Zh (((p2.trans p3).trans pq).trans p4) hPb
  have hlP1:=ZI hPb
  have hJ:∀ j ∈ J0++J1,X2.length≤j:=fun j hj=>kM j hj
  have hJ3:∀ j ∈ J0++J1,j < X3.length:=fun j hj=>by
    rcases List.mem_append.1 hj with h | h
    · exact gC.lt j h
    · exact gT.lt j h
  have hDm:∀ j ∈ wfs v0++(X3.length :: (J0++J1)),X2.length≤j:=fun j hj=>by
    rcases List.mem_append.1 hj with h | h
    · have:=kS j (hw1 j h); omega
    · rcases List.mem_cons.1 h with rfl | h
      · exact l3
      · exact hJ j h
  have hW0:WlI M0 X4 (wfs v0++(X3.length :: (J0++J1))) X3.length sz (.slice a1 cells.length cells.length) cells log st v0 X4:=by
    refine ⟨⟨p04,Zsm _ _,fun b hb=>.inl (List.mem_append_left _ hb),fun b hb=>by have:=kS b (hw1 b hb); omega,zs,hzs,fun z hz=>?_,hg1⟩,⟨_,J0,J1,Zh p4 hbq,(gC.grow pq).grow p4,(gT.grow pq).grow p4,nM,fun hm=>by have:=hJ3 _ hm; omega,fun j hj=>⟨.inl (List.mem_append_right _ hj),?_⟩,fun b hb hm=>?_⟩⟩
    · obtain ⟨K,g1,g2⟩:=hz1 z hz
      refine ⟨K,g1,fun j hj hm=>?_⟩
      rcases List.mem_append.1 hm with h | h
      · exact (g2 j hj).2 h
      · have h1:=kS j (g2 j hj).1
        rcases List.mem_cons.1 h with rfl | h
        · omega
        · have:=hJ3 j h; omega
    · rcases List.mem_cons.1 hj with rfl | h
      · omega
      · have:=hJ j h; omega
    · have h1:=kS b (hw1 b hb)
      rcases List.mem_cons.1 hm with rfl | h
      · omega
      · have:=hJ3 b h; omega
  obtain ⟨v5,X5,hW5,e5⟩:=Zy2 M0 X4 (wfs v0++(X3.length :: (J0++J1))) (.int .i64 a) (.int .i64 (-1)) (.int .i64 0) (.int .i64 0) (.slice none 0 0) M.length (M.length+1) lP k a X3.length wn sz _ cells hk ha hlen hlP4 (fun hm=>by have:=hDm _ hm; omega) aN _ LN (gN.grow ((p3.trans pq).trans p4)) nN (fun j hj hm=>by have h1:=hDm j hm; have:=gN.lt j hj; omega) y3 p04.length_le st (by omega) log (by omega) v0 X4 hW0
  simp only [FsW] at e5
  push_cast at e5
  obtain ⟨hA5,⟨uT5,H0,H1,hb5,gC5,gT5,nd5,hq5,hJ5,hv5⟩⟩:=hW5
  obtain ⟨zs3,hzs3,hz3,hg3⟩:=hA5.zs
  have hrep:=Zya hg3 (fun z hm=>by
    obtain ⟨K,w1,w2⟩:=hz3 z hm
    exact (w1.agree hA5.ag w2).rep)
  rw [hzs3] at hrep
  obtain ⟨k',hk',_,_,_,q3,q4,q1,q5⟩:=Znu hor
  obtain ⟨hcs1,hcs2⟩:=Zve (w:=(wn:Int)) ha hlen hok ⟨Zgh hst,ZjI hst⟩ ⟨q3,q4⟩ q5
  obtain ⟨hxb,hxl⟩:=ZtH ha hlen hok hst (k+1) (Nat.le_refl _)
  have hcl2:=ZvR (wn:Int) cells (2 ^ k+a) k st (k+1)
  have hdat:∀ x ∈ Zl4 wn cells (2 ^ k+a) k st (k+1),List.length (α:=UInt8) x.2.2≤1048576:=fun x hx=>by
    have:=hxb x hx
    unfold ZbS at this
    simp only [Bool.and_eq_true,decide_eq_true_eq] at this
    omega
  have hcz:Zcz (ZpZ wn cells (2 ^ k+a) k st (k+1)):=⟨by omega,fun x hx=>by
    have hi:=hcs2 x hx
    refine hdat x ?_
    rw [← hcs1]
    have aux:∀ z:Int,0≤z→z≤255→Int.toNat z < 256:=fun z h1 h2=>by omega
    exact List.mem_flatMap.2 ⟨Int.toNat x.1,List.mem_range.2 (aux _ hi.1 hi.2),List.mem_filter.2 ⟨hx,decide_eq_true rfl⟩⟩⟩
  have hS5:=ZmX X5 v5 _ hrep hcs2 (by omega) hcz
  rw [hcs1] at hS5
  obtain ⟨a5,hv5s⟩:=hg3.shape
  subst hv5s
  rw [← eX] at hS5 hxb hxl hdat
  obtain ⟨hlt,hrg⟩:ZhP (Znv ((k:Int),(wn:Int),b,(sz,cells,log),st) a)∧Zgv (Znv ((k:Int),(wn:Int),b,(sz,cells,log),st) a):=by
    rw [eX]
    have:∀ i,i≤k+1→ZhP (Zl4 wn cells (2 ^ k+a) k st i)∧Zgv (Zl4 wn cells (2 ^ k+a) k st i):=fun i=>by
      induction i with
      | zero=>exact fun _=>⟨Zgh hst,ZjI hst⟩
      | succ i ih =>
        intro hi
        obtain ⟨g1,g2⟩:=ih (by omega)
        obtain ⟨b1,b2⟩:=ZiA (m:=k) (a:=a) (i:=i) ha (by omega)
        exact Zqa _ _ g1 g2 (ZjI (Zw1 hok b1 (by omega)).1)
    exact this (k+1) (Nat.le_refl _)
  have eR:Zpq ((k:Int),(wn:Int),b,(sz,cells,log),st) a=(ZS k a (Znv ((k:Int),(wn:Int),b,(sz,cells,log),st) a) (k+1)).2:=by unfold Zpq; simp only [hk0,ha0]
  have eP:Zth ((k:Int),(wn:Int),b,(sz,cells,log),st) a=(ZS k a (Znv ((k:Int),(wn:Int),b,(sz,cells,log),st) a) (k+1)).1:=by unfold Zth; simp only [hk0,ha0]
  have eO:ZhN ((k:Int),(wn:Int),b,(sz,cells,log),st) a=wrS wn sz (2 ^ k+a) k (Znv ((k:Int),(wn:Int),b,(sz,cells,log),st) a) (Zth ((k:Int),(wn:Int),b,(sz,cells,log),st) a) cells (lgR sz (2 ^ k+a) k log (k+1)) (k+1):=by unfold ZhN; simp only [hk0,hw0,ha0]
  generalize hXS:Znv ((k:Int),(wn:Int),b,(sz,cells,log),st) a=xs at *
  have hlg':lgB k=true:=by unfold lgB; simp; omega
  have hwd':wdB wn=true:=by unfold wdB; simp; omega
  have hblk:Z4 k wn xs=true:=Zoy hlg' hwd' hxb hlt
  have hxl2:xs.length≤128:=by omega
  have hxz:Zcz xs:=⟨by omega,hdat⟩
  have hev:evB k wn a xs=true:=by unfold evB ZeV; rw [hblk,hlB,decide_eq_true hxl2]; rfl
  have hpmem:=Zp1 k a xs (k+1)
  rw [← eP] at hpmem
  have hsub:∀ j:Nat,j≤k→(Zgp xs (j:Int) (Zth ((k:Int),(wn:Int),b,(sz,cells,log),st) a)).length≤4∧Z4 k wn (Zgp xs (j:Int) (Zth ((k:Int),(wn:Int),b,(sz,cells,log),st) a))=true:=fun j hj=>by
    obtain ⟨s1,s2⟩:=Zr8 (m:=k) (leaf:=a) hlt hj
    rw [← eP] at s1 s2
    exact ⟨s2,Zoy hlg' hwd' (fun b hb=>hxb b (s1.subset hb)) (hlt.sublist s1)⟩
  simp [apA,e5]
  rw [ZiN]; unfold Zdb; simp [apA]
  generalize hx:Zb T0 JU _ _=xhx
  obtain ⟨v6,X6,rfl,L6,p6,g6,n6,k6⟩:=ZQ hx hS5
  clear hx
  simp only at p6 g6
  obtain ⟨a6,hv6⟩:=g6.shape
  subst hv6
  have hbo5:=Zh hA5.pre hbo
  have r16:rd1 X6 M.length 1=some (.int .i64 (wn:Int)):=Jw (Zh p6 hbo5) rfl
  have r06:=fun N:Mem=>Jw (k:=0) (Zw (N:=N) (Zh p6 hbo5)) rfl
  have r16':=fun N:Mem=>Jw (k:=1) (Zw (N:=N) (Zh p6 hbo5)) rfl
  have hwn0:(0:Int)≤(wn:Int):=by omega
  have hmk1:(wn:Int)≤281474976710656:=by omega
  have hmk2:(wn:Int)≤9223372036854775807:=by omega
  have hEP:=fun N:Mem=>ZiY (X6++N) _ xs k wn a (g6.grow (List.prefix_append X6 N)).rep hxz
  simp only [hk0,ha0] at hEP
  rw [← eP] at hEP
  simp [apA,r16,r06,r16',hwn0,hmk1,hmk2]
  generalize hx:Zb T0 QD _ _=xhx
  rcases hEP [(⟨zc (.int .u8 0) wn,1,2⟩:Blk)] with ⟨hfE,_⟩ | ⟨_,hSP⟩
  · rw [hev] at hfE; cases hfE
  obtain ⟨vp,X7,rfl,Lp,p7,g7,n7,k7⟩:=ZQ hx hSP
  clear hx
  simp only at p7 g7
  obtain ⟨ap,hvp⟩:=g7.shape
  subst hvp
  have p67:=(List.prefix_append X6 [(⟨zc (.int .u8 0) wn,1,2⟩:Blk)]).trans p7
  have p57:=p6.trans p67
  have h56:=p6.length_le
  have h67:=p67.length_le
  have hwS:IntKind.i64.wrap ((k:Int)+1 - 1)=(k:Int):=by rw [Zd (by omega) (by omega)]; omega
  have hwS2:IntKind.i64.wrap (k:Int)=(k:Int):=Zd (by omega) (by omega)
  have hX5W:∀ j ∈ X3.length :: (H0++H1),j < X5.length∧M0.length≤j∧j ≠ lP:=fun j hj=>by
    obtain ⟨h1,h2⟩:=hJ5 j hj
    refine ⟨?_,h2,fun e=>?_⟩
    · rcases List.mem_cons.1 hj with rfl | h
      · exact ZI hb5
      · rcases List.mem_append.1 h with h | h
        · exact gC5.lt j h
        · exact gT5.lt j h
    · subst e
      rcases h1 with h1 | h1
      · have:=hDm _ h1; omega
      · have:=ZI hlP4; omega
  have hQ0:MqI X7 (X3.length :: (H0++H1)) X3.length sz (.slice a1 cells.length cells.length) cells (lgR sz (2 ^ k+a) k log (k+1)) X7:=⟨uT5,H0,H1,Zh p57 hb5,gC5.grow p57,gT5.grow p57,nd5,hq5,Zsm _ _,fun j hj=>.inl hj⟩
  have hlP5:=hA5.ag.get hlP4 (fun hm=>by have:=hDm _ hm; omega)
  have pM07:M0 <+: X7:=hA5.pre.trans p57
  obtain ⟨X8,hQ8,e8⟩:=ZAH X7 (X3.length :: (H0++H1)) (.int .i64 a) M.length (M.length+1) lP k a X3.length wn sz (.slice a1 cells.length cells.length) (.slice (some ⟨X6.length,0,none⟩) wn wn) hk ha hw (Zh p57 hlP5) (fun hm=>(hX5W _ hm).2.2 rfl) y3 _ (Zh pM07 hbo) (fun hm=>by have:=(hX5W _ hm).2.1; omega) rfl rfl a6 xs.length xs L6 (g6.grow p67) (fun j hj hm=>by have:=k6 j hj; have:=(hX5W j hm).1; omega) hxl2 hxz ap _ _ Lp g7 (fun j hj hm=>by have h1:=k7 j hj; simp at h1; have:=(hX5W j hm).1; omega) (by omega) hpmem.2 hsub cells _ hlen (by rw [Zox]; omega) X7 hQ0
  rw [← eO] at hQ8
  obtain ⟨uT8,G0,G1,hb8,gC8,gT8,nd8,hq8,ag8,hV8⟩:=hQ8
  have pM08:M0 <+: X8:=ag8.pre pM07 (fun j hj=>(hX5W j hj).2.1)
  have g68:=(g6.grow p67).agree ag8 (fun j hj hm=>by have:=k6 j hj; have:=(hX5W j hm).1; omega)
  have hER:=ZmO X8 _ xs g68.rep hxz k wn a hev
  rw [hk0,ha0,← eR] at hER
  have hbo8:=Zh pM08 hbo
  have s0:=Jw (k:=0) hbo8 rfl
  have s1:=Jw (k:=1) hbo8 rfl
  have t0:=fun N:Mem=>Jw (k:=0) (Zw (N:=N) (Zh p6 hbo5)) rfl
  simp [apA,hwS,hwS2,e8]
  rw [Zi0]; unfold Zc3; simp [apA,s0,s1]
  generalize hx:Zb T0 Zbf _ _=xhx
  obtain ⟨vR,X9,rfl,L9,p9,g9,n9,k9⟩:=ZQ hx hER
  clear hx
  simp only at p9 g9
  obtain ⟨a9,hvR⟩:=g9.shape
  subst hvR
  have pM09:=pM08.trans p9
  have hbo9:=Zh pM09 hbo
  have c2:rd1 X9 M.length 2=some (.int .i64 b):=Jw hbo9 rfl
  have c0:rd1 X9 M.length 0=some (.int .i64 k):=Jw hbo9 rfl
  have c1:rd1 X9 M.length 1=some (.int .i64 wn):=Jw hbo9 rfl
  have hz9:=ZxY (Zh pM09 hbz0)
  have pM9:=hpre.trans pM09
  by_cases hbd:b < ((Zpq ((k:Int),(wn:Int),b,(sz,cells,log),st) a).length:Int)
  · have hc:dmC ((k:Int),(wn:Int),b,(sz,cells,log),st) a=3:=by rw [hdc]; unfold acC; rw [if_neg hf,if_pos hbd]
    simp [apA,c2,hbd,hz9.1,hz9.2]
    exact ⟨_,rfl,ZG4 hc (by decide) pM9⟩
  have hc:dmC ((k:Int),(wn:Int),b,(sz,cells,log),st) a=0:=by rw [hdc]; unfold acC; rw [if_neg hf,if_neg hbd]
  obtain ⟨aT8,hT8⟩:=gT8.shape
  subst hT8
  have hdO:dmO ((k:Int),(wn:Int),b,(sz,cells,log),st) a=((k:Int),(wn:Int),b,(sz,(ZhN ((k:Int),(wn:Int),b,(sz,cells,log),st) a).1,(ZhN ((k:Int),(wn:Int),b,(sz,cells,log),st) a).2),Zpq ((k:Int),(wn:Int),b,(sz,cells,log),st) a):=by unfold dmO; rw [if_pos hc]
  have m3:rdn X9 X3.length 0 3=some [.int .i64 sz,.slice a1 cells.length cells.length,.slice aT8 (ZhN ((k:Int),(wn:Int),b,(sz,cells,log),st) a).2.length (ZhN ((k:Int),(wn:Int),b,(sz,cells,log),st) a).2.length]:=Zfv (Zh p9 hb8) (by simp) rfl
  have gC9:=gC8.grow p9
  have gT9:=gT8.grow p9
  have hbz9:=Zh pM09 hbz0
  have hnm:∀ j ∈ (G0++G1)++L9,M.length+2≤j:=fun j hj=>by
    have h78:=ag8.1
    have h07:=pM07.length_le
    rcases List.mem_append.1 hj with h | h
    · rcases hV8 j (List.mem_cons_of_mem _ h) with h1 | h1
      · have:=(hX5W j h1).2.1; omega
      · omega
    · have:=k9 j h; omega
  generalize (ZhN ((k:Int),(wn:Int),b,(sz,cells,log),st) a).1=out1 at *
  generalize (ZhN ((k:Int),(wn:Int),b,(sz,cells,log),st) a).2=out2 at *
  generalize hRs:Zpq ((k:Int),(wn:Int),b,(sz,cells,log),st) a=rs at *
  obtain ⟨W4,hW4,e12⟩:∃ W4,W4=X9.set (M.length+1) ⟨[.int .i64 k,.int .i64 wn,.int .i64 b,.int .i64 sz,.slice a1 cells.length cells.length,.slice aT8 out2.length out2.length,.slice a9 rs.length rs.length],1,2⟩∧wrn X9 (M.length+1) 0 [.int .i64 k,.int .i64 wn,.int .i64 b,.int .i64 sz,.slice a1 cells.length cells.length,.slice aT8 out2.length out2.length,.slice a9 rs.length rs.length]=some W4:=⟨_,rfl,by rw [ZdU hbz9 rfl (by simp) rfl]; rfl⟩
  have hb4:W4[M.length+1]?=some ⟨[.int .i64 k,.int .i64 wn,.int .i64 b,.int .i64 sz,.slice a1 cells.length cells.length,.slice aT8 out2.length out2.length,.slice a9 rs.length rs.length],1,2⟩:=by rw [hW4]; exact ZbN hbz9 _
  have e13:rdn W4 (M.length+1) 0 7=some [.int .i64 k,.int .i64 wn,.int .i64 b,.int .i64 sz,.slice a1 cells.length cells.length,.slice aT8 out2.length out2.length,.slice a9 rs.length rs.length]:=Zfv hb4 (by simp) rfl
  have pW:M <+: W4:=by rw [hW4]; exact QQ (by omega) pM9
  have gC4:Gr (.sl Zi) W4 [.slice a1 cells.length cells.length] out1 G0:=by rw [hW4]; exact gC9.set _ (fun hm=>by have:=hnm _ (List.mem_append_left _ (List.mem_append_left _ hm)); omega)
  have gT4:Gr (.sl Zf) W4 [.slice aT8 out2.length out2.length] out2 G1:=by rw [hW4]; exact gT9.set _ (fun hm=>by have:=hnm _ (List.mem_append_left _ (List.mem_append_right _ hm)); omega)
  have gR4:Gr (.sl Za) W4 [.slice a9 rs.length rs.length] rs L9:=by rw [hW4]; exact g9.set _ (fun hm=>by have:=hnm _ (List.mem_append_right _ hm); omega)
  clear hW4
  simp [apA,c2,c0,c1,hbd,m3,e12,e13]
  refine ⟨_,rfl,[.int .i64 k,.int .i64 wn,.int .i64 b,.int .i64 sz,.slice a1 cells.length cells.length,.slice aT8 out2.length out2.length,.slice a9 rs.length rs.length],_,by rw [hc],rfl,pW,?_⟩
  rw [hdO]
  obtain ⟨J0',oC,sC⟩:=gC4.own
  obtain ⟨J1',oT,sT⟩:=gT4.own
  obtain ⟨J2',oR,sR⟩:=gR4.own
  refine ⟨_,Ze0 (x:=((k:Int),(wn:Int),b,(sz,out1,out2),rs)) y0 y1 y2 y3 oC oT oR,fun j hj=>?_⟩
  have:=hnm j (((sC.append sT).append sR).subset hj)
  omega
def DsV (M:Mem) (x:Zx.D) (lf:Int) (p:V × Mem):Prop:=∃ cs:List V,p.1=.tuple #[.agg cs.toArray,.int .i64 (dmC x lf)]∧M <+: p.2∧Rep Zx p.2 cs (dmO x lf)
theorem ZG3 {M X:Mem} {x:Zx.D} {lf:Int} (h1:dmC x lf=1) (hp:M <+: X):DsV M x lf (.tuple #[.agg #[.int .i64 0,.int .i64 0,.int .i64 0,.int .i64 0,.slice none 0 0,.slice none 0 0,.slice none 0 0],.int .i64 1],X):=by
  have e:dmO x lf=Zm2:=by unfold dmO; rw [if_neg (by rw [h1]; decide)]
  refine ⟨[.int .i64 0,.int .i64 0,.int .i64 0,.int .i64 0,.slice none 0 0,.slice none 0 0,.slice none 0 0],by rw [h1],hp,?_⟩
  rw [e]
  exact (ZCn _).rep
end GoAm
