/- slices.Insert: its end, as one step. Whether there is room in the old row or not, what the abstract memory tells is the same. -/
import Derived.Test.YtlniheedmeaeeaaGreatAmCode
import Derived.Laws.Externs
set_option autoImplicit false
set_option linter.unusedSimpArgs false
set_option linter.unusedVariables false
namespace GoAm
open Go Go.RowKit
section
variable {P:Program} {B:Nat→Nat} {w0:World} {call:Yd}
theorem Zqb (a:Act) {d:Option Nat} (c:V) {k:Nat} (h:d ≠ some k):(a.put d c).tmps[k]?=a.tmps[k]?:=by
  cases d with
  | none=>rfl
  | some d =>
    have hk:d ≠ k:=fun e=>h (by rw [e])
    show (a.tmps.setIfInBounds d c)[k]?=_
    rw [Array.getElem?_setIfInBounds_ne hk]
theorem ZhR (hcall:ZlF P B w0 call) (hB:Inn B w0) {ops:Array Oper} {r:List Oper}:∀ (l:List Oper) (os:List AOper) (ρ:List PB) (M M':Mem) (fr fr':List V) (a:Act) (w:World) (Q:Exit→Act→World→Prop),
    Zca P ops l os=true→Zhn call os fr M=some (fr',M')→StR B ρ M w→Kept B w0 w→FR ρ fr a →
    (∀ (a':Act) (w':World) (ρ':List PB),ρ <+: ρ'→FR ρ' fr' a'→StR B ρ' M' w'→Kept B w0 w'→a'.defers=a.defers→(∀ k,(∀ p ∈ os,p.dst ≠ some k)→a'.tmps[k]?=a.tmps[k]?)→wpList P ops Q r a' w')→wpList P ops Q (l++r) a w
  | [],os,ρ,M,M',fr,fr',a,w,Q,hok,he,hs,hb,hf,hQ=>by
    cases os with
    | cons _ _=>simp [Zca] at hok
    | nil =>
      simp only [Zhn,Option.some.injEq,Prod.mk.injEq] at he
      obtain ⟨rfl,rfl⟩:=he
      exact hQ a w ρ (List.prefix_refl _) hf hs hb rfl (fun _ _=>rfl)
  | o :: l,os,ρ,M,M',fr,fr',a,w,Q,hok,he,hs,hb,hf,hQ=>by
    cases os with
    | nil=>simp [Zca] at hok
    | cons p os =>
      simp only [Zca,Bool.and_eq_true] at hok
      obtain ⟨⟨⟨hd,hc⟩,hg⟩,hok⟩:=hok
      have hd:o.dst=p.dst:=by simpa using hd
      have keep:∀ (c:V) (k:Nat),p.dst ≠ some k→(a.put o.dst c).tmps[k]?=a.tmps[k]?:=fun c k hk=>by
        rw [hd]
        exact Zqb a c hk
      simp only [Zhn] at he
      split at he
      · rename_i hw
        have hwant:=JH hf hg hw
        split at he
        · rename_i v M1 hstep
          rw [List.cons_append]
          unfold wpList
          rw [if_pos hwant]
          left
          refine Zcl hcall hB hs hb hf hc hstep ?_
          intro c w' ρ' h1 h2 h3 h4
          refine ZhR hcall hB l os ρ' M1 M' _ fr' _ w' Q hok he h2 h3 (by rw [hd]; exact ZiX (hf.mono h1) h4 _) ?_
          intro a' w'' ρ'' q1 q2 q3 q4 q5 q6
          exact hQ a' w'' ρ'' (h1.trans q1) q2 q3 q4 (by rw [q5,put_defers]) (fun k hk=>(q6 k (fun q hq=>hk q (List.mem_cons_of_mem _ hq))).trans (keep c k (hk p (by simp))))
        · cases he
      · rename_i hw
        have hwant:=JH hf hg hw
        rw [List.cons_append]
        unfold wpList
        rw [if_neg (by simp [hwant])]
        refine ZhR hcall hB l os ρ M M' _ fr' _ w Q hok he hs hb (by rw [hd]; exact ZiX hf .skp _) ?_
        intro a' w'' ρ'' q1 q2 q3 q4 q5 q6
        exact hQ a' w'' ρ'' q1 q2 q3 q4 (by rw [q5,put_defers]) (fun k hk=>(q6 k (fun q hq=>hk q (List.mem_cons_of_mem _ hq))).trans (keep undef k (hk p (by simp))))
      · cases he
theorem Zj1 {ops:Array Oper} {o:Oper} {r:List Oper} {a:Act} {w w':World} {c:V} {Q:Exit→Act→World→Prop} (hg:o.guard.isNone=true) (hr:(execOp a.eval o).run P w=.ok (.value c) w') (h:wpList P ops Q r (a.put o.dst c) w') :
    wpList P ops Q (o :: r) a w:=by
  have hg':o.guard=none:=by cases hh:o.guard <;> simp_all
  have hwant:Region.wanted o (yielded ops a.tmps)=true:=by simp [Region.wanted,hg']
  unfold wpList
  rw [if_pos hwant]
  left
  unfold Oper.wp
  rw [hr,Oper.upon_value]
  exact h
theorem ZnU (hcall:ZlF P B w0 call) (hB:Inn B w0) {id:Nat} {ops:Array Oper} {y:Code} {os:List AOper} {ρ:List PB} {M M':Mem} {fr fr':List V} {a:Act} {w:World} {Q:Exit→Act→World→Prop}
    (hok:Zca P ops ops.toList os=true) (he:Zhn call os fr M=some (fr',M')) (hs:StR B ρ M w) (hb:Kept B w0 w) (hf:FR ρ fr a)
    (hQ:∀ (a':Act) (w':World) (ρ':List PB),ρ <+: ρ'→FR ρ' fr' a'→StR B ρ' M' w'→Kept B w0 w'→a'.defers=a.defers→y.wp P Q a' w'):(Code.seq (.region id ops false) y).wp P Q a w:=by
  apply wp_seq
  exact wp_region_list (Zlj hcall hB ops.toList os ρ M M' fr fr' a w _ hok he hs hb hf fun a' w' ρ' q1 q2 q3 q4 q5=>hQ a' w' ρ' q1 q2 q3 q4 q5)
theorem ZtM {dr:Array Oper→List AOper→Bool} (hdr:Zkf P B w0 call dr) {id:Nat} {ops:Array Oper} {y:Code} {os:List AOper} {ρ:List PB} {M M':Mem} {fr fr':List V} {a:Act} {w:World} {Q:Exit→Act→World→Prop}
    (hok:dr ops os=true) (he:JP call [] [] os fr M=some (fr',M')) (hs:StR B ρ M w) (hb:Kept B w0 w) (hf:FR ρ fr a)
    (hQ:∀ (a':Act) (w':World) (ρ':List PB),ρ <+: ρ'→FR ρ' fr' a'→StR B ρ' M' w'→Kept B w0 w'→a'.defers=a.defers→y.wp P Q a' w'):(Code.seq (.region id ops true) y).wp P Q a w:=by
  apply wp_seq
  obtain ⟨hm,h⟩:=hdr id ops os ρ M M' fr fr' a w (Exit.then (y.wp P Q) Q) hok he hs hb hf fun a' w' ρ' q1 q2 q3 q4 q5=>hQ a' w' ρ' q1 q2 q3 q4 q5
  exact wp_region_any hm h
theorem StR.rename {ρ:List PB} {M:Mem} {w:World} (hs:StR B ρ M w) {l of:Nat} {b:Blk} {p:PB} (hb:M[l]?=some b) (hp:ρ[l]?=some p) (hst:b.st=2) (ho:of≤b.cells.length) (d0:List V) :
    StR B (ρ++[⟨p.blk,p.base+of,p.tot,p.w,false⟩]) (M.set l ⟨d0,b.w,0⟩++[⟨b.cells.drop of,b.w,2⟩]) w:=by
  have hk:=hs.upd hb hp hst (b':=⟨d0,b.w,0⟩) (.inr rfl) rfl (by simp) (w':=w) (fun _ _=>rfl)
  obtain ⟨hv,cs,T,fr,h1,h2,h3,h4,h5⟩:=hs.blk l b p hb hp (.inr hst)
  have hpre:ρ <+: ρ++[⟨p.blk,p.base+of,p.tot,p.w,false⟩]:=List.prefix_append _ _
  have hML:(M.set l ⟨d0,b.w,0⟩).length=M.length:=by simp
  have both:∀ (j:Nat) (d:Blk) (q:PB),(M.set l ⟨d0,b.w,0⟩++[⟨b.cells.drop of,b.w,2⟩])[j]?=some d→(ρ++[⟨p.blk,p.base+of,p.tot,p.w,false⟩])[j]?=some q →
      ((M.set l ⟨d0,b.w,0⟩)[j]?=some d∧ρ[j]?=some q)∨(j=M.length∧d=⟨b.cells.drop of,b.w,2⟩∧q=⟨p.blk,p.base+of,p.tot,p.w,false⟩):=by
    intro j d q hd' hq
    rcases QF hd' with ⟨hl,hd'⟩ | ⟨hl,hd'⟩
    · left; rcases QF hq with ⟨hl',hq⟩ | ⟨hl',hq⟩
      · exact ⟨hd',hq⟩
      · rw [hs.len] at hl'; rw [hML] at hl; omega
    · right; rcases QF hq with ⟨hl',hq⟩ | ⟨hl',hq⟩
      · rw [hs.len] at hl'; rw [hML] at hl; omega
      · rw [hML] at hl; exact ⟨hl,hd',hq⟩
  have alive:∀ (j:Nat) (d:Blk) (q:PB),(M.set l ⟨d0,b.w,0⟩)[j]?=some d→ρ[j]?=some q→(d.st=1∨d.st=2)→q.blk ≠ p.blk:=by
    intro j d q hd' hq hs'
    rcases ZsW hd' with ⟨rfl,rfl⟩ | ⟨hne,hd'⟩
    · simp at hs'
    · exact fun e=>hs.apart l j b d p q (fun e=>hne e.symm) hb hd' hp hq hst hs' e.symm
  refine ⟨by simp [hs.len],?_,?_,?_,?_,?_,?_⟩
  · intro j d q hd' hq
    rcases both j d q hd' hq with ⟨hd',hq⟩ | ⟨_,rfl,rfl⟩
    · exact hk.wd j d q hd' hq
    · exact hs.wd l b p hb hp
  · intro j d q hd' hq hs'
    rcases both j d q hd' hq with ⟨hd',hq⟩ | ⟨_,rfl,rfl⟩
    · exact hk.vd j d q hd' hq hs'
    · simp at hs'
  · intro j d q hd' hq hs'
    rcases both j d q hd' hq with ⟨hd',hq⟩ | ⟨_,rfl,rfl⟩
    · exact ⟨(hk.blk j d q hd' hq hs').1,(hk.blk j d q hd' hq hs').2.mono hpre rfl⟩
    · refine ⟨rfl,cs,T,fr,h1,h2,?_,?_,fun _=>h5 hst⟩
      · show p.base+of+(b.cells.drop of).length≤_
        rw [List.length_drop]
        omega
      · intro i v hi
        change (b.cells.drop of)[i]?=some v at hi
        rw [List.getElem?_drop] at hi
        obtain ⟨x1,c,x2,x3⟩:=h4 _ v hi
        exact ⟨x1,c,by rw [← x2]; show cs[p.base+of+i]?=_; congr 1; omega,x3.mono hpre⟩
  · intro j d q hd' hq hs'
    rcases both j d q hd' hq with ⟨hd',hq⟩ | ⟨_,rfl,rfl⟩
    · exact hk.own j d q hd' hq hs'
    · exact hs.own l b p hb hp hst
  · intro j d q hd' hq hs'
    rcases both j d q hd' hq with ⟨hd',hq⟩ | ⟨_,rfl,rfl⟩
    · exact hk.ro j d q hd' hq hs'
    · simp at hs'
  · intro j j' d d' q q' hne hd1 hd2 hq1 hq2 hs1 hs2
    rcases both j d q hd1 hq1 with ⟨hd1,hq1⟩ | ⟨hj,rfl,rfl⟩ <;> rcases both j' d' q' hd2 hq2 with ⟨hd2,hq2⟩ | ⟨hj',rfl,rfl⟩
    · exact hk.apart j j' d d' q q' hne hd1 hd2 hq1 hq2 hs1 hs2
    · exact alive j d q hd1 hq1 (.inr hs1)
    · exact fun e=>alive j' d' q' hd2 hq2 hs2 e.symm
    · omega
theorem ZDp {w:World} {tS e:TypeId} {ps rs:Array TypeId} (hp:ps[0]?=some tS) (ht:P.underlying tS=some (.slice e)) {size:Nat} (hz:∀ w,(Go.sizeOf e).run P w=.ok size w)
    (a b:Addr) (la ca lb cb:Nat) (hne:a.block ≠ b.block) (tA tB:TypeId) (kA kB:Nat)
    (hsa:w.shape? a.block=some (tA,kA)) (hsb:w.shape? b.block=some (tB,kB)) (hkA:kA ≠ 0) (hkB:kB ≠ 0)
    (hfb:w.frozen? b=false) (hfe:w.frozen? { block:=b.block,off:=kB }=false) :
    (Extern.SlicesOverlaps.overlaps ps rs #[.slice (some a) la ca,.slice (some b) lb cb]).run P w=.ok (.bool false) w:=by
  have hnb:(a.block != b.block)=true:=by simpa using hne
  have hnb':(a.block == b.block)=false:=by simpa using hne
  change Sem.run P (α:=Value) (do
    let some t := ps[0]? | stuck "slices.overlaps: no parameter types"
    let .slice elem ← underlying t | stuck "slices.overlaps: slice type expected"
    let size ← sizeOf elem
    match (some a:Option Addr),(some b:Option Addr) with
    | some a,some b =>
      if la=0∨lb=0∨size=0 then pure (Value.bool false)
      else if a.block != b.block && (← frozen a) && (← frozen b) then unsupported .addressObserved
      else do
        if a.block != b.block then do
          noView a; noView b
          if ← mayBeOne a b then return Value.bool ((← choose (.extern "sameAddr.stringBytes" 2)) == 1)
        pure (Value.bool (a.block == b.block && a.off < b.off+lb * size && b.off < a.off+la * size))
    | _,_=>pure (Value.bool false)) w=_
  by_cases h0:la=0∨lb=0∨size=0
  · simp [hp,run_underlying ht,hz,h0]
  · cases kB with
    | zero=>exact absurd rfl hkB
    | succ kB =>
      cases kA with
      | zero=>exact absurd rfl hkA
      | succ kA =>
        cases hx:w.frozen? a <;> cases hy:w.frozen? { block:=a.block,off:=kA+1 } <;>
          simp [hp,run_underlying ht,hz,h0,hnb,hnb',frozen,noView,viewAt,mayBeOne,stringish,shape,Sem.run,hsa,hsb,hfb,hfe,hx,hy]
theorem ZzP {fn : Func} (h1 : (Extern.allGenericRows.lookup fn.name).isNone = true) (h2 : (Extern.allTypedRows.lookup fn.name).isNone = true) (h3 : (Extern.allRows.lookup fn.name).isNone = true) (h4 : fn.origin = "slices.overlaps") :
    Extern.find fn=some (Extern.SlicesOverlaps.overlaps fn.params fn.resultTypes):=by
  have e1:=Option.isNone_iff_eq_none.1 h1
  have e2:=Option.isNone_iff_eq_none.1 h2
  have e3:=Option.isNone_iff_eq_none.1 h3
  have e4 : Extern.allGenericRows.lookup "slices.overlaps" = none := by kernel_rfl
  have e5 : Extern.allTypedRows.lookup "slices.overlaps" = some Extern.SlicesOverlaps.overlaps := by kernel_rfl
  unfold Extern.find
  simp [e1,e2,e3,h4,e4,e5]
structure InF (s v:V) (i n:Nat) (fr:List V):Prop where
  len:fr.length=95
  h0:fr[0]?=some s
  h1:fr[1]?=some (.int .i64 i)
  h2:fr[2]?=some v
  h7:fr[7]?=some (.int .i64 ((1:Nat):Int))
  h8:fr[8]?=some (.int .i64 n)
theorem InF.set {s v:V} {i n:Nat} {fr:List V} (h:InF s v i n fr) {d:Nat} (hd:9≤d) (x:V):InF s v i n (fr.set d x) :=
  ⟨by rw [List.length_set]; exact h.len,by rw [List.getElem?_set_ne (by omega)]; exact h.h0,by rw [List.getElem?_set_ne (by omega)]; exact h.h1,by rw [List.getElem?_set_ne (by omega)]; exact h.h2,
    by rw [List.getElem?_set_ne (by omega)]; exact h.h7,by rw [List.getElem?_set_ne (by omega)]; exact h.h8⟩
theorem InF.seti {s v:V} {i n:Nat} {fr:List V} (h:InF s v i n fr) (s':V):InF s' v i n (fr.set 0 s') :=
  ⟨by rw [List.length_set]; exact h.len,by simp [h.len],by rw [List.getElem?_set_ne (by omega)]; exact h.h1,by rw [List.getElem?_set_ne (by omega)]; exact h.h2,
    by rw [List.getElem?_set_ne (by omega)]; exact h.h7,by rw [List.getElem?_set_ne (by omega)]; exact h.h8⟩
theorem ZBp {x:Int} (h1:0≤x) (h2:x≤9223372036854775807):IntKind.i64.wrap x=x:=by
  simp [IntKind.wrap,IntKind.min,IntKind.max,IntKind.signed,IntKind.bits]
  omega
theorem Zq6 {fr:List V} {x:Nat} {v:V} (h:fr[x]?=some v):ev fr (.t x)=v:=by simp [ev,List.getD_eq_getElem?_getD,h]
theorem ZW {d:Nat} {op:AOp} {os:List AOper} {fr:List V} {M M':Mem} {v:V} (h:Ze call fr M op=some (v,M')):Zhn call (⟨some d,op,none⟩ :: os) fr M=Zhn call os (fr.set d v) M':=by
  rw [Zhn]
  simp only [Zbh,h,JC]
theorem Jp {d:Nat} {op:AOp} {os:List AOper} {R:List Nat} {fr:List V} {M:Mem} {v:V} (hw:wfp fr op=[]) (h:Ze call fr M op=some (v,M)):JP call R [] (⟨some d,op,none⟩ :: os) fr M=JP call (rfp fr op++R) [] os (fr.set d v) M:=by
  have hh:Zfx (rfp fr op) []=false:=by simp [Zfx]
  rw [JP]
  simp only [Zbh,h,hh,hw,JC,List.nil_append,List.prefix_refl,true_or,if_true,Bool.false_eq_true,if_false]
theorem ZrI {d:Nat} {op:AOp} {R:List Nat} {fr:List V} {M M':Mem} {v:V} (hs:Zea op=true) (h:Ze call fr M op=some (v,M')):JP call R [] [⟨some d,op,none⟩] fr M=some (fr.set d v,M'):=by
  have hh:Zfx (rfp fr op) []=false:=by simp [Zfx]
  rw [JP]
  simp only [Zbh,h,hh,hs,JC,Zp6,List.all_nil,Bool.and_self,true_or,or_true,if_true,Bool.false_eq_true,if_false,JP]
theorem Zce {fr:List V} {M:Mem} {x:Nat} {v:V} (h:fr[x]?=some v):Ze call fr M (.mv (.t x))=some (v,M):=by simp [Ze,Zq6 h]
theorem ZpB {fr:List V} {M:Mem} {x y:Nat} {a b:Nat} (hx:fr[x]?=some (.int .i64 a)) (hy:fr[y]?=some (.int .i64 b)) (h:a+b≤9223372036854775807):Ze call fr M (.bin .add (.t x) (.t y))=some (.int .i64 ((a+b:Nat):Int),M):=by
  have e:=ZBp (x:=(a:Int)+b) (by omega) (by omega)
  simp [Ze,Zq6 hx,Zq6 hy,ZgQ,e]
theorem ZEy {fr:List V} {M:Mem} {x y:Nat} {a b:Nat} (hx:fr[x]?=some (.int .i64 a)) (hy:fr[y]?=some (.int .i64 b)) (hb:b≤a) (h:a≤9223372036854775807):Ze call fr M (.bin .sub (.t x) (.t y))=some (.int .i64 ((a - b:Nat):Int),M):=by
  have e:=ZBp (x:=(a:Int) - b) (by omega) (by omega)
  simp [Ze,Zq6 hx,Zq6 hy,ZgQ,e]
  omega
theorem ZEk {fr:List V} {M:Mem} {x y:Nat} {a b:Nat} (hx:fr[x]?=some (.int .i64 a)) (hy:fr[y]?=some (.int .i64 b)):Ze call fr M (.bin .gtr (.t x) (.t y))=some (.bool (decide (b < a)),M):=by
  simp [Ze,Zq6 hx,Zq6 hy,ZgQ]
theorem ZrT {fr:List V} {M:Mem} {x y wd l o n c i:Nat} {k:Blk} (hx:fr[x]?=some (.slice (some ⟨l,o,none⟩) n c)) (hy:fr[y]?=some (.int .i64 i)) (hi:i≤n) (hk:M[l]?=some k) (hw:k.w=wd) :
    Ze call fr M (.slc wd (.t x) (some (.t y)) none)=some (.slice (some ⟨l,o+i * wd,none⟩) (n - i) (max n c - i),M):=by
  have h1:(0:Int)≤(i:Int)∧(i:Int)≤(n:Int)∧((n:Int)≤(n:Int)∨(n:Int)≤(c:Int)):=by omega
  have h2:((n:Int) - (i:Int)).toNat=n - i:=by omega
  simp only [Ze,Zq6 hx,ZhM,Zq6 hy,hk,hw,if_true,Int.toNat_natCast,h2]
  rw [if_pos h1]
theorem ZGj {fr:List V} {M:Mem} {x y wd l o n c i:Nat} {k:Blk} (hx:fr[x]?=some (.slice (some ⟨l,o,none⟩) n c)) (hy:fr[y]?=some (.int .i64 i)) (hi:i≤n∨i≤c) (hk:M[l]?=some k) (hw:k.w=wd) :
    Ze call fr M (.slc wd (.t x) none (some (.t y)))=some (.slice (some ⟨l,o,none⟩) i (max n c),M):=by
  have h1:(0:Int)≤(0:Int)∧(0:Int)≤(i:Int)∧((i:Int)≤(n:Int)∨(i:Int)≤(c:Int)):=by omega
  simp only [Ze,Zq6 hx,ZhM,Zq6 hy,hk,hw,if_true]
  rw [if_pos h1]
  simp
theorem Zqj {fr:List V} {M M':Mem} {x y wd l o n c m d:Nat} {b:Option Addr} {cs:List V} (hx:fr[x]?=some (.slice (some ⟨l,o,none⟩) n c)) (hy:fr[y]?=some (.slice b m d)) {k:Nat} (hs:Zj M wd (.slice b (min m n) 0)=some (k,cs)) (hne:cs ≠ [])
    (hw:(wrn M l o cs).or (wre wd M l o cs)=some M'):Ze call fr M (.copy wd (.t x) (.t y))=some (.int .i64 k,M'):=by
  simp only [Ze,Zq6 hx,Zq6 hy,hs]
  rw [if_neg hne,hw]
  rfl
theorem Zw6 {M:Mem} {l o:Nat} {vs:List V} {b:Blk} (hb:M[l]?=some b) (h2:b.st=2) (h3:o+vs.length≤b.cells.length) (h4:vs.all one=true):wrn M l o vs=some (M.set l { b with cells:=splice b.cells o vs }):=by
  unfold wrn
  rw [hb]
  simp only
  rw [if_pos ⟨h2,h3,h4⟩]
theorem ZEP {M:Mem} {l o:Nat} {vs:List V} {b:Blk} (hb:M[l]?=some b) (h3:b.cells.length < o+vs.length):wrn M l o vs=none:=by
  unfold wrn
  rw [hb]
  simp only
  rw [if_neg (by omega)]
theorem ZFe {wd:Nat} {M:Mem} {l o:Nat} {vs:List V} {b:Blk} (hb:M[l]?=some b) (h2:b.st=2) (hw:b.w=wd) (h3:o≤b.cells.length) (h5:b.cells.length≤o+vs.length) (h4:vs.all one=true):wre wd M l o vs=some (M.set l { b with cells:=b.cells.take o++vs }):=by
  unfold wre
  rw [hb]
  simp only
  rw [if_pos ⟨h2,hw,h3,h5,h4⟩]
section
variable {s v:V} {i n wd:Nat} {fr:List V} {M:Mem}
theorem e8 (h:InF s v i n fr) (hn:n+1≤9223372036854775807):∃ fr',Zhn call a8 fr M=some (fr',M)∧InF s v i n fr'∧fr'[28]?=some (.int .i64 ((n+1:Nat):Int)):=by
  have k1:=h.set (d:=26) (by omega) (.int .i64 n)
  have k2:=k1.set (d:=27) (by omega) (.int .i64 ((1:Nat):Int))
  refine ⟨_,?_,k2.set (d:=28) (by omega) (.int .i64 ((n+1:Nat):Int)),by simp [h.len]⟩
  rw [a8,ZW (Zce h.h8),ZW (Zce k1.h7),ZW (ZpB (x:=26) (y:=27) (a:=n) (b:=1) (by simp [JC,h.len]) (by simp [JC,h.len]) hn)]
  rfl
theorem e8b (h:InF s v i n fr) {c:Nat} (h28:fr[28]?=some (.int .i64 ((n+1:Nat):Int))) (h30:fr[30]?=some (.int .i64 (c:Int))):∃ fr',Zhn call a8b fr M=some (fr',M)∧InF s v i n fr'∧fr'[31]?=some (.bool (decide (c < n+1))):=by
  refine ⟨_,?_,h.set (d:=31) (by omega) (.bool (decide (c < n+1))),by simp [h.len]⟩
  rw [a8b,ZW (ZEk h28 h30)]
  rfl
theorem e9a (h:InF s v i n fr):∃ fr',Zhn call a9a fr M=some (fr',M)∧InF s v i n fr'∧fr'[33]?=some (.int .i64 (i:Int)) :=
  ⟨_,by rw [a9a,ZW (Zce h.h1)]; rfl,h.set (d:=33) (by omega) (.int .i64 (i:Int)),by simp [h.len]⟩
theorem e9 (h:InF s v i n fr) (hn:n+1≤9223372036854775807) (hi:i < n):∃ fr',Zhn call a9 fr M=some (fr',M)∧InF s v i n fr'∧fr'[39]?=some (.int .i64 ((n+1 - i:Nat):Int)):=by
  have k1:=h.set (d:=35) (by omega) (.int .i64 n)
  have k2:=k1.set (d:=36) (by omega) (.int .i64 ((1:Nat):Int))
  have k3:=k2.set (d:=37) (by omega) (.int .i64 ((n+1:Nat):Int))
  have k4:=k3.set (d:=38) (by omega) (.int .i64 (i:Int))
  refine ⟨_,?_,k4.set (d:=39) (by omega) (.int .i64 ((n+1 - i:Nat):Int)),by simp [h.len]⟩
  rw [a9,ZW (Zce h.h8),ZW (Zce k1.h7),ZW (ZpB (x:=35) (y:=36) (a:=n) (b:=1) (by simp [JC,h.len]) (by simp [JC,h.len]) hn),ZW (Zce k3.h1),
    ZW (ZEy (x:=37) (y:=38) (a:=n+1) (b:=i) (by simp [JC,h.len]) (by simp [JC,h.len]) (by omega) hn)]
  rfl
theorem e9b (h:InF s v i n fr) {s2:V} (h40:fr[40]?=some s2):∃ fr',Zhn call a9b fr M=some (fr',M)∧InF s v i n fr'∧fr'[9]?=some s2 :=
  ⟨_,by rw [a9b,ZW (Zce h40)]; rfl,h.set (d:=9) (by omega) s2,by simp [h.len]⟩
theorem e10 {b2:Option Addr} {c2 L:Nat} {cells ys:List V} (h:InF s (.slice b2 1 c2) i n fr) (h9:fr[9]?=some (.slice (some ⟨L,0,none⟩) (n+1) (n+1))) (hk:M[L]?=some ⟨cells,wd,2⟩) (hcl:cells.length=(n+1) * wd) (hin:i < n)
    (hsc:Zj M wd (.slice b2 1 0)=some (1,ys)) (hyl:ys.length=wd) (hone:ys.all one=true) (hw0:0 < wd) :
    ∃ fr',Zhn call (a10 wd) fr M=some (fr',M.set L ⟨splice cells (i * wd) ys,wd,2⟩)∧InF s (.slice b2 1 c2) i n fr'∧fr'[9]?=some (.slice (some ⟨L,0,none⟩) (n+1) (n+1)):=by
  have k1:=h.set (d:=41) (by omega) (.slice (some ⟨L,0,none⟩) (n+1) (n+1))
  have k2:=k1.set (d:=42) (by omega) (.int .i64 (i:Int))
  have k3:=k2.set (d:=43) (by omega) (.slice (some ⟨L,0+i * wd,none⟩) (n+1 - i) (max (n+1) (n+1) - i))
  have k4:=k3.set (d:=44) (by omega) (.slice b2 1 c2)
  have hmin:min 1 (n+1 - i)=1:=by omega
  have hle:i * wd+wd≤(n+1) * wd:=by
    rw [← Nat.succ_mul]
    exact Nat.mul_le_mul_right _ (by omega)
  have hwr:wrn M L (0+i * wd) ys=some (M.set L ⟨splice cells (i * wd) ys,wd,2⟩):=by
    rw [Nat.zero_add]
    exact Zw6 hk rfl (by show _≤cells.length; omega) hone
  refine ⟨_,?_,k4.set (d:=45) (by omega) (.int .i64 ((1:Nat):Int)),by (repeat rw [List.getElem?_set_ne (by decide)]); exact h9⟩
  rw [a10,ZW (Zce h9),ZW (Zce k1.h1),ZW (ZrT (x:=41) (y:=42) (l:=L) (o:=0) (n:=n+1) (c:=n+1) (i:=i) (by simp [JC,h.len]) (by simp [JC,h.len]) (by omega:i≤n+1) hk rfl),ZW (Zce k3.h2),
    ZW (Zqj (x:=43) (y:=44) (l:=L) (o:=0+i * wd) (n:=n+1 - i) (c:=max (n+1) (n+1) - i) (b:=b2) (m:=1) (d:=c2) (cs:=ys) (k:=1) (M':=M.set L ⟨splice cells (i * wd) ys,wd,2⟩) (by simp [JC,h.len]) (by simp [JC,h.len]) (by rw [hmin]; exact hsc) (by intro e; rw [e] at hyl; simp at hyl; omega) (by rw [hwr]; rfl))]
  rfl
theorem e11 {l o ca L:Nat} {cells tail:List V} {kb:Blk} (h:InF (.slice (some ⟨l,o,none⟩) n ca) v i n fr) (h9:fr[9]?=some (.slice (some ⟨L,0,none⟩) (n+1) (n+1))) (hk:M[L]?=some ⟨cells,wd,2⟩) (hcl:cells.length=(n+1) * wd) (hin:i < n) (hn:n+1≤9223372036854775807)
    (hkb:M[l]?=some kb) (hkw:kb.w=wd) (hsc:Zj M wd (.slice (some ⟨l,o+i * wd,none⟩) (n - i) 0)=some (n - i,tail)) (htl:tail.length=(n - i) * wd) (hone:tail.all one=true) (hw0:0 < wd) :
    ∃ fr',JP call [] [] (a11 wd) fr M=some (fr',M.set L ⟨splice cells ((i+1) * wd) tail,wd,2⟩)∧InF (.slice (some ⟨l,o,none⟩) n ca) v i n fr'∧fr'[9]?=some (.slice (some ⟨L,0,none⟩) (n+1) (n+1)):=by
  have k1:=h.set (d:=46) (by omega) (.slice (some ⟨L,0,none⟩) (n+1) (n+1))
  have k2:=k1.set (d:=47) (by omega) (.int .i64 (i:Int))
  have k3:=k2.set (d:=48) (by omega) (.int .i64 ((1:Nat):Int))
  have k4:=k3.set (d:=49) (by omega) (.int .i64 ((i+1:Nat):Int))
  have k5:=k4.set (d:=50) (by omega) (.slice (some ⟨L,0+(i+1) * wd,none⟩) (n+1 - (i+1)) (max (n+1) (n+1) - (i+1)))
  have k6:=k5.set (d:=51) (by omega) (.slice (some ⟨l,o,none⟩) n ca)
  have k7:=k6.set (d:=52) (by omega) (.int .i64 (i:Int))
  have k8:=k7.set (d:=53) (by omega) (.slice (some ⟨l,o+i * wd,none⟩) (n - i) (max n ca - i))
  have hmin:min (n - i) (n+1 - (i+1))=n - i:=by omega
  have hle:(i+1) * wd+(n - i) * wd=(n+1) * wd:=by
    rw [← Nat.add_mul]
    congr 1
    omega
  have hpos:0 < (n - i) * wd:=Nat.mul_pos (by omega) hw0
  have hwr:wrn M L (0+(i+1) * wd) tail=some (M.set L ⟨splice cells ((i+1) * wd) tail,wd,2⟩):=by
    rw [Nat.zero_add]
    exact Zw6 hk rfl (by show _≤cells.length; omega) hone
  refine ⟨_,?_,k8.set (d:=54) (by omega) (.int .i64 ((n - i:Nat):Int)),by (repeat rw [List.getElem?_set_ne (by decide)]); exact h9⟩
  rw [a11,Jp rfl (Zce h9),Jp rfl (Zce k1.h1),Jp rfl (Zce k2.h7),Jp rfl (ZpB (x:=47) (y:=48) (a:=i) (b:=1) (by simp [JC,h.len]) (by simp [JC,h.len]) (by omega)),
    Jp rfl (ZrT (x:=46) (y:=49) (l:=L) (o:=0) (n:=n+1) (c:=n+1) (i:=i+1) (by simp [JC,h.len]) (by simp [JC,h.len]) (by omega) hk rfl),Jp rfl (Zce k5.h0),Jp rfl (Zce k6.h1),
    Jp rfl (ZrT (x:=51) (y:=52) (l:=l) (o:=o) (n:=n) (c:=ca) (i:=i) (by simp [JC,h.len]) (by simp [JC,h.len]) (by omega) hkb hkw),
    ZrI rfl (Zqj (x:=50) (y:=53) (l:=L) (o:=0+(i+1) * wd) (n:=n+1 - (i+1)) (c:=max (n+1) (n+1) - (i+1)) (b:=some ⟨l,o+i * wd,none⟩) (m:=n - i) (d:=max n ca - i) (cs:=tail) (k:=n - i) (M':=M.set L ⟨splice cells ((i+1) * wd) tail,wd,2⟩) (by simp [JC,h.len]) (by simp [JC,h.len]) (by rw [hmin]; exact hsc) (by intro e; rw [e] at htl; simp at htl; omega) (by rw [hwr]; rfl))]
theorem e12 (h:InF s v i n fr) {s2:V} (h9:fr[9]?=some s2):∃ fr',Zhn call a12 fr M=some (fr',M)∧fr'[6]?=some s2∧fr'.length=95 :=
  ⟨_,by rw [a12,ZW (Zce h9),ZW (Zce (x:=55) (v:=s2) (by simp [JC,h.len]))]; rfl,by simp [JC,h.len],by simp [JC,h.len]⟩
theorem e13 {l o ca:Nat} {kb:Blk} (h:InF (.slice (some ⟨l,o,none⟩) n ca) v i n fr) (hn:n+1≤9223372036854775807) (hca:n+1≤ca) (hkb:M[l]?=some kb) (hkw:kb.w=wd) :
    ∃ fr',Zhn call (a13 wd) fr M=some (fr',M)∧InF (.slice (some ⟨l,o,none⟩) (n+1) (max n ca)) v i n fr':=by
  have k1:=h.set (d:=56) (by omega) (.slice (some ⟨l,o,none⟩) n ca)
  have k2:=k1.set (d:=57) (by omega) (.int .i64 (n:Int))
  have k3:=k2.set (d:=58) (by omega) (.int .i64 ((1:Nat):Int))
  have k4:=k3.set (d:=59) (by omega) (.int .i64 ((n+1:Nat):Int))
  have k5:=k4.set (d:=60) (by omega) (.slice (some ⟨l,o,none⟩) (n+1) (max n ca))
  refine ⟨_,?_,k5.seti (.slice (some ⟨l,o,none⟩) (n+1) (max n ca))⟩
  rw [a13,ZW (Zce h.h0),ZW (Zce k1.h8),ZW (Zce k2.h7),ZW (ZpB (x:=57) (y:=58) (a:=n) (b:=1) (by simp [JC,h.len]) (by simp [JC,h.len]) hn),
    ZW (ZGj (x:=56) (y:=59) (l:=l) (o:=o) (n:=n) (c:=ca) (i:=n+1) (by simp [JC,h.len]) (by simp [JC,h.len]) (.inr hca) hkb hkw),ZW (Zce (x:=60) (v:=.slice (some ⟨l,o,none⟩) (n+1) (max n ca)) (by simp [JC,h.len]))]
  rfl
theorem e14 {l o c:Nat} {kb:Blk} (h:InF (.slice (some ⟨l,o,none⟩) (n+1) c) v i n fr) (hn:n+1≤9223372036854775807) (hin:i < n) (hkb:M[l]?=some kb) (hkw:kb.w=wd) :
    ∃ fr',Zhn call (a14 wd) fr M=some (fr',M)∧InF (.slice (some ⟨l,o,none⟩) (n+1) c) v i n fr'∧fr'[61]?=some v∧fr'[66]?=some (.slice (some ⟨l,o+(i+1) * wd,none⟩) (n+1 - (i+1)) (max (n+1) c - (i+1))):=by
  have k1:=h.set (d:=61) (by omega) v
  have k2:=k1.set (d:=62) (by omega) (.slice (some ⟨l,o,none⟩) (n+1) c)
  have k3:=k2.set (d:=63) (by omega) (.int .i64 (i:Int))
  have k4:=k3.set (d:=64) (by omega) (.int .i64 ((1:Nat):Int))
  have k5:=k4.set (d:=65) (by omega) (.int .i64 ((i+1:Nat):Int))
  refine ⟨_,?_,k5.set (d:=66) (by omega) (.slice (some ⟨l,o+(i+1) * wd,none⟩) (n+1 - (i+1)) (max (n+1) c - (i+1))),by simp [h.len],by simp [h.len]⟩
  rw [a14,ZW (Zce h.h2),ZW (Zce k1.h0),ZW (Zce k2.h1),ZW (Zce k3.h7),ZW (ZpB (x:=63) (y:=64) (a:=i) (b:=1) (by simp [JC,h.len]) (by simp [JC,h.len]) (by omega)),
    ZW (ZrT (x:=62) (y:=65) (l:=l) (o:=o) (n:=n+1) (c:=c) (i:=i+1) (by simp [JC,h.len]) (by simp [JC,h.len]) (by omega) hkb hkw)]
  rfl
theorem ZHg (h:InF s v i n fr) (h67:fr[67]?=some (.bool false)):∃ fr',Zhn call ZF1 fr M=some (fr',M)∧InF s v i n fr'∧fr'[68]?=some (.bool true) :=
  ⟨_,by rw [ZF1,ZW (v:=.bool true) (M':=M) (by simp [Ze,Zq6 h67])]; rfl,h.set (d:=68) (by omega) (.bool true),by simp [h.len]⟩
theorem e15 {l o c:Nat} {tail:List V} {kb:Blk} (h:InF (.slice (some ⟨l,o,none⟩) (n+1) c) v i n fr) (hin:i < n) (hn:n+1≤9223372036854775807)
    (hkb:M[l]?=some kb) (hst:kb.st=2) (hkw:kb.w=wd) (hfill:o+n * wd=kb.cells.length) (hsc:Zj M wd (.slice (some ⟨l,o+i * wd,none⟩) (n - i) 0)=some (n - i,tail)) (htl:tail.length=(n - i) * wd) (hone:tail.all one=true) (hw0:0 < wd) :
    ∃ fr',JP call [] [] (a15 wd) fr M=some (fr',M.set l ⟨kb.cells.take (o+(i+1) * wd)++tail,wd,2⟩)∧InF (.slice (some ⟨l,o,none⟩) (n+1) c) v i n fr':=by
  have k1:=h.set (d:=69) (by omega) (.slice (some ⟨l,o,none⟩) (n+1) c)
  have k2:=k1.set (d:=70) (by omega) (.int .i64 (i:Int))
  have k3:=k2.set (d:=71) (by omega) (.int .i64 ((1:Nat):Int))
  have k4:=k3.set (d:=72) (by omega) (.int .i64 ((i+1:Nat):Int))
  have k5:=k4.set (d:=73) (by omega) (.slice (some ⟨l,o+(i+1) * wd,none⟩) (n+1 - (i+1)) (max (n+1) c - (i+1)))
  have k6:=k5.set (d:=74) (by omega) (.slice (some ⟨l,o,none⟩) (n+1) c)
  have k7:=k6.set (d:=75) (by omega) (.int .i64 (i:Int))
  have k8:=k7.set (d:=76) (by omega) (.slice (some ⟨l,o+i * wd,none⟩) (n+1 - i) (max (n+1) c - i))
  have hmin:min (n+1 - i) (n+1 - (i+1))=n - i:=by omega
  have hle:(i+1) * wd+(n - i) * wd=(n+1) * wd:=by
    rw [← Nat.add_mul]
    congr 1
    omega
  have hsm:(n+1) * wd=n * wd+wd:=Nat.succ_mul _ _
  have hi1:(i+1) * wd≤n * wd:=Nat.mul_le_mul_right _ (by omega)
  have hpos:0 < (n - i) * wd:=Nat.mul_pos (by omega) hw0
  have hwn:=ZEP (M:=M) (l:=l) (o:=o+(i+1) * wd) (vs:=tail) hkb (by omega)
  have hwr:=ZFe (wd:=wd) (M:=M) (l:=l) (o:=o+(i+1) * wd) (vs:=tail) hkb hst hkw (by omega) (by omega) hone
  have hbk:({ kb with cells:=kb.cells.take (o+(i+1) * wd)++tail }:Blk)=⟨kb.cells.take (o+(i+1) * wd)++tail,wd,2⟩:=by rw [← hst,← hkw]
  rw [hbk] at hwr
  refine ⟨_,?_,k8.set (d:=77) (by omega) (.int .i64 ((n - i:Nat):Int))⟩
  rw [a15,Jp rfl (Zce h.h0),Jp rfl (Zce k1.h1),Jp rfl (Zce k2.h7),Jp rfl (ZpB (x:=70) (y:=71) (a:=i) (b:=1) (by simp [JC,h.len]) (by simp [JC,h.len]) (by omega)),
    Jp rfl (ZrT (x:=69) (y:=72) (l:=l) (o:=o) (n:=n+1) (c:=c) (i:=i+1) (by simp [JC,h.len]) (by simp [JC,h.len]) (by omega) hkb hkw),Jp rfl (Zce k5.h0),Jp rfl (Zce k6.h1),
    Jp rfl (ZrT (x:=74) (y:=75) (l:=l) (o:=o) (n:=n+1) (c:=c) (i:=i) (by simp [JC,h.len]) (by simp [JC,h.len]) (by omega) hkb hkw),
    ZrI rfl (Zqj (x:=73) (y:=76) (l:=l) (o:=o+(i+1) * wd) (n:=n+1 - (i+1)) (c:=max (n+1) c - (i+1)) (b:=some ⟨l,o+i * wd,none⟩) (m:=n+1 - i) (d:=max (n+1) c - i) (cs:=tail) (k:=n - i) (M':=M.set l ⟨kb.cells.take (o+(i+1) * wd)++tail,wd,2⟩) (by simp [JC,h.len]) (by simp [JC,h.len]) (by rw [hmin]; exact hsc) (by intro e; rw [e] at htl; simp at htl; omega) (by rw [hwn,hwr]; rfl))]
theorem e16 {b2:Option Addr} {c2 l o c:Nat} {cells ys:List V} (h:InF (.slice (some ⟨l,o,none⟩) (n+1) c) (.slice b2 1 c2) i n fr) (hk:M[l]?=some ⟨cells,wd,2⟩) (hcl:cells.length=o+(n+1) * wd) (hin:i < n)
    (hsc:Zj M wd (.slice b2 1 0)=some (1,ys)) (hyl:ys.length=wd) (hone:ys.all one=true) (hw0:0 < wd) :
    ∃ fr',Zhn call (a16 wd) fr M=some (fr',M.set l ⟨splice cells (o+i * wd) ys,wd,2⟩)∧InF (.slice (some ⟨l,o,none⟩) (n+1) c) (.slice b2 1 c2) i n fr':=by
  have k1:=h.set (d:=78) (by omega) (.slice (some ⟨l,o,none⟩) (n+1) c)
  have k2:=k1.set (d:=79) (by omega) (.int .i64 (i:Int))
  have k3:=k2.set (d:=80) (by omega) (.slice (some ⟨l,o+i * wd,none⟩) (n+1 - i) (max (n+1) c - i))
  have k4:=k3.set (d:=81) (by omega) (.slice b2 1 c2)
  have hmin:min 1 (n+1 - i)=1:=by omega
  have hle:i * wd+wd≤(n+1) * wd:=by
    rw [← Nat.succ_mul]
    exact Nat.mul_le_mul_right _ (by omega)
  have hwr:=Zw6 (M:=M) (l:=l) (o:=o+i * wd) (vs:=ys) hk rfl (by show _≤cells.length; omega) hone
  refine ⟨_,?_,k4.set (d:=82) (by omega) (.int .i64 ((1:Nat):Int))⟩
  rw [a16,ZW (Zce h.h0),ZW (Zce k1.h1),ZW (ZrT (x:=78) (y:=79) (l:=l) (o:=o) (n:=n+1) (c:=c) (i:=i) (by simp [JC,h.len]) (by simp [JC,h.len]) (by omega:i≤n+1) hk rfl),ZW (Zce k3.h2),
    ZW (Zqj (x:=80) (y:=81) (l:=l) (o:=o+i * wd) (n:=n+1 - i) (c:=max (n+1) c - i) (b:=b2) (m:=1) (d:=c2) (cs:=ys) (k:=1) (M':=M.set l ⟨splice cells (o+i * wd) ys,wd,2⟩) (by simp [JC,h.len]) (by simp [JC,h.len]) (by rw [hmin]; exact hsc) (by intro e; rw [e] at hyl; simp at hyl; omega) (by rw [hwr]; rfl))]
  rfl
theorem e17 (h:InF s v i n fr):∃ fr',Zhn call a17 fr M=some (fr',M)∧fr'[6]?=some s∧fr'.length=95 :=
  ⟨_,by rw [a17,ZW (Zce h.h0),ZW (Zce (x:=83) (v:=s) (by simp [JC,h.len]))]; rfl,by simp [JC,h.len],by simp [JC,h.len]⟩
end
end
section
variable {P:Program} {B:Nat→Nat} {w0:World} {call:Yd}
theorem Zuc {y:Operand} {x:Nat} (h:okO y (.t x)=true):y=.tmp x:=by
  cases y <;> simp [okO] at h
  subst h; rfl
theorem ZDq {args:Array Operand} {x:Nat} (h:Zlv args.toList [.t x]=true):args=#[.tmp x]:=by
  obtain ⟨l⟩:=args
  cases l with
  | nil=>simp [Zlv] at h
  | cons y l =>
    cases l with
    | cons z l=>simp [Zlv] at h
    | nil =>
      simp only [Zlv,Bool.and_true] at h
      rw [Zuc h]
theorem Zx6 {args:Array Operand} {x z:Nat} (h:Zlv args.toList [.t x,.t z]=true):args=#[.tmp x,.tmp z]:=by
  obtain ⟨l⟩:=args
  cases l with
  | nil=>simp [Zlv] at h
  | cons y l =>
    cases l with
    | nil=>simp [Zlv] at h
    | cons u l =>
      cases l with
      | cons z l=>simp [Zlv] at h
      | nil =>
        simp only [Zlv,Bool.and_true,Bool.and_eq_true] at h
        rw [Zuc h.1,Zuc h.2]
theorem ZmG {a:Act} {x:Nat} {v:V} (h:a.tmps[x]?=some v):a.eval (.tmp x)=v:=by
  show a.tmps.getD x undef=v
  rw [Array.getD_eq_getD_getElem?,h]; rfl
theorem ZBz {o:Oper} {x:Nat} {a:Act} {w:World} {v:V} (h:ZM P o.op (.mv (.t x))=true) (hx:a.tmps[x]?=some v):(execOp a.eval o).run P w=.ok (.value v) w:=by
  unfold ZM at h
  simp only at h
  split at h
  · rename_i y ho
    have:=Zuc h; subst this
    simp [execOp,ho,ZmG hx]
  · rename_i y ho
    have:=Zuc h; subst this
    simp [execOp,ho,ZmG hx]
  · cases h
theorem ZDl {o:Oper} {a:Act} {w:World} {ad:Option Addr} {n c:Nat} (h:ZC5 P o=true) (hx:a.tmps[29]?=some (.slice ad n c)):(execOp a.eval o).run P w=.ok (.value (.int .i64 (c:Int))) w∧o.dst=some 30∧o.guard.isNone=true:=by
  unfold ZC5 at h
  split at h
  · rename_i args tys ho
    simp only [Bool.and_eq_true] at h
    obtain ⟨⟨⟨h1,h2⟩,h3⟩,h4⟩:=h
    split at h2
    · rename_i t ht
      have:=ZFZ ht; subst this
      split at h2
      · rename_i e hu
        have:=ZDq h1; subst this
        have key:=Jk (P:=P) (w:=w) (a:=a) ho (Builtin.cap_ #[t] o.type #[a.eval (.tmp 29)]) (fun _=>by simp [builtin])
        refine ⟨?_,by simpa using h3,h4⟩
        rw [key,ZmG hx]
        simp [Builtin.cap_,run_underlying hu,goInt]
      · cases h2
    · cases h2
  · cases h
theorem ZFv {o:Oper} {a:Act} {w:World} {ρ:List PB} {fr:List V} {ad:Addr} {n c i wd:Nat} (hf:FR ρ fr a) (h:ZM P o.op (.slc wd (.t 32) none (some (.t 33)))=true) (hx:a.tmps[32]?=some (.slice (some ad) n c)) (hs:ad.spot=none) (hy:fr[33]?=some (.int .i64 (i:Int))) (hi:i≤c) (hc:0 < c) :
    (execOp a.eval o).run P w=.ok (.value (.slice (some ad) i c)) w:=by
  unfold ZM at h
  simp only at h
  split at h
  · rename_i t x lo hi' ho
    simp only [Bool.and_eq_true] at h
    obtain ⟨⟨⟨hx',hlo⟩,hhi⟩,ht⟩:=h
    have:=Zuc hx'; subst this
    unfold Zgz at ht
    split at ht
    · rename_i e hu
      have rb:=ZlS (P:=P) (w:=w) hf hlo hhi true n c (l:=0) (h:=i) rfl (by simp only [ZhM,Zq6 hy]) (by omega) (by omega) (by omega)
      have hne:¬ c=0:=by omega
      simp only [execOp,ho,ZmG hx,Instr.sliceAt,Sem.run_bind,run_underlying hu,Result.andThen_ok,Instr.slice,Option.map_none,rb,Za1 ht,Sem.run_pure]
      simp [hne]
      obtain ⟨b,f,sp⟩:=ad
      simp only at hs
      subst hs
      exact ZfX b f 0
    · cases ht
  · cases h
theorem VRl.setA {ρ:List PB} {as bs:List V} (h:VRl ρ as bs) {d:Nat} {v c:V} (hc:bs[d]?=some c) (hv:VR ρ v c):VRl ρ (as.set d v) bs:=by
  refine ⟨by simp [h.1],fun i x y hx hy=>?_⟩
  rw [List.getElem?_set] at hx
  split at hx
  · rename_i e
    subst e
    split at hx
    · cases hx
      rw [hc] at hy
      cases hy
      exact hv
    · cases hx
  · exact h.2 i x y hx hy
theorem Zwd {ρ:List PB} {a:Act} {fr:List V} {v v':V} (hf:FR ρ fr a) (hl:fr.length=95) (h6:fr[6]?=some v) (hv:∀ c,VR ρ v c→VR ρ v' c):FR ρ ((List.replicate 95 O).set 6 v') a:=by
  obtain ⟨c,hc,hvr⟩:=hf.get h6
  have h0:VRl ρ (List.replicate 95 O) a.tmps.toList:=⟨by rw [List.length_replicate,← hf.1,hl],fun i x y hx hy=>by
    rw [List.getElem?_replicate] at hx
    split at hx
    · cases hx; exact .O y
    · cases hx⟩
  exact h0.setA hc (hv c hvr)
theorem Ztx (M:Mem) (wd l o n c:Nat):Zj M wd (.slice (some ⟨l,o,none⟩) n c)=if n * wd=0 then some (n,[]) else (rdn M l o (n * wd)).map (n,·):=rfl
theorem ZDf {M X:Mem} {wd l o n c:Nat} {r:Nat × List V} (h:Zj M wd (.slice (some ⟨l,o,none⟩) n c)=some r) (e:X[l]?=M[l]?):Zj X wd (.slice (some ⟨l,o,none⟩) n c)=some r:=by
  rw [Ztx] at h ⊢
  unfold rdn at h ⊢
  rw [e]
  exact h
structure InC (wd l o n i l2 o2:Nat) (M:Mem) (b:Blk) (ys:List V):Prop where
  bl:M[l]?=some b
  ne:l2 ≠ l
  w1:1 < wd
  st:b.st=2
  bw:b.w=wd
  fill:o+n * wd=b.cells.length
  lt:i < n
  max:n+1≤9223372036854775807
  one:ys.all one=true
  sc:Zj M wd (.slice (some ⟨l2,o2,none⟩) 1 0)=some (1,ys)
section
variable {wd l o n i l2 o2:Nat} {M:Mem} {b:Blk} {ys:List V}
theorem InC.yl (C:InC wd l o n i l2 o2 M b ys):ys.length=wd∧∃ b2,M[l2]?=some b2∧(b2.st=1∨b2.st=2)∧o2+wd≤b2.cells.length:=by
  have h:=C.sc
  have hw:=C.w1
  rw [Ztx,Nat.one_mul,if_neg (by omega)] at h
  unfold rdn at h
  obtain ⟨vs,hv,e⟩:=Option.map_eq_some_iff.1 h
  cases e
  split at hv
  · rename_i b2 hb2
    split at hv
    · rename_i hc
      cases hv
      exact ⟨by simp; omega,b2,hb2,hc.1,hc.2⟩
    · cases hv
  · cases hv
theorem InC.dl (C:InC wd l o n i l2 o2 M b ys):(b.cells.drop o).length=n * wd:=by rw [List.length_drop,← C.fill]; omega
theorem InC.tl (C:InC wd l o n i l2 o2 M b ys):((b.cells.drop o).drop (i * wd)).length=(n - i) * wd:=by
  rw [List.length_drop,C.dl,Nat.sub_mul]
theorem InC.ile (C:InC wd l o n i l2 o2 M b ys):i * wd≤n * wd:=Nat.mul_le_mul_right _ (Nat.le_of_lt C.lt)
theorem InC.sct (C:InC wd l o n i l2 o2 M b ys):Zj M wd (.slice (some ⟨l,o+i * wd,none⟩) (n - i) 0)=some (n - i,(b.cells.drop o).drop (i * wd)):=by
  have hpos:0 < (n - i) * wd:=Nat.mul_pos (by have:=C.lt; omega) (by have:=C.w1; omega)
  have htl:=C.tl
  have hle:=C.ile
  have hfl:=C.fill
  have hsub:(n - i) * wd=n * wd - i * wd:=Nat.sub_mul _ _ _
  rw [Ztx,if_neg (by omega)]
  unfold rdn
  simp only [C.bl]
  rw [if_pos ⟨.inr C.st,by omega⟩]
  simp only [Option.map_some,Option.some.injEq,Prod.mk.injEq,true_and]
  rw [← List.drop_drop,← htl,List.take_length]
theorem InC.ones (C:InC wd l o n i l2 o2 M b ys) {ρ:List PB} {w:World} (hs:StR B ρ M w):b.cells.all GoAm.one=true:=by
  obtain ⟨p,hp⟩:=hs.at C.bl
  obtain ⟨_,cs,T,fz,g1,g2,g3,g4,g5⟩:=hs.blk l b p C.bl hp (.inr C.st)
  rw [List.all_eq_true]
  intro v hv
  obtain ⟨j,hj⟩:=List.getElem?_of_mem hv
  exact (g4 j v hj).1
end
theorem Zly {cs:List V} {k:Nat} (h:cs.all one=true):(cs.drop k).all one=true:=List.all_eq_true.2 fun v hv=>List.all_eq_true.1 h v (List.mem_of_mem_drop hv)
theorem ZAB {cs:List V} {k:Nat} (h:cs.all one=true):(cs.take k).all one=true:=List.all_eq_true.2 fun v hv=>List.all_eq_true.1 h v (List.mem_of_mem_take hv)
theorem ZwT (M:Mem) (x y:Blk):(M++[x]).set M.length y=M++[y]:=by simp
theorem Zr0 {a:Act} {d:Nat} (v:V) (h:d < a.tmps.size):(a.put (some d) v).tmps[d]?=some v:=by
  show (a.tmps.setIfInBounds d v)[d]?=some v
  rw [Array.getElem?_setIfInBounds_self_of_lt h]
theorem ZsR {ρ:List PB} {fr:List V} {a:Act} (hf:FR ρ fr a) (hl:fr.length=95):a.tmps.size=95:=by
  have:=hf.1
  simp at this
  omega
theorem ZtI {o:Oper} {d x:Nat} (h:ZF4 P o d x=true):ZM P o.op (.mv (.t x))=true∧o.dst=some d∧o.guard.isNone=true:=by
  unfold ZF4 at h
  simp only [Bool.and_eq_true] at h
  exact ⟨h.1.1,by simpa using h.1.2,h.2⟩
theorem ZHl {A Z Y T:List V} {k w:Nat} (hA:A.length=k) (hY:Y.length=w) (hT:Z.length=w+T.length):splice (splice (A++Z) k Y) (k+w) T=A++Y++T:=by
  have e1:splice (A++Z) k Y=A++Y++Z.drop w:=by
    unfold splice
    rw [List.take_left' hA,List.drop_append,List.drop_of_length_le (by omega),List.nil_append]
    congr 2
    omega
  rw [e1]
  unfold splice
  rw [List.take_left' (by rw [List.length_append]; omega),List.drop_of_length_le,List.append_nil]
  simp only [List.length_append,List.length_drop]
  omega
theorem ZHd {cs Y T:List V} {o k w:Nat} (hY:Y.length=w) (hT:(o+k+w)≤cs.length):(splice (cs.take (o+k+w)++T) (o+k) Y).drop o=(cs.drop o).take k++Y++T:=by
  unfold splice
  have h1:(cs.take (o+k+w)).length=o+k+w:=by rw [List.length_take]; omega
  rw [List.take_append,h1,List.take_take,Nat.min_eq_left (by omega)]
  have h2:o+k - (o+k+w)=0:=by omega
  have h4:(cs.take (o+k+w)++T).drop (o+k+w)=T:=List.drop_left' h1
  rw [h2,List.take_zero,List.append_nil,hY,h4,List.append_assoc,List.drop_append,List.length_take]
  have h3:o - min (o+k) cs.length=0:=by omega
  rw [h3,List.drop_zero,List.append_assoc]
  congr 1
  rw [List.drop_take]
  congr 1
  omega
set_option maxHeartbeats 1000000 in
theorem ZAy (hcall:ZlF P B w0 call) (hB:Inn B w0) {dr:Array Oper→List AOper→Bool} (hdr:Zkf P B w0 call dr) {wd by':Nat} {zero:List V} {id9 id10 id11 id12:Nat} {r9 r10 r11 r12:Array Oper} {l o n ca i l2 o2 c2 c:Nat} {ad:Addr} {M:Mem} {b:Blk} {ys:List V} {ρ:List PB} {fr:List V} {a:Act} {w:World} {Q:Exit→Act→World→Prop}
    (C:InC wd l o n i l2 o2 M b ys) (hby:(n+1) * by'≤140737488355328) (k9:ok9 P r9 wd by' zero=true) (k10:Zca P r10 r10.toList (a10 wd)=true) (k11:dr r11 (a11 wd)=true) (k12:Zca P r12 r12.toList a12=true)
    (hs:StR B ρ M w) (hb:Kept B w0 w) (hf:FR ρ fr a) (hI:InF (.slice (some ⟨l,o,none⟩) n ca) (.slice (some ⟨l2,o2,none⟩) 1 c2) i n fr) (hreal:a.tmps[0]?=some (.slice (some ad) n c)) (hvr:VR ρ (.slice (some ⟨l,o,none⟩) n c) (.slice (some ad) n c)) (hcap:c < n+1)
    (hQ:∀ (a':Act) (w':World) (ρ':List PB),ρ <+: ρ'→FR ρ' ((List.replicate 95 O).set 6 (.slice (some ⟨M.length,0,none⟩) (n+1) (n+1))) a'→StR B ρ' (M.set l { b with st:=0 }++[⟨(b.cells.drop o).take (i * wd)++ys++(b.cells.drop o).drop (i * wd),wd,2⟩]) w'→Kept B w0 w'→a'.defers=a.defers→Q .ret a' w') :
    (Code.seq (.region id9 r9 false) (.seq (.region id10 r10 false) (.seq (.region id11 r11 true) (.seq (.region id12 r12 false) .ret)))).wp P Q a w:=by
  have hlt:=C.lt
  have hsz:=ZsR hf hI.len
  obtain ⟨p,hpp⟩:=hs.at C.bl
  cases hvr with
  | slice _ _ _ _ _ _ p' hpp' hsl =>
    rw [hpp] at hpp'
    cases hpp'
    obtain ⟨hnc,_,⟨hz,_⟩ | ⟨hvd,rfl,htot⟩⟩:=hsl
    · omega
    have hvX:VR ρ (.slice (some ⟨l,o,none⟩) n c) (.slice (some ⟨p.blk,p.base+o,none⟩) n c):=.slice l o n c _ c p hpp ⟨hnc,Nat.le_refl _,.inr ⟨hvd,rfl,htot⟩⟩
    have hvI:VR ρ (.slice (some ⟨l,o,none⟩) i c) (.slice (some ⟨p.blk,p.base+o,none⟩) i c):=.slice l o i c _ c p hpp ⟨by omega,Nat.le_refl _,.inr ⟨hvd,rfl,htot⟩⟩
    unfold ok9 at k9
    split at k9
    case h_2=>cases k9
    rename_i p1 p2 p3 p4 p5 p6 p7 p8 p9 p10 hl9
    simp only [Bool.and_eq_true] at k9
    obtain ⟨⟨⟨⟨⟨⟨hzone,m1⟩,m2⟩,m3⟩,m4⟩,m5⟩,m6⟩:=k9
    apply wp_seq
    apply wp_region_list
    rw [hl9]
    obtain ⟨n1,n2,n3⟩:=ZtI m1
    refine Zj1 n3 (ZBz n1 hreal) ?_
    rw [n2]
    have f5:=ZiX hf hvX (some 32)
    have i5:=hI.set (d:=32) (by omega) (.slice (some ⟨l,o,none⟩) n c)
    have t32:(a.put (some 32) (.slice (some ⟨p.blk,p.base+o,none⟩) n c)).tmps[32]?=some (.slice (some ⟨p.blk,p.base+o,none⟩) n c):=Zr0 _ (by omega)
    obtain ⟨fr6,e6,hI6,h33⟩:=e9a (call:=call) (M:=M) i5
    show wpList P r9 _ ([p2]++[p3,p4,p5,p6,p7,p8,p9,p10]) _ _
    refine ZhR hcall hB [p2] a9a ρ M M _ fr6 _ w _ m2 e6 hs hb f5 ?_
    intro a6 w6 ρ6 q6 f6 s6 b6 d6 keep6
    have r32:a6.tmps[32]?=some (.slice (some ⟨p.blk,p.base+o,none⟩) n c):=(keep6 32 (by simp [a9a])).trans t32
    unfold ZG2 at m3
    simp only [Bool.and_eq_true] at m3
    obtain ⟨⟨sl1,sl2⟩,sl3⟩:=m3
    have sl2:p3.dst=some 34:=by simpa using sl2
    refine Zj1 sl3 (ZFv f6 sl1 r32 rfl h33 (by omega) (by omega)) ?_
    rw [sl2]
    have f7:=ZiX f6 (hvI.mono q6) (some 34)
    have i7:=hI6.set (d:=34) (by omega) (.slice (some ⟨l,o,none⟩) i c)
    have t34:(a6.put (some 34) (.slice (some ⟨p.blk,p.base+o,none⟩) i c)).tmps[34]?=some (.slice (some ⟨p.blk,p.base+o,none⟩) i c):=Zr0 _ (by have:=ZsR f6 hI6.len; omega)
    obtain ⟨fr8,e8,hI8,h39⟩:=e9 (call:=call) (M:=M) i7 C.max hlt
    show wpList P r9 _ ([p4,p5,p6,p7,p8]++[p9,p10]) _ _
    refine ZhR hcall hB [p4,p5,p6,p7,p8] a9 ρ6 M M _ fr8 _ w6 _ m4 e8 s6 b6 f7 ?_
    intro a8 w8 ρ8 q8 f8 s8 b8 d8 keep8
    have r34:a8.tmps[34]?=some (.slice (some ⟨p.blk,p.base+o,none⟩) i c):=(keep8 34 (by simp [a9])).trans t34
    have hB8:Inn B w8:=b8.inn hB
    unfold ZFO at m5
    simp only [Bool.and_eq_true] at m5
    obtain ⟨⟨hc,ap2⟩,ap3⟩:=m5
    have ap2:p9.dst=some 40:=by simpa using ap2
    unfold ZM at hc
    simp only at hc
    split at hc
    case h_2=>cases hc
    rename_i args tys ho
    simp only [Bool.and_eq_true] at hc
    obtain ⟨h1,h2⟩:=hc
    have:=Zx6 h1; subst this
    split at h2
    case h_2=>cases h2
    rename_i t t' htl
    have:=ZD8 htl; subst this
    simp only [Bool.and_eq_true] at h2
    obtain ⟨⟨h2,hzz⟩,h3⟩:=h2
    obtain ⟨e,ti,zv,hu,hi,hz,hzl,hpos,rfl,rfl⟩:=Znx h2
    rw [hu] at hzz
    simp only at hzz
    obtain ⟨z',hz1,hz2,hz3⟩:=Zim (P:=P) (w:=w8) hzz
    unfold zB at hzz
    rw [hi] at hzz
    simp only [hz] at hzz
    have hzz':zv.cells.toList=zero:=ZqR hzz
    have hz4:z'.cells=zv.cells:=Array.ext' (by rw [hzz',hz2])
    split at h3
    case h_2=>cases h3
    rename_i kk' hu'
    have key:=Jk (P:=P) (w:=w8) (a:=a8) ho (Builtin.append_ #[t,t'] p9.type #[a8.eval (.tmp 34),a8.eval (.tmp 39)]) (fun _=>by simp [builtin])
    obtain ⟨c39,hc39,hv39⟩:=f8.get h39
    rw [Array.getElem?_toList] at hc39
    have e39:a8.eval (.tmp 39)=.int .i64 ((n+1 - i:Nat):Int):=by
      rw [ZmG hc39]
      cases hv39
      rfl
    have hp8:ρ8[l]?=some p:=JR (q6.trans q8) hpp
    have hbw:=C.bw
    have hile:=C.ile
    have hdl:=C.dl
    have hfill:=C.fill
    have hones:=C.ones s8
    have hrd:rdn M l o (i * ti.size)=some ((b.cells.drop o).take (i * ti.size)):=by
      unfold rdn
      rw [C.bl]
      simp only
      rw [if_pos ⟨.inr C.st,by omega⟩]
    obtain ⟨oc,hol,hovr,hoone,hocell⟩:=s8.rdn hrd hp8
    have hfo:(Builtin.firstCells ti.size i (.slice (some ⟨p.blk,p.base+o,none⟩) i c)).run P w8.drew=.ok oc.toArray w8.drew :=
      ZcK hol (fun e=>by cases e) (fun ad' ha j v hj=>by cases ha; exact hocell j v hj)
    have hni:i+(n+1 - i)=n+1:=by omega
    have c3':(n+1 - i) * ti.bytes≤281474976710656:=by
      have:(n+1 - i) * ti.bytes≤(n+1) * ti.bytes:=Nat.mul_le_mul_right _ (by omega)
      omega
    have hmax:=C.max
    have hrl:VRl ρ8 (zeroCells zero (n+1 - i)) (zeroCells zv.cells.toList (n+1 - i)):=by
      have:=ZdX (hz3 ρ8) (n+1 - i)
      rw [hz4] at this
      exact this
    have hrun:=ZgB (P:=P) (w:=w8) (ty:=p9.type) (u:=a8.eval (.tmp 39)) hu hi hz (base:=some ⟨p.blk,p.base+o,none⟩) (n:=i) (c:=c) (m:=n+1 - i) (oc:=oc) (cc:=zeroCells zv.cells.toList (n+1 - i))
      (.inr ⟨kk',.i64,hu',e39,by omega,c3',hzl.symm,rfl⟩) hfo (by omega) (by omega) (by rw [hni]; exact hby)
    rw [hni] at hrun
    obtain ⟨ρ9,q9,s9,b9,v9⟩:=s8.appGrow hB8 hovr hrl (ZAB (Zly hones)) (Zk4 hzone _) zv.cells.toList e ti.size (n+1) (grownCap w8 (n+1) c e) (Zne _ _ _ _)
      (by rw [List.length_append,List.length_take,Qw,← hzz',hzl,hdl,Nat.min_eq_left hile,← Nat.add_mul,hni]) hzl
    refine Zj1 ap3 (by rw [key,ZmG r34,hrun]; rfl) ?_
    rw [ap2]
    have f9:=ZiX (f8.mono q9) v9 (some 40)
    have i9:=hI8.set (d:=40) (by omega) (.slice (some ⟨M.length,0,none⟩) (n+1) (n+1))
    obtain ⟨fr10,e10',hI10,h9⟩:=e9b (call:=call) (M:=M++[⟨(b.cells.drop o).take (i * ti.size)++zeroCells zero (n+1 - i),ti.size,2⟩]) i9 (s2:=.slice (some ⟨M.length,0,none⟩) (n+1) (n+1)) (by simp [hI8.len])
    show wpList P r9 _ ([p10]++[]) _ _
    refine ZhR hcall hB [p10] a9b ρ9 _ _ _ fr10 _ _ _ m6 e10' s9 (b8.trans b9) f9 ?_
    intro a10 w10 ρ10 q10 f10 s10 b10 d10 _
    show (Code.seq (.region id10 r10 false) (.seq (.region id11 r11 true) (.seq (.region id12 r12 false) .ret))).wp P Q a10 w10
    have hkl:(M++[(⟨(b.cells.drop o).take (i * ti.size)++zeroCells zero (n+1 - i),ti.size,2⟩:Blk)])[M.length]?=some ⟨(b.cells.drop o).take (i * ti.size)++zeroCells zero (n+1 - i),ti.size,2⟩:=by simp
    have hA:((b.cells.drop o).take (i * ti.size)).length=i * ti.size:=by rw [List.length_take,hdl,Nat.min_eq_left hile]
    have hZ:(zeroCells zero (n+1 - i)).length=(n+1 - i) * ti.size:=by rw [Qw,← hzz',hzl]
    have hcl:((b.cells.drop o).take (i * ti.size)++zeroCells zero (n+1 - i)).length=(n+1) * ti.size:=by rw [List.length_append,hA,hZ,← Nat.add_mul,hni]
    obtain ⟨hyl,b2,hb2,hb2s,hb2l⟩:=C.yl
    have hl2:=(List.getElem?_eq_some_iff.1 hb2).1
    have hl1:=(List.getElem?_eq_some_iff.1 C.bl).1
    have hsc10:=ZDf (X:=M++[(⟨(b.cells.drop o).take (i * ti.size)++zeroCells zero (n+1 - i),ti.size,2⟩:Blk)]) C.sc (by rw [List.getElem?_append_left hl2])
    obtain ⟨fr11,e11a,hI11,h9b⟩:=e10 (call:=call) hI10 h9 hkl hcl hlt hsc10 hyl C.one (by have:=C.w1; omega)
    refine ZnU hcall hB k10 e11a s10 b10 f10 ?_
    intro a11' w11 ρ11 q11 f11 s11 b11 d11
    rw [ZwT] at s11
    have hkl2:(M++[(⟨splice ((b.cells.drop o).take (i * ti.size)++zeroCells zero (n+1 - i)) (i * ti.size) ys,ti.size,2⟩:Blk)])[M.length]?=some ⟨splice ((b.cells.drop o).take (i * ti.size)++zeroCells zero (n+1 - i)) (i * ti.size) ys,ti.size,2⟩:=by simp
    have hle1:i * ti.size+ys.length≤(n+1) * ti.size:=by
      rw [hyl,← Nat.succ_mul]
      exact Nat.mul_le_mul_right _ (by omega)
    have hcl2:(splice ((b.cells.drop o).take (i * ti.size)++zeroCells zero (n+1 - i)) (i * ti.size) ys).length=(n+1) * ti.size:=by rw [YR _ _ _ (by omega),hcl]
    have hsct:=ZDf (X:=M++[(⟨splice ((b.cells.drop o).take (i * ti.size)++zeroCells zero (n+1 - i)) (i * ti.size) ys,ti.size,2⟩:Blk)]) C.sct (by rw [List.getElem?_append_left hl1])
    obtain ⟨fr12,e12a,hI12,h9c⟩:=e11 (call:=call) hI11 h9b hkl2 hcl2 hlt C.max (by rw [List.getElem?_append_left hl1]; exact C.bl) C.bw hsct C.tl (Zly (Zly hones)) (by have:=C.w1; omega)
    refine ZtM hdr k11 e12a s11 b11 f11 ?_
    intro a12' w12 ρ12 q12 f12 s12 b12 d12
    rw [ZwT] at s12
    have hfin:splice (splice ((b.cells.drop o).take (i * ti.size)++zeroCells zero (n+1 - i)) (i * ti.size) ys) ((i+1) * ti.size) ((b.cells.drop o).drop (i * ti.size))=(b.cells.drop o).take (i * ti.size)++ys++(b.cells.drop o).drop (i * ti.size):=by
      rw [Nat.succ_mul]
      refine ZHl hA hyl ?_
      rw [hZ,C.tl]
      have:n+1 - i=(n - i)+1:=by omega
      rw [this,Nat.succ_mul]
      omega
    rw [hfin] at s12
    obtain ⟨fr13,e13a,h6,hl13⟩:=e12 (call:=call) (M:=M++[⟨(b.cells.drop o).take (i * ti.size)++ys++(b.cells.drop o).drop (i * ti.size),ti.size,2⟩]) hI12 h9c
    refine ZnU hcall hB k12 e13a s12 b12 f12 ?_
    intro a13' w13 ρ13 q13 f13 s13 b13 d13
    apply wp_ret
    have hq:ρ <+: ρ13:=q6.trans (q8.trans (q9.trans (q10.trans (q11.trans (q12.trans q13)))))
    refine hQ a13' w13 ρ13 hq (Zwd f13 hl13 h6 fun _ h=>h) ?_ b13 (by rw [d13,d12,d11,d10,put_defers,d8,put_defers,d6,put_defers])
    have hu2:=s13.upd (l:=l) (b:=b) (b':={ b with st:=0 }) (by rw [List.getElem?_append_left hl1]; exact C.bl) (JR hq hpp) C.st (.inr rfl) rfl (by simp) (w':=w13) (fun _ _=>rfl)
    rw [List.set_append_left _ _ hl1] at hu2
    exact hu2
theorem ZyL {f : FuncId} {wd : Nat} (h : ZF7 P f wd = true) : ∃ (fn : Func) (tS e : TypeId), P.funcs[f]? = some fn ∧ fn.body.isNone = true ∧ (fn.name == "runtime.NumGoroutine") = false ∧ Extern.findNext fn = none ∧
    Extern.find fn=some (Extern.SlicesOverlaps.overlaps fn.params fn.resultTypes)∧fn.params[0]?=some tS∧P.underlying tS=some (.slice e)∧szB P e wd=true:=by
  unfold ZF7 at h
  split at h
  · rename_i fn hf
    simp only [Bool.and_eq_true] at h
    obtain ⟨⟨⟨⟨⟨⟨⟨h1,h2⟩,h3⟩,h4⟩,h5⟩,h6⟩,h7⟩,h8⟩:=h
    split at h8
    · rename_i t ht
      unfold Zgz at h8
      split at h8
      · rename_i e hu
        exact ⟨fn,t,e,hf,h1,by simpa using h2,Option.isNone_iff_eq_none.1 h3,ZzP h4 h5 h6 (by simpa using h7),ht,hu,h8⟩
      · cases h8
    · cases h8
  · cases h
set_option maxHeartbeats 1000000 in
theorem ZA1 (hcall:ZlF P B w0 call) (hB:Inn B w0) {dr:Array Oper→List AOper→Bool} (hdr:Zkf P B w0 call dr) {wd:Nat} {id13 id14 id15 id16 id17:Nat} {r13 r14 r15 r16 r17:Array Oper} {c68:Operand} {rest:Code} {l o n i l2 o2 c2 c:Nat} {M:Mem} {b:Blk} {ys:List V} {ρ:List PB} {fr:List V} {a:Act} {w:World} {Q:Exit→Act→World→Prop}
    (C:InC wd l o n i l2 o2 M b ys) (h68:okO c68 (.t 68)=true) (k13:Zca P r13 r13.toList (a13 wd)=true) (k14:ZGI P r14 wd=true) (k15:dr r15 (a15 wd)=true) (k16:Zca P r16 r16.toList (a16 wd)=true) (k17:Zca P r17 r17.toList a17=true)
    (hs:StR B ρ M w) (hb:Kept B w0 w) (hf:FR ρ fr a) (hI:InF (.slice (some ⟨l,o,none⟩) n c) (.slice (some ⟨l2,o2,none⟩) 1 c2) i n fr) (hcap:n+1≤c)
    (hQ:∀ (a':Act) (w':World) (ρ':List PB),ρ <+: ρ'→FR ρ' ((List.replicate 95 O).set 6 (.slice (some ⟨M.length,0,none⟩) (n+1) (n+1))) a'→StR B ρ' (M.set l { b with st:=0 }++[⟨(b.cells.drop o).take (i * wd)++ys++(b.cells.drop o).drop (i * wd),wd,2⟩]) w'→Kept B w0 w'→a'.defers=a.defers→Q .ret a' w') :
    (Code.seq (.region id13 r13 false) (.seq (.seq (.region id14 r14 false) (.cond c68 (.seq (.region id15 r15 true) (.seq (.region id16 r16 false) (.seq (.region id17 r17 false) .ret))) .skip)) rest)).wp P Q a w:=by
  have hlt:=C.lt
  have hmax:=C.max
  have hbw:=C.bw
  have hfill:=C.fill
  have hw1:=C.w1
  obtain ⟨p,hpp⟩:=hs.at C.bl
  obtain ⟨hyl,b2,hb2,hb2s,hb2l⟩:=C.yl
  have hl1:=(List.getElem?_eq_some_iff.1 C.bl).1
  obtain ⟨fr13,e13',hI13⟩:=e13 (call:=call) (M:=M) hI C.max hcap C.bl C.bw
  refine ZnU hcall hB k13 e13' hs hb hf ?_
  intro a13' w13 ρ13 q13 f13 s13 b13 d13
  unfold ZGI at k14
  split at k14
  case h_2=>cases k14
  rename_i p1 p2 p3 p4 p5 p6 p7 p8 hl14
  simp only [Bool.and_eq_true] at k14
  obtain ⟨⟨m1,m2⟩,m3⟩:=k14
  apply wp_seq
  apply wp_seq
  apply wp_region_list
  rw [hl14]
  obtain ⟨fr14,e14',hI14,h61,h66⟩:=e14 (call:=call) (M:=M) hI13 C.max hlt C.bl C.bw
  show wpList P r14 _ ([p1,p2,p3,p4,p5,p6]++[p7,p8]) _ _
  refine ZhR hcall hB [p1,p2,p3,p4,p5,p6] (a14 wd) ρ13 M M _ fr14 _ w13 _ m1 e14' s13 b13 f13 ?_
  intro a14' w14 ρ14 q14 f14 s14 b14 d14 _
  unfold ZEY at m2
  split at m2
  case h_2=>cases m2
  rename_i f args tys ho
  simp only [Bool.and_eq_true] at m2
  obtain ⟨⟨⟨g1,g2⟩,g3⟩,g4⟩:=m2
  have:=Zx6 g1; subst this
  have g2:p7.dst=some 67:=by simpa using g2
  obtain ⟨fn,tS,e,x1,x2,x3,x4,x5,x6,x7,x8⟩:=ZyL g4
  obtain ⟨u61,hu61,hv61⟩:=f14.get h61
  obtain ⟨u66,hu66,hv66⟩:=f14.get h66
  rw [Array.getElem?_toList] at hu61 hu66
  have hp14:ρ14[l]?=some p:=JR (q13.trans q14) hpp
  have hrunO:(execOp a14'.eval p7).run P w14=.ok (.value (.bool false)) w14:=by
    have e0:execOp a14'.eval p7=(do let d ← resolve a14'.eval { callee:=.value (.func f),args:=#[.tmp 61,.tmp 66],argTypes:=tys } p7.type; invoke d.target d.args):=by
      unfold execOp; rw [ho]
    have ef:a14'.eval (.func f)=.func (.func f) #[] #[]:=rfl
    rw [e0]
    simp only [resolve,ef,Deferred.ofValue,Sem.run_bind,Sem.run_pure,Result.andThen_ok,invoke]
    cases hv61 with
    | slice _ _ _ _ adv cv p2' hpp2 hsl2 =>
      cases hv66 with
      | slice _ _ _ _ adb cb pb hppb hslb =>
        rw [hp14] at hppb
        cases hppb
        obtain ⟨_,_,⟨hz,_⟩ | ⟨hvd2,rfl,htot2⟩⟩:=hsl2
        · omega
        obtain ⟨hnb,hcb,⟨hz,_⟩ | ⟨hvdb,rfl,htotb⟩⟩:=hslb
        · omega
        obtain ⟨_,csA,TA,fzA,y1,y2,y3,y4,y5⟩:=s14.blk l2 b2 p2' hb2 hpp2 hb2s
        obtain ⟨_,csB,TB,fzB,z1,z2,z3,z4,z5⟩:=s14.blk l b p C.bl hp14 (.inr C.st)
        have hne:p.blk ≠ p2'.blk:=s14.apart l l2 b b2 p p2' (fun e=>C.ne e.symm) C.bl hb2 hp14 hpp2 C.st hb2s
        have hpw:p.w=wd:=(s14.wd l b p C.bl hp14).trans hbw
        rw [hpw] at htotb
        have hcb1:1≤cb:=by omega
        have hcbw:wd≤cb * wd:=by
          have:=Nat.mul_le_mul_right wd hcb1
          omega
        have ev:(#[]:Array Value)++(#[.tmp 61,.tmp 66]:Array Operand).map a14'.eval++#[]=#[.slice (some ⟨p2'.blk,p2'.base+o2,none⟩) 1 cv,.slice (some ⟨p.blk,p.base+(o+(i+1) * wd),none⟩) (n+1 - (i+1)) cb]:=by
          simp [ZmG hu61,ZmG hu66]
        have hfr:∀ k,(k < csB.size∨k=csB.size∧1 < b.w)→w14.frozen? ⟨p.blk,k,none⟩=false:=fun k hk=>by
          have:=z5 C.st k hk
          simp only [World.frozen?,z1]
          simp only [Bool.and_eq_false_iff,decide_eq_false_iff_not]
          omega
        have key:=ZDp (P:=P) (w:=w14) (rs:=fn.resultTypes) x6 x7 (fun w=>Za1 x8) ⟨p2'.blk,p2'.base+o2,none⟩ ⟨p.blk,p.base+(o+(i+1) * wd),none⟩ 1 cv (n+1 - (i+1)) cb (fun e=>hne e.symm) TA TB csA.size csB.size
          (by simp [World.shape?,y1]) (by simp [World.shape?,z1]) (by omega) (by omega) (hfr _ (.inl (by omega))) (hfr _ (.inr ⟨rfl,by omega⟩))
        rw [ev,run_callFunc_extern x1 x3 x2 x4 x5,key]
        rfl
  refine Zj1 g3 hrunO ?_
  rw [g2]
  have f67:=ZiX f14 (.bool false) (some 67)
  have i67:=hI14.set (d:=67) (by omega) (.bool false)
  obtain ⟨fr68,e68,hI68,h68v⟩:=ZHg (call:=call) (M:=M) i67 (by simp [hI14.len])
  show wpList P r14 _ ([p8]++[]) _ _
  refine ZhR hcall hB [p8] ZF1 ρ14 M M _ fr68 _ w14 _ m3 e68 s14 b14 f67 ?_
  intro a68 w68 ρ68 q68 f68 s68 b68 d68 _
  have hc68:=Yx f68 h68
  rw [Zq6 h68v] at hc68
  have hc68':a68.eval c68=.bool true:=by
    generalize a68.eval c68=x at hc68
    cases hc68
    rfl
  refine wp_cond_true hc68' ?_
  have hones:=C.ones hs
  obtain ⟨fr15,e15',hI15⟩:=e15 (call:=call) (M:=M) hI68 hlt C.max C.bl C.st C.bw C.fill C.sct C.tl (Zly (Zly hones)) (by omega)
  refine ZtM hdr k15 e15' s68 b68 f68 ?_
  intro a15' w15 ρ15 q15 f15 s15 b15 d15
  have hk15:(M.set l ⟨b.cells.take (o+(i+1) * wd)++(b.cells.drop o).drop (i * wd),wd,2⟩)[l]?=some ⟨b.cells.take (o+(i+1) * wd)++(b.cells.drop o).drop (i * wd),wd,2⟩:=List.getElem?_set_self hl1
  have hi1:(i+1) * wd≤n * wd:=Nat.mul_le_mul_right _ (by omega)
  have hcl15:(b.cells.take (o+(i+1) * wd)++(b.cells.drop o).drop (i * wd)).length=o+(n+1) * wd:=by
    have h1:(i+1) * wd+(n - i) * wd=(n+1) * wd:=by
      rw [← Nat.add_mul]
      congr 1
      omega
    rw [List.length_append,C.tl,List.length_take]
    omega
  have hsc15:=ZDf (X:=M.set l ⟨b.cells.take (o+(i+1) * wd)++(b.cells.drop o).drop (i * wd),wd,2⟩) C.sc (List.getElem?_set_ne (fun e=>C.ne e.symm))
  obtain ⟨fr16,e16',hI16⟩:=e16 (call:=call) hI15 hk15 hcl15 hlt hsc15 hyl C.one (by omega)
  refine ZnU hcall hB k16 e16' s15 b15 f15 ?_
  intro a16' w16 ρ16 q16 f16 s16 b16 d16
  rw [List.set_set] at s16
  obtain ⟨fr17,e17',h6,hl17⟩:=e17 (call:=call) (M:=M.set l ⟨splice (b.cells.take (o+(i+1) * wd)++(b.cells.drop o).drop (i * wd)) (o+i * wd) ys,wd,2⟩) hI16
  refine ZnU hcall hB k17 e17' s16 b16 f16 ?_
  intro a17' w17 ρ17 q17 f17 s17 b17 d17
  apply wp_ret
  have hq:ρ <+: ρ17:=q13.trans (q14.trans (q68.trans (q15.trans (q16.trans q17))))
  have hp17:ρ17[l]?=some p:=JR hq hpp
  have hki:(M.set l ⟨splice (b.cells.take (o+(i+1) * wd)++(b.cells.drop o).drop (i * wd)) (o+i * wd) ys,wd,2⟩)[l]?=some ⟨splice (b.cells.take (o+(i+1) * wd)++(b.cells.drop o).drop (i * wd)) (o+i * wd) ys,wd,2⟩:=List.getElem?_set_self hl1
  have hile:=C.ile
  have hsm:(i+1) * wd=i * wd+wd:=Nat.succ_mul _ _
  have hle1:o+i * wd+ys.length≤o+(n+1) * wd:=by
    have:(i+1) * wd≤(n+1) * wd:=Nat.mul_le_mul_right _ (by omega)
    omega
  have hcl17:(splice (b.cells.take (o+(i+1) * wd)++(b.cells.drop o).drop (i * wd)) (o+i * wd) ys).length=o+(n+1) * wd:=by rw [YR _ _ _ (by omega),hcl15]
  have hren:=s17.rename hki hp17 rfl (of:=o) (by show o≤(splice _ _ _).length; omega) b.cells
  have hfin:(splice (b.cells.take (o+(i+1) * wd)++(b.cells.drop o).drop (i * wd)) (o+i * wd) ys).drop o=(b.cells.drop o).take (i * wd)++ys++(b.cells.drop o).drop (i * wd):=by
    have e1:o+(i+1) * wd=o+i * wd+wd:=by omega
    rw [e1]
    exact ZHd hyl (by omega)
  have hMl:({ b with st:=0 }:Blk)=⟨b.cells,wd,0⟩:=by rw [← hbw]
  rw [List.set_set] at hren
  simp only [hfin] at hren
  rw [hMl] at hQ
  have hpw:p.w=wd:=(hs.wd l b p C.bl hpp).trans hbw
  have hlen17:ρ17.length=M.length:=by rw [s17.len]; simp
  refine hQ a17' w17 _ (hq.trans (List.prefix_append _ _)) (Zwd (f17.mono (List.prefix_append ρ17 [_])) hl17 h6 fun cc hv=>?_) hren b17 (by rw [d17,d16,d15,d68,put_defers,d14,d13])
  cases hv with
  | slice _ _ _ _ ad' c' p' hpp' hsl' =>
    rw [JR (List.prefix_append ρ17 _) hp17] at hpp'
    cases hpp'
    obtain ⟨h1,h2,⟨h3,_⟩ | ⟨h3,rfl,h4⟩⟩:=hsl'
    · omega
    refine .slice M.length 0 (n+1) (n+1) _ c' ⟨p.blk,p.base+o,p.tot,p.w,false⟩ (by rw [← hlen17]; simp) ⟨h1,h1,.inr ⟨rfl,rfl,?_⟩⟩
    show p.base+o+0+c' * p.w≤p.tot
    omega
theorem Zv2 {wd by':Nat} {fr:List V} {M M':Mem} {v:V} (h:ZGo wd by' fr M=some (v,M')):∃ (l o n ca i l2 o2 c2:Nat) (b:Blk) (ys:List V),InC wd l o n i l2 o2 M b ys∧(n+1) * by'≤140737488355328∧InF (.slice (some ⟨l,o,none⟩) n ca) (.slice (some ⟨l2,o2,none⟩) 1 c2) i n fr ∧
    v=.slice (some ⟨M.length,0,none⟩) (n+1) (n+1)∧M'=M.set l { b with st:=0 }++[⟨(b.cells.drop o).take (i * wd)++ys++(b.cells.drop o).drop (i * wd),wd,2⟩]:=by
  unfold ZGo ZEg at h
  split at h
  · rename_i l o n ca i l2 o2 m c2 f0 f1 f2
    split at h
    · rename_i b k ys hb hsc
      split at h
      · rename_i hc
        obtain ⟨rfl,h1,h2,h3,h4,h5,h6,h7,h8,h9,h10,h11,h12,h13⟩:=hc
        obtain ⟨i,rfl⟩:∃ j:Nat,i=(j:Int):=⟨i.toNat,by omega⟩
        simp only [Option.some.injEq,Prod.mk.injEq] at h
        have gd:∀ k,k < 95→fr[k]?=some (fr.getD k O):=fun k hk=>by rw [List.getD_eq_getElem?_getD,List.getElem?_eq_getElem (by omega)]; rfl
        have hk1:k=1:=by
          rw [Ztx] at hsc
          split at hsc
          · cases hsc; rfl
          · obtain ⟨_,_,e⟩:=Option.map_eq_some_iff.1 hsc
            cases e; rfl
        subst hk1
        exact ⟨l,o,n,ca,i,l2,o2,c2,b,ys,⟨hb,h1,h2,h3,h4,h5,by omega,h9,h10,hsc⟩,h8,⟨h13,(gd 0 (by omega)).trans (by rw [f0]),(gd 1 (by omega)).trans (by rw [f1]),(gd 2 (by omega)).trans (by rw [f2]),(gd 7 (by omega)).trans (by rw [h11]; rfl),(gd 8 (by omega)).trans (by rw [h12])⟩,
          h.1.symm,h.2.symm⟩
      · cases h
    · cases h
  · cases h
theorem ZwP (hcall:ZlF P B w0 call) (hB:Inn B w0) {dr:Array Oper→List AOper→Bool} (hdr:Zkf P B w0 call dr):ZFo P B w0 call dr:=by
  intro wd by' zero cc ρ M MX fr frX ex a w Q hok he hs hb hf hQ
  unfold ZCQ at hok
  split at hok
  case h_2=>cases hok
  rename_i id8 r8 c31 id9 r9 id10 r10 id11 r11 id12 r12 id13 r13 id14 r14 c68 id15 r15 id16 r16 id17 r17 rest
  simp only [Bool.and_eq_true] at hok
  obtain ⟨⟨⟨⟨⟨⟨⟨⟨⟨⟨⟨h31,h68⟩,k8⟩,k9⟩,k10⟩,k11⟩,k12⟩,k13⟩,k14⟩,k15⟩,k16⟩,k17⟩:=hok
  simp only [Zu] at he
  split at he
  case h_2=>cases he
  rename_i v0 M' hins
  simp only [Option.some.injEq,Prod.mk.injEq] at he
  obtain ⟨rfl,rfl,rfl⟩:=he
  obtain ⟨l,o,n,ca,i,l2,o2,c2,b,ys,C,hby,hI,rfl,rfl⟩:=Zv2 hins
  have hlt:=C.lt
  obtain ⟨p,hpp⟩:=hs.at C.bl
  unfold ok8 at k8
  split at k8
  case h_2=>cases k8
  rename_i o1 o2' o3 o4 o5 o6 hl8
  simp only [Bool.and_eq_true] at k8
  obtain ⟨⟨⟨k8a,k8b⟩,k8c⟩,k8d⟩:=k8
  obtain ⟨fr1,e1,hI1,h28⟩:=e8 (call:=call) (M:=M) hI C.max
  apply wp_seq
  apply wp_seq
  apply wp_region_list
  rw [hl8]
  show wpList P r8 _ ([o1,o2',o3]++[o4,o5,o6]) a w
  refine ZhR hcall hB [o1,o2',o3] a8 ρ M M fr fr1 a w _ k8a e1 hs hb hf ?_
  intro a1 w1 ρ1 q1 f1 s1 b1 d1 _
  obtain ⟨v1,hv1,hvr1⟩:=f1.get hI1.h0
  have hsz1:=ZsR f1 hI1.len
  cases hvr1 with
  | slice _ _ _ _ ad c p' hpp' hsl =>
    rw [JR q1 hpp] at hpp'
    cases hpp'
    obtain ⟨hnc,hcc,⟨hz,_⟩ | ⟨hvd,rfl,htot⟩⟩:=hsl
    · omega
    have hvX:VR ρ1 (.slice (some ⟨l,o,none⟩) n c) (.slice (some ⟨p.blk,p.base+o,none⟩) n c):=.slice l o n c _ c p (JR q1 hpp) ⟨hnc,Nat.le_refl _,.inr ⟨hvd,rfl,htot⟩⟩
    rw [Array.getElem?_toList] at hv1
    obtain ⟨m1,m2,m3⟩:=ZtI k8b
    refine Zj1 m3 (ZBz m1 hv1) ?_
    rw [m2]
    have t29:(a1.put (some 29) (.slice (some ⟨p.blk,p.base+o,none⟩) n c)).tmps[29]?=some (.slice (some ⟨p.blk,p.base+o,none⟩) n c):=Zr0 _ (by omega)
    obtain ⟨g1,g2,g3⟩:=ZDl (P:=P) (w:=w1) k8c t29
    refine Zj1 g3 g1 ?_
    rw [g2]
    have fx:FR ρ1 (fr1.set 0 (.slice (some ⟨l,o,none⟩) n c)) a1:=f1.setA (by rw [Array.getElem?_toList]; exact hv1) hvX
    have f3:=ZiX (ZiX fx hvX (some 29)) (.int .i64 (c:Int)) (some 30)
    have i3:=((hI1.seti (.slice (some ⟨l,o,none⟩) n c)).set (d:=29) (by omega) (.slice (some ⟨l,o,none⟩) n c)).set (d:=30) (by omega) (.int .i64 (c:Int))
    obtain ⟨fr3,e3,hI3,h31v⟩:=e8b (call:=call) (M:=M) i3 (c:=c) (by (repeat rw [List.getElem?_set_ne (by decide)]); exact h28) (by simp [hI1.len])
    show wpList P r8 _ ([o6]++[]) _ _
    refine ZhR hcall hB [o6] a8b ρ1 M M _ fr3 _ w1 _ k8d e3 s1 b1 f3 ?_
    intro a4 w4 ρ4 q4 f4 s4 b4 d4 keep4
    have hreal:a4.tmps[0]?=some (.slice (some ⟨p.blk,p.base+o,none⟩) n c):=by
      rw [keep4 0 (by simp [a8b]),Zqb _ _ (by decide),Zqb _ _ (by decide)]
      exact hv1
    have hc31:=Yx f4 h31
    rw [Zq6 h31v] at hc31
    have hc31':a4.eval c31=.bool (decide (c < n+1)):=by
      generalize a4.eval c31=x at hc31
      cases hc31
      rfl
    have hdef:a4.defers=a.defers:=by rw [d4,put_defers,put_defers,d1]
    by_cases hcap:c < n+1
    · refine wp_cond_true (by rw [hc31']; simp [hcap]) ?_
      refine ZAy hcall hB hdr C hby k9 k10 k11 k12 s4 b4 f4 hI3 hreal (hvX.mono q4) hcap ?_
      intro a' w' ρ' r1 r2 r3 r4 r5
      exact hQ a' w' ρ' ((q1.trans q4).trans r1) r2 r3 r4 (by rw [r5,hdef])
    · refine wp_cond_false (by rw [hc31']; simp [hcap]) ?_
      apply wp_skip
      refine ZA1 hcall hB hdr C h68 k13 k14 k15 k16 k17 s4 b4 f4 hI3 (by omega) ?_
      intro a' w' ρ' r1 r2 r3 r4 r5
      exact hQ a' w' ρ' ((q1.trans q4).trans r1) r2 r3 r4 (by rw [r5,hdef])
end
end GoAm
