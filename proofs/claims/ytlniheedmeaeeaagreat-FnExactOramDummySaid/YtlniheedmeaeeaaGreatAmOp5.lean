/- The operations, one by one, continued: new memory. -/
import Derived.Test.YtlniheedmeaeeaaGreatAmOp4
import Derived.Laws.BytesString
import Derived.Lib.ConvBytes
import Derived.Laws.MakeOwn
set_option autoImplicit false
set_option linter.unusedSimpArgs false
set_option linter.unusedVariables false
namespace GoAm
open Go Go.RowKit
section
variable {P:Program} {B:Nat→Nat} {w0 w:World} {ρ:List PB} {M M':Mem} {fr:List V} {a:Act} {o:Oper} {v:V} {call:Yd}
theorem Zfe.fresh (hs:StR B ρ M w) (hb:Kept B w0 w) (hB:Inn B w) {cs:List V} {cc:Array V} {T:TypeId} {wd:Nat} {fz:Nat × Nat}
    (h1:cs.all one=true) (hl:cs.length≤cc.size) (hv:∀ (i:Nat) (v:V),cs[i]?=some v→∃ c,cc[i]?=some c∧VR ρ v c)
    (hf:∀ i,(i < cc.size∨i=cc.size∧1 < wd)→¬ (fz.1≤i∧i < fz.2)) {w':World} (hw:w'.heap=w.heap.push (.cells cc T fz)) (hw':Kept B w w') {r:Result Next} {v c:V}
    (hr:r=.ok (.value c) w') (hvc:VR (ρ++[⟨w.heap.size,0,cc.size,wd,false⟩]) v c):Zfe B w0 ρ (M++[⟨cs,wd,2⟩]) v r :=
  ⟨c,w',_,.inl hr,List.prefix_append _ _,hs.alloc hB cs cc T wd fz h1 hl hv hf hw,hb.trans hw',hvc⟩
theorem Zh2 (w:World) (hB:Inn B w) (o:Obj):Kept B w (w.alloc o):=(Kept.refl B w).alloc hB o
theorem VRl.at {as bs:List V} (h:VRl ρ as bs):∀ (i:Nat) (v:V),as[i]?=some v→∃ c,bs.toArray[i]?=some c∧VR ρ v c:=by
  intro i v hv
  obtain ⟨c,hc,hvr⟩:=h.get hv
  exact ⟨c,by simpa using hc,hvr⟩
theorem ZqU (hl:ρ.length=M.length) (b n wd:Nat):VR (ρ++[⟨b,0,n,wd,false⟩]) (.pointer (some ⟨M.length,0,none⟩)) (.pointer (some ⟨b,0,none⟩)):=by
  have:=VR.ptr (ρ:=ρ++[⟨b,0,n,wd,false⟩]) M.length 0 ⟨b,0,n,wd,false⟩ (by rw [← hl]; simp) rfl
  simpa using this
theorem Zh7 (hl:ρ.length=M.length) (b tot wd n c:Nat) (h1:n≤c) (h2:c * wd≤tot) :
    VR (ρ++[⟨b,0,tot,wd,false⟩]) (.slice (some ⟨M.length,0,none⟩) n n) (.slice (some ⟨b,0,none⟩) n c):=by
  refine .slice M.length 0 n n _ c ⟨b,0,tot,wd,false⟩ (by rw [← hl]; simp) ⟨h1,h1,.inr ⟨rfl,by simp,?_⟩⟩
  simpa using h2
theorem ZGC (hs:StR B ρ M w) (hb:Kept B w0 w) (hB:Inn B w) (hf:FR ρ fr a) {cs:List V} (hc:ZM P o.op (.new cs)=true) (h:Ze call fr M (.new cs)=some (v,M')) :
    Zfe B w0 ρ M' v ((execOp a.eval o).run P w):=by
  unfold ZM at hc
  simp only at hc
  split at hc
  · rename_i e ho
    obtain ⟨z,hz1,hz2,hz3⟩:=Zim (P:=P) (w:=w) hc
    simp only [Ze] at h
    split at h
    · rename_i h1
      simp only [Option.some.injEq,Prod.mk.injEq] at h
      obtain ⟨rfl,rfl⟩:=h
      refine Zfe.fresh hs hb hB (cc:=z.cells) (T:=e) (fz:=(0,0)) h1 (by have:=(hz3 ρ).1; simp at this; omega) (by simpa using (hz3 ρ).at) (by simp) (w':=w.alloc (.cells z.cells e)) rfl (Zh2 w hB _)
        (c:=.pointer (some ⟨w.heap.size,0,none⟩)) ?_ (ZqU hs.len _ _ _)
      simp only [execOp,ho,Instr.alloc,Sem.run_bind,hz1,Result.andThen_ok,newVar,newRow,run_newObj,Sem.run_pure]
      rfl
    · cases h
  · cases hc
theorem ZGy (hs:StR B ρ M w) (hb:Kept B w0 w) (hB:Inn B w) (hf:FR ρ fr a) {y:Opd} (hc:ZM P o.op (.box y)=true) (h:Ze call fr M (.box y)=some (v,M')) :
    Zfe B w0 ρ M' v ((execOp a.eval o).run P w):=by
  unfold ZM at hc
  simp only at hc
  split at hc
  · rename_i e x ho
    have k:=Yx hf hc
    simp only [Ze] at h
    split at h
    · rename_i h1
      simp only [Option.some.injEq,Prod.mk.injEq] at h
      obtain ⟨rfl,rfl⟩:=h
      have hcs:=k.cellsOf (Zmb h1)
      refine Zfe.fresh hs hb hB (cc:=(a.eval x).cells) (T:=e) (fz:=(0,0)) h1 (by have:=hcs.1; simp at this; omega) (by simpa using hcs.at) (by simp) (w':=w.alloc (.cells (a.eval x).cells e)) rfl (Zh2 w hB _)
        (c:=.pointer (some ⟨w.heap.size,0,none⟩)) ?_ (ZqU hs.len _ _ _)
      simp only [execOp,ho,Instr.box,Sem.run_bind,Result.andThen_ok,newVar,newRow,run_newObj,Sem.run_pure]
      rfl
    · cases h
  · cases hc
theorem Zw2 (z:List V) (n:Nat):(List.range (n * z.length)).map (fun i=>z.getD (i % z.length) O)=zeroCells z n:=by
  induction n with
  | zero=>simp [zeroCells]
  | succ n ih =>
    have e:(n+1) * z.length=z.length+n * z.length:=by rw [Nat.add_mul]; omega
    rw [e,List.range_add,List.map_append,zeroCells]
    congr 1
    · apply List.ext_getElem?
      intro i
      by_cases hi:i < z.length
      · simp [hi,List.getD,Nat.mod_eq_of_lt hi]
      · simp [hi,List.getElem?_eq_none (Nat.le_of_not_lt hi)]
    · rw [List.map_map,← ih]
      apply List.map_congr_left
      intro i _
      simp [Nat.add_mod_left]
theorem Zn8 (z:Array V) (n:Nat):madeCells z (n * z.size)=(zeroCells z.toList n).toArray:=by
  apply Array.ext'
  rw [← Zw2]
  simp only [madeCells,Array.toList_map,Array.toList_range,Array.length_toList]
  apply List.map_congr_left
  intro i hi
  have hi':i < n * z.size:=by simpa using hi
  have hz:0 < z.size:=by
    rcases Nat.eq_zero_or_pos z.size with h | h
    · rw [h] at hi'; simp at hi'
    · exact h
  have hm:i % z.size < z.size:=Nat.mod_lt _ hz
  simp [hm,getElem!_pos,List.getD]
theorem Qw (z:List V) (n:Nat):(zeroCells z n).length=n * z.length:=by
  induction n with
  | zero=>simp [zeroCells]
  | succ n ih=>simp [zeroCells,ih,Nat.add_mul,Nat.add_comm]
theorem Zk4 {z:List V} (h:z.all one=true) (n:Nat):(zeroCells z n).all one=true:=by
  induction n with
  | zero=>rfl
  | succ n ih=>simp only [zeroCells,List.all_append,h,ih,Bool.and_self]
theorem ZdX {z c:List V} (h:VRl ρ z c) (n:Nat):VRl ρ (zeroCells z n) (zeroCells c n):=by
  induction n with
  | zero=>exact .nil
  | succ n ih=>exact h.append ih
theorem ZFu (hs:StR B ρ M w) (hb:Kept B w0 w) (hB:Inn B w) (hf:FR ρ fr a) {wd by':Nat} {zero:List V} {y:Opd} (hc:ZM P o.op (.make wd by' zero y)=true) (h:Ze call fr M (.make wd by' zero y)=some (v,M')) :
    Zfe B w0 ρ M' v ((execOp a.eval o).run P w):=by
  unfold ZM at hc
  simp only at hc
  split at hc
  · rename_i t l c ho
    simp only [Bool.and_eq_true] at hc
    obtain ⟨⟨hl,hcc⟩,ht⟩:=hc
    have k1:=Yx hf hl; have k2:=Yx hf hcc
    split at ht
    · rename_i e hu
      simp only [Bool.and_eq_true] at ht
      obtain ⟨⟨⟨hsz,hby⟩,hz⟩,hzl⟩:=ht
      obtain ⟨z,hz1,hz2,hz3⟩:=Zim (P:=P) (w:=w) hz
      unfold zB at hz
      unfold szB at hsz
      unfold byB at hby
      split at hz
      · rename_i i hi
        rw [hi] at hsz hby
        split at hz
        · rename_i z' hz'
          have hsz:i.size=wd:=by simpa using hsz
          have hby:i.bytes=by':=by simpa using hby
          have hzl:zero.length=wd:=by simpa using hzl
          have hzz:z'.cells.toList=zero:=ZqR hz
          simp only [Ze] at h
          split at h
          · rename_i kk n hp
            rw [hp] at k1 k2
            split at h
            · rename_i hcond
              obtain ⟨h0,h2,h3,h4⟩:=hcond
              simp only [Option.some.injEq,Prod.mk.injEq] at h
              obtain ⟨rfl,rfl⟩:=h
              cases e1:a.eval l <;> rw [e1] at k1 <;> cases k1
              cases e2:a.eval c <;> rw [e2] at k2 <;> cases k2
              have hr:=run_make (P:=P) w t e i z' hu hi hz' kk kk n n h0 (Int.le_refl _) (by rw [hby,Int.mul_comm]; exact h2) h3
              have hsz':i.size=z'.cells.size:=by rw [hsz,← hzl,← hzz]; simp
              rw [hsz',Zn8,hzz] at hr
              refine Zfe.fresh hs hb hB (cc:=(zeroCells zero n.toNat).toArray) (T:=e) (fz:=(0,0)) (Zk4 h4 _) (by simp)
                (by have:=(ZdX (hz3 ρ) n.toNat).at; rw [hz2] at this; exact this) (by simp) (w':=w.alloc (.cells (zeroCells zero n.toNat).toArray e)) rfl (Zh2 w hB _)
                (c:=.slice (some ⟨w.heap.size,0,none⟩) n.toNat n.toNat) ?_ (Zh7 hs.len _ _ _ _ _ (Nat.le_refl _) (by simp [Qw,hzl]))
              simp only [execOp,ho,e1,e2,Sem.run_bind,hr,Result.andThen_ok,Sem.run_pure]
            · cases h
          · cases h
        · cases hz
      · cases hz
    · cases ht
  · cases hc
theorem ZGH (hs:StR B ρ M w) (hb:Kept B w0 w) (hf:FR ρ fr a) {y:Opd} (hc:ZM P o.op (.bts y)=true) (h:Ze call fr M (.bts y)=some (v,M')) :
    Zfe B w0 ρ M' v ((execOp a.eval o).run P w):=by
  unfold ZM at hc
  simp only at hc
  split at hc
  · rename_i s d x ho
    simp only [Bool.and_eq_true] at hc
    have k:=Yx hf hc.1
    have h2:=hc.2
    split at h2
    · rename_i e hus hud
      unfold ZEa at h2
      split at h2
      · rename_i kk hke
        have hk:kk=.u8:=by simpa using h2
        subst hk
        simp only [Ze] at h
        split at h
        · rename_i n cs hsc
          simp only [Option.map_eq_some_iff,Prod.mk.injEq] at h
          obtain ⟨bs,hbs,rfl,rfl⟩:=h
          obtain ⟨ad,cp,cc,e1,hl,hvr,h1,hn,hcell⟩:=hs.cells hsc k
          have hcc:cc=cs:=ZnP hvr hbs
          subst hcc
          have hints:∀ (l:List V) (bs:List UInt8),Zf6 l=some bs→∃ ns:List Int,l=ns.map (Value.int .u8)∧bs=ns.map (fun n=>UInt8.ofNat n.toNat):=by
            intro l
            induction l with
            | nil=>intro bs h; simp [Zf6] at h; subst h; exact ⟨[],rfl,rfl⟩
            | cons v l ih =>
              intro bs h
              unfold Zf6 at h
              split at h
              · rename_i heq; cases heq
              · rename_i n rest heq
                cases heq
                simp only [Option.map_eq_some_iff] at h
                obtain ⟨bs',hb',rfl⟩:=h
                obtain ⟨ns,rfl,rfl⟩:=ih bs' hb'
                exact ⟨n :: ns,rfl,rfl⟩
              · cases h
          obtain ⟨ns,hns,rfl⟩:=hints _ _ hbs
          have hfold:∀ (ns:List Int) (s:ByteArray),ns.foldl (fun r n=>r.push (UInt8.ofNat n.toNat)) s=⟨(s.data.toList++ns.map (fun n=>UInt8.ofNat n.toNat)).toArray⟩:=by
            intro ns
            induction ns with
            | nil=>intro s; simp
            | cons n ns ih=>intro s; rw [List.foldl_cons,ih]; simp [ByteArray.push]
          refine .pure hs hb (c:=.string ⟨(ns.map (fun n=>UInt8.ofNat n.toNat)).toArray⟩) ?_ (.str _)
          have hconv:=run_convert_bytes_string (P:=P) w s d e ad n cp hus hke hud
          have hrun:(Conv.bytesToString (.slice ad n cp)).run P w=.ok (.string ⟨(ns.map (fun n=>UInt8.ofNat n.toNat)).toArray⟩) w:=by
            cases ad with
            | none =>
              have:ns=[]:=by have:=hn rfl; rw [hns] at this; simpa using this
              subst this
              simp [Conv.bytesToString]
              rfl
            | some ad =>
              have hload:=run_loadCells_list (P:=P) w ad cc (hcell ad rfl)
              rw [hl,Nat.mul_one] at hload
              rw [run_bytesToString (P:=P) w ad n cp ns (by rw [hload,hns]),hfold]
              rfl
          simp only [execOp,ho,e1,Sem.run_bind,hconv,hrun,Result.andThen_ok,Sem.run_pure]
        · cases h
      · cases h2
    · cases h2
  · cases hc
theorem ZGQ (hs:StR B ρ M w) (hb:Kept B w0 w) (hB:Inn B w) (hf:FR ρ fr a) {y:Opd} (hc:ZM P o.op (.stb y)=true) (h:Ze call fr M (.stb y)=some (v,M')) :
    Zfe B w0 ρ M' v ((execOp a.eval o).run P w):=by
  unfold ZM at hc
  simp only at hc
  split at hc
  · rename_i s d x ho
    simp only [Bool.and_eq_true] at hc
    have k:=Yx hf hc.1.1
    obtain ⟨us,hus⟩:=Option.isSome_iff_exists.1 hc.1.2
    have h2:=hc.2
    split at h2
    · rename_i e hud
      unfold ZEa at h2
      split at h2
      · rename_i kk hke
        have hk:kk=.u8:=by simpa using h2
        subst hk
        simp only [Ze] at h
        split at h
        · rename_i str hp
          rw [hp] at k
          simp only [Option.some.injEq,Prod.mk.injEq] at h
          obtain ⟨rfl,rfl⟩:=h
          cases e1:a.eval x <;> rw [e1] at k <;> cases k
          have hr:=Lib.run_convert_string_bytes (P:=P) w s d e str hus hud hke
          have hsz:(Lib.bytesCells w e str).size=max str.size (grownCap w str.size 0 e):=by
            simp [Lib.bytesCells]; show str.data.size+_=_; have:str.size=str.data.size:=rfl; omega
          have hcap:str.size≤grownCap w str.size 0 e:=by
            simp only [grownCap,Question.cut]; omega
          have hheap:(Lib.bytesWorld w e str).heap=w.heap.push (.cells (Lib.bytesCells w e str) e ((Lib.bytesCells w e str).size,(Lib.bytesCells w e str).size+1)):=by
            apply Array.ext_getElem?
            intro j
            by_cases hj:j < w.heap.size
            · rw [Lib.bytesWorld_at_old w e str j hj,Array.getElem?_push,if_neg (by omega)]
            · by_cases hj':j=w.heap.size
              · subst hj'; rw [Lib.bytesWorld_at_new]; simp
              · rw [Array.getElem?_eq_none (by rw [Lib.bytesWorld_size]; omega),Array.getElem?_eq_none (by simp; omega)]
          refine Zfe.fresh hs hb hB (cs:=str.data.toList.map Y0) (cc:=Lib.bytesCells w e str) (T:=e) (fz:=_) (by rw [List.all_map]; exact List.all_eq_true.2 (fun b _=>rfl)) (by rw [hsz]; simp; show str.data.size≤_; have:str.size=str.data.size:=rfl; omega) ?_ ?_ (w':=Lib.bytesWorld w e str) hheap ?_
            (c:=.slice (some ⟨w.heap.size,0,none⟩) str.size (grownCap w str.size 0 e)) ?_ (Zh7 hs.len _ _ _ _ _ hcap (by rw [hsz]; omega))
          · intro i v hi
            simp only [List.getElem?_map,Option.map_eq_some_iff] at hi
            obtain ⟨b,hbb,rfl⟩:=hi
            refine ⟨Y0 b,?_,.int _ _⟩
            have hlt:=(List.getElem?_eq_some_iff.1 hbb).1
            simp only [Lib.bytesCells]
            rw [Array.getElem?_append_left (by simpa using hlt)]
            simp at hbb
            simp [hbb,Y0]
          · intro i hi h'; omega
          · exact ⟨rfl,rfl,rfl,by rw [Lib.bytesWorld_size]; omega,fun j hj=>Lib.bytesWorld_at_old w e str j (hB j hj)⟩
          · simp only [execOp,ho,e1,Sem.run_bind,hr,Result.andThen_ok,Sem.run_pure]
        · cases h
      · cases h2
    · cases h2
  · cases hc
theorem StR.void (h:StR B ρ M w) (wd:Nat):StR B (ρ++[⟨0,0,0,wd,true⟩]) (M++[⟨[],wd,3⟩]) w:=by
  have hpre:ρ <+: ρ++[⟨0,0,0,wd,true⟩]:=List.prefix_append _ _
  have both:∀ (l:Nat) (b:Blk) (p:PB),(M++[⟨[],wd,3⟩])[l]?=some b→(ρ++[⟨0,0,0,wd,true⟩])[l]?=some p →
      (M[l]?=some b∧ρ[l]?=some p)∨(l=M.length∧b=⟨[],wd,3⟩∧p=⟨0,0,0,wd,true⟩):=by
    intro l b p hb hp
    rcases QF hb with ⟨hl,hb⟩ | ⟨hl,hb⟩
    · left; rcases QF hp with ⟨hl',hp⟩ | ⟨hl',hp⟩
      · exact ⟨hb,hp⟩
      · rw [h.len] at hl'; omega
    · right; rcases QF hp with ⟨hl',hp⟩ | ⟨hl',hp⟩
      · rw [h.len] at hl'; omega
      · exact ⟨hl,hb,hp⟩
  refine ⟨by simp [h.len],?_,?_,?_,?_,?_,?_⟩
  · intro l b p hb hp
    rcases both l b p hb hp with ⟨hb,hp⟩ | ⟨_,rfl,rfl⟩
    · exact h.wd l b p hb hp
    · rfl
  · intro l b p hb hp hs
    rcases both l b p hb hp with ⟨hb,hp⟩ | ⟨_,rfl,rfl⟩
    · exact h.vd l b p hb hp hs
    · rfl
  · intro l b p hb hp hs
    rcases both l b p hb hp with ⟨hb,hp⟩ | ⟨_,rfl,rfl⟩
    · exact ⟨(h.blk l b p hb hp hs).1,(h.blk l b p hb hp hs).2.mono hpre rfl⟩
    · simp at hs
  · intro l b p hb hp hs
    rcases both l b p hb hp with ⟨hb,hp⟩ | ⟨_,rfl,rfl⟩
    · exact h.own l b p hb hp hs
    · simp at hs
  · intro l b p hb hp hs
    rcases both l b p hb hp with ⟨hb,hp⟩ | ⟨_,rfl,rfl⟩
    · exact h.ro l b p hb hp hs
    · simp at hs
  · intro l l' b b' p p' hne hb hb' hp hp' hs hs'
    rcases both l b p hb hp with ⟨hb,hp⟩ | ⟨hl,rfl,rfl⟩
    · rcases both l' b' p' hb' hp' with ⟨hb',hp'⟩ | ⟨hl',rfl,rfl⟩
      · exact h.apart l l' b b' p p' hne hb hb' hp hp' hs hs'
      · simp at hs'
    · simp at hs
theorem ZEj {x:Operand} (h:ZpN x=true):a.eval x=.int .i64 0:=by
  unfold ZpN at h
  split at h
  · rfl
  · cases h
theorem ZEU (hs:StR B ρ M w) (hb:Kept B w0 w) (hf:FR ρ fr a) {wd:Nat} {y:Opd} (hc:ZM P o.op (.slc0 wd y)=true) (h:Ze call fr M (.slc0 wd y)=some (v,M')) :
    Zfe B w0 ρ M' v ((execOp a.eval o).run P w):=by
  unfold ZM at hc
  simp only at hc
  split at hc
  · rename_i t x lo hi mx ho
    simp only [Bool.and_eq_true] at hc
    obtain ⟨⟨⟨⟨hx,hlo⟩,hhi⟩,hmx⟩,ht⟩:=hc
    have k1:=Yx hf hx
    have hlo:lo=none:=by cases lo <;> simp_all
    subst hlo
    unfold Zgz at ht
    split at ht
    · rename_i e hu
      have key:∀ (ad:Option Addr) (n c:Nat),a.eval x=.slice ad n c→(execOp a.eval o).run P w=.ok (.value (.slice ad 0 0)) w:=by
        intro ad n c e1
        have b1:(Instr.sliceBound (.int .i64 0) c .slice3Acap).run P w=.ok 0 w:=Zbn (by omega) (by omega)
        have b2:(Instr.sliceBound (.int .i64 0) 0 .slice3B).run P w=.ok 0 w:=Zbn (by omega) (by omega)
        simp [execOp,ho,e1,Instr.sliceAt,run_underlying hu,Instr.slice,ZEj hhi,ZEj hmx,Instr.sliceBounds,b1,b2,Za1 ht]
      simp only [Ze] at h
      split at h
      · rename_i hp
        rw [hp] at k1
        simp only [Option.some.injEq,Prod.mk.injEq] at h
        obtain ⟨rfl,rfl⟩:=h
        generalize e1:a.eval x=cx at k1
        cases k1
        exact .pure hs hb (key _ _ _ e1) .nil
      · rename_i ad n c hp
        rw [hp] at k1
        simp only [Option.some.injEq,Prod.mk.injEq] at h
        obtain ⟨rfl,rfl⟩:=h
        generalize e1:a.eval x=cx at k1
        cases k1 with
        | slice l of _ _ ad' c' p hpp hsl =>
          refine ⟨_,w,_,.inl (key _ _ _ e1),List.prefix_append _ _,hs.void wd,hb,?_⟩
          exact .slice M.length 0 0 0 ad' 0 ⟨0,0,0,wd,true⟩ (by rw [← hs.len]; simp) ⟨Nat.le_refl _,Nat.le_refl _,.inl ⟨rfl,rfl⟩⟩
      · cases h
    · cases ht
  · cases hc
theorem Zki {hf:FR ρ fr a} {wd:Nat}:∀ {ps:List (Nat × Operand)} {qs:List (Nat × Nat × Opd)},ZfZ wd ps qs=true →
    (Zdi fr qs).length=(ps.map fun p=>(p.1,a.eval p.2)).length∧∀ (i:Nat) (p:Nat × Nat × V) (q:Nat × V),(Zdi fr qs)[i]?=some p→(ps.map fun p=>(p.1,a.eval p.2))[i]?=some q →
      some (q.1 * wd,wd)=some (p.1,p.2.1)∧VR ρ p.2.2 q.2
  | [],[],_=>by simp [Zdi]
  | [],_ :: _,h=>by simp [ZfZ] at h
  | _ :: _,[],h=>by simp [ZfZ] at h
  | (i,x) :: ps,(off,n,y) :: qs,h=>by
    simp only [ZfZ,Bool.and_eq_true] at h
    obtain ⟨⟨⟨h1,h2⟩,h3⟩,h4⟩:=h
    obtain ⟨l,r⟩:=Zki (hf:=hf) h4
    refine ⟨by simpa [Zdi] using l,fun j p q hp hq=>?_⟩
    cases j with
    | zero =>
      simp [Zdi] at hp hq
      subst hp; subst hq
      have e1:i * wd=off:=by simpa using h1
      have e2:n=wd:=by simpa using h2
      exact ⟨by simp [e1,e2],Yx hf h3⟩
    | succ j=>simp [Zdi] at hp hq; exact r j p q (by simpa [Zdi] using hp) (by simpa using hq)
theorem Zmz:∀ (ps:List (Nat × Nat × V)) (cells out:List V),Zi2 cells ps=some out→out.length=cells.length
  | [],cells,out,h=>by simp only [Zi2,Option.some.injEq] at h; subst h; rfl
  | (off,n,v) :: ps,cells,out,h=>by
    simp only [Zi2] at h
    split at h
    · rename_i hc
      rw [Zmz ps _ out h,YR _ _ _ (by omega)]
    · cases h
theorem ZGF (hs:StR B ρ M w) (hb:Kept B w0 w) (hB:Inn B w) (hf:FR ρ fr a) {wd n:Nat} {zero:List V} {qs:List (Nat × Nat × Opd)} (hc:ZM P o.op (.mkl wd n zero qs)=true) (h:Ze call fr M (.mkl wd n zero qs)=some (v,M')) :
    Zfe B w0 ρ M' v ((execOp a.eval o).run P w):=by
  unfold ZM at hc
  simp only at hc
  split at hc
  · rename_i t n' ps ho
    simp only [Bool.and_eq_true,decide_eq_true_eq] at hc
    obtain ⟨⟨⟨hn,hlim⟩,ht⟩,hps⟩:=hc
    have hn:n=n':=by simpa using hn
    subst hn
    split at ht
    · rename_i e hu
      simp only [Bool.and_eq_true] at ht
      obtain ⟨hsz,hz⟩:=ht
      simp only [Ze] at h
      split at h
      · rename_i cs hfill
        split at h
        · rename_i h1
          simp only [Option.some.injEq,Prod.mk.injEq] at h
          obtain ⟨rfl,rfl⟩:=h
          obtain ⟨l,r⟩:=Zki (hf:=hf) hps
          have e3:(ps.map fun (p:Nat × Operand)=>(p.1,a.eval p.2)).toList=ps.toList.map fun p=>(p.1,a.eval p.2):=by simp
          have hfz:∃ oc:Array V,(execOp a.eval o).run P w=.ok (.value (.slice (some ⟨w.heap.size,0,none⟩) n n)) (w.alloc (.cells oc e))∧VRl ρ cs oc.toList∧oc.size=n * wd:=by
            have hn2:¬ (n * wd > 2 ^ 24):=by omega
            have hbase:∃ zc:Array V,((n * wd=0∧zc=#[])∨(n * wd ≠ 0∧∃ z:V,(zeroValue e).run P w=.ok z w∧z.cells=zc))∧VRl ρ (zeroCells zero n) ((Array.range (n * wd)).map (zc[· % zc.size]!)).toList:=by
              by_cases h0:n * wd=0
              · rw [if_pos h0] at hz
                have hze:zero=[]:=by simpa using hz
                subst hze
                have hzc:zeroCells ([]:List V) n=[]:=by
                  have:=Qw ([]:List V) n
                  simpa using this
                refine ⟨#[],.inl ⟨h0,rfl⟩,?_⟩
                rw [hzc,h0,Array.range_zero']
                simpa using VRl.nil
              · rw [if_neg h0] at hz
                simp only [Bool.and_eq_true] at hz
                obtain ⟨z,hz1,hz2,hz3⟩:=Zim (P:=P) (w:=w) hz.1
                have hzl:zero.length=wd:=by simpa using hz.2
                refine ⟨z.cells,.inr ⟨h0,z,hz1,rfl⟩,?_⟩
                have hws:wd=z.cells.size:=by rw [← hzl,← hz2]; simp
                have:=Zn8 z.cells n
                rw [hws]
                unfold madeCells at this
                rw [this,hz2]
                have:=ZdX (hz3 ρ) n
                rw [hz2] at this
                simpa using this
            obtain ⟨zc,hz1,hz2⟩:=hbase
            obtain ⟨oc,e1,e2⟩:=ZpW (ρ:=ρ) (place:=fun i=>some (i * wd,wd)) _ _ _ _ cs hz2 l r hfill
            refine ⟨oc,?_,e2,?_⟩
            · rw [← e3] at e1
              simp only [execOp,ho,Instr.buildSlice,Sem.run_bind,run_underlying hu,Result.andThen_ok,Za1 hsz]
              rw [if_neg hn2]
              rcases hz1 with ⟨h0,rfl⟩ | ⟨h0,z,hz1,rfl⟩
              · rw [if_pos h0]
                simp only [Sem.run_bind,Result.andThen_ok,Sem.run_pure,e1,newRow,run_newObj]
                rfl
              · rw [if_neg h0]
                simp only [Sem.run_bind,hz1,Result.andThen_ok,Sem.run_pure,e1,newRow,run_newObj]
                rfl
            · have h5:=e2.1
              have h6:=Zmz _ _ _ hfill
              have h7:=hz2.1
              simp at h5 h7
              omega
          obtain ⟨oc,hr,hvr,hos⟩:=hfz
          exact Zfe.fresh hs hb hB (cc:=oc) (T:=e) (fz:=(0,0)) h1 (by have:=hvr.1; simp at this; omega) (by simpa using hvr.at) (by simp) (w':=w.alloc (.cells oc e)) rfl (Zh2 w hB _)
            hr (Zh7 hs.len _ _ _ _ _ (Nat.le_refl _) (by omega))
        · cases h
      · cases h
    · cases ht
  · cases hc
end
end GoAm
