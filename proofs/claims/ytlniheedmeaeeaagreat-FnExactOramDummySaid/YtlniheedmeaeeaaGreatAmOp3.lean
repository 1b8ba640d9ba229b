/- The operations, one by one, continued: slices of slices and strings, comparisons, structs, conversions. -/
import Derived.Test.YtlniheedmeaeeaaGreatAmOp2
set_option autoImplicit false
set_option linter.unusedSimpArgs false
set_option linter.unusedVariables false
namespace GoAm
open Go Go.RowKit
section
variable {P:Program} {B:Nat→Nat} {w0 w:World} {ρ:List PB} {M M':Mem} {fr:List V} {a:Act} {o:Oper} {v:V} {call:Yd}
theorem Zbn {k:IntKind} {i:Int} {y:Nat} {code:BoundsCode} (h0:0≤i) (h1:i≤y):(Instr.sliceBound (.int k i) y code).run P w=.ok i.toNat w:=by
  simp only [Instr.sliceBound,asIntOf,Sem.run_bind,Sem.run_pure,Result.andThen_ok]
  rw [if_pos ⟨h0,h1⟩]
  rfl
theorem ZlS {fr:List V} {a:Act} (hf:FR ρ fr a) {lo hi:Option Operand} {lo' hi':Option Opd} (hlo:ZvA lo lo'=true) (hhi:ZvA hi hi'=true) (isS:Bool) (n c:Nat) {l h:Int}
    (el:ZhM fr 0 lo'=some l) (eh:ZhM fr n hi'=some h) (h0:0≤l) (h1:l≤h) (h2:h≤c) :
    (Instr.sliceBounds isS n c (lo.map a.eval) (hi.map a.eval) none).run P w=.ok (l.toNat,h.toNat,c) w:=by
  have kh:∀ {e:Operand} {e':Opd} {d i:Int},okO e e'=true→ZhM fr d (some e')=some i→∃ k,a.eval e=.int k i:=by
    intro e e' d i ho hb
    have k:=Yx hf ho
    simp only [ZhM] at hb
    split at hb
    · rename_i kk j hj
      cases hb
      rw [hj] at k
      cases e1:a.eval e <;> rw [e1] at k <;> cases k
      exact ⟨kk,rfl⟩
    · cases hb
  unfold Instr.sliceBounds
  cases lo with
  | none =>
    cases lo' with
    | some _=>simp [ZvA] at hlo
    | none =>
      simp only [ZhM,Option.some.injEq] at el
      subst el
      cases hi with
      | none =>
        cases hi' with
        | some _=>simp [ZvA] at hhi
        | none =>
          simp only [ZhM,Option.some.injEq] at eh
          subst eh
          simp
      | some e =>
        cases hi' with
        | none=>simp [ZvA] at hhi
        | some e' =>
          obtain ⟨k,hk⟩:=kh hhi eh
          simp only [Option.map_some,Option.map_none,hk,Sem.run_bind,Sem.run_pure,Result.andThen_ok,Zbn (P:=P) (w:=w) (k:=k) (y:=c) (by omega:0≤h) h2]
          rfl
  | some e0 =>
    cases lo' with
    | none=>simp [ZvA] at hlo
    | some e0' =>
      obtain ⟨k0,hk0⟩:=kh hlo el
      cases hi with
      | none =>
        cases hi' with
        | some _=>simp [ZvA] at hhi
        | none =>
          simp only [ZhM,Option.some.injEq] at eh
          subst eh
          simp only [Option.map_some,Option.map_none,hk0,Sem.run_bind,Sem.run_pure,Result.andThen_ok,Zbn (P:=P) (w:=w) (k:=k0) (y:=n) h0 h1]
          rfl
      | some e =>
        cases hi' with
        | none=>simp [ZvA] at hhi
        | some e' =>
          obtain ⟨k,hk⟩:=kh hhi eh
          have hb:l≤(h.toNat:Int):=by omega
          simp only [Option.map_some,Option.map_none,hk,hk0,Sem.run_bind,Sem.run_pure,Result.andThen_ok,Zbn (P:=P) (w:=w) (k:=k) (y:=c) (by omega:0≤h) h2,Zbn (P:=P) (w:=w) (k:=k0) (y:=h.toNat) h0 hb]
theorem ZGN (hs:StR B ρ M w) (hb:Kept B w0 w) (hf:FR ρ fr a) {wd:Nat} {y:Opd} {lo' hi':Option Opd} (hc:ZM P o.op (.slc wd y lo' hi')=true) (h:Ze call fr M (.slc wd y lo' hi')=some (v,M')) :
    Zfe B w0 ρ M' v ((execOp a.eval o).run P w):=by
  unfold ZM at hc
  simp only at hc
  split at hc
  · rename_i t x lo hi ho
    simp only [Bool.and_eq_true] at hc
    obtain ⟨⟨⟨hx,hlo⟩,hhi⟩,ht⟩:=hc
    have k1:=Yx hf hx
    unfold Zgz at ht
    split at ht
    · rename_i e hu
      have key:∀ (ad:Option Addr) (n c:Nat),a.eval x=.slice ad n c→∀ (l h:Int),ZhM fr 0 lo'=some l→ZhM fr n hi'=some h→0≤l→l≤h→h≤c →
          (execOp a.eval o).run P w=.ok (.value (.slice (if c=l.toNat then ad else ad.map (·.add (l.toNat * wd))) (h.toNat - l.toNat) (c - l.toNat))) w:=by
        intro ad n c e1 l h el eh h0 h1 h2
        have rb:=ZlS (P:=P) (w:=w) hf hlo hhi true n c el eh h0 h1 h2
        simp only [execOp,ho,e1,Instr.sliceAt,Sem.run_bind,run_underlying hu,Result.andThen_ok,Instr.slice,Option.map_none,rb,Za1 ht,Sem.run_pure]
      simp only [Ze] at h
      split at h
      · rename_i ad n ca hp
        rw [hp] at k1
        split at h
        · rename_i l hh el eh
          split at h
          · rename_i hcond
            obtain ⟨h0,h1,h2⟩:=hcond
            generalize e1:a.eval x=cx at k1
            cases k1 with
            | nil =>
              simp only [Option.some.injEq,Prod.mk.injEq] at h
              obtain ⟨rfl,rfl⟩:=h
              have hl0:l=0:=by omega
              have hh0:hh=0:=by omega
              subst hl0; subst hh0
              exact .pure hs hb (key none 0 0 e1 0 0 el eh (by omega) (by omega) (by omega)) (by simpa using .nil)
            | slice b of _ _ ad' c p hpp hsl =>
              simp only at h
              split at h
              · rename_i kb hkb
                split at h
                · rename_i hw
                  simp only [Option.some.injEq,Prod.mk.injEq] at h
                  obtain ⟨rfl,rfl⟩:=h
                  have hpw:p.w=wd:=(hs.wd b kb p hkb hpp).trans hw
                  obtain ⟨hnc,hcc,h3⟩:=hsl
                  have hle:hh≤c:=by omega
                  refine .pure hs hb (key _ _ _ e1 l hh el eh h0 h1 hle) ?_
                  have e5:(hh - l).toNat=hh.toNat - l.toNat:=by omega
                  rw [e5]
                  by_cases hcl:c=l.toNat
                  · rw [if_pos hcl]
                    exact .slice b _ _ _ ad' _ p hpp ⟨by omega,by omega,.inl ⟨by omega,by omega⟩⟩
                  · rw [if_neg hcl]
                    refine .slice b _ _ _ _ _ p hpp ⟨by omega,by omega,?_⟩
                    rcases h3 with ⟨hz1,hz2⟩ | ⟨hv,rfl,htot⟩
                    · omega
                    · right
                      refine ⟨hv,by show (⟨p.blk,p.base+of,none⟩:Addr).add _=_; rw [ZfX,Nat.add_assoc],?_⟩
                      rw [hpw] at htot ⊢
                      have:c=l.toNat+(c - l.toNat):=by omega
                      have h7:c * wd=l.toNat * wd+(c - l.toNat) * wd:=by rw [← Nat.add_mul,← this]
                      omega
                · cases h
              · cases h
          · cases h
        · cases h
      · cases h
    · cases ht
  · cases hc
theorem ZGA (hs:StR B ρ M w) (hb:Kept B w0 w) (hf:FR ρ fr a) {y:Opd} {lo' hi':Option Opd} (hc:ZM P o.op (.sls y lo' hi')=true) (h:Ze call fr M (.sls y lo' hi')=some (v,M')) :
    Zfe B w0 ρ M' v ((execOp a.eval o).run P w):=by
  unfold ZM at hc
  simp only at hc
  split at hc
  · rename_i t x lo hi ho
    simp only [Bool.and_eq_true] at hc
    obtain ⟨⟨⟨hx,hlo⟩,hhi⟩,ht⟩:=hc
    have k1:=Yx hf hx
    split at ht
    · rename_i hu
      simp only [Ze] at h
      split at h
      · rename_i s hp
        rw [hp] at k1
        split at h
        · rename_i l hh el eh
          split at h
          · rename_i hcond
            obtain ⟨h0,h1,h2⟩:=hcond
            simp only [Option.some.injEq,Prod.mk.injEq] at h
            obtain ⟨rfl,rfl⟩:=h
            cases e1:a.eval x <;> rw [e1] at k1 <;> cases k1
            have rb:=ZlS (P:=P) (w:=w) hf hlo hhi false s.size s.size el eh h0 h1 h2
            have e5:s.extract l.toNat hh.toNat=⟨((s.data.toList.take hh.toNat).drop l.toNat).toArray⟩:=by
              apply ByteArray.ext
              apply Array.ext'
              simp [List.extract_eq_take_drop,List.drop_take]
            refine .pure hs hb (c:=.string (s.extract l.toNat hh.toNat)) ?_ (by rw [e5]; exact .str _)
            simp only [execOp,ho,e1,Instr.sliceAt,Sem.run_bind,run_underlying hu,Result.andThen_ok,Instr.slice,Option.map_none,Option.isSome_none,Sem.run_pure]
            simp [rb]
          · cases h
        · cases h
      · cases h
    · cases ht
  · cases hc
theorem ZGi (hs:StR B ρ M w) (hb:Kept B w0 w) (hf:FR ρ fr a) {ng:Bool} {y z:Opd} (hc:ZM P o.op (.beq ng y z)=true) (h:Ze call fr M (.beq ng y z)=some (v,M')) :
    Zfe B w0 ρ M' v ((execOp a.eval o).run P w):=by
  unfold ZM at hc
  simp only at hc
  split at hc
  · rename_i op t x u ty ho
    simp only [Bool.and_eq_true] at hc
    obtain ⟨⟨⟨h1,h2⟩,h3⟩,h4⟩:=hc
    have k1:=Yx hf h2; have k2:=Yx hf h3
    simp only [Ze] at h
    split at h
    · rename_i p q hp hq
      rw [hp] at k1; rw [hq] at k2
      simp only [Option.some.injEq,Prod.mk.injEq] at h
      obtain ⟨rfl,rfl⟩:=h
      cases e1:a.eval x <;> rw [e1] at k1 <;> cases k1
      cases e2:a.eval u <;> rw [e2] at k2 <;> cases k2
      split at h4
      · rename_i hu
        have he:∀ (d:Nat),(Op.equalIn (d+1) t (.bool p) (.bool q)).run P w=.ok (p == q) w:=by
          intro d; simp [Op.equalIn,run_underlying hu]
        cases ng with
        | true =>
          have e:=ZkJ h1
          subst e
          refine .pure hs hb (c:=.bool ((p == q) != true)) ?_ (.bool _)
          have:=he 9999
          simp only [execOp,ho,e1,e2,Sem.run_bind,eqGuard_at_bool,Sem.run_pure,Result.andThen_ok,if_true,binOp,Op.equal,Op.maxDepth,this]
          cases p <;> cases q <;> rfl
        | false =>
          have e:=ZkJ h1
          subst e
          refine .pure hs hb (c:=.bool ((p == q) != false)) ?_ (.bool _)
          have:=he 9999
          simp only [execOp,ho,e1,e2,Sem.run_bind,eqGuard_at_bool,Sem.run_pure,Result.andThen_ok,Bool.false_eq_true,if_false,binOp,Op.equal,Op.maxDepth,this]
          cases p <;> cases q <;> rfl
      · cases h4
    · cases h
  · cases hc
theorem ZCc (hs:StR B ρ M w) (hb:Kept B w0 w) (hf:FR ρ fr a) {ng:Bool} {y:Opd} (hc:ZM P o.op (.eqnil ng y)=true) (h:Ze call fr M (.eqnil ng y)=some (v,M')) :
    Zfe B w0 ρ M' v ((execOp a.eval o).run P w):=by
  unfold ZM at hc
  simp only at hc
  split at hc
  · rename_i op t x u ty ho
    simp only [Bool.and_eq_true] at hc
    obtain ⟨⟨⟨h1,h2⟩,h3⟩,h4⟩:=hc
    have k1:=Yx hf h2
    simp only [Ze] at h
    split at h
    · rename_i ad n ca hp
      rw [hp] at k1
      simp only [Option.some.injEq,Prod.mk.injEq] at h
      obtain ⟨rfl,rfl⟩:=h
      have e2:a.eval u=.slice none 0 0:=by
        split at h3
        · rfl
        · cases h3
      have hn:∃ ad' n' c',a.eval x=.slice ad' n' c'∧ad'.isNone=ad.isNone:=by
        generalize e1:a.eval x=cx at k1
        cases k1 with
        | nil=>exact ⟨_,_,_,rfl,rfl⟩
        | slice l of n ca a' c p hpp hsl=>exact ⟨_,_,_,rfl,rfl⟩
      obtain ⟨ad',n',c',e1,hn⟩:=hn
      split at h4
      · rename_i el hu
        have he:∀ (d:Nat),(Op.equalIn (d+1) t (.slice ad' n' c') (.slice none 0 0)).run P w=.ok ad.isNone w:=by
          intro d
          rw [← hn]
          cases ad' <;> simp [Op.equalIn,run_underlying hu]
        have:=he 9999
        cases ng with
        | true =>
          have e:=ZkJ h1
          subst e
          refine .pure hs hb (c:=.bool (ad.isNone != true)) ?_ (.bool _)
          simp only [execOp,ho,e1,e2,Sem.run_bind,eqGuard_at_slice,Sem.run_pure,Result.andThen_ok,if_true,binOp,Op.equal,Op.maxDepth,this]
          cases ad.isNone <;> rfl
        | false =>
          have e:=ZkJ h1
          subst e
          refine .pure hs hb (c:=.bool (ad.isNone != false)) ?_ (.bool _)
          simp only [execOp,ho,e1,e2,Sem.run_bind,eqGuard_at_slice,Sem.run_pure,Result.andThen_ok,Bool.false_eq_true,if_false,binOp,Op.equal,Op.maxDepth,this]
          cases ad.isNone <;> rfl
      · cases h4
    · cases h
  · cases hc
theorem ZFt (hs:StR B ρ M w) (hb:Kept B w0 w) (hf:FR ρ fr a) {y:Opd} {zs:List Opd} (hc:ZM P o.op (.mins y zs)=true) (h:Ze call fr M (.mins y zs)=some (v,M')) :
    Zfe B w0 ρ M' v ((execOp a.eval o).run P w):=by
  unfold ZM at hc
  simp only at hc
  split at hc
  · rename_i args tys ho
    have k:=ZdQ hf hc
    simp only [Ze,Option.map_eq_some_iff,Prod.mk.injEq] at h
    obtain ⟨v',hv,rfl,rfl⟩:=h
    have key:=Jk (P:=P) (w:=w) (a:=a) ho (Builtin.min_ tys o.type (args.map a.eval)) (fun _=>by simp [builtin])
    have hfold:∀ (vs cs:List V) (v c:V),VR ρ v c→VRl ρ vs cs→Zpa (fun a b=>if b < a then b else a) v vs=some v'→∃ c',VR ρ v' c'∧(cs.foldlM Builtin.min2 c).run P w=.ok c' w:=by
      intro vs
      induction vs with
      | nil=>intro cs v c hvv hvs he; cases cs with
        | nil=>simp [Zpa] at he; subst he; exact ⟨c,hvv,by simp⟩
        | cons _ _=>have:=hvs.1; simp at this
      | cons x xs ih=>intro cs v c hvv hvs he; cases cs with
        | nil=>have:=hvs.1; simp at this
        | cons c1 cs =>
          have hx:VR ρ x c1:=hvs.2 0 _ _ (by simp) (by simp)
          have hxs:VRl ρ xs cs:=⟨by have:=hvs.1; simpa using this,fun i p q hp hq=>hvs.2 (i+1) p q (by simpa using hp) (by simpa using hq)⟩
          unfold Zpa at he
          split at he
          · rename_i heq; cases heq
          · rename_i k1 p k2 q rest heq
            cases heq
            cases hvv; cases hx
            obtain ⟨c',h1,h2⟩:=ih cs _ _ (.int k1 (if q < p then q else p)) hxs he
            exact ⟨c',h1,by simp only [List.foldlM_cons,Builtin.min2,Sem.run_bind,Sem.run_pure,Result.andThen_ok]; exact h2⟩
          · cases he
    obtain ⟨l⟩:=args
    cases l with
    | nil=>have:=k.1; simp at this
    | cons z zs' =>
      have hz:VR ρ (ev fr y) (a.eval z):=k.2 0 _ _ (by simp) (by simp)
      have hzs:VRl ρ (zs.map (ev fr)) (zs'.map a.eval):=⟨by have:=k.1; simpa using this,fun i p q hp hq=>k.2 (i+1) p q (by simpa using hp) (by simpa using hq)⟩
      obtain ⟨c',h1,h2⟩:=hfold _ _ _ _ hz hzs hv
      refine .pure hs hb (c:=c') ?_ h1
      rw [key]
      simp only [Builtin.min_,List.map_toArray,List.map_cons]
      rw [h2]; rfl
  · cases hc
theorem ZE8 (hs:StR B ρ M w) (hb:Kept B w0 w) (hf:FR ρ fr a) {y:Opd} {zs:List Opd} (hc:ZM P o.op (.maxs y zs)=true) (h:Ze call fr M (.maxs y zs)=some (v,M')) :
    Zfe B w0 ρ M' v ((execOp a.eval o).run P w):=by
  unfold ZM at hc
  simp only at hc
  split at hc
  · rename_i args tys ho
    have k:=ZdQ hf hc
    simp only [Ze,Option.map_eq_some_iff,Prod.mk.injEq] at h
    obtain ⟨v',hv,rfl,rfl⟩:=h
    have key:=Jk (P:=P) (w:=w) (a:=a) ho (Builtin.max_ tys o.type (args.map a.eval)) (fun _=>by simp [builtin])
    have hfold:∀ (vs cs:List V) (v c:V),VR ρ v c→VRl ρ vs cs→Zpa (fun a b=>if a < b then b else a) v vs=some v'→∃ c',VR ρ v' c'∧(cs.foldlM Builtin.max2 c).run P w=.ok c' w:=by
      intro vs
      induction vs with
      | nil=>intro cs v c hvv hvs he; cases cs with
        | nil=>simp [Zpa] at he; subst he; exact ⟨c,hvv,by simp⟩
        | cons _ _=>have:=hvs.1; simp at this
      | cons x xs ih=>intro cs v c hvv hvs he; cases cs with
        | nil=>have:=hvs.1; simp at this
        | cons c1 cs =>
          have hx:VR ρ x c1:=hvs.2 0 _ _ (by simp) (by simp)
          have hxs:VRl ρ xs cs:=⟨by have:=hvs.1; simpa using this,fun i p q hp hq=>hvs.2 (i+1) p q (by simpa using hp) (by simpa using hq)⟩
          unfold Zpa at he
          split at he
          · rename_i heq; cases heq
          · rename_i k1 p k2 q rest heq
            cases heq
            cases hvv; cases hx
            obtain ⟨c',h1,h2⟩:=ih cs _ _ (.int k1 (if p < q then q else p)) hxs he
            exact ⟨c',h1,by simp only [List.foldlM_cons,Builtin.max2,gt_iff_lt,Sem.run_bind,Sem.run_pure,Result.andThen_ok]; exact h2⟩
          · cases he
    obtain ⟨l⟩:=args
    cases l with
    | nil=>have:=k.1; simp at this
    | cons z zs' =>
      have hz:VR ρ (ev fr y) (a.eval z):=k.2 0 _ _ (by simp) (by simp)
      have hzs:VRl ρ (zs.map (ev fr)) (zs'.map a.eval):=⟨by have:=k.1; simpa using this,fun i p q hp hq=>k.2 (i+1) p q (by simpa using hp) (by simpa using hq)⟩
      obtain ⟨c',h1,h2⟩:=hfold _ _ _ _ hz hzs hv
      refine .pure hs hb (c:=c') ?_ h1
      rw [key]
      simp only [Builtin.max_,List.map_toArray,List.map_cons]
      rw [h2]; rfl
  · cases hc
end
end GoAm
