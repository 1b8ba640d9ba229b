/- The operations, one by one: what the abstract machine tells, the model's operation does. Those that leave memory alone. -/
import Derived.Test.YtlniheedmeaeeaaGreatAmChk
import Derived.Laws.Strings
set_option autoImplicit false
set_option linter.unusedSimpArgs false
set_option linter.unusedVariables false
namespace GoAm
open Go Go.RowKit
def Zfe (B:Nat→Nat) (w0:World) (ρ:List PB) (M':Mem) (v:V) (r:Result Next):Prop :=
  ∃ (c:V) (w':World) (ρ':List PB),(r=.ok (.value c) w'∨(r=.ok .skip w'∧c=undef))∧ρ <+: ρ'∧StR B ρ' M' w'∧Kept B w0 w'∧VR ρ' v c
theorem Zfe.pure {B:Nat→Nat} {w0 w:World} {ρ:List PB} {M:Mem} {v c:V} {r:Result Next} (hs:StR B ρ M w) (hb:Kept B w0 w)
    (hr:r=.ok (.value c) w) (hv:VR ρ v c):Zfe B w0 ρ M v r:=⟨c,w,ρ,.inl hr,List.prefix_refl _,hs,hb,hv⟩
section
variable {P:Program} {B:Nat→Nat} {w0 w:World} {ρ:List PB} {M M':Mem} {fr:List V} {a:Act} {o:Oper} {v:V} {call:Yd}
theorem ZG8 (hs:StR B ρ M w) (hb:Kept B w0 w) (hf:FR ρ fr a) {y:Opd} (hc:ZM P o.op (.mv y)=true) (h:Ze call fr M (.mv y)=some (v,M')) :
    Zfe B w0 ρ M' v ((execOp a.eval o).run P w):=by
  simp only [Ze,Option.some.injEq,Prod.mk.injEq] at h
  obtain ⟨rfl,rfl⟩:=h
  unfold ZM at hc
  simp only at hc
  split at hc
  · rename_i x ho; exact .pure hs hb (by simp [execOp,ho]) (Yx hf hc)
  · rename_i x ho; exact .pure hs hb (by simp [execOp,ho]) (Yx hf hc)
  · cases hc
theorem ZFr (hs:StR B ρ M w) (hb:Kept B w0 w) (hf:FR ρ fr a) {c' a' b':Opd} (hc:ZM P o.op (.pick c' a' b')=true) (h:Ze call fr M (.pick c' a' b')=some (v,M')) :
    Zfe B w0 ρ M' v ((execOp a.eval o).run P w):=by
  unfold ZM at hc
  simp only at hc
  split at hc
  · rename_i cc x y ho
    simp only [Bool.and_eq_true] at hc
    obtain ⟨⟨h1,h2⟩,h3⟩:=hc
    have k1:=Yx hf h1; have k2:=Yx hf h2; have k3:=Yx hf h3
    simp only [Ze] at h
    split at h
    · rename_i p hp
      rw [hp] at k1
      simp only [Option.some.injEq,Prod.mk.injEq] at h
      obtain ⟨rfl,rfl⟩:=h
      cases k1':a.eval cc <;> rw [k1'] at k1 <;> cases k1
      refine .pure hs hb (c:=if p then a.eval x else a.eval y) (by simp [execOp,ho,k1',asBool] <;> rfl) ?_
      split <;> assumption
    · cases h
  · cases hc
theorem ZGg (hs:StR B ρ M w) (hb:Kept B w0 w) (hf:FR ρ fr a) {y:Opd} (hc:ZM P o.op (.not y)=true) (h:Ze call fr M (.not y)=some (v,M')) :
    Zfe B w0 ρ M' v ((execOp a.eval o).run P w):=by
  unfold ZM at hc
  simp only at hc
  split at hc
  · rename_i t x ho
    have k:=Yx hf hc
    simp only [Ze] at h
    split at h
    · rename_i p hp
      rw [hp] at k
      simp only [Option.some.injEq,Prod.mk.injEq] at h
      obtain ⟨rfl,rfl⟩:=h
      cases k':a.eval x <;> rw [k'] at k <;> cases k
      exact .pure hs hb (by simp [execOp,ho,k',Op.unary] <;> rfl) (.bool _)
    · cases h
  · cases hc
theorem ZGb (hs:StR B ρ M w) (hb:Kept B w0 w) (hf:FR ρ fr a) {y:Opd} (hc:ZM P o.op (.neg y)=true) (h:Ze call fr M (.neg y)=some (v,M')) :
    Zfe B w0 ρ M' v ((execOp a.eval o).run P w):=by
  unfold ZM at hc
  simp only at hc
  split at hc
  · rename_i t x ho
    have k:=Yx hf hc
    simp only [Ze] at h
    split at h
    · rename_i kk p hp
      rw [hp] at k
      simp only [Option.some.injEq,Prod.mk.injEq] at h
      obtain ⟨rfl,rfl⟩:=h
      cases k':a.eval x <;> rw [k'] at k <;> cases k
      exact .pure hs hb (by simp [execOp,ho,k',Op.unary,Op.intArith] <;> rfl) (.int _ _)
    · cases h
  · cases hc
theorem ZE3 (hs:StR B ρ M w) (hb:Kept B w0 w) (hf:FR ρ fr a) {y:Opd} (hc:ZM P o.op (.bnot y)=true) (h:Ze call fr M (.bnot y)=some (v,M')) :
    Zfe B w0 ρ M' v ((execOp a.eval o).run P w):=by
  unfold ZM at hc
  simp only at hc
  split at hc
  · rename_i t x ho
    have k:=Yx hf hc
    simp only [Ze] at h
    split at h
    · rename_i kk p hp
      rw [hp] at k
      simp only [Option.some.injEq,Prod.mk.injEq] at h
      obtain ⟨rfl,rfl⟩:=h
      cases k':a.eval x <;> rw [k'] at k <;> cases k
      exact .pure hs hb (by simp only [execOp,ho,k',Op.unary,Op.intBits,Sem.run_bind,Sem.run_pure,Result.andThen_ok] <;> rfl) (.int _ _)
    · cases h
  · cases hc
theorem ZGr (hs:StR B ρ M w) (hb:Kept B w0 w) (hf:FR ρ fr a) {op:BinOp} {y z:Opd} (hc:ZM P o.op (.bin op y z)=true) (h:Ze call fr M (.bin op y z)=some (v,M')) :
    Zfe B w0 ρ M' v ((execOp a.eval o).run P w):=by
  unfold ZM at hc
  simp only at hc
  split at hc
  · rename_i op' t x u ty ho
    simp only [Bool.and_eq_true] at hc
    obtain ⟨⟨h1,h2⟩,h3⟩:=hc
    have e:=ZkJ h1
    subst e
    have k1:=Yx hf h2; have k2:=Yx hf h3
    simp only [Ze,Option.map_eq_some_iff,Prod.mk.injEq] at h
    obtain ⟨v',hv,rfl,rfl⟩:=h
    unfold ZgQ at hv
    split at hv
    · rename_i k p k' q hp hq
      rw [hp] at k1; rw [hq] at k2
      cases e1:a.eval x <;> rw [e1] at k1 <;> cases k1
      cases e2:a.eval u <;> rw [e2] at k2 <;> cases k2
      have key:(execOp a.eval o).run P w=((binOp op t (.int k p) (.int k' q)).run P w).andThen fun c w'=>.ok (.value c) w':=by
        simp only [execOp,ho,e1,e2,Sem.run_bind,eqGuard_at_int,Sem.run_pure,Result.andThen_ok]
      rw [key]
      split at hv
      · split at hv
        · cases hv
        · rename_i hn; cases hv
          exact .pure hs hb (by simp [binOp,Op.shift,hn] <;> rfl) (.int _ _)
      · split at hv
        · cases hv
        · rename_i hn; cases hv
          exact .pure hs hb (by simp [binOp,Op.shift,hn] <;> rfl) (.int _ _)
      · rename_i n1 n2
        split at hv
        · rename_i hk; subst hk
          split at hv
          · cases hv; exact .pure hs hb (by simp [binOp,Op.intArith] <;> rfl) (.int _ _)
          · cases hv; exact .pure hs hb (by simp [binOp,Op.intArith] <;> rfl) (.int _ _)
          · cases hv; exact .pure hs hb (by simp [binOp,Op.intArith] <;> rfl) (.int _ _)
          · split at hv
            · cases hv
            · rename_i hn; cases hv; exact .pure hs hb (by simp [binOp,Op.intDiv,hn] <;> rfl) (.int _ _)
          · split at hv
            · cases hv
            · rename_i hn; cases hv; exact .pure hs hb (by simp [binOp,Op.intDiv,hn] <;> rfl) (.int _ _)
          · cases hv; exact .pure hs hb (by simp only [binOp,Op.intBits,ne_eq,not_true_eq_false,if_false,Sem.run_pure,Result.andThen_ok] <;> rfl) (.int _ _)
          · cases hv; exact .pure hs hb (by simp only [binOp,Op.intBits,ne_eq,not_true_eq_false,if_false,Sem.run_pure,Result.andThen_ok] <;> rfl) (.int _ _)
          · cases hv; exact .pure hs hb (by simp only [binOp,Op.intBits,ne_eq,not_true_eq_false,if_false,Sem.run_pure,Result.andThen_ok] <;> rfl) (.int _ _)
          · cases hv; exact .pure hs hb (by simp only [binOp,Op.intBits,ne_eq,not_true_eq_false,if_false,Sem.run_pure,Result.andThen_ok] <;> rfl) (.int _ _)
          · cases hv; exact .pure hs hb (by simp [binOp,Op.intCmp] <;> rfl) (.bool _)
          · cases hv; exact .pure hs hb (by simp [binOp,Op.intCmp] <;> rfl) (.bool _)
          · cases hv; exact .pure hs hb (by simp [binOp,Op.intCmp] <;> rfl) (.bool _)
          · cases hv; exact .pure hs hb (by simp [binOp,Op.intCmp] <;> rfl) (.bool _)
          · cases hv; exact .pure hs hb (by simp [binOp,Op.intCmp] <;> rfl) (.bool _)
          · cases hv; exact .pure hs hb (by simp [binOp,Op.intCmp] <;> rfl) (.bool _)
          · cases hv
        · cases hv
    · rename_i p q hp hq
      rw [hp] at k1; rw [hq] at k2
      cases e1:a.eval x <;> rw [e1] at k1 <;> cases k1
      cases e2:a.eval u <;> rw [e2] at k2 <;> cases k2
      have key:(execOp a.eval o).run P w=((Op.stringOp op p q).run P w).andThen fun c w'=>.ok (.value c) w':=by
        cases op <;> simp only [execOp,ho,e1,e2,Sem.run_bind,eqGuard_at_string,Sem.run_pure,Result.andThen_ok,binOp]
      rw [key]
      split at hv
      · split at hv
        · rename_i hn
          cases hv
          have:¬ (((p.size+q.size:Nat):Int) > IntKind.i64.max):=by simp; omega
          have e:p++q=⟨(p.data.toList++q.data.toList).toArray⟩:=by
            apply ByteArray.ext
            apply Array.ext'
            simp
          exact .pure hs hb (by simp only [Op.stringOp,if_neg this,Sem.run_pure,Result.andThen_ok,e]) (.str _)
        · cases hv
      · cases hv; exact .pure hs hb (by simp only [Op.stringOp,Sem.run_pure,Result.andThen_ok,ByteArray.toList_eq]) (.bool _)
      · cases hv; exact .pure hs hb (by simp only [Op.stringOp,Sem.run_pure,Result.andThen_ok,ByteArray.toList_eq]) (.bool _)
      · cases hv; exact .pure hs hb (by simp only [Op.stringOp,Sem.run_pure,Result.andThen_ok,ByteArray.toList_eq]) (.bool _)
      · cases hv; exact .pure hs hb (by simp only [Op.stringOp,Sem.run_pure,Result.andThen_ok,ByteArray.toList_eq]) (.bool _)
      · cases hv; exact .pure hs hb (by simp only [Op.stringOp,Sem.run_pure,Result.andThen_ok,ByteArray.toList_eq]) (.bool _)
      · cases hv; exact .pure hs hb (by simp only [Op.stringOp,Sem.run_pure,Result.andThen_ok,ByteArray.toList_eq]) (.bool _)
      · cases hv
    · cases hv
  · cases hc
end
end GoAm
