/- How loops and calls of the abstract machine unfold. -/
import Derived.Test.YtlniheedmeaeeaaGreatAmDef
set_option autoImplicit false
set_option linter.unusedVariables false
set_option linter.unusedSimpArgs false
namespace GoAm
open Go
theorem loopN_succ {step:List V→Mem→R}:∀ {n:Nat} {fr:List V} {M:Mem} {r:Ex × List V × Mem},loopN step n fr M=some r→loopN step (n+1) fr M=some r
  | 0,fr,M,r,h=>by simp [loopN] at h
  | n+1,fr,M,r,h=>by
    rw [loopN] at h ⊢
    split at h
    · exact loopN_succ h
    · exact h
theorem loopN_le {step:List V→Mem→R} {n m:Nat} (hnm:n≤m) {fr:List V} {M:Mem} {r:Ex × List V × Mem} (h:loopN step n fr M=some r):loopN step m fr M=some r:=by
  induction hnm with
  | refl=>exact h
  | step _ ih=>exact loopN_succ ih
theorem loopL_iff {step:List V→Mem→R} {fr:List V} {M:Mem} {r:Ex × List V × Mem}:loopL step fr M=some r ↔ ∃ n,loopN step n fr M=some r:=by
  unfold loopL
  constructor
  · intro h
    split at h
    · exact ⟨_,h⟩
    · cases h
  · rintro ⟨n,hn⟩
    have he:∃ n,loopN step n fr M ≠ none:=⟨n,by rw [hn]; simp⟩
    rw [dif_pos he]
    have hc:=he.choose_spec
    cases hr:loopN step he.choose fr M with
    | none=>exact absurd hr hc
    | some q =>
      have h1:=loopN_le (Nat.le_max_left n he.choose) hn
      have h2:=loopN_le (Nat.le_max_right n he.choose) hr
      rw [h1] at h2
      exact h2.symm
theorem loopL_eq (step:List V→Mem→R) (fr:List V) (M:Mem):loopL step fr M=match step fr M with
    | some (.norm,fr',M')=>loopL step fr' M'
    | r=>r:=by
  apply Option.ext
  intro r
  rw [loopL_iff]
  constructor
  · rintro ⟨n,hn⟩
    cases n with
    | zero=>simp [loopN] at hn
    | succ n =>
      rw [loopN] at hn
      split at hn
      · rename_i fr' M' hs; rw [hs]; exact loopL_iff.2 ⟨n,hn⟩
      · rename_i hne
        split
        · rename_i fr' M' hs; exact absurd hs (hne fr' M')
        · exact hn
  · intro h
    split at h
    · rename_i fr' M' hs
      obtain ⟨n,hn⟩:=loopL_iff.1 h
      exact ⟨n+1,by rw [loopN,hs]; exact hn⟩
    · rename_i hne
      refine ⟨1,?_⟩
      rw [loopN]
      split
      · rename_i fr' M' hs; exact absurd hs (hne fr' M')
      · exact h
def CallLe (c d:CallT):Prop:=∀ f args M r,c f args M=some r→d f args M=some r
section
variable {c d:CallT}
theorem step_mono (hc:CallLe c d) {fr:List V} {M:Mem} {op:AOp} {r:V × Mem} (h:stepOp c fr M op=some r):stepOp d fr M op=some r:=by
  cases op with
  | call f args=>exact hc _ _ _ _ h
  | callv f args =>
    simp only [stepOp] at h ⊢
    split at h
    · rename_i f first cap hp; exact hc _ _ _ _ h
    · cases h
  | _=>exact h
theorem ops_mono (hc:CallLe c d):∀ {os:List AOper} {fr:List V} {M:Mem} {r:List V × Mem},aOps c os fr M=some r→aOps d os fr M=some r
  | [],_,_,_,h=>h
  | o :: os,fr,M,r,h=>by
    simp only [aOps] at h ⊢
    split at h
    · rename_i hw
      split at h
      · rename_i v M' hs
        simp only [step_mono hc hs]
        exact ops_mono hc h
      · cases h
    · exact ops_mono hc h
    · cases h
theorem opsD_mono (hc:CallLe c d):∀ {R W:List Nat} {os:List AOper} {fr:List V} {M:Mem} {r:List V × Mem},aOpsD c R W os fr M=some r→aOpsD d R W os fr M=some r
  | _,_,[],_,_,_,h=>h
  | R,W,o :: os,fr,M,r,h=>by
    simp only [aOpsD] at h ⊢
    split at h
    · rename_i hw
      split at h
      · cases h
      · rename_i hh
        rw [if_neg hh]
        split at h
        · rename_i v M' hs
          split at h
          · rename_i hp
            simp only [step_mono hc hs]
            rw [if_pos hp]
            exact opsD_mono hc h
          · rename_i hp
            split at h
            · rename_i hq
              simp only [step_mono hc hs]
              rw [if_neg hp,if_pos hq]
              exact opsD_mono hc h
            · cases h
        · cases h
    · exact opsD_mono hc h
    · cases h
theorem code_mono (hc:CallLe c d):∀ (cc:ACode) {fr:List V} {M:Mem} {r:Ex × List V × Mem},aCode c cc fr M=some r→aCode d cc fr M=some r:=by
  intro cc
  induction cc with
  | reg dr os =>
    intro fr M r h
    simp only [aCode] at h ⊢
    cases dr with
    | true =>
      simp only [if_true] at h ⊢
      split at h
      · rename_i fr' M' ho; rw [opsD_mono hc ho]; exact h
      · cases h
    | false =>
      simp only [Bool.false_eq_true,if_false] at h ⊢
      split at h
      · rename_i fr' M' ho; rw [ops_mono hc ho]; exact h
      · cases h
  | perm pi os =>
    intro fr M r h
    simp only [aCode] at h ⊢
    split at h
    · rename_i fr' M' ho; rw [opsD_mono hc ho]; exact h
    · cases h
  | seq a b iha ihb =>
    intro fr M r h
    simp only [aCode] at h ⊢
    split at h
    · rename_i fr' M' ha; rw [iha ha]; exact ihb h
    · rename_i hne
      rw [iha h]
      obtain ⟨ex,f',m'⟩:=r
      cases ex with
      | norm=>exact absurd h (hne _ _)
      | exit i=>rfl
      | ret=>rfl
  | cond x a b iha ihb =>
    intro fr M r h
    simp only [aCode] at h ⊢
    split at h
    · rename_i p hp
      split at h
      · rename_i hp; simp only [hp,if_true]; exact iha h
      · rename_i hp; simp only [hp,if_false]; exact ihb h
    · cases h
  | block i b ih =>
    intro fr M r h
    simp only [aCode] at h ⊢
    split at h
    · rename_i j fr' M' hb; rw [ih hb]; exact h
    · rename_i hne
      rw [ih h]
      obtain ⟨ex,f',m'⟩:=r
      cases ex with
      | norm=>rfl
      | exit j=>exact absurd h (hne _ _ _)
      | ret=>rfl
  | loop m b ih =>
    intro fr M r h
    simp only [aCode] at h ⊢
    obtain ⟨n,hn⟩:=loopL_iff.1 h
    refine loopL_iff.2 ⟨n,?_⟩
    have key:∀ (n:Nat) (fr:List V) (M:Mem),loopN (fun fr M=>aCode c b (maskF m fr) M) n fr M=some r→loopN (fun fr M=>aCode d b (maskF m fr) M) n fr M=some r:=by
      intro n
      induction n with
      | zero=>intro fr M h; simp [loopN] at h
      | succ n ihn =>
        intro fr M h
        simp only [loopN] at h ⊢
        split at h
        · rename_i fr' M' hb; rw [ih hb]; exact ihn _ _ h
        · rename_i hne
          rw [ih h]
          obtain ⟨ex,f',m'⟩:=r
          cases ex with
          | norm=>exact absurd h (hne _ _)
          | exit j=>rfl
          | ret=>rfl
    exact key n fr M hn
  | exit i=>intro fr M r h; exact h
  | ret=>intro fr M r h; exact h
  | skip=>intro fr M r h; exact h
  | ins w b z=>intro fr M r h; exact h
theorem runF_mono (hc:CallLe c d) {af:AFun} {args:List V} {M:Mem} {r:V × Mem} (h:runF c af args M=some r):runF d af args M=some r:=by
  unfold runF at h ⊢
  cases hcode:aCode c af.code (args++List.replicate (af.ntmps - args.length) O) M with
  | none=>rw [hcode] at h; simp [gc] at h
  | some q=>rw [code_mono hc _ hcode]; rw [hcode] at h; exact h
end
section
variable {T:Tab}
theorem callN_succ:∀ {k:Nat},CallLe (aCallN T k) (aCallN T (k+1))
  | 0=>fun f args M r h=>by simp [aCallN] at h
  | k+1=>fun f args M r h=>by
    rw [aCallN] at h ⊢
    split at h
    · exact runF_mono callN_succ h
    · cases h
theorem callN_le {k m:Nat} (h:k≤m):CallLe (aCallN T k) (aCallN T m):=by
  induction h with
  | refl=>exact fun f args M r h=>h
  | step _ ih=>exact fun f args M r h=>callN_succ f args M r (ih f args M r h)
theorem aCall_iff {f:FuncId} {args:List V} {M:Mem} {r:V × Mem}:aCall T f args M=some r ↔ ∃ k,aCallN T k f args M=some r:=by
  unfold aCall
  constructor
  · intro h
    split at h
    · exact ⟨_,h⟩
    · cases h
  · rintro ⟨k,hk⟩
    have he:∃ k,aCallN T k f args M ≠ none:=⟨k,by rw [hk]; simp⟩
    rw [dif_pos he]
    have hc:=he.choose_spec
    cases hr:aCallN T he.choose f args M with
    | none=>exact absurd hr hc
    | some q =>
      have h1:=callN_le (Nat.le_max_left k he.choose) _ _ _ _ hk
      have h2:=callN_le (Nat.le_max_right k he.choose) _ _ _ _ hr
      rw [h1] at h2
      exact h2.symm
theorem callN_lim (k:Nat):CallLe (aCallN T k) (aCall T):=fun _ _ _ _ h=>aCall_iff.2 ⟨k,h⟩
theorem step_cont {fr:List V} {M:Mem} {op:AOp} {r:V × Mem} (h:stepOp (aCall T) fr M op=some r):∃ k,stepOp (aCallN T k) fr M op=some r:=by
  cases op with
  | call f args=>exact aCall_iff.1 h
  | callv f args =>
    simp only [stepOp] at h ⊢
    split at h
    · rename_i f first cap hp
      obtain ⟨k,hk⟩:=aCall_iff.1 h
      exact ⟨k,hk⟩
    · cases h
  | _=>exact ⟨0,h⟩
theorem ops_cont:∀ {os:List AOper} {fr:List V} {M:Mem} {r:List V × Mem},aOps (aCall T) os fr M=some r→∃ k,aOps (aCallN T k) os fr M=some r
  | [],_,_,_,h=>⟨0,h⟩
  | o :: os,fr,M,r,h=>by
    simp only [aOps] at h
    split at h
    · rename_i hw
      split at h
      · rename_i v M' hs
        obtain ⟨k,hk⟩:=step_cont hs
        obtain ⟨m,hm⟩:=ops_cont h
        refine ⟨max k m,?_⟩
        simp only [aOps,hw,step_mono (callN_le (Nat.le_max_left k m)) hk]
        exact ops_mono (callN_le (Nat.le_max_right k m)) hm
      · cases h
    · rename_i hw
      obtain ⟨m,hm⟩:=ops_cont h
      exact ⟨m,by simp only [aOps,hw]; exact hm⟩
    · cases h
theorem opsD_cont:∀ {R W:List Nat} {os:List AOper} {fr:List V} {M:Mem} {r:List V × Mem},aOpsD (aCall T) R W os fr M=some r→∃ k,aOpsD (aCallN T k) R W os fr M=some r
  | _,_,[],_,_,_,h=>⟨0,h⟩
  | R,W,o :: os,fr,M,r,h=>by
    simp only [aOpsD] at h
    split at h
    · rename_i hw
      split at h
      · cases h
      · rename_i hh
        split at h
        · rename_i v M' hs
          split at h
          · rename_i hp
            obtain ⟨k,hk⟩:=step_cont hs
            obtain ⟨m,hm⟩:=opsD_cont h
            refine ⟨max k m,?_⟩
            simp only [aOpsD,hw]
            rw [if_neg hh]
            simp only [step_mono (callN_le (Nat.le_max_left k m)) hk]
            rw [if_pos hp]
            exact opsD_mono (callN_le (Nat.le_max_right k m)) hm
          · rename_i hp
            split at h
            · rename_i hq
              obtain ⟨k,hk⟩:=step_cont hs
              obtain ⟨m,hm⟩:=opsD_cont h
              refine ⟨max k m,?_⟩
              simp only [aOpsD,hw]
              rw [if_neg hh]
              simp only [step_mono (callN_le (Nat.le_max_left k m)) hk]
              rw [if_neg hp,if_pos hq]
              exact opsD_mono (callN_le (Nat.le_max_right k m)) hm
            · cases h
        · cases h
    · rename_i hw
      obtain ⟨m,hm⟩:=opsD_cont h
      exact ⟨m,by simp only [aOpsD,hw]; exact hm⟩
    · cases h
theorem code_cont:∀ (cc:ACode) {fr:List V} {M:Mem} {r:Ex × List V × Mem},aCode (aCall T) cc fr M=some r→∃ k,aCode (aCallN T k) cc fr M=some r:=by
  intro cc
  induction cc with
  | reg dr os =>
    intro fr M r h
    simp only [aCode] at h ⊢
    cases dr with
    | true =>
      simp only [if_true] at h ⊢
      split at h
      · rename_i fr' M' ho; obtain ⟨k,hk⟩:=opsD_cont ho; exact ⟨k,by rw [hk]; exact h⟩
      · cases h
    | false =>
      simp only [Bool.false_eq_true,if_false] at h ⊢
      split at h
      · rename_i fr' M' ho; obtain ⟨k,hk⟩:=ops_cont ho; exact ⟨k,by rw [hk]; exact h⟩
      · cases h
  | perm pi os =>
    intro fr M r h
    simp only [aCode] at h ⊢
    split at h
    · rename_i fr' M' ho; obtain ⟨k,hk⟩:=opsD_cont ho; exact ⟨k,by rw [hk]; exact h⟩
    · cases h
  | seq a b iha ihb =>
    intro fr M r h
    simp only [aCode] at h
    split at h
    · rename_i fr' M' ha
      obtain ⟨k,hk⟩:=iha ha
      obtain ⟨m,hm⟩:=ihb h
      refine ⟨max k m,?_⟩
      simp only [aCode,code_mono (callN_le (Nat.le_max_left k m)) _ hk]
      exact code_mono (callN_le (Nat.le_max_right k m)) _ hm
    · rename_i hne
      obtain ⟨k,hk⟩:=iha h
      refine ⟨k,?_⟩
      simp only [aCode,hk]
      obtain ⟨ex,f',m'⟩:=r
      cases ex with
      | norm=>exact absurd h (hne _ _)
      | exit i=>rfl
      | ret=>rfl
  | cond x a b iha ihb =>
    intro fr M r h
    simp only [aCode] at h
    split at h
    · rename_i p hp
      split at h
      · rename_i hpp
        obtain ⟨k,hk⟩:=iha h
        exact ⟨k,by simp only [aCode,hp,hpp,if_true]; exact hk⟩
      · rename_i hpp
        obtain ⟨k,hk⟩:=ihb h
        exact ⟨k,by simp only [aCode,hp,hpp,if_false]; exact hk⟩
    · cases h
  | block i b ih =>
    intro fr M r h
    simp only [aCode] at h
    split at h
    · rename_i j fr' M' hb
      obtain ⟨k,hk⟩:=ih hb
      exact ⟨k,by simp only [aCode,hk]; exact h⟩
    · rename_i hne
      obtain ⟨k,hk⟩:=ih h
      refine ⟨k,?_⟩
      simp only [aCode,hk]
      obtain ⟨ex,f',m'⟩:=r
      cases ex with
      | norm=>rfl
      | exit j=>exact absurd h (hne _ _ _)
      | ret=>rfl
  | loop m b ih =>
    intro fr M r h
    simp only [aCode] at h
    obtain ⟨n,hn⟩:=loopL_iff.1 h
    have key:∀ (n:Nat) (fr:List V) (M:Mem),loopN (fun fr M=>aCode (aCall T) b (maskF m fr) M) n fr M=some r→∃ k,loopN (fun fr M=>aCode (aCallN T k) b (maskF m fr) M) n fr M=some r:=by
      intro n
      induction n with
      | zero=>intro fr M h; simp [loopN] at h
      | succ n ihn =>
        intro fr M h
        simp only [loopN] at h
        split at h
        · rename_i fr' M' hb
          obtain ⟨k,hk⟩:=ih hb
          obtain ⟨j,hj⟩:=ihn _ _ h
          refine ⟨max k j,?_⟩
          simp only [loopN,code_mono (callN_le (Nat.le_max_left k j)) _ hk]
          have mono:∀ (n:Nat) (fr:List V) (M:Mem),loopN (fun fr M=>aCode (aCallN T j) b (maskF m fr) M) n fr M=some r→loopN (fun fr M=>aCode (aCallN T (max k j)) b (maskF m fr) M) n fr M=some r:=by
            intro n
            induction n with
            | zero=>intro fr M h; simp [loopN] at h
            | succ n ihn2 =>
              intro fr M h
              simp only [loopN] at h ⊢
              split at h
              · rename_i fr2 M2 hb2; rw [code_mono (callN_le (Nat.le_max_right k j)) _ hb2]; exact ihn2 _ _ h
              · rename_i hne
                rw [code_mono (callN_le (Nat.le_max_right k j)) _ h]
                obtain ⟨ex,f',m'⟩:=r
                cases ex with
                | norm=>exact absurd h (hne _ _)
                | exit i=>rfl
                | ret=>rfl
          exact mono _ _ _ hj
        · rename_i hne
          obtain ⟨k,hk⟩:=ih h
          refine ⟨k,?_⟩
          simp only [loopN,hk]
          obtain ⟨ex,f',m'⟩:=r
          cases ex with
          | norm=>exact absurd h (hne _ _)
          | exit j=>rfl
          | ret=>rfl
    obtain ⟨k,hk⟩:=key n fr M hn
    exact ⟨k,loopL_iff.2 ⟨n,hk⟩⟩
  | exit i=>intro fr M r h; exact ⟨0,h⟩
  | ret=>intro fr M r h; exact ⟨0,h⟩
  | skip=>intro fr M r h; exact ⟨0,h⟩
  | ins w b z=>intro fr M r h; exact ⟨0,h⟩
theorem aCall_eq {f:FuncId} {af:AFun} (hf:T f=some af) (args:List V) (M:Mem):aCall T f args M=runF (aCall T) af args M:=by
  apply Option.ext
  intro r
  rw [aCall_iff]
  constructor
  · rintro ⟨k,hk⟩
    cases k with
    | zero=>simp [aCallN] at hk
    | succ k =>
      simp only [aCallN,hf] at hk
      exact runF_mono (callN_lim k) hk
  · intro h
    unfold runF at h
    cases hcode:aCode (aCall T) af.code (args++List.replicate (af.ntmps - args.length) O) M with
    | none=>rw [hcode] at h; simp [gc] at h
    | some q =>
      obtain ⟨k,hk⟩:=code_cont _ hcode
      refine ⟨k+1,?_⟩
      simp only [aCallN,hf,runF,hk]
      rw [hcode] at h
      exact h
end
end GoAm
