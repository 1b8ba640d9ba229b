/- How loops and calls of the abstract machine unfold. -/
import Derived.Test.YtlniheedmeaeeaaGreatAmDef
set_option autoImplicit false
set_option linter.unusedVariables false
set_option linter.unusedSimpArgs false
namespace GoAm
open Go
theorem ZpG {step:List V→Mem→R}:∀ {n:Nat} {fr:List V} {M:Mem} {r:Ex × List V × Mem},Zcm step n fr M=some r→Zcm step (n+1) fr M=some r
  | 0,fr,M,r,h=>by simp [Zcm] at h
  | n+1,fr,M,r,h=>by
    rw [Zcm] at h ⊢
    split at h
    · exact ZpG h
    · exact h
theorem Zt8 {step:List V→Mem→R} {n m:Nat} (hnm:n≤m) {fr:List V} {M:Mem} {r:Ex × List V × Mem} (h:Zcm step n fr M=some r):Zcm step m fr M=some r:=by
  induction hnm with
  | refl=>exact h
  | step _ ih=>exact ZpG ih
theorem Zgt {step:List V→Mem→R} {fr:List V} {M:Mem} {r:Ex × List V × Mem}:ZqJ step fr M=some r ↔ ∃ n,Zcm step n fr M=some r:=by
  unfold ZqJ
  constructor
  · intro h
    split at h
    · exact ⟨_,h⟩
    · cases h
  · rintro ⟨n,hn⟩
    have he:∃ n,Zcm step n fr M ≠ none:=⟨n,by rw [hn]; simp⟩
    rw [dif_pos he]
    have hc:=he.choose_spec
    cases hr:Zcm step he.choose fr M with
    | none=>exact absurd hr hc
    | some q =>
      have h1:=Zt8 (Nat.le_max_left n he.choose) hn
      have h2:=Zt8 (Nat.le_max_right n he.choose) hr
      rw [h1] at h2
      exact h2.symm
theorem ZAb (step:List V→Mem→R) (fr:List V) (M:Mem):ZqJ step fr M=match step fr M with
    | some (.norm,fr',M')=>ZqJ step fr' M'
    | r=>r:=by
  apply Option.ext
  intro r
  rw [Zgt]
  constructor
  · rintro ⟨n,hn⟩
    cases n with
    | zero=>simp [Zcm] at hn
    | succ n =>
      rw [Zcm] at hn
      split at hn
      · rename_i fr' M' hs; rw [hs]; exact Zgt.2 ⟨n,hn⟩
      · rename_i hne
        split
        · rename_i fr' M' hs; exact absurd hs (hne fr' M')
        · exact hn
  · intro h
    split at h
    · rename_i fr' M' hs
      obtain ⟨n,hn⟩:=Zgt.1 h
      exact ⟨n+1,by rw [Zcm,hs]; exact hn⟩
    · rename_i hne
      refine ⟨1,?_⟩
      rw [Zcm]
      split
      · rename_i fr' M' hs; exact absurd hs (hne fr' M')
      · exact h
def Zmy (c d:Yd):Prop:=∀ f args M r,c f args M=some r→d f args M=some r
section
variable {c d:Yd}
theorem Zhv (hc:Zmy c d) {fr:List V} {M:Mem} {op:AOp} {r:V × Mem} (h:Ze c fr M op=some r):Ze d fr M op=some r:=by
  cases op with
  | call f args=>exact hc _ _ _ _ h
  | callv f args =>
    simp only [Ze] at h ⊢
    split at h
    · rename_i f first cap hp; exact hc _ _ _ _ h
    · cases h
  | _=>exact h
theorem Znm (hc:Zmy c d):∀ {os:List AOper} {fr:List V} {M:Mem} {r:List V × Mem},Zhn c os fr M=some r→Zhn d os fr M=some r
  | [],_,_,_,h=>h
  | o :: os,fr,M,r,h=>by
    simp only [Zhn] at h ⊢
    split at h
    · rename_i hw
      split at h
      · rename_i v M' hs
        simp only [Zhv hc hs]
        exact Znm hc h
      · cases h
    · exact Znm hc h
    · cases h
theorem Zf2 (hc:Zmy c d):∀ {R W:List Nat} {os:List AOper} {fr:List V} {M:Mem} {r:List V × Mem},JP c R W os fr M=some r→JP d R W os fr M=some r
  | _,_,[],_,_,_,h=>h
  | R,W,o :: os,fr,M,r,h=>by
    simp only [JP] at h ⊢
    split at h
    · rename_i hw
      split at h
      · cases h
      · rename_i hh
        rw [if_neg hh]
        split at h
        · rename_i v M' hs
          split at h
          · rename_i hp
            simp only [Zhv hc hs]
            rw [if_pos hp]
            exact Zf2 hc h
          · rename_i hp
            split at h
            · rename_i hq
              simp only [Zhv hc hs]
              rw [if_neg hp,if_pos hq]
              exact Zf2 hc h
            · cases h
        · cases h
    · exact Zf2 hc h
    · cases h
theorem Zhz (hc:Zmy c d):∀ (cc:ACode) {fr:List V} {M:Mem} {r:Ex × List V × Mem},Zu c cc fr M=some r→Zu d cc fr M=some r:=by
  intro cc
  induction cc with
  | reg dr os =>
    intro fr M r h
    simp only [Zu] at h ⊢
    cases dr with
    | true =>
      simp only [if_true] at h ⊢
      split at h
      · rename_i fr' M' ho; rw [Zf2 hc ho]; exact h
      · cases h
    | false =>
      simp only [Bool.false_eq_true,if_false] at h ⊢
      split at h
      · rename_i fr' M' ho; rw [Znm hc ho]; exact h
      · cases h
  | perm pi os =>
    intro fr M r h
    simp only [Zu] at h ⊢
    split at h
    · rename_i fr' M' ho; rw [Zf2 hc ho]; exact h
    · cases h
  | seq a b iha ihb =>
    intro fr M r h
    simp only [Zu] at h ⊢
    split at h
    · rename_i fr' M' ha; rw [iha ha]; exact ihb h
    · rename_i hne
      rw [iha h]
      obtain ⟨ex,f',m'⟩:=r
      cases ex with
      | norm=>exact absurd h (hne _ _)
      | exit i=>rfl
      | ret=>rfl
  | cond x a b iha ihb =>
    intro fr M r h
    simp only [Zu] at h ⊢
    split at h
    · rename_i p hp
      split at h
      · rename_i hp; simp only [hp,if_true]; exact iha h
      · rename_i hp; simp only [hp,if_false]; exact ihb h
    · cases h
  | block i b ih =>
    intro fr M r h
    simp only [Zu] at h ⊢
    split at h
    · rename_i j fr' M' hb; rw [ih hb]; exact h
    · rename_i hne
      rw [ih h]
      obtain ⟨ex,f',m'⟩:=r
      cases ex with
      | norm=>rfl
      | exit j=>exact absurd h (hne _ _ _)
      | ret=>rfl
  | loop m b ih =>
    intro fr M r h
    simp only [Zu] at h ⊢
    obtain ⟨n,hn⟩:=Zgt.1 h
    refine Zgt.2 ⟨n,?_⟩
    have key:∀ (n:Nat) (fr:List V) (M:Mem),Zcm (fun fr M=>Zu c b (Zs m fr) M) n fr M=some r→Zcm (fun fr M=>Zu d b (Zs m fr) M) n fr M=some r:=by
      intro n
      induction n with
      | zero=>intro fr M h; simp [Zcm] at h
      | succ n ihn =>
        intro fr M h
        simp only [Zcm] at h ⊢
        split at h
        · rename_i fr' M' hb; rw [ih hb]; exact ihn _ _ h
        · rename_i hne
          rw [ih h]
          obtain ⟨ex,f',m'⟩:=r
          cases ex with
          | norm=>exact absurd h (hne _ _)
          | exit j=>rfl
          | ret=>rfl
    exact key n fr M hn
  | exit i=>intro fr M r h; exact h
  | ret=>intro fr M r h; exact h
  | skip=>intro fr M r h; exact h
  | ins w b z=>intro fr M r h; exact h
theorem ZqN (hc:Zmy c d) {af:AFun} {args:List V} {M:Mem} {r:V × Mem} (h:Zyw c af args M=some r):Zyw d af args M=some r:=by
  unfold Zyw at h ⊢
  cases hcode:Zu c af.code (args++List.replicate (af.ntmps - args.length) O) M with
  | none=>rw [hcode] at h; simp [gc] at h
  | some q=>rw [Zhz hc _ hcode]; rw [hcode] at h; exact h
end
section
variable {T:Tab}
theorem Zpu:∀ {k:Nat},Zmy (Jv T k) (Jv T (k+1))
  | 0=>fun f args M r h=>by simp [Jv] at h
  | k+1=>fun f args M r h=>by
    rw [Jv] at h ⊢
    split at h
    · exact ZqN Zpu h
    · cases h
theorem Zcf {k m:Nat} (h:k≤m):Zmy (Jv T k) (Jv T m):=by
  induction h with
  | refl=>exact fun f args M r h=>h
  | step _ ih=>exact fun f args M r h=>Zpu f args M r (ih f args M r h)
theorem ZlL {f:FuncId} {args:List V} {M:Mem} {r:V × Mem}:Zb T f args M=some r ↔ ∃ k,Jv T k f args M=some r:=by
  unfold Zb
  constructor
  · intro h
    split at h
    · exact ⟨_,h⟩
    · cases h
  · rintro ⟨k,hk⟩
    have he:∃ k,Jv T k f args M ≠ none:=⟨k,by rw [hk]; simp⟩
    rw [dif_pos he]
    have hc:=he.choose_spec
    cases hr:Jv T he.choose f args M with
    | none=>exact absurd hr hc
    | some q =>
      have h1:=Zcf (Nat.le_max_left k he.choose) _ _ _ _ hk
      have h2:=Zcf (Nat.le_max_right k he.choose) _ _ _ _ hr
      rw [h1] at h2
      exact h2.symm
theorem Zwh (k:Nat):Zmy (Jv T k) (Zb T):=fun _ _ _ _ h=>ZlL.2 ⟨k,h⟩
theorem Znz {fr:List V} {M:Mem} {op:AOp} {r:V × Mem} (h:Ze (Zb T) fr M op=some r):∃ k,Ze (Jv T k) fr M op=some r:=by
  cases op with
  | call f args=>exact ZlL.1 h
  | callv f args =>
    simp only [Ze] at h ⊢
    split at h
    · rename_i f first cap hp
      obtain ⟨k,hk⟩:=ZlL.1 h
      exact ⟨k,hk⟩
    · cases h
  | _=>exact ⟨0,h⟩
theorem ZqB:∀ {os:List AOper} {fr:List V} {M:Mem} {r:List V × Mem},Zhn (Zb T) os fr M=some r→∃ k,Zhn (Jv T k) os fr M=some r
  | [],_,_,_,h=>⟨0,h⟩
  | o :: os,fr,M,r,h=>by
    simp only [Zhn] at h
    split at h
    · rename_i hw
      split at h
      · rename_i v M' hs
        obtain ⟨k,hk⟩:=Znz hs
        obtain ⟨m,hm⟩:=ZqB h
        refine ⟨max k m,?_⟩
        simp only [Zhn,hw,Zhv (Zcf (Nat.le_max_left k m)) hk]
        exact Znm (Zcf (Nat.le_max_right k m)) hm
      · cases h
    · rename_i hw
      obtain ⟨m,hm⟩:=ZqB h
      exact ⟨m,by simp only [Zhn,hw]; exact hm⟩
    · cases h
theorem Zjq:∀ {R W:List Nat} {os:List AOper} {fr:List V} {M:Mem} {r:List V × Mem},JP (Zb T) R W os fr M=some r→∃ k,JP (Jv T k) R W os fr M=some r
  | _,_,[],_,_,_,h=>⟨0,h⟩
  | R,W,o :: os,fr,M,r,h=>by
    simp only [JP] at h
    split at h
    · rename_i hw
      split at h
      · cases h
      · rename_i hh
        split at h
        · rename_i v M' hs
          split at h
          · rename_i hp
            obtain ⟨k,hk⟩:=Znz hs
            obtain ⟨m,hm⟩:=Zjq h
            refine ⟨max k m,?_⟩
            simp only [JP,hw]
            rw [if_neg hh]
            simp only [Zhv (Zcf (Nat.le_max_left k m)) hk]
            rw [if_pos hp]
            exact Zf2 (Zcf (Nat.le_max_right k m)) hm
          · rename_i hp
            split at h
            · rename_i hq
              obtain ⟨k,hk⟩:=Znz hs
              obtain ⟨m,hm⟩:=Zjq h
              refine ⟨max k m,?_⟩
              simp only [JP,hw]
              rw [if_neg hh]
              simp only [Zhv (Zcf (Nat.le_max_left k m)) hk]
              rw [if_neg hp,if_pos hq]
              exact Zf2 (Zcf (Nat.le_max_right k m)) hm
            · cases h
        · cases h
    · rename_i hw
      obtain ⟨m,hm⟩:=Zjq h
      exact ⟨m,by simp only [JP,hw]; exact hm⟩
    · cases h
theorem Zw5:∀ (cc:ACode) {fr:List V} {M:Mem} {r:Ex × List V × Mem},Zu (Zb T) cc fr M=some r→∃ k,Zu (Jv T k) cc fr M=some r:=by
  intro cc
  induction cc with
  | reg dr os =>
    intro fr M r h
    simp only [Zu] at h ⊢
    cases dr with
    | true =>
      simp only [if_true] at h ⊢
      split at h
      · rename_i fr' M' ho; obtain ⟨k,hk⟩:=Zjq ho; exact ⟨k,by rw [hk]; exact h⟩
      · cases h
    | false =>
      simp only [Bool.false_eq_true,if_false] at h ⊢
      split at h
      · rename_i fr' M' ho; obtain ⟨k,hk⟩:=ZqB ho; exact ⟨k,by rw [hk]; exact h⟩
      · cases h
  | perm pi os =>
    intro fr M r h
    simp only [Zu] at h ⊢
    split at h
    · rename_i fr' M' ho; obtain ⟨k,hk⟩:=Zjq ho; exact ⟨k,by rw [hk]; exact h⟩
    · cases h
  | seq a b iha ihb =>
    intro fr M r h
    simp only [Zu] at h
    split at h
    · rename_i fr' M' ha
      obtain ⟨k,hk⟩:=iha ha
      obtain ⟨m,hm⟩:=ihb h
      refine ⟨max k m,?_⟩
      simp only [Zu,Zhz (Zcf (Nat.le_max_left k m)) _ hk]
      exact Zhz (Zcf (Nat.le_max_right k m)) _ hm
    · rename_i hne
      obtain ⟨k,hk⟩:=iha h
      refine ⟨k,?_⟩
      simp only [Zu,hk]
      obtain ⟨ex,f',m'⟩:=r
      cases ex with
      | norm=>exact absurd h (hne _ _)
      | exit i=>rfl
      | ret=>rfl
  | cond x a b iha ihb =>
    intro fr M r h
    simp only [Zu] at h
    split at h
    · rename_i p hp
      split at h
      · rename_i hpp
        obtain ⟨k,hk⟩:=iha h
        exact ⟨k,by simp only [Zu,hp,hpp,if_true]; exact hk⟩
      · rename_i hpp
        obtain ⟨k,hk⟩:=ihb h
        exact ⟨k,by simp only [Zu,hp,hpp,if_false]; exact hk⟩
    · cases h
  | block i b ih =>
    intro fr M r h
    simp only [Zu] at h
    split at h
    · rename_i j fr' M' hb
      obtain ⟨k,hk⟩:=ih hb
      exact ⟨k,by simp only [Zu,hk]; exact h⟩
    · rename_i hne
      obtain ⟨k,hk⟩:=ih h
      refine ⟨k,?_⟩
      simp only [Zu,hk]
      obtain ⟨ex,f',m'⟩:=r
      cases ex with
      | norm=>rfl
      | exit j=>exact absurd h (hne _ _ _)
      | ret=>rfl
  | loop m b ih =>
    intro fr M r h
    simp only [Zu] at h
    obtain ⟨n,hn⟩:=Zgt.1 h
    have key:∀ (n:Nat) (fr:List V) (M:Mem),Zcm (fun fr M=>Zu (Zb T) b (Zs m fr) M) n fr M=some r→∃ k,Zcm (fun fr M=>Zu (Jv T k) b (Zs m fr) M) n fr M=some r:=by
      intro n
      induction n with
      | zero=>intro fr M h; simp [Zcm] at h
      | succ n ihn =>
        intro fr M h
        simp only [Zcm] at h
        split at h
        · rename_i fr' M' hb
          obtain ⟨k,hk⟩:=ih hb
          obtain ⟨j,hj⟩:=ihn _ _ h
          refine ⟨max k j,?_⟩
          simp only [Zcm,Zhz (Zcf (Nat.le_max_left k j)) _ hk]
          have mono:∀ (n:Nat) (fr:List V) (M:Mem),Zcm (fun fr M=>Zu (Jv T j) b (Zs m fr) M) n fr M=some r→Zcm (fun fr M=>Zu (Jv T (max k j)) b (Zs m fr) M) n fr M=some r:=by
            intro n
            induction n with
            | zero=>intro fr M h; simp [Zcm] at h
            | succ n ihn2 =>
              intro fr M h
              simp only [Zcm] at h ⊢
              split at h
              · rename_i fr2 M2 hb2; rw [Zhz (Zcf (Nat.le_max_right k j)) _ hb2]; exact ihn2 _ _ h
              · rename_i hne
                rw [Zhz (Zcf (Nat.le_max_right k j)) _ h]
                obtain ⟨ex,f',m'⟩:=r
                cases ex with
                | norm=>exact absurd h (hne _ _)
                | exit i=>rfl
                | ret=>rfl
          exact mono _ _ _ hj
        · rename_i hne
          obtain ⟨k,hk⟩:=ih h
          refine ⟨k,?_⟩
          simp only [Zcm,hk]
          obtain ⟨ex,f',m'⟩:=r
          cases ex with
          | norm=>exact absurd h (hne _ _)
          | exit j=>rfl
          | ret=>rfl
    obtain ⟨k,hk⟩:=key n fr M hn
    exact ⟨k,Zgt.2 ⟨n,hk⟩⟩
  | exit i=>intro fr M r h; exact ⟨0,h⟩
  | ret=>intro fr M r h; exact ⟨0,h⟩
  | skip=>intro fr M r h; exact ⟨0,h⟩
  | ins w b z=>intro fr M r h; exact ⟨0,h⟩
theorem Zc {f:FuncId} {af:AFun} (hf:T f=some af) (args:List V) (M:Mem):Zb T f args M=Zyw (Zb T) af args M:=by
  apply Option.ext
  intro r
  rw [ZlL]
  constructor
  · rintro ⟨k,hk⟩
    cases k with
    | zero=>simp [Jv] at hk
    | succ k =>
      simp only [Jv,hf] at hk
      exact ZqN (Zwh k) hk
  · intro h
    unfold Zyw at h
    cases hcode:Zu (Zb T) af.code (args++List.replicate (af.ntmps - args.length) O) M with
    | none=>rw [hcode] at h; simp [gc] at h
    | some q =>
      obtain ⟨k,hk⟩:=Zw5 _ hcode
      refine ⟨k+1,?_⟩
      simp only [Jv,hf,Zyw,hk]
      rw [hcode] at h
      exact h
end
end GoAm
