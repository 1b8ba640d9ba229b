/- A region whose order is open: where what may come in either order does not meddle with one another, the text's order tells all. -/
import Derived.Test.YtlniheedmeaeeaaGreatAmCall
import Derived.Test.YtlniheedmeaeeaaGreatAmEq
import Derived.Orders
set_option autoImplicit false
set_option linter.unusedSimpArgs false
set_option linter.unusedVariables false
namespace GoAm
open Go Go.RowKit
def rdO:Opd→List Nat
  | .t n=>[n]
  | .c _=>[]
def ZGh (xs:List Opd):List Nat:=xs.flatMap rdO
def ZF8:Option Opd→List Nat
  | some x=>rdO x
  | none=>[]
def rdP (ps:List (Nat × Nat × Opd)):List Nat:=ps.flatMap fun p=>rdO p.2.2
def ZkG:AOp→List Nat
  | .mv x | .box x | .load1 x | .loadn _ x | .eqnil _ x | .not x | .neg x | .bnot x | .conv _ x | .bts x | .stb x | .make _ _ _ x | .slc0 _ x | .fa _ x | .fld1 _ x | .fldn _ _ x
  | .ext x _ | .len x | .slen x | .clr _ _ x | .chk x=>rdO x
  | .pick a b c=>rdO a++rdO b++rdO c
  | .new _ | .bad=>[]
  | .build _ ps | .mkl _ _ _ ps=>rdP ps
  | .store _ x y | .bin _ x y | .beq _ x y | .eqs _ _ x y | .ia _ x y | .ix x y | .app _ _ x y | .apps x y | .appz _ _ _ x y | .copy _ x y | .copys x y=>rdO x++rdO y
  | .fn _ xs | .call _ xs=>ZGh xs
  | .slc _ x lo hi | .sls x lo hi=>rdO x++ZF8 lo++ZF8 hi
  | .sel _ _ d e _ _ ps y=>rdP ps++rdO y++[d,e]
  | .mins x xs | .maxs x xs | .callv x xs=>rdO x++ZGh xs
section
variable {call:Yd}
theorem ZL {fr fr':List V} {x:Opd} (h:∀ t ∈ rdO x,fr[t]?=fr'[t]?):ev fr x=ev fr' x:=by
  cases x with
  | t n=>simp only [ev,List.getD_eq_getElem?_getD,h n (by simp [rdO])]
  | c v=>rfl
theorem ZjL {fr fr':List V} {xs:List Opd} (h:∀ t ∈ ZGh xs,fr[t]?=fr'[t]?):xs.map (ev fr)=xs.map (ev fr') :=
  List.map_congr_left fun x hx=>ZL fun t ht=>h t (List.mem_flatMap.2 ⟨x,hx,ht⟩)
theorem Zf9 {fr fr':List V} {ps:List (Nat × Nat × Opd)} (h:∀ t ∈ rdP ps,fr[t]?=fr'[t]?):Zdi fr ps=Zdi fr' ps:=by
  unfold Zdi
  refine List.map_congr_left fun p hp=>?_
  rw [ZL (fr:=fr) (fr':=fr') (x:=p.2.2) fun t ht=>h t (List.mem_flatMap.2 ⟨p,hp,ht⟩)]
theorem ZhT {fr fr':List V} {d:Int} {x:Option Opd} (h:∀ t ∈ ZF8 x,fr[t]?=fr'[t]?):ZhM fr d x=ZhM fr' d x:=by
  cases x with
  | none=>rfl
  | some x=>simp only [ZhM,ZL (fr:=fr) (fr':=fr') (x:=x) h]
theorem Zpz {fr fr':List V} {M:Mem} {op:AOp} (h:∀ t ∈ ZkG op,fr[t]?=fr'[t]?):Ze call fr M op=Ze call fr' M op:=by
  cases op <;> simp only [ZkG,List.mem_append] at h
  case new=>rfl
  case bad=>rfl
  case pick a b c=>simp only [Ze,ZL (x:=a) fun t ht=>h t (.inl (.inl ht)),ZL (x:=b) fun t ht=>h t (.inl (.inr ht)),ZL (x:=c) fun t ht=>h t (.inr ht)]
  case build z ps=>simp only [Ze,Zf9 h]
  case mkl w n z ps=>simp only [Ze,Zf9 h]
  case sel k j d e n z ps y=>simp only [Ze,Zf9 (ps:=ps) fun t ht=>h t (.inl (.inl ht)),ZL (x:=y) fun t ht=>h t (.inl (.inr ht)),h d (.inr (by simp)),h e (.inr (by simp))]
  case fn f xs=>simp only [Ze,ZjL h]
  case call f xs=>simp only [Ze,ZjL h]
  case slc w x lo hi=>simp only [Ze,ZL (x:=x) fun t ht=>h t (.inl (.inl ht)),ZhT (x:=lo) fun t ht=>h t (.inl (.inr ht)),ZhT (x:=hi) fun t ht=>h t (.inr ht)]
  case sls x lo hi=>simp only [Ze,ZL (x:=x) fun t ht=>h t (.inl (.inl ht)),ZhT (x:=lo) fun t ht=>h t (.inl (.inr ht)),ZhT (x:=hi) fun t ht=>h t (.inr ht)]
  case mins x xs=>simp only [Ze,ZL (x:=x) fun t ht=>h t (.inl ht),ZjL (xs:=xs) fun t ht=>h t (.inr ht)]
  case maxs x xs=>simp only [Ze,ZL (x:=x) fun t ht=>h t (.inl ht),ZjL (xs:=xs) fun t ht=>h t (.inr ht)]
  case callv x xs=>simp only [Ze,ZL (x:=x) fun t ht=>h t (.inl ht),ZjL (xs:=xs) fun t ht=>h t (.inr ht)]
  case store n x y=>simp only [Ze,ZL (x:=x) fun t ht=>h t (.inl ht),ZL (x:=y) fun t ht=>h t (.inr ht)]
  case bin n x y=>simp only [Ze,ZL (x:=x) fun t ht=>h t (.inl ht),ZL (x:=y) fun t ht=>h t (.inr ht)]
  case beq n x y=>simp only [Ze,ZL (x:=x) fun t ht=>h t (.inl ht),ZL (x:=y) fun t ht=>h t (.inr ht)]
  case eqs n k x y=>simp only [Ze,ZL (x:=x) fun t ht=>h t (.inl ht),ZL (x:=y) fun t ht=>h t (.inr ht)]
  case ia n x y=>simp only [Ze,ZL (x:=x) fun t ht=>h t (.inl ht),ZL (x:=y) fun t ht=>h t (.inr ht)]
  case ix x y=>simp only [Ze,ZL (x:=x) fun t ht=>h t (.inl ht),ZL (x:=y) fun t ht=>h t (.inr ht)]
  case app w b x y=>simp only [Ze,ZL (x:=x) fun t ht=>h t (.inl ht),ZL (x:=y) fun t ht=>h t (.inr ht)]
  case apps x y=>simp only [Ze,ZL (x:=x) fun t ht=>h t (.inl ht),ZL (x:=y) fun t ht=>h t (.inr ht)]
  case appz w b z x y=>simp only [Ze,ZL (x:=x) fun t ht=>h t (.inl ht),ZL (x:=y) fun t ht=>h t (.inr ht)]
  case copy w x y=>simp only [Ze,ZL (x:=x) fun t ht=>h t (.inl ht),ZL (x:=y) fun t ht=>h t (.inr ht)]
  case copys x y=>simp only [Ze,ZL (x:=x) fun t ht=>h t (.inl ht),ZL (x:=y) fun t ht=>h t (.inr ht)]
  all_goals simp only [Ze,ZL h]
theorem Zny {fr:List V} {op:AOp} (h1:eff op=false) (h2:mem op=false):∃ g:Option V,∀ M,Ze call fr M op=g.map (·,M):=by
  refine ⟨(Ze call fr [] op).map (·.1),fun M=>?_⟩
  cases op <;> simp only [eff,mem,Bool.true_eq_false] at h1 h2
  all_goals simp only [Ze,Option.map_map]
  all_goals (try rfl)
  all_goals (repeat' split) <;> first | rfl | (simp only [Option.map_map]; rfl) | simp_all
theorem ZFH {α:Type} {a b:List α} (h:a <+: b) {i:Nat} (hi:i < a.length):b[i]?=a[i]?:=by
  obtain ⟨t,rfl⟩:=h
  rw [List.getElem?_append_left hi]
theorem ZlY {fr:List V} {M M':Mem} {op:AOp} {v:V} (h1:eff op=false) (h:Ze call fr M op=some (v,M')):M'=M:=by
  by_cases h2:mem op=false
  · obtain ⟨g,hg⟩:=Zny (call:=call) (fr:=fr) h1 h2
    rw [hg] at h
    simp only [Option.map_eq_some_iff,Prod.mk.injEq] at h
    obtain ⟨_,_,_,rfl⟩:=h; rfl
  · cases op <;> simp only [mem,not_true_eq_false] at h2
    all_goals simp only [Ze] at h
    all_goals (repeat' split at h) <;> simp_all [Option.map_eq_some_iff]
    all_goals (obtain ⟨_,_,_,rfl⟩:=h; rfl)
theorem ZDO {M M2:Mem} {l o:Nat} (h:M2[l]?=M[l]?):rd1 M2 l o=rd1 M l o:=by unfold rd1; rw [h]
theorem ZxK {M M2:Mem} {l o n:Nat} (h:M2[l]?=M[l]?):rdn M2 l o n=rdn M l o n:=by unfold rdn; rw [h]
def isT:AOp→Bool
  | .load1 (.c _) | .loadn _ (.c _) | .bts (.c _) | .slc _ (.c _) _ _=>false
  | _=>true
theorem Zz9 {M M2:Mem} {w:Nat} {a:Addr} {n c:Nat} (h:n ≠ 0→M2[a.block]?=M[a.block]?):Zj M2 w (.slice (some a) n c)=Zj M w (.slice (some a) n c):=by
  obtain ⟨l,o,q⟩:=a
  by_cases hn:n=0
  · subst hn
    cases q <;> simp [Zj]
  · have h:=h hn
    cases q with
    | none=>simp only [Zj]; rw [ZxK h]
    | some q=>rfl
theorem Zxi {fr:List V} {M M2:Mem} {op:AOp} (h1:mem op=true) (h:∀ b ∈ rfp fr op,M2[b]?=M[b]?) :
    (Ze call fr M2 op).map (·.1)=(Ze call fr M op).map (·.1):=by
  cases op <;> simp only [mem,Bool.false_eq_true] at h1
  case load1 x =>
    simp only [Ze,rfp] at h ⊢
    split
    · rename_i l o he; rw [he] at h; rw [ZDO (h l (by simp))]; cases rd1 M l o <;> rfl
    · rfl
  case loadn n x =>
    simp only [Ze,rfp] at h ⊢
    split
    · rename_i l o he; rw [he] at h; rw [ZxK (h l (by simp))]; cases rdn M l o n <;> rfl
    · rfl
  case bts x =>
    simp only [Ze,rfp] at h ⊢
    have e:Zj M2 1 (ev fr x)=Zj M 1 (ev fr x):=by
      split at h
      · rename_i a n c he
        rw [he]
        exact Zz9 fun hn=>h _ (by rw [if_neg hn]; simp)
      · rename_i hne
        unfold Zj
        split
        · rfl
        · rename_i l o n c he; exact absurd he (hne _ _ _)
        · rfl
    rw [e]
    split
    · rename_i cs _; cases Zf6 cs <;> rfl
    · rfl
  case slc w x lo hii =>
    simp only [Ze,rfp] at h ⊢
    split
    · rename_i a n c he
      rw [he] at h
      split
      · split
        · split
          · rfl
          · rename_i b o
            rw [h b (by simp)]
            cases M[b]? with
            | none=>rfl
            | some k=>by_cases hk:k.w=w <;> simp [hk]
          · rfl
        · rfl
      · rfl
    · rfl
theorem ZBy {fr:List V} {M:Mem} {op:AOp} {r:V × Mem} (h1:mem op=true) (h:Ze call fr M op=some r):∀ b ∈ rfp fr op,b < M.length:=by
  intro b hb
  cases op <;> simp only [mem,Bool.false_eq_true] at h1
  case load1 x =>
    simp only [Ze,rfp] at h hb
    split at h
    · rename_i l o he
      rw [he] at hb
      simp at hb; subst hb
      cases hr:rd1 M b o with
      | none=>rw [hr] at h; cases h
      | some u =>
        unfold rd1 at hr
        split at hr
        · rename_i k hk; exact (List.getElem?_eq_some_iff.1 hk).1
        · cases hr
    · cases h
  case loadn n x =>
    simp only [Ze,rfp] at h hb
    split at h
    · rename_i l o he
      rw [he] at hb
      simp at hb; subst hb
      cases hr:rdn M b o n with
      | none=>rw [hr] at h; cases h
      | some u =>
        unfold rdn at hr
        split at hr
        · rename_i k hk; exact (List.getElem?_eq_some_iff.1 hk).1
        · cases hr
    · cases h
  case bts x =>
    simp only [Ze,rfp] at h hb
    split at hb
    · rename_i a n c he
      split at hb
      · simp at hb
      · rename_i hn
        simp at hb; subst hb
        rw [he] at h
        obtain ⟨l,o,q⟩:=a
        cases q with
        | none =>
          simp only [Zj,Nat.mul_one,if_neg hn] at h
          cases hr:rdn M l o n with
          | none=>rw [hr] at h; simp at h
          | some u =>
            unfold rdn at hr
            split at hr
            · rename_i k hk; exact (List.getElem?_eq_some_iff.1 hk).1
            · cases hr
        | some q=>simp [Zj] at h
    · simp at hb
  case slc w x lo hii =>
    simp only [Ze,rfp] at h hb
    split at hb
    · rename_i a n c he
      simp at hb; subst hb
      rw [he] at h
      simp only at h
      split at h
      · split at h
        · obtain ⟨l,o,q⟩:=a
          cases q with
          | none =>
            simp only at h
            split at h
            · rename_i k hk; exact (List.getElem?_eq_some_iff.1 hk).1
            · cases h
          | some q=>simp at h
        · cases h
      · cases h
    · simp at hb
theorem ZvV {M X:Mem} {l o:Nat} {vs:List V} (h:wrn M l o vs=some X):X.length=M.length:=by
  unfold wrn at h
  split at h
  · split at h
    · cases h; simp
    · cases h
  · cases h
theorem ZDB {w:Nat} {M X:Mem} {l o:Nat} {vs:List V} (h:wre w M l o vs=some X):X.length=M.length:=by
  unfold wre at h
  split at h
  · split at h
    · cases h; simp
    · cases h
  · cases h
theorem Zv7 {fr:List V} {M M':Mem} {op:AOp} {v:V} (h1:Zea op=true) (h:Ze call fr M op=some (v,M')):M'.length=M.length:=by
  cases op <;> simp only [Zea,Bool.false_eq_true] at h1
  · simp only [Ze] at h
    split at h
    · split at h
      · rename_i l o he hl
        cases hw:wrn M l o (cellsOf (ev fr ‹Opd›)) with
        | none=>simp [hw] at h
        | some X =>
          simp [hw] at h
          obtain ⟨_,rfl⟩:=h
          exact ZvV hw
      · cases h
    · cases h
  · simp only [Ze] at h
    split at h
    · split at h
      · split at h
        · cases h; rfl
        · split at h
          · cases h; rfl
          · obtain ⟨X,hw,e⟩:=Option.map_eq_some_iff.1 h
            cases e
            rcases Option.or_eq_some_iff.1 hw with hw | ⟨_,hw⟩
            · exact ZvV hw
            · exact ZDB hw
        · cases h
      · cases h
    · cases h
def Q4 (fr:List V):AOp→Option (Blk × (Nat→V))
  | .new cs=>if cs.all one=true then some (⟨cs,1,2⟩,fun l=>.pointer (some ⟨l,0,none⟩)) else none
  | .box x=>if (cellsOf (ev fr x)).all one=true then some (⟨cellsOf (ev fr x),1,2⟩,fun l=>.pointer (some ⟨l,0,none⟩)) else none
  | .mkl w n zero ps=>match Zi2 (zeroCells zero n) (Zdi fr ps) with
    | some cs=>if cs.all one=true then some (⟨cs,w,2⟩,fun l=>.slice (some ⟨l,0,none⟩) n n) else none
    | none=>none
  | .stb x=>match ev fr x with
    | .string s=>some (⟨s.data.toList.map Y0,1,2⟩,fun l=>.slice (some ⟨l,0,none⟩) s.size s.size)
    | _=>none
  | .make w bytes zero len=>match ev fr len with
    | .int _ n=>if 0≤n∧n * bytes≤281474976710656∧n≤9223372036854775807∧zero.all one=true then
        some (⟨zeroCells zero n.toNat,w,2⟩,fun l=>.slice (some ⟨l,0,none⟩) n.toNat n.toNat) else none
    | _=>none
  | _=>none
def ZqH:AOp→Bool
  | .new _ | .box _ | .mkl .. | .stb _ | .make ..=>true
  | _=>false
theorem Zf0 {fr:List V} {M:Mem} {op:AOp} (h:ZqH op=true):Ze call fr M op=(Q4 fr op).map fun r=>(r.2 M.length,M++[r.1]):=by
  cases op <;> simp only [ZqH,Bool.false_eq_true] at h
  all_goals simp only [Ze,Q4]
  case new=>split <;> rfl
  case box=>split <;> rfl
  case mkl w n zero ps =>
    cases Zi2 (zeroCells zero n) (Zdi fr ps) with
    | none=>rfl
    | some cs =>
      simp only
      split <;> rfl
  case stb x =>
    cases ev fr x <;> rfl
  case make w bytes zero x =>
    cases ev fr x <;> first | rfl | (simp only; split <;> rfl)
theorem ZtW {fr:List V} {op:AOp} {r:Blk × (Nat→V)} (h:Q4 fr op=some r):r.1.st=2:=by
  cases op <;> simp only [Q4] at h <;> (repeat' split at h) <;> first | cases h; rfl | cases h
theorem ZzE {fr:List V} {op:AOp} {r:Blk × (Nat→V)} (h:Q4 fr op=some r) {ρ:List PB} {l:Nat} {p:PB} {c:V} (hv:VR ρ (r.2 l) c) (hp:ρ[l]?=some p):∀ (ρ2:List PB) (k:Nat),ρ2[k]?=some p→VR ρ2 (r.2 k) c:=by
  have hptr:∀ {c:V},VR ρ (.pointer (some ⟨l,0,none⟩)) c→∀ (ρ2:List PB) (k:Nat),ρ2[k]?=some p→VR ρ2 (.pointer (some ⟨k,0,none⟩)) c:=by
    intro c hv ρ2 k hk
    cases hv with
    | ptr _ _ q hq hv =>
      rw [hp] at hq; cases hq
      exact .ptr k 0 p hk hv
  have hsl:∀ {c:V} {n ca:Nat},VR ρ (.slice (some ⟨l,0,none⟩) n ca) c→∀ (ρ2:List PB) (k:Nat),ρ2[k]?=some p→VR ρ2 (.slice (some ⟨k,0,none⟩) n ca) c:=by
    intro c n ca hv ρ2 k hk
    cases hv with
    | slice _ _ _ _ a c q hq hs =>
      rw [hp] at hq; cases hq
      exact .slice k 0 n ca a c p hk hs
  cases op <;> simp only [Q4] at h <;> (repeat' split at h) <;> first | (cases h; first | exact hptr hv | exact hsl hv) | cases h
def Zmn:V→Bool
  | .int _ _ | .bool _ | .string _ | .nilFunc=>true
  | .slice none 0 0=>true
  | .pointer none=>true
  | _=>false
theorem ZlK {ρ:List PB} {v:V} (h:Zmn v=true):∃ c,VR ρ v c:=by
  unfold Zmn at h
  split at h
  · exact ⟨_,.int _ _⟩
  · exact ⟨_,.bool _⟩
  · exact ⟨_,.str _⟩
  · exact ⟨_,.nilFunc⟩
  · exact ⟨_,.nil⟩
  · exact ⟨_,.nilptr⟩
  · cases h
def ZBG:Opd→Bool
  | .t _=>true
  | .c v=>(cellsOf v).all Zmn
def ZFU:AOp→Bool
  | .new cs=>cs.all Zmn
  | .box x=>ZBG x
  | .mkl _ _ zero ps=>zero.all Zmn && ps.all fun p=>ZBG p.2.2
  | .make _ _ zero _=>zero.all Zmn
  | _=>true
theorem Zq3 {ρ:List PB} {fr:List V} {a:Act} (hf:FR ρ fr a) {x:Opd} (hx:ZBG x=true):∀ u ∈ cellsOf (ev fr x),∃ c,VR ρ u c:=by
  intro u hu
  cases x with
  | c v=>exact ZlK (List.all_eq_true.1 hx u hu)
  | t n =>
    have hv:=hf.getD n
    by_cases hne:ev fr (.t n)=.tuple #[]
    · rw [hne] at hu
      simp [cellsOf] at hu
      subst hu
      exact ⟨undef,.O _⟩
    · obtain ⟨i,hi⟩:=List.getElem?_of_mem hu
      obtain ⟨c,_,hc⟩:=(VR.cellsOf hv hne).get hi
      exact ⟨c,hc⟩
theorem Zt0:∀ {ps:List (Nat × Nat × V)} {cells cs:List V},Zi2 cells ps=some cs→∀ v ∈ cs,v ∈ cells∨∃ p ∈ ps,v ∈ cellsOf p.2.2
  | [],cells,cs,h,v,hv=>by
    simp only [Zi2,Option.some.injEq] at h
    subst h
    exact .inl hv
  | (off,n,x) :: ps,cells,cs,h,v,hv=>by
    simp only [Zi2] at h
    split at h
    · rcases Zt0 h v hv with h1 | ⟨p,h1,h2⟩
      · unfold splice at h1
        simp only [List.mem_append] at h1
        rcases h1 with (h1 | h1) | h1
        · exact .inl (List.mem_of_mem_take h1)
        · exact .inr ⟨_,List.mem_cons_self,h1⟩
        · exact .inl (List.mem_of_mem_drop h1)
      · exact .inr ⟨p,List.mem_cons_of_mem _ h1,h2⟩
    · cases h
theorem Zh1 {z:List V}:∀ {n:Nat} {v:V},v ∈ zeroCells z n→v ∈ z
  | 0,v,h=>by simp [zeroCells] at h
  | n+1,v,h=>by
    simp only [zeroCells,List.mem_append] at h
    rcases h with h | h
    · exact h
    · exact Zh1 h
theorem Zs4 {ρ:List PB} {fr:List V} {a:Act} (hf:FR ρ fr a) {op:AOp} (hc:ZFU op=true) {r:Blk × (Nat→V)} (h:Q4 fr op=some r):∀ v ∈ r.1.cells,∃ c,VR ρ v c:=by
  intro v hv
  cases op <;> simp only [Q4] at h <;> simp only [ZFU] at hc <;> try (cases h)
  case new cs =>
    split at h
    · cases h; exact ZlK (List.all_eq_true.1 hc v hv)
    · cases h
  case box x =>
    split at h
    · cases h; exact Zq3 hf hc v hv
    · cases h
  case mkl w n zero ps =>
    simp only [Bool.and_eq_true] at hc
    split at h
    · rename_i cs hcs
      split at h
      · cases h
        rcases Zt0 hcs v hv with h1 | ⟨p,h1,h2⟩
        · exact ZlK (List.all_eq_true.1 hc.1 v (Zh1 h1))
        · unfold Zdi at h1
          obtain ⟨q,hq,rfl⟩:=List.mem_map.1 h1
          exact Zq3 hf (List.all_eq_true.1 hc.2 q hq) v h2
      · cases h
    · cases h
  case stb x =>
    split at h
    · cases h
      obtain ⟨b,_,rfl⟩:=List.mem_map.1 hv
      exact ⟨_,.int _ _⟩
    · cases h
  case make w bytes zero len =>
    split at h
    · split at h
      · cases h; exact ZlK (List.all_eq_true.1 hc v (Zh1 hv))
      · cases h
    · cases h
theorem Zl5 {xs ys:List Nat} (h:Zfx xs ys=false) {b:Nat} (h1:b ∈ xs):b ∉ ys:=by
  intro h2
  have:Zfx xs ys=true:=by
    unfold Zfx
    rw [List.any_eq_true]
    exact ⟨b,h1,by rw [List.any_eq_true]; exact ⟨b,h2,by simp⟩⟩
  rw [h] at this; cases this
def Zs5 (os:List AOper) (G:Nat→Mem) (b k:Nat) (q:AOper):Prop:=fin q.op (os.drop (k+1))=true∨(b < (G k).length→(G (k+1))[b]?=(G k)[b]?)
theorem ZxF {op:AOp} {os:List AOper} (h:fin op os=true):eff op=true:=by
  unfold fin at h
  cases op <;> simp [Zea,ZAW] at h <;> rfl
theorem Zrc {op:AOp} {os:List AOper} (h:fin op os=true):∀ p ∈ os,((!eff p.op || Zea p.op) && !mem p.op)=true:=by
  unfold fin at h
  rw [Bool.or_eq_true,Bool.and_eq_true,Bool.and_eq_true] at h
  rcases h with ⟨_,h⟩ | ⟨_,h⟩
  · exact List.all_eq_true.1 h
  · intro p hp
    have:=List.all_eq_true.1 h p hp
    cases hop:p.op <;> rw [hop] at this <;> simp [ZyV] at this
    rfl
theorem ZjU:∀ (R W:List Nat) (os:List AOper) (fr:List V) (M:Mem) (fr':List V) (M':Mem),JP call R W os fr M=some (fr',M') →
    ∃ (F:Nat→List V) (G:Nat→Mem) (val:Nat→V),F 0=fr∧G 0=M∧F os.length=fr'∧G os.length=M'∧(∀ (i:Nat) (o:AOper),os[i]?=some o →
      (G i).length≤(G (i+1)).length∧F (i+1)=JC (F i) o.dst (val i) ∧
      ((Zbh (F i) o.g=some true∧Ze call (F i) (G i) o.op=some (val i,G (i+1)))∨(Zbh (F i) o.g=some false∧val i=skp∧G (i+1)=G i))) ∧
      (∀ (k:Nat) (q:AOper),os[k]?=some q→∀ b ∈ R,Zs5 os G b k q) ∧
      (∀ (i:Nat) (o:AOper),os[i]?=some o→Zbh (F i) o.g=some true→∀ b ∈ rfp (F i) o.op,b ∉ W∧∀ (k:Nat) (q:AOper),os[k]?=some q→Zs5 os G b k q)
  | R,W,[],fr,M,fr',M',h=>by
    simp only [JP,Option.some.injEq,Prod.mk.injEq] at h
    obtain ⟨rfl,rfl⟩:=h
    exact ⟨fun _=>fr,fun _=>M,fun _=>O,rfl,rfl,rfl,rfl,fun i o ho=>by simp at ho,fun i o ho=>by simp at ho,fun i o ho=>by simp at ho⟩
  | R,W,o :: os,fr,M,fr',M',h=>by
    simp only [JP] at h
    split at h
    · rename_i hw
      split at h
      · cases h
      · rename_i hh
        have hh:Zfx (rfp fr o.op) W=false:=by simpa using hh
        split at h
        · rename_i v M1 hs
          obtain ⟨Wn,h,hlen,hzero⟩:∃ Wn,JP call (rfp fr o.op++R) (Wn++W) os (JC fr o.dst v) M1=some (fr',M')∧M.length≤M1.length∧∀ b,(b ∉ Wn∨b ∈ R)→fin o.op os=true∨(b < M.length→M1[b]?=M[b]?):=by
            split at h
            · rename_i hp
              refine ⟨_,h,?_,?_⟩
              · rcases hp with hp | hp | ⟨hp,_⟩ | ⟨_,hp⟩
                · exact hp.length_le
                · simp only [Bool.and_eq_true] at hp
                  exact Nat.le_of_eq (Zv7 hp.1 hs).symm
                · exact hp.1
                · exact hp
              · intro b hb
                rcases hp with hp | hp | ⟨hp,hr⟩ | ⟨hp,_⟩
                · exact .inr fun hlt=>ZFH hp hlt
                · exact .inl (by unfold fin; rw [hp]; rfl)
                rotate_left
                · exact .inl (by unfold fin; rw [hp,Bool.or_true])
                · refine .inr fun hlt=>hp.2 b hlt ?_
                  rcases hb with hb | hb
                  · exact hb
                  · exact fun hin=>Zl5 hr hin hb
            · split at h
              · rename_i hq
                obtain ⟨_,hp,hr⟩:=hq
                refine ⟨_,h,hp.1,fun b hb=>.inr fun hlt=>hp.2 b hlt ?_⟩
                rcases hb with hb | hb
                · exact hb
                · exact fun hin=>Zl5 hr hin hb
              · cases h
          · obtain ⟨F,G,val,f0,g0,f1,g1,h1,h2,h3⟩:=ZjU _ _ os _ _ _ _ h
            refine ⟨fun i=>match i with | 0=>fr | i+1=>F i,fun i=>match i with | 0=>M | i+1=>G i,fun i=>match i with | 0=>v | i+1=>val i,rfl,rfl,f1,g1,fun i p hp'=>?_,fun k q hq b hb=>?_,fun i p hp' hwp b hb=>?_⟩
            · cases i with
              | zero =>
                simp at hp'; subst hp'
                simp only [f0,g0]
                exact ⟨hlen,trivial,.inl ⟨hw,hs⟩⟩
              | succ i=>exact h1 i p (by simpa using hp')
            · cases k with
              | zero =>
                simp at hq; subst hq
                unfold Zs5
                simp only [g0]
                exact hzero b (.inr hb)
              | succ k=>exact h2 k q (by simpa using hq) b (List.mem_append_right _ hb)
            · cases i with
              | zero =>
                simp at hp'; subst hp'
                refine ⟨Zl5 hh hb,fun k q hq=>?_⟩
                cases k with
                | zero =>
                  simp at hq; subst hq
                  unfold Zs5
                  simp only [g0]
                  by_cases he:eff o.op=true
                  · exact absurd hb (by cases hop:o.op <;> rw [hop] at he <;> simp [eff] at he <;> simp [rfp])
                  · rw [ZlY (by simpa using he) hs]
                    exact .inr fun _=>rfl
                | succ k=>exact h2 k q (by simpa using hq) b (List.mem_append_left _ hb)
              | succ i =>
                obtain ⟨k1,k2⟩:=h3 i p (by simpa using hp') hwp b hb
                refine ⟨fun hin=>k1 (List.mem_append_right _ hin),fun k q hq=>?_⟩
                cases k with
                | zero =>
                  simp at hq; subst hq
                  unfold Zs5
                  simp only [g0]
                  exact hzero b (.inl fun hin=>k1 (List.mem_append_left _ hin))
                | succ k=>exact k2 k q (by simpa using hq)
        · cases h
    · rename_i hw
      obtain ⟨F,G,val,f0,g0,f1,g1,h1,h2,h3⟩:=ZjU _ _ os _ _ _ _ h
      have hsk:eff o.op=true→False∨True:=fun _=>.inr trivial
      refine ⟨fun i=>match i with | 0=>fr | i+1=>F i,fun i=>match i with | 0=>M | i+1=>G i,fun i=>match i with | 0=>skp | i+1=>val i,rfl,rfl,f1,g1,fun i p hp'=>?_,fun k q hq b hb=>?_,fun i p hp' hwp b hb=>?_⟩
      · cases i with
        | zero =>
          simp at hp'; subst hp'
          simp only [f0,g0]
          exact ⟨Nat.le_refl _,trivial,.inr ⟨hw,trivial,trivial⟩⟩
        | succ i=>exact h1 i p (by simpa using hp')
      · cases k with
        | zero=>simp at hq; subst hq; unfold Zs5; simp only [g0]; exact .inr fun _=>trivial
        | succ k=>exact h2 k q (by simpa using hq) b hb
      · cases i with
        | zero =>
          simp at hp'; subst hp'
          simp only at hwp
          rw [hw] at hwp; cases hwp
        | succ i =>
          obtain ⟨k1,k2⟩:=h3 i p (by simpa using hp') hwp b hb
          refine ⟨k1,fun k q hq=>?_⟩
          cases k with
          | zero=>simp at hq; subst hq; unfold Zs5; simp only [g0]; exact .inr fun _=>trivial
          | succ k=>exact k2 k q (by simpa using hq)
    · cases h
def ZdL (ops:Array Oper) (i:Nat):List Nat :=
  match ops[i]? with
  | some o=>(o.after.toList.filter (Region.binds .any)).map (·.on)
  | none=>[]
def ZBK (ops:Array Oper) (i:Nat):Nat:=(ZdL ops i).foldl (fun a m=>a ||| 1 <<< m) 0
def goM (ops:Array Oper):Nat→Nat→Nat
  | 0,S=>S
  | k+1,S=>goM ops k (if S.testBit k=true then S ||| ZBK ops k else S)
def Jn (ops:Array Oper) (_:Nat) (i j:Nat):Bool:=(goM ops i (ZBK ops i)).testBit j
theorem ZCl (l:List Nat):∀ (a j:Nat),(l.foldl (fun a m=>a ||| 1 <<< m) a).testBit j=true→a.testBit j=true∨j ∈ l:=by
  induction l with
  | nil=>intro a j h; exact .inl h
  | cons x l ih =>
    intro a j h
    rcases ih _ j h with h | h
    · rw [Nat.testBit_or,Bool.or_eq_true] at h
      rcases h with h | h
      · exact .inl h
      · rw [Nat.one_shiftLeft,Nat.testBit_two_pow] at h
        have:x=j:=by simpa using h
        exact .inr (by simp [this])
    · exact .inr (List.mem_cons_of_mem _ h)
theorem Zoa {ops:Array Oper} {i j:Nat} (h:(ZBK ops i).testBit j=true):j ∈ ZdL ops i:=by
  rcases ZCl _ _ _ h with h | h
  · simp at h
  · exact h
theorem ZsQ {ops:Array Oper} {Q:Nat→Prop} (hQ:∀ m j,Q m→j ∈ ZdL ops m→Q j):∀ (k S:Nat),(∀ j,S.testBit j=true→Q j)→∀ j,(goM ops k S).testBit j=true→Q j
  | 0,_,hS,j,h=>hS j h
  | k+1,S,hS,j,h=>by
    refine ZsQ hQ k _ (fun q hq=>?_) j h
    split at hq
    · rename_i hk
      rw [Nat.testBit_or,Bool.or_eq_true] at hq
      rcases hq with hq | hq
      · exact hS q hq
      · exact hQ k q (hS k hk) (Zoa hq)
    · exact hS q hq
def ZoP:Option (Nat × Bool)→List Nat
  | some (s,_)=>[s]
  | none=>[]
def Ztp (ops:Array Oper) (os:List AOper) (j:Nat) (reach:Nat→Bool):Bool:=(List.range ops.size).all fun i=>match os[i]? with
  | some p=>!(eff p.op && decide (i < j)) || reach i
  | none=>true
def ZEc (ops:Array Oper) (os:List AOper):Bool :=
  ops.size == os.length &&
  os.all (fun p=>isT p.op && ZFU p.op) &&
  (List.range ops.size).all (fun j=>match os[j]? with
    | some q=>!ZqH q.op || Ztp ops os j (fun i=>Jn ops ops.size j i) || (List.range ops.size).all fun r=>match os[r]?,q.dst with
      | some p,some d=>!(ZkG p.op++ZoP p.g).contains d || Ztp ops os j (fun i=>Jn ops ops.size r i)
      | _,_=>true
    | none=>true) &&
  (List.range ops.size).all fun i=>(ZdL ops i).all (fun j=>decide (j < i)) &&
    (List.range ops.size).all fun j=>match os[i]?,os[j]? with
      | some p,some q=>i == j ||
          ((match p.dst,q.dst with
            | some d,some e=>d != e
            | _,_=>true) &&
          (match q.dst with
            | some e=>!((ZkG p.op++ZoP p.g).contains e) || Jn ops ops.size i j || Jn ops ops.size j i
            | none=>true) &&
          (!(eff p.op && eff q.op && decide (i < j)) || ZqH q.op || Jn ops ops.size j i) &&
          (!(fin p.op (os.drop (i+1)) && mem q.op) || Jn ops ops.size i j))
      | _,_=>true
theorem ZfG {ops:Array Oper} (hd:∀ i j,j ∈ ZdL ops i→j < i) (k i j:Nat) (h:Jn ops k i j=true):j < i :=
  ZsQ (Q:=fun j=>j < i) (fun m j hm hj=>Nat.lt_trans (hd m j hj) hm) i _ (fun j hj=>hd i j (Zoa hj)) j h
def ZqP (ops:Array Oper) (listed:Array Bool):Prop:=∀ i j,listed.getD i false=true→j ∈ ZdL ops i→listed.getD j false=true
theorem ZgS {ops:Array Oper} {listed:Array Bool} (hc:ZqP ops listed) (k i j:Nat) (hi:∀ m ∈ ZdL ops i,listed.getD m false=true) (h:Jn ops k i j=true):listed.getD j false=true :=
  ZsQ (Q:=fun j=>listed.getD j false=true) (fun m j hm hj=>hc m j hm hj) i _ (fun j hj=>hi j (Zoa hj)) j h
theorem Zc0 (dst:Nat→Option Nat) (val:Nat→V):∀ (n:Nat) (F:Nat→List V),(∀ i,i < n→F (i+1)=JC (F i) (dst i) (val i)) →
    (F n).length=(F 0).length∧∀ t,(∀ i,i < n→dst i ≠ some t)→(F n)[t]?=(F 0)[t]?:=by
  intro n
  induction n with
  | zero=>intro F _; exact ⟨rfl,fun _ _=>rfl⟩
  | succ n ih =>
    intro F h
    obtain ⟨h1,h2⟩:=ih F (fun i hi=>h i (by omega))
    have e:=h n (by omega)
    refine ⟨?_,fun t ht=>?_⟩
    · rw [e]; cases dst n <;> simp [JC,h1]
    · rw [e]
      cases hd:dst n with
      | none=>simp only [JC]; exact h2 t (fun i hi=>ht i (by omega))
      | some d =>
        simp only [JC]
        rw [List.getElem?_set_ne (by intro e2; subst e2; exact ht n (by omega) hd)]
        exact h2 t (fun i hi=>ht i (by omega))
theorem Zln (dst:Nat→Option Nat) (val:Nat→V) {n:Nat} {F:Nat→List V} (h:∀ i,i < n→F (i+1)=JC (F i) (dst i) (val i))
    (hd:∀ i j,i < n→j < n→i ≠ j→∀ d,dst i=some d→dst j ≠ some d) {i m t:Nat} (hi:i < m) (hm:m≤n) (ht:dst i=some t):(F m)[t]?=if t < (F 0).length then some (val i) else none:=by
  have l0:=(Zc0 dst val i F (fun j hj=>h j (by omega))).1
  have e1:(F (i+1))[t]?=if t < (F 0).length then some (val i) else none:=by
    rw [h i (by omega),ht]
    simp only [JC,List.getElem?_set,if_true,l0]
  have key:∀ k,(F (i+1+k))[t]?=(F (i+1))[t]?∨¬ (i+1+k≤n):=by
    intro k
    induction k with
    | zero=>left; rfl
    | succ k ih =>
      by_cases hk:i+1+(k+1)≤n
      · left
        rcases ih with ih | ih
        · rw [← ih,show i+1+(k+1)=(i+1+k)+1 by omega,h (i+1+k) (by omega)]
          cases hdd:dst (i+1+k) with
          | none=>rfl
          | some d =>
            simp only [JC]
            rw [List.getElem?_set_ne]
            intro e2; subst e2
            exact hd i (i+1+k) (by omega) (by omega) (by omega) d ht hdd
        · omega
      · right; exact hk
  rcases key (m - (i+1)) with k | k
  · rw [show i+1+(m - (i+1))=m by omega] at k
    rw [k,e1]
  · omega
theorem Zra {P:Program} {ops:Array Oper}:∀ {l:List Oper} {os:List AOper},Zca P ops l os=true→l.length=os.length∧∀ (i:Nat) (o:Oper) (p:AOper),l[i]?=some o→os[i]?=some p→o.dst=p.dst∧ZM P o.op p.op=true∧Zl9 ops o.guard p.g=true
  | [],[],_=>⟨rfl,fun i o p h=>by simp at h⟩
  | [],_ :: _,h=>by simp [Zca] at h
  | _ :: _,[],h=>by simp [Zca] at h
  | o :: l,p :: os,h=>by
    simp only [Zca,Bool.and_eq_true] at h
    obtain ⟨⟨⟨h1,h2⟩,h3⟩,h4⟩:=h
    obtain ⟨e,r⟩:=Zra h4
    refine ⟨by simp [e],fun i x y hx hy=>?_⟩
    cases i with
    | zero=>simp at hx hy; subst hx; subst hy; exact ⟨by simpa using h1,h2,h3⟩
    | succ i=>exact r i x y (by simpa using hx) (by simpa using hy)
def ZwU (M:Mem):V→Prop
  | .pointer (some a)=>a.block < M.length
  | .slice (some a) _ _=>a.block < M.length
  | _=>True
theorem ZtO {ρ:List PB} {M:Mem} (hl:ρ.length=M.length) {v c:V} (h:VR ρ v c):ZwU M v:=by
  cases h <;> try trivial
  · rename_i p hp _; show _ < _; rw [← hl]; exact (List.getElem?_eq_some_iff.1 hp).1
  · rename_i p hp _; show _ < _; rw [← hl]; exact (List.getElem?_eq_some_iff.1 hp).1
theorem ZrK {fr fr':List V} {op:AOp} (h:∀ t ∈ ZkG op,fr[t]?=fr'[t]?):rfp fr op=rfp fr' op:=by
  cases op <;> simp only [ZkG,List.mem_append] at h
  case load1 x=>simp only [rfp,ZL h]
  case loadn n x=>simp only [rfp,ZL h]
  case bts x=>simp only [rfp,ZL h]
  case slc w x lo hi=>simp only [rfp,ZL (x:=x) fun t ht=>h t (.inl (.inl ht))]
  all_goals rfl
theorem Zxv {fr:List V} {M:Mem} {op:AOp} (ht:isT op=true) (hi:∀ n:Nat,ZwU M (fr.getD n O)):∀ b ∈ rfp fr op,b < M.length:=by
  intro b hb
  have hx:∀ k:Nat,ZwU M (ev fr (.t k)):=hi
  cases op <;> simp only [rfp,List.not_mem_nil] at hb
  case load1 x =>
    cases x with
    | c v=>simp [isT] at ht
    | t k =>
      have:=hx k
      split at hb
      · rename_i a he; rw [he] at this; simp at hb; subst hb; exact this
      · simp at hb
  case loadn n x =>
    cases x with
    | c v=>simp [isT] at ht
    | t k =>
      have:=hx k
      split at hb
      · rename_i a he; rw [he] at this; simp at hb; subst hb; exact this
      · simp at hb
  case bts x =>
    cases x with
    | c v=>simp [isT] at ht
    | t k =>
      have:=hx k
      split at hb
      · rename_i a n c he
        rw [he] at this
        split at hb
        · simp at hb
        · simp at hb; subst hb; exact this
      · simp at hb
  case slc w x lo hii =>
    cases x with
    | c v=>simp [isT] at ht
    | t k =>
      have:=hx k
      split at hb
      · rename_i a n c he; rw [he] at this; simp at hb; subst hb; exact this
      · simp at hb
theorem Zw {M N:Mem} {l:Nat} {b:Blk} (h:M[l]?=some b):(M++N)[l]?=some b:=JR (List.prefix_append _ _) h
theorem StR.commit {B:Nat→Nat} {ρ:List PB} {M:Mem} {w:World} (h:StR B ρ M w) {b:Blk} {p:PB} (hb:Zsf ρ w b p) (hw:p.w=b.w) (hv:p.void=false) (hB:B p.blk=0) (hs:b.st=2)
    (ha:∀ (l:Nat) (c:Blk) (q:PB),M[l]?=some c→ρ[l]?=some q→(c.st=1∨c.st=2)→p.blk ≠ q.blk):StR B (ρ++[p]) (M++[b]) w:=by
  have hpre:ρ <+: ρ++[p]:=List.prefix_append _ _
  have both:∀ (l:Nat) (c:Blk) (q:PB),(M++[b])[l]?=some c→(ρ++[p])[l]?=some q→(M[l]?=some c∧ρ[l]?=some q)∨(l=M.length∧c=b∧q=p):=by
    intro l c q hc hq
    rcases QF hc with ⟨hl,hc⟩ | ⟨hl,hc⟩
    · left; rcases QF hq with ⟨hl',hq⟩ | ⟨hl',hq⟩
      · exact ⟨hc,hq⟩
      · rw [h.len] at hl'; omega
    · right; rcases QF hq with ⟨hl',hq⟩ | ⟨hl',hq⟩
      · rw [h.len] at hl'; omega
      · exact ⟨hl,hc,hq⟩
  refine ⟨by simp [h.len],?_,?_,?_,?_,?_,?_⟩
  · intro l c q hc hq
    rcases both l c q hc hq with ⟨hc,hq⟩ | ⟨_,rfl,rfl⟩
    · exact h.wd l c q hc hq
    · exact hw
  · intro l c q hc hq h3
    rcases both l c q hc hq with ⟨hc,hq⟩ | ⟨_,rfl,rfl⟩
    · exact h.vd l c q hc hq h3
    · omega
  · intro l c q hc hq h3
    rcases both l c q hc hq with ⟨hc,hq⟩ | ⟨_,rfl,rfl⟩
    · exact ⟨(h.blk l c q hc hq h3).1,(h.blk l c q hc hq h3).2.mono hpre rfl⟩
    · exact ⟨hv,hb.mono hpre rfl⟩
  · intro l c q hc hq h3
    rcases both l c q hc hq with ⟨hc,hq⟩ | ⟨_,rfl,rfl⟩
    · exact h.own l c q hc hq h3
    · exact hB
  · intro l c q hc hq h3
    rcases both l c q hc hq with ⟨hc,hq⟩ | ⟨_,rfl,rfl⟩
    · exact h.ro l c q hc hq h3
    · omega
  · intro l l' c c' q q' hne hc hc' hq hq' h2 h2'
    rcases both l c q hc hq with ⟨hc1,hq1⟩ | ⟨hl,e1,e2⟩ <;> rcases both l' c' q' hc' hq' with ⟨hc2,hq2⟩ | ⟨hl',e3,e4⟩
    · exact h.apart l l' c c' q q' hne hc1 hc2 hq1 hq2 h2 h2'
    · rw [e4]; exact fun e=>ha l c q hc1 hq1 (.inr h2) e.symm
    · rw [e2]; exact ha l' c' q' hc2 hq2 h2'
    · omega
theorem VRl.put {ρ:List PB} {as bs:List V} (h:VRl ρ as bs) {t:Nat} {v c:V} (hc:bs[t]?=some c) (hv:VR ρ v c):VRl ρ (as.set t v) bs:=by
  refine ⟨by simp [h.1],fun i x y hx hy=>?_⟩
  rw [List.getElem?_set] at hx
  by_cases e:t=i
  · subst e
    rw [if_pos rfl] at hx
    split at hx
    · cases hx; rw [hc] at hy; cases hy; exact hv
    · cases hx
  · rw [if_neg e] at hx
    exact h.2 i x y hx hy
theorem ZeS {a:Act} {d:Option Nat} {c:V} {t:Nat} (h:d ≠ some t):(a.put d c).tmps[t]?=a.tmps[t]?:=by
  cases d with
  | none=>rfl
  | some k =>
    show (a.tmps.setIfInBounds k c)[t]?=_
    rw [Array.getElem?_setIfInBounds_ne (by intro e; subst e; exact h rfl)]
theorem Zts {a:Act} {c:V} {t:Nat} (h:t < a.tmps.size):(a.put (some t) c).tmps[t]?=some c:=by
  show (a.tmps.setIfInBounds t c)[t]?=_
  rw [Array.getElem?_setIfInBounds_self_of_lt h]
def Zio (F:Nat→List V) (listed:Nat→Bool) (m k:Nat) (o:AOper):Prop:=listed k=true∧m≤k∧eff o.op=true∧Zbh (F k) o.g=some true
structure Inv (B:Nat→Nat) (w0:World) (os:List AOper) (fr:List V) (F:Nat→List V) (G:Nat→Mem) (val:Nat→V) (ρ0:List PB) (a:Act) (listed:Nat→Bool) (a':Act) (w':World) (ρ':List PB) (FS:List V) (m:Nat) (pl:Nat→PB):Prop where
  le:m≤os.length
  ef:∀ (k:Nat) (o:AOper),os[k]?=some o→eff o.op=true→k < m→listed k=true
  al:∀ (k:Nat) (o:AOper),os[k]?=some o→Zio F listed m k o→ZqH o.op=true
  frr:FR ρ' FS a'
  fl:FS.length=fr.length
  fn:∀ t,(∀ (k:Nat) (o:AOper),os[k]?=some o→listed k=true→o.dst ≠ some t)→FS[t]?=fr[t]?
  fy:∀ (k:Nat) (o:AOper) (t:Nat),os[k]?=some o→listed k=true→o.dst=some t→¬ Zio F listed m k o→FS[t]?=if t < fr.length then some (val k) else none
  fu:∀ (k:Nat) (o:AOper) (t:Nat),os[k]?=some o→Zio F listed m k o→o.dst=some t→t < fr.length→∃ c,a'.tmps[t]?=some c∧∀ r,Q4 (F k) o.op=some r→∀ (ρ2:List PB) (l:Nat),ρ2[l]?=some (pl k)→VR ρ2 (r.2 l) c
  st:StR B ρ' (G m) w'
  kp:Kept B w0 w'
  pre:ρ0 <+: ρ'
  df:a'.defers=a.defers
  pb:∀ (k:Nat) (o:AOper) (r:Blk × (Nat→V)),os[k]?=some o→Zio F listed m k o→Q4 (F k) o.op=some r→Zsf ρ' w' r.1 (pl k)∧(pl k).w=r.1.w∧(pl k).void=false∧B (pl k).blk=0 ∧
    ∀ (l:Nat) (b:Blk) (q:PB),(G m)[l]?=some b→ρ'[l]?=some q→(b.st=1∨b.st=2)→(pl k).blk ≠ q.blk
  pd:∀ (k j:Nat) (o q:AOper),os[k]?=some o→os[j]?=some q→Zio F listed m k o→Zio F listed m j q→k ≠ j→(pl k).blk ≠ (pl j).blk
section
variable {B:Nat→Nat} {w0:World} {os:List AOper} {fr:List V} {F:Nat→List V} {G:Nat→Mem} {val:Nat→V} {ρ0:List PB} {a:Act} {listed:Nat→Bool} {a':Act} {w':World} {ρ':List PB} {FS:List V} {m:Nat} {pl:Nat→PB}
theorem Zcb {k:Nat} {o:AOper} (h:Zio F listed (m+1) k o):Zio F listed m k o:=⟨h.1,by have:=h.2.1; omega,h.2.2.1,h.2.2.2⟩
theorem Inv.step (h:Inv B w0 os fr F G val ρ0 a listed a' w' ρ' FS m pl)
    (hstep:∀ (i:Nat) (o:AOper),os[i]?=some o→(Zbh (F i) o.g=some true∧Ze call (F i) (G i) o.op=some (val i,G (i+1)))∨(Zbh (F i) o.g=some false∧val i=skp∧G (i+1)=G i))
    (hdd:∀ (i j:Nat) (p q:AOper),os[i]?=some p→os[j]?=some q→i ≠ j→∀ d,p.dst=some d→q.dst ≠ some d)
    {o:AOper} (ho:os[m]?=some o) (hm:eff o.op=false∨listed m=true):∃ (ρ2:List PB) (FS2:List V),Inv B w0 os fr F G val ρ0 a listed a' w' ρ2 FS2 (m+1) pl:=by
  have hlt:=(List.getElem?_eq_some_iff.1 ho).1
  by_cases hp:Zio F listed m m o
  · -- it waits
    have hal:=h.al m o ho hp
    have hs:Ze call (F m) (G m) o.op=some (val m,G (m+1)):=by
      rcases hstep m o ho with ⟨_,h1⟩ | ⟨h1,_⟩
      · exact h1
      · rw [hp.2.2.2] at h1; cases h1
    rw [Zf0 hal] at hs
    cases hr:Q4 (F m) o.op with
    | none=>rw [hr] at hs; cases hs
    | some r =>
      rw [hr] at hs
      simp only [Option.map_some,Option.some.injEq,Prod.mk.injEq] at hs
      obtain ⟨hv,hG⟩:=hs
      obtain ⟨b1,b2,b3,b4,b5⟩:=h.pb m o r ho hp hr
      have hpre:ρ' <+: ρ'++[pl m]:=List.prefix_append _ _
      have hat:(ρ'++[pl m])[(G m).length]?=some (pl m):=by rw [← h.st.len]; simp
      have hne:∀ k q,os[k]?=some q→Zio F listed (m+1) k q→k ≠ m:=fun k q _ hq e=>by have:=hq.2.1; omega
      refine ⟨ρ'++[pl m],JC FS o.dst (val m),⟨hlt,?_,?_,?_,?_,?_,?_,?_,?_,h.kp,h.pre.trans hpre,h.df,?_,?_⟩⟩
      · intro k q hq he hk
        by_cases e:k=m
        · subst e; exact hp.1
        · exact h.ef k q hq he (by omega)
      · exact fun k q hq hk=>h.al k q hq (Zcb hk)
      · cases hd:o.dst with
        | none=>exact h.frr.mono hpre
        | some t =>
          by_cases ht:t < fr.length
          · obtain ⟨c,c1,c2⟩:=h.fu m o t ho hp hd ht
            refine VRl.put (h.frr.mono hpre) (by rw [Array.getElem?_toList]; exact c1) ?_
            rw [← hv]
            exact c2 r hr _ _ hat
          · show FR _ (FS.set t (val m)) a'
            rw [List.set_eq_of_length_le (by rw [h.fl]; omega)]
            exact h.frr.mono hpre
      · cases o.dst <;> simp [JC,h.fl]
      · intro t ht
        have h1:=ht m o ho hp.1
        have h2:=h.fn t ht
        cases hd:o.dst with
        | none=>exact h2
        | some d =>
          simp only [JC]
          rw [List.getElem?_set_ne (by intro e; subst e; exact h1 hd)]
          exact h2
      · intro k q t hq hl hqt hnp
        by_cases e:k=m
        · subst e
          rw [ho] at hq; cases hq
          rw [hqt]
          simp only [JC,List.getElem?_set,if_true,h.fl]
        · have h2:=h.fy k q t hq hl hqt (fun hk=>hnp ⟨hk.1,by have:=hk.2.1; omega,hk.2.2.1,hk.2.2.2⟩)
          cases hd:o.dst with
          | none=>exact h2
          | some d =>
            simp only [JC]
            rw [List.getElem?_set_ne]
            · exact h2
            · intro e2; subst e2
              exact hdd k m q o hq ho e d hqt hd
      · intro k q t hq hk hqt htl
        exact h.fu k q t hq (Zcb hk) hqt htl
      · rw [← hG]
        exact h.st.commit b1 b2 b3 b4 (ZtW hr) b5
      · intro k q r' hq hk hr'
        obtain ⟨c1,c2,c3,c4,c5⟩:=h.pb k q r' hq (Zcb hk) hr'
        refine ⟨c1.mono hpre rfl,c2,c3,c4,?_⟩
        intro l b p hb hpp hst
        rw [← hG] at hb
        rcases QF hb with ⟨hl,hb⟩ | ⟨hl,hb⟩
        · rw [List.getElem?_append_left (by rw [h.st.len]; exact hl)] at hpp
          exact c5 l b p hb hpp hst
        · subst hl
          rw [hat] at hpp; cases hpp
          exact h.pd k m q o hq ho (Zcb hk) hp (hne k q hq hk)
      · exact fun k j p q hk hj h1 h2=>h.pd k j p q hk hj (Zcb h1) (Zcb h2)
  · -- nothing is to do
    have hGe:G (m+1)=G m:=by
      rcases hstep m o ho with ⟨h0,h1⟩ | ⟨_,_,h1⟩
      · by_cases he:eff o.op=true
        · exact absurd ⟨hm.resolve_left (by simp [he]),Nat.le_refl _,he,h0⟩ hp
        · exact ZlY (by simpa using he) h1
      · exact h1
    have up:∀ k q,os[k]?=some q→Zio F listed m k q→Zio F listed (m+1) k q:=by
      intro k q hq hk
      refine ⟨hk.1,?_,hk.2.2.1,hk.2.2.2⟩
      by_cases e:k=m
      · subst e; rw [ho] at hq; cases hq; exact absurd hk hp
      · have:=hk.2.1; omega
    refine ⟨ρ',FS,⟨hlt,?_,fun k q hq hk=>h.al k q hq (Zcb hk),h.frr,h.fl,h.fn,?_,fun k q t hq hk=>h.fu k q t hq (Zcb hk),by rw [hGe]; exact h.st,h.kp,h.pre,h.df,?_,fun k j p q hk hj h1 h2=>h.pd k j p q hk hj (Zcb h1) (Zcb h2)⟩⟩
    · intro k q hq he hk
      by_cases e:k=m
      · subst e; rw [ho] at hq; cases hq; exact hm.resolve_left (by simp [he])
      · exact h.ef k q hq he (by omega)
    · exact fun k q t hq hl hqt hnp=>h.fy k q t hq hl hqt (fun hk=>hnp (up k q hq hk))
    · intro k q r hq hk hr
      rw [hGe]
      exact h.pb k q r hq (Zcb hk) hr
theorem Inv.on (hstep:∀ (i:Nat) (o:AOper),os[i]?=some o→(Zbh (F i) o.g=some true∧Ze call (F i) (G i) o.op=some (val i,G (i+1)))∨(Zbh (F i) o.g=some false∧val i=skp∧G (i+1)=G i))
    (hdd:∀ (i j:Nat) (p q:AOper),os[i]?=some p→os[j]?=some q→i ≠ j→∀ d,p.dst=some d→q.dst ≠ some d) :
    ∀ (d:Nat) (ρ':List PB) (FS:List V) (m:Nat),os.length - m≤d→Inv B w0 os fr F G val ρ0 a listed a' w' ρ' FS m pl →
    ∃ (ρ2:List PB) (FS2:List V) (m2:Nat),Inv B w0 os fr F G val ρ0 a listed a' w' ρ2 FS2 m2 pl∧(m2=os.length∨∃ o,os[m2]?=some o∧eff o.op=true∧listed m2=false)
  | 0,ρ',FS,m,hd,h=>⟨ρ',FS,m,h,.inl (by have:=h.le; omega)⟩
  | d+1,ρ',FS,m,hd,h=>by
    by_cases hm:m=os.length
    · exact ⟨ρ',FS,m,h,.inl hm⟩
    · have hlt:m < os.length:=by have:=h.le; omega
      obtain ⟨o,ho⟩:∃ o,os[m]?=some o:=⟨os[m],by simp [hlt]⟩
      by_cases hc:eff o.op=true∧listed m=false
      · exact ⟨ρ',FS,m,h,.inr ⟨o,ho,hc⟩⟩
      · have hm2:eff o.op=false∨listed m=true:=by
          cases h1:eff o.op
          · exact .inl rfl
          · cases h2:listed m
            · exact absurd ⟨h1,h2⟩ hc
            · exact .inr rfl
        obtain ⟨ρ2,FS2,h2⟩:=h.step hstep hdd ho hm2
        exact Inv.on hstep hdd d ρ2 FS2 (m+1) (by omega) h2
open Classical in
noncomputable def Znj (B:Nat→Nat) (os:List AOper) (F:Nat→List V) (listed:Nat→Bool) (m:Nat) (pl:Nat→PB):Nat→Nat:=fun k=>if ∃ j o,os[j]?=some o∧Zio F listed m j o∧(pl j).blk=k then 2 else B k
theorem Zom {j:Nat} {o:AOper} (ho:os[j]?=some o) (h:Zio F listed m j o):Znj B os F listed m pl (pl j).blk=2:=if_pos ⟨j,o,ho,h,rfl⟩
theorem ZsV {k:Nat} (h:Znj B os F listed m pl k ≠ 2):∀ j o,os[j]?=some o→Zio F listed m j o→(pl j).blk ≠ k:=fun j o ho hp e=>h (by subst e; exact Zom ho hp)
theorem Zgu {k:Nat} (h:B k ≠ 0):Znj B os F listed m pl k ≠ 0:=by
  unfold Znj
  split
  · decide
  · exact h
theorem Znk {k:Nat} (h:Znj B os F listed m pl k ≠ 2):B k=Znj B os F listed m pl k:=by
  unfold Znj at h ⊢
  split
  · rename_i hc; rw [if_pos hc] at h; exact absurd rfl h
  · rfl
theorem Inv.block (h:Inv B w0 os fr F G val ρ0 a listed a' w' ρ' FS m pl)
    (hstep:∀ (i:Nat) (o:AOper),os[i]?=some o→(Zbh (F i) o.g=some true∧Ze call (F i) (G i) o.op=some (val i,G (i+1)))∨(Zbh (F i) o.g=some false∧val i=skp∧G (i+1)=G i))
    {k:Nat} {o:AOper} (ho:os[k]?=some o) (hp:Zio F listed m k o):∃ r,Q4 (F k) o.op=some r:=by
  have hal:=h.al k o ho hp
  rcases hstep k o ho with ⟨_,h1⟩ | ⟨h1,_⟩
  · rw [Zf0 hal] at h1
    cases hr:Q4 (F k) o.op with
    | none=>rw [hr] at h1; cases h1
    | some r=>exact ⟨r,rfl⟩
  · rw [hp.2.2.2] at h1; cases h1
theorem Inv.colours (h:Inv B w0 os fr F G val ρ0 a listed a' w' ρ' FS m pl) (hB:Inn B w0)
    (hstep:∀ (i:Nat) (o:AOper),os[i]?=some o→(Zbh (F i) o.g=some true∧Ze call (F i) (G i) o.op=some (val i,G (i+1)))∨(Zbh (F i) o.g=some false∧val i=skp∧G (i+1)=G i)) :
    Inn (Znj B os F listed m pl) w'∧StR (Znj B os F listed m pl) ρ' (G m) w':=by
  have apart:∀ (l:Nat) (b:Blk) (q:PB),(G m)[l]?=some b→ρ'[l]?=some q→(b.st=1∨b.st=2)→Znj B os F listed m pl q.blk=B q.blk:=by
    intro l b q hb hq hs
    unfold Znj
    rw [if_neg]
    rintro ⟨j,o,ho,hp,e⟩
    obtain ⟨r,hr⟩:=h.block hstep ho hp
    exact (h.pb j o r ho hp hr).2.2.2.2 l b q hb hq hs e
  refine ⟨fun k hk=>?_,⟨h.st.len,h.st.wd,h.st.vd,h.st.blk,?_,?_,h.st.apart⟩⟩
  · by_cases hc:Znj B os F listed m pl k=2
    · unfold Znj at hc
      split at hc
      · rename_i hx
        obtain ⟨j,o,ho,hp,rfl⟩:=hx
        obtain ⟨r,hr⟩:=h.block hstep ho hp
        obtain ⟨⟨cs,T,f,e,_⟩,_⟩:=h.pb j o r ho hp hr
        exact (Array.getElem?_eq_some_iff.1 e).1
      · exact h.kp.inn hB k (by omega)
    · rw [← Znk hc] at hk
      exact h.kp.inn hB k hk
  · intro l b q hb hq hs
    rw [apart l b q hb hq (.inr hs)]
    exact h.st.own l b q hb hq hs
  · intro l b q hb hq hs
    rw [apart l b q hb hq (.inl hs)]
    exact h.st.ro l b q hb hq hs
theorem Zdl {ρ2:List PB} {M2:Mem} {w2:World} (h:StR (Znj B os F listed m pl) ρ2 M2 w2):StR B ρ2 M2 w2 ∧
    ∀ (k:Nat) (o:AOper),os[k]?=some o→Zio F listed m k o→∀ (l:Nat) (b:Blk) (q:PB),M2[l]?=some b→ρ2[l]?=some q→(b.st=1∨b.st=2)→(pl k).blk ≠ q.blk:=by
  have ne:∀ (l:Nat) (b:Blk) (q:PB),M2[l]?=some b→ρ2[l]?=some q→(b.st=1∨b.st=2)→Znj B os F listed m pl q.blk ≠ 2:=by
    intro l b q hb hq hs
    rcases hs with hs | hs
    · rw [h.ro l b q hb hq hs]; decide
    · rw [h.own l b q hb hq hs]; decide
  refine ⟨⟨h.len,h.wd,h.vd,h.blk,?_,?_,h.apart⟩,?_⟩
  · intro l b q hb hq hs
    rw [Znk (ne l b q hb hq (.inr hs))]
    exact h.own l b q hb hq hs
  · intro l b q hb hq hs
    rw [Znk (ne l b q hb hq (.inl hs))]
    exact h.ro l b q hb hq hs
  · intro k o ho hp l b q hb hq hs
    exact ZsV (ne l b q hb hq hs) k o ho hp
end
section
variable {B:Nat→Nat} {w0:World} {os:List AOper} {fr:List V} {F:Nat→List V} {G:Nat→Mem} {val:Nat→V} {ρ0:List PB} {a:Act} {listed listed':Nat→Bool} {a':Act} {w':World} {ρ':List PB} {FS:List V} {m:Nat} {pl:Nat→PB}
theorem Znw {d:Option Nat} {v:V} {t:Nat} (h:d ≠ some t):(JC FS d v)[t]?=FS[t]?:=by
  cases d with
  | none=>rfl
  | some d =>
    simp only [JC]
    rw [List.getElem?_set_ne (by intro e; subst e; exact h rfl)]
theorem Inv.op (h:Inv B w0 os fr F G val ρ0 a listed a' w' ρ' FS m pl)
    (hdd:∀ (i j:Nat) (p q:AOper),os[i]?=some p→os[j]?=some q→i ≠ j→∀ d,p.dst=some d→q.dst ≠ some d)
    {i:Nat} {o:AOper} (ho:os[i]?=some o) (hli:listed' i=true) (hl1:∀ k,k ≠ i→listed' k=listed k) {m1:Nat} (hm1:(m1=m∧(eff o.op=false∨Zbh (F i) o.g ≠ some true))∨(m1=m+1∧i=m))
    {ρ2:List PB} {w2:World} {c:V} (q1:ρ' <+: ρ2) (q2:StR B ρ2 (G m1) w2) (q3:Kept (Znj B os F listed m pl) w' w2) (q4:VR ρ2 (val i) c) (kp:Kept B w0 w2)
    (hap:∀ (k:Nat) (o:AOper),os[k]?=some o→Zio F listed m k o→∀ (l:Nat) (b:Blk) (q:PB),(G m1)[l]?=some b→ρ2[l]?=some q→(b.st=1∨b.st=2)→(pl k).blk ≠ q.blk) :
    Inv B w0 os fr F G val ρ0 a listed' (a'.put o.dst c) w2 ρ2 (JC FS o.dst (val i)) m1 pl:=by
  have hlt:=(List.getElem?_eq_some_iff.1 ho).1
  have hni:∀ k q,os[k]?=some q→Zio F listed' m1 k q→k ≠ i:=by
    rintro k q hq hp rfl
    rw [ho] at hq; cases hq
    rcases hm1 with ⟨rfl,he | he⟩ | ⟨rfl,rfl⟩
    · rw [hp.2.2.1] at he; cases he
    · exact he hp.2.2.2
    · have:=hp.2.1; omega
  have dn:∀ k q,os[k]?=some q→Zio F listed' m1 k q→Zio F listed m k q:=by
    intro k q hq hp
    have hk:=hni k q hq hp
    refine ⟨by rw [← hl1 k hk]; exact hp.1,?_,hp.2.2.1,hp.2.2.2⟩
    have:=hp.2.1
    rcases hm1 with ⟨rfl,_⟩ | ⟨rfl,_⟩ <;> omega
  have up:∀ k q,os[k]?=some q→k ≠ i→Zio F listed m k q→Zio F listed' m1 k q:=by
    intro k q hq hk hp
    refine ⟨by rw [hl1 k hk]; exact hp.1,?_,hp.2.2.1,hp.2.2.2⟩
    have:=hp.2.1
    rcases hm1 with ⟨rfl,_⟩ | ⟨rfl,rfl⟩ <;> omega
  refine ⟨?_,?_,fun k q hq hp=>h.al k q hq (dn k q hq hp),ZiX (h.frr.mono q1) q4 _,?_,?_,?_,?_,q2,kp,h.pre.trans q1,by rw [GoAm.put_defers]; exact h.df,?_,fun k j p q hk hj h1 h2=>h.pd k j p q hk hj (dn k p hk h1) (dn j q hj h2)⟩
  · have:=h.le
    rcases hm1 with ⟨rfl,_⟩ | ⟨rfl,rfl⟩ <;> omega
  · intro k q hq he hk
    by_cases e:k=i
    · subst e; exact hli
    · rw [hl1 k e]
      exact h.ef k q hq he (by rcases hm1 with ⟨rfl,_⟩ | ⟨rfl,rfl⟩ <;> omega)
  · cases o.dst <;> simp [JC,h.fl]
  · intro t ht
    rw [Znw (ht i o ho hli)]
    exact h.fn t fun k q hq hl=>by
      by_cases e:k=i
      · subst e; rw [ho] at hq; cases hq; exact ht k _ ho hli
      · exact ht k q hq (by rw [hl1 k e]; exact hl)
  · intro k q t hq hl hqt hnp
    by_cases e:k=i
    · subst e
      rw [ho] at hq; cases hq
      rw [hqt]
      simp only [JC,List.getElem?_set,if_true,h.fl]
    · rw [Znw (fun e2=>hdd k i q o hq ho e t hqt e2)]
      exact h.fy k q t hq (by rw [← hl1 k e]; exact hl) hqt (fun hp=>hnp (up k q hq e hp))
  · intro k q t hq hp hqt htl
    have e:=hni k q hq hp
    obtain ⟨c0,c1,c2⟩:=h.fu k q t hq (dn k q hq hp) hqt htl
    exact ⟨c0,by rw [ZeS (fun e2=>hdd k i q o hq ho e t hqt e2)]; exact c1,c2⟩
  · intro k q r hq hp hr
    obtain ⟨b1,b2,b3,b4,_⟩:=h.pb k q r hq (dn k q hq hp) hr
    exact ⟨b1.mono q1 (q3.block _ (by rw [Zom hq (dn k q hq hp)]; decide)),b2,b3,b4,hap k q hq (dn k q hq hp)⟩
theorem Zlq {fr fr':List V} {op:AOp} (h:∀ t ∈ ZkG op,fr[t]?=fr'[t]?):Q4 fr op=Q4 fr' op:=by
  cases op <;> simp only [ZkG] at h
  case box x=>simp only [Q4,ZL h]
  case mkl w n z ps=>simp only [Q4,Zf9 h]
  case stb x=>simp only [Q4,ZL h]
  case make w b z x=>simp only [Q4,ZL h]
  all_goals rfl
theorem Inv.early (h:Inv B w0 os fr F G val ρ0 a listed a' w' ρ' FS m pl)
    (hdd:∀ (i j:Nat) (p q:AOper),os[i]?=some p→os[j]?=some q→i ≠ j→∀ d,p.dst=some d→q.dst ≠ some d)
    {i:Nat} {o:AOper} (ho:os[i]?=some o) (hli:listed' i=true) (hl0:listed i=false) (hl1:∀ k,k ≠ i→listed' k=listed k) (hmi:m≤i) (hal:ZqH o.op=true) (hw:Zbh (F i) o.g=some true) (hcl:ZFU o.op=true)
    {r:Blk × (Nat→V)} (hr:Q4 (F i) o.op=some r) (hr2:Q4 FS o.op=some r)
    {ρ2:List PB} {w2:World} {c:V} (q1:ρ' <+: ρ2) (q2:StR (Znj B os F listed m pl) ρ2 (G m++[r.1]) w2) (q3:Kept (Znj B os F listed m pl) w' w2) (q4:VR ρ2 (r.2 (G m).length) c) (kp:Kept B w0 w2) :
    ∃ pl',Inv B w0 os fr F G val ρ0 a listed' (a'.put o.dst c) w2 ρ' (JC FS o.dst O) m pl':=by
  have he:eff o.op=true:=by cases hop:o.op <;> rw [hop] at hal <;> simp [ZqH] at hal <;> rfl
  have hat:(G m++[r.1])[(G m).length]?=some r.1:=by simp
  obtain ⟨p,hp⟩:=q2.at hat
  have hst:=ZtW hr
  obtain ⟨hv,hblk⟩:=q2.blk _ _ _ hat hp (.inr hst)
  have hcol:=q2.own _ _ _ hat hp hst
  have hb0:B p.blk=0:=by
    have h2:=Znk (B:=B) (os:=os) (F:=F) (listed:=listed) (m:=m) (pl:=pl) (k:=p.blk) (by rw [hcol]; decide)
    rw [h2]; exact hcol
  have hpn:∀ j q,os[j]?=some q→Zio F listed m j q→(pl j).blk ≠ p.blk:=ZsV (by rw [hcol]; decide)
  have hblk':Zsf ρ' w2 r.1 p:=by
    obtain ⟨cs,T,f,g1,g2,g3,g4,g5⟩:=hblk
    refine ⟨cs,T,f,g1,g2,g3,fun k v hk=>?_,g5⟩
    obtain ⟨x1,x,x2,x3⟩:=g4 k v hk
    obtain ⟨c0,hc0⟩:=Zs4 h.frr hcl hr2 v (List.mem_of_getElem? hk)
    exact ⟨x1,x,x2,ZG0 q1 hc0 x3⟩
  have hst2:StR B ρ' (G m) w2:=h.st.gc q1 (Zdl q2).1
  have hapn:∀ (l:Nat) (b:Blk) (q:PB),(G m)[l]?=some b→ρ'[l]?=some q→(b.st=1∨b.st=2)→p.blk ≠ q.blk:=by
    intro l b q hb hq hs
    have hl:=(List.getElem?_eq_some_iff.1 hb).1
    exact q2.apart _ l r.1 b p q (by omega) hat (Zw hb) hp (JR q1 hq) hst hs
  have dn:∀ k q,os[k]?=some q→k ≠ i→Zio F listed' m k q→Zio F listed m k q:=fun k q _ hk hp=>⟨by rw [← hl1 k hk]; exact hp.1,hp.2.1,hp.2.2.1,hp.2.2.2⟩
  refine ⟨fun k=>if k=i then p else pl k,?_⟩
  refine ⟨h.le,?_,?_,ZiX h.frr (.O _) _,?_,?_,?_,?_,hst2,kp,h.pre,by rw [GoAm.put_defers]; exact h.df,?_,?_⟩
  · intro k q hq he hk
    rw [hl1 k (by omega)]
    exact h.ef k q hq he hk
  · intro k q hq hp
    by_cases e:k=i
    · subst e; rw [ho] at hq; cases hq; exact hal
    · exact h.al k q hq (dn k q hq e hp)
  · cases o.dst <;> simp [JC,h.fl]
  · intro t ht
    rw [Znw (ht i o ho hli)]
    exact h.fn t fun k q hq hl=>by
      by_cases e:k=i
      · subst e; rw [hl0] at hl; cases hl
      · exact ht k q hq (by rw [hl1 k e]; exact hl)
  · intro k q t hq hl hqt hnp
    by_cases e:k=i
    · subst e
      rw [ho] at hq; cases hq
      exact absurd ⟨hl,hmi,he,hw⟩ hnp
    · rw [Znw (fun e2=>hdd k i q o hq ho e t hqt e2)]
      exact h.fy k q t hq (by rw [← hl1 k e]; exact hl) hqt (fun hp=>hnp ⟨hl,hp.2.1,hp.2.2.1,hp.2.2.2⟩)
  · intro k q t hq hp' hqt htl
    by_cases e:k=i
    · subst e
      rw [ho] at hq; cases hq
      rw [hqt]
      refine ⟨c,Zts ?_,?_⟩
      · have:=h.frr.1
        rw [h.fl] at this
        simp at this
        omega
      · intro r0 hr0 ρ3 l hl
        rw [hr] at hr0; cases hr0
        rw [if_pos rfl] at hl
        exact ZzE hr q4 hp ρ3 l hl
    · obtain ⟨c0,c1,c2⟩:=h.fu k q t hq (dn k q hq e hp') hqt htl
      refine ⟨c0,by rw [ZeS (fun e2=>hdd k i q o hq ho e t hqt e2)]; exact c1,?_⟩
      rw [if_neg e]
      exact c2
  · intro k q r0 hq hp' hr0
    by_cases e:k=i
    · subst e
      rw [ho] at hq; cases hq
      rw [hr] at hr0; cases hr0
      rw [if_pos rfl]
      exact ⟨hblk',q2.wd _ _ _ hat hp,hv,hb0,hapn⟩
    · rw [if_neg e]
      obtain ⟨b1,b2,b3,b4,b5⟩:=h.pb k q r0 hq (dn k q hq e hp') hr0
      exact ⟨b1.mono (List.prefix_refl _) (q3.block _ (by rw [Zom hq (dn k q hq e hp')]; decide)),b2,b3,b4,b5⟩
  · intro k j x y hk hj h1 h2 hne
    by_cases e:k=i
    · have e2:j ≠ i:=fun e2=>hne (by rw [e,e2])
      rw [if_pos e,if_neg e2]
      exact fun e3=>hpn j y hj (dn j y hj e2 h2) e3.symm
    · rw [if_neg e]
      by_cases e2:j=i
      · rw [if_pos e2]
        exact hpn k x hk (dn k x hk e h1)
      · rw [if_neg e2]
        exact h.pd k j x y hk hj (dn k x hk e h1) (dn j y hj e2 h2) hne
end
theorem Zns {ops:Array Oper} {os:List AOper} {j:Nat} {R:Nat→Bool} (h:Ztp ops os j R=true) {i:Nat} {p:AOper} (hp:os[i]?=some p) (hi:i < ops.size) (he:eff p.op=true) (hij:i < j):R i=true:=by
  unfold Ztp at h
  have:=List.all_eq_true.1 h i (List.mem_range.2 hi)
  rw [hp] at this
  simpa [he,hij] using this
theorem ZuD {P:Program} {B:Nat→Nat} {w0:World} (hm:P.follows .mixedOrders=true) (hcalls:Zmu P call) (hB:Inn B w0):Zkf P B w0 call (fun ops os=>Zca P ops ops.toList os && ZEc ops os):=by
  intro id ops os ρ M M' fr fr' a w Q hdr hD hs hb hf hQ
  have hok:Zca P ops ops.toList os=true:=(Bool.and_eq_true _ _ ▸ hdr).1
  have hdr:ZEc ops os=true:=(Bool.and_eq_true _ _ ▸ hdr).2
  obtain ⟨F,G,val,f0,g0,f1,g1,hst0,_,hfp⟩:=ZjU [] [] os fr M fr' M' hD
  obtain ⟨hlen,hget⟩:=Zra hok
  have hn:ops.size=os.length:=by simpa using hlen
  unfold ZEc at hdr
  simp only [Bool.and_eq_true,List.all_eq_true,List.mem_range,decide_eq_true_eq] at hdr
  obtain ⟨⟨⟨_,hisT⟩,hlate⟩,hdr⟩:=hdr
  let dst:Nat→Option Nat:=fun i=>(os[i]?).bind (·.dst)
  have hos:∀ i,i < os.length→∃ p,os[i]?=some p:=fun i hi=>⟨os[i],by simp [hi]⟩
  have hltO:∀ {i:Nat} {p:AOper},os[i]?=some p→i < os.length:=fun h=>(List.getElem?_eq_some_iff.1 h).1
  have hdir:∀ i j,j ∈ ZdL ops i→j < i:=by
    intro i j hj
    by_cases hi:i < ops.size
    · exact (hdr i hi).1 j hj
    · unfold ZdL at hj
      rw [Array.getElem?_eq_none (by omega)] at hj
      simp at hj
  have hpair:∀ i j p q,os[i]?=some p→os[j]?=some q→i ≠ j →
      (∀ d,p.dst=some d→q.dst ≠ some d)∧(∀ e,q.dst=some e→e ∈ ZkG p.op++ZoP p.g→Jn ops ops.size i j=true∨Jn ops ops.size j i=true) ∧
      (eff p.op=true→eff q.op=true→i < j→ZqH q.op=true∨Jn ops ops.size j i=true)∧(fin p.op (os.drop (i+1))=true→mem q.op=true→Jn ops ops.size i j=true):=by
    intro i j p q hp hq hne
    have h:=(hdr i (by have:=hltO hp; omega)).2 j (by have:=hltO hq; omega)
    rw [hp,hq] at h
    simp only [Bool.or_eq_true,beq_iff_eq] at h
    rcases h with h | h
    · exact absurd h hne
    · simp only [Bool.and_eq_true] at h
      obtain ⟨⟨⟨h1,h2⟩,h3⟩,h4⟩:=h
      refine ⟨?_,?_,?_,?_⟩
      · intro d hd he
        rw [hd,he] at h1
        simp at h1
      · intro e he hmem
        rw [he] at h2
        simp only [Bool.or_eq_true,Bool.not_eq_true'] at h2
        rcases h2 with (h2 | h2) | h2
        · rw [List.contains_iff_mem.2 hmem] at h2; cases h2
        · exact .inl h2
        · exact .inr h2
      · intro e1 e2 hlt
        simp only [e1,e2,Bool.and_self,decide_eq_true hlt,Bool.not_true,Bool.or_eq_true,Bool.false_eq_true,false_or] at h3
        exact h3
      · intro e1 e3
        simp only [e1,e3,Bool.and_self,Bool.not_true,Bool.or_eq_true,Bool.false_eq_true,false_or] at h4
        exact h4
  have hlate':∀ j q,os[j]?=some q→ZqH q.op=true→(∀ i p,os[i]?=some p→eff p.op=true→i < j→Jn ops ops.size j i=true) ∨
      ∀ r p d,os[r]?=some p→q.dst=some d→d ∈ ZkG p.op++ZoP p.g→∀ i s,os[i]?=some s→eff s.op=true→i < j→Jn ops ops.size r i=true:=by
    intro j q hq hal
    have h:=hlate j (by have:=hltO hq; omega)
    rw [hq] at h
    simp only [hal,Bool.not_true,Bool.false_or,Bool.or_eq_true] at h
    rcases h with h | h
    · exact .inl fun i p hp he hij=>Zns h hp (by have:=hltO hp; omega) he hij
    · right
      intro r p d hp hd hmem i s hs' he hij
      have:=List.all_eq_true.1 h r (List.mem_range.2 (by have:=hltO hp; omega))
      rw [hp,hd] at this
      simp only [Bool.or_eq_true,Bool.not_eq_true'] at this
      rcases this with this | this
      · rw [List.contains_iff_mem.2 hmem] at this; cases this
      · exact Zns this hs' (by have:=hltO hs'; omega) he hij
  have hstep:∀ (i:Nat) (o:AOper),os[i]?=some o→(Zbh (F i) o.g=some true∧Ze call (F i) (G i) o.op=some (val i,G (i+1)))∨(Zbh (F i) o.g=some false∧val i=skp∧G (i+1)=G i):=fun i o ho=>(hst0 i o ho).2.2
  have hdd:∀ (i j:Nat) (p q:AOper),os[i]?=some p→os[j]?=some q→i ≠ j→∀ d,p.dst=some d→q.dst ≠ some d:=fun i j p q hp hq hne=>(hpair i j p q hp hq hne).1
  have hF:∀ i,i < os.length→F (i+1)=JC (F i) (dst i) (val i):=by
    intro i hi
    obtain ⟨p,hp⟩:=hos i hi
    rw [(hst0 i p hp).2.1]
    simp [dst,hp]
  have hdd2:∀ i j,i < os.length→j < os.length→i ≠ j→∀ d,dst i=some d→dst j ≠ some d:=by
    intro i j hi hj hne d h1 h2
    obtain ⟨p,hp⟩:=hos i hi
    obtain ⟨q,hq⟩:=hos j hj
    simp only [dst,hp,hq,Option.bind_some] at h1 h2
    exact hdd i j p q hp hq hne d h1 h2
  have hGl:∀ (i j:Nat),i≤j→j≤os.length→(G i).length≤(G j).length:=by
    intro i j hij
    induction hij with
    | refl=>intro _; exact Nat.le_refl _
    | step hij ih =>
      intro hj
      obtain ⟨p,hp⟩:=hos _ (show _ < os.length from hj)
      exact Nat.le_trans (ih (by omega)) (hst0 _ p hp).1
  have hGc:∀ i p,os[i]?=some p→eff p.op=false→G (i+1)=G i:=by
    intro i p hp he
    rcases hstep i p hp with ⟨_,h⟩ | ⟨_,_,h⟩
    · exact ZlY he h
    · exact h
  refine ⟨hm,?_⟩
  have allQ:∀ (listed:Array Bool) (a':Act) (w':World) (ρ':List PB) (FS:List V) (m:Nat) (pl:Nat→PB),(∀ i,i < os.length→listed.getD i false=true) →
      Inv B w0 os fr F G val ρ a (fun k=>listed.getD k false) a' w' ρ' FS m pl→(m=os.length∨∃ o,os[m]?=some o∧eff o.op=true∧listed.getD m false=false)→Q .normal a' w':=by
    intro listed a' w' ρ' FS m pl hall hI hmax
    have hmn:m=os.length:=by
      rcases hmax with h | ⟨o,ho,_,h⟩
      · exact h
      · rw [hall m (hltO ho)] at h; cases h
    subst hmn
    have hnp:∀ k o,os[k]?=some o→¬ Zio F (fun k=>listed.getD k false) os.length k o:=fun k o ho hp=>by have:=hltO ho; have:=hp.2.1; omega
    have e1:FS=fr':=by
      apply List.ext_getElem?
      intro t
      rw [← f1]
      by_cases ht:∃ i,i < os.length∧dst i=some t
      · obtain ⟨i,hi,hdt⟩:=ht
        obtain ⟨p,hp⟩:=hos i hi
        have hpt:p.dst=some t:=by simpa [dst,hp] using hdt
        rw [hI.fy i p t hp (hall i hi) hpt (hnp i p hp),Zln dst val hF hdd2 hi (Nat.le_refl _) hdt,f0]
      · have hno:∀ i,i < os.length→dst i ≠ some t:=fun i hi h=>ht ⟨i,hi,h⟩
        rw [hI.fn t (fun k o ho _ e=>hno k (hltO ho) (by simp [dst,ho,e])),(Zc0 dst val os.length F hF).2 t hno,f0]
    have h1:=hI.frr
    have h2:=hI.st
    rw [e1] at h1
    rw [g1] at h2
    exact hQ a' w' ρ' hI.pre h1 h2 hI.kp hI.df
  have noready:∀ (listed:Array Bool),listed.size=ops.size→Region.ready .any ops listed=[]→∀ i,i < ops.size→listed.getD i false=true:=by
    intro listed hsz hr i
    induction i using Nat.strongRecOn with
    | _ i ih =>
      intro hi
      cases hl:listed.getD i false with
      | true=>rfl
      | false =>
        exfalso
        have:i ∈ Region.ready .any ops listed:=by
          rw [mem_ready]
          refine ⟨?_,ops[i],by simp [hi],?_⟩
          · rw [Array.getD_eq_getD_getElem?] at hl ⊢
            rw [Array.getElem?_eq_getElem (by omega)] at hl ⊢
            exact hl
          · intro e he hbd
            have hj:e.on ∈ ZdL ops i:=by
              unfold ZdL
              rw [Array.getElem?_eq_getElem hi]
              exact List.mem_map.2 ⟨e,List.mem_filter.2 ⟨by simpa using he,hbd⟩,rfl⟩
            have:=hdir i e.on hj
            exact ih e.on this (by omega)
        rw [hr] at this
        cases this
  have main:∀ (fuel:Nat) (listed:Array Bool) (todo:List Nat) (a':Act) (w':World) (ρ':List PB) (FS:List V) (m:Nat) (pl:Nat→PB),listed.size=ops.size→ZqP ops listed →
      todo.length≤fuel→(∀ i,i < ops.size→listed.getD i false=false→i ∈ todo)→Inv B w0 os fr F G val ρ a (fun k=>listed.getD k false) a' w' ρ' FS m pl →
      (m=os.length∨∃ o,os[m]?=some o∧eff o.op=true∧listed.getD m false=false)→wpAny P .any ops Q fuel listed a' w':=by
    intro fuel
    induction fuel with
    | zero =>
      intro listed todo a' w' ρ' FS m pl hsz hcl htodo hin hI hmax
      have hall:∀ i,i < ops.size→listed.getD i false=true:=by
        intro i hi
        cases hl:listed.getD i false with
        | true=>rfl
        | false =>
          have:=hin i hi hl
          have:todo=[]:=by simpa using htodo
          subst this; simp at *
      refine ⟨?_,allQ listed a' w' ρ' FS m pl (fun i hi=>hall i (by omega)) hI hmax⟩
      cases hr:Region.ready .any ops listed with
      | nil=>rfl
      | cons x xs =>
        exfalso
        have hx:x ∈ Region.ready .any ops listed:=by rw [hr]; simp
        obtain ⟨h1,o,h2,_⟩:=mem_ready.1 hx
        have hlt:x < ops.size:=(Array.getElem?_eq_some_iff.1 h2).1
        have:=hall x hlt
        rw [Array.getD_eq_getD_getElem?] at this h1
        rw [Array.getElem?_eq_getElem (by omega)] at this h1
        simp at this h1
        rw [this] at h1; cases h1
    | succ fuel ih =>
      intro listed todo a' w' ρ' FS m pl hsz hcl htodo hin hI hmax
      refine ⟨fun hr=>allQ listed a' w' ρ' FS m pl (fun i hi=>noready listed hsz hr i (by omega)) hI hmax,?_⟩
      intro i hi
      obtain ⟨hul0,o,ho,hdl0⟩:=mem_ready.1 hi
      have hio:i < ops.size:=(Array.getElem?_eq_some_iff.1 ho).1
      have his:i < os.length:=by omega
      have hul:listed.getD i false=false:=by
        rw [Array.getD_eq_getD_getElem?] at hul0 ⊢
        rw [Array.getElem?_eq_getElem (by omega)] at hul0 ⊢
        exact hul0
      have hdl:∀ j ∈ ZdL ops i,listed.getD j false=true:=by
        intro j hj
        unfold ZdL at hj
        rw [ho] at hj
        obtain ⟨e,he,rfl⟩:=List.mem_map.1 hj
        obtain ⟨he1,he2⟩:=List.mem_filter.1 he
        exact hdl0 e (by simpa using he1) he2
      obtain ⟨p,hp⟩:=hos i his
      obtain ⟨hdst,hchk,hgd⟩:=hget i o p (by simpa using ho) hp
      have hreach:∀ j,Jn ops ops.size i j=true→listed.getD j false=true:=fun j hj=>ZgS hcl ops.size i j hdl hj
      have hreachK:∀ k j,listed.getD k false=true→Jn ops ops.size k j=true→listed.getD j false=true:=fun k j hk hj=>ZgS hcl ops.size k j (fun q hq=>hcl k q hk hq) hj
      have hread:∀ t ∈ ZkG p.op++ZoP p.g,FS[t]?=(F i)[t]?:=by
        intro t ht
        by_cases hw:∃ j,j < os.length∧dst j=some t
        · obtain ⟨j,hj,hjt⟩:=hw
          have honly:∀ k,k < os.length→k ≠ j→dst k ≠ some t:=fun k hk hne=>hdd2 j k hj hk (fun e=>hne e.symm) t hjt
          obtain ⟨q,hq⟩:=hos j hj
          have hqd:q.dst=some t:=by simpa [dst,hq] using hjt
          have hdk:∀ k o',os[k]?=some o'→o'.dst=some t→k=j:=by
            intro k o' hk hd
            apply Classical.byContradiction
            intro hne
            exact honly k (hltO hk) hne (by simp [dst,hk,hd])
          by_cases hji:j=i
          · subst hji
            rw [hI.fn t (fun k o' hk hkl e=>by have:=hdk k o' hk e; subst this; rw [hul] at hkl; cases hkl)]
            rw [(Zc0 dst val j F (fun k hk=>hF k (by omega))).2 t (fun k hk=>honly k (by omega) (by omega)),f0]
          · rcases (hpair i j p q hp hq (fun e=>hji e.symm)).2.1 t hqd ht with hr | hr
            · have hjl:=hreach j hr
              have hlt:=ZfG hdir _ _ _ hr
              have hnp:¬ Zio F (fun k=>listed.getD k false) m j q:=by
                intro hpd
                have hal:=hI.al j q hq hpd
                rcases hmax with hmx | ⟨om,hom,hem,hlm⟩
                · have:=hpd.2.1; omega
                · have hmj:m < j:=by
                    have:=hpd.2.1
                    rcases Nat.lt_or_ge m j with h | h
                    · exact h
                    · exfalso
                      have e:m=j:=by omega
                      subst e
                      rw [hjl] at hlm; cases hlm
                  have:listed.getD m false=true:=by
                    rcases hlate' j q hq hal with h | h
                    · exact hreachK j m hjl (h m om hom hem hmj)
                    · exact hreach m (h i p t hp hqd ht m om hom hem hmj)
                  rw [hlm] at this; cases this
              rw [hI.fy j q t hq hjl hqd hnp,Zln dst val hF hdd2 hlt (by omega) hjt,f0]
            · have hlt:=ZfG hdir _ _ _ hr
              have hjl:¬ listed.getD j false=true:=by
                intro hjl
                have:=hreachK j i hjl hr
                rw [hul] at this; cases this
              rw [hI.fn t (fun k o' hk hkl e=>by have:=hdk k o' hk e; subst this; exact hjl hkl)]
              rw [(Zc0 dst val i F (fun k hk=>hF k (by omega))).2 t (fun k hk=>honly k (by omega) (by omega)),f0]
        · have hno:∀ k,k < os.length→dst k ≠ some t:=fun k hk h=>hw ⟨k,hk,h⟩
          rw [hI.fn t (fun k o' hk _ e=>hno k (hltO hk) (by simp [dst,hk,e])),(Zc0 dst val i F (fun k hk=>hF k (by omega))).2 t (fun k hk=>hno k (by omega)),f0]
      have hwants:Zbh FS p.g=Zbh (F i) p.g:=by
        cases hg:p.g with
        | none=>rfl
        | some sb =>
          obtain ⟨s,b⟩:=sb
          simp only [Zbh]
          rw [hread s (by simp [hg,ZoP])]
      have hcg:∀ X,Ze call FS X p.op=Ze call (F i) X p.op:=fun X=>Zpz (fun t ht=>hread t (by simp [ht]))
      have hsz':(listed.setIfInBounds i true).size=ops.size:=by simpa using hsz
      have hli:(listed.setIfInBounds i true).getD i false=true:=by
        rw [Array.getD_eq_getD_getElem?]
        simp [hsz,hio]
      have hcl':ZqP ops (listed.setIfInBounds i true):=by
        intro k j hk hj
        by_cases hki:k=i
        · subst hki; exact getD_set_true (hdl j hj)
        · rw [getD_set_ne false (fun e=>hki e.symm)] at hk
          exact getD_set_true (hcl k j hk hj)
      have hl1:∀ k,k ≠ i→(listed.setIfInBounds i true).getD k false=listed.getD k false:=fun k hk=>getD_set_ne false (fun e=>hk e.symm)
      have htodo':(todo.erase i).length≤fuel:=by
        rw [List.length_erase_of_mem (hin i hio hul)]
        omega
      have hin':∀ k,k < ops.size→(listed.setIfInBounds i true).getD k false=false→k ∈ todo.erase i:=by
        intro k hk hkl
        have hki:k ≠ i:=fun e=>by subst e; rw [hli] at hkl; cases hkl
        rw [getD_set_ne false (fun e=>hki e.symm)] at hkl
        exact (List.mem_erase_of_ne hki).2 (hin k hk hkl)
      have next:∀ (a2:Act) (w2:World) (ρ2:List PB) (FS2:List V) (m2:Nat) (pl2:Nat→PB),Inv B w0 os fr F G val ρ a (fun k=>(listed.setIfInBounds i true).getD k false) a2 w2 ρ2 FS2 m2 pl2 →
          wpAny P .any ops Q fuel (listed.setIfInBounds i true) a2 w2:=by
        intro a2 w2 ρ2 FS2 m2 pl2 hI2
        obtain ⟨ρ3,FS3,m3,hI3,hmax3⟩:=Inv.on hstep hdd os.length ρ2 FS2 m2 (by omega) hI2
        exact ih _ (todo.erase i) a2 w2 ρ3 FS3 m3 pl2 hsz' hcl' htodo' hin' hI3 hmax3
      unfold wpOp
      rw [ho]
      simp only
      rcases hstep i p hp with ⟨hw,hs'⟩ | ⟨hw,hv,hGi⟩
      · have hwant:=JH hI.frr hgd (by rw [hwants]; exact hw)
        rw [if_pos hwant]
        left
        obtain ⟨hinn,hstc⟩:=hI.colours hB hstep
        have hkp:∀ w2,Kept (Znj B os F (fun k=>listed.getD k false) m pl) w' w2→Kept B w0 w2:=fun w2 h=>hI.kp.trans (h.less fun k hk=>Zgu hk)
        cases he:eff p.op with
        | false =>
          have hval:Ze call FS (G m) p.op=some (val i,G m):=by
            have hv1:(Ze call FS (G m) p.op).map (·.1)=some (val i):=by
              rw [hcg]
              cases hmm:mem p.op with
              | false =>
                obtain ⟨g,hg⟩:=Zny (call:=call) (fr:=F i) he hmm
                rw [hg] at hs' ⊢
                simp only [Option.map_eq_some_iff,Prod.mk.injEq] at hs'
                obtain ⟨x,hx,rfl,_⟩:=hs'
                rw [hx]; rfl
              | true =>
                have hsame:∀ b ∈ rfp (F i) p.op,(G m)[b]?=(G i)[b]?:=by
                  intro b hb'
                  have hblt:=ZBy hmm hs' b hb'
                  have hstill:=(hfp i p hp hw b hb').2
                  by_cases him:i≤m
                  · have key:∀ j,i≤j→j≤m→(G j)[b]?=(G i)[b]?:=by
                      intro j hij
                      induction hij with
                      | refl=>intro _; rfl
                      | @step k hik ihk =>
                        intro hjm
                        obtain ⟨q,hq⟩:=hos k (by have:=hI.le; omega)
                        rcases hstill k q hq with h3 | h3
                        · exfalso
                          have hqe:eff q.op=true:=ZxF h3
                          have hki:k ≠ i:=by intro e; subst e; rw [hp] at hq; cases hq; rw [he] at hqe; cases hqe
                          have hkl:=hI.ef k q hq hqe (by omega)
                          have:=hreachK k i hkl ((hpair k i q p hq hp hki).2.2.2 h3 hmm)
                          rw [hul] at this; cases this
                        · rw [h3 (Nat.lt_of_lt_of_le hblt (hGl i k hik (by have:=hI.le; omega)))]
                          exact ihk (by omega)
                    exact key m him (Nat.le_refl _)
                  · have hbm:b < (G m).length:=by
                      have hpl:∀ (n:Nat),ZwU (G m) (FS.getD n O):=fun n=>ZtO hI.st.len (hI.frr.getD n)
                      have hrf:rfp FS p.op=rfp (F i) p.op:=ZrK (fun t ht=>hread t (by simp [ht]))
                      rw [← hrf] at hb'
                      exact Zxv (hisT p (List.mem_of_getElem? hp)).1 hpl b hb'
                    have key:∀ j,m≤j→j≤i→(G j)[b]?=(G m)[b]?:=by
                      intro j hij
                      induction hij with
                      | refl=>intro _; rfl
                      | @step k hik ihk =>
                        intro hjm
                        obtain ⟨q,hq⟩:=hos k (by omega)
                        rcases hstill k q hq with h3 | h3
                        · exfalso
                          have hin2:p ∈ os.drop (k+1):=by
                            apply List.mem_of_getElem? (i:=i - (k+1))
                            rw [List.getElem?_drop,show k+1+(i - (k+1))=i by omega,hp]
                          have:=Zrc h3 p hin2
                          rw [hmm] at this
                          simp at this
                        · rw [h3 (Nat.lt_of_lt_of_le hbm (hGl m k hik (by omega)))]
                          exact ihk (by omega)
                    exact (key i (by omega) (Nat.le_refl _)).symm
                rw [Zxi hmm hsame,hs']; rfl
            cases hx:Ze call FS (G m) p.op with
            | none=>rw [hx] at hv1; cases hv1
            | some r =>
              obtain ⟨v,M2⟩:=r
              rw [hx] at hv1
              simp only [Option.map_some,Option.some.injEq] at hv1
              rw [ZlY he hx,hv1]
          refine Zcl (hcalls _ w' hinn) hinn hstc (Kept.refl _ _) hI.frr hchk hval ?_
          intro c w2 ρ2 q1 q2 q3 q4
          obtain ⟨q2',hap⟩:=Zdl q2
          rw [hdst]
          exact next _ _ _ _ _ _ (hI.op hdd hp hli hl1 (.inl ⟨rfl,.inl he⟩) q1 q2' q3 q4 (hkp w2 q3) hap)
        | true =>
          have hmi:m≤i:=by
            rcases Nat.lt_or_ge i m with h | h
            · have:=hI.ef i p hp he h
              rw [hul] at this; cases this
            · exact h
          by_cases e:m=i
          · subst e
            have hval:Ze call FS (G m) p.op=some (val m,G (m+1)):=by rw [hcg]; exact hs'
            refine Zcl (hcalls _ w' hinn) hinn hstc (Kept.refl _ _) hI.frr hchk hval ?_
            intro c w2 ρ2 q1 q2 q3 q4
            obtain ⟨q2',hap⟩:=Zdl q2
            rw [hdst]
            exact next _ _ _ _ _ _ (hI.op hdd hp hli hl1 (.inr ⟨rfl,rfl⟩) q1 q2' q3 q4 (hkp w2 q3) hap)
          · have hal:ZqH p.op=true:=by
              rcases hmax with hmx | ⟨om,hom,hem,hlm⟩
              · omega
              · rcases (hpair m i om p hom hp e).2.2.1 hem he (by omega) with h | h
                · exact h
                · have:=hreach m h
                  rw [hlm] at this; cases this
            have hcl2:=(hisT p (List.mem_of_getElem? hp)).2
            have hs2:=hs'
            rw [Zf0 hal] at hs2
            cases hr:Q4 (F i) p.op with
            | none=>rw [hr] at hs2; cases hs2
            | some r =>
              have hr2:Q4 FS p.op=some r:=by rw [Zlq (fun t ht=>hread t (by simp [ht])),hr]
              have hval:Ze call FS (G m) p.op=some (r.2 (G m).length,G m++[r.1]):=by rw [Zf0 hal,hr2]; rfl
              refine Zcl (hcalls _ w' hinn) hinn hstc (Kept.refl _ _) hI.frr hchk hval ?_
              intro c w2 ρ2 q1 q2 q3 q4
              rw [hdst]
              obtain ⟨pl2,hI2⟩:=hI.early hdd hp hli hul hl1 hmi hal hw hcl2 hr hr2 q1 q2 q3 q4 (hkp w2 q3)
              exact next _ _ _ _ _ _ hI2
      · have hwant:=JH hI.frr hgd (by rw [hwants]; exact hw)
        rw [if_neg (by simp [hwant])]
        rw [hdst]
        have hap:∀ (k:Nat) (o:AOper),os[k]?=some o→Zio F (fun k=>listed.getD k false) m k o→∀ (l:Nat) (b:Blk) (q:PB),(G m)[l]?=some b→ρ'[l]?=some q→(b.st=1∨b.st=2)→(pl k).blk ≠ q.blk:=by
          intro k o' ho' hpd
          obtain ⟨r,hr⟩:=hI.block hstep ho' hpd
          exact (hI.pb k o' r ho' hpd hr).2.2.2.2
        exact next _ _ _ _ _ _ (hI.op hdd hp hli hl1 (.inl ⟨rfl,.inr (by rw [hw]; simp)⟩) (List.prefix_refl _) hI.st (Kept.refl _ _) (by rw [hv]; exact .skp) hI.kp hap)
  have none_listed:∀ k,¬ (Array.replicate ops.size false).getD k false=true:=by
    intro k hi
    simp [Array.getD_eq_getD_getElem?,Array.getElem?_replicate] at hi
    split at hi <;> simp at hi
  have inv0:Inv B w0 os fr F G val ρ a (fun k=>(Array.replicate ops.size false).getD k false) a { w with drawn:=w.drawn+1 } ρ fr 0 (fun _=>⟨0,0,0,0,false⟩):=by
    refine ⟨Nat.zero_le _,fun k o _ _ hk=>by omega,?_,hf,rfl,fun t _=>rfl,?_,?_,by rw [g0]; exact hs.world (fun k=>rfl),⟨hb.os,hb.tape,hb.output,hb.size,hb.block⟩,List.prefix_refl _,rfl,?_,?_⟩
    · intro k o _ hp; exact absurd hp.1 (none_listed k)
    · intro k o t _ hl; exact absurd hl (none_listed k)
    · intro k o t _ hp; exact absurd hp.1 (none_listed k)
    · intro k o r _ hp; exact absurd hp.1 (none_listed k)
    · intro k j o q _ _ hp; exact absurd hp.1 (none_listed k)
  obtain ⟨ρ2,FS2,m2,hI2,hmax2⟩:=Inv.on hstep hdd os.length ρ fr 0 (by omega) inv0
  refine main ops.size (Array.replicate ops.size false) (List.range ops.size) a _ ρ2 FS2 m2 _ (by simp) ?_ (by simp) (fun i hi _=>by simpa using hi) hI2 hmax2
  intro i j hi _
  exact absurd hi (none_listed i)
end
end GoAm
