/- Arithmetic of the abstract machine over natural numbers; chains; lists. -/
import Derived.Test.YtlniheedmeaeeaaGreatAmSim
set_option autoImplicit false
set_option linter.unusedVariables false
set_option linter.unusedSimpArgs false
namespace GoAm
open Go
theorem chain {α:Type} {g:Nat→α} {n:Nat} (h:∀ i,i < n→g i=g (i+1)):g 0=g n:=by
  have:∀ k,k≤n→g 0=g k:=by
    intro k
    induction k with
    | zero=>intro _; rfl
    | succ k ih=>intro hk; rw [ih (by omega),h k (by omega)]
  exact this n (Nat.le_refl _)
theorem first_bad (p:Nat→Bool) (n:Nat):(∀ i,i < n→p i=true)∨∃ j,j < n∧(∀ i,i < j→p i=true)∧p j=false:=by
  induction n with
  | zero=>left; intro i hi; omega
  | succ n ih =>
    rcases ih with h | ⟨j,h1,h2,h3⟩
    · by_cases hp:p n=true
      · left; intro i hi
        by_cases e:i=n
        · subst e; exact hp
        · exact h i (by omega)
      · right; exact ⟨n,by omega,h,by simpa using hp⟩
    · right; exact ⟨j,by omega,h2,h3⟩
theorem ofInt_nat (w a:Nat):BitVec.ofInt w (a:Int)=BitVec.ofNat w a:=by
  apply BitVec.eq_of_toNat_eq
  simp only [BitVec.toNat_ofInt,BitVec.toNat_ofNat]
  omega
theorem xor_i64 {a b:Nat} (ha:a < 9223372036854775808) (hb:b < 9223372036854775808):bxor .i64 a b=((a ^^^ b:Nat):Int):=by
  have hx:a ^^^ b < 2 ^ 63:=Nat.xor_lt_two_pow (by omega) (by omega)
  unfold bxor
  rw [ofInt_nat,ofInt_nat,BitVec.toNat_xor,BitVec.toNat_ofNat,BitVec.toNat_ofNat]
  show IntKind.i64.wrap ((a % 2 ^ 64 ^^^ b % 2 ^ 64:Nat):Int)=_
  rw [Nat.mod_eq_of_lt (by omega),Nat.mod_eq_of_lt (by omega),wrap_i64 (by omega) (by omega)]
theorem wrap_u32 {z:Int} (h1:0≤z) (h2:z≤4294967295):IntKind.u32.wrap z=z:=by
  simp [IntKind.wrap,IntKind.min,IntKind.max,IntKind.signed,IntKind.bits]
  omega
theorem wrap_u32_mod (n:Nat):IntKind.u32.wrap (n:Int)=((n % 4294967296:Nat):Int):=by
  simp [IntKind.wrap,IntKind.min,IntKind.max,IntKind.signed,IntKind.bits]
theorem xor_u32 {a b:Nat} (ha:a < 4294967296) (hb:b < 4294967296):bxor .u32 a b=((a ^^^ b:Nat):Int):=by
  have hx:a ^^^ b < 2 ^ 32:=Nat.xor_lt_two_pow (by omega) (by omega)
  unfold bxor
  rw [ofInt_nat,ofInt_nat,BitVec.toNat_xor,BitVec.toNat_ofNat,BitVec.toNat_ofNat]
  show IntKind.u32.wrap ((a % 2 ^ 32 ^^^ b % 2 ^ 32:Nat):Int)=_
  rw [Nat.mod_eq_of_lt (by omega),Nat.mod_eq_of_lt (by omega),wrap_u32 (by omega) (by omega)]
theorem and_i64 {a b:Nat} (ha:a < 9223372036854775808) (hb:b < 9223372036854775808):band .i64 a b=((a &&& b:Nat):Int):=by
  have hx:a &&& b < 2 ^ 63:=Nat.and_lt_two_pow a (by omega)
  unfold band
  rw [ofInt_nat,ofInt_nat,BitVec.toNat_and,BitVec.toNat_ofNat,BitVec.toNat_ofNat]
  show IntKind.i64.wrap ((a % 2 ^ 64 &&& b % 2 ^ 64:Nat):Int)=_
  rw [Nat.mod_eq_of_lt (by omega),Nat.mod_eq_of_lt (by omega),wrap_i64 (by omega) (by omega)]
theorem splice_one {cs:List V} {o:Nat} {v:V} (h:o < cs.length):splice cs o [v]=cs.set o v:=by
  unfold splice
  rw [List.set_eq_take_append_cons_drop,if_pos h]
  simp
theorem byteV_len {n:Nat} (h:n < 256):byteV (UInt8.ofNat n)=.int .u8 n:=by
  unfold byteV
  rw [UInt8.toNat_ofNat',Nat.mod_eq_of_lt h]
def zc (v:V) (n:Nat):List V:=List.replicate n v
theorem zeroCells_zc (v:V):∀ n,zeroCells [v] n=zc v n
  | 0=>rfl
  | n+1=>by simp [zeroCells,zeroCells_zc v n,zc,List.replicate_succ]
theorem zc_len (v:V) (n:Nat):(zc v n).length=n:=List.length_replicate
theorem zc_drop (v:V) (n k:Nat):(zc v n).drop k=zc v (n - k):=List.drop_replicate
theorem zc_take (v:V) (n k:Nat):(zc v n).take k=zc v (min k n):=List.take_replicate
theorem zc_zero (v:V):zc v 0=[]:=rfl
theorem zc_set (v x:V) (n:Nat):(zc v (n+1)).set 0 x=x :: zc v n:=by simp [zc,List.replicate_succ]
theorem zc_tail (v:V) (n:Nat):(zc v n).tail=zc v (n - 1):=by simp [zc]
theorem map_byte_rep (n:Nat):(List.replicate n (0:UInt8)).map byteV=zc (.int .u8 0) n:=by simp [zc,byteV]
theorem zc_all {v:V} (h:one v=true) (n:Nat):(zc v n).all one=true:=by simp [zc,h]
theorem zc_mem {v x:V} {n:Nat} (h:x ∈ zc v n):x=v:=List.eq_of_mem_replicate h
theorem map_byte_all (w:List UInt8):(w.map byteV).all one=true:=by simp [byteV,one]
theorem toNat_succ (i:Nat):((i:Int)+1).toNat=i+1:=by omega
theorem lbeq_dec (a b:List UInt8):(a == b)=decide (a=b):=by
  by_cases h:a=b
  · subst h; simp
  · simp [h]
@[simp] theorem lbeq_dec' (a b:List UInt8):(a == b)=decide (a=b):=lbeq_dec a b
theorem one_byteV (b:UInt8):one (byteV b)=true:=rfl
theorem drop_one_add {α:Type} (a:α) (l:List α) (n:Nat):(a :: l).drop (1+n)=l.drop n:=by rw [Nat.add_comm]; rfl
attribute [simp] one_byteV drop_one_add zeroCells_zc zc_len zc_drop zc_take zc_zero zc_tail map_byte_rep toNat_succ
theorem byte_lt (b:UInt8):(b.toNat:Int) < 256:=by have:=b.toNat_lt; omega
end GoAm
