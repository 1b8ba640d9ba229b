/- Arithmetic of the abstract machine over natural numbers; chains; lists. -/
import Derived.Test.YtlniheedmeaeeaaGreatAmSim
set_option autoImplicit false
set_option linter.unusedVariables false
set_option linter.unusedSimpArgs false
namespace GoAm
open Go
theorem Zl2 {α:Type} {g:Nat→α} {n:Nat} (h:∀ i,i < n→g i=g (i+1)):g 0=g n:=by
  have:∀ k,k≤n→g 0=g k:=by
    intro k
    induction k with
    | zero=>intro _; rfl
    | succ k ih=>intro hk; rw [ih (by omega),h k (by omega)]
  exact this n (Nat.le_refl _)
theorem Zht (p:Nat→Bool) (n:Nat):(∀ i,i < n→p i=true)∨∃ j,j < n∧(∀ i,i < j→p i=true)∧p j=false:=by
  induction n with
  | zero=>left; intro i hi; omega
  | succ n ih =>
    rcases ih with h | ⟨j,h1,h2,h3⟩
    · by_cases hp:p n=true
      · left; intro i hi
        by_cases e:i=n
        · subst e; exact hp
        · exact h i (by omega)
      · right; exact ⟨n,by omega,h,by simpa using hp⟩
    · right; exact ⟨j,by omega,h2,h3⟩
theorem Zrx (w a:Nat):BitVec.ofInt w (a:Int)=BitVec.ofNat w a:=by
  apply BitVec.eq_of_toNat_eq
  simp only [BitVec.toNat_ofInt,BitVec.toNat_ofNat]
  omega
theorem ZCD {a b:Nat} (ha:a < 9223372036854775808) (hb:b < 9223372036854775808):ZGS .i64 a b=((a ^^^ b:Nat):Int):=by
  have hx:a ^^^ b < 2 ^ 63:=Nat.xor_lt_two_pow (by omega) (by omega)
  unfold ZGS
  rw [Zrx,Zrx,BitVec.toNat_xor,BitVec.toNat_ofNat,BitVec.toNat_ofNat]
  show IntKind.i64.wrap ((a % 2 ^ 64 ^^^ b % 2 ^ 64:Nat):Int)=_
  rw [Nat.mod_eq_of_lt (by omega),Nat.mod_eq_of_lt (by omega),Zd (by omega) (by omega)]
theorem Zrs {n:Nat} (h:n < 256):Y0 (UInt8.ofNat n)=.int .u8 n:=by
  unfold Y0
  rw [UInt8.toNat_ofNat',Nat.mod_eq_of_lt h]
def zc (v:V) (n:Nat):List V:=List.replicate n v
theorem Zi6 (v:V):∀ n,zeroCells [v] n=zc v n
  | 0=>rfl
  | n+1=>by simp [zeroCells,Zi6 v n,zc,List.replicate_succ]
theorem ZFF (v:V) (n:Nat):(zc v n).length=n:=List.length_replicate
theorem ZCp (v:V) (n k:Nat):(zc v n).drop k=zc v (n - k):=List.drop_replicate
theorem ZBI (v:V) (n k:Nat):(zc v n).take k=zc v (min k n):=List.take_replicate
theorem ZD3 (v:V):zc v 0=[]:=rfl
theorem ZCm (v:V) (n:Nat):(zc v n).tail=zc v (n - 1):=by simp [zc]
theorem ZmA (n:Nat):(List.replicate n (0:UInt8)).map Y0=zc (.int .u8 0) n:=by simp [zc,Y0]
theorem Zjy (w:List UInt8):(w.map Y0).all one=true:=by simp [Y0,one]
theorem ZuC (i:Nat):((i:Int)+1).toNat=i+1:=by omega
theorem Zt4 (a b:List UInt8):(a == b)=decide (a=b):=by
  by_cases h:a=b
  · subst h; simp
  · simp [h]
@[simp] theorem ZE5 (a b:List UInt8):(a == b)=decide (a=b):=Zt4 a b
theorem ZxT (b:UInt8):one (Y0 b)=true:=rfl
theorem Zq1 {α:Type} (a:α) (l:List α) (n:Nat):(a :: l).drop (1+n)=l.drop n:=by rw [Nat.add_comm]; rfl
attribute [simp] ZxT Zq1 Zi6 ZFF ZCp ZBI ZD3 ZCm ZmA ZuC
end GoAm
