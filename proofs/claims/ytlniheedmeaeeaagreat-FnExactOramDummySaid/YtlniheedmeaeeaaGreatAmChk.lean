/- Does the abstract code tell what the loaded program's code does? A check by computing. -/
import Derived.Test.YtlniheedmeaeeaaGreatAmRel
import Derived.Laws.Entries
set_option autoImplicit false
namespace GoAm
open Go Go.RowKit
def vEq:V→V→Bool
  | .bool a,.bool b=>a == b
  | .int k a,.int k' b=>k == k' && a == b
  | .string a,.string b=>a.data.toList == b.data.toList
  | .slice none 0 0,.slice none 0 0=>true
  | .pointer none,.pointer none=>true
  | .nilFunc,.nilFunc=>true
  | _,_=>false
theorem ZBt {a b:V} (h:vEq a b=true):a=b:=by
  unfold vEq at h
  split at h
  · simpa using h
  · simp at h; rw [h.1,h.2]
  · rename_i a b
    have:a.data.toList=b.data.toList:=by simpa using h
    have h2:a.data=b.data:=Array.ext' this
    cases a; cases b; simp_all
  · rfl
  · rfl
  · rfl
  · cases h
theorem ZtU {ρ:List PB} {a b:V} (h:vEq a b=true):VR ρ b a:=by
  have e:=ZBt h
  subst e
  unfold vEq at h
  split at h
  · exact .bool _
  · exact .int _ _
  · exact .str _
  · exact .nil
  · exact .nilptr
  · exact .nilFunc
  · cases h
def lEq:List V→List V→Bool
  | [],[]=>true
  | a :: as,b :: bs=>vEq a b && lEq as bs
  | _,_=>false
theorem ZwE {ρ:List PB}:∀ {as bs:List V},lEq as bs=true→VRl ρ bs as
  | [],[],_=>.nil
  | a :: as,b :: bs,h=>by
    simp only [lEq,Bool.and_eq_true] at h
    exact .cons (ZtU h.1) (ZwE h.2)
  | [],_ :: _,h=>by simp [lEq] at h
  | _ :: _,[],h=>by simp [lEq] at h
theorem ZqR:∀ {as bs:List V},lEq as bs=true→as=bs
  | [],[],_=>rfl
  | a :: as,b :: bs,h=>by
    simp only [lEq,Bool.and_eq_true] at h
    rw [ZBt h.1,ZqR h.2]
  | [],_ :: _,h=>by simp [lEq] at h
  | _ :: _,[],h=>by simp [lEq] at h
def okO:Operand→Opd→Bool
  | .tmp a,.t b=>a == b
  | .const v,.c v'=>vEq v v'
  | .func f,.c (.func (.func f') a b)=>f == f' && a.toList.isEmpty && b.toList.isEmpty
  | _,_=>false
def Zlv:List Operand→List Opd→Bool
  | [],[]=>true
  | a :: as,b :: bs=>okO a b && Zlv as bs
  | _,_=>false
def ZvA:Option Operand→Option Opd→Bool
  | none,none=>true
  | some a,some b=>okO a b
  | _,_=>false
abbrev FR (ρ:List PB) (fr:List V) (a:Act):Prop:=VRl ρ fr a.tmps.toList
theorem Yx {ρ:List PB} {fr:List V} {a:Act} (hf:FR ρ fr a) {x:Operand} {y:Opd} (h:okO x y=true):VR ρ (ev fr y) (a.eval x):=by
  unfold okO at h
  split at h
  · rename_i i j
    have e:i=j:=by simpa using h
    subst e
    have:=hf.getD i
    have e:a.tmps.getD i undef=a.tmps.toList.getD i undef:=by
      rw [Array.getD_eq_getD_getElem?,List.getD_eq_getElem?_getD,Array.getElem?_toList]
    show VR ρ (fr.getD i O) (a.tmps.getD i undef)
    rw [e]; exact this
  · exact ZtU h
  · rename_i f f' p q
    simp only [Bool.and_eq_true] at h
    obtain ⟨⟨h1,h2⟩,h3⟩:=h
    have e:f=f':=by simpa using h1
    have e2:p=#[]:=by cases p; simp_all
    have e3:q=#[]:=by cases q; simp_all
    subst e; subst e2; subst e3
    exact .func f #[] #[] rfl (fun i a b ha=>by simp at ha)
  · cases h
theorem ZdQ {ρ:List PB} {fr:List V} {a:Act} (hf:FR ρ fr a):∀ {xs:List Operand} {ys:List Opd},Zlv xs ys=true→VRl ρ (ys.map (ev fr)) (xs.map a.eval)
  | [],[],_=>.nil
  | x :: xs,y :: ys,h=>by
    simp only [Zlv,Bool.and_eq_true] at h
    exact .cons (Yx hf h.1) (ZdQ hf h.2)
  | [],_ :: _,h=>by simp [Zlv] at h
  | _ :: _,[],h=>by simp [Zlv] at h
def ZcR (P:Program) (t:TypeId):Option Bool :=
  match P.underlying t with
  | some (.struct _) | some (.array _ _)=>some true
  | some _=>some false
  | none=>none
def szB (P:Program) (t:TypeId) (n:Nat):Bool :=
  match P.info? t with
  | some i=>i.size == n
  | none=>false
def byB (P:Program) (t:TypeId) (n:Nat):Bool :=
  match P.info? t with
  | some i=>i.bytes == n
  | none=>false
def zB (P:Program) (t:TypeId) (zero:List V):Bool :=
  match P.info? t with
  | some i=>match i.zero with
    | some z=>lEq z.cells.toList zero
    | none=>false
  | none=>false
def Zgz (P:Program) (t:TypeId) (w:Nat):Bool :=
  match P.underlying t with
  | some (.slice e)=>szB P e w
  | _=>false
def ZEa (P:Program) (t:TypeId) (k:IntKind):Bool :=
  match P.underlying t with
  | some (.int k')=>k' == k
  | _=>false
def Zw9 (P:Program) (t:TypeId):Bool:=(P.underlying t).isSome
def ZoA (P:Program) (t:TypeId):Nat→Bool
  | 0=>match P.underlying t with
    | some .bool=>true
    | _=>false
  | 1=>match P.underlying t with
    | some (.int _)=>true
    | _=>false
  | 2=>match P.underlying t with
    | some .string=>true
    | _=>false
  | _=>false
def Zej (P:Program):Nat→List Field→List Nat→Bool
  | _,[],[]=>true
  | i, f :: fs, k :: ks => f.offset == i && f.name != "_" && ZoA P f.type k && Zej P (i + 1) fs ks
  | _,_,_=>false
def Zen (P:Program) (fs:Array Field):List (Nat × Operand)→List (Nat × Nat × Opd)→Bool
  | [],[]=>true
  | (i,x) :: ps,(off,n,y) :: qs=>(match fs[i]? with
    | some f=>f.offset == off && szB P f.type n
    | none=>false) && okO x y && Zen P fs ps qs
  | _,_=>false
def ZfZ (w:Nat):List (Nat × Operand)→List (Nat × Nat × Opd)→Bool
  | [],[]=>true
  | (i,x) :: ps,(off,n,y) :: qs=>i * w == off && n == w && okO x y && ZfZ w ps qs
  | _,_=>false
def ZEi:BinOp→BinOp→Bool
  | .add,.add | .sub,.sub | .mul,.mul | .quo,.quo | .rem,.rem | .and,.and | .or,.or | .xor,.xor | .shl,.shl | .shr,.shr | .andNot,.andNot
  | .eql,.eql | .neq,.neq | .lss,.lss | .leq,.leq | .gtr,.gtr | .geq,.geq=>true
  | _,_=>false
theorem ZkJ {a b:BinOp} (h:ZEi a b=true):a=b:=by cases a <;> cases b <;> simp_all [ZEi]
def ZpN:Operand→Bool
  | .const (.int .i64 0)=>true
  | _=>false
def ZE6 (P:Program) (t:TypeId) (w by':Nat):Bool :=
  match P.underlying t with
  | some (.slice e)=>match P.info? e with
    | some i=>i.size == w && i.bytes == by' && (match i.zero with
      | some z=>z.cells.size == w
      | none=>false) && decide (0 < w)
    | none=>false
  | _=>false
def ZM (P:Program) (o:Op) (a:AOp):Bool :=
  match a with
  | .mv y=>match o with
    | .move x=>okO x y
    | .assign x=>okO x y
    | _=>false
  | .pick c' a' b'=>match o with
    | .pick c a b=>okO c c' && okO a a' && okO b b'
    | _=>false
  | .new cs=>match o with
    | .alloc e=>zB P e cs
    | _=>false
  | .box y=>match o with
    | .box _ x=>okO x y
    | _=>false
  | .build zero qs=>match o with
    | .build t ps=>zB P t zero && (match P.underlying t with
      | some (.struct fs)=>fs.toList.all (fun f=>(P.info? f.type).isSome) && Zen P fs ps.toList qs
      | _=>false)
    | _=>false
  | .mkl w n zero qs=>match o with
    | .buildSlice t n' ps=>n == n' && decide (n * w≤16777216) && (match P.underlying t with
      | some (.slice e)=>szB P e w && (if n * w=0 then zero.isEmpty else zB P e zero && zero.length == w)
      | _=>false) && ZfZ w ps.toList qs
    | _=>false
  | .load1 y=>match o with
    | .load t x=>okO x y && ZcR P t == some false
    | _=>false
  | .loadn n y=>match o with
    | .load t x=>okO x y && ZcR P t == some true && szB P t n
    | _=>false
  | .store n y z=>match o with
    | .store t x v=>okO x y && okO v z && szB P t n
    | _=>false
  | .bin op y z=>match o with
    | .binOp op' _ x v _=>ZEi op op' && okO x y && okO v z
    | _=>false
  | .beq neg y z=>match o with
    | .binOp op t x v _=>ZEi op (if neg then .neq else .eql) && okO x y && okO v z && (match P.underlying t with
      | some .bool=>true
      | _=>false)
    | _=>false
  | .eqs neg ks y z=>match o with
    | .binOp op t x v _=>ZEi op (if neg then .neq else .eql) && okO x y && okO v z && (match P.underlying t with
      | some (.struct fs)=>Zej P 0 fs.toList ks
      | _=>false) && !P.eqGuardType P.depth t && !P.stoodInHeld t
    | _=>false
  | .eqnil neg y=>match o with
    | .binOp op t x v _=>ZEi op (if neg then .neq else .eql) && okO x y && (match v with
      | .const (.slice none 0 0)=>true
      | _=>false) && (match P.underlying t with
      | some (.slice _)=>true
      | _=>false)
    | _=>false
  | .not y=>match o with
    | .unOp .not _ x=>okO x y
    | _=>false
  | .neg y=>match o with
    | .unOp .neg _ x=>okO x y
    | _=>false
  | .bnot y=>match o with
    | .unOp .xor _ x=>okO x y
    | _=>false
  | .conv k y=>match o with
    | .convert s d x=>okO x y && Zw9 P s && ZEa P d k
    | _=>false
  | .bts y=>match o with
    | .convert s d x=>okO x y && (match P.underlying s,P.underlying d with
      | some (.slice e),some .string=>ZEa P e .u8
      | _,_=>false)
    | _=>false
  | .stb y=>match o with
    | .convert s d x=>okO x y && Zw9 P s && (match P.underlying d with
      | some (.slice e)=>ZEa P e .u8
      | _=>false)
    | _=>false
  | .fn f ys=>match o with
    | .makeFunc (.func f') first cap=>f == f' && first.toList.isEmpty && Zlv cap.toList ys
    | _=>false
  | .make w by' zero y=>match o with
    | .makeSlice t l c=>okO l y && okO c y && (match P.underlying t with
      | some (.slice e)=>szB P e w && byB P e by' && zB P e zero && zero.length == w
      | _=>false)
    | _=>false
  | .slc w y lo' hi'=>match o with
    | .slice t x lo hi none=>okO x y && ZvA lo lo' && ZvA hi hi' && Zgz P t w
    | _=>false
  | .slc0 w y=>match o with
    | .slice t x lo (some hi) (some mx)=>okO x y && lo.isNone && ZpN hi && ZpN mx && Zgz P t w
    | _=>false
  | .sls y lo' hi'=>match o with
    | .slice t x lo hi none=>okO x y && ZvA lo lo' && ZvA hi hi' && (match P.underlying t with
      | some .string=>true
      | _=>false)
    | _=>false
  | .fa off y=>match o with
    | .fieldAddr s x f=>okO x y && (match P.underlying s with
      | some (.struct fs)=>match fs[f]? with
        | some f=>f.offset == off && (match P.info? f.type with
          | some i=>i.size != 0
          | none=>false)
        | none=>false
      | _=>false)
    | _=>false
  | .fld1 off y=>match o with
    | .field s x f=>okO x y && (match P.underlying s with
      | some (.struct fs)=>match fs[f]? with
        | some f=>f.offset == off && ZcR P f.type == some false
        | none=>false
      | _=>false)
    | _=>false
  | .fldn off n y=>match o with
    | .field s x f=>okO x y && (match P.underlying s with
      | some (.struct fs)=>match fs[f]? with
        | some f=>f.offset == off && ZcR P f.type == some true && szB P f.type n
        | none=>false
      | _=>false)
    | _=>false
  | .ia w y j=>match o with
    | .indexAddr t x i=>okO x y && okO i j && Zgz P t w
    | _=>false
  | .ix y j=>match o with
    | .index t x i=>okO x y && okO i j && (match P.underlying t with
      | some .string=>true
      | _=>false)
    | _=>false
  | .ext y i=>match o with
    | .extract x i'=>okO x y && i == i'
    | _=>false
  | .len y=>match o with
    | .call { callee:=.builtin .len,args,argTypes }=>Zlv args.toList [y] && (match argTypes.toList with
      | [t]=>match P.underlying t with
        | some (.slice _)=>true
        | _=>false
      | _=>false)
    | _=>false
  | .slen y=>match o with
    | .call { callee:=.builtin .len,args,argTypes }=>Zlv args.toList [y] && (match argTypes.toList with
      | [t]=>match P.underlying t with
        | some .string=>true
        | _=>false
      | _=>false)
    | _=>false
  | .app w by' y z=>match o with
    | .call { callee:=.builtin .append,args,argTypes }=>Zlv args.toList [y,z] && (match argTypes.toList with
      | [t,t']=>ZE6 P t w by' && (match P.underlying t' with
        | some (.slice _)=>true
        | _=>false)
      | _=>false)
    | _=>false
  | .apps y z=>match o with
    | .call { callee:=.builtin .append,args,argTypes }=>Zlv args.toList [y,z] && (match argTypes.toList with
      | [t,t']=>ZE6 P t 1 1 && (match P.underlying t' with
        | some .string=>true
        | _=>false)
      | _=>false)
    | _=>false
  | .appz w by' zero y z=>match o with
    | .call { callee:=.builtin .append,args,argTypes }=>Zlv args.toList [y,z] && (match argTypes.toList with
      | [t,t']=>ZE6 P t w by' && (match P.underlying t with
        | some (.slice e)=>zB P e zero
        | _=>false) && (match P.underlying t' with
        | some (.int _)=>true
        | _=>false)
      | _=>false)
    | _=>false
  | .copy w y z=>match o with
    | .call { callee:=.builtin .copy,args,argTypes }=>Zlv args.toList [y,z] && (match argTypes.toList with
      | [t,_]=>Zgz P t w
      | _=>false)
    | _=>false
  | .copys y z=>match o with
    | .call { callee:=.builtin .copy,args,argTypes }=>Zlv args.toList [y,z] && (match argTypes.toList with
      | [t,_]=>Zgz P t 1
      | _=>false)
    | _=>false
  | .clr w zero y=>match o with
    | .call { callee:=.builtin .clear,args,argTypes }=>Zlv args.toList [y] && (match argTypes.toList with
      | [t]=>match P.underlying t with
        | some (.slice e)=>szB P e w && zB P e zero && zero.length == w
        | _=>false
      | _=>false)
    | _=>false
  | .mins y zs=>match o with
    | .call { callee:=.builtin .min,args,argTypes:=_ }=>Zlv args.toList (y :: zs)
    | _=>false
  | .sel ..=>false
  | .bad=>true
  | .maxs y zs=>match o with
    | .call { callee:=.builtin .max,args,argTypes:=_ }=>Zlv args.toList (y :: zs)
    | _=>false
  | .chk y=>match o with
    | .nilCheck x=>okO x y
    | _=>false
  | .call f ys=>match o with
    | .call { callee:=.value (.func f'),args,argTypes:=_ }=>f == f' && Zlv args.toList ys
    | _=>false
  | .callv g ys=>match o with
    | .call { callee:=.value x,args,argTypes:=_ }=>okO x g && Zlv args.toList ys
    | _=>false
end GoAm
