/- The abstract machine: values, memory, operations, code and calls. Own text; no program in sight. -/
import Derived.Calls
import Derived.LoopN
import Derived.Below
set_option autoImplicit false
namespace GoAm
open Go
abbrev V:=Go.Value
def O:V:=.tuple #[]
abbrev skp:V:=.chan none
structure Blk where
  cells:List V
  w:Nat
  st:Nat
abbrev Mem:=List Blk
inductive Opd where
  | t (n:Nat)
  | c (v:V)
inductive AOp where
  | mv (x:Opd)
  | pick (c a b:Opd)
  | new (cells:List V)
  | box (x:Opd)
  | build (zero:List V) (Zdi:List (Nat × Nat × Opd))
  | mkl (w n:Nat) (zero:List V) (Zdi:List (Nat × Nat × Opd))
  | load1 (a:Opd)
  | loadn (n:Nat) (a:Opd)
  | store (n:Nat) (a x:Opd)
  | bin (op:BinOp) (x y:Opd)
  | beq (neg:Bool) (x y:Opd)
  | eqs (neg:Bool) (ks:List Nat) (x y:Opd)
  | eqnil (neg:Bool) (x:Opd)
  | not (x:Opd)
  | neg (x:Opd)
  | bnot (x:Opd)
  | conv (k:IntKind) (x:Opd)
  | bts (x:Opd)
  | stb (x:Opd)
  | fn (f:FuncId) (cap:List Opd)
  | make (w bytes:Nat) (zero:List V) (len:Opd)
  | slc (w:Nat) (x:Opd) (lo hi:Option Opd)
  | slc0 (w:Nat) (x:Opd)
  | sls (x:Opd) (lo hi:Option Opd)
  | fa (off:Nat) (x:Opd)
  | fld1 (off:Nat) (x:Opd)
  | fldn (off n:Nat) (x:Opd)
  | ia (w:Nat) (x i:Opd)
  | ix (x i:Opd)
  | ext (x:Opd) (i:Nat)
  | len (x:Opd)
  | slen (x:Opd)
  | app (w bytes:Nat) (x y:Opd)
  | apps (x y:Opd)
  | appz (w bytes:Nat) (zero:List V) (x n:Opd)
  | copy (w:Nat) (x y:Opd)
  | copys (x y:Opd)
  | clr (w:Nat) (zero:List V) (x:Opd)
  | mins (x:Opd) (xs:List Opd)
  | maxs (x:Opd) (xs:List Opd)
  | sel (k j d e n:Nat) (zero:List V) (Zdi:List (Nat × Nat × Opd)) (i:Opd)
  | bad
  | chk (x:Opd)
  | call (f:FuncId) (args:List Opd)
  | callv (f:Opd) (args:List Opd)
structure AOper where
  dst:Option Nat
  op:AOp
  g:Option (Nat × Bool)
inductive ACode where
  | reg (draw:Bool) (ops:List AOper)
  | perm (pi:List Nat) (ops:List AOper)
  | seq (a b:ACode)
  | cond (c:Opd) (a b:ACode)
  | block (i:Nat) (b:ACode)
  | loop (keep:List Bool) (b:ACode)
  | exit (i:Nat)
  | ret
  | skip
  | ins (w bytes:Nat) (zero:List V)
inductive ARes where
  | tmp (t:Nat)
  | cell1 (t:Nat)
  | celln (t n:Nat)
structure AFun where
  code:ACode
  ntmps:Nat
  res:List ARes
abbrev Yd:=FuncId→List V→Mem→Option (V × Mem)
def ev (fr:List V):Opd→V
  | .t n=>fr.getD n O
  | .c v=>v
def one (v:V):Bool:=match v with
  | .agg _ | .tuple _ | .chan _=>false
  | _=>true
def cellsOf:V→List V
  | .agg cs=>cs.toList
  | v=>[v]
def ZgQ (op:BinOp):V→V→Option V
  | .int k a,.int k' b =>
    match op with
    | .shl=>if b < 0 then none else some (.int k (k.wrap (a * 2 ^ (min b.toNat k.bits))))
    | .shr=>if b < 0 then none else some (.int k (a.fdiv (2 ^ (min b.toNat k.bits))))
    | op=>if k=k' then
      match op with
      | .add=>some (.int k (k.wrap (a+b)))
      | .sub=>some (.int k (k.wrap (a - b)))
      | .mul=>some (.int k (k.wrap (a * b)))
      | .quo=>if b=0 then none else some (.int k (k.wrap (a.tdiv b)))
      | .rem=>if b=0 then none else some (.int k (a.tmod b))
      | .and=>some (.int k (k.wrap (BitVec.ofInt k.bits a &&& BitVec.ofInt k.bits b).toNat))
      | .or=>some (.int k (k.wrap (BitVec.ofInt k.bits a ||| BitVec.ofInt k.bits b).toNat))
      | .xor=>some (.int k (k.wrap (BitVec.ofInt k.bits a ^^^ BitVec.ofInt k.bits b).toNat))
      | .andNot=>some (.int k (k.wrap (BitVec.ofInt k.bits a &&& ~~~ BitVec.ofInt k.bits b).toNat))
      | .eql=>some (.bool (a == b))
      | .neq=>some (.bool (a != b))
      | .lss=>some (.bool (decide (a < b)))
      | .leq=>some (.bool (decide (a≤b)))
      | .gtr=>some (.bool (decide (b < a)))
      | .geq=>some (.bool (decide (b≤a)))
      | _=>none
    else none
  | .string x,.string y =>
    match op with
    | .add=>if x.size+y.size≤9223372036854775807 then some (.string ⟨(x.data.toList++y.data.toList).toArray⟩) else none
    | .eql=>some (.bool (x.data.toList == y.data.toList))
    | .neq=>some (.bool (!(x.data.toList == y.data.toList)))
    | .lss=>some (.bool (Op.bytesLess x.data.toList y.data.toList))
    | .leq=>some (.bool (Op.bytesLess x.data.toList y.data.toList || x.data.toList == y.data.toList))
    | .gtr=>some (.bool (!(Op.bytesLess x.data.toList y.data.toList || x.data.toList == y.data.toList)))
    | .geq=>some (.bool (!Op.bytesLess x.data.toList y.data.toList))
    | _=>none
  | _,_=>none
def Zmw:Nat→V→V→Option Bool
  | 0,.bool a,.bool b=>some (a == b)
  | 1,.int k a,.int k' b=>if k=k' then some (a == b) else none
  | 2,.string a,.string b=>some (a.data.toList == b.data.toList)
  | _,_,_=>none
def ZdG:List Nat→List V→List V→Option Bool
  | [],[],[]=>some true
  | k :: ks,a :: as,b :: bs=>match Zmw k a b with
    | some true=>ZdG ks as bs
    | some false=>some false
    | none=>none
  | _,_,_=>none
def rd1 (M:Mem) (l o:Nat):Option V :=
  match M[l]? with
  | some b=>if b.st=1∨b.st=2 then b.cells[o]? else none
  | none=>none
def rdn (M:Mem) (l o n:Nat):Option (List V) :=
  match M[l]? with
  | some b=>if (b.st=1∨b.st=2)∧o+n≤b.cells.length then some ((b.cells.drop o).take n) else none
  | none=>none
def Zj (M:Mem) (w:Nat):V→Option (Nat × List V)
  | .slice none 0 _=>some (0,[])
  | .slice (some ⟨l,o,none⟩) n _=>if n * w=0 then some (n,[]) else (rdn M l o (n * w)).map (n,·)
  | _=>none
def splice (cs:List V) (o:Nat) (vs:List V):List V:=cs.take o++vs++cs.drop (o+vs.length)
def wrn (M:Mem) (l o:Nat) (vs:List V):Option Mem :=
  match M[l]? with
  | some b=>if b.st=2∧o+vs.length≤b.cells.length∧vs.all one=true then some (M.set l { b with cells:=splice b.cells o vs }) else none
  | none=>none
def wre (w:Nat) (M:Mem) (l o:Nat) (vs:List V):Option Mem :=
  match M[l]? with
  | some b=>if b.st=2∧b.w=w∧o≤b.cells.length∧b.cells.length≤o+vs.length∧vs.all one=true then some (M.set l { b with cells:=b.cells.take o++vs }) else none
  | none=>none
def Zkw:V→Bool
  | .int _ _=>true
  | _=>false
def Zi2 (cells:List V):List (Nat × Nat × V)→Option (List V)
  | []=>some cells
  | (off,n,v) :: rest =>
    if (cellsOf v).length=n∧off+n≤cells.length∧(cellsOf v).all one=true then Zi2 (splice cells off (cellsOf v)) rest else none
def Zdi (fr:List V) (ps:List (Nat × Nat × Opd)):List (Nat × Nat × V):=ps.map fun p=>(p.1,p.2.1,ev fr p.2.2)
def zeroCells (zero:List V):Nat→List V
  | 0=>[]
  | n+1=>zero++zeroCells zero n
def ZhM (fr:List V) (d:Int):Option Opd→Option Int
  | none=>some d
  | some x=>match ev fr x with
    | .int _ i=>some i
    | _=>none
def Zf6:List V→Option (List UInt8)
  | []=>some []
  | .int .u8 n :: rest=>(Zf6 rest).map (UInt8.ofNat n.toNat :: ·)
  | _=>none
def Y0 (b:UInt8):V:=.int .u8 b.toNat
def Zdq (M:Mem) (w bytes:Nat) (x:V) (m:Nat) (ys:List V):Option (V × Mem) :=
  match x with
  | .slice none 0 _ =>
    if m=0 then some (.slice none 0 0,M)
    else if m * bytes≤140737488355328∧m≤9223372036854775807∧ys.all one=true then some (.slice (some ⟨M.length,0,none⟩) m m,M++[⟨ys,w,2⟩]) else none
  | .slice (some ⟨l,o,none⟩) n c =>
    if m=0 then some (x,M)
    else match M[l]? with
    | some b =>
      if ys.all one=false∨b.w ≠ w∨¬ (n+m) * bytes≤140737488355328∨¬ n+m≤9223372036854775807 then none
      else if b.st=3 then (if n=0 then some (.slice (some ⟨M.length,0,none⟩) m m,M++[⟨ys,w,2⟩]) else none)
      else if b.st=2 then
        if n+m≤c then
          (if o+(n+m) * w≤b.cells.length then some (.slice (some ⟨l,o,none⟩) (n+m) c,M.set l { b with cells:=splice b.cells (o+n * w) ys }) else none)
        else if o+n * w=b.cells.length then
          some (.slice (some ⟨M.length,0,none⟩) (n+m) (n+m),M.set l { b with st:=0 }++[⟨b.cells.drop o++ys,w,2⟩])
        else none
      else none
    | none=>none
  | _=>none
def Zpa (g:Int→Int→Int):V→List V→Option V
  | v,[]=>some v
  | .int k a,.int _ b :: rest=>Zpa g (.int k (g a b)) rest
  | _,_=>none
def Ze (call:Yd) (fr:List V) (M:Mem):AOp→Option (V × Mem)
  | .mv x=>some (ev fr x,M)
  | .pick c a b=>match ev fr c with
    | .bool p=>some (if p then ev fr a else ev fr b,M)
    | _=>none
  | .new cs=>if cs.all one=true then some (.pointer (some ⟨M.length,0,none⟩),M++[⟨cs,1,2⟩]) else none
  | .box x=>if (cellsOf (ev fr x)).all one=true then some (.pointer (some ⟨M.length,0,none⟩),M++[⟨cellsOf (ev fr x),1,2⟩]) else none
  | .build zero ps=>(Zi2 zero (Zdi fr ps)).map fun cs=>(.agg cs.toArray,M)
  | .mkl w n zero ps=>match Zi2 (zeroCells zero n) (Zdi fr ps) with
    | some cs=>if cs.all one=true then some (.slice (some ⟨M.length,0,none⟩) n n,M++[⟨cs,w,2⟩]) else none
    | none=>none
  | .load1 a=>match ev fr a with
    | .pointer (some ⟨l,o,none⟩)=>(rd1 M l o).map (·,M)
    | _=>none
  | .loadn n a=>match ev fr a with
    | .pointer (some ⟨l,o,none⟩)=>(rdn M l o n).map fun cs=>(.agg cs.toArray,M)
    | _=>none
  | .store n a x=>match ev fr a with
    | .pointer (some ⟨l,o,none⟩)=>if (cellsOf (ev fr x)).length=n then (wrn M l o (cellsOf (ev fr x))).map (O,·) else none
    | _=>none
  | .bin op x y=>(ZgQ op (ev fr x) (ev fr y)).map (·,M)
  | .beq neg x y=>match ev fr x,ev fr y with
    | .bool a,.bool b=>some (.bool ((a == b) != neg),M)
    | _,_=>none
  | .eqs neg ks x y=>match ev fr x,ev fr y with
    | .agg xs,.agg ys=>(ZdG ks xs.toList ys.toList).map fun b=>(.bool (b != neg),M)
    | _,_=>none
  | .eqnil neg x=>match ev fr x with
    | .slice a _ _=>some (.bool (a.isNone != neg),M)
    | _=>none
  | .not x=>match ev fr x with
    | .bool p=>some (.bool !p,M)
    | _=>none
  | .neg x=>match ev fr x with
    | .int k n=>some (.int k (k.wrap (0 - n)),M)
    | _=>none
  | .bnot x=>match ev fr x with
    | .int k n=>some (.int k (k.wrap (BitVec.ofInt k.bits (if k.signed then -1 else k.max) ^^^ BitVec.ofInt k.bits n).toNat),M)
    | _=>none
  | .conv k x=>match ev fr x with
    | .int _ n=>some (.int k (k.wrap n),M)
    | _=>none
  | .bts x=>match Zj M 1 (ev fr x) with
    | some (_,cs)=>(Zf6 cs).map fun bs=>(.string ⟨bs.toArray⟩,M)
    | none=>none
  | .stb x=>match ev fr x with
    | .string s=>some (.slice (some ⟨M.length,0,none⟩) s.size s.size,M++[⟨s.data.toList.map Y0,1,2⟩])
    | _=>none
  | .fn f cap=>some (.func (.func f) #[] (cap.map (ev fr)).toArray,M)
  | .make w bytes zero len=>match ev fr len with
    | .int _ n=>if 0≤n∧n * bytes≤281474976710656∧n≤9223372036854775807∧zero.all one=true then
        some (.slice (some ⟨M.length,0,none⟩) n.toNat n.toNat,M++[⟨zeroCells zero n.toNat,w,2⟩]) else none
    | _=>none
  | .slc w x lo hi=>match ev fr x with
    | .slice a n c=>match ZhM fr 0 lo,ZhM fr n hi with
      | some l,some h=>if 0≤l∧l≤h∧(h≤n∨h≤c) then
          match a with
          | none=>some (.slice none (h - l).toNat (c - l.toNat),M)
          | some ⟨b,o,none⟩=>match M[b]? with
            | some k=>if k.w=w then some (.slice (some ⟨b,o+l.toNat * w,none⟩) (h - l).toNat (max n c - l.toNat),M) else none
            | none=>none
          | _=>none
        else none
      | _,_=>none
    | _=>none
  | .slc0 w x=>match ev fr x with
    | .slice none _ _=>some (.slice none 0 0,M)
    | .slice (some _) _ _=>some (.slice (some ⟨M.length,0,none⟩) 0 0,M++[⟨[],w,3⟩])
    | _=>none
  | .sls x lo hi=>match ev fr x with
    | .string s=>match ZhM fr 0 lo,ZhM fr s.size hi with
      | some l,some h=>if 0≤l∧l≤h∧h≤s.size then some (.string ⟨((s.data.toList.take h.toNat).drop l.toNat).toArray⟩,M) else none
      | _,_=>none
    | _=>none
  | .fa off x=>match ev fr x with
    | .pointer (some ⟨l,o,none⟩)=>some (.pointer (some ⟨l,o+off,none⟩),M)
    | _=>none
  | .fld1 off x=>match ev fr x with
    | .agg cs=>match cs.toList[off]? with
      | some v=>some (v,M)
      | none=>none
    | _=>none
  | .fldn off n x=>match ev fr x with
    | .agg cs=>if off+n≤cs.toList.length then some (.agg ((cs.toList.drop off).take n).toArray,M) else none
    | _=>none
  | .ia w x i=>match ev fr x,ev fr i with
    | .slice (some ⟨l,o,none⟩) n _,.int _ i=>if 0≤i∧i < n then some (.pointer (some ⟨l,o+i.toNat * w,none⟩),M) else none
    | _,_=>none
  | .ix x i=>match ev fr x,ev fr i with
    | .string s,.int _ i=>if 0≤i then match s.data.toList[i.toNat]? with
        | some b=>some (Y0 b,M)
        | none=>none
      else none
    | _,_=>none
  | .ext x i=>match ev fr x with
    | .tuple vs=>match vs.toList[i]? with
      | some v=>some (v,M)
      | none=>none
    | _=>none
  | .len x=>match ev fr x with
    | .slice _ n _=>some (.int .i64 n,M)
    | _=>none
  | .slen x=>match ev fr x with
    | .string s=>some (.int .i64 s.size,M)
    | _=>none
  | .app w bytes x y=>match Zj M w (ev fr y) with
    | some (m,ys)=>Zdq M w bytes (ev fr x) m ys
    | none=>none
  | .apps x y=>match ev fr y with
    | .string s=>Zdq M 1 1 (ev fr x) s.size (s.data.toList.map Y0)
    | _=>none
  | .appz w bytes zero x y=>match ev fr y with
    | .int _ k=>if 0≤k∧k≤9223372036854775807∧k * bytes≤281474976710656 then Zdq M w bytes (ev fr x) k.toNat (zeroCells zero k.toNat) else none
    | _=>none
  | .copy w x y=>match ev fr x,ev fr y with
    | .slice a n _,.slice b m _=>match Zj M w (.slice b (min m n) 0) with
      | some (k,cs)=>match a with
        | none=>some (.int .i64 k,M)
        | some ⟨l,o,none⟩=>if cs=[] then some (.int .i64 k,M) else ((wrn M l o cs).or (wre w M l o cs)).map (.int .i64 k,·)
        | _=>none
      | none=>none
    | _,_=>none
  | .copys x y=>match ev fr x,ev fr y with
    | .slice a n _,.string s=>match a with
      | none=>some (.int .i64 (min s.size n:Nat),M)
      | some ⟨l,o,none⟩=>if min s.size n=0 then some (.int .i64 0,M) else (wrn M l o ((s.data.toList.take (min s.size n)).map Y0)).map (.int .i64 (min s.size n:Nat),·)
      | _=>none
    | _,_=>none
  | .clr _ zero x=>match ev fr x with
    | .slice none _ _=>some (O,M)
    | .slice (some ⟨l,o,none⟩) n _=>if n=0 then some (O,M) else (wrn M l o (zeroCells zero n)).map (O,·)
    | _=>none
  | .sel _ _ d e n zero ps y=>match Zi2 (zeroCells zero n) (Zdi fr ps),ev fr y with
    | some cs,.int _ i=>if cs.all Zkw=true∧cs.length=n∧0≤i∧i < n∧(fr[d]?).isSome=true∧(fr[e]?).isSome=true then (cs[i.toNat]?).map (·,M) else none
    | _,_=>none
  | .mins x xs=>(Zpa (fun a b=>if b < a then b else a) (ev fr x) (xs.map (ev fr))).map (·,M)
  | .maxs x xs=>(Zpa (fun a b=>if a < b then b else a) (ev fr x) (xs.map (ev fr))).map (·,M)
  | .bad=>none
  | .chk x=>match ev fr x with
    | .pointer (some a)=>some (.pointer (some a),M)
    | _=>none
  | .call f args=>call f (args.map (ev fr)) M
  | .callv f args=>match ev fr f with
    | .func (.func f) first cap=>call f (first.toList++args.map (ev fr)++cap.toList) M
    | _=>none
def JC (fr:List V):Option Nat→V→List V
  | some d,v=>fr.set d v
  | none,_=>fr
def Zbh (fr:List V):Option (Nat × Bool)→Option Bool
  | none=>some true
  | some (s,b)=>match fr[s]? with
    | some (.bool p)=>some (p == b)
    | some (.chan none)=>some false
    | _=>none
def Zhn (call:Yd):List AOper→List V→Mem→Option (List V × Mem)
  | [],fr,M=>some (fr,M)
  | o :: os,fr,M=>match Zbh fr o.g with
    | some true=>match Ze call fr M o.op with
      | some (v,M')=>Zhn call os (JC fr o.dst v) M'
      | none=>none
    | some false=>Zhn call os (JC fr o.dst skp) M
    | none=>none
def eff:AOp→Bool
  | .new _ | .box _ | .mkl .. | .store .. | .stb _ | .make .. | .slc0 .. | .app .. | .apps .. | .appz .. | .copy .. | .copys .. | .clr .. | .call .. | .callv ..=>true
  | _=>false
def mem:AOp→Bool
  | .load1 _ | .loadn _ _ | .bts _ | .slc _ _ _ _=>true
  | _=>false
def Zea:AOp→Bool
  | .store ..=>true
  | .copy ..=>true
  | _=>false
def ZAW:AOp→Bool
  | .call ..=>true
  | .callv ..=>true
  | _=>false
def Zp6 (os:List AOper):Bool:=os.all fun p=>(!eff p.op || Zea p.op) && !mem p.op
def ZyV:AOp→Bool
  | .mv _=>true
  | _=>false
def mvs (os:List AOper):Bool:=os.all fun p=>ZyV p.op
def fin (op:AOp) (os:List AOper):Bool:=(Zea op && Zp6 os) || (ZAW op && mvs os)
def rfp (fr:List V):AOp→List Nat
  | .load1 x=>match ev fr x with
    | .pointer (some a)=>[a.block]
    | _=>[]
  | .loadn _ x=>match ev fr x with
    | .pointer (some a)=>[a.block]
    | _=>[]
  | .bts x=>match ev fr x with
    | .slice (some a) n _=>if n=0 then [] else [a.block]
    | _=>[]
  | .slc _ x _ _=>match ev fr x with
    | .slice (some a) _ _=>[a.block]
    | _=>[]
  | _=>[]
def wfs:V→List Nat
  | .pointer (some a)=>[a.block]
  | .slice (some a) _ _=>[a.block]
  | _=>[]
def wfp (fr:List V):AOp→List Nat
  | .store _ x _=>wfs (ev fr x)
  | .app _ _ x _=>wfs (ev fr x)
  | .apps x _=>wfs (ev fr x)
  | .appz _ _ _ x _=>wfs (ev fr x)
  | .copy _ x _=>wfs (ev fr x)
  | .copys x _=>wfs (ev fr x)
  | .clr _ _ x=>wfs (ev fr x)
  | _=>[]
def pfs:V→List Nat
  | .pointer (some a)=>[a.block]
  | _=>[]
def cfp (fr:List V):AOp→List Nat
  | .call _ xs=>xs.flatMap fun x=>pfs (ev fr x)
  | _=>[]
def Zfx (xs ys:List Nat):Bool:=xs.any fun x=>ys.any fun y=>decide (x=y)
def JQ (M M':Mem) (w:List Nat):Prop:=M.length≤M'.length∧∀ b,b < M.length→b ∉ w→M'[b]?=M[b]?
noncomputable def JP (call:Yd):List Nat→List Nat→List AOper→List V→Mem→Option (List V × Mem)
  | _,_,[],fr,M=>some (fr,M)
  | R,W,o :: os,fr,M=>match Zbh fr o.g with
    | some true=>if Zfx (rfp fr o.op) W=true then none else match Ze call fr M o.op with
      | some (v,M')=>open Classical in if M <+: M'∨(Zea o.op && Zp6 os)=true∨(JQ M M' (wfp fr o.op)∧Zfx (wfp fr o.op) R=false)∨((ZAW o.op && mvs os)=true∧M.length≤M'.length) then JP call (rfp fr o.op++R) (wfp fr o.op++W) os (JC fr o.dst v) M' else if ZAW o.op=true∧JQ M M' (cfp fr o.op)∧Zfx (cfp fr o.op) R=false then JP call (rfp fr o.op++R) (cfp fr o.op++W) os (JC fr o.dst v) M' else none
      | none=>none
    | some false=>JP call R W os (JC fr o.dst skp) M
    | none=>none
inductive Ex where
  | norm
  | exit (i:Nat)
  | ret
abbrev R:=Option (Ex × List V × Mem)
def Zcm (step:List V→Mem→R):Nat→List V→Mem→R
  | 0,_,_=>none
  | n+1,fr,M=>match step fr M with
    | some (.norm,fr',M')=>Zcm step n fr' M'
    | r=>r
open Classical in
noncomputable def ZqJ (step:List V→Mem→R) (fr:List V) (M:Mem):R :=
  if h:∃ n,Zcm step n fr M ≠ none then Zcm step h.choose fr M else none
def Zs:List Bool→List V→List V
  | true :: m,v :: fr=>v :: Zs m fr
  | false :: m,_ :: fr=>O :: Zs m fr
  | [],fr=>fr
  | _ :: _,[]=>[]
open Classical in
noncomputable def ZEg (w bytes:Nat) (s x v m7 m8:V) (len:Nat) (M:Mem):Option (V × Mem) :=
  match s,x,v with
  | .slice (some ⟨l,o,none⟩) n _,.int .i64 i,.slice (some ⟨l2,o2,none⟩) m c2 =>
    match M[l]?,Zj M w (.slice (some ⟨l2,o2,none⟩) m c2) with
    | some b,some (_,ys) =>
      if m=1∧l2 ≠ l∧1 < w∧b.st=2∧b.w=w∧o+n * w=b.cells.length∧0≤i∧i < n∧(n+1) * bytes≤140737488355328∧n+1≤9223372036854775807∧ys.all one=true ∧
          m7=.int .i64 1∧m8=.int .i64 n∧len=95 then
        some (.slice (some ⟨M.length,0,none⟩) (n+1) (n+1),M.set l { b with st:=0 }++[⟨(b.cells.drop o).take (i.toNat * w)++ys++(b.cells.drop o).drop (i.toNat * w),w,2⟩])
      else none
    | _,_=>none
  | _,_,_=>none
noncomputable def ZGo (w bytes:Nat) (fr:List V) (M:Mem):Option (V × Mem):=ZEg w bytes (fr.getD 0 O) (fr.getD 1 O) (fr.getD 2 O) (fr.getD 7 O) (fr.getD 8 O) fr.length M
noncomputable def Zu (call:Yd):ACode→List V→Mem→R
  | .reg d os,fr,M=>match (if d then JP call [] [] os fr M else Zhn call os fr M) with
    | some (fr',M')=>some (.norm,fr',M')
    | none=>none
  | .perm _ os,fr,M=>match JP call [] [] os fr M with
    | some (fr',M')=>some (.norm,fr',M')
    | none=>none
  | .seq a b,fr,M=>match Zu call a fr M with
    | some (.norm,fr',M')=>Zu call b fr' M'
    | r=>r
  | .cond c a b,fr,M=>match ev fr c with
    | .bool p=>if p then Zu call a fr M else Zu call b fr M
    | _=>none
  | .block i b,fr,M=>match Zu call b fr M with
    | some (.exit j,fr',M')=>if j=i then some (.norm,fr',M') else some (.exit j,fr',M')
    | r=>r
  | .loop m b,fr,M=>ZqJ (fun fr M=>Zu call b (Zs m fr) M) fr M
  | .exit i,fr,M=>some (.exit i,fr,M)
  | .ret,fr,M=>some (.ret,fr,M)
  | .skip,fr,M=>some (.norm,fr,M)
  | .ins w bytes _,fr,M=>match ZGo w bytes fr M with
    | some (v,M')=>some (.ret,(List.replicate 95 O).set 6 v,M')
    | none=>none
def ZEd (fr:List V) (M:Mem):ARes→Option V
  | .tmp t=>some (fr.getD t O)
  | .cell1 t=>match fr.getD t O with
    | .pointer (some ⟨l,o,none⟩)=>rd1 M l o
    | _=>none
  | .celln t n=>match fr.getD t O with
    | .pointer (some ⟨l,o,none⟩)=>(rdn M l o n).map fun cs=>.agg cs.toArray
    | _=>none
def Zr5 (fr:List V) (M:Mem):List ARes→Option (List V)
  | []=>some []
  | r :: rs=>match ZEd fr M r,Zr5 fr M rs with
    | some v,some vs=>some (v :: vs)
    | _,_=>none
def Zmd (fr:List V) (M:Mem) (rs:List ARes):Option V :=
  match Zr5 fr M rs with
  | some [v]=>some v
  | some vs=>some (.tuple vs.toArray)
  | none=>none
def Zu3:V→Bool
  | .bool _ | .int _ _ | .string _=>true
  | _=>false
def ZqG:V→Bool
  | .bool _ | .int _ _ | .string _=>true
  | .tuple vs=>vs.toList.all Zu3
  | .agg vs=>vs.toList.all Zu3
  | _=>false
open Classical in
noncomputable def gc (M:Mem):Option (V × Mem)→Option (V × Mem)
  | some (v,M')=>if ZqG v=true∧M <+: M' then some (v,M) else some (v,M')
  | none=>none
noncomputable def Zyw (call:Yd) (f:AFun) (args:List V) (M:Mem):Option (V × Mem) :=
  gc M (match Zu call f.code (args++List.replicate (f.ntmps - args.length) O) M with
  | some (.norm,fr,M')=>(Zmd fr M' f.res).map (·,M')
  | some (.ret,fr,M')=>(Zmd fr M' f.res).map (·,M')
  | _=>none)
abbrev Tab:=FuncId→Option AFun
noncomputable def Jv (T:Tab):Nat→Yd
  | 0,_,_,_=>none
  | k+1,f,args,M=>match T f with
    | some af=>Zyw (Jv T k) af args M
    | none=>none
open Classical in
noncomputable def Zb (T:Tab) (f:FuncId) (args:List V) (M:Mem):Option (V × Mem) :=
  if h:∃ k,Jv T k f args M ≠ none then Jv T h.choose f args M else none
end GoAm
