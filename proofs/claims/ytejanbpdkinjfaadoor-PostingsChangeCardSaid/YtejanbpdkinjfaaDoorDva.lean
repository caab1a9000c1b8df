/- Texts that a proof of this claim uses, joined: Dv.Core, Dv.Prim, Dv.Glob, Dv.Rel, Dv.Val, Dv.Val2, Dv.Val3, Dv.Val4, Dv.Val5, Dv.Val6, Dv.Val7, Dv.Val8, Dv.Objs, Dv.Alloc, Dv.Alloc2, Dv.Append, Dv.Append2, Dv.Append3, Dv.Append4, Dv.Append5, Dv.Write, Dv.Write2, Dv.Write3, Dv.Write4, Dv.Ext, Dv.Snap, Dv.Strip. -/
import GoSem.Step
import Derived.OrdersIn
import Derived.RangeFuncLeaves
import Derived.Laws.StructEq
import Derived.IntWalk
import Derived.Laws.IdiomStrings
set_option linter.all false
namespace Dv
open Go (IntKind BinOp UnOp)

inductive Spare where
 | exact
 | none
 | tok (k : Nat)

inductive D where
 | undef
 | bool (b : Bool)
 | int (k : IntKind) (n : Int)
 | str (s : List UInt8)
 | nilp
 | loc (id off : Nat)
 | iptr (cells : List D)
 | imm (sp : Spare) (els : List D)
 | sl (id off len sz : Nat) (ag gr : Bool)
 | map (id : Option Nat)
 | fn (f : Nat) (caps : List D)
 | bfn (f : Nat) (r : D)
 | nilfn
 | yld (id : Nat)
 | agg (cells : List D)
 | tup (vs : List D)

instance : Inhabited D:=⟨.undef⟩

inductive TK where
 | bool
 | int (k : IntKind)
 | str
 | slice (e : Nat)
 | struct (fs : List (Nat × Nat))
 | arr (n e : Nat)
 | map (k e : Nat)
 | ptr (e : Nat)
 | func
 | other

structure TI where
 k : TK
 size : Nat
 bytes : Nat
 zero : List D
 eqc : Bool

instance : Inhabited TI:=⟨⟨.other,0,0,[],false⟩⟩

def TI.ag (i : TI) : Bool:=
 match i.k with
 | .struct _=>true
 | .arr _ _=>true
 | _=>false

inductive Opd where
 | t (n : Nat)
 | c (d : D)
 | f (k : Nat)

inductive DOp where
 | move (x : Opd)
 | assign (x : Opd)
 | pick (c a b : Opd)
 | alloc (t : Nat)
 | box (t : Nat) (x : Opd)
 | build (t : Nat) (parts : List (Nat × Opd))
 | bslice (mu : Bool) (t len : Nat) (parts : List (Nat × Opd))
 | load (t : Nat) (a : Opd)
 | store (t : Nat) (a x : Opd)
 | bin (op : BinOp) (t : Nat) (x y : Opd)
 | un (op : UnOp) (x : Opd)
 | conv (src dst : Nat) (x : Opd)
 | mkfn (f : Nat) (caps : List Opd)
 | mkmap (t : Nat)
 | mkslice (mu : Bool) (t : Nat) (l c : Opd)
 | slice (t : Nat) (x : Opd) (lo hi mx : Option Opd)
 | faddr (t : Nat) (x : Opd) (f : Nat)
 | field (t : Nat) (x : Opd) (f : Nat)
 | iaddr (t : Nat) (x i : Opd)
 | index (t : Nat) (x i : Opd)
 | lookup (t : Nat) (m k : Opd) (ok : Bool)
 | mapset (t : Nat) (m k v : Opd)
 | extract (x : Opd) (i : Nat)
 | call (md : Nat) (f : Opd) (args : List Opd)
 | append (mu : Nat) (t t2 : Nat) (x y : Opd)
 | len (t : Nat) (x : Opd)
 | maxi (args : List Opd)
 | mini (args : List Opd)
 | copy (t t2 : Nat) (x y : Opd)
 | nilc (x : Opd)
 | mark (b : Bool) (x : Opd)
 | b2s (s d : Nat) (x : Opd)
 | s2b (s d : Nat) (x : Opd)
 | mkcap (t : Nat) (l c : Opd)
 | reslice (t : Nat) (x h : Opd)
 | clr (t : Nat) (x : Opd)
 | ibox (t : Nat) (x : Opd)
 | iload (t : Nat) (a : Opd)
 | mkbfn (f : Nat) (x : Opd)
 | mkcall (f : Opd) (as : List Opd)
 | prim (n : Nat) (as : List Opd)

structure DOpr where
 dst : Option Nat
 op : DOp
 gd : Option (Nat × Bool)

inductive DC where
 | skip
 | region (dr : Bool) (ap : List (Nat × Nat)) (ops : List DOpr)
 | seq (a b : DC)
 | cond (c : Opd) (a b : DC)
 | ifp (x : Opd) (a b : DC)
 | block (id : Nat) (a : DC)
 | loop (a : DC)
 | rfunc (f : Opd) (ps : List Nat) (asg body : DC)
 | exit (id : Nat)
 | ret

inductive RV where
 | tmp (t : Nat)
 | cell (a t : Nat)

structure DFn where
 ntmps : Nat
 results : List RV
 body : DC

inductive Ex where
 | normal
 | exit (id : Nat)
 | ret

inductive Obj where
 | dead
 | cells (cs : List D)
 | frozen (cs : List D)
 | tok (used sz : Nat)
 | map (es : List (D × D))
 | loop (busy : Bool) (slots : List D) (ps : List Nat) (asg body : DC) (pend : Option Ex)

structure Env where
 ty : Nat -> TI
 fn : Nat -> Option DFn
 keep : Nat -> Bool
 mp : Nat -> Bool:=fun _=>false
 prim : Nat -> List D -> List Obj -> Option (D × List Obj):=fun _ _ _=>none

structure St where
 sl : List D
 hp : List Obj


def D.flatB : D -> Bool
 | .bool _=>true
 | .int _ _=>true
 | .str _=>true
 | _=>false

def D.closed : D -> Bool
 | .tup l=>l.all D.flatB
 | d=>d.flatB

def D.atom : D -> Bool
 | .agg _=>false
 | .tup _=>false
 | .undef=>false
 | _=>true

def D.cellsL : D -> List D
 | .agg cs=>cs
 | d=>[d]

def D.storable : D -> Bool
 | .agg cs=>cs.all D.atom
 | d=>d.atom

def ofCells (ag : Bool) (cs : List D) : Option D:=
 match ag,cs with
 | true,cs=>some (.agg cs)
 | false,[c]=>some c
 | false,_=>none

def takeC (cs : List D) (off : Nat) : Nat -> Option (List D)
 | 0=>some []
 | n + 1=>match cs[off]? with
  | some c=>(match takeC cs (off + 1) n with
   | some r=>some (c :: r)
   | none=>none)
  | none=>none

def setCells (cs : List D) (off : Nat) : List D -> List D
 | []=>cs
 | v :: vs=>setCells (cs.set off v) (off + 1) vs

def chunk (sz : Nat) (ag : Bool) : Nat -> List D -> Option (List D)
 | 0,_=>some []
 | n + 1,cs=>match takeC cs 0 sz with
  | some c=>(match ofCells ag c,chunk sz ag n (cs.drop sz) with
   | some d,some r=>some (d :: r)
   | _,_=>none)
  | none=>none

def flat (els : List D) : List D:=els.flatMap D.cellsL

def atomEq : D -> D -> Option Bool
 | .bool a,.bool b=>some (a == b)
 | .int k a,.int k' b=>if k = k' then some (a == b) else none
 | .str a,.str b=>some (a == b)
 | _,_=>none

def eqL : List D -> List D -> Option Bool
 | [],[]=>some true
 | x :: xs,y :: ys=>(match atomEq x y,eqL xs ys with
  | some a,some b=>some (a && b)
  | _,_=>none)
 | _,_=>none

def D.eqb : D -> D -> Option Bool
 | .agg xs,.agg ys=>eqL xs ys
 | x,y=>atomEq x y

def mapFind (k : D) : List (D × D) -> Option (Option D)
 | []=>some none
 | e :: es=>match k.eqb e.1 with
  | some true=>some (some e.2)
  | some false=>mapFind k es
  | none=>none

def mapPut (k v : D) : List (D × D) -> Option (List (D × D))
 | []=>some [(k,v)]
 | e :: es=>match k.eqb e.1 with
  | some true=>some ((k,v) :: es)
  | some false=>(mapPut k v es).map (e :: ·)
  | none=>none

def andI (k : IntKind) (a b : Int) : Int:=k.wrap ((BitVec.ofInt k.bits a &&& BitVec.ofInt k.bits b).toNat : Nat)
def iorI (k : IntKind) (a b : Int) : Int:=k.wrap ((BitVec.ofInt k.bits a ||| BitVec.ofInt k.bits b).toNat : Nat)
def xorI (k : IntKind) (a b : Int) : Int:=k.wrap ((BitVec.ofInt k.bits a ^^^ BitVec.ofInt k.bits b).toNat : Nat)

def intBin (op : BinOp) (k : IntKind) (a b : Int) : Option D:=
 match op with
 | .and=>some (.int k (andI k a b))
 | .or=>some (.int k (iorI k a b))
 | .xor=>some (.int k (xorI k a b))
 | .add=>some (.int k (k.wrap (a + b)))
 | .sub=>some (.int k (k.wrap (a - b)))
 | .mul=>some (.int k (k.wrap (a * b)))
 | .quo=>if b = 0 then none else some (.int k (k.wrap (a.tdiv b)))
 | .rem=>if b = 0 then none else some (.int k (a.tmod b))
 | .eql=>some (.bool (a == b))
 | .neq=>some (.bool (a != b))
 | .lss=>some (.bool (decide (a < b)))
 | .leq=>some (.bool (decide (a <= b)))
 | .gtr=>some (.bool (decide (b < a)))
 | .geq=>some (.bool (decide (b <= a)))
 | _=>none

def kindsL : List D -> List D -> Bool
 | [],[]=>true
 | .bool _ :: xs,.bool _ :: ys=>kindsL xs ys
 | .int k _ :: xs,.int k' _ :: ys=>decide (k = k') && kindsL xs ys
 | .str _ :: xs,.str _ :: ys=>kindsL xs ys
 | _,_=>false

def binD (E : Env) (op : BinOp) (t : Nat) (x y : D) : Option D:=
 match x,y with
 | .int k a,.int k' b=>(match op with
  | .shl=>if 0 <= b then some (.int k (k.wrap (a * 2 ^ (min b.toNat k.bits)))) else none
  | .shr=>if 0 <= b then some (.int k (a.fdiv (2 ^ (min b.toNat k.bits)))) else none
  | op=>if k = k' then intBin op k a b else none)
 | .bool a,.bool b=>(match (E.ty t).k,op with
  | .bool,.eql=>some (.bool (a == b))
  | .bool,.neq=>some (.bool (!(a == b)))
  | _,_=>none)
 | .agg xs,.agg ys=>if (E.ty t).eqc = true /\ kindsL xs (E.ty t).zero = true then (match op,eqL xs ys with
  | .eql,some r=>some (.bool r)
  | .neq,some r=>some (.bool (!r))
  | _,_=>none) else none
 | .str a,.str b=>(match op with
  | .eql=>some (.bool (a == b))
  | .neq=>some (.bool (!(a == b)))
  | _=>none)
 | _,_=>none

def unD (op : UnOp) (x : D) : Option D:=
 match op,x with
 | .not,.bool b=>some (.bool (!b))
 | .xor,.int k n=>some (.int k (xorI k (if k.signed then -1 else k.max) n))
 | .neg,.int k n=>some (.int k (k.wrap (0 - n)))
 | _,_=>none

def convD (E : Env) (src dst : Nat) (x : D) : Option D:=
 match (E.ty src).k,(E.ty dst).k,x with
 | .int _,.int k,.int _ n=>some (.int k (k.wrap n))
 | _,_,_=>none

def bnd (x : Option D) (dflt : Nat) : Option Nat:=
 match x with
 | none=>some dflt
 | some (.int _ n)=>if 0 <= n then some n.toNat else none
 | some _=>none

def loadD (E : Env) (hp : List Obj) (t : Nat) (a : D) : Option D:=
 match a with
 | .loc id off=>(match hp[id]? with
  | some (.cells cs)=>(takeC cs off (E.ty t).size).bind (ofCells (E.ty t).ag)
  | some (.frozen cs)=>(takeC cs off (E.ty t).size).bind (ofCells (E.ty t).ag)
  | _=>none)
 | .iptr cs=>(takeC cs 0 (E.ty t).size).bind (ofCells (E.ty t).ag)
 | _=>none

def iloadD (E : Env) (t : Nat) (a : D) : Option D:=
 match a with
 | .iptr cs=>(takeC cs 0 (E.ty t).size).bind (ofCells (E.ty t).ag)
 | _=>none

def iaddrD (E : Env) (t : Nat) (x i : D) : Option D:=
 match x,i,(E.ty t).k with
 | .imm _ els,.int _ n,.slice e=>
  if 0 <= n then (match els[n.toNat]? with
   | some d=>if d.cellsL.length = (E.ty e).size then some (.iptr d.cellsL) else none
   | none=>none) else none
 | .sl id off len sz _ _,.int _ n,.slice e=>
  if 0 <= n /\ n < len /\ sz = (E.ty e).size then some (.loc id (off + n.toNat * sz)) else none
 | .loc id off,.int _ n,.arr len e=>
  if 0 <= n /\ n < len then some (.loc id (off + n.toNat * (E.ty e).size)) else none
 | .iptr cs,.int _ n,.arr len e=>
  if 0 <= n /\ n < len then some (.iptr (cs.drop (n.toNat * (E.ty e).size))) else none
 | _,_,_=>none

def sliceSpare (sp : Spare) (len hi : Nat) (mx : Option Nat) : Spare:=
 match mx with
 | some m=>if m = hi then .exact else .none
 | none=>if hi = len then (match sp with | .exact=>.exact | _=>.none) else .none

def headFits (sz : Nat) (els : List D) : Bool:=
 match els with
 | []=>true
 | d :: _=>d.cellsL.length == sz

def sliceD (E : Env) (t : Nat) (x : D) (lo hi mx : Option D) : Option D:=
 match x,(E.ty t).k with
 | .imm sp els,.slice e=>
  (match bnd lo 0,bnd hi els.length,bnd mx els.length with
  | some l,some h,some m=>
   if l <= h /\ h <= m /\ m <= els.length /\ headFits (E.ty e).size els = true then some (.imm (sliceSpare sp els.length h (mx.map fun _=>m)) ((els.drop l).take (h - l))) else none
  | _,_,_=>none)
 | .sl id off len sz ag _,.slice e=>
  (match bnd lo 0,bnd hi len,mx with
  | some l,some h,none=>if l <= h /\ h <= len /\ sz = (E.ty e).size then some (.sl id (off + l * sz) (h - l) sz ag false) else none
  | _,_,_=>none)
 | .loc id off,.arr n e=>
  (match bnd lo 0,bnd hi n,mx with
  | some l,some h,none=>if l <= h /\ h <= n then some (.sl id (off + l * (E.ty e).size) (h - l) (E.ty e).size (E.ty e).ag false) else none
  | _,_,_=>none)
 | .iptr cs,.arr n e=>
  (match bnd lo 0,bnd hi n,mx with
  | some l,some h,none=>if l <= h /\ h <= n /\ n <= cs.length /\ (E.ty e).size = 1 /\ cs.all (fun d=>d.atom) = true then some (.imm .none ((cs.drop l).take (h - l))) else none
  | _,_,_=>none)
 | _,_=>none

def fillD (place : Nat -> Option (Nat × Nat)) (cells : List D) : List (Nat × D) -> Option (List D)
 | []=>some cells
 | p :: rest=>match place p.1 with
  | none=>none
  | some (off,size)=>
   if p.2.storable = true /\ p.2.cellsL.length = size /\ off + size <= cells.length then fillD place (setCells cells off p.2.cellsL) rest else none

def buildD (E : Env) (t : Nat) (parts : List (Nat × D)) : Option D:=
 match (E.ty t).k with
 | .struct fs=>(fillD (fun i=>(fs[i]?).map fun f=>(f.1,(E.ty f.2).size)) (E.ty t).zero parts).map .agg
 | .arr _ e=>(fillD (fun i=>some (i * (E.ty e).size,(E.ty e).size)) (E.ty t).zero parts).map .agg
 | _=>none

def fillE (sz : Nat) (els : List D) : List (Nat × D) -> Option (List D)
 | []=>some els
 | p :: rest=>
   if p.2.storable = true /\ p.2.cellsL.length = sz /\ p.1 < els.length then fillE sz (els.set p.1 p.2) rest else none

def fieldD (E : Env) (t : Nat) (x : D) (f : Nat) : Option D:=
 match (E.ty t).k,x with
 | .struct fs,.agg cs=>(match fs[f]? with
  | some (off,u)=>(takeC cs off (E.ty u).size).bind (ofCells (E.ty u).ag)
  | none=>none)
 | _,_=>none

def faddrD (E : Env) (t : Nat) (x : D) (f : Nat) : Option D:=
 match (E.ty t).k,x with
 | .struct fs,.loc id off=>(match fs[f]? with
  | some (o,u)=>if (E.ty u).size = 0 then none else some (.loc id (off + o))
  | none=>none)
 | .struct fs,.iptr cs=>(match fs[f]? with
  | some (o,u)=>if (E.ty u).size = 0 then none else some (.iptr (cs.drop o))
  | none=>none)
 | _,_=>none

def indexD (E : Env) (t : Nat) (x i : D) : Option D:=
 match (E.ty t).k,x,i with
 | .arr len e,.agg cs,.int _ n=>if 0 <= n /\ n < len then (takeC cs (n.toNat * (E.ty e).size) (E.ty e).size).bind (ofCells (E.ty e).ag) else none
 | .str,.str s,.int _ n=>if 0 <= n then (match s[n.toNat]? with | some b=>some (.int .u8 b.toNat) | none=>none) else none
 | _,_,_=>none

def lenD (E : Env) (hp : List Obj) (t : Nat) (x : D) : Option D:=
 match (E.ty t).k,x with
 | .slice _,.imm _ els=>some (.int .i64 els.length)
 | .slice _,.sl _ _ len _ _ _=>some (.int .i64 len)
 | .str,.str s=>some (.int .i64 s.length)
 | .arr n _,_=>some (.int .i64 n)
 | .map _ _,.map none=>some (.int .i64 0)
 | .map _ _,.map (some id)=>(match hp[id]? with
  | some (.map es)=>some (.int .i64 es.length)
  | _=>none)
 | _,_=>none

def foldI (f : Int -> Int -> Int) (k : IntKind) (a : Int) : List D -> Option D
 | []=>some (.int k a)
 | .int k' b :: r=>if k = k' then foldI f k (f a b) r else none
 | _ :: _=>none

def maxiD : List D -> Option D
 | .int k a :: r=>foldI (fun a b=>if b > a then b else a) k a r
 | _=>none

def miniD : List D -> Option D
 | .int k a :: r=>foldI (fun a b=>if b < a then b else a) k a r
 | _=>none

def keyOk (E : Env) (kt : Nat) (k : D) : Bool:=
 match k,(E.ty kt).k with
 | .agg xs,_=>(E.ty kt).eqc && kindsL xs (E.ty kt).zero
 | .bool _,.bool=>true
 | .int q _,.int q'=>decide (q = q')
 | .str _,.str=>true
 | _,_=>false

def zeroE (E : Env) (e : Nat) : Option D:=
 if (E.ty e).zero.length = (E.ty e).size /\ (E.ty e).size ≠ 0 then (match ofCells (E.ty e).ag (E.ty e).zero with
  | some z=>if z.cellsL.length = (E.ty e).size /\ z.storable = true then some z else none
  | none=>none) else none

def lookupD (E : Env) (hp : List Obj) (t : Nat) (m k : D) (ok : Bool) : Option D:=
 match (E.ty t).k,m with
 | .map kt e,.map mid=>
  if keyOk E kt k = true then
  (match (match mid with
   | none=>some []
   | some id=>(match hp[id]? with
    | some (.map es)=>some es
    | _=>none)) with
  | some es=>(match mapFind k es with
   | some (some v)=>some (if ok then .tup [v,.bool true] else v)
   | some none=>(match zeroE E e with
     | some z=>some (if ok then .tup [z,.bool false] else z)
     | none=>none)
   | none=>none)
  | none=>none) else none
 | _,_=>none


def rowOf (hp : List Obj) (id : Nat) : Option (List D):=
 match hp[id]? with
 | some (.cells cs)=>some cs
 | some (.frozen cs)=>some cs
 | _=>none

def frzL (f : D -> Option D) : List D -> Option (List D)
 | []=>some []
 | d :: r=>match f d,frzL f r with
  | some d',some r'=>some (d' :: r')
  | _,_=>none

def frz (hp : List Obj) : Nat -> D -> Option D
 | 0,_=>none
 | n + 1,d=>match d with
  | .bool b=>some (.bool b)
  | .int k x=>some (.int k x)
  | .str s=>some (.str s)
  | .nilp=>some .nilp
  | .nilfn=>some .nilfn
  | .map none=>some (.map none)
  | .imm _ els=>(frzL (frz hp n) els).map (.imm .none)
  | .agg cs=>(frzL (frz hp n) cs).map .agg
  | .tup cs=>(frzL (frz hp n) cs).map .tup
  | .fn f caps=>(frzL (frz hp n) caps).map (.fn f)
  | .iptr cs=>(frzL (frz hp n) cs).map .iptr
  | .sl id off len sz ag _=>(match rowOf hp id with
   | some cs=>(match chunk sz ag len (cs.drop off) with
    | some els=>(frzL (frz hp n) els).map (.imm .none)
    | none=>none)
   | none=>none)
  | .loc id off=>(match rowOf hp id with
   | some cs=>(frzL (frz hp n) (cs.drop off)).map .iptr
   | none=>none)
  | _=>none

def frz1 (hp : List Obj) : Nat -> D -> Option D
 | n + 1,.imm .exact els=>(frzL (frz hp n) els).map (.imm .exact)
 | n,d=>frz hp n d

def frzX (hp : List Obj) : Nat -> D -> Option D
 | n + 1,.tup cs=>(frzL (frz1 hp n) cs).map .tup
 | n,d=>frz1 hp n d

def ids (hp : List Obj) : Nat -> D -> List Nat
 | 0,_=>[]
 | n + 1,d=>match d with
  | .imm _ els=>els.flatMap (ids hp n)
  | .agg cs=>cs.flatMap (ids hp n)
  | .tup cs=>cs.flatMap (ids hp n)
  | .fn _ caps=>caps.flatMap (ids hp n)
  | .iptr cs=>cs.flatMap (ids hp n)
  | .sl id off len sz _ _=>id :: (match rowOf hp id with
   | some cs=>((cs.drop off).take (len * sz)).flatMap (ids hp n)
   | none=>[])
  | .loc id off=>id :: (match rowOf hp id with
   | some cs=>(cs.drop off).flatMap (ids hp n)
   | none=>[])
  | _=>[]

def freeze1 (hp : List Obj) (id : Nat) : List Obj:=
 match hp[id]? with
 | some (.cells cs)=>hp.set id (.frozen cs)
 | _=>hp

def freezeAll (hp : List Obj) (l : List Nat) : List Obj:=l.foldl freeze1 hp

def depth : Nat:=12

def frzK (b : Bool) (hp : List Obj) (d : D) : Option D:=match b with
 | true=>frzX hp depth d
 | false=>frz hp depth d


def getO (sl : List D) : Opd -> D
 | .t n=>sl.getD n .undef
 | .c d=>d
 | .f k=>.fn k []

def addO (hp : List Obj) (id : Nat) (o : Obj) : List Obj:=if id < hp.length then hp.set id o else hp ++ [o]

def listOf (hp : List Obj) (sz : Nat) (ag : Bool) (d : D) : Option (List D):=
 match d with
 | .imm _ els=>if els.all (fun d=>d.storable && d.cellsL.length == sz) then some els else none
 | .sl id off len sz' _ _=>if sz = sz' then (match rowOf hp id with
  | some cs=>chunk sz ag len (cs.drop off)
  | none=>none) else none
 | _=>none

def maxBytes : Nat:=17592186044416

def fitsE (sz : Nat) (els : List D) : Bool:=els.all fun d=>d.storable && d.cellsL.length == sz

structure Ef where
 d : D
 new : Option Obj
 kill : Option Nat

abbrev byteD (b : UInt8) : D:=.int .u8 b.toNat

def appendB (E : Env) (hp : List Obj) (id : Nat) (e : Nat) (sp : Spare) (els new : List D) : Option Ef:=
   if (els.length + new.length) * ((E.ty e).bytes + 1) <= 211106232532992 /\ (E.ty e).bytes <= 65536 /\ (zeroE E e).isSome = true /\ fitsE (E.ty e).size els = true then
    (match sp with
    | .exact=>some ⟨.imm (.tok id) (els ++ new),some (.tok ((els.length + new.length) * (E.ty e).size) (E.ty e).size),none⟩
    | .tok k=>(match hp[k]? with
     | some (.tok used sz)=>if used = els.length * (E.ty e).size /\ sz = (E.ty e).size then
       some ⟨.imm (.tok id) (els ++ new),some (.tok ((els.length + new.length) * (E.ty e).size) (E.ty e).size),some k⟩ else none
     | _=>none)
    | .none=>none)
   else none

def appendI (E : Env) (hp : List Obj) (id : Nat) (t t2 : Nat) (x y : D) : Option Ef:=
 match (E.ty t).k,(E.ty t2).k,x with
 | .slice e,.slice _,.imm sp els=>
  (match listOf hp (E.ty e).size (E.ty e).ag y with
  | some new=>appendB E hp id e sp els new
  | none=>none)
 | .slice e,.str,.imm sp els=>
  (match y with
  | .str s=>if 1 = (E.ty e).size /\ (E.ty e).ag = false then appendB E hp id e sp els (s.map byteD) else none
  | _=>none)
 | _,_,_=>none

def appendM (E : Env) (hp : List Obj) (id : Nat) (t t2 : Nat) (x y : D) : Option Ef:=
 match (E.ty t).k,(E.ty t2).k,x with
 | .slice e,.slice _,.imm .exact els=>
  (match listOf hp (E.ty e).size (E.ty e).ag y with
  | some new=>
    if new.length = 0 then some ⟨.imm .exact els,none,none⟩ else
    if (els.length + new.length) * ((E.ty e).bytes + 1) <= 211106232532992 /\ (E.ty e).bytes <= 65536 /\ (zeroE E e).isSome = true /\ fitsE (E.ty e).size els = true then
     some ⟨.sl id 0 (els.length + new.length) (E.ty e).size (E.ty e).ag true,some (.cells (flat els ++ flat new)),none⟩
    else none
  | none=>none)
 | _,_,_=>none

def appendG (E : Env) (hp : List Obj) (t t2 : Nat) (x y : D) : Option (D × List Obj):=
 match (E.ty t).k,(E.ty t2).k,x with
 | .slice e,.slice _,.sl k 0 len sz ag true=>
  (match listOf hp (E.ty e).size (E.ty e).ag y with
  | some new=>(match hp[k]? with
    | some (.cells cs)=>
     if new.length = 0 then some (.sl k 0 len sz ag true,hp) else
     if (len + new.length) * ((E.ty e).bytes + 1) <= 211106232532992 /\ (E.ty e).bytes <= 65536 /\ (zeroE E e).isSome = true /\ sz = (E.ty e).size /\ cs.length = len * sz then
      some (.sl hp.length 0 (len + new.length) (E.ty e).size (E.ty e).ag true,(hp.set k .dead) ++ [.cells (cs ++ flat new)])
     else if (len + new.length) * ((E.ty e).bytes + 1) <= 211106232532992 /\ (E.ty e).bytes <= 65536 /\ (zeroE E e).isSome = true /\ sz = (E.ty e).size /\ len * sz <= cs.length then
      some (.sl hp.length 0 (len + new.length) (E.ty e).size (E.ty e).ag true,(hp.set k .dead) ++ [.cells (cs.take (len * sz) ++ flat new)])
     else none
    | _=>none)
  | none=>none)
 | .slice e,.slice _,.imm .exact els=>
  (match listOf hp (E.ty e).size (E.ty e).ag y with
  | some new=>
    if new.length = 0 then some (.imm .exact els,hp) else
    if (els.length + new.length) * ((E.ty e).bytes + 1) <= 211106232532992 /\ (E.ty e).bytes <= 65536 /\ (zeroE E e).isSome = true /\ fitsE (E.ty e).size els = true then
     some (.sl hp.length 0 (els.length + new.length) (E.ty e).size (E.ty e).ag true,hp ++ [.cells (flat els ++ flat new)])
    else none
  | none=>none)
 | _,_,_=>none

def storeD (E : Env) (hp : List Obj) (t : Nat) (a x : D) : Option (List Obj):=
 match a with
 | .loc id off=>(match hp[id]? with
  | some (.cells cs)=>
   if x.storable = true /\ x.cellsL.length = (E.ty t).size /\ off + (E.ty t).size <= cs.length then some (hp.set id (.cells (setCells cs off x.cellsL))) else none
  | _=>none)
 | _=>none

def copyD (E : Env) (hp : List Obj) (t t2 : Nat) (x y : D) : Option (D × List Obj):=
 match (E.ty t).k,(E.ty t2).k,x with
 | .slice e,.slice _,.sl id off len sz _ _=>
  (match hp[id]?,listOf hp (E.ty e).size (E.ty e).ag y with
  | some (.cells cs),some new=>
   if sz = (E.ty e).size /\ off + len * sz <= cs.length then
    some (.int .i64 ((Nat.min new.length len : Nat) : Int),hp.set id (.cells (setCells cs off (flat (new.take (Nat.min new.length len))))))
   else none
  | _,_=>none)
 | .slice e,.slice _,.imm _ []=>(match listOf hp (E.ty e).size (E.ty e).ag y with
  | some _=>some (.int .i64 0,hp)
  | none=>none)
 | _,_,_=>none

def mapsetD (E : Env) (hp : List Obj) (t : Nat) (m k v : D) : Option (List Obj):=
 match (E.ty t).k,m with
 | .map kt e,.map (some id)=>
  if keyOk E kt k = true /\ v.storable = true /\ v.cellsL.length = (E.ty e).size then
  (match hp[id]? with
  | some (.map es)=>(mapPut k v es).map fun es'=>hp.set id (.map es')
  | _=>none) else none
 | _,_=>none

def bytesOf : List D -> Option (List UInt8)
 | []=>some []
 | .int .u8 n :: r=>(match bytesOf r with
  | some s=>some (UInt8.ofNat n.toNat :: s)
  | none=>none)
 | _=>none

def isByte (E : Env) (e : Nat) : Bool:=match (E.ty e).k with
 | .int .u8=>true
 | _=>false

def b2sD (E : Env) (s d : Nat) (x : D) : Option D:=
 match (E.ty s).k,(E.ty d).k,x with
 | .slice e,.str,.imm _ els=>if isByte E e = true then (bytesOf els).map .str else none
 | _,_,_=>none

def s2bD (E : Env) (s d : Nat) (x : D) : Option D:=
 match (E.ty s).k,(E.ty d).k,x with
 | .str,.slice e,.str b=>if isByte E e = true then some (.imm .none (b.map byteD)) else none
 | _,_,_=>none

def mkcapD (E : Env) (hp : List Obj) (t : Nat) (l c : D) : Option (D × List Obj):=
 match (E.ty t).k,l,c with
 | .slice e,.int _ l,.int _ c=>(match zeroE E e with
  | some z=>if 0 <= l /\ l <= c /\ c * ((E.ty e).bytes + 1) <= maxBytes then some (.sl hp.length 0 l.toNat (E.ty e).size (E.ty e).ag true,hp ++ [.cells (flat (List.replicate c.toNat z))]) else none
  | none=>none)
 | _,_,_=>none

def resliceD (E : Env) (hp : List Obj) (t : Nat) (x h : D) : Option (D × List Obj):=
 match (E.ty t).k,x,h with
 | .slice e,.sl id 0 _ sz ag true,.int _ h=>(match hp[id]? with
  | some (.cells cs)=>if 0 <= h /\ h.toNat * sz <= cs.length /\ sz = (E.ty e).size /\ sz ≠ 0 then some (.sl id 0 h.toNat sz ag true,hp) else none
  | _=>none)
 | _,_,_=>none

def clrD (E : Env) (hp : List Obj) (t : Nat) (x : D) : Option (D × List Obj):=
 match (E.ty t).k,x with
 | .slice e,.sl id off len sz _ _=>(match hp[id]?,zeroE E e with
  | some (.cells cs),some z=>if sz = (E.ty e).size /\ off + len * sz <= cs.length then some (.undef,hp.set id (.cells (setCells cs off (flat (List.replicate len z))))) else none
  | _,_=>none)
 | _,_=>none

def DOp.fin : DOp -> Bool
 | .mkcall _ _=>true
 | .prim _ _=>true
 | .mkcap _ _ _=>true
 | .reslice _ _ _=>true
 | .clr _ _=>true
 | .store _ _ _=>true
 | .mapset _ _ _ _=>true
 | .copy _ _ _ _=>true
 | .append 2 _ _ _ _=>true
 | .call 0 _ _=>false
 | .call _ _ _=>true
 | _=>false

def applyEf (hp : List Obj) (id : Nat) (e : Ef) : List Obj:=
 match e.kill,e.new with
 | none,none=>hp
 | none,some o=>addO hp id o
 | some k,none=>hp.set k .dead
 | some k,some o=>addO (hp.set k .dead) id o

def pureOp (E : Env) (callP : Nat -> List D -> Option D) (id : Nat) (g : Opd -> D) (hp : List Obj) (op : DOp) : Option Ef:=
 match op with
 | .move x=>some ⟨g x,none,none⟩
 | .assign x=>some ⟨g x,none,none⟩
 | .pick c a b=>(match g c with
  | .bool t=>some ⟨if t then g a else g b,none,none⟩
  | _=>none)
 | .alloc t=>if (E.ty t).zero.all D.atom /\ (E.ty t).zero.length = (E.ty t).size /\ (E.ty t).size ≠ 0 then some ⟨.loc id 0,some (.cells (E.ty t).zero),none⟩ else none
 | .box _ x=>if (g x).storable then some ⟨.loc id 0,some (.cells (g x).cellsL),none⟩ else none
 | .build t parts=>if (E.ty t).zero.length = (E.ty t).size /\ (E.ty t).size ≠ 0 then (buildD E t (parts.map fun p=>(p.1,g p.2))).map (⟨·,none,none⟩) else none
 | .bslice mu t len parts=>(match (E.ty t).k with
  | .slice e=>(match zeroE E e with
   | some z=>if len * (E.ty e).size <= 16777216 then
     (match fillE (E.ty e).size (List.replicate len z) (parts.map fun p=>(p.1,g p.2)) with
     | some els=>if mu /\ len ≠ 0 then some ⟨.sl id 0 len (E.ty e).size (E.ty e).ag true,some (.cells (flat els)),none⟩
       else some ⟨.imm .exact els,none,none⟩
     | none=>none) else none
   | none=>none)
  | _=>none)
 | .load t a=>(loadD E hp t (g a)).map (⟨·,none,none⟩)
 | .ibox _ x=>if (g x).storable = true then some ⟨.iptr (g x).cellsL,none,none⟩ else none
 | .iload t a=>(iloadD E t (g a)).map (⟨·,none,none⟩)
 | .mkbfn f x=>some ⟨.bfn f (g x),none,none⟩
 | .b2s s d x=>(b2sD E s d (g x)).map (⟨·,none,none⟩)
 | .s2b s d x=>(s2bD E s d (g x)).map (⟨·,none,none⟩)
 | .bin op t x y=>(binD E op t (g x) (g y)).map (⟨·,none,none⟩)
 | .un op x=>(unD op (g x)).map (⟨·,none,none⟩)
 | .conv s d x=>(convD E s d (g x)).map (⟨·,none,none⟩)
 | .mkfn f caps=>some ⟨.fn f (caps.map g),none,none⟩
 | .mkmap _=>some ⟨.map (some id),some (.map []),none⟩
 | .mkslice mu t l c=>(match (E.ty t).k,g l,g c with
  | .slice e,.int _ l,.int _ c=>
   (match zeroE E e with
   | some z=>
    if 0 <= l /\ l = c /\ c * ((E.ty e).bytes + 1) <= maxBytes then
     (if mu then some ⟨.sl id 0 l.toNat (E.ty e).size (E.ty e).ag true,some (.cells (flat (List.replicate l.toNat z))),none⟩
     else some ⟨.imm .exact (List.replicate l.toNat z),none,none⟩)
    else none
   | none=>none)
  | _,_,_=>none)
 | .slice t x lo hi mx=>(sliceD E t (g x) (lo.map g) (hi.map g) (mx.map g)).map (⟨·,none,none⟩)
 | .faddr t x f=>(faddrD E t (g x) f).map (⟨·,none,none⟩)
 | .field t x f=>(fieldD E t (g x) f).map (⟨·,none,none⟩)
 | .iaddr t x i=>(iaddrD E t (g x) (g i)).map (⟨·,none,none⟩)
 | .index t x i=>(indexD E t (g x) (g i)).map (⟨·,none,none⟩)
 | .lookup t m k ok=>(lookupD E hp t (g m) (g k) ok).map (⟨·,none,none⟩)
 | .extract x i=>(match g x with
  | .tup vs=>(vs[i]?).map (⟨·,none,none⟩)
  | _=>none)
 | .append md t t2 x y=>(match md with
  | 0=>appendI E hp id t t2 (g x) (g y)
  | 1=>appendM E hp id t t2 (g x) (g y)
  | _=>none)
 | .len t x=>(lenD E hp t (g x)).map (⟨·,none,none⟩)
 | .nilc x=>(match g x with
  | .loc i o=>some ⟨.loc i o,none,none⟩
  | .iptr cs=>some ⟨.iptr cs,none,none⟩
  | _=>none)
 | .mark b x=>(match b,g x with
  | false,.int .i64 n=>some ⟨.tup [.undef,.int .i64 n],none,none⟩
  | true,.agg [.int .i64 n]=>some ⟨.tup [.undef,.agg [.int .i64 n]],none,none⟩
  | _,_=>none)
 | .maxi as=>(maxiD (as.map g)).map (⟨·,none,none⟩)
 | .mini as=>(miniD (as.map g)).map (⟨·,none,none⟩)
 | .call 0 f as=>(match g f with
  | .fn k caps=>(match frzL (frz [] depth) (as.map g ++ caps) with
    | some vs=>(callP k vs).map (⟨·,none,none⟩)
    | none=>none)
  | _=>none)
 | _=>none

def isMark : D -> Bool
 | .tup (.undef :: _)=>true
 | .agg (.undef :: _)=>true
 | _=>false

def noMark (r : Option (D × List Obj)) : Option (D × List Obj):=
 match r with
 | some (d,hp)=>if isMark d = true then none else some (d,hp)
 | none=>none

theorem zf {x : Option (D × List Obj)} {r : D × List Obj} (h : noMark x = some r) : x = some r /\ isMark r.1 = false:=by
 cases x with
 | none=>simp [noMark] at h
 | some y=>
  obtain ⟨d,hp⟩:=y
  simp only [noMark] at h
  split at h
  ·simp at h
  ·rename_i hm
   simp only [Option.some.injEq] at h; subst h
   exact ⟨rfl,by simpa using hm⟩
theorem zq {d : D} {hp : List Obj} (h : isMark d = false) : noMark (some (d,hp)) = some (d,hp):=by simp [noMark,h]

def markR (r : Option (D × List Obj)) : Option D:=
 match r with
 | some (d,hp)=>if isMark d = true then some d else frz hp depth d
 | none=>none

def makD (callS : Nat -> List D -> List Obj -> Option (D × List Obj)) (k : Nat) (vs : List D) (hp : List Obj) : Option (D × List Obj):=
 (noMark (callS k vs (List.replicate hp.length .dead))).map fun r=>(r.1,hp ++ r.2.drop hp.length)

def islD (callS : Nat -> List D -> List Obj -> Option (D × List Obj)) (k : Nat) (r : D) (rest : List D) (hp : List Obj) : Option (D × Nat × Obj):=
 match r with
 | .loc q 0=>(match hp[q]? with
  | some (.cells cs)=>(match frzL (frz [] depth) rest,frzL (frz [] depth) cs with
   | some vs,some cs1=>if (cs1.all fun d=>d.atom) = true then (match noMark (callS k (.loc 0 0 :: vs) [.cells cs1]) with
    | some (d,hp2)=>(match List.head? hp2 with
     | some (.cells cs2)=>if (ids hp2 depth d ++ cs2.flatMap (ids hp2 depth)).contains 0 = true then none else
      (match frz hp2 depth d,frzL (frz hp2 depth) cs2 with
      | some d1,some cs3=>if (cs3.all fun d=>d.atom) = true then some (d1,q,.cells cs3) else none
      | _,_=>none)
     | _=>none)
    | none=>none) else none
   | _,_=>none)
  | _=>none)
 | _=>none

def finOp (E : Env) (callP : Nat -> List D -> Option D) (callS : Nat -> List D -> List Obj -> Option (D × List Obj))
  (callY : Nat -> List D -> List Obj -> Option (D × List Obj)) (g : Opd -> D) (hp : List Obj) (op : DOp) : Option (D × List Obj):=
 match op with
 | .store t a x=>(storeD E hp t (g a) (g x)).map (.undef,·)
 | .mapset t m k v=>(mapsetD E hp t (g m) (g k) (g v)).map (.undef,·)
 | .append _ t t2 x y=>appendG E hp t t2 (g x) (g y)
 | .copy t t2 x y=>copyD E hp t t2 (g x) (g y)
 | .mkcap t l c=>mkcapD E hp t (g l) (g c)
 | .mkcall f as=>(match g f with
  | .fn k caps=>(match frzL (frz [] depth) (as.map g ++ caps) with
    | some vs=>makD callS k vs hp
    | none=>none)
  | _=>none)
 | .prim n as=>E.prim n (as.map g) hp
 | .reslice t x h=>resliceD E hp t (g x) (g h)
 | .clr t x=>clrD E hp t (g x)
 | .call 1 f as=>(match g f with
  | .fn k caps=>(match frzL (frz hp depth) (as.map g ++ caps) with
    | some vs=>(callP k vs).map (·,freezeAll hp ((as.map g ++ caps).flatMap (ids hp depth)))
    | none=>none)
  | _=>none)
 | .call 3 f as=>(match g f with
  | .fn k caps=>(match frzL (frz hp depth) (as.map g ++ caps) with
    | some vs=>(match callP k vs with
     | some d=>if d.closed = true then some (d,hp) else none
     | none=>none)
    | none=>none)
  | _=>none)
 | .call 4 f (x :: as)=>(match g f with
  | .fn k caps=>(islD callS k (g x) (as.map g ++ caps) hp).map fun r=>(r.1,hp.set r.2.1 r.2.2)
  | _=>none)
 | .call 4 f []=>(match g f with
  | .fn k caps=>(match frzL (frz [] depth) caps with
    | some vs=>makD callS k vs hp
    | none=>none)
  | _=>none)
 | .call 5 f as=>(match g f with
  | .fn k caps=>if E.mp k = true then (match frzL (frz [] depth) (as.map g ++ caps) with
    | some vs=>(markR (callS k vs [])).map (·,hp)
    | none=>none) else none
  | _=>none)
 | .call 6 f as=>(match g f with
  | .fn k caps=>if E.mp k = true then callS k (as.map g ++ caps) hp else none
  | _=>none)
 | .call _ f as=>(match g f with
  | .fn k caps=>noMark (callS k (as.map g ++ caps) hp)
  | .bfn k r=>noMark (callS k (r :: as.map g) hp)
  | .yld l=>callY l (as.map g) hp
  | _=>none)
 | _=>none

def stepOp (E : Env) (callP : Nat -> List D -> Option D) (callS : Nat -> List D -> List Obj -> Option (D × List Obj))
  (callY : Nat -> List D -> List Obj -> Option (D × List Obj)) (id : Nat) (g : Opd -> D) (hp : List Obj) (op : DOp) : Option (D × List Obj):=
 match op.fin with
 | true=>finOp E callP callS callY g hp op
 | false=>(pureOp E callP id g hp op).map fun e=>(e.d,applyEf hp id e)

def putO (sl : List D) (dst : Option Nat) (d : D) : List D:=
 match dst with
 | some i=>sl.set i d
 | none=>sl

def wantedD (sl : List D) (gd : Option (Nat × Bool)) : Bool:=
 match gd with
 | none=>true
 | some (j,b)=>(match sl.getD j .undef with
  | .bool c=>c == b
  | _=>false)

def stepOps (E : Env) (callP : Nat -> List D -> Option D) (callS : Nat -> List D -> List Obj -> Option (D × List Obj))
  (callY : Nat -> List D -> List Obj -> Option (D × List Obj)) : List DOpr -> St -> Option St
 | [],st=>some st
 | o :: os,st=>
  if wantedD st.sl o.gd then
   (match stepOp E callP callS callY st.hp.length (getO st.sl) st.hp o.op with
   | some (d,hp)=>stepOps E callP callS callY os ⟨putO st.sl o.dst d,hp⟩
   | none=>none)
  else stepOps E callP callS callY os ⟨putO st.sl o.dst .undef,st.hp⟩

def did : D -> Option Nat
 | .loc id _=>some id
 | .sl id _ _ _ _ _=>some id
 | .map (some id)=>some id
 | .imm (.tok k) _=>some k
 | _=>none

def touch : DOp -> List Opd
 | .load _ a=>[a]
 | .store _ a _=>[a]
 | .lookup _ m _ _=>[m]
 | .len _ x=>[x]
 | .append _ _ _ x y=>[x,y]
 | .call 4 _ (x :: _)=>[x]
 | _=>[]

def idsNe (x y : Option Nat) : Bool:=
 match x,y with
 | some i,some j=>i != j
 | _,_=>true

def apart1 (sl : List D) (a b : Option DOpr) : Bool:=
 match a,b with
 | some a,some b=>(touch a.op).all fun x=>(touch b.op).all fun y=>idsNe (did (getO sl x)) (did (getO sl y))
 | _,_=>false

def apartD (sl : List D) (ops : List DOpr) (ap : List (Nat × Nat)) : Bool:=ap.all fun p=>apart1 sl ops[p.1]? ops[p.2]?

def checkAp (ops : List DOpr) (ap : List (Nat × Nat)) : Option St -> Option St
 | some st=>if apartD st.sl ops ap then some st else none
 | none=>none

def stepOpsD (E : Env) (callP : Nat -> List D -> Option D) (callS : Nat -> List D -> List Obj -> Option (D × List Obj))
  (callY : Nat -> List D -> List Obj -> Option (D × List Obj)) : Nat -> List DOpr -> St -> Option St
 | _,[],st=>some st
 | id,o :: os,st=>
  if wantedD st.sl o.gd then
   (match stepOp E callP callS callY id (getO st.sl) st.hp o.op with
   | some (d,hp)=>stepOpsD E callP callS callY (id + 1) os ⟨putO st.sl o.dst d,hp⟩
   | none=>none)
  else stepOpsD E callP callS callY (id + 1) os ⟨putO st.sl o.dst .undef,st.hp⟩

def resD (E : Env) (st : St) : List RV -> Option (List D)
 | []=>some []
 | .tmp t :: r=>(match resD E st r with
  | some l=>some (st.sl.getD t .undef :: l)
  | none=>none)
 | .cell a t :: r=>(match loadD E st.hp t (st.sl.getD a .undef),resD E st r with
  | some d,some l=>some (d :: l)
  | _,_=>none)

def oneRes (l : List D) : D:=
 match l with
 | [d]=>d
 | l=>.tup l

def setAll (sl : List D) : List Nat -> List D -> List D
 | p :: ps,v :: vs=>setAll (sl.set p v) ps vs
 | _,_=>sl

def finishF (E : Env) (F : DFn) : Option (Ex × St) -> Option (D × List Obj)
 | some (.ret,st)=>(resD E st F.results).map fun l=>(oneRes l,st.hp)
 | some (.normal,st)=>(resD E st F.results).map fun l=>(oneRes l,st.hp)
 | _=>none

def panX : Nat:=1000000
def finishM (E : Env) (F : DFn) : Option (Ex × St) -> Option (D × List Obj)
 | some (.ret,st)=>noMark ((resD E st F.results).map fun l=>(oneRes l,st.hp))
 | some (.normal,st)=>noMark ((resD E st F.results).map fun l=>(oneRes l,st.hp))
 | some (.exit i,st)=>if panX <= i /\ isMark (st.sl.getD (i - panX) .undef) = true then some (st.sl.getD (i - panX) .undef,st.hp) else none
 | none=>none
def finishQ (b : Bool) (E : Env) (F : DFn) (x : Option (Ex × St)) : Option (D × List Obj):=
 match b with
 | false=>finishF E F x
 | true=>finishM E F x

def startF (F : DFn) (args : List D) (hp : List Obj) : St:=⟨args ++ List.replicate (F.ntmps - args.length) .undef,hp⟩

def runS (E : Env) (rec : DC -> St -> Option (Ex × St)) (f : Nat) (args : List D) (hp : List Obj) : Option (D × List Obj):=
 match E.fn f with
 | some F=>finishQ (E.mp f) E F (rec F.body (startF F args hp))
 | none=>none

def runP (E : Env) (rec : DC -> St -> Option (Ex × St)) (f : Nat) (args : List D) : Option D:=
 match runS E rec f args [] with
 | some (d,hp)=>frzK (E.keep f) hp d
 | none=>none

def guardF (E : Env) (d : D) : D:=
 match d with
 | .fn k caps=>if E.mp k = true then .undef else .fn k caps
 | d=>d

theorem zl3 {E : Env} {d : D} {k : Nat} {caps : List D} (h : guardF E d = .fn k caps) : d = .fn k caps /\ E.mp k = false:=by
 cases d with
 | fn k' caps'=>
  simp only [guardF] at h
  split at h
  ·cases h
  ·rename_i hm; cases h; exact ⟨rfl,by simpa using hm⟩
 | _=>simp [guardF] at h

def runY (rec : DC -> St -> Option (Ex × St)) (l : Nat) (args : List D) (hp : List Obj) : Option (D × List Obj):=
 match hp[l]? with
 | some (.loop false slots ps asg body none)=>
  if args.length = ps.length then
   (match rec asg ⟨setAll slots ps args,hp⟩ with
   | some (.normal,st1)=>(match st1.hp[l]? with
    | some (.loop false slots1 ps1 asg1 body1 none)=>
     (match rec body ⟨st1.sl,st1.hp.set l (.loop true slots1 ps1 asg1 body1 none)⟩ with
     | some (ex,st2)=>(match st2.hp[l]? with
      | some (.loop true slots2 ps2 asg2 body2 none)=>
       (match ex with
       | .normal=>some (.bool true,st2.hp.set l (.loop false slots2 ps2 asg2 body2 none))
       | ex=>some (.bool false,st2.hp.set l (.loop false slots2 ps2 asg2 body2 (some ex))))
      | _=>none)
     | none=>none)
    | _=>none)
   | _=>none)
  else none
 | _=>none

def dC (E : Env) : Nat -> DC -> St -> Option (Ex × St)
 | 0,_,_=>none
 | n + 1,c,st=>match c with
  | .skip=>some (.normal,st)
  | .ret=>some (.ret,st)
  | .exit id=>some (.exit id,st)
  | .seq a b=>(match dC E n a st with
   | some (.normal,st')=>dC E n b st'
   | r=>r)
  | .cond c a b=>(match getO st.sl c with
   | .bool true=>dC E n a st
   | .bool false=>dC E n b st
   | _=>none)
  | .ifp x a b=>if isMark (getO st.sl x) = true then dC E n a st else dC E n b st
  | .block id a=>(match dC E n a st with
   | some (.exit id',st')=>some (if id' = id then .normal else .exit id',st')
   | r=>r)
  | .loop a=>(match dC E n a st with
   | some (.normal,st')=>dC E n (.loop a) st'
   | r=>r)
  | .region dr ap ops=>
   (if dr then checkAp ops ap (stepOpsD E (runP E (dC E n)) (runS E (dC E n)) (runY (dC E n)) st.hp.length ops ⟨st.sl,st.hp ++ List.replicate ops.length .dead⟩)
    else stepOps E (runP E (dC E n)) (runS E (dC E n)) (runY (dC E n)) ops st).map fun st'=>(.normal,st')
  | .rfunc f ps asg body=>(match guardF E (getO st.sl f) with
   | .fn k caps=>(match runS E (dC E n) k (.yld st.hp.length :: caps) (st.hp ++ [.loop false st.sl ps asg body none]) with
    | some (_,hp')=>(match hp'[st.hp.length]? with
     | some (.loop false _ _ _ _ none)=>some (.normal,⟨st.sl,hp'.set st.hp.length .dead⟩)
     | some (.loop false _ _ _ _ (some ex))=>some (ex,⟨st.sl,hp'.set st.hp.length .dead⟩)
     | _=>none)
    | none=>none)
   | _=>none)

end Dv

namespace Dv

def pltB (x y : Int × Int) : Bool:=decide (x.1 < y.1 \/ (x.1 = y.1 /\ x.2 < y.2))
def psort (l : List (Int × Int)) : List (Int × Int):=l.mergeSort fun x y=>!pltB y x
def pairsOf : List D -> Option (List (Int × Int))
 | []=>some []
 | .int .i64 a :: .int .i64 b :: r=>(match pairsOf r with
  | some l=>some ((a,b) :: l)
  | none=>none)
 | _=>none
def unpairs (l : List (Int × Int)) : List D:=l.flatMap fun p=>[.int .i64 p.1,.int .i64 p.2]

def sortD (cmp : List Nat) : List D -> List Obj -> Option (D × List Obj)
 | [.imm .exact [],.fn k []],hp=>if cmp.contains k = true then some (.tup [],hp) else none
 | [.sl id 0 len 2 _ _,.fn k []],hp=>if cmp.contains k = true then (match hp[id]? with
   | some (.cells cs)=>if cs.length = len * 2 /\ len <= 1000000000000 then (match pairsOf cs with
    | some ps=>some (.tup [],hp.set id (.cells (unpairs (psort ps))))
    | none=>none) else none
   | _=>none) else none
 | _,_=>none

def keysOf : List (D × D) -> Option (List (Int × Int))
 | []=>some []
 | (.agg [.int .i64 a,.int .i64 b],_) :: r=>(match keysOf r with
  | some l=>some ((a,b) :: l)
  | none=>none)
 | _=>none
def keysD (it cmp : List Nat) : List D -> List Obj -> Option (D × List Obj)
 | [.fn kk [.iptr [.map (some id)]],.fn k []],hp=>if (it.contains kk && cmp.contains k) = true then (match hp[id]? with
  | some (.map es)=>(match keysOf es with
   | some ks=>if ks.length <= 1000000 then some (.imm .none ((psort ks).map fun p=>.agg [.int .i64 p.1,.int .i64 p.2]),hp) else none
   | none=>none)
  | _=>none) else none
 | _,_=>none

def primTab : Nat -> List D -> List Obj -> Option (D × List Obj)
 | 0=>sortD [362,386]
 | 1=>keysD [409] [386]
 | _=>fun _ _=>none
end Dv

namespace Dv
def glTab : List (Nat × List (Go.IntKind × Int)):=[(0,[(.u32,1779033703),(.u32,3144134277),(.u32,1013904242),(.u32,2773480762),(.u32,1359893119),(.u32,2600822924),(.u32,528734635),(.u32,1541459225)]),(1,[(.u32,1116352408),(.u32,1899447441),(.u32,3049323471),(.u32,3921009573),(.u32,961987163),(.u32,1508970993),(.u32,2453635748),(.u32,2870763221),(.u32,3624381080),(.u32,310598401),(.u32,607225278),(.u32,1426881987),(.u32,1925078388),(.u32,2162078206),(.u32,2614888103),(.u32,3248222580),(.u32,3835390401),(.u32,4022224774),(.u32,264347078),(.u32,604807628),(.u32,770255983),(.u32,1249150122),(.u32,1555081692),(.u32,1996064986),(.u32,2554220882),(.u32,2821834349),(.u32,2952996808),(.u32,3210313671),(.u32,3336571891),(.u32,3584528711),(.u32,113926993),(.u32,338241895),(.u32,666307205),(.u32,773529912),(.u32,1294757372),(.u32,1396182291),(.u32,1695183700),(.u32,1986661051),(.u32,2177026350),(.u32,2456956037),(.u32,2730485921),(.u32,2820302411),(.u32,3259730800),(.u32,3345764771),(.u32,3516065817),(.u32,3600352804),(.u32,4094571909),(.u32,275423344),(.u32,430227734),(.u32,506948616),(.u32,659060556),(.u32,883997877),(.u32,958139571),(.u32,1322822218),(.u32,1537002063),(.u32,1747873779),(.u32,1955562222),(.u32,2024104815),(.u32,2227730452),(.u32,2361852424),(.u32,2428436474),(.u32,2756734187),(.u32,3204031479),(.u32,3329325298)])]
end Dv

namespace Dv
open Go (Value Program World Act Oper Operand Code)

inductive Bk where
 | blk (b c : Nat)
 | virt

abbrev Rho:=Nat -> Option Bk
abbrev HS:=Nat -> Nat -> Prop
abbrev Heap:=Array Go.Obj
abbrev Phi:=Nat -> Option Nat

structure Still (w w' : World) : Prop where
 os : w'.os = w.os
 tape : w'.tape = w.tape
 out : w'.output = w.output
 dr : w.drawn <= w'.drawn

theorem Still.refl (w : World) : Still w w:=⟨rfl,rfl,rfl,Nat.le_refl _⟩

theorem Still.trans {w w' w'' : World} (h : Still w w') (h' : Still w' w'') : Still w w'':=⟨h'.os.trans h.os,h'.tape.trans h.tape,h'.out.trans h.out,Nat.le_trans h.dr h'.dr⟩

def FzAt (_ _ : Heap) : Prop:=True

theorem FzAt.refl (hp : Heap) : FzAt hp hp:=trivial
theorem FzAt.trans {hp hp' hp'' : Heap} (_ : FzAt hp hp') (_ : FzAt hp' hp'') : FzAt hp hp'':=trivial
theorem FzAt.push (hp : Heap) {o : Go.Obj} (_ : ∀ arr el fr,o = .cells arr el fr -> fr = (0,0)) : FzAt hp (hp.push o):=trivial
theorem FzAt.at {hp hp' : Heap} {b : Nat} {o : Go.Obj} (_ : hp'[b]? = some o) (_ : ∀ arr el fr,o = .cells arr el fr -> fr = (0,0)) (_ : ∀ b',b' ≠ b -> hp'[b']? = hp[b']?) : FzAt hp hp':=trivial

def cellOf (hp : Heap) (b o : Nat) : Option Value:=
 match hp[b]? with
 | some (.cells c _ _)=>c[o]?
 | _=>none

theorem cell?_eq (w : World) (b o : Nat) : w.cell? ⟨b,o,none⟩ = cellOf w.heap b o:=by
 unfold World.cell? cellOf
 cases w.heap[b]? with
 | none=>rfl
 | some x=>cases x <;> rfl

inductive Rep (φ : Phi) (ρ : Rho) (H : HS) (hp : Heap) : Value -> D -> Prop
 | undef (v : Value) (h : ∀ b,v ≠ .bool b) : Rep φ ρ H hp v .undef
 | bool (b : Bool) : Rep φ ρ H hp (.bool b) (.bool b)
 | int (k : Go.IntKind) (n : Int) : Rep φ ρ H hp (.int k n) (.int k n)
 | str (s : ByteArray) : Rep φ ρ H hp (.string s) (.str s.data.toList)
 | nilp : Rep φ ρ H hp (.pointer none) .nilp
 | loc (b c id off : Nat) (h : ρ id = some (.blk b c)) : Rep φ ρ H hp (.pointer (some ⟨b,off,none⟩)) (.loc id off)
 | iptr (b off : Nat) (cells : List D) (vs : Nat -> Value)
   (hH : ∀ (j : Nat),j < cells.length -> H b (off + j) /\ cellOf hp b (off + j) = some (vs j))
   (hr : ∀ (j : Nat) (d : D),cells[j]? = some d -> Rep φ ρ H hp (vs j) d) : Rep φ ρ H hp (.pointer (some ⟨b,off,none⟩)) (.iptr cells)
 | imm (sp : Spare) (els : List D) (a : Option Go.Addr) (cap b off su : Nat) (vs : Nat -> Value)
   (hu : ∀ x,x ∈ els -> x.cellsL.length = su /\ x.storable = true) (hcap : els.length <= cap)
   (hex : sp = .exact -> cap = els.length)
   (htok : ∀ k,sp = .tok k -> (∃ b',ρ k = some (.blk b' cap) /\ a = some ⟨b',0,none⟩) \/ (ρ k = some .virt /\ cap = els.length))
   (ha : els ≠ [] -> a = some ⟨b,off,none⟩)
   (hH : ∀ (j : Nat),j < (flat els).length -> H b (off + j) /\ cellOf hp b (off + j) = some (vs j))
   (hr : ∀ (j : Nat) (d : D),(flat els)[j]? = some d -> Rep φ ρ H hp (vs j) d) : Rep φ ρ H hp (.slice a els.length cap) (.imm sp els)
 | sl (id off len sz : Nat) (ag gr : Bool) (b c cap : Nat) (a : Option Go.Addr) (h : ρ id = some (.blk b c)) (hl : len <= cap)
   (ha : len ≠ 0 -> a = some ⟨b,off,none⟩) (hc : gr = true -> off = 0 /\ a = some ⟨b,0,none⟩ /\ c = cap * sz) : Rep φ ρ H hp (.slice a len cap) (.sl id off len sz ag gr)
 | mapn : Rep φ ρ H hp (.map none) (.map none)
 | map (b c id : Nat) (h : ρ id = some (.blk b c)) : Rep φ ρ H hp (.map (some b)) (.map (some id))
 | fn (f f' : Nat) (cvs : Array Value) (caps : List D) (hf : φ f = some f') (hs : cvs.size = caps.length)
   (hr : ∀ (j : Nat) (v : Value) (d : D),cvs[j]? = some v -> caps[j]? = some d -> Rep φ ρ H hp v d) : Rep φ ρ H hp (.func (.func f) #[] cvs) (.fn f' caps)
 | bfn (f f' : Nat) (v : Value) (d : D) (hf : φ f = some f') (hr : Rep φ ρ H hp v d) : Rep φ ρ H hp (.func (.func f) #[v] #[]) (.bfn f' d)
 | nilfn : Rep φ ρ H hp .nilFunc .nilfn
 | yld (b c id : Nat) (h : ρ id = some (.blk b c)) : Rep φ ρ H hp (.func (.yield b) #[] #[]) (.yld id)
 | agg (vs : Array Value) (cs : List D) (hs : vs.size = cs.length)
   (hr : ∀ (j : Nat) (v : Value) (d : D),vs[j]? = some v -> cs[j]? = some d -> Rep φ ρ H hp v d) : Rep φ ρ H hp (.agg vs) (.agg cs)
 | tup (vs : Array Value) (cs : List D) (hs : vs.size = cs.length)
   (hr : ∀ (j : Nat) (v : Value) (d : D),vs[j]? = some v -> cs[j]? = some d -> Rep φ ρ H hp v d) : Rep φ ρ H hp (.tuple vs) (.tup cs)

theorem Rep.u0 {φ : Phi} {ρ : Rho} {H : HS} {hp : Heap} : Rep φ ρ H hp Go.undef .undef:=.undef _ (by intro b h; cases h)

structure Ext (ρ ρ' : Rho) (H H' : HS) (hp hp' : Heap) : Prop where
 rho : ∀ id bk,ρ id = some bk -> ρ' id = some bk
 hs : ∀ b o,H b o -> H' b o
 keep : ∀ b o,H b o -> cellOf hp' b o = cellOf hp b o

theorem Ext.refl (ρ : Rho) (H : HS) (hp : Heap) : Ext ρ ρ H H hp hp:=⟨fun _ _ h=>h,fun _ _ h=>h,fun _ _ _=>rfl⟩

theorem Ext.trans {ρ ρ' ρ'' : Rho} {H H' H'' : HS} {hp hp' hp'' : Heap} (h : Ext ρ ρ' H H' hp hp') (h' : Ext ρ' ρ'' H' H'' hp' hp'') : Ext ρ ρ'' H H'' hp hp'':=
 ⟨fun id bk e=>h'.rho id bk (h.rho id bk e),fun b o e=>h'.hs b o (h.hs b o e),fun b o e=>(h'.keep b o (h.hs b o e)).trans (h.keep b o e)⟩

theorem Rep.mono {φ : Phi} {ρ ρ' : Rho} {H H' : HS} {hp hp' : Heap} (x : Ext ρ ρ' H H' hp hp') {v : Value} {d : D} (h : Rep φ ρ H hp v d) : Rep φ ρ' H' hp' v d:=by
 induction h with
 | undef v h=>exact .undef v h
 | bool b=>exact .bool b
 | int k n=>exact .int k n
 | str s=>exact .str s
 | nilp=>exact .nilp
 | loc b c id off h=>exact .loc b c id off (x.rho _ _ h)
 | iptr b off cells vs hH hr ih=>exact .iptr b off cells vs (fun j hj=>⟨x.hs _ _ (hH j hj).1,(x.keep _ _ (hH j hj).1).trans (hH j hj).2⟩) ih
 | imm sp els a cap b off su vs hu hcap hex htok ha hH hr ih=>
  exact .imm sp els a cap b off su vs hu hcap hex (fun k hk=>(htok k hk).imp (fun ⟨b',h1,h2⟩=>⟨b',x.rho _ _ h1,h2⟩) (fun ⟨h1,h2⟩=>⟨x.rho _ _ h1,h2⟩)) ha
   (fun j hj=>⟨x.hs _ _ (hH j hj).1,(x.keep _ _ (hH j hj).1).trans (hH j hj).2⟩) ih
 | sl id off len sz ag gr b c cap a h hl ha hc=>exact .sl id off len sz ag gr b c cap a (x.rho _ _ h) hl ha hc
 | mapn=>exact .mapn
 | map b c id h=>exact .map b c id (x.rho _ _ h)
 | fn f f' cvs caps hf hs hr ih=>exact .fn f f' cvs caps hf hs ih
 | bfn f f' v d hf hr ih=>exact .bfn f f' v d hf ih
 | nilfn=>exact .nilfn
 | yld b c id h=>exact .yld b c id (x.rho _ _ h)
 | agg vs cs hs hr ih=>exact .agg vs cs hs ih
 | tup vs cs hs hr ih=>exact .tup vs cs hs ih

def RepL (φ : Phi) (ρ : Rho) (H : HS) (hp : Heap) (vs : List Value) (ds : List D) : Prop:=
 vs.length = ds.length /\ ∀ (j : Nat) v d,vs[j]? = some v -> ds[j]? = some d -> Rep φ ρ H hp v d

theorem RepL.mono {φ : Phi} {ρ ρ' : Rho} {H H' : HS} {hp hp' : Heap} (x : Ext ρ ρ' H H' hp hp') {vs : List Value} {ds : List D} (h : RepL φ ρ H hp vs ds) : RepL φ ρ' H' hp' vs ds:=
 ⟨h.1,fun j v d hv hd=>(h.2 j v d hv hd).mono x⟩

theorem RepL.nil {φ : Phi} {ρ : Rho} {H : HS} {hp : Heap} : RepL φ ρ H hp [] []:=⟨rfl,fun j v d h=>by simp at h⟩

theorem RepL.cons {φ : Phi} {ρ : Rho} {H : HS} {hp : Heap} {v : Value} {d : D} {vs : List Value} {ds : List D} (h : Rep φ ρ H hp v d) (h' : RepL φ ρ H hp vs ds) : RepL φ ρ H hp (v :: vs) (d :: ds):=
 ⟨by simp [h'.1],fun j v' d' hv hd=>by
  cases j with
  | zero=>simp at hv hd; subst hv; subst hd; exact h
  | succ j=>exact h'.2 j v' d' (by simpa using hv) (by simpa using hd)⟩

theorem RepL.of_cons {φ : Phi} {ρ : Rho} {H : HS} {hp : Heap} {v : Value} {d : D} {vs : List Value} {ds : List D} (h : RepL φ ρ H hp (v :: vs) (d :: ds)) : Rep φ ρ H hp v d /\ RepL φ ρ H hp vs ds:=
 ⟨h.2 0 v d rfl rfl,by simpa using h.1,fun j v' d' hv hd=>h.2 (j + 1) v' d' (by simpa using hv) (by simpa using hd)⟩

theorem RepL.append {φ : Phi} {ρ : Rho} {H : HS} {hp : Heap} {vs : List Value} {ds : List D} {vs' : List Value} {ds' : List D} (h : RepL φ ρ H hp vs ds) (h' : RepL φ ρ H hp vs' ds') : RepL φ ρ H hp (vs ++ vs') (ds ++ ds'):=by
 refine ⟨by simp [h.1,h'.1],fun j v d hv hd=>?_⟩
 by_cases hj : j < vs.length
 ·rw [List.getElem?_append_left hj] at hv
  rw [List.getElem?_append_left (h.1 ▸ hj)] at hd
  exact h.2 j v d hv hd
 ·have hj : vs.length <= j:=by omega
  rw [List.getElem?_append_right hj] at hv
  rw [List.getElem?_append_right (h.1 ▸ hj)] at hd
  exact h'.2 _ v d hv (by rw [h.1]; exact hd)

theorem RepL.drop {φ : Phi} {ρ : Rho} {H : HS} {hp : Heap} {vs : List Value} {ds : List D} (n : Nat) (h : RepL φ ρ H hp vs ds) : RepL φ ρ H hp (vs.drop n) (ds.drop n):=
 ⟨by simp [h.1],fun j v d hv hd=>h.2 (n + j) v d (by simpa using hv) (by simpa using hd)⟩

theorem RepL.take {φ : Phi} {ρ : Rho} {H : HS} {hp : Heap} {vs : List Value} {ds : List D} (n : Nat) (h : RepL φ ρ H hp vs ds) : RepL φ ρ H hp (vs.take n) (ds.take n):=
 ⟨by simp [h.1],fun j v d hv hd=>h.2 j v d (by rw [List.getElem?_take] at hv; split at hv <;> simp_all) (by rw [List.getElem?_take] at hd; split at hd <;> simp_all)⟩

theorem RepL.set {φ : Phi} {ρ : Rho} {H : HS} {hp : Heap} {vs : List Value} {ds : List D} (n : Nat) {v : Value} {d : D} (hv : Rep φ ρ H hp v d) (h : RepL φ ρ H hp vs ds) : RepL φ ρ H hp (vs.set n v) (ds.set n d):=by
 refine ⟨by simp [h.1],fun j v' d' h1 h2=>?_⟩
 rw [List.getElem?_set] at h1 h2
 rw [h.1] at h1
 split at h1
 ·rename_i e
  rw [if_pos e] at h2
  split at h1
  ·rename_i e'
   rw [if_pos e'] at h2
   simp at h1 h2; subst h1; subst h2; exact hv
  ·simp at h1
 ·rename_i e
  rw [if_neg e] at h2
  exact h.2 j v' d' h1 h2

theorem RepL.get {φ : Phi} {ρ : Rho} {H : HS} {hp : Heap} {vs : List Value} {ds : List D} (h : RepL φ ρ H hp vs ds) {j : Nat} {d : D} (hd : ds[j]? = some d) : ∃ v,vs[j]? = some v /\ Rep φ ρ H hp v d:=by
 have : j < ds.length:=(List.getElem?_eq_some_iff.1 hd).1
 have hj : j < vs.length:=h.1 ▸ this
 exact ⟨vs[j],List.getElem?_eq_getElem hj,h.2 j _ d (List.getElem?_eq_getElem hj) hd⟩

theorem RepL.agg {φ : Phi} {ρ : Rho} {H : HS} {hp : Heap} {vs : List Value} {ds : List D} (h : RepL φ ρ H hp vs ds) : Rep φ ρ H hp (.agg vs.toArray) (.agg ds):=
 .agg _ _ (by simp [h.1]) (fun j v d hv hd=>h.2 j v d (by simpa using hv) hd)

theorem Rep.aggL {φ : Phi} {ρ : Rho} {H : HS} {hp : Heap} {v : Value} {ds : List D} (h : Rep φ ρ H hp v (.agg ds)) : ∃ vs : List Value,v = .agg vs.toArray /\ RepL φ ρ H hp vs ds:=by
 cases h with
 | agg vs cs hs hr=>exact ⟨vs.toList,by simp,by simp [hs],fun j v d hv hd=>hr j v d (by simpa using hv) hd⟩

theorem Rep.tupL {φ : Phi} {ρ : Rho} {H : HS} {hp : Heap} {v : Value} {ds : List D} (h : Rep φ ρ H hp v (.tup ds)) : ∃ vs : List Value,v = .tuple vs.toArray /\ RepL φ ρ H hp vs ds:=by
 cases h with
 | tup vs cs hs hr=>exact ⟨vs.toList,by simp,by simp [hs],fun j v d hv hd=>hr j v d (by simpa using hv) hd⟩

theorem Rep.cells {φ : Phi} {ρ : Rho} {H : HS} {hp : Heap} {v : Value} {d : D} (h : Rep φ ρ H hp v d) (hd : d.storable = true) : RepL φ ρ H hp v.cells.toList d.cellsL:=by
 cases h with
 | agg vs cs hs hr=>exact ⟨by simpa [Value.cells,D.cellsL] using hs,fun j v d hv hd=>hr j v d (by simpa [Value.cells] using hv) (by simpa [D.cellsL] using hd)⟩
 | undef v h=>simp [D.storable,D.atom] at hd
 | tup vs cs hs hr=>simp [D.storable,D.atom] at hd
 | bool b=>exact .cons (.bool b) .nil
 | int k n=>exact .cons (.int k n) .nil
 | str s=>exact .cons (.str s) .nil
 | nilp=>exact .cons .nilp .nil
 | loc b c id off h=>exact .cons (.loc b c id off h) .nil
 | iptr b off cells vs hH hr=>exact .cons (.iptr b off cells vs hH hr) .nil
 | imm sp els a cap b off su vs hu hcap hex htok ha hH hr=>exact .cons (.imm sp els a cap b off su vs hu hcap hex htok ha hH hr) .nil
 | sl id off len sz ag gr b c cap a h hl ha hc=>exact .cons (.sl id off len sz ag gr b c cap a h hl ha hc) .nil
 | mapn=>exact .cons .mapn .nil
 | map b c id h=>exact .cons (.map b c id h) .nil
 | fn f f' cvs caps hf hs hr=>exact .cons (.fn f f' cvs caps hf hs hr) .nil
 | bfn f f' v d hf hr=>exact .cons (.bfn f f' v d hf hr) .nil
 | nilfn=>exact .cons .nilfn .nil
 | yld b c id h=>exact .cons (.yld b c id h) .nil

theorem Rep.strv {φ : Phi} {ρ : Rho} {H : HS} {hp : Heap} {v : Value} {s : List UInt8} (h : Rep φ ρ H hp v (.str s)) : ∃ s0 : ByteArray,v = .string s0 /\ s = s0.data.toList:=by
 cases h with
 | str s=>exact ⟨s,rfl,rfl⟩

theorem Rep.one {φ : Phi} {ρ : Rho} {H : HS} {hp : Heap} {v : Value} {d : D} (h : Rep φ ρ H hp v d) (hd : d.atom = true) : v.oneCell' = true /\ v.cells = #[v]:=by
 cases h <;> first | exact ⟨rfl,rfl⟩ | (simp [D.atom] at hd)

end Dv

namespace Dv
open Go (Value Program World Act Oper Operand Code)

section
variable {P : Program} {E : Env} {φ : Phi} {τ : Phi} {ρ : Rho} {H : HS} {w : World}

def ofClosed : Value -> Option D
 | .bool b=>some (.bool b)
 | .int k n=>some (.int k n)
 | .string s=>some (.str s.data.toList)
 | .pointer none=>some .nilp
 | .slice none 0 0=>some (.imm .exact [])
 | .map none=>some (.map none)
 | .nilFunc=>some .nilfn
 | _=>none

def ofClosedL : List Value -> Option (List D)
 | []=>some []
 | v :: vs=>match ofClosed v,ofClosedL vs with
  | some d,some ds=>some (d :: ds)
  | _,_=>none

theorem z7d {hp : Heap} {v : Value} {d : D} (h : ofClosed v = some d) : Rep φ ρ H hp v d:=by
 unfold ofClosed at h
 split at h <;> simp at h <;> subst h
 ·exact .bool _
 ·exact .int _ _
 ·exact .str _
 ·exact .nilp
 ·exact .imm .exact [] none 0 0 0 0 (fun _=>Go.undef) (fun x hx=>by cases hx) (by simp) (fun _=>rfl) (fun k hk=>by cases hk) (fun h=>absurd rfl h) (fun j hj=>by simp [flat] at hj) (fun j d hd=>by simp [flat] at hd)
 ·exact .mapn
 ·exact .nilfn

theorem z3w {hp : Heap} : ∀ {vs : List Value} {ds : List D},ofClosedL vs = some ds -> RepL φ ρ H hp vs ds
 | [],ds,h=>by simp [ofClosedL] at h; subst h; exact .nil
 | v :: vs,ds,h=>by
  simp only [ofClosedL] at h
  cases h1 : ofClosed v with
  | none=>simp [h1] at h
  | some d=>cases h2 : ofClosedL vs with
   | none=>simp [h1,h2] at h
   | some ds'=>simp [h1,h2] at h; subst h; exact .cons (z7d h1) (z3w h2)

def veq : Value -> Value -> Option Bool
 | .bool a,.bool b=>some (a == b)
 | .int k a,.int k' b=>if k = k' then some (a == b) else none
 | .string a,.string b=>some (a.data.toList == b.data.toList)
 | _,_=>none

def veqL : List Value -> List Value -> Option Bool
 | [],[]=>some true
 | x :: xs,y :: ys=>match veq x y,veqL xs ys with
  | some a,some b=>some (a && b)
  | _,_=>none
 | _,_=>none

theorem ztd {hp : Heap} {x y : Value} {a b : D} {r : Bool} (hx : Rep φ ρ H hp x a) (hy : Rep φ ρ H hp y b) (h : atomEq a b = some r) : veq x y = some r:=by
 unfold atomEq at h
 split at h
 ·cases hx; cases hy; exact h
 ·cases hx; cases hy; exact h
 ·cases hx; cases hy; exact h
 ·cases h

theorem zb1 {hp : Heap} : ∀ {xs ys : List Value} {as bs : List D} {r : Bool},RepL φ ρ H hp xs as -> RepL φ ρ H hp ys bs -> eqL as bs = some r -> veqL xs ys = some r
 | [],[],[],[],r,_,_,h=>h
 | [],_ :: _,[],[],r,_,h2,h=>by have:=h2.1; simp at this
 | _ :: _,_,[],_,r,h1,_,h=>by have:=h1.1; simp at this
 | [],_,_ :: _,_,r,h1,_,h=>by have:=h1.1; simp at this
 | _ :: _,[],_ :: _,_ :: _,r,_,h2,h=>by have:=h2.1; simp at this
 | x :: xs,y :: ys,a :: as,b :: bs,r,h1,h2,h=>by
  simp only [eqL] at h
  cases e1 : atomEq a b with
  | none=>simp [e1] at h
  | some p=>cases e2 : eqL as bs with
   | none=>simp [e1,e2] at h
   | some q=>
    simp [e1,e2] at h; subst h
    simp only [veqL,ztd h1.of_cons.1 h2.of_cons.1 e1,zb1 h1.of_cons.2 h2.of_cons.2 e2]
 | [],_,[],_ :: _,r,_,_,h=>by simp [eqL] at h
 | _ :: _,_,_ :: _,[],r,_,_,h=>by simp [eqL] at h

def isAggV : Value -> Bool
 | .agg _=>true
 | _=>false

def klB : List Value -> List D -> Bool
 | [],[]=>true
 | .bool _ :: xs,.bool _ :: ys=>klB xs ys
 | .int k _ :: xs,.int k' _ :: ys=>decide (k = k') && klB xs ys
 | .string _ :: xs,.str _ :: ys=>klB xs ys
 | _,_=>false

theorem zhk {hp : Heap} : ∀ {vs : List Value} {xs zs : List D},RepL φ ρ H hp vs xs -> kindsL xs zs = true -> klB vs zs = true
 | [],[],[],_,_=>rfl
 | [],_ :: _,_,h,_=>by have:=h.1; simp at this
 | _ :: _,[],_,h,_=>by have:=h.1; simp at this
 | [],[],_ :: _,_,h=>by simp [kindsL] at h
 | v :: vs,x :: xs,[],_,h=>by cases x <;> simp [kindsL] at h
 | v :: vs,x :: xs,z :: zs,h,hk=>by
  obtain ⟨h1,h2⟩:=h.of_cons
  cases x <;> cases z <;> simp [kindsL] at hk
  ·cases h1; simpa [klB] using zhk h2 hk
  ·cases h1; simp [klB,hk.1]; exact zhk h2 hk.2
  ·cases h1; simpa [klB] using zhk h2 hk

structure EqOk (P : Program) (t : Nat) (zs : List D) : Prop where
 eq : ∀ (w : World) (d : Nat) (xs ys : List Value) (r : Bool),klB xs zs = true -> veqL xs ys = some r -> (Go.Op.equalIn (d + 16) t (.agg xs.toArray) (.agg ys.toArray)).run P w = .ok r w
 key : ∀ (w : World) (em : Bool) (d : Nat) (vs : List Value),klB vs zs = true -> (Go.Instr.checkKey em (d + 16) t (.agg vs.toArray)).run P w = .ok () w
 kind : ∃ u,P.underlying t = some u /\ (match u with | .int _=>False | .string=>False | .bool=>False | _=>True)
 guard : P.eqGuardType P.depth t = false

structure TOk (P : Program) (E : Env) (τ : Phi) (t c : Nat) : Prop where
 id : τ t = some c
 info : ∃ i,P.info? t = some i /\ i.size = (E.ty c).size /\ i.bytes = (E.ty c).bytes /\
  ((E.ty c).zero.length = (E.ty c).size -> (E.ty c).size ≠ 0 -> ∃ z,i.zero = some z /\ ofClosedL z.cells.toList = some (E.ty c).zero /\ isAggV z = (E.ty c).ag)
 eq : (E.ty c).eqc = true -> EqOk P t (E.ty c).zero
 und : match (E.ty c).k with
  | .bool=>P.underlying t = some .bool
  | .int k=>P.underlying t = some (.int k)
  | .str=>P.underlying t = some .string
  | .slice e=>∃ e',P.underlying t = some (.slice e') /\ τ e' = some e
  | .struct fs=>∃ fs' : Array Go.Field,P.underlying t = some (.struct fs') /\ fs'.size = fs.length /\ ∀ (i : Nat) (f : Go.Field) (p : Nat × Nat),fs'[i]? = some f -> fs[i]? = some p -> f.offset = p.1 /\ τ f.type = some p.2
  | .arr n e=>∃ e',P.underlying t = some (.array n e') /\ τ e' = some e
  | .map k e=>∃ k' e',P.underlying t = some (.map k' e') /\ τ k' = some k /\ τ e' = some e
  | .ptr _=>∃ e',P.underlying t = some (.pointer e')
  | .func=>∃ a b v,P.underlying t = some (.func a b v)
  | .other=>False

def TAll (P : Program) (E : Env) (τ : Phi) : Prop:=∀ t c,τ t = some c -> TOk P E τ t c

theorem z12 {t : Nat} {i : Go.TypeInfo} (h : P.info? t = some i) : (Go.typeInfo t).run P w = .ok i w:=by
 simp [Go.typeInfo,h]

theorem run_underlying {t : Nat} {u : Go.TypeDesc} (h : P.underlying t = some u) : (Go.underlying t).run P w = .ok u w:=by
 simp [Go.underlying,h]

theorem TOk.size {t c : Nat} (T : TOk P E τ t c) : (Go.sizeOf t).run P w = .ok (E.ty c).size w:=by
 obtain ⟨i,hi,hs,_⟩:=T.info
 simp [Go.sizeOf,z12 hi,hs]

theorem TOk.isAgg {t c : Nat} (T : TOk P E τ t c) : (Go.isAgg t).run P w = .ok (E.ty c).ag w:=by
 have h:=T.und
 unfold TI.ag
 cases hk : (E.ty c).k <;> rw [hk] at h <;> simp only at h
 case bool=>simp [Go.isAgg,run_underlying h]
 case int k=>simp [Go.isAgg,run_underlying h]
 case str=>simp [Go.isAgg,run_underlying h]
 case slice e=>obtain ⟨_,h,_⟩:=h; simp [Go.isAgg,run_underlying h]
 case struct fs=>obtain ⟨_,h,_⟩:=h; simp [Go.isAgg,run_underlying h]
 case arr n e=>obtain ⟨_,h,_⟩:=h; simp [Go.isAgg,run_underlying h]
 case map k e=>obtain ⟨_,_,h,_⟩:=h; simp [Go.isAgg,run_underlying h]
 case ptr e=>obtain ⟨_,h⟩:=h; simp [Go.isAgg,run_underlying h]
 case func=>obtain ⟨_,_,_,h⟩:=h; simp [Go.isAgg,run_underlying h]


theorem z2t {cs : List D} : ∀ {n off : Nat} {r : List D},takeC cs off n = some r -> r.length = n /\ ∀ j,j < n -> r[j]? = cs[off + j]? /\ off + j < cs.length
 | 0,off,r,h=>by simp [takeC] at h; subst h; exact ⟨rfl,fun j hj=>absurd hj (Nat.not_lt_zero _)⟩
 | n + 1,off,r,h=>by
  simp only [takeC] at h
  cases h1 : cs[off]? with
  | none=>simp [h1] at h
  | some c=>cases h2 : takeC cs (off + 1) n with
   | none=>simp [h1,h2] at h
   | some r'=>
    simp [h1,h2] at h; subst h
    obtain ⟨hl,hj⟩:=z2t h2
    refine ⟨by simp [hl],fun j hjn=>?_⟩
    cases j with
    | zero=>exact ⟨by simp [h1],(List.getElem?_eq_some_iff.1 h1).1⟩
    | succ j=>have:=hj j (by omega); exact ⟨by simp only [List.getElem?_cons_succ,this.1]; congr 1; omega,by omega⟩

def CellsAt (φ : Phi) (ρ : Rho) (H : HS) (hp : Heap) (b off : Nat) (cs : List D) : Prop:=
 ∃ vl : List Value,RepL φ ρ H hp vl cs /\ ∀ (j : Nat) v,vl[j]? = some v -> cellOf hp b (off + j) = some v

theorem z14 (b off n : Nat) : (⟨b,off,none⟩ : Go.Addr).add n = ⟨b,off + n,none⟩:=by
 unfold Go.Addr.add
 split
 ·rename_i h; subst h; rfl
 ·rfl

theorem z5q {b off : Nat} {v : Value} (h : cellOf w.heap b off = some v) : (Go.load ⟨b,off,none⟩).run P w = .ok v w:=by
 rw [Go.run_load,cell?_eq,h]

theorem z3k {b off : Nat} : ∀ (vl : List Value) (i : Nat) (acc : Array Value),(∀ (j : Nat) v,vl[j]? = some v -> cellOf w.heap b (off + i + j) = some v) ->
  (Go.loadCellsFrom ⟨b,off,none⟩ i vl.length acc).run P w = .ok (acc ++ vl.toArray) w
 | [],i,acc,_=>by simp [Go.loadCellsFrom]
 | v :: vl,i,acc,h=>by
  have h0:=h 0 v rfl
  simp only [List.length_cons,Go.loadCellsFrom,Go.Sem.run_bind,z14]
  rw [z5q (by simpa using h0)]
  simp only [Go.Result.andThen_ok]
  rw [z3k vl (i + 1) (acc.push v) (fun j v' hv=>by have:=h (j + 1) v' (by simpa using hv); rw [<- this]; congr 1; omega)]
  simp

theorem z2o {b off n : Nat} {vl : List Value} (hn : vl.length = n) (h : ∀ (j : Nat) v,vl[j]? = some v -> cellOf w.heap b (off + j) = some v) :
  (Go.loadCells ⟨b,off,none⟩ n).run P w = .ok vl.toArray w:=by
 subst hn
 unfold Go.loadCells
 rw [z3k vl 0 #[] (by simpa using h)]
 simp

theorem CellsAt.take {hp : Heap} {b off : Nat} {cs : List D} (h : CellsAt φ ρ H hp b off cs) {k n : Nat} {r : List D} (hr : takeC cs k n = some r) : CellsAt φ ρ H hp b (off + k) r:=by
 obtain ⟨vl,h1,h2⟩:=h
 obtain ⟨hl,hj⟩:=z2t hr
 refine ⟨(vl.drop k).take n,⟨?_,?_⟩,?_⟩
 ·rw [List.length_take,List.length_drop,hl,h1.1]
  cases n with
  | zero=>simp
  | succ m=>have:=(hj m (by omega)).2; omega
 ·intro j v d hv hd
  have hjn : j < n:=by have:=(List.getElem?_eq_some_iff.1 hd).1; omega
  rw [List.getElem?_take,if_pos hjn,List.getElem?_drop] at hv
  exact h1.2 _ v d hv (by rw [<- (hj j hjn).1]; exact hd)
 ·intro j v hv
  rw [List.getElem?_take] at hv
  split at hv
  ·rw [List.getElem?_drop] at hv
   have:=h2 _ v hv
   rw [<- this]; congr 1; omega
  ·simp at hv

theorem z8p {t c b off : Nat} {r : List D} {d : D} (T : TOk P E τ t c) (h : CellsAt φ ρ H w.heap b off r) (hl : r.length = (E.ty c).size) (hd : ofCells (E.ty c).ag r = some d) :
  ∃ v,(Go.Instr.loadAt t (.pointer (some ⟨b,off,none⟩))).run P w = .ok v w /\ Rep φ ρ H w.heap v d:=by
 obtain ⟨vl,h1,h2⟩:=h
 unfold Go.Instr.loadAt Go.loadVar
 simp only [Go.Instr.sureAddr,Go.Sem.run_bind,Go.Sem.run_pure,Go.Result.andThen_ok,T.isAgg]
 cases ha : (E.ty c).ag with
 | true=>
  rw [ha] at hd
  simp [ofCells] at hd; subst hd
  refine ⟨.agg vl.toArray,?_,h1.agg⟩
  simp only [if_true,Go.Sem.run_bind,T.size,Go.Result.andThen_ok]
  rw [z2o (by rw [h1.1,hl]) h2]
  simp
 | false=>
  rw [ha] at hd
  match r,hd with
  | [c0],hd=>
   simp [ofCells] at hd; subst hd
   match vl,h1 with
   | [v],h1=>
    refine ⟨v,?_,h1.of_cons.1⟩
    have:=h2 0 v rfl
    simp only [Bool.false_eq_true,if_false]
    rw [z5q (by simpa using this)]
   | [],h1=>have:=h1.1; simp at this
   | _ :: _ :: _,h1=>have:=h1.1; simp at this
  | [],hd=>simp [ofCells] at hd
  | _ :: _ :: _,hd=>simp [ofCells] at hd

end
end Dv

namespace Dv
open Go (Value Program World Act Oper Operand Code)

section
variable {P : Program} {E : Env} {φ : Phi} {τ : Phi} {ρ : Rho} {H : HS} {w : World}

def RowAt (φ : Phi) (ρ : Rho) (H : HS) (hp : Heap) (b c : Nat) (cs : List D) : Prop:=
 ∃ (arr : Array Value) (el : Nat),hp[b]? = some (.cells arr el (0,0)) /\ arr.size = c /\ cs.length <= arr.size /\ (∀ (j : Nat) (v : Value) (d : D),arr[j]? = some v -> cs[j]? = some d -> Rep φ ρ H hp v d) /\ ∀ d,d ∈ cs -> d.atom = true

theorem RowAt.cells {hp : Heap} {b c : Nat} {cs : List D} (h : RowAt φ ρ H hp b c cs) : CellsAt φ ρ H hp b 0 cs:=by
 obtain ⟨arr,el,h1,h2,h3,h4,_⟩:=h
 refine ⟨arr.toList.take cs.length,⟨by simp; omega,fun j v d hv hd=>?_⟩,fun j v hv=>?_⟩
 ·rw [List.getElem?_take] at hv
  split at hv
  ·exact h4 j v d (by simpa using hv) hd
  ·simp at hv
 ·rw [List.getElem?_take] at hv
  split at hv
  ·simp [cellOf,h1]; simpa using hv
  ·simp at hv

def StampL (me : Array Go.MapEntry) (clock : Nat) : Prop:=(∀ x,x ∈ me.toList -> x.born < clock) /\ (me.toList.map (·.born)).Nodup

def MapAt (φ : Phi) (ρ : Rho) (H : HS) (hp : Heap) (b : Nat) (es : List (D × D)) : Prop:=
 ∃ (me : Array Go.MapEntry) (clock : Nat),hp[b]? = some (.map me clock) /\ me.size = es.length /\ (∀ (j : Nat) (e : Go.MapEntry) (p : D × D),me[j]? = some e -> es[j]? = some p -> Rep φ ρ H hp e.key p.1 /\ Rep φ ρ H hp e.val p.2) /\ StampL me clock

structure RR (φ : Phi) (ρ : Rho) (H : HS) (hp : Heap) (os : List Obj) : Prop where
 row : ∀ (id b c : Nat) cs,ρ id = some (.blk b c) -> rowOf os id = some cs -> RowAt φ ρ H hp b c cs
 map : ∀ (id b c : Nat) es,ρ id = some (.blk b c) -> os[id]? = some (.map es) -> MapAt φ ρ H hp b es

theorem z8q {os : List Obj} (R : RR φ ρ H w.heap os) {t c : Nat} {va : Value} {a d : D} (T : TOk P E τ t c) (ha : Rep φ ρ H w.heap va a) (h : loadD E os c a = some d) :
  ∃ v,(Go.Instr.loadAt t va).run P w = .ok v w /\ Rep φ ρ H w.heap v d:=by
 unfold loadD at h
 split at h
 ·rename_i id off
  cases ha with
  | loc b cc _ _ hid=>
   have key : ∀ cs,rowOf os id = some cs -> (takeC cs off (E.ty c).size).bind (ofCells (E.ty c).ag) = some d -> ∃ v,(Go.Instr.loadAt t (.pointer (some ⟨b,off,none⟩))).run P w = .ok v w /\ Rep φ ρ H w.heap v d:=by
    intro cs hrow h
    cases ht : takeC cs off (E.ty c).size with
    | none=>simp [ht] at h
    | some r=>
     simp [ht] at h
     have:=((R.row id b cc cs hid hrow).cells).take ht
     rw [Nat.zero_add] at this
     exact z8p T this (z2t ht).1 h
   split at h
   ·rename_i cs hos; exact key cs (by simp [rowOf,hos]) h
   ·rename_i cs hos; exact key cs (by simp [rowOf,hos]) h
   ·cases h
 ·rename_i cs
  cases ha with
  | iptr b off _ vs hH hr=>
   have hc : CellsAt φ ρ H w.heap b off cs:=⟨(List.range cs.length).map vs,⟨by simp,fun j v d hv hd=>by
     simp only [List.getElem?_map,Option.map_eq_some_iff] at hv
     obtain ⟨k,hk,rfl⟩:=hv
     have hj:=(List.getElem?_eq_some_iff.1 hd).1
     rw [List.getElem?_range hj] at hk; simp at hk; subst hk
     exact hr _ d hd⟩,fun j v hv=>by
     simp only [List.getElem?_map,Option.map_eq_some_iff] at hv
     obtain ⟨k,hk,rfl⟩:=hv
     have hj:=(List.getElem?_eq_some_iff.1 hk).1
     simp at hj
     rw [List.getElem?_range hj] at hk; simp at hk; subst hk
     exact (hH _ hj).2⟩
   cases ht : takeC cs 0 (E.ty c).size with
   | none=>simp [ht] at h
   | some r=>
    simp [ht] at h
    have:=hc.take ht
    rw [Nat.add_zero] at this
    exact z8p T this (z2t ht).1 h
 ·cases h

theorem z64 {hp : Heap} {va : Value} {sp : Spare} {els : List D} (h : Rep φ ρ H hp va (.imm sp els)) :
  ∃ a cap b off su,va = .slice a els.length cap /\ els.length <= cap /\ (els ≠ [] -> a = some ⟨b,off,none⟩) /\ (∀ x,x ∈ els -> x.cellsL.length = su /\ x.storable = true) /\
   ∃ vl : List Value,RepL φ ρ H hp vl (flat els) /\ ∀ (j : Nat) v,vl[j]? = some v -> H b (off + j) /\ cellOf hp b (off + j) = some v:=by
 cases h with
 | imm _ _ a cap b off su vs hu hcap hex htok ha hH hr=>
  refine ⟨a,cap,b,off,su,rfl,hcap,ha,hu,(List.range (flat els).length).map vs,⟨by simp,fun j v d hv hd=>?_⟩,fun j v hv=>?_⟩
  ·have hj:=(List.getElem?_eq_some_iff.1 hd).1
   simp only [List.getElem?_map,List.getElem?_range hj,Option.map_some,Option.some.injEq] at hv
   subst hv; exact hr _ d hd
  ·have hj:=(List.getElem?_eq_some_iff.1 hv).1
   simp at hj
   simp only [List.getElem?_map,List.getElem?_range hj,Option.map_some,Option.some.injEq] at hv
   subst hv; exact hH _ hj

theorem z1g (a b : List D) : flat (a ++ b) = flat a ++ flat b:=by simp [flat]

theorem zam {sz : Nat} : ∀ {els : List D},fitsE sz els = true -> (flat els).length = els.length * sz
 | [],_=>by simp [flat]
 | d :: els,h=>by
  simp only [fitsE,List.all_cons,Bool.and_eq_true,beq_iff_eq] at h
  have:=zam (sz:=sz) (els:=els) h.2
  rw [show flat (d :: els) = d.cellsL ++ flat els from rfl,List.length_append,this,h.1.2]
  simp [Nat.add_mul]; omega

theorem zg7 {sz : Nat} : ∀ {els : List D} {i : Nat} {d : D},(∀ x ∈ els.take (i + 1),x.cellsL.length = sz) -> els[i]? = some d -> ∀ j,j < sz -> (flat els)[i * sz + j]? = d.cellsL[j]?
 | x :: els,0,d,hall,hd,j,hj=>by
  simp at hd; subst hd
  have hx : x.cellsL.length = sz:=hall x (by simp)
  rw [show flat (x :: els) = x.cellsL ++ flat els from rfl,Nat.zero_mul,Nat.zero_add,List.getElem?_append_left (by omega)]
 | x :: els,i + 1,d,hall,hd,j,hj=>by
  have hx : x.cellsL.length = sz:=hall x (by simp)
  rw [show flat (x :: els) = x.cellsL ++ flat els from rfl,List.getElem?_append_right (by rw [hx,Nat.add_mul]; omega),hx]
  rw [show (i + 1) * sz + j - sz = i * sz + j from by rw [Nat.add_mul]; omega]
  exact zg7 (fun y hy=>hall y (by simp; exact .inr hy)) (by simpa using hd) j hj

end
end Dv

namespace Dv
open Go (Value Program World Act Oper Operand Code)

section
variable {P : Program} {E : Env} {φ : Phi} {τ : Phi} {ρ : Rho} {H : HS} {w : World}

theorem TOk.slice {t c e : Nat} (T : TOk P E τ t c) (h : (E.ty c).k = .slice e) : ∃ e',P.underlying t = some (.slice e') /\ τ e' = some e:=by
 have:=T.und; rw [h] at this; exact this

theorem Rep.intv {hp : Heap} {v : Value} {k : Go.IntKind} {n : Int} (h : Rep φ ρ H hp v (.int k n)) : v = .int k n:=by cases h; rfl
theorem Rep.boolv {hp : Heap} {v : Value} {b : Bool} (h : Rep φ ρ H hp v (.bool b)) : v = .bool b:=by cases h; rfl

theorem zhx (TA : TAll P E τ) {t c : Nat} {vx vi : Value} {x i d : D} (T : TOk P E τ t c) (hx : Rep φ ρ H w.heap vx x) (hi : Rep φ ρ H w.heap vi i) (h : iaddrD E c x i = some d) :
  ∃ v,(Go.Instr.indexAt t vx vi).run P w = .ok v w /\ Rep φ ρ H w.heap v d:=by
 unfold iaddrD at h
 split at h
 ·rename_i sp els k n e hk
  obtain ⟨e',hu,he'⟩:=T.slice hk
  have Te:=TA _ _ he'
  obtain rfl:=hi.intv
  split at h
  ·rename_i hn
   split at h
   ·rename_i d0 hd0
    split at h
    ·rename_i hl
     simp at h; subst h
     obtain ⟨a,cap,b,off,su,rfl,hcap,ha,hun,vl,hrl,hcl⟩:=z64 hx
     have hlt:=(List.getElem?_eq_some_iff.1 hd0).1
     have hne : els ≠ []:=by rintro rfl; simp at hlt
     have hmem : d0 ∈ els:=by obtain ⟨h1,h2⟩:=List.getElem?_eq_some_iff.1 hd0; rw [<- h2]; exact List.getElem_mem h1
     have hsu : su = (E.ty e).size:=by rw [<- (hun d0 hmem).1,hl]
     rw [ha hne]
     refine ⟨.pointer (some ⟨b,off + n.toNat * (E.ty e).size,none⟩),?_,?_⟩
     ·unfold Go.Instr.indexAt
      have : (0 : Int) <= n /\ n < (els.length : Int):=⟨hn,by omega⟩
      simp [Go.asIntOf,run_underlying hu,this,Te.size,z14]
     ·have key : ∀ j,j < (E.ty e).size -> (flat els)[n.toNat * (E.ty e).size + j]? = d0.cellsL[j]?:=fun j hj=>
       zg7 (fun y hy=>by rw [<- hsu]; exact (hun y (List.mem_of_mem_take hy)).1) hd0 j hj
      refine .iptr _ _ _ (fun j=>vl.getD (n.toNat * (E.ty e).size + j) Go.undef) (fun j hj=>?_) (fun j d1 hd1=>?_)
      ·rw [hl] at hj
       have h1:=key j hj
       have h2 : (flat els)[n.toNat * (E.ty e).size + j]? ≠ none:=by rw [h1,List.getElem?_eq_getElem (by omega)]; simp
       have h3 : n.toNat * (E.ty e).size + j < vl.length:=by rw [hrl.1]; exact Nat.lt_of_not_le fun hh=>h2 (List.getElem?_eq_none hh)
       have h4:=hcl _ _ (List.getElem?_eq_getElem h3)
       rw [List.getD_eq_getElem?_getD,List.getElem?_eq_getElem h3,Nat.add_assoc]
       exact h4
      ·have hj : j < (E.ty e).size:=by rw [<- hl]; exact (List.getElem?_eq_some_iff.1 hd1).1
       have h1:=key j hj
       rw [hd1] at h1
       obtain ⟨v,hv,hr⟩:=hrl.get h1
       rw [List.getD_eq_getElem?_getD,hv]
       exact hr
    ·simp at h
   ·simp at h
  ·simp at h
 ·rename_i id off len sz ag gr k n e hk
  obtain ⟨e',hu,he'⟩:=T.slice hk
  have Te:=TA _ _ he'
  obtain rfl:=hi.intv
  split at h
  ·rename_i hn
   simp at h; subst h
   cases hx with
   | sl _ _ _ _ _ _ b c cap a hid hl ha hc=>
    have hne : len ≠ 0:=by omega
    rw [ha hne]
    refine ⟨.pointer (some ⟨b,off + n.toNat * (E.ty e).size,none⟩),?_,?_⟩
    ·unfold Go.Instr.indexAt
     simp [Go.asIntOf,run_underlying hu,hn.1,hn.2.1,Te.size,z14]
    ·rw [hn.2.2]; exact .loc _ _ _ _ hid
  ·simp at h
 ·rename_i id off k n len e hk
  have hu:=T.und; rw [hk] at hu
  obtain ⟨e',hu,he'⟩:=hu
  have Te:=TA _ _ he'
  obtain rfl:=hi.intv
  split at h
  ·rename_i hn
   simp at h; subst h
   cases hx with
   | loc b c _ _ hid=>
    refine ⟨.pointer (some ⟨b,off + n.toNat * (E.ty e).size,none⟩),?_,.loc _ _ _ _ hid⟩
    unfold Go.Instr.indexAt
    simp [Go.asIntOf,run_underlying hu,Go.Instr.sureAddr,hn.1,hn.2,Te.size,z14]
  ·simp at h
 ·rename_i cs k n len e hk
  have hu:=T.und; rw [hk] at hu
  obtain ⟨e',hu,he'⟩:=hu
  have Te:=TA _ _ he'
  obtain rfl:=hi.intv
  split at h
  ·rename_i hn
   simp at h; subst h
   cases hx with
   | iptr b off _ vs hH hr=>
    refine ⟨.pointer (some ⟨b,off + n.toNat * (E.ty e).size,none⟩),?_,.iptr b _ _ (fun j=>vs (n.toNat * (E.ty e).size + j)) (fun j hj=>?_) (fun j d hd=>hr _ d (by simpa using hd))⟩
    ·unfold Go.Instr.indexAt
     simp [Go.asIntOf,run_underlying hu,Go.Instr.sureAddr,hn.1,hn.2,Te.size,z14]
    ·have:=hH (n.toNat * (E.ty e).size + j) (by simp at hj; omega)
     rw [Nat.add_assoc]; exact this
  ·simp at h
 ·simp at h

theorem z2c {x : D} {v : Value} {y l : Nat} {code : Go.BoundsCode} (h : Rep φ ρ H w.heap v x) (hb : bnd (some x) 0 = some l) (hl : l <= y) : (Go.Instr.sliceBound v y code).run P w = .ok l w:=by
 unfold bnd at hb
 split at hb
 ·contradiction
 ·rename_i k n hk
  simp at hk; subst hk
  obtain rfl:=h.intv
  split at hb
  ·rename_i h0
   simp at hb; subst hb
   unfold Go.Instr.sliceBound
   have : n <= (y : Int):=by omega
   simp [Go.asIntOf,h0,this]
  ·simp at hb
 ·simp at hb

def RepO (φ : Phi) (ρ : Rho) (H : HS) (hp : Heap) : Option Value -> Option D -> Prop
 | none,none=>True
 | some v,some d=>Rep φ ρ H hp v d
 | _,_=>False

theorem z7v {x : D} {a b : Nat} : bnd (some x) a = bnd (some x) b:=by cases x <;> rfl

theorem z1z {isS : Bool} {vl vh vm : Option Value} {lo hi mx : Option D} {len cap l h m : Nat} (rl : RepO φ ρ H w.heap vl lo) (rh : RepO φ ρ H w.heap vh hi) (rm : RepO φ ρ H w.heap vm mx)
  (hl : bnd lo 0 = some l) (hh : bnd hi len = some h) (hm : bnd mx cap = some m) (hmh : mx.isSome = true -> hi.isSome = true) (h1 : l <= h) (h2 : h <= m) (h3 : m <= cap) :
  (Go.Instr.sliceBounds isS len cap vl vh vm).run P w = .ok (l,h,m) w:=by
 have e1 : ∀ code,(match vl with | some v=>Go.Instr.sliceBound v h code | none=>pure 0 : Go.Sem Nat).run P w = .ok l w:=by
  intro code
  match vl,lo,rl with
  | none,none,_=>simp [bnd] at hl; simp [hl]
  | some v,some d,r=>exact z2c r hl h1
 match vm,mx,rm with
 | none,none,_=>
  simp [bnd] at hm; subst hm
  match vh,hi,rh with
  | none,none,_=>
   simp [bnd] at hh; subst hh
   unfold Go.Instr.sliceBounds
   have e2:=e1 .sliceB
   cases vl <;> simp_all
  | some v,some d,r=>
   unfold Go.Instr.sliceBounds
   have e2:=e1 .sliceB
   have e3 : ∀ code,(Go.Instr.sliceBound v cap code).run P w = .ok h w:=fun code=>z2c r (by rw [z7v (b:=len)]; exact hh) h2
   cases vl <;> simp_all
 | some vm,some dm,rm=>
  match vh,hi,rh with
  | none,none,_=>simp at hmh
  | some v,some d,r=>
   unfold Go.Instr.sliceBounds
   have e2:=e1 .slice3C
   have e3 : ∀ code,(Go.Instr.sliceBound v m code).run P w = .ok h w:=fun code=>z2c r (by rw [z7v (b:=len)]; exact hh) h2
   have e4 : ∀ code,(Go.Instr.sliceBound vm cap code).run P w = .ok m w:=fun code=>z2c rm (by rw [z7v (b:=cap)]; exact hm) h3
   cases vl <;> simp_all

end
end Dv

namespace Dv
open Go (Value Program World Act Oper Operand Code)

section
variable {P : Program} {E : Env} {φ : Phi} {τ : Phi} {ρ : Rho} {H : HS} {w : World}

theorem z52 {su : Nat} : ∀ {els : List D} (l n : Nat),(∀ x,x ∈ els -> x.cellsL.length = su) -> ∀ (j : Nat),j < (flat ((els.drop l).take n)).length -> (flat ((els.drop l).take n))[j]? = (flat els)[l * su + j]?
 | [],l,n,_,j,hj=>by simp [flat] at hj
 | x :: els,0,n,hu,j,hj=>by
  simp only [List.drop_zero] at hj ⊢
  have : flat (x :: els) = flat ((x :: els).take n) ++ flat ((x :: els).drop n):=by rw [<- z1g,List.take_append_drop]
  rw [this,Nat.zero_mul,Nat.zero_add,List.getElem?_append_left hj]
 | x :: els,l + 1,n,hu,j,hj=>by
  simp only [List.drop_succ_cons] at hj ⊢
  rw [z52 (su:=su) l n (fun y hy=>hu y (List.mem_cons_of_mem _ hy)) j hj]
  have hx : x.cellsL.length = su:=hu x (by simp)
  rw [show flat (x :: els) = x.cellsL ++ flat els from rfl,List.getElem?_append_right (by rw [hx,Nat.add_mul]; omega),hx]
  congr 1
  rw [Nat.add_mul]; omega

theorem zg {su : Nat} {els : List D} (hu : ∀ x,x ∈ els -> x.cellsL.length = su) : (flat els).length = els.length * su:=by
 induction els with
 | nil=>simp [flat]
 | cons x els ih=>
  rw [show flat (x :: els) = x.cellsL ++ flat els from rfl,List.length_append,ih (fun y hy=>hu y (List.mem_cons_of_mem _ hy)),hu x (by simp),List.length_cons,Nat.add_mul]
  omega

theorem z94 : ∀ {l : List D},(∀ x,x ∈ l -> x.cellsL = [x]) -> flat l = l
 | [],_=>rfl
 | x :: l,h=>by
  have e : flat (x :: l) = x.cellsL ++ flat l:=rfl
  rw [e,h x (by simp),z94 fun y hy=>h y (by simp [hy])]
  rfl

theorem zgy (TA : TAll P E τ) {t c : Nat} {vx : Value} {vl vh vm : Option Value} {x d : D} {lo hi mx : Option D} (T : TOk P E τ t c) (hx : Rep φ ρ H w.heap vx x) (rl : RepO φ ρ H w.heap vl lo)
  (rh : RepO φ ρ H w.heap vh hi) (rm : RepO φ ρ H w.heap vm mx) (hmh : mx.isSome = true -> hi.isSome = true) (h : sliceD E c x lo hi mx = some d) :
  ∃ v,(Go.Instr.sliceAt t vx vl vh vm).run P w = .ok v w /\ Rep φ ρ H w.heap v d:=by
 unfold sliceD at h
 split at h
 ·rename_i sp els e hk
  obtain ⟨e',hu,he'⟩:=T.slice hk
  have Te:=TA _ _ he'
  split at h
  ·rename_i l hh m e1 e2 e3
   split at h
   ·rename_i hb
    obtain ⟨b1,b2,b3,b4⟩:=hb
    simp at h; subst h
    cases hx with
    | imm _ _ a cap b off su vs hun hcap hex htok ha hH hr=>
     have hsu : els ≠ [] -> su = (E.ty e).size:=by
      intro hne
      cases els with
      | nil=>exact absurd rfl hne
      | cons y ys=>simp [headFits] at b4; rw [<- b4]; exact (hun y (by simp)).1.symm
     obtain ⟨m',hm',hm1,hm2⟩ : ∃ m',bnd mx cap = some m' /\ hh <= m' /\ m' <= cap /\ (mx.isSome = true -> m' = m) /\ (mx = none -> m' = cap):=by
      cases mx with
      | none=>exact ⟨cap,rfl,by omega,Nat.le_refl _,by simp,by simp⟩
      | some y=>exact ⟨m,by rw [z7v (b:=els.length)]; exact e3,b2,by omega,by simp,by simp⟩
     have hrun:=z1z (P:=P) (isS:=true) rl rh rm e1 e2 hm' hmh b1 hm1 hm2.1
     refine ⟨.slice (if m' = l then a else a.map (·.add (l * (E.ty e).size))) (hh - l) (m' - l),?_,?_⟩
     ·unfold Go.Instr.sliceAt Go.Instr.slice
      simp [run_underlying hu,hrun,Te.size]
     ·have hlen : ((els.drop l).take (hh - l)).length = hh - l:=by simp; omega
      have hsub : ∀ y,y ∈ (els.drop l).take (hh - l) -> y ∈ els:=fun y hy=>List.mem_of_mem_drop (List.mem_of_mem_take hy)
      have hnum : ∀ (j : Nat),j < (flat ((els.drop l).take (hh - l))).length -> (flat ((els.drop l).take (hh - l)))[j]? = (flat els)[l * su + j]?:=
       z52 l (hh - l) (fun y hy=>(hun y hy).1)
      have hlt : ∀ (j : Nat),j < (flat ((els.drop l).take (hh - l))).length -> l * su + j < (flat els).length:=by
       intro j hj
       have h1:=hnum j hj
       rw [List.getElem?_eq_getElem hj] at h1
       exact (List.getElem?_eq_some_iff.1 h1.symm).1
      have key:=Rep.imm (φ:=φ) (ρ:=ρ) (H:=H) (hp:=w.heap) (sliceSpare sp els.length hh (mx.map fun _=>m)) ((els.drop l).take (hh - l))
       (if m' = l then a else a.map (·.add (l * (E.ty e).size))) (m' - l) b (off + l * su) su (fun j=>vs (l * su + j)) (fun y hy=>hun y (hsub y hy)) (by rw [hlen]; omega)
       (by
        rw [hlen]
        intro hs
        unfold sliceSpare at hs
        cases mx with
        | none=>
         simp only [Option.map_none] at hs
         split at hs
         ·rename_i e4
          cases sp with
          | exact=>have:=hex rfl; rw [hm2.2.2 rfl]; omega
          | none=>simp at hs
          | tok k=>simp at hs
         ·simp at hs
        | some y=>
         simp only [Option.map_some] at hs
         split at hs
         ·rename_i e4; rw [hm2.2.1 rfl,e4]
         ·simp at hs)
       (by
        intro k hs
        unfold sliceSpare at hs
        cases mx <;> simp only [Option.map_none,Option.map_some] at hs <;> split at hs <;> first | (simp at hs; done) | (cases sp <;> simp at hs))
       (by
        intro hne
        have h0 : hh - l ≠ 0:=by intro h0; rw [h0] at hne; simp at hne
        have hne' : els ≠ []:=by rintro rfl; simp at hne
        rw [if_neg (by omega),ha hne',hsu hne']
        simp [z14])
       (by
        intro j hj
        have:=hH (l * su + j) (hlt j hj)
        rw [show off + l * su + j = off + (l * su + j) from by omega]
        exact this)
       (by
        intro j d1 hd1
        have hj:=(List.getElem?_eq_some_iff.1 hd1).1
        exact hr _ d1 (by rw [<- hnum j hj]; exact hd1))
      rw [hlen] at key
      exact key
   ·simp at h
  ·simp at h
 ·rename_i id off len sz ag gr e hk
  obtain ⟨e',hu,he'⟩:=T.slice hk
  have Te:=TA _ _ he'
  split at h
  ·rename_i l hh e1 e2
   split at h
   ·rename_i hb
    simp at h; subst h
    cases hx with
    | sl _ _ _ _ _ _ b c cap a hid hl ha hc=>
     have hrun:=z1z (P:=P) (w:=w) (isS:=true) (cap:=cap) (m:=cap) rl rh rm e1 e2 rfl hmh hb.1 (by omega) (Nat.le_refl _)
     refine ⟨.slice (if cap = l then a else a.map (·.add (l * (E.ty e).size))) (hh - l) (cap - l),?_,?_⟩
     ·unfold Go.Instr.sliceAt Go.Instr.slice
      simp [run_underlying hu,hrun,Te.size]
     ·refine .sl _ _ _ _ _ _ b c _ _ hid (by omega) (fun h0=>?_) (by simp)
      rw [if_neg (by omega),ha (by omega),<- hb.2.2]
      simp [z14]
   ·simp at h
  ·simp at h
 ·rename_i id off n e hk
  have hu:=T.und; rw [hk] at hu
  obtain ⟨e',hu,he'⟩:=hu
  have Te:=TA _ _ he'
  split at h
  ·rename_i l hh e1 e2
   split at h
   ·rename_i hb
    simp at h; subst h
    cases hx with
    | loc b c _ _ hid=>
     have hrun:=z1z (P:=P) (w:=w) (isS:=false) (cap:=n) (m:=n) rl rh rm e1 e2 rfl hmh hb.1 hb.2 (Nat.le_refl _)
     refine ⟨.slice (some (if n = l then ⟨b,off,none⟩ else (⟨b,off,none⟩ : Go.Addr).add (l * (E.ty e).size))) (hh - l) (n - l),?_,?_⟩
     ·unfold Go.Instr.sliceAt
      simp [run_underlying hu,Go.Instr.sureAddr,hrun,Te.size]
     ·refine .sl _ _ _ _ _ _ b c _ _ hid (by omega) (fun h0=>?_) (by simp)
      rw [if_neg (by omega),z14]
   ·simp at h
  ·simp at h
 ·rename_i cs n e hk
  have hu:=T.und; rw [hk] at hu
  obtain ⟨e',hu,he'⟩:=hu
  have Te:=TA _ _ he'
  split at h
  ·rename_i l hh e1 e2
   split at h
   ·rename_i hb
    obtain ⟨b1,b2,b3,b4,b5⟩:=hb
    simp at h; subst h
    cases hx with
    | iptr b off _ vs hH hr=>
     have hrun:=z1z (P:=P) (w:=w) (isS:=false) (cap:=n) (m:=n) rl rh rm e1 e2 rfl hmh b1 b2 (Nat.le_refl _)
     refine ⟨.slice (some (if n = l then ⟨b,off,none⟩ else (⟨b,off,none⟩ : Go.Addr).add (l * (E.ty e).size))) (hh - l) (n - l),?_,?_⟩
     ·unfold Go.Instr.sliceAt
      simp [run_underlying hu,Go.Instr.sureAddr,hrun,Te.size]
     ·have hone : ∀ x,x ∈ cs -> x.cellsL = [x] /\ x.storable = true:=fun x hx=>by
       have:=List.all_eq_true.1 b5 x hx
       cases x <;> first | exact ⟨rfl,rfl⟩ | (simp [D.atom] at this)
      have hsub : ∀ x,x ∈ (cs.drop l).take (hh - l) -> x ∈ cs:=fun x hx=>List.mem_of_mem_drop (List.mem_of_mem_take hx)
      have hun : ∀ x,x ∈ (cs.drop l).take (hh - l) -> x.cellsL.length = 1 /\ x.storable = true:=fun x hx=>by
       obtain ⟨h1,h2⟩:=hone x (hsub x hx)
       exact ⟨by rw [h1]; rfl,h2⟩
      have hlen : ((cs.drop l).take (hh - l)).length = hh - l:=by simp; omega
      have hfl : flat ((cs.drop l).take (hh - l)) = (cs.drop l).take (hh - l):=z94 fun x hx=>(hone x (hsub x hx)).1
      have key:=Rep.imm (φ:=φ) (ρ:=ρ) (H:=H) (hp:=w.heap) .none ((cs.drop l).take (hh - l)) (some (if n = l then ⟨b,off,none⟩ else (⟨b,off,none⟩ : Go.Addr).add (l * (E.ty e).size))) (n - l) b (off + l) 1 (fun j=>vs (l + j)) hun (by omega) (fun h=>by cases h) (fun k hk=>by cases hk) (fun hne=>?_) (fun j hj=>?_) (fun j d1 hd1=>?_)
      ·rw [hlen] at key; exact key
      ·have h0 : hh - l ≠ 0:=by intro h0; rw [h0] at hne; simp at hne
       rw [if_neg (by omega),b4,Nat.mul_one]; simp [z14]
      ·rw [hfl,hlen] at hj
       have:=hH (l + j) (by omega)
       rw [Nat.add_assoc]; exact this
      ·rw [hfl,List.getElem?_take] at hd1
       split at hd1
       ·rw [List.getElem?_drop] at hd1
        exact hr _ d1 hd1
       ·simp at hd1
   ·simp at h
  ·simp at h
 ·simp at h

end
end Dv

namespace Dv
open Go (Value Program World Act Oper Operand Code)

section
variable {P : Program} {E : Env} {φ : Phi} {τ : Phi} {ρ : Rho} {H : HS} {w : World}

theorem zfm {t c off : Nat} {vs : List Value} {cs r : List D} {d : D} (T : TOk P E τ t c) (hs : RepL φ ρ H w.heap vs cs) (ht : takeC cs off (E.ty c).size = some r) (hd : ofCells (E.ty c).ag r = some d) :
  ∃ v,(Go.part t vs.toArray off).run P w = .ok v w /\ Rep φ ρ H w.heap v d:=by
 obtain ⟨hl,hj⟩:=z2t ht
 unfold Go.part
 simp only [Go.Sem.run_bind,T.isAgg,Go.Result.andThen_ok]
 cases ha : (E.ty c).ag with
 | true=>
  rw [ha] at hd
  simp [ofCells] at hd; subst hd
  refine ⟨.agg (vs.toArray.extract off (off + (E.ty c).size)),by simp [T.size],?_⟩
  have hsz : (vs.toArray.extract off (off + (E.ty c).size)).size = r.length:=by
   simp only [Array.size_extract,List.size_toArray]
   rw [hl,hs.1]
   cases hsz : (E.ty c).size with
   | zero=>simp; omega
   | succ m=>have:=(hj m (by omega)).2; omega
  refine .agg _ _ hsz (fun j v d hv hd=>?_)
  have hjr : j < (E.ty c).size:=by rw [<- hl]; exact (List.getElem?_eq_some_iff.1 hd).1
  rw [Array.getElem?_extract] at hv
  split at hv
  ·exact hs.2 (off + j) v d (by simpa using hv) (by rw [<- (hj j hjr).1]; exact hd)
  ·simp at hv
 | false=>
  rw [ha] at hd
  match r,hd with
  | [c0],hd=>
   simp [ofCells] at hd; subst hd
   have h1:=(hj 0 (by rw [<- hl]; simp)).1
   simp at h1
   obtain ⟨v,hv,hr⟩:=hs.get h1.symm
   exact ⟨v,by simp [hv],hr⟩
  | [],hd=>simp [ofCells] at hd
  | _ :: _ :: _,hd=>simp [ofCells] at hd

theorem TOk.struct {t c : Nat} {fs : List (Nat × Nat)} (T : TOk P E τ t c) (h : (E.ty c).k = .struct fs) : ∃ fs' : Array Go.Field,P.underlying t = some (.struct fs') /\ fs'.size = fs.length /\
  ∀ (i : Nat) (f : Go.Field) (p : Nat × Nat),fs'[i]? = some f -> fs[i]? = some p -> f.offset = p.1 /\ τ f.type = some p.2:=by
 have:=T.und; rw [h] at this; exact this

theorem z8y {fs' : Array Go.Field} {fs : List (Nat × Nat)} (hs : fs'.size = fs.length) {i : Nat} {p : Nat × Nat} (h : fs[i]? = some p) : ∃ f,fs'[i]? = some f:=by
 have:=(List.getElem?_eq_some_iff.1 h).1
 exact ⟨fs'[i],Array.getElem?_eq_getElem (by omega)⟩

theorem zib (TA : TAll P E τ) {t c : Nat} {vx : Value} {x d : D} {f : Nat} (T : TOk P E τ t c) (hx : Rep φ ρ H w.heap vx x) (h : fieldD E c x f = some d) :
  ∃ v,(Go.Instr.field t vx f).run P w = .ok v w /\ Rep φ ρ H w.heap v d:=by
 unfold fieldD at h
 split at h
 ·rename_i fs cs hk
  obtain ⟨fs',hu,hs,hf⟩:=T.struct hk
  obtain ⟨vs,rfl,hr⟩:=hx.aggL
  split at h
  ·rename_i off u hp
   obtain ⟨g,hg⟩:=z8y hs hp
   obtain ⟨ho,ht⟩:=hf _ _ _ hg hp
   cases e : takeC cs off (E.ty u).size with
   | none=>simp [e] at h
   | some r=>
    simp [e] at h
    obtain ⟨v,h1,h2⟩:=zfm (TA _ _ ht) hr e h
    refine ⟨v,?_,h2⟩
    unfold Go.Instr.field
    simp only [Go.Sem.run_bind,run_underlying hu,Go.Result.andThen_ok,hg,Go.asAgg,Go.Sem.run_pure]
    rw [ho]; exact h1
  ·simp at h
 ·simp at h

theorem zic (TA : TAll P E τ) {t c : Nat} {vx : Value} {x d : D} {f : Nat} (T : TOk P E τ t c) (hx : Rep φ ρ H w.heap vx x) (h : faddrD E c x f = some d) :
  ∃ v,(Go.Instr.fieldAt t vx f).run P w = .ok v w /\ Rep φ ρ H w.heap v d:=by
 unfold faddrD at h
 split at h
 ·rename_i fs id off hk
  obtain ⟨fs',hu,hs,hf⟩:=T.struct hk
  split at h
  ·rename_i o u hp
   obtain ⟨g,hg⟩:=z8y hs hp
   obtain ⟨ho,ht⟩:=hf _ _ _ hg hp
   split at h
   ·simp at h
   ·rename_i hz
    simp at h; subst h
    cases hx with
    | loc b cc _ _ hid=>
     refine ⟨.pointer (some ⟨b,off + o,none⟩),?_,.loc _ _ _ _ hid⟩
     unfold Go.Instr.fieldAt Go.fieldPlace
     simp [run_underlying hu,hg,Go.Instr.sureAddr,(TA _ _ ht).size,hz,z14,ho]
  ·simp at h
 ·rename_i fs cs hk
  obtain ⟨fs',hu,hs,hf⟩:=T.struct hk
  split at h
  ·rename_i o u hp
   obtain ⟨g,hg⟩:=z8y hs hp
   obtain ⟨ho,ht⟩:=hf _ _ _ hg hp
   split at h
   ·simp at h
   ·rename_i hz
    simp at h; subst h
    cases hx with
    | iptr b off _ vs hH hr=>
     refine ⟨.pointer (some ⟨b,off + o,none⟩),?_,.iptr b (off + o) _ (fun j=>vs (o + j)) (fun j hj=>?_) (fun j d hd=>hr _ d (by simpa using hd))⟩
     ·unfold Go.Instr.fieldAt Go.fieldPlace
      simp [run_underlying hu,hg,Go.Instr.sureAddr,(TA _ _ ht).size,hz,z14,ho]
     ·have:=hH (o + j) (by simp at hj; omega)
      rw [Nat.add_assoc]; exact this
  ·simp at h
 ·simp at h

theorem zhv (TA : TAll P E τ) {t c : Nat} {vx vi : Value} {x i d : D} (T : TOk P E τ t c) (hx : Rep φ ρ H w.heap vx x) (hi : Rep φ ρ H w.heap vi i) (h : indexD E c x i = some d) :
  ∃ v,(Go.Instr.index t vx vi).run P w = .ok v w /\ Rep φ ρ H w.heap v d:=by
 unfold indexD at h
 split at h
 ·rename_i len e cs k n hk
  have hu:=T.und; rw [hk] at hu
  obtain ⟨e',hu,he'⟩:=hu
  have Te:=TA _ _ he'
  obtain ⟨vs,rfl,hr⟩:=hx.aggL
  obtain rfl:=hi.intv
  split at h
  ·rename_i hn
   cases e1 : takeC cs (n.toNat * (E.ty e).size) (E.ty e).size with
   | none=>simp [e1] at h
   | some r=>
    simp [e1] at h
    obtain ⟨v,h1,h2⟩:=zfm Te hr e1 h
    refine ⟨v,?_,h2⟩
    unfold Go.Instr.index
    simp [Go.asIntOf,run_underlying hu,hn.1,hn.2,Te.size,h1]
  ·simp at h
 ·rename_i s k n hk
  have hu:=T.und; rw [hk] at hu
  obtain rfl:=hi.intv
  cases hx with
  | str bs=>
   split at h
   ·rename_i hn
    split at h
    ·rename_i b hb
     simp at h; subst h
     refine ⟨.int .u8 b.toNat,?_,.int _ _⟩
     unfold Go.Instr.index
     have hb' : bs[n.toNat]? = some b:=by
      obtain ⟨h1,h2⟩:=List.getElem?_eq_some_iff.1 hb
      simp at h1 h2
      have : n.toNat < bs.size:=h1
      rw [getElem?_pos bs n.toNat this]
      exact congrArg some h2
     simp [Go.asIntOf,run_underlying hu,hn,hb']
    ·simp at h
   ·simp at h
 ·simp at h

theorem znp {os : List Obj} (R : RR φ ρ H w.heap os) {t c t2 : Nat} {vx : Value} {x d : D} (T : TOk P E τ t c) (hx : Rep φ ρ H w.heap vx x) (h : lenD E os c x = some d) :
  ∃ v,(Go.Builtin.len_ #[t] t2 #[vx]).run P w = .ok v w /\ Rep φ ρ H w.heap v d:=by
 unfold lenD at h
 split at h
 ·rename_i e sp els hk
  obtain ⟨e',hu,he'⟩:=T.slice hk
  simp at h; subst h
  obtain ⟨a,cap,b,off,su,rfl,_⟩:=z64 hx
  exact ⟨_,by simp [Go.Builtin.len_,run_underlying hu]; rfl,.int _ _⟩
 ·rename_i e id off len sz ag gr hk
  obtain ⟨e',hu,he'⟩:=T.slice hk
  simp at h; subst h
  cases hx
  exact ⟨_,by simp [Go.Builtin.len_,run_underlying hu]; rfl,.int _ _⟩
 ·rename_i s hk
  have hu:=T.und; rw [hk] at hu
  simp at h; subst h
  cases hx with
  | str bs=>exact ⟨_,by simp [Go.Builtin.len_,run_underlying hu]; rfl,by simp [Go.goInt]; exact .int _ _⟩
 ·rename_i n e _ hk
  have hu:=T.und; rw [hk] at hu
  obtain ⟨e',hu,he'⟩:=hu
  simp at h; subst h
  exact ⟨_,by simp [Go.Builtin.len_,run_underlying hu]; rfl,.int _ _⟩
 ·rename_i k e hk
  have hu:=T.und; rw [hk] at hu
  obtain ⟨k',e',hu,_⟩:=hu
  simp at h; subst h
  cases hx
  exact ⟨_,by simp [Go.Builtin.len_,run_underlying hu]; rfl,.int _ _⟩
 ·rename_i k e id hk
  have hu:=T.und; rw [hk] at hu
  obtain ⟨k',e',hu,_⟩:=hu
  split at h
  ·rename_i es hes
   simp at h; subst h
   cases hx with
   | map b cc _ hid=>
    obtain ⟨me,clock,h1,h2,h3,_⟩:=R.map _ _ _ _ hid hes
    refine ⟨.int .i64 me.size,?_,by rw [h2]; exact .int _ _⟩
    simp [Go.Builtin.len_,run_underlying hu,Go.getObj,Go.Sem.run,h1,Go.goInt]
  ·simp at h
 ·simp at h

end
end Dv

namespace Dv
open Go (Value Program World Act Oper Operand Code)

section
variable {P : Program} {E : Env} {φ : Phi} {τ : Phi} {ρ : Rho} {H : HS} {w : World}

theorem zhu {op : Go.BinOp} {k : Go.IntKind} {a b : Int} {t : Nat} {d : D} (h : intBin op k a b = some d) :
  ∃ v,(Go.binOp op t (.int k a) (.int k b)).run P w = .ok v w /\ Rep φ ρ H w.heap v d:=by
 unfold intBin at h
 cases op <;> simp only [reduceCtorEq,Option.some.injEq] at h
 case and=>subst h; exact ⟨.int k _,by simp [Go.binOp,Go.Op.intBits,andI],.int _ _⟩
 case or=>subst h; exact ⟨.int k _,by simp [Go.binOp,Go.Op.intBits,iorI],.int _ _⟩
 case xor=>subst h; exact ⟨.int k _,by simp [Go.binOp,Go.Op.intBits,xorI],.int _ _⟩
 case add=>subst h; exact ⟨.int k _,by simp [Go.binOp,Go.Op.intArith],.int _ _⟩
 case sub=>subst h; exact ⟨.int k _,by simp [Go.binOp,Go.Op.intArith],.int _ _⟩
 case mul=>subst h; exact ⟨.int k _,by simp [Go.binOp,Go.Op.intArith],.int _ _⟩
 case quo=>
  split at h
  ·simp at h
  ·rename_i hb; simp at h; subst h; exact ⟨.int k _,by simp [Go.binOp,Go.Op.intDiv,hb],.int _ _⟩
 case rem=>
  split at h
  ·simp at h
  ·rename_i hb; simp at h; subst h; exact ⟨.int k _,by simp [Go.binOp,Go.Op.intDiv,hb],.int _ _⟩
 case eql=>subst h; exact ⟨.bool _,by simp [Go.binOp,Go.Op.intCmp],.bool _⟩
 case neq=>subst h; exact ⟨.bool _,by simp [Go.binOp,Go.Op.intCmp],.bool _⟩
 case lss=>subst h; exact ⟨.bool _,by simp [Go.binOp,Go.Op.intCmp],.bool _⟩
 case leq=>subst h; exact ⟨.bool _,by simp [Go.binOp,Go.Op.intCmp],.bool _⟩
 case gtr=>subst h; exact ⟨.bool _,by simp [Go.binOp,Go.Op.intCmp],.bool _⟩
 case geq=>subst h; exact ⟨.bool _,by simp [Go.binOp,Go.Op.intCmp],.bool _⟩

theorem ziv (a : ByteArray) : ∀ (n i : Nat) (r : List UInt8),a.size - i = n -> ByteArray.toList.loop a i r = r.reverse ++ a.data.toList.drop i:=by
 intro n
 induction n with
 | zero=>
  intro i r h
  unfold ByteArray.toList.loop
  have hs : a.data.toList.length = a.size:=rfl
  rw [if_neg (by omega),List.drop_eq_nil_of_le (by omega),List.append_nil]
 | succ n ih=>
  intro i r h
  unfold ByteArray.toList.loop
  have hs : a.data.toList.length = a.size:=rfl
  rw [if_pos (by omega),ih (i + 1) _ (by omega)]
  have hi : i < a.data.size:=by have : a.size = a.data.size:=rfl; omega
  rw [List.drop_eq_getElem_cons (i:=i) (by simpa using hi)]
  simp [ByteArray.get!]
  exact getElem!_pos a.data i hi

theorem z4w (a : ByteArray) : a.toList = a.data.toList:=by
 unfold ByteArray.toList
 rw [ziv a a.size 0 [] (by simp)]
 simp

theorem z1j (op : Go.BinOp) (t : Nat) (x y : Operand) (a b : Value) (h : (∀ xs,a ≠ .agg xs) /\ a ≠ .nilIface) : (Go.eqGuard op t x y a b).run P w = .ok () w:=by
 unfold Go.eqGuard
 cases op <;> simp <;> (split <;> simp_all)

theorem zmb {op : Go.BinOp} {t c : Nat} {ox oy : Operand} {vx vy : Value} {x y d : D} (T : TOk P E τ t c) (hx : Rep φ ρ H w.heap vx x) (hy : Rep φ ρ H w.heap vy y)
  (h : binD E op c x y = some d) :
  ∃ v,(do Go.eqGuard op t ox oy vx vy; Go.binOp op t vx vy : Go.Sem Value).run P w = .ok v w /\ Rep φ ρ H w.heap v d:=by
 unfold binD at h
 split at h
 ·rename_i k a k' b
  obtain rfl:=hx.intv
  obtain rfl:=hy.intv
  have hg:=z1j (P:=P) (w:=w) op t ox oy (.int k a) (.int k' b) ⟨fun _=>by simp,by simp⟩
  split at h
  ·split at h
   ·rename_i hb
    simp at h; subst h
    refine ⟨.int k _,?_,.int _ _⟩
    simp [hg,Go.binOp,Go.Op.shift,Int.not_lt.2 hb]
   ·simp at h
  ·split at h
   ·rename_i hb
    simp at h; subst h
    refine ⟨.int k _,?_,.int _ _⟩
    simp [hg,Go.binOp,Go.Op.shift,Int.not_lt.2 hb]
   ·simp at h
  ·split at h
   ·rename_i hk
    subst hk
    obtain ⟨v,h1,h2⟩:=zhu (P:=P) (w:=w) (t:=t) (φ:=φ) (ρ:=ρ) (H:=H) h
    exact ⟨v,by simp [hg,h1],h2⟩
   ·simp at h
 ·rename_i a b
  obtain rfl:=hx.boolv
  obtain rfl:=hy.boolv
  have hg:=z1j (P:=P) (w:=w) op t ox oy (.bool a) (.bool b) ⟨fun _=>by simp,by simp⟩
  split at h
  ·rename_i hk
   have hu:=T.und; rw [hk] at hu
   simp at h; subst h
   refine ⟨.bool (a == b),?_,.bool _⟩
   simp [hg,Go.binOp,Go.Op.equal,Go.Op.maxDepth,Go.run_equalIn_bool' w 9999 t a b hu]
  ·rename_i hk
   have hu:=T.und; rw [hk] at hu
   simp at h; subst h
   refine ⟨.bool (!(a == b)),?_,.bool _⟩
   simp [hg,Go.binOp,Go.Op.equal,Go.Op.maxDepth,Go.run_equalIn_bool' w 9999 t a b hu]
  ·simp at h
 ·rename_i xs ys
  split at h
  ·rename_i he
   obtain ⟨vs,rfl,hr⟩:=hx.aggL
   obtain ⟨us,rfl,hs⟩:=hy.aggL
   have Q:=T.eq he.1
   have hg : (Go.eqGuard op t ox oy (.agg vs.toArray) (.agg us.toArray)).run P w = .ok () w:=Go.run_eqGuard_agg w op t ox oy _ _ Q.guard
   have hlen:=zhk hr he.2
   split at h
   ·rename_i r hr'
    simp at h; subst h
    have:=Q.eq w 9984 vs us r hlen (zb1 hr hs hr')
    refine ⟨.bool r,?_,.bool _⟩
    simp only [Go.Sem.run_bind,hg,Go.Result.andThen_ok]
    rw [Go.run_eql_struct,this]; rfl
   ·rename_i r hr'
    simp at h; subst h
    have:=Q.eq w 9984 vs us r hlen (zb1 hr hs hr')
    refine ⟨.bool (!r),?_,.bool _⟩
    simp only [Go.Sem.run_bind,hg,Go.Result.andThen_ok]
    rw [Go.run_neq_struct,this]; rfl
   ·simp at h
  ·simp at h
 ·rename_i a b
  cases hx with
  | str a=>
  cases hy with
  | str b=>
  have hg:=z1j (P:=P) (w:=w) op t ox oy (.string a) (.string b) ⟨fun _=>by simp,by simp⟩
  split at h
  ·simp only [Option.some.injEq] at h; subst h
   refine ⟨.bool (a.toList == b.toList),?_,by rw [z4w,z4w]; exact .bool _⟩
   simp [hg,Go.binOp,Go.Op.stringOp]
  ·simp only [Option.some.injEq] at h; subst h
   refine ⟨.bool (!(a.toList == b.toList)),?_,by rw [z4w,z4w]; exact .bool _⟩
   simp [hg,Go.binOp,Go.Op.stringOp]
  ·simp at h
 ·simp at h

theorem zte {op : Go.UnOp} {vx : Value} {x d : D} (hx : Rep φ ρ H w.heap vx x) (h : unD op x = some d) :
  ∃ v,(Go.Op.unary op vx).run P w = .ok v w /\ Rep φ ρ H w.heap v d:=by
 unfold unD at h
 split at h
 ·rename_i b
  obtain rfl:=hx.boolv
  simp at h; subst h
  exact ⟨.bool (!b),by simp [Go.Op.unary],.bool _⟩
 ·rename_i k n
  obtain rfl:=hx.intv
  simp at h; subst h
  exact ⟨.int k _,by simp [Go.Op.unary,Go.Op.intBits,xorI],.int _ _⟩
 ·rename_i k n
  obtain rfl:=hx.intv
  simp at h; subst h
  exact ⟨.int k _,by simp [Go.Op.unary,Go.Op.intArith],.int _ _⟩
 ·simp at h

theorem zot (_TA : TAll P E τ) {s cs dd cd : Nat} {vx : Value} {x d : D} (Ts : TOk P E τ s cs) (Td : TOk P E τ dd cd) (hx : Rep φ ρ H w.heap vx x) (h : convD E cs cd x = some d) :
  ∃ v,(Go.convert s dd vx).run P w = .ok v w /\ Rep φ ρ H w.heap v d:=by
 unfold convD at h
 split at h
 ·rename_i k1 k k' n hk1 hk
  have h1:=Ts.und; rw [hk1] at h1
  have h2:=Td.und; rw [hk] at h2
  obtain rfl:=hx.intv
  simp at h; subst h
  exact ⟨.int k _,by simp [Go.convert,run_underlying h1,run_underlying h2,Go.Conv.intToInt],.int _ _⟩
 ·simp at h

theorem z92 {f : Int -> Int -> Int} {g : Value -> Value -> Go.Sem Value} (hg : ∀ k a b,(g (.int k a) (.int k b)).run P w = .ok (.int k (f a b)) w) :
  ∀ {l : List D} {vs : List Value} {k : Go.IntKind} {a : Int} {d : D},RepL φ ρ H w.heap vs l -> foldI f k a l = some d -> ∃ v,(vs.foldlM g (.int k a)).run P w = .ok v w /\ Rep φ ρ H w.heap v d
 | [],[],k,a,d,_,h=>by simp [foldI] at h; subst h; exact ⟨.int k a,by simp [List.foldlM],.int _ _⟩
 | [],_ :: _,_,_,_,hr,_=>by have:=hr.1; simp at this
 | _ :: _,[],_,_,_,hr,_=>by have:=hr.1; simp at this
 | x :: l,v :: vs,k,a,d,hr,h=>by
  cases x <;> simp only [foldI] at h <;> try (simp at h; done)
  rename_i k' b
  split at h
  ·rename_i hk
   subst hk
   obtain ⟨hv,hr'⟩:=hr.of_cons
   obtain rfl:=hv.intv
   obtain ⟨v,h1,h2⟩:=z92 hg hr' h
   exact ⟨v,by simp [List.foldlM,hg,h1],h2⟩
  ·simp at h

theorem znm {t1 t2} {vs : List Value} {l : List D} {d : D} (hr : RepL φ ρ H w.heap vs l) (h : maxiD l = some d) :
  ∃ v,(Go.Builtin.max_ t1 t2 vs.toArray).run P w = .ok v w /\ Rep φ ρ H w.heap v d:=by
 unfold maxiD at h
 split at h
 ·rename_i k a r
  match vs,hr with
  | [],hr=>have:=hr.1; simp at this
  | v :: vs,hr=>
   obtain ⟨hv,hr'⟩:=hr.of_cons
   obtain rfl:=hv.intv
   obtain ⟨v,h1,h2⟩:=z92 (P:=P) (g:=Go.Builtin.max2) (fun k a b=>by simp [Go.Builtin.max2]) hr' h
   exact ⟨v,by simp [Go.Builtin.max_,h1],h2⟩
 ·simp at h

theorem znl {t1 t2} {vs : List Value} {l : List D} {d : D} (hr : RepL φ ρ H w.heap vs l) (h : miniD l = some d) :
  ∃ v,(Go.Builtin.min_ t1 t2 vs.toArray).run P w = .ok v w /\ Rep φ ρ H w.heap v d:=by
 unfold miniD at h
 split at h
 ·rename_i k a r
  match vs,hr with
  | [],hr=>have:=hr.1; simp at this
  | v :: vs,hr=>
   obtain ⟨hv,hr'⟩:=hr.of_cons
   obtain rfl:=hv.intv
   obtain ⟨v,h1,h2⟩:=z92 (P:=P) (g:=Go.Builtin.min2) (fun k a b=>by simp [Go.Builtin.min2]) hr' h
   exact ⟨v,by simp [Go.Builtin.min_,h1],h2⟩
 ·simp at h

end
end Dv

namespace Dv
open Go (Value Program World Act Oper Operand Code)

section
variable {P : Program} {E : Env} {φ : Phi} {τ : Phi} {ρ : Rho} {H : HS} {w : World}

theorem z2w {cs : List D} : ∀ {off : Nat} {vs : List D},(setCells cs off vs).length = cs.length
 | off,[]=>rfl
 | off,v :: vs=>by simp only [setCells]; rw [z2w]; simp

def setV (cs : List Value) (off : Nat) : List Value -> List Value
 | []=>cs
 | v :: vs=>setV (cs.set off v) (off + 1) vs

theorem RepL.setCells {hp : Heap} : ∀ {vs' : List Value} {ds' : List D} {vs : List Value} {ds : List D} (off : Nat),RepL φ ρ H hp vs ds -> RepL φ ρ H hp vs' ds' -> RepL φ ρ H hp (setV vs off vs') (Dv.setCells ds off ds')
 | [],[],vs,ds,off,h,_=>h
 | [],_ :: _,_,_,_,_,h=>by have:=h.1; simp at this
 | _ :: _,[],_,_,_,_,h=>by have:=h.1; simp at this
 | v :: vs',d :: ds',vs,ds,off,h,h'=>by
  simp only [setV,Dv.setCells]
  exact RepL.setCells (off + 1) (h.set off h'.of_cons.1) h'.of_cons.2

theorem zd8 : ∀ (l : List Value) (k off : Nat) (arr : Array Value),((l.zipIdx k).foldl (fun cs (p : Value × Nat)=>cs.setIfInBounds (off + p.2) p.1) arr).toList = setV arr.toList (off + k) l
 | [],k,off,arr=>rfl
 | v :: l,k,off,arr=>by
  simp only [List.zipIdx_cons,List.foldl_cons,setV]
  rw [zd8 l (k + 1) off]
  simp [Nat.add_assoc]

def RepP (φ : Phi) (ρ : Rho) (H : HS) (hp : Heap) (vs : List (Nat × Value)) (ds : List (Nat × D)) : Prop:=
 vs.map (·.1) = ds.map (·.1) /\ RepL φ ρ H hp (vs.map (·.2)) (ds.map (·.2))

theorem RepP.cons_inv {hp : Heap} {v : Nat × Value} {d : Nat × D} {vs : List (Nat × Value)} {ds : List (Nat × D)} (h : RepP φ ρ H hp (v :: vs) (d :: ds)) : v.1 = d.1 /\ Rep φ ρ H hp v.2 d.2 /\ RepP φ ρ H hp vs ds:=by
 obtain ⟨h1,h2⟩:=h
 simp only [List.map_cons,List.cons.injEq] at h1 h2
 exact ⟨h1.1,h2.of_cons.1,h1.2,h2.of_cons.2⟩

theorem z7t {hp : Heap} {place : Nat -> Option (Nat × Nat)} : ∀ {ps : List (Nat × Value)} {ds : List (Nat × D)} {arr : Array Value} {cs r : List D},RepL φ ρ H hp arr.toList cs -> RepP φ ρ H hp ps ds -> fillD place cs ds = some r ->
  ∃ arr',Go.Instr.fill place arr ps = some arr' /\ RepL φ ρ H hp arr'.toList r
 | [],[],arr,cs,r,h,_,hf=>by simp [fillD] at hf; subst hf; exact ⟨arr,rfl,h⟩
 | [],_ :: _,_,_,_,_,h,_=>by have:=h.1; simp at this
 | _ :: _,[],_,_,_,_,h,_=>by have:=h.1; simp at this
 | p :: ps,d :: ds,arr,cs,r,h,hp',hf=>by
  obtain ⟨e1,e2,e3⟩:=hp'.cons_inv
  obtain ⟨pi,pv⟩:=p
  obtain ⟨di,dd⟩:=d
  simp only at e1 e2
  subst e1
  simp only [fillD] at hf
  split at hf
  ·simp at hf
  ·rename_i off size hpl
   split at hf
   ·rename_i hc
    have hcl:=e2.cells hc.1
    have hsz : pv.cells.size = size:=by have:=hcl.1; simpa [hc.2.1] using this
    have hb : ¬ (pv.cells.size ≠ size \/ off + pv.cells.size > arr.size):=by
     have h1:=h.1
     simp at h1
     have:=hc.2.2
     omega
    have hset : RepL φ ρ H hp (pv.cells.zipIdx.foldl (fun cs (p : Value × Nat)=>cs.setIfInBounds (off + p.2) p.1) arr).toList (Dv.setCells cs off dd.cellsL):=by
     rw [<- Array.foldl_toList,Array.toList_zipIdx,zd8,Nat.add_zero]
     exact h.setCells off hcl
    obtain ⟨arr',h1,h2⟩:=z7t hset e3 hf
    refine ⟨arr',?_,h2⟩
    have hb1 : ¬ pv.cells.size ≠ size:=fun hh=>hb (.inl hh)
    have hb2 : ¬ off + pv.cells.size > arr.size:=fun hh=>hb (.inr hh)
    simp only [Go.Instr.fill,hpl]
    rw [if_neg (by simp; exact ⟨by simpa using hb1,by omega⟩)]
    exact h1
   ·simp at hf

theorem TOk.zeroV {t c : Nat} (T : TOk P E τ t c) (h1 : (E.ty c).zero.length = (E.ty c).size) (h2 : (E.ty c).size ≠ 0) : ∃ z,(Go.zeroValue t).run P w = .ok z w /\ RepL φ ρ H w.heap z.cells.toList (E.ty c).zero /\
  ∀ d,ofCells (E.ty c).ag (E.ty c).zero = some d -> Rep φ ρ H w.heap z d:=by
 obtain ⟨i,hi,_,_,hz⟩:=T.info
 obtain ⟨z,hz1,hz2,hz3⟩:=hz h1 h2
 have hr : RepL φ ρ H w.heap z.cells.toList (E.ty c).zero:=z3w hz2
 refine ⟨z,by simp [Go.zeroValue,z12 hi,hz1],hr,fun d hd=>?_⟩
 rw [<- hz3] at hd
 cases z with
 | agg vs=>simp [isAggV,ofCells] at hd; subst hd; simpa [Value.cells] using hr.agg
 | _=>
  simp only [isAggV] at hd
  generalize (E.ty c).zero = zs at hd hr
  match zs,hd with
  | [c0],hd=>simp [ofCells] at hd; subst hd; exact hr.of_cons.1
  | [],hd=>simp [ofCells] at hd
  | _ :: _ :: _,hd=>simp [ofCells] at hd

theorem z2f {t c : Nat} {z : D} (T : TOk P E τ t c) (h : zeroE E c = some z) : ∃ zv,(Go.zeroValue t).run P w = .ok zv w /\ RepL φ ρ H w.heap zv.cells.toList z.cellsL /\ Rep φ ρ H w.heap zv z /\
  z.cellsL.length = (E.ty c).size /\ z.storable = true /\ (E.ty c).size ≠ 0:=by
 unfold zeroE at h
 split at h
 ·rename_i h1
  split at h
  ·rename_i z' hz
   split at h
   ·rename_i h2
    simp at h; subst h
    obtain ⟨zv,e1,_,e3⟩:=T.zeroV (w:=w) (φ:=φ) (ρ:=ρ) (H:=H) h1.1 h1.2
    exact ⟨zv,e1,(e3 _ hz).cells h2.2,e3 _ hz,h2.1,h2.2,h1.2⟩
   ·simp at h
  ·simp at h
 ·simp at h

theorem za7 (TA : TAll P E τ) : ∀ (fs' : List Go.Field) (fs : List (Nat × Nat)),fs'.length = fs.length -> (∀ (i : Nat) (f : Go.Field) (p : Nat × Nat),fs'[i]? = some f -> fs[i]? = some p -> f.offset = p.1 /\ τ f.type = some p.2) ->
  (fs'.mapM fun (f : Go.Field)=>(do pure (f.offset,<- Go.sizeOf f.type) : Go.Sem (Nat × Nat))).run P w = .ok (fs.map fun p=>(p.1,(E.ty p.2).size)) w
 | [],[],_,_=>by simp
 | [],_ :: _,h,_=>by simp at h
 | _ :: _,[],h,_=>by simp at h
 | f :: fs',p :: fs,hl,h=>by
  obtain ⟨h1,h2⟩:=h 0 f p rfl rfl
  have ih:=za7 TA fs' fs (by simpa using hl) (fun i f' p' hf hp=>h (i + 1) f' p' (by simpa using hf) (by simpa using hp))
  rw [List.mapM_cons]
  simp only [Go.Sem.run_bind,(TA _ _ h2).size,Go.Result.andThen_ok,Go.Sem.run_pure,ih,h1,List.map_cons]

theorem zm9 (TA : TAll P E τ) {t c : Nat} {ps : List (Nat × Value)} {ds : List (Nat × D)} {d : D} (T : TOk P E τ t c) (hp : RepP φ ρ H w.heap ps ds) (hz : (E.ty c).zero.length = (E.ty c).size /\ (E.ty c).size ≠ 0) (h : buildD E c ds = some d) :
  ∃ v,(Go.Instr.build t ps.toArray).run P w = .ok v w /\ Rep φ ρ H w.heap v d:=by
 obtain ⟨z,hz1,hz2,_⟩:=T.zeroV (w:=w) (φ:=φ) (ρ:=ρ) (H:=H) hz.1 hz.2
 unfold buildD at h
 split at h
 ·rename_i fs hk
  obtain ⟨fs',hu,hs,hf⟩:=T.struct hk
  cases e : fillD (fun i=>(fs[i]?).map fun f=>(f.1,(E.ty f.2).size)) (E.ty c).zero ds with
  | none=>simp [e] at h
  | some r=>
   simp [e] at h; subst h
   obtain ⟨arr',h1,h2⟩:=z7t hz2 hp e
   refine ⟨.agg arr',?_,?_⟩
   ·have hm:=za7 (P:=P) (w:=w) TA fs'.toList fs (by simpa using hs) (by simpa using hf)
    have hm' : (fs'.mapM fun (f : Go.Field)=>(do pure (f.offset,<- Go.sizeOf f.type) : Go.Sem (Nat × Nat))).run P w = .ok (fs.map fun p=>(p.1,(E.ty p.2).size)).toArray w:=by
     rw [Array.mapM_eq_mapM_toList]
     rw [Go.Sem.run_map,hm]; rfl
    unfold Go.Instr.build
    simp only [Go.Sem.run_bind,hz1,Go.Result.andThen_ok,run_underlying hu,hm']
    have hpl : (fun (i : Nat)=>(fs.map fun p=>(p.1,(E.ty p.2).size)).toArray[i]?) = fun (i : Nat)=>(fs[i]?).map fun (f : Nat × Nat)=>(f.1,(E.ty f.2).size):=by
     funext i; simp
    rw [hpl,h1]
    simp
   ·have:=h2.agg; simpa using this
 ·rename_i n e hk
  have hu:=T.und; rw [hk] at hu
  obtain ⟨e',hu,he'⟩:=hu
  cases e1 : fillD (fun i=>some (i * (E.ty e).size,(E.ty e).size)) (E.ty c).zero ds with
  | none=>simp [e1] at h
  | some r=>
   simp [e1] at h; subst h
   obtain ⟨arr',h1,h2⟩:=z7t hz2 hp e1
   refine ⟨.agg arr',?_,?_⟩
   ·unfold Go.Instr.build
    simp only [Go.Sem.run_bind,hz1,Go.Result.andThen_ok,run_underlying hu,(TA _ _ he').size]
    rw [h1]; simp
   ·have:=h2.agg; simpa using this
 ·simp at h

end
end Dv

namespace Dv
open Go (Value Program World Act Oper Operand Code)

section
variable {P : Program} {E : Env} {φ : Phi} {τ : Phi} {ρ : Rho} {H : HS} {w : World}

def RepM (φ : Phi) (ρ : Rho) (H : HS) (hp : Heap) (me : List Go.MapEntry) (es : List (D × D)) : Prop:=
 me.length = es.length /\ ∀ (j : Nat) (e : Go.MapEntry) (p : D × D),me[j]? = some e -> es[j]? = some p -> Rep φ ρ H hp e.key p.1 /\ Rep φ ρ H hp e.val p.2

theorem RepM.cons_inv {hp : Heap} {e : Go.MapEntry} {p : D × D} {me : List Go.MapEntry} {es : List (D × D)} (h : RepM φ ρ H hp (e :: me) (p :: es)) : (Rep φ ρ H hp e.key p.1 /\ Rep φ ρ H hp e.val p.2) /\ RepM φ ρ H hp me es:=
 ⟨h.2 0 e p rfl rfl,by simpa using h.1,fun j e' p' h1 h2=>h.2 (j + 1) e' p' (by simpa using h1) (by simpa using h2)⟩

theorem MapAt.list {hp : Heap} {b : Nat} {es : List (D × D)} (h : MapAt φ ρ H hp b es) : ∃ (me : Array Go.MapEntry) (clock : Nat),hp[b]? = some (.map me clock) /\ RepM φ ρ H hp me.toList es /\ StampL me clock:=by
 obtain ⟨me,clock,h1,h2,h3,h4⟩:=h
 exact ⟨me,clock,h1,⟨by simpa using h2,fun j e p he hp=>h3 j e p (by simpa using he) hp⟩,h4⟩

def mapIdx (k : D) : List (D × D) -> Nat -> Option Nat
 | [],_=>none
 | e :: es,i=>match k.eqb e.1 with
  | some true=>some i
  | _=>mapIdx k es (i + 1)

theorem z5d {kt ck : Nat} (T : TOk P E τ kt ck) {vk : Value} {k : D} (hk : Rep φ ρ H w.heap vk k) (hok : keyOk E ck k = true) :
  ∀ {me : List Go.MapEntry} {es : List (D × D)} {r : Option D},RepM φ ρ H w.heap me es -> mapFind k es = some r ->
   ∃ x : Option (Nat × Value),(Go.Instr.findKey kt vk me).run P w = .ok x w /\ x.map (·.1) = mapIdx k es 0 /\
    (match r,x with | none,none=>True | some d,some p=>Rep φ ρ H w.heap p.2 d | _,_=>False):=by
 -- the two ways of looking
 have plain : ∀ (u : Go.TypeDesc),P.underlying kt = some u ->
   (∀ (v : Value) (d : D) (b : Bool),Rep φ ρ H w.heap v d -> k.eqb d = some b -> Go.Instr.sameNow u vk v = some b) ->
   ∀ {me : List Go.MapEntry} {es : List (D × D)} {r : Option D},RepM φ ρ H w.heap me es -> mapFind k es = some r ->
   ∃ x : Option (Nat × Value),(Go.Instr.findKey kt vk me).run P w = .ok x w /\ x.map (·.1) = mapIdx k es 0 /\
    (match r,x with | none,none=>True | some d,some p=>Rep φ ρ H w.heap p.2 d | _,_=>False):=by
  intro u hu hs me es r hm hf
  have go : ∀ (me : List Go.MapEntry) (es : List (D × D)) (r : Option D) (i : Nat),RepM φ ρ H w.heap me es -> mapFind k es = some r ->
    ∃ x : Option (Nat × Value),Go.Instr.findNow u vk me i = some x /\ x.map (·.1) = mapIdx k es i /\ (match r,x with | none,none=>True | some d,some p=>Rep φ ρ H w.heap p.2 d | _,_=>False):=by
   intro me
   induction me with
   | nil=>
    intro es r i hm hf
    match es,hm with
    | [],_=>simp [mapFind] at hf; subst hf; exact ⟨none,rfl,rfl,trivial⟩
    | _ :: _,hm=>have:=hm.1; simp at this
   | cons e me ih=>
    intro es r i hm hf
    match es,hm with
    | [],hm=>have:=hm.1; simp at this
    | p :: es,hm=>
     obtain ⟨⟨h1,h2⟩,h3⟩:=hm.cons_inv
     simp only [mapFind] at hf
     cases hb : k.eqb p.1 with
     | none=>simp [hb] at hf
     | some b=>
      have:=hs _ _ _ h1 hb
      cases b with
      | true=>
       simp [hb] at hf; subst hf
       exact ⟨some (i,e.val),by simp [Go.Instr.findNow,this],by simp [mapIdx,hb],h2⟩
      | false=>
       simp [hb] at hf
       obtain ⟨x,e1,e2,e3⟩:=ih es r (i + 1) h3 hf
       exact ⟨x,by simp [Go.Instr.findNow,this,e1],by simp [mapIdx,hb,e2],e3⟩
  obtain ⟨x,e1,e2,e3⟩:=go me es r 0 hm hf
  exact ⟨x,by simp [Go.Instr.findKey,run_underlying hu,e1],e2,e3⟩
 unfold keyOk at hok
 intro me es r hm hf
 split at hok
 ·-- a struct
  rename_i xs
  simp only [Bool.and_eq_true,beq_iff_eq] at hok
  have Q:=T.eq hok.1
  obtain ⟨vs,rfl,hr⟩:=hk.aggL
  obtain ⟨u,hu,hnot⟩:=Q.kind
  have hlen:=zhk hr hok.2
  have go : ∀ (me : List Go.MapEntry) (es : List (D × D)) (r : Option D) (i : Nat),RepM φ ρ H w.heap me es -> mapFind (.agg xs) es = some r ->
    ∃ x : Option (Nat × Value),(Go.Instr.findAsking kt (.agg vs.toArray) me i).run P w = .ok x w /\ x.map (·.1) = mapIdx (.agg xs) es i /\ (match r,x with | none,none=>True | some d,some p=>Rep φ ρ H w.heap p.2 d | _,_=>False):=by
   intro me
   induction me with
   | nil=>
    intro es r i hm hf
    match es,hm with
    | [],_=>simp [mapFind] at hf; subst hf; exact ⟨none,by simp [Go.Instr.findAsking],rfl,trivial⟩
    | _ :: _,hm=>have:=hm.1; simp at this
   | cons e me ih=>
    intro es r i hm hf
    match es,hm with
    | [],hm=>have:=hm.1; simp at this
    | p :: es,hm=>
     obtain ⟨⟨h1,h2⟩,h3⟩:=hm.cons_inv
     simp only [mapFind] at hf
     cases hb : D.eqb (.agg xs) p.1 with
     | none=>simp [hb] at hf
     | some b=>
      have key : (Go.Op.equal kt (.agg vs.toArray) e.key).run P w = .ok b w:=by
       cases hp1 : p.1 <;> rw [hp1] at hb <;> simp [D.eqb,atomEq] at hb
       rename_i ys
       rw [hp1] at h1
       obtain ⟨us,hus,hr2⟩:=h1.aggL
       rw [hus]
       exact Q.eq w 9984 vs us b hlen (zb1 hr hr2 hb)
      cases b with
      | true=>
       simp [hb] at hf; subst hf
       exact ⟨some (i,e.val),by simp [Go.Instr.findAsking,key],by simp [mapIdx,hb],h2⟩
      | false=>
       simp [hb] at hf
       obtain ⟨x,e1,e2,e3⟩:=ih es r (i + 1) h3 hf
       exact ⟨x,by simp [Go.Instr.findAsking,key,e1],by simp [mapIdx,hb,e2],e3⟩
  have hnow : Go.Instr.findNow u (.agg vs.toArray) me 0 = none \/ me = []:=by
   cases me with
   | nil=>exact .inr rfl
   | cons e me=>exact .inl (by simp [Go.Instr.findNow,Go.Instr.sameNow])
  rcases hnow with hnow | rfl
  ·obtain ⟨x,e1,e2,e3⟩:=go me es r 0 hm hf
   exact ⟨x,by simp [Go.Instr.findKey,run_underlying hu,hnow,e1],e2,e3⟩
  ·obtain ⟨x,e1,e2,e3⟩:=go [] es r 0 hm hf
   simp [Go.Instr.findAsking] at e1
   subst e1
   exact ⟨none,by simp [Go.Instr.findKey,run_underlying hu,Go.Instr.findNow],e2,e3⟩
 ·rename_i b hkk
  have hu:=T.und; rw [hkk] at hu
  obtain rfl:=hk.boolv
  refine plain _ hu (fun v d b' hv he=>?_) hm hf
  cases d <;> simp [D.eqb,atomEq] at he
  subst he
  obtain rfl:=hv.boolv
  rfl
 ·rename_i q n q' hkk
  have hu:=T.und; rw [hkk] at hu
  obtain rfl:=hk.intv
  refine plain _ hu (fun v d b' hv he=>?_) hm hf
  cases d <;> simp [D.eqb,atomEq] at he
  obtain ⟨e1,e2⟩:=he
  subst e1; subst e2
  obtain rfl:=hv.intv
  simp [Go.Instr.sameNow]
 ·rename_i s hkk
  have hu:=T.und; rw [hkk] at hu
  cases hk with
  | str bs=>
   refine plain _ hu (fun v d b' hv he=>?_) hm hf
   cases d <;> simp [D.eqb,atomEq] at he
   subst he
   cases hv with
   | str bs'=>
    simp only [Go.Instr.sameNow,Option.some.injEq]
    obtain ⟨⟨x⟩⟩:=bs
    obtain ⟨⟨y⟩⟩:=bs'
    show ((⟨x⟩ : Array UInt8) == ⟨y⟩) = (x == y)
    simp
 ·simp at hok

theorem z4j {kt ck : Nat} (T : TOk P E τ kt ck) {vk : Value} {k : D} (hk : Rep φ ρ H w.heap vk k) (hok : keyOk E ck k = true) (em : Bool) : (Go.Instr.checkKey em 10000 kt vk).run P w = .ok () w:=by
 unfold keyOk at hok
 split at hok
 ·rename_i xs
  simp only [Bool.and_eq_true,beq_iff_eq] at hok
  have Q:=T.eq hok.1
  obtain ⟨vs,rfl,hr⟩:=hk.aggL
  have hlen:=zhk hr hok.2
  exact Q.key w em 9984 vs hlen
 ·rename_i b hkk
  have hu:=T.und; rw [hkk] at hu
  rw [show (10000 : Nat) = 9999 + 1 from rfl,Go.Instr.checkKey]
  simp [run_underlying hu]
 ·rename_i q n q' hkk
  have hu:=T.und; rw [hkk] at hu
  rw [show (10000 : Nat) = 9999 + 1 from rfl,Go.Instr.checkKey]
  simp [run_underlying hu]
 ·rename_i s hkk
  have hu:=T.und; rw [hkk] at hu
  rw [show (10000 : Nat) = 9999 + 1 from rfl,Go.Instr.checkKey]
  simp [run_underlying hu]
 ·simp at hok

theorem zh0 {t k' e' : Nat} {vm vk : Value} {ok : Bool} {me : Array Go.MapEntry} {x : Option (Nat × Value)} (hu : P.underlying t = some (.map k' e'))
  (hvm : (vm = .map none /\ me = #[]) \/ ∃ b clock,vm = .map (some b) /\ w.heap[b]? = some (.map me clock)) (hck : (Go.Instr.checkKey me.isEmpty 10000 k' vk).run P w = .ok () w)
  (hf : (Go.Instr.findKey k' vk me.toList).run P w = .ok x w) :
  (Go.Instr.lookup t vm vk ok).run P w = (match x with
   | some p=>.ok (if ok then .tuple #[p.2,.bool true] else p.2) w
   | none=>((Go.zeroValue e').run P w).andThen fun z w'=>.ok (if ok then .tuple #[z,.bool false] else z) w'):=by
 rcases hvm with ⟨rfl,rfl⟩ | ⟨b,clock,rfl,hb⟩
 ·unfold Go.Instr.lookup
  simp only [Go.Sem.run_bind,run_underlying hu,Go.Result.andThen_ok,Go.Sem.run_pure,hck,hf]
  cases x with
  | some p=>cases ok <;> simp
  | none=>cases h : (Go.zeroValue e').run P w <;> cases ok <;> simp [h]
 ·unfold Go.Instr.lookup
  have hg : (Go.getObj b).run P w = .ok (.map me clock) w:=by simp [Go.getObj,Go.Sem.run,hb]
  simp only [Go.Sem.run_bind,run_underlying hu,Go.Result.andThen_ok,hg,Go.Sem.run_pure,hck,hf]
  cases x with
  | some p=>cases ok <;> simp
  | none=>cases h : (Go.zeroValue e').run P w <;> cases ok <;> simp [h]

theorem zae (TA : TAll P E τ) {os : List Obj} (R : RR φ ρ H w.heap os) {t c : Nat} {vm vk : Value} {m k d : D} {ok : Bool} (T : TOk P E τ t c) (hm : Rep φ ρ H w.heap vm m) (hk : Rep φ ρ H w.heap vk k) (h : lookupD E os c m k ok = some d) :
  ∃ v,(Go.Instr.lookup t vm vk ok).run P w = .ok v w /\ Rep φ ρ H w.heap v d:=by
 unfold lookupD at h
 split at h
 ·rename_i kt e mid hkk
  have hu:=T.und; rw [hkk] at hu
  obtain ⟨k',e',hu,hk',he'⟩:=hu
  split at h
  ·rename_i hok
   split at h
   ·rename_i es hes
    obtain ⟨me,hme,hrm⟩ : ∃ me : Array Go.MapEntry,((vm = .map none /\ me = #[]) \/ ∃ b clock,vm = .map (some b) /\ w.heap[b]? = some (.map me clock)) /\ RepM φ ρ H w.heap me.toList es:=by
     cases mid with
     | none=>
      cases hm
      simp at hes; subst hes
      exact ⟨#[],.inl ⟨rfl,rfl⟩,rfl,fun j e p he=>by simp at he⟩
     | some id=>
      cases hm with
      | map b cc _ hid=>
       simp only at hes
       split at hes
       ·rename_i es' hos
        simp at hes; subst hes
        obtain ⟨me,clock,h1,h2,_⟩:=(R.map _ _ _ _ hid hos).list
        exact ⟨me,.inr ⟨b,clock,rfl,h1⟩,h2⟩
       ·simp at hes
    have hck:=z4j (w:=w) (TA _ _ hk') hk hok me.isEmpty
    cases hf : mapFind k es with
    | none=>simp [hf] at h
    | some r=>
     obtain ⟨x,h1,_,h3⟩:=z5d (TA _ _ hk') hk hok hrm hf
     have hrun:=zh0 (ok:=ok) hu hme hck h1
     cases r with
     | some dv=>
      match x,h3 with
      | some p,h3=>
       simp [hf] at h
       obtain ⟨pi,pv⟩:=p
       refine ⟨if ok then .tuple #[pv,.bool true] else pv,by rw [hrun],?_⟩
       cases ok
       ·simp at h; subst h; exact h3
       ·simp at h; subst h
        exact .tup _ _ rfl (fun j v d hv hd=>(RepL.cons h3 (RepL.cons (.bool true) RepL.nil)).2 j v d (by simpa using hv) hd)
     | none=>
      match x,h3 with
      | none,_=>
       simp [hf] at h
       cases hoc : zeroE E e with
       | none=>simp [hoc] at h
       | some zd=>
        simp [hoc] at h
        obtain ⟨z,e1,_,hzr,_⟩:=z2f (w:=w) (φ:=φ) (ρ:=ρ) (H:=H) (TA _ _ he') hoc
        refine ⟨if ok then .tuple #[z,.bool false] else z,by rw [hrun]; simp [e1],?_⟩
        cases ok
        ·simp at h; subst h; exact hzr
        ·simp at h; subst h
         exact .tup _ _ rfl (fun j v d hv hd=>(RepL.cons hzr (RepL.cons (.bool false) RepL.nil)).2 j v d (by simpa using hv) hd)
   ·simp at h
  ·simp at h
 ·simp at h

end
end Dv

namespace Dv
open Go (Value Program World Act Oper Operand Code)

def exCode : Ex -> Code
 | .normal=>.skip
 | .exit id=>.exit id
 | .ret=>.ret

def Obj.live : Obj -> Bool
 | .dead=>false
 | _=>true

abbrev CLink:=Code -> DC -> Prop

def TokAt (H : HS) (hp : Heap) (b cap used sz : Nat) : Prop:=
 ∃ (arr : Array Value) (el : Nat),hp[b]? = some (.cells arr el (0,0)) /\ arr.size = cap * sz /\ used <= arr.size /\ ∀ o,used <= o -> ¬ H b o

def LoopAt (CL : CLink) (φ : Phi) (ρ : Rho) (H : HS) (hp : Heap) (b : Nat) (busy : Bool) (slots : List D) (ps : List Nat) (asg body : DC) (pend : Option Ex) : Prop:=
 ∃ L : Go.Loop,hp[b]? = some (.loop L) /\ RepL φ ρ H hp L.tmps.toList slots /\ L.params.toList = ps /\ CL L.assign asg /\ CL L.body body /\
  L.state = (if pend.isSome then .done else if busy then .busy else .ready) /\ L.pending = pend.map exCode

def ObjRel (CL : CLink) (φ : Phi) (ρ : Rho) (H : HS) (hp : Heap) (bk : Bk) : Obj -> Prop
 | .dead=>True
 | .cells cs=>∃ b c,bk = .blk b c /\ RowAt φ ρ H hp b c cs
 | .frozen cs=>∃ b c,bk = .blk b c /\ RowAt φ ρ H hp b c cs /\ ∀ j,j < cs.length -> H b j
 | .tok used sz=>bk = .virt \/ ∃ b cap,bk = .blk b cap /\ TokAt H hp b cap used sz
 | .map es=>∃ b c,bk = .blk b c /\ MapAt φ ρ H hp b es
 | .loop busy slots ps asg body pend=>∃ b c,bk = .blk b c /\ LoopAt CL φ ρ H hp b busy slots ps asg body pend

structure HB (H : HS) (hp : Heap) : Prop where
 lt : ∀ b o,H b o -> b < hp.size
 gl : ∀ g cs,glTab.lookup g = some cs -> ∀ (j : Nat) k n,cs[j]? = some (k,n) -> H g j /\ cellOf hp g j = some (.int k n)
instance {H : HS} {hp : Heap} : CoeFun (HB H hp) (fun _=>∀ b o,H b o -> b < hp.size):=⟨fun h=>h.lt⟩

theorem HB.ext {ρ ρ' : Rho} {H H' : HS} {hp hp' : Heap} (h : HB H hp) (x : Ext ρ ρ' H H' hp hp') (hl : ∀ b o,H' b o -> b < hp'.size) : HB H' hp':=
 ⟨hl,fun g cs hg j k n hj=>⟨x.hs _ _ (h.gl g cs hg j k n hj).1,(x.keep _ _ (h.gl g cs hg j k n hj).1).trans (h.gl g cs hg j k n hj).2⟩⟩

structure SR (CL : CLink) (φ : Phi) (B : Nat) (ρ : Rho) (H : HS) (hp : Heap) (os : List Obj) : Prop where
 dom : ∀ (id : Nat) o,os[id]? = some o -> o.live = true -> ∃ bk,ρ id = some bk /\ ObjRel CL φ ρ H hp bk o
 lt : ∀ (id : Nat) bk,ρ id = some bk -> id < os.length
 inj : ∀ (id id' : Nat) o o' b c c',os[id]? = some o -> o.live = true -> os[id']? = some o' -> o'.live = true -> ρ id = some (.blk b c) -> ρ id' = some (.blk b c') -> id = id'
 own : ∀ (id : Nat) o b c,os[id]? = some o -> o.live = true -> ρ id = some (.blk b c) -> B <= b /\ b < hp.size
 mutH : ∀ (id : Nat) cs b c o,os[id]? = some (.cells cs) -> ρ id = some (.blk b c) -> ¬ H b o
 hb : HB H hp
 hB : B <= hp.size

section
variable {CL : CLink} {φ : Phi} {B : Nat} {ρ ρ' : Rho} {H H' : HS} {hp hp' : Heap} {os : List Obj}

theorem RowAt.mono (x : Ext ρ ρ' H H' hp hp') {b c : Nat} {cs : List D} (hb : hp'[b]? = hp[b]?) (h : RowAt φ ρ H hp b c cs) : RowAt φ ρ' H' hp' b c cs:=by
 obtain ⟨arr,el,h1,h2,h3,h4,h5⟩:=h
 exact ⟨arr,el,by rw [hb,h1],h2,h3,fun j v d hv hd=>(h4 j v d hv hd).mono x,h5⟩

theorem MapAt.mono (x : Ext ρ ρ' H H' hp hp') {b : Nat} {es : List (D × D)} (hb : hp'[b]? = hp[b]?) (h : MapAt φ ρ H hp b es) : MapAt φ ρ' H' hp' b es:=by
 obtain ⟨me,clock,h1,h2,h3,h4⟩:=h
 exact ⟨me,clock,by rw [hb,h1],h2,fun j e p he hp'=>⟨(h3 j e p he hp').1.mono x,(h3 j e p he hp').2.mono x⟩,h4⟩

theorem LoopAt.mono (x : Ext ρ ρ' H H' hp hp') {b : Nat} {busy slots ps asg body pend} (hb : hp'[b]? = hp[b]?) (h : LoopAt CL φ ρ H hp b busy slots ps asg body pend) : LoopAt CL φ ρ' H' hp' b busy slots ps asg body pend:=by
 obtain ⟨L,h1,h2,h3⟩:=h
 exact ⟨L,by rw [hb,h1],h2.mono x,h3⟩

theorem ObjRel.mono (x : Ext ρ ρ' H H' hp hp') {bk : Bk} {o : Obj} (hb : ∀ b c,bk = .blk b c -> hp'[b]? = hp[b]?) (hH : ∀ b c u s,bk = .blk b c -> o = .tok u s -> ∀ j,u <= j -> H' b j -> H b j)
  (h : ObjRel CL φ ρ H hp bk o) : ObjRel CL φ ρ' H' hp' bk o:=by
 cases o with
 | dead=>trivial
 | cells cs=>obtain ⟨b,c,rfl,h⟩:=h; exact ⟨b,c,rfl,h.mono x (hb b c rfl)⟩
 | frozen cs=>obtain ⟨b,c,rfl,h,h'⟩:=h; exact ⟨b,c,rfl,h.mono x (hb b c rfl),fun j hj=>x.hs _ _ (h' j hj)⟩
 | tok u s=>
  rcases h with rfl | ⟨b,cap,rfl,arr,el,h1,h2,h3,h4⟩
  ·exact .inl rfl
  ·exact .inr ⟨b,cap,rfl,arr,el,by rw [hb b cap rfl,h1],h2,h3,fun o ho hh=>h4 o ho (hH b cap u s rfl rfl o ho hh)⟩
 | map es=>obtain ⟨b,c,rfl,h⟩:=h; exact ⟨b,c,rfl,h.mono x (hb b c rfl)⟩
 | loop busy slots ps asg body pend=>obtain ⟨b,c,rfl,h⟩:=h; exact ⟨b,c,rfl,h.mono x (hb b c rfl)⟩

theorem SR.row {id b c : Nat} {cs : List D} (S : SR CL φ B ρ H hp os) (hid : ρ id = some (.blk b c)) (hr : rowOf os id = some cs) : RowAt φ ρ H hp b c cs:=by
 unfold rowOf at hr
 split at hr
 ·rename_i cs' ho
  simp at hr; subst hr
  obtain ⟨bk,h1,h2⟩:=S.dom _ _ ho rfl
  rw [hid] at h1; simp at h1; subst h1
  obtain ⟨b',c',e,h⟩:=h2; simp at e; obtain ⟨rfl,rfl⟩:=e; exact h
 ·rename_i cs' ho
  simp at hr; subst hr
  obtain ⟨bk,h1,h2⟩:=S.dom _ _ ho rfl
  rw [hid] at h1; simp at h1; subst h1
  obtain ⟨b',c',e,h,_⟩:=h2; simp at e; obtain ⟨rfl,rfl⟩:=e; exact h
 ·simp at hr

theorem SR.mapAt {id b c : Nat} {es : List (D × D)} (S : SR CL φ B ρ H hp os) (hid : ρ id = some (.blk b c)) (ho : os[id]? = some (.map es)) : MapAt φ ρ H hp b es:=by
 obtain ⟨bk,h1,h2⟩:=S.dom _ _ ho rfl
 rw [hid] at h1; simp at h1; subst h1
 obtain ⟨b',c',e,h⟩:=h2; simp at e; obtain ⟨rfl,rfl⟩:=e; exact h

theorem SR.rr (S : SR CL φ B ρ H hp os) : RR φ ρ H hp os:=
 ⟨fun _ _ _ _ h1 h2=>S.row h1 h2,fun _ _ _ _ h1 h2=>S.mapAt h1 h2⟩

structure Grew (H H' : HS) (hp hp' : Heap) : Prop where
 size : hp.size <= hp'.size
 old : ∀ b,b < hp.size -> hp'[b]? = hp[b]?
 hs : ∀ b o,H b o -> H' b o
 new : ∀ b o,H' b o -> H b o \/ (hp.size <= b /\ b < hp'.size)

theorem z2m {hp : Heap} {b : Nat} {o : Go.Obj} (h : hp[b]? = some o) : b < hp.size:=(Array.getElem?_eq_some_iff.1 h).1

theorem z6g {hp : Heap} {b o : Nat} {v : Value} (h : cellOf hp b o = some v) : b < hp.size:=by
 unfold cellOf at h
 split at h
 ·rename_i hh; exact z2m hh
 ·simp at h

theorem Grew.ext (g : Grew H H' hp hp') (ρ : Rho) (hb : HB H hp) : Ext ρ ρ H H' hp hp':=
 ⟨fun _ _ h=>h,g.hs,fun b o h=>by unfold cellOf; rw [g.old b (hb b o h)]⟩

theorem SR.grew (S : SR CL φ B ρ H hp os) (g : Grew H H' hp hp') : SR CL φ B ρ H' hp' os where
 dom:=fun id o ho hl=>by
  obtain ⟨bk,h1,h2⟩:=S.dom id o ho hl
  refine ⟨bk,h1,h2.mono (g.ext ρ S.hb) (fun b c e=>g.old b (S.own id o b c ho hl (e ▸ h1)).2) (fun b c u s e _ j _ hh=>?_)⟩
  rcases g.new b j hh with hh | ⟨hh,_⟩
  ·exact hh
  ·have:=(S.own id o b c ho hl (e ▸ h1)).2; omega
 lt:=S.lt
 inj:=S.inj
 own:=fun id o b c ho hl hr=>⟨(S.own id o b c ho hl hr).1,Nat.lt_of_lt_of_le (S.own id o b c ho hl hr).2 g.size⟩
 mutH:=fun id cs b c o ho hr hh=>by
  rcases g.new b o hh with hh | ⟨hh,_⟩
  ·exact S.mutH id cs b c o ho hr hh
  ·have:=(S.own id _ b c ho rfl hr).2; omega
 hb:=S.hb.ext (g.ext ρ S.hb) fun b o hh=>by
  rcases g.new b o hh with hh | ⟨_,hh⟩
  ·exact Nat.lt_of_lt_of_le (S.hb b o hh) g.size
  ·exact hh
 hB:=Nat.le_trans S.hB g.size

def upd (ρ : Rho) (id : Nat) (bk : Bk) : Rho:=fun i=>if i = id then some bk else ρ i

structure Free (ρ : Rho) (os : List Obj) (id : Nat) : Prop where
 rho : ρ id = none
 place : id = os.length \/ os[id]? = some .dead

theorem Free.le {id : Nat} (f : Free ρ os id) : id <= os.length:=by
 rcases f.place with h | h
 ·omega
 ·exact Nat.le_of_lt (List.getElem?_eq_some_iff.1 h).1

theorem z4x {id : Nat} {o : Obj} (f : Free ρ os id) (i : Nat) : (addO os id o)[i]? = if i = id then some o else os[i]?:=by
 unfold addO
 rcases f.place with h | h
 ·subst h
  rw [if_neg (Nat.lt_irrefl _)]
  split
  ·rename_i h; subst h; simp
  ·rename_i h
   rcases Nat.lt_or_ge i os.length with hi | hi
   ·rw [List.getElem?_append_left hi]
   ·rw [List.getElem?_append_right hi,List.getElem?_eq_none hi]
    have : i - os.length ≠ 0:=by omega
    cases hj : i - os.length with
    | zero=>omega
    | succ n=>simp
 ·have hlt:=(List.getElem?_eq_some_iff.1 h).1
  rw [if_pos hlt,List.getElem?_set]
  split
  ·rename_i e; subst e; simp [hlt]
  ·rename_i e; rw [if_neg (fun e'=>e e'.symm)]

theorem z7w {id : Nat} {o : Obj} (f : Free ρ os id) : id < (addO os id o).length /\ os.length <= (addO os id o).length:=by
 have:=f.le
 unfold addO
 split
 ·rename_i h; simp; exact h
 ·simp; omega

theorem Free.ext {id : Nat} (f : Free ρ os id) (bk : Bk) (H : HS) (hp : Heap) : Ext ρ (upd ρ id bk) H H hp hp:=
 ⟨fun i b h=>by unfold upd; split; (· rename_i e; subst e; rw [f.rho] at h; cases h); exact h,fun _ _ h=>h,fun _ _ _=>rfl⟩

theorem z75 {id : Nat} {o : Obj} {bk : Bk} (f : Free ρ os id) (hl : o.live = true) : ∀ (k : Nat) bk',upd ρ id bk k = some bk' -> ρ k = some bk' \/ ∃ o' : Obj,(addO os id o)[k]? = some o' /\ o'.live = true:=by
 intro k bk' h
 unfold upd at h
 split at h
 ·rename_i e; subst e; exact .inr ⟨o,by rw [z4x f]; simp,hl⟩
 ·exact .inl h

theorem SR.add (S : SR CL φ B ρ H hp os) {id : Nat} (f : Free ρ os id) {o : Obj} {bk : Bk} (ho : ObjRel CL φ (upd ρ id bk) H hp bk o)
  (hown : ∀ b c,bk = .blk b c -> B <= b /\ b < hp.size) (hfree : ∀ b c,bk = .blk b c -> ∀ i o' c',os[i]? = some o' -> o'.live = true -> ρ i ≠ some (.blk b c'))
  (hmut : ∀ cs b c,o = .cells cs -> bk = .blk b c -> ∀ j,¬ H b j) : SR CL φ B (upd ρ id bk) H hp (addO os id o) where
 dom:=fun i o' ho' hl=>by
  rw [z4x f] at ho'
  split at ho'
  ·rename_i e; simp at ho'; subst ho'; subst e; exact ⟨bk,by simp [upd],ho⟩
  ·rename_i e
   obtain ⟨bk',h1,h2⟩:=S.dom i o' ho' hl
   exact ⟨bk',by simp [upd,e,h1],h2.mono (f.ext bk H hp) (fun _ _ _=>rfl) (fun _ _ _ _ _ _ _ _ hh=>hh)⟩
 lt:=fun i b h=>by
  unfold upd at h
  split at h
  ·rename_i e; rw [e]; exact (z7w f).1
  ·exact Nat.lt_of_lt_of_le (S.lt i b h) (z7w f).2
 inj:=fun i i' o1 o2 b c c' h1 l1 h2 l2 r1 r2=>by
  rw [z4x f] at h1 h2
  unfold upd at r1 r2
  by_cases e1 : i = id <;> by_cases e2 : i' = id
  ·rw [e1,e2]
  ·rw [if_pos e1] at r1; rw [if_neg e2] at r2 h2; simp at r1
   exact absurd r2 (hfree b c r1 i' o2 c' h2 l2)
  ·rw [if_pos e2] at r2; rw [if_neg e1] at r1 h1; simp at r2
   exact absurd r1 (hfree b c' r2 i o1 c h1 l1)
  ·rw [if_neg e1] at r1 h1; rw [if_neg e2] at r2 h2
   exact S.inj i i' o1 o2 b c c' h1 l1 h2 l2 r1 r2
 own:=fun i o' b c h1 l1 r1=>by
  rw [z4x f] at h1
  unfold upd at r1
  by_cases e1 : i = id
  ·rw [if_pos e1] at r1; simp at r1; exact hown b c r1
  ·rw [if_neg e1] at r1 h1; exact S.own i o' b c h1 l1 r1
 mutH:=fun i cs b c j h1 r1=>by
  rw [z4x f] at h1
  unfold upd at r1
  by_cases e1 : i = id
  ·rw [if_pos e1] at r1 h1; simp at r1 h1; exact hmut cs b c h1 r1 j
  ·rw [if_neg e1] at r1 h1; exact S.mutH i cs b c j h1 r1
 hb:=S.hb
 hB:=S.hB

theorem SR.kill (S : SR CL φ B ρ H hp os) (k : Nat) : SR CL φ B ρ H hp (os.set k .dead):=by
 have get : ∀ (i : Nat) o,(os.set k .dead)[i]? = some o -> o.live = true -> os[i]? = some o:=by
  intro i o h hl
  rw [List.getElem?_set] at h
  split at h
  ·split at h
   ·simp at h; subst h; simp [Obj.live] at hl
   ·simp at h
  ·exact h
 exact {
  dom:=fun i o h hl=>S.dom i o (get i o h hl) hl
  lt:=fun i b h=>by simpa using S.lt i b h
  inj:=fun i i' o o' b c c' h l h' l' r r'=>S.inj i i' o o' b c c' (get i o h l) l (get i' o' h' l') l' r r'
  own:=fun i o b c h l r=>S.own i o b c (get i o h l) l r
  mutH:=fun i cs b c o h r=>S.mutH i cs b c o (get i _ h rfl) r
  hb:=S.hb
  hB:=S.hB }

end
end Dv

namespace Dv
open Go (Value Program World Act Oper Operand Code)

def Old (ρ : Rho) (b : Nat) : Prop:=∃ (k : Nat) (c : Nat),ρ k = some (.blk b c)
theorem rbS {ρ : Rho} {n : Nat} : ∀ (k : Nat) b c,ρ k = some (.blk b c) -> Old ρ b \/ n <= b:=fun k _ c h=>.inl ⟨k,c,h⟩
theorem hnS {H : HS} {ρ : Rho} {n : Nat} : ∀ b o,H b o -> H b o \/ Old ρ b \/ n <= b:=fun _ _ h=>.inl h
theorem rbU {ρ : Rho} {id n b0 cap : Nat} (h0 : Old ρ b0 \/ n <= b0) : ∀ (k : Nat) b c,upd ρ id (.blk b0 cap) k = some (.blk b c) -> Old ρ b \/ n <= b:=fun k b c h=>by
 unfold upd at h
 split at h
 ·simp at h; obtain ⟨rfl,_⟩:=h; exact h0
 ·exact .inl ⟨k,c,h⟩
theorem rbV {ρ : Rho} {id n : Nat} : ∀ (k : Nat) b c,upd ρ id .virt k = some (.blk b c) -> Old ρ b \/ n <= b:=fun k b c h=>by
 unfold upd at h
 split at h
 ·simp at h
 ·exact .inl ⟨k,c,h⟩

structure Post (CL : CLink) (φ : Phi) (B : Nat) (ρ : Rho) (H : HS) (hp : Heap) (os : List Obj) (ρ' : Rho) (H' : HS) (hp' : Heap) (os' : List Obj) : Prop where
 ext : Ext ρ ρ' H H' hp hp'
 sr : SR CL φ B ρ' H' hp' os'
 size : hp.size <= hp'.size
 frame : ∀ b,b < hp.size -> (∀ (id : Nat) o c,os[id]? = some o -> o.live = true -> ρ id ≠ some (.blk b c)) -> hp'[b]? = hp[b]?
 hnew : ∀ b o,H' b o -> H b o \/ B <= b
 fz : FzAt hp hp'
 rn : ∀ (k : Nat) bk,ρ' k = some bk -> ρ k = some bk \/ ∃ o : Obj,os'[k]? = some o /\ o.live = true
 rb : ∀ (k : Nat) b c,ρ' k = some (.blk b c) -> Old ρ b \/ hp.size <= b
 hn : ∀ b o,H' b o -> H b o \/ Old ρ b \/ hp.size <= b

section
variable {P : Program} {E : Env} {CL : CLink} {φ : Phi} {τ : Phi} {B : Nat} {ρ ρ' ρ'' : Rho} {H H' H'' : HS} {hp hp' hp'' : Heap} {os os' os'' : List Obj} {w : World}

theorem Post.refl (S : SR CL φ B ρ H hp os) : Post CL φ B ρ H hp os ρ H hp os:=
 ⟨Ext.refl _ _ _,S,Nat.le_refl _,fun _ _ _=>rfl,fun _ _ h=>.inl h,FzAt.refl _,fun _ _ h=>.inl h,rbS,hnS⟩

theorem z4h (H : HS) (hp : Heap) (o : Go.Obj) : Grew H H hp (hp.push o):=
 ⟨by simp,fun b hb=>by rw [Array.getElem?_push]; simp [Nat.ne_of_lt hb],fun _ _ h=>h,fun _ _ h=>.inl h⟩

theorem z3v (hp : Heap) (o : Go.Obj) : (hp.push o)[hp.size]? = some o:=by simp

theorem z3l (S : SR CL φ B ρ H hp os) {id : Nat} (f : Free ρ os id) {arr : Array Value} {el : Nat} {cs : List D} (h : RepL φ ρ H hp arr.toList cs) (ha : ∀ d,d ∈ cs -> d.atom = true) :
  Post CL φ B ρ H hp os (upd ρ id (.blk hp.size arr.size)) H (hp.push (.cells arr el (0,0))) (addO os id (.cells cs)):=by
 have g:=z4h H hp (.cells arr el (0,0))
 have S1:=S.grew g
 have x:=(g.ext ρ S.hb).trans (f.ext (.blk hp.size arr.size) H (hp.push (.cells arr el (0,0))))
 refine ⟨x,S1.add f ?_ ?_ ?_ ?_,g.size,fun b hb _=>g.old b hb,fun _ _ h=>.inl h,FzAt.push _ (by intro arr el fr h; cases h; rfl),z75 f rfl,rbU (.inr (Nat.le_refl _)),hnS⟩
 ·refine ⟨_,_,rfl,arr,el,z3v _ _,rfl,by have:=h.1; simp at this; omega,fun j v d hv hd=>?_,ha⟩
  exact (h.2 j v d (by simpa using hv) hd).mono x
 ·intro b c e; simp at e; obtain ⟨rfl,rfl⟩:=e; exact ⟨S.hB,by simp⟩
 ·intro b c e i o' c' h1 l1 r1; simp at e; obtain ⟨rfl,rfl⟩:=e
  exact absurd (S.own i o' _ c' h1 l1 r1).2 (Nat.lt_irrefl _)
 ·intro cs' b c _ e j hh; simp at e; obtain ⟨rfl,rfl⟩:=e
  exact absurd (S.hb _ _ hh) (Nat.lt_irrefl _)

def hold (H : HS) (b0 n : Nat) : HS:=fun b o=>H b o \/ (b = b0 /\ o < n)

theorem z5i {arr : Array Value} {el : Nat} (j : Nat) : cellOf (hp.push (.cells arr el (0,0))) hp.size j = arr[j]?:=by
 unfold cellOf; rw [z3v]

theorem z67 (H : HS) (hp : Heap) (o : Go.Obj) (n : Nat) : Grew H (hold H hp.size n) hp (hp.push o):=
 ⟨by simp,fun b hb=>by rw [Array.getElem?_push]; simp [Nat.ne_of_lt hb],fun _ _ h=>.inl h,fun b o h=>by
  rcases h with h | ⟨rfl,_⟩
  ·exact .inl h
  ·exact .inr ⟨Nat.le_refl _,by simp⟩⟩

theorem zfl (S : SR CL φ B ρ H hp os) {arr : Array Value} {el : Nat} {els : List D} {su : Nat} (h : RepL φ ρ H hp arr.toList (flat els)) (hu : ∀ x,x ∈ els -> x.cellsL.length = su /\ x.storable = true) :
  Post CL φ B ρ H hp os ρ (hold H hp.size arr.size) (hp.push (.cells arr el (0,0))) os /\
   Rep φ ρ (hold H hp.size arr.size) (hp.push (.cells arr el (0,0))) (.slice (some ⟨hp.size,0,none⟩) els.length els.length) (.imm .exact els):=by
 have g:=z67 H hp (.cells arr el (0,0)) arr.size
 have x:=g.ext ρ S.hb
 refine ⟨⟨x,S.grew g,g.size,fun b hb _=>g.old b hb,fun b o hh=>?_,FzAt.push _ (by intro arr el fr h; cases h; rfl),fun _ _ h=>.inl h,rbS,fun b o hh=>hh.elim .inl fun e=>.inr (.inr (Nat.le_of_eq e.1.symm))⟩,?_⟩
 ·rcases hh with hh | ⟨rfl,_⟩
  ·exact .inl hh
  ·exact .inr S.hB
 ·refine .imm .exact els _ els.length hp.size 0 su (fun j=>arr.toList.getD j Go.undef) hu (Nat.le_refl _) (fun _=>rfl) (fun k hk=>by cases hk) (fun _=>rfl) (fun j hj=>?_) (fun j d hd=>?_)
  ·rw [<- h.1] at hj
   simp at hj
   refine ⟨.inr ⟨rfl,by omega⟩,?_⟩
   rw [Nat.zero_add,z5i]
   simp [hj]
  ·obtain ⟨v,hv,hr⟩:=h.get hd
   simp only [List.getD_eq_getElem?_getD,hv,Option.getD_some]
   exact hr.mono x

theorem z15 (x : D) (els : List D) : flat (x :: els) = x.cellsL ++ flat els:=rfl

theorem z1m {a b : List D} : ∀ {off : Nat} {vs : List D},off + vs.length <= a.length -> setCells (a ++ b) off vs = setCells a off vs ++ b
 | off,[],_=>rfl
 | off,v :: vs,h=>by
  simp only [List.length_cons] at h
  simp only [setCells]
  rw [List.set_append_left _ _ (by omega)]
  exact z1m (by simp; omega)

theorem zp {a b : List D} : ∀ {off : Nat} {vs : List D},setCells (a ++ b) (a.length + off) vs = a ++ setCells b off vs
 | off,[]=>rfl
 | off,v :: vs=>by
  simp only [setCells]
  rw [List.set_append_right _ _ (by omega),Nat.add_sub_cancel_left,Nat.add_assoc]
  exact zp

theorem ze : ∀ {a vs : List D},a.length = vs.length -> setCells a 0 vs = vs
 | a,vs,h=>by
  have key : ∀ (pre a vs : List D),a.length = vs.length -> setCells (pre ++ a) pre.length vs = pre ++ vs:=by
   intro pre a vs
   induction vs generalizing pre a with
   | nil=>intro h; cases a <;> simp_all [setCells]
   | cons v vs ih=>
    intro h
    match a,h with
    | x :: a,h=>
     simp only [setCells]
     rw [List.set_append_right _ _ (Nat.le_refl _),Nat.sub_self]
     have:=ih (pre ++ [v]) a (by simpa using h)
     simpa using this
  simpa using key [] a vs h

theorem zg6 {sz : Nat} : ∀ {els : List D} {i : Nat} {d : D},(∀ x,x ∈ els -> x.cellsL.length = sz) -> d.cellsL.length = sz -> i < els.length -> flat (els.set i d) = setCells (flat els) (i * sz) d.cellsL
 | x :: els,0,d,hu,hd,_=>by
  have hx:=hu x (by simp)
  simp only [List.set_cons_zero,z15,Nat.zero_mul]
  rw [z1m (by omega),ze (by omega)]
 | x :: els,i + 1,d,hu,hd,hi=>by
  have hx:=hu x (by simp)
  simp only [List.set_cons_succ,z15]
  rw [zg6 (fun y hy=>hu y (List.mem_cons_of_mem _ hy)) hd (by simpa using hi)]
  rw [show (i + 1) * sz = x.cellsL.length + i * sz from by rw [hx,Nat.add_mul]; omega,zp]

theorem z95 {sz : Nat} : ∀ {ds : List (Nat × D)} {els r : List D},(∀ x,x ∈ els -> x.cellsL.length = sz /\ x.storable = true) -> fillE sz els ds = some r ->
  fillD (fun i=>some (i * sz,sz)) (flat els) ds = some (flat r) /\ r.length = els.length /\ ∀ x,x ∈ r -> x.cellsL.length = sz /\ x.storable = true
 | [],els,r,hu,h=>by simp [fillE] at h; subst h; exact ⟨rfl,rfl,hu⟩
 | (i,d) :: ds,els,r,hu,h=>by
  simp only [fillE] at h
  split at h
  ·rename_i hc
   have hu' : ∀ x,x ∈ els.set i d -> x.cellsL.length = sz /\ x.storable = true:=by
    intro x hx
    rcases List.mem_or_eq_of_mem_set hx with hx | rfl
    ·exact hu x hx
    ·exact ⟨hc.2.1,hc.1⟩
   obtain ⟨h1,h2,h3⟩:=z95 hu' h
   rw [zg6 (fun x hx=>(hu x hx).1) hc.2.1 hc.2.2] at h1
   refine ⟨?_,by simpa using h2,h3⟩
   have hlen:=zg (fun x hx=>(hu x hx).1)
   have hle : i * sz + sz <= els.length * sz:=by
    have:=Nat.mul_le_mul_right sz hc.2.2
    rw [Nat.succ_mul] at this; exact this
   simp only [fillD]
   rw [if_pos ⟨hc.1,hc.2.1,by rw [hlen]; exact hle⟩]
   exact h1
  ·simp at h

theorem zbf {ag : Bool} {cs : List D} {z : D} (h : ofCells ag cs = some z) (ha : ∀ d,d ∈ cs -> d.atom = true) : z.cellsL = cs /\ z.storable = true:=by
 cases ag with
 | true=>simp [ofCells] at h; subst h; exact ⟨rfl,by simpa [D.storable] using ha⟩
 | false=>
  match cs,h with
  | [c],h=>
   simp [ofCells] at h; subst h
   have:=ha c (by simp)
   cases c <;> simp [D.atom] at this <;> exact ⟨rfl,rfl⟩
  | [],h=>simp [ofCells] at h
  | _ :: _ :: _,h=>simp [ofCells] at h

theorem z3g {z : D} {sz : Nat} (hz : z.cellsL.length = sz) : ∀ (n j : Nat),j < n * sz -> (flat (List.replicate n z))[j]? = z.cellsL[j % sz]?
 | 0,j,h=>by simp at h
 | n + 1,j,h=>by
  rw [List.replicate_succ,z15]
  rcases Nat.lt_or_ge j sz with hj | hj
  ·rw [List.getElem?_append_left (by omega),Nat.mod_eq_of_lt hj]
  ·rw [List.getElem?_append_right (by omega),hz,z3g hz n (j - sz) (by rw [Nat.add_mul] at h; omega)]
   congr 1
   rw [Nat.mod_eq_sub_mod hj]

theorem z5j {zv : Array Value} {z : D} {sz n : Nat} (hz : RepL φ ρ H hp zv.toList z.cellsL) (hsz : z.cellsL.length = sz) :
  RepL φ ρ H hp ((Array.range (n * sz)).map (zv[· % zv.size]!)).toList (flat (List.replicate n z)):=by
 have h1 : zv.size = sz:=by rw [<- hsz,<- hz.1]; simp
 have hfl : (flat (List.replicate n z)).length = n * sz:=by
  rw [zg (su:=sz) (fun x hx=>by rw [List.eq_of_mem_replicate hx]; exact hsz)]; simp
 refine ⟨by simp [hfl],fun j v d hv hd=>?_⟩
 have hj : j < n * sz:=by rw [<- hfl]; exact (List.getElem?_eq_some_iff.1 hd).1
 rw [z3g hsz n j hj] at hd
 simp [hj] at hv
 have hm : j % sz < sz:=Nat.mod_lt _ (by rcases Nat.eq_zero_or_pos sz with h | h; (· subst h; omega); exact h)
 refine hz.2 (j % sz) v d ?_ hd
 rw [<- hv,h1]
 simp [h1,hm]

end
end Dv

namespace Dv
open Go (Value Program World Act Oper Operand Code)

section
variable {P : Program} {E : Env} {CL : CLink} {φ : Phi} {τ : Phi} {B : Nat} {ρ : Rho} {H : HS} {os : List Obj} {w : World}

def Went (CL : CLink) (φ : Phi) (B : Nat) (ρ : Rho) (H : HS) (os : List Obj) (w : World) (r : Go.Result Value) (d : D) (os' : List Obj) : Prop:=
 ∃ v w' ρ' H',r = .ok v w' /\ (Post CL φ B ρ H w.heap os ρ' H' w'.heap os' /\ Still w w') /\ Rep φ ρ' H' w'.heap v d

theorem Went.of_value {r : Go.Result Value} {d : D} (S : SR CL φ B ρ H w.heap os) (h : ∃ v,r = .ok v w /\ Rep φ ρ H w.heap v d) : Went CL φ B ρ H os w r d os:=by
 obtain ⟨v,h1,h2⟩:=h
 exact ⟨v,w,ρ,H,h1,⟨Post.refl S,Still.refl _⟩,h2⟩

theorem z16 {el : Nat} {cells : Array Value} : (Go.newRow el cells).run P w = .ok ⟨w.heap.size,0,none⟩ { w with heap:=w.heap.push (.cells cells el) }:=by
 simp [Go.newRow]

theorem zmk {t c id : Nat} (T : TOk P E τ t c) (S : SR CL φ B ρ H w.heap os) (f : Free ρ os id) (ha : (E.ty c).zero.all D.atom = true) (hz : (E.ty c).zero.length = (E.ty c).size) (h0 : (E.ty c).size ≠ 0) :
  Went CL φ B ρ H os w ((Go.Instr.alloc t true (.tuple #[])).run P w) (.loc id 0) (addO os id (.cells (E.ty c).zero)):=by
 obtain ⟨z,e1,e2,_⟩:=T.zeroV (w:=w) (φ:=φ) (ρ:=ρ) (H:=H) hz h0
 have hp:=z3l S f (el:=t) e2 (by simpa using ha)
 refine ⟨.pointer (some ⟨w.heap.size,0,none⟩),{ w with heap:=w.heap.push (.cells z.cells t) },_,_,?_,⟨hp,rfl,rfl,rfl,Nat.le_refl _⟩,.loc _ z.cells.size _ _ (by simp [upd])⟩
 simp [Go.Instr.alloc,e1,Go.newVar,z16]

theorem z2a {d : D} (h : d.storable = true) : ∀ x,x ∈ d.cellsL -> x.atom = true:=by
 cases d <;> first | (simpa [D.storable,D.cellsL] using h) | (simp [D.storable,D.atom] at h)

theorem zsk {t id : Nat} {vx : Value} {x : D} (S : SR CL φ B ρ H w.heap os) (f : Free ρ os id) (hx : Rep φ ρ H w.heap vx x) (hs : x.storable = true) :
  Went CL φ B ρ H os w ((Go.Instr.box t vx).run P w) (.loc id 0) (addO os id (.cells x.cellsL)):=by
 have hp:=z3l S f (el:=t) (hx.cells hs) (z2a hs)
 refine ⟨.pointer (some ⟨w.heap.size,0,none⟩),{ w with heap:=w.heap.push (.cells vx.cells t) },_,_,?_,⟨hp,rfl,rfl,rfl,Nat.le_refl _⟩,.loc _ vx.cells.size _ _ (by simp [upd])⟩
 simp [Go.Instr.box,Go.newVar,z16]

theorem znu {t : Nat} {vx : Value} {x : D} (S : SR CL φ B ρ H w.heap os) (hx : Rep φ ρ H w.heap vx x) (hs : x.storable = true) :
  Went CL φ B ρ H os w ((Go.Instr.box t vx).run P w) (.iptr x.cellsL) os:=by
 have hc:=hx.cells hs
 have g:=z67 H w.heap (.cells vx.cells t (0,0)) vx.cells.size
 have e:=g.ext ρ S.hb
 refine ⟨.pointer (some ⟨w.heap.size,0,none⟩),{ w with heap:=w.heap.push (.cells vx.cells t) },ρ,hold H w.heap.size vx.cells.size,?_,⟨⟨e,S.grew g,g.size,fun b hb _=>g.old b hb,fun b o hh=>?_,trivial,fun _ _ h=>.inl h,rbS,fun b o hh=>hh.elim .inl fun e=>.inr (.inr (Nat.le_of_eq e.1.symm))⟩,rfl,rfl,rfl,Nat.le_refl _⟩,?_⟩
 ·simp [Go.Instr.box,Go.newVar,z16]
 ·rcases hh with hh | ⟨rfl,_⟩
  ·exact .inl hh
  ·exact .inr S.hB
 ·refine .iptr w.heap.size 0 _ (fun j=>vx.cells.toList.getD j Go.undef) (fun j hj=>?_) (fun j d hd=>?_)
  ·rw [<- hc.1] at hj
   simp at hj
   refine ⟨.inr ⟨rfl,by omega⟩,?_⟩
   rw [Nat.zero_add]
   show cellOf (w.heap.push (.cells vx.cells t (0,0))) w.heap.size j = _
   rw [z5i]
   simp [hj]
  ·obtain ⟨v,hv,hr⟩:=hc.get hd
   simp only [List.getD_eq_getElem?_getD,hv,Option.getD_some]
   exact hr.mono e

theorem z17 {z : D} {sz n : Nat} (h1 : z.cellsL.length = sz) (h2 : z.storable = true) : ∀ x,x ∈ List.replicate n z -> x.cellsL.length = sz /\ x.storable = true:=
 fun x hx=>by rw [List.eq_of_mem_replicate hx]; exact ⟨h1,h2⟩

theorem z19 {els : List D} (h : ∀ x,x ∈ els -> x.storable = true) : ∀ d,d ∈ flat els -> d.atom = true:=by
 intro d hd
 simp only [flat,List.mem_flatMap] at hd
 obtain ⟨x,hx,hd⟩:=hd
 exact z2a (h x hx) d hd

theorem ziw (TA : TAll P E τ) {t c e id len : Nat} {mu : Bool} {ps : List (Nat × Value)} {ds : List (Nat × D)} {z : D} {els : List D} (T : TOk P E τ t c) (hk : (E.ty c).k = .slice e) (S : SR CL φ B ρ H w.heap os) (f : Free ρ os id)
  (hp : RepP φ ρ H w.heap ps ds) (hz : zeroE E e = some z) (hl : len * (E.ty e).size <= 16777216) (hf : fillE (E.ty e).size (List.replicate len z) ds = some els) :
  (mu = true /\ len ≠ 0 -> Went CL φ B ρ H os w ((Go.Instr.buildSlice t len ps.toArray).run P w) (.sl id 0 len (E.ty e).size (E.ty e).ag true) (addO os id (.cells (flat els)))) /\
  Went CL φ B ρ H os w ((Go.Instr.buildSlice t len ps.toArray).run P w) (.imm .exact els) os:=by
 obtain ⟨e',hu,he'⟩:=T.slice hk
 have Te:=TA _ _ he'
 obtain ⟨zv,e1,e2,_,e4,e5,e6⟩:=z2f (w:=w) (φ:=φ) (ρ:=ρ) (H:=H) Te hz
 obtain ⟨h1,h2,h3⟩:=z95 (z17 e4 e5) hf
 have hzr:=z5j (n:=len) e2 e4
 obtain ⟨arr',a1,a2⟩:=z7t hzr hp h1
 have hlen : els.length = len:=by simpa using h2
 have hsz : arr'.size = len * (E.ty e).size:=by
  have:=a2.1
  rw [zg (fun x hx=>(h3 x hx).1),hlen] at this
  simpa using this
 have hrun : (Go.Instr.buildSlice t len ps.toArray).run P w = .ok (.slice (some ⟨w.heap.size,0,none⟩) len len) { w with heap:=w.heap.push (.cells arr' e') }:=by
  unfold Go.Instr.buildSlice
  simp only [Go.Sem.run_bind,run_underlying hu,Go.Result.andThen_ok,Te.size]
  have hnot : ¬ len * (E.ty e).size > 2 ^ 24:=by omega
  simp only [if_neg hnot,Go.Sem.run_bind,Go.Sem.run_ite,Go.Sem.run_pure,Go.Result.andThen_ok]
  by_cases h0 : len * (E.ty e).size = 0
  ·-- nothing is laid
   have hl0 : len = 0:=by rcases Nat.mul_eq_zero.1 h0 with h | h; exact h; exact absurd h e6
   subst hl0
   have hd : ds = [] \/ ds ≠ []:=by cases ds <;> simp
   have ha : (Array.range (0 * (E.ty e).size)).map (zv.cells[· % zv.cells.size]!) = #[]:=by simp
   rw [ha] at a1
   have hr0 : ∀ g : Nat -> Value,(Array.range 0).map g = #[]:=fun g=>by simp [Array.range]
   simp [h0,hr0,a1,z16]
  ·simp only [if_neg h0,e1,Go.Result.andThen_ok]
   simp [a1,z16]
 constructor
 ·rintro ⟨_,h0⟩
  have hp:=z3l S f (el:=e') a2 (z19 fun x hx=>(h3 x hx).2)
  exact ⟨_,_,_,_,hrun,⟨hp,rfl,rfl,rfl,Nat.le_refl _⟩,.sl _ _ _ _ _ _ w.heap.size arr'.size len _ (by simp [upd]) (Nat.le_refl _) (fun _=>rfl) (fun _=>⟨rfl,rfl,hsz⟩)⟩
 ·obtain ⟨hp,hr⟩:=zfl S (el:=e') a2 h3
  rw [hlen] at hr
  exact ⟨_,_,_,_,hrun,⟨hp,rfl,rfl,rfl,Nat.le_refl _⟩,hr⟩

theorem zef (TA : TAll P E τ) {t c e id : Nat} {kl kc : Go.IntKind} {l : Int} {mu : Bool} {z : D} (T : TOk P E τ t c) (hk : (E.ty c).k = .slice e) (S : SR CL φ B ρ H w.heap os) (f : Free ρ os id)
  (hz : zeroE E e = some z) (h0 : 0 <= l) (hb : l * ((E.ty e).bytes + 1) <= maxBytes) :
  (mu = true -> Went CL φ B ρ H os w ((Go.Instr.makeSlice t (.int kl l) (.int kc l)).run P w) (.sl id 0 l.toNat (E.ty e).size (E.ty e).ag true) (addO os id (.cells (flat (List.replicate l.toNat z))))) /\
  Went CL φ B ρ H os w ((Go.Instr.makeSlice t (.int kl l) (.int kc l)).run P w) (.imm .exact (List.replicate l.toNat z)) os:=by
 obtain ⟨e',hu,he'⟩:=T.slice hk
 have Te:=TA _ _ he'
 obtain ⟨zv,e1,e2,_,e4,e5,e6⟩:=z2f (w:=w) (φ:=φ) (ρ:=ρ) (H:=H) Te hz
 obtain ⟨n,rfl⟩:=Int.eq_ofNat_of_zero_le h0
 obtain ⟨inf,hi,hsz,hby,_⟩:=Te.info
 have hzr:=z5j (n:=n) e2 e4
 have hsize : ((Array.range (n * (E.ty e).size)).map (zv.cells[· % zv.cells.size]!)).size = n * (E.ty e).size:=by simp
 have hnn : (n : Int) <= maxBytes:=by
  have h1 : (n : Int) * 1 <= (n : Int) * ((E.ty e).bytes + 1):=Int.mul_le_mul_of_nonneg_left (by omega) (by omega)
  omega
 have hbb : (E.ty e).bytes * (n : Int) <= maxBytes:=by
  have h1 : (n : Int) * (E.ty e).bytes <= (n : Int) * ((E.ty e).bytes + 1):=Int.mul_le_mul_of_nonneg_left (by omega) (by omega)
  rw [Int.mul_comm]; omega
 have hwrap : Go.IntKind.i64.wrap (n : Int) = n:=by
  have hm : (maxBytes : Int) = 17592186044416:=rfl
  rw [hm] at hnn
  exact Go.IntWalk.i64_in _ (by omega)
 have hrun : (Go.Instr.makeSlice t (.int kl n) (.int kc n)).run P w = .ok (.slice (some ⟨w.heap.size,0,none⟩) n n) { w with heap:=w.heap.push (.cells ((Array.range (n * (E.ty e).size)).map (zv.cells[· % zv.cells.size]!)) e') }:=by
  have hm : (maxBytes : Int) = 17592186044416:=rfl
  rw [hm] at hbb hnn
  unfold Go.Instr.makeSlice
  simp only [Go.Sem.run_bind,run_underlying hu,Go.Result.andThen_ok,Go.asInt,Go.asIntOf,Go.Sem.run_pure,Go.Sem.run_map,z12 hi,hwrap,hby]
  have hc : ¬ (((decide ((n : Int) < 0) || decide ((((E.ty e).bytes : Nat) : Int) * (n : Int) > 2 ^ 48)) || decide ((n : Int) < 0) || decide ((n : Int) > (n : Int))) = true):=by
   simp
   omega
  simp only [if_neg hc,Go.Sem.run_bind,Go.run_askRoom,Go.Result.andThen_ok,Te.size,Int.toNat_natCast,Go.Sem.run_ite,Go.Sem.run_pure]
  by_cases hn0 : n * (E.ty e).size = 0
  ·have hr0 : ∀ g : Nat -> Value,(Array.range 0).map g = #[]:=fun g=>by simp [Array.range]
   have hn : n = 0:=by rcases Nat.mul_eq_zero.1 hn0 with h | h; exact h; exact absurd h e6
   subst hn
   simp [hr0,z16]
  ·simp [if_neg hn0,e1,z16]
 rw [Int.toNat_natCast]
 constructor
 ·intro _
  have hp:=z3l S f (el:=e') hzr (z19 fun x hx=>(z17 e4 e5 x hx).2)
  exact ⟨_,_,_,_,hrun,⟨hp,rfl,rfl,rfl,Nat.le_refl _⟩,.sl _ _ _ _ _ _ w.heap.size _ n _ (by simp [upd]; rfl) (Nat.le_refl _) (fun _=>rfl) (fun _=>⟨rfl,rfl,by simp⟩)⟩
 ·obtain ⟨hp,hr⟩:=zfl S (el:=e') hzr (z17 e4 e5)
  simp only [List.length_replicate] at hr
  exact ⟨_,_,_,_,hrun,⟨hp,rfl,rfl,rfl,Nat.le_refl _⟩,hr⟩

end
end Dv

namespace Dv
open Go (Value Program World Act Oper Operand Code)

section
variable {P : Program} {E : Env} {CL : CLink} {φ : Phi} {τ : Phi} {B : Nat} {ρ : Rho} {H : HS} {os : List Obj} {w : World}

theorem zkc {t id : Nat} (S : SR CL φ B ρ H w.heap os) (f : Free ρ os id) : Went CL φ B ρ H os w ((Go.Instr.makeMap t none).run P w) (.map (some id)) (addO os id (.map [])):=by
 have g:=z4h H w.heap (.map #[] 0)
 have S1:=S.grew g
 have x:=(g.ext ρ S.hb).trans (f.ext (.blk w.heap.size 0) H (w.heap.push (.map #[] 0)))
 refine ⟨.map (some w.heap.size),{ w with heap:=w.heap.push (.map #[] 0) },upd ρ id (.blk w.heap.size 0),H,by simp [Go.Instr.makeMap],⟨⟨x,S1.add f ?_ ?_ ?_ ?_,g.size,fun b hb _=>g.old b hb,fun _ _ h=>.inl h,FzAt.push _ (by intro arr el fr h; cases h),z75 f rfl,rbU (.inr (Nat.le_refl _)),hnS⟩,rfl,rfl,rfl,Nat.le_refl _⟩,.map _ 0 _ (by simp [upd])⟩
 ·exact ⟨_,_,rfl,#[],0,z3v _ _,rfl,fun j e p he=>by simp at he,by simp,by simp⟩
 ·intro b c e; simp at e; obtain ⟨rfl,rfl⟩:=e; exact ⟨S.hB,by simp⟩
 ·intro b c e i o' c' h1 l1 r1; simp at e; obtain ⟨rfl,rfl⟩:=e
  exact absurd (S.own i o' _ c' h1 l1 r1).2 (Nat.lt_irrefl _)
 ·intro cs' b c e; simp at e

theorem z6v {sz : Nat} {ag : Bool} : ∀ {n : Nat} {cs els : List D},(∀ d,d ∈ cs -> d.atom = true) -> chunk sz ag n cs = some els -> els.length = n /\ flat els = cs.take (n * sz) /\ n * sz <= cs.length /\ ∀ x,x ∈ els -> x.cellsL.length = sz /\ x.storable = true
 | 0,cs,els,_,h=>by simp [chunk] at h; subst h; simp [flat]
 | n + 1,cs,els,ha,h=>by
  simp only [chunk] at h
  cases h1 : takeC cs 0 sz with
  | none=>simp [h1] at h
  | some c=>cases h2 : ofCells ag c with
   | none=>simp [h1,h2] at h
   | some d=>cases h3 : chunk sz ag n (cs.drop sz) with
    | none=>simp [h1,h2,h3] at h
    | some r=>
     simp [h1,h2,h3] at h; subst h
     obtain ⟨e1,e2⟩:=z2t h1
     obtain ⟨i1,i2,i3,i4⟩:=z6v (fun d hd=>ha d (List.mem_of_mem_drop hd)) h3
     have hle : sz <= cs.length:=by
      cases sz with
      | zero=>omega
      | succ m=>have:=(e2 m (by omega)).2; omega
     have hc : c = cs.take sz:=by
      apply List.ext_getElem?
      intro j
      rw [List.getElem?_take]
      split
      ·rename_i hj; rw [(e2 j hj).1]; simp
      ·rename_i hj; rw [List.getElem?_eq_none (by omega)]
     obtain ⟨o1,o2⟩:=zbf h2 (fun x hx=>ha x (by rw [hc] at hx; exact List.mem_of_mem_take hx))
     refine ⟨by simp [i1],?_,?_,?_⟩
     ·rw [z15,o1,i2,hc,show (n + 1) * sz = sz + n * sz from by rw [Nat.add_mul]; omega,List.take_add]
     ·rw [List.length_drop] at i3; rw [Nat.add_mul]; omega
     ·intro x hx
      rcases List.mem_cons.1 hx with rfl | hx
      ·exact ⟨by rw [o1,hc]; simp; omega,o2⟩
      ·exact i4 x hx

theorem z28 {sz : Nat} {ag : Bool} {vy : Value} {y : D} {new : List D} (S : SR CL φ B ρ H w.heap os) (hy : Rep φ ρ H w.heap vy y) (h : listOf os sz ag y = some new) :
  ∃ a cap vl,vy = .slice a new.length cap /\ RepL φ ρ H w.heap vl (flat new) /\ (∀ x,x ∈ new -> x.cellsL.length = sz /\ x.storable = true) /\
   (∀ n ≤ new.length,∀ w1 : World,w1.heap = w.heap -> (Go.Builtin.firstCells sz n vy).run P w1 = .ok (vl.take (n * sz)).toArray w1):=by
 unfold listOf at h
 split at h
 ·rename_i sp els
  split at h
  ·rename_i hall
   simp at h; subst h
   have hu : ∀ x,x ∈ els -> x.cellsL.length = sz /\ x.storable = true:=fun x hx=>by
    have:=List.all_eq_true.1 hall x hx
    simp at this; exact ⟨this.2,this.1⟩
   obtain ⟨a,cap,b,off,su,rfl,hcap,ha,hun,vl,hr,hc⟩:=z64 hy
   have hlen : vl.length = els.length * sz:=by rw [hr.1,zg (fun x hx=>(hu x hx).1)]
   have key : ∀ n ≤ els.length,∀ w1 : World,w1.heap = w.heap -> (Go.Builtin.firstCells sz n (.slice a els.length cap)).run P w1 = .ok (vl.take (n * sz)).toArray w1:=by
    intro n hn w1 he
    have hns : n * sz <= vl.length:=by rw [hlen]; exact Nat.mul_le_mul_right _ hn
    by_cases hne : els = []
    ·subst hne
     have hn0 : n = 0:=by simpa using hn
     subst hn0
     cases a with
     | none=>simp [Go.Builtin.firstCells]
     | some a=>simp [Go.Builtin.firstCells,Go.loadCells,Go.loadCellsFrom]
    ·rw [ha hne]
     simp only [Go.Builtin.firstCells]
     exact z2o (by simp; omega) (fun j v hv=>by
      rw [List.getElem?_take] at hv
      split at hv
      ·rw [he]; exact (hc j v hv).2
      ·simp at hv)
   exact ⟨a,cap,vl,rfl,hr,hu,key⟩
  ·simp at h
 ·rename_i id off len sz' ag' gr
  split at h
  ·rename_i hsz
   subst hsz
   split at h
   ·rename_i cs hrow
    cases hy with
    | sl _ _ _ _ _ _ b c cap a hid hl ha hc=>
     have R:=S.row hid hrow
     obtain ⟨arr,el,r1,r2,r3,r4,r5⟩:=R
     obtain ⟨c1,c2,c3,c4⟩:=z6v (fun d hd=>r5 d (List.mem_of_mem_drop hd)) h
     have C:=(S.row hid hrow).cells
     obtain ⟨vl0,v1,v2⟩:=C
     have hlen : ((vl0.drop off).take (len * sz)).length = len * sz:=by
      rw [List.length_drop] at c3
      rw [List.length_take,List.length_drop,v1.1]; omega
     have key : ∀ n ≤ len,∀ w1 : World,w1.heap = w.heap -> (Go.Builtin.firstCells sz n (.slice a len cap)).run P w1 = .ok (((vl0.drop off).take (len * sz)).take (n * sz)).toArray w1:=by
      intro n hn w1 he
      have hns : n * sz <= len * sz:=Nat.mul_le_mul_right _ hn
      by_cases h0 : len = 0
      ·subst h0
       have hn0 : n = 0:=by simpa using hn
       subst hn0
       cases a with
       | none=>simp [Go.Builtin.firstCells]
       | some a=>simp [Go.Builtin.firstCells,Go.loadCells,Go.loadCellsFrom]
      ·rw [ha h0]
       simp only [Go.Builtin.firstCells]
       exact z2o (by rw [List.length_take,hlen]; omega) (fun j v hv=>by
        rw [List.getElem?_take] at hv
        split at hv
        ·rw [List.getElem?_take] at hv
         split at hv
         ·rw [List.getElem?_drop] at hv
          have:=v2 _ v hv
          rw [Nat.zero_add] at this
          rw [he]; exact this
         ·simp at hv
        ·simp at hv)
     rw [c1]
     refine ⟨a,cap,(vl0.drop off).take (len * sz),rfl,?_,c4,key⟩
     rw [c2]; exact (v1.drop off).take _
   ·simp at h
  ·simp at h
 ·simp at h

theorem z8j (need cap : Nat) (h : cap < need) : 4 * Go.Builtin.nextslicecap need cap <= 5 * need + 2048:=by
 unfold Go.Builtin.nextslicecap
 split
 ·omega
 ·split
  ·omega
  ·have key : ∀ (r c : Nat),4 * c <= 5 * need + 2048 -> 4 * Go.Builtin.growBy need r c <= 5 * need + 2048:=by
    intro r
    induction r with
    | zero=>intro c h; exact h
    | succ r ih=>
     intro c h
     unfold Go.Builtin.growBy
     split
     ·exact h
     ·exact ih _ (by omega)
   exact key 4 cap (by omega)

end
end Dv

namespace Dv
open Go (Value Program World Act Oper Operand Code)

section
variable {P : Program} {E : Env} {CL : CLink} {φ : Phi} {τ : Phi} {B : Nat} {ρ : Rho} {H : HS} {os : List Obj} {w : World}

theorem z1b {cs : List Value} : ∀ {off : Nat} {vs : List Value},(setV cs off vs).length = cs.length
 | off,[]=>rfl
 | off,v :: vs=>by simp only [setV]; rw [z1b]; simp

theorem z1c {cs : List Value} : ∀ {off : Nat} {vs : List Value} {j : Nat},(j < off \/ off + vs.length <= j) -> (setV cs off vs)[j]? = cs[j]?
 | off,[],j,_=>rfl
 | off,v :: vs,j,h=>by
  simp only [List.length_cons] at h
  simp only [setV]
  rw [z1c (by omega),List.getElem?_set_ne (by omega)]

theorem z2v {cs : List Value} : ∀ {off : Nat} {vs : List Value} {j : Nat},off + vs.length <= cs.length -> j < vs.length -> (setV cs off vs)[off + j]? = vs[j]?
 | off,v :: vs,0,h,_=>by
  simp only [List.length_cons] at h
  simp only [setV,Nat.add_zero]
  rw [z1c (by omega),List.getElem?_set_self (by omega)]
  rfl
 | off,v :: vs,j + 1,h,hj=>by
  simp only [List.length_cons] at h hj
  simp only [setV]
  have:=z2v (cs:=cs.set off v) (off:=off + 1) (vs:=vs) (j:=j) (by simp; omega) (by omega)
  rw [show off + (j + 1) = off + 1 + j from by omega,this]
  rfl

structure Wrote (w w' : World) (b : Nat) (arr' : Array Value) (el : Nat) : Prop where
 at_ : w'.heap[b]? = some (.cells arr' el (0,0))
 other : ∀ b',b' ≠ b -> w'.heap[b']? = w.heap[b']?
 size : w'.heap.size = w.heap.size
 still : Still w w'

theorem zb9 {b off el : Nat} {arr : Array Value} {v : Value} (hb : w.heap[b]? = some (.cells arr el (0,0))) (ho : off < arr.size) (hv : v.oneCell' = true) :
  ∃ w',(Go.store ⟨b,off,none⟩ v).run P w = .ok () w' /\ Wrote w w' b (arr.setIfInBounds off v) el:=by
 refine ⟨w.setCell ⟨b,off,none⟩ v,?_,?_⟩
 ·rw [Go.run_store _ _ _ _ _ hv,cell?_eq]
  have h1 : cellOf w.heap b off = some arr[off]:=by simp [cellOf,hb,ho]
  have h2 : w.frozen? ⟨b,off,none⟩ = false:=by simp [World.frozen?,hb]
  rw [h1]; simp [h2]
 ·have hlt:=z2m hb
  refine ⟨?_,fun b' hne=>?_,by simp [World.setCell],rfl,rfl,rfl,Nat.le_refl _⟩
  ·simp only [World.setCell]
   rw [Array.getElem?_modify]
   simp [hb]
  ·simp only [World.setCell]
   rw [Array.getElem?_modify]
   simp [Ne.symm hne]

theorem z2b {b el : Nat} : ∀ (vs : List Value) (off i : Nat) (arr : Array Value) (w : World),w.heap[b]? = some (.cells arr el (0,0)) -> off + i + vs.length <= arr.size -> (∀ v,v ∈ vs -> v.oneCell' = true) ->
  ∃ w',(Go.storeCells ⟨b,off,none⟩ vs i).run P w = .ok () w' /\ Wrote w w' b (setV arr.toList (off + i) vs).toArray el
 | [],off,i,arr,w,hb,_,_=>⟨w,by simp [Go.storeCells],by simpa [setV] using hb,fun _ _=>rfl,rfl,Still.refl _⟩
 | v :: vs,off,i,arr,w,hb,hl,hv=>by
  simp only [List.length_cons] at hl
  obtain ⟨w1,h1,h2⟩:=zb9 (P:=P) (w:=w) (off:=off + i) hb (by omega) (hv v (by simp))
  obtain ⟨w2,h3,h4⟩:=z2b vs off (i + 1) (arr.setIfInBounds (off + i) v) w1 h2.at_ (by simp; omega) (fun u hu=>hv u (by simp [hu]))
  refine ⟨w2,?_,?_,fun b' hne=>(h4.other b' hne).trans (h2.other b' hne),h4.size.trans h2.size,h2.still.trans h4.still⟩
  ·simp only [Go.storeCells,Go.Sem.run_bind,z14,h1,Go.Result.andThen_ok,h3]
  ·rw [h4.at_]
   simp [setV,Nat.add_assoc]

theorem Post.of_kill {ρ' : Rho} {H' : HS} {hp hp' : Heap} {os' : List Obj} {k : Nat} (h : Post CL φ B ρ H hp (os.set k .dead) ρ' H' hp' os') : Post CL φ B ρ H hp os ρ' H' hp' os':=
 ⟨h.ext,h.sr,h.size,fun b hb hn=>h.frame b hb (fun id o c ho hl=>by
  rw [List.getElem?_set] at ho
  split at ho
  ·split at ho
   ·simp at ho; subst ho; simp [Obj.live] at hl
   ·simp at ho
  ·exact hn id o c ho hl),h.hnew,h.fz,h.rn,h.rb,h.hn⟩

theorem Free.kill {id k : Nat} (f : Free ρ os id) : Free ρ (os.set k .dead) id:=by
 refine ⟨f.rho,?_⟩
 rcases f.place with h | h
 ·left; simpa using h
 ·by_cases e : k = id
  ·subst e
   right
   have:=(List.getElem?_eq_some_iff.1 h).1
   simp [this]
  ·right; rw [List.getElem?_set_ne e]; exact h

theorem zfk {w1 : World} (hw : w1.heap = w.heap) (S : SR CL φ B ρ H w.heap os) {id : Nat} (f : Free ρ os id) {arr : Array Value} {el cap su : Nat} {els : List D} (hr : RepL φ ρ H w.heap (arr.toList.take (flat els).length) (flat els)) (hsz : arr.size = cap * su)
  (hu : ∀ x,x ∈ els -> x.cellsL.length = su /\ x.storable = true) (hle : els.length <= cap) :
  ∃ ρ' H',Post CL φ B ρ H w.heap os ρ' H' (w1.heap.push (.cells arr el (0,0))) (addO os id (.tok (els.length * su) su)) /\
   Rep φ ρ' H' (w1.heap.push (.cells arr el (0,0))) (.slice (some ⟨w.heap.size,0,none⟩) els.length cap) (.imm (.tok id) els):=by
 rw [hw]
 have hfl : (flat els).length = els.length * su:=zg fun x hx=>(hu x hx).1
 have hfa : (flat els).length <= arr.size:=by rw [hfl,hsz]; exact Nat.mul_le_mul_right _ hle
 have g:=z67 H w.heap (.cells arr el (0,0)) (flat els).length
 have S1:=S.grew g
 have x1:=g.ext ρ S.hb
 have x:=x1.trans (f.ext (.blk w.heap.size cap) (hold H w.heap.size (flat els).length) (w.heap.push (.cells arr el (0,0))))
 refine ⟨upd ρ id (.blk w.heap.size cap),hold H w.heap.size (flat els).length,⟨x,S1.add f ?_ ?_ ?_ ?_,g.size,fun b hb _=>g.old b hb,fun b o hh=>?_,FzAt.push _ (by intro arr el fr h; cases h; rfl),z75 f rfl,rbU (.inr (Nat.le_refl _)),fun b o hh=>hh.elim .inl fun e=>.inr (.inr (Nat.le_of_eq e.1.symm))⟩,?_⟩
 ·refine .inr ⟨_,_,rfl,arr,el,z3v _ _,hsz,by rw [<- hfl]; exact hfa,fun o ho hh=>?_⟩
  rcases hh with hh | ⟨_,hh⟩
  ·exact absurd (S.hb _ _ hh) (Nat.lt_irrefl _)
  ·omega
 ·intro b c e; simp at e; obtain ⟨rfl,rfl⟩:=e; exact ⟨S.hB,by simp⟩
 ·intro b c e i o' c' h1 l1 r1; simp at e; obtain ⟨rfl,rfl⟩:=e
  exact absurd (S.own i o' _ c' h1 l1 r1).2 (Nat.lt_irrefl _)
 ·intro cs' b c e; simp at e
 ·rcases hh with hh | ⟨rfl,_⟩
  ·exact .inl hh
  ·exact .inr S.hB
 ·refine .imm (.tok id) els _ cap w.heap.size 0 su (fun j=>arr.toList.getD j Go.undef) hu hle (fun h=>by cases h) (fun k hk=>?_) (fun _=>rfl) (fun j hj=>⟨.inr ⟨rfl,by omega⟩,?_⟩) (fun j d hd=>?_)
  ·simp at hk; subst hk; exact .inl ⟨_,by simp [upd],rfl⟩
  ·rw [Nat.zero_add,z5i]
   have : j < arr.size:=by omega
   simp [this]
  ·obtain ⟨v,hv,hrr⟩:=hr.get hd
   rw [List.getElem?_take] at hv
   split at hv
   ·simp only [List.getD_eq_getElem?_getD,hv,Option.getD_some]
    exact hrr.mono x
   ·simp at hv

end
end Dv

namespace Dv
open Go (Value Program World Act Oper Operand Code)

section
variable {P : Program} {E : Env} {CL : CLink} {φ : Phi} {τ : Phi} {B : Nat} {ρ : Rho} {H : HS} {os : List Obj} {w : World}

theorem zna {t2 : Nat} {e2' : Nat} (h : P.underlying t2 = some (.slice e2')) :
  ((do pure ((<- Go.underlying t2) matches .int _) : Go.Sem Bool)).run P w = .ok false w:=by
 simp [run_underlying h]

def NoInt (P : Program) (t2 : Nat) : Prop:=∃ ty,P.underlying t2 = some ty /\ (match ty with | .int _=>true | _=>false) = false
def LenIs (P : Program) (v : Value) (n : Nat) : Prop:=∀ w : World,(Go.Builtin.lenOf v).run P w = .ok n w
theorem z26 {t2 e2' : Nat} (h : P.underlying t2 = some (.slice e2')) : NoInt P t2:=⟨_,h,rfl⟩
theorem zk9 {t2 : Nat} (h : P.underlying t2 = some .string) : NoInt P t2:=⟨_,h,rfl⟩
theorem z29 {a : Option Go.Addr} {n cap : Nat} : LenIs P (.slice a n cap) n:=fun _=>by simp [Go.Builtin.lenOf]

theorem z1d {t t2 ty e' sz sLen sCap n : Nat} {base : Option Go.Addr} {vy : Value} {vln : List Value} {w' : World}
  (hu : P.underlying t = some (.slice e')) (hu2 : NoInt P t2) (hl2 : LenIs P vy n) (hsz : (Go.sizeOf e').run P w = .ok sz w)
  (hn : (Go.Builtin.firstCells sz n vy).run P w = .ok vln.toArray w) (hfit : sLen + n <= sCap)
  (hst : (match base with | some a=>Go.storeCells (a.add (sLen * sz)) vln | none=>pure () : Go.Sem Unit).run P w = .ok () w') :
  (Go.Builtin.append_ #[t,t2] ty #[.slice base sLen sCap,vy]).run P w = .ok (.slice base (sLen + n) sCap) w':=by
 unfold Go.Builtin.append_
 simp only [List.getElem?_toArray,List.getElem?_cons_zero,List.getElem?_cons_succ]
 obtain ⟨ty2,hu3,hz⟩:=hu2
 cases ty2 <;> first | (cases hz; done) | skip
 all_goals (
  simp only [Go.Sem.run_bind,run_underlying hu,run_underlying hu3,Go.Result.andThen_ok,hsz,Go.Sem.run_pure,hl2 w,Bool.not_false,if_true,if_pos hfit,Bool.false_eq_true,if_false,hn]
  cases base with
  | none=>simp at hst; subst hst; simp
  | some a=>simp only [Go.Sem.run_bind,hst,Go.Result.andThen_ok,Go.Sem.run_pure])

theorem z47 {t t2 ty e' sz by' sLen sCap n : Nat} {base : Option Go.Addr} {vy : Value} {vlo vln : List Value} {zv : Value} {inf : Go.TypeInfo}
  (hu : P.underlying t = some (.slice e')) (hu2 : NoInt P t2) (hl2 : LenIs P vy n) (hsz : (Go.sizeOf e').run P w = .ok sz w) (hi : P.info? e' = some inf) (hby : inf.bytes = by')
  (hz : ∀ w1 : World,(Go.zeroValue e').run P w1 = .ok zv w1) (hgrow : sCap < sLen + n)
  (hb1 : (sLen + n) * (by' + 1) <= 211106232532992) (hb2 : by' <= 65536) (ho' : ∀ w1 : World,w1.heap = w.heap -> (Go.Builtin.firstCells sz sLen (.slice base sLen sCap)).run P w1 = .ok vlo.toArray w1)
  (hn' : ∀ w1 : World,w1.heap = w.heap -> (Go.Builtin.firstCells sz n vy).run P w1 = .ok vln.toArray w1) :
  ∃ (newCap : Nat) (w1 : World),(w1.heap = w.heap /\ Still w w1) /\ sLen + n <= newCap /\ (Go.Builtin.append_ #[t,t2] ty #[.slice base sLen sCap,vy]).run P w =
   .ok (.slice (some ⟨w.heap.size,0,none⟩) (sLen + n) newCap) { w1 with heap:=w1.heap.push (.cells (vlo.toArray ++ vln.toArray ++ Go.Builtin.zeroCells zv.cells (newCap - (sLen + n))) e') }:=by
 let q : Go.Question:=.appendCap (sLen + n) sCap e'
 refine ⟨q.cut (w.tape w.drawn q),{ w with drawn:=w.drawn + 1 },⟨rfl,rfl,rfl,rfl,Nat.le_succ _⟩,Nat.le_add_right _ _,?_⟩
 unfold Go.Builtin.append_
 have hnf : ¬ (sLen + n <= sCap):=by omega
 have h1 : sLen + n <= 211106232532992:=by
  have : (sLen + n) * 1 <= (sLen + n) * (by' + 1):=Nat.mul_le_mul_left _ (by omega)
  omega
 have hmax : ¬ (((sLen + n : Nat) : Int) > Go.IntKind.i64.max /\ (false = true \/ by' = 0)):=by
  rintro ⟨hh,_⟩
  have : Go.IntKind.i64.max = 9223372036854775807:=by decide
  rw [this] at hh
  omega
 have hnx : ¬ (Go.Builtin.nextslicecap (sLen + n) sCap * by' > 2 ^ 48):=by
  have hle:=z8j (sLen + n) sCap hgrow
  have h2 : 4 * Go.Builtin.nextslicecap (sLen + n) sCap * by' <= (5 * (sLen + n) + 2048) * by':=Nat.mul_le_mul_right _ hle
  have h3 : (sLen + n) * by' <= 211106232532992:=Nat.le_trans (Nat.mul_le_mul_left _ (Nat.le_succ _)) hb1
  rw [Nat.add_mul,Nat.mul_assoc,Nat.mul_assoc] at h2
  omega
 simp only [List.getElem?_toArray,List.getElem?_cons_zero,List.getElem?_cons_succ]
 obtain ⟨ty2,hu3,hz0⟩:=hu2
 cases ty2 <;> first | (cases hz0; done) | skip
 all_goals (
  simp only [Go.Sem.run_bind,run_underlying hu,run_underlying hu3,Go.Result.andThen_ok,hsz,Go.Sem.run_pure,hl2 w,Bool.not_false,if_true,if_neg hnf,Bool.false_eq_true,if_false,z12 hi,hby]
  rw [if_neg (by simpa using hmax)]
  simp only [Go.Sem.run_bind,Go.Sem.run_ite,Go.Sem.run_pure,z12 hi,hby,if_neg hnx,Go.Result.andThen_ok]
  have hforced : (Go.Question.appendCap (sLen + n) sCap e').forced = false:=rfl
  simp only [Go.run_choose,hforced,Bool.false_eq_true,if_false,Go.Result.andThen_ok,Go.run_askRoom]
  rw [ho' { w with drawn:=w.drawn + 1 } rfl]
  simp only [Go.Result.andThen_ok,Go.Sem.run_bind]
  rw [hn' { w with drawn:=w.drawn + 1 } rfl]
  simp only [Go.Result.andThen_ok,Go.Sem.run_bind,hz,z16,Go.Sem.run_pure]
  rfl)

end
end Dv

namespace Dv
open Go (Value Program World Act Oper Operand Code)

section
variable {P : Program} {E : Env} {CL : CLink} {φ : Phi} {τ : Phi} {B : Nat} {ρ : Rho} {H : HS} {os : List Obj} {w : World}

theorem zal {sz : Nat} {els : List D} (h : fitsE sz els = true) : ∀ x,x ∈ els -> x.cellsL.length = sz /\ x.storable = true:=fun x hx=>by
 have:=List.all_eq_true.1 h x hx
 simp at this; exact ⟨this.2,this.1⟩

theorem zai {sz : Nat} {ag : Bool} {sp : Spare} {els : List D} (h : fitsE sz els = true) : listOf os sz ag (.imm sp els) = some els:=by
 simp only [listOf]
 simp only [fitsE] at h
 rw [if_pos h]

theorem zfz {t t2 ty e' e : Nat} {base : Option Go.Addr} {sCap : Nat} {x : D} {vy : Value} {vln : List Value} {els new : List D} (S : SR CL φ B ρ H w.heap os) (Te : TOk P E τ e' e)
  (hu : P.underlying t = some (.slice e')) (hu2 : NoInt P t2) (hl2 : LenIs P vy new.length) (hx : Rep φ ρ H w.heap (.slice base els.length sCap) x)
  (lx : listOf os (E.ty e).size (E.ty e).ag x = some els) (n2 : RepL φ ρ H w.heap vln (flat new)) (n3 : ∀ x,x ∈ new -> x.cellsL.length = (E.ty e).size /\ x.storable = true)
  (hn' : ∀ w1 : World,w1.heap = w.heap -> (Go.Builtin.firstCells (E.ty e).size new.length vy).run P w1 = .ok vln.toArray w1) (hgrow : sCap < els.length + new.length)
  (hb1 : (els.length + new.length) * ((E.ty e).bytes + 1) <= 211106232532992) (hb2 : (E.ty e).bytes <= 65536) (hz : (zeroE E e).isSome = true) :
  ∃ (arr : Array Value) (newCap : Nat) (w1 : World),(w1.heap = w.heap /\ Still w w1) /\ els.length + new.length <= newCap /\ arr.size = newCap * (E.ty e).size /\
   RepL φ ρ H w.heap (arr.toList.take (flat (els ++ new)).length) (flat (els ++ new)) /\
   (Go.Builtin.append_ #[t,t2] ty #[.slice base els.length sCap,vy]).run P w =
    .ok (.slice (some ⟨w.heap.size,0,none⟩) (els.length + new.length) newCap) { w1 with heap:=w1.heap.push (.cells arr e') }:=by
 obtain ⟨z,hzz⟩:=Option.isSome_iff_exists.1 hz
 obtain ⟨inf,hi,hsz,hby,_⟩:=Te.info
 obtain ⟨_,_,vlo,eo,o2,o3,o4⟩:=z28 (P:=P) S hx lx
 obtain ⟨zv,e1,e2,_,e4,_⟩:=z2f (w:=w) (φ:=φ) (ρ:=ρ) (H:=H) Te hzz
 have hz' : ∀ w1 : World,(Go.zeroValue e').run P w1 = .ok zv w1:=by
  intro w1
  have h1 : (Go.zeroValue e').run P w = .ok zv w:=e1
  unfold Go.zeroValue at h1 ⊢
  simp only [Go.Sem.run_bind,z12 hi,Go.Result.andThen_ok] at h1 ⊢
  cases hzero : inf.zero with
  | none=>simp [hzero] at h1
  | some q=>simp [hzero] at h1 ⊢; exact h1
 have lo : vlo.length = els.length * (E.ty e).size:=by rw [o2.1,zg fun x hx=>(o3 x hx).1]
 have ln : vln.length = new.length * (E.ty e).size:=by rw [n2.1,zg fun x hx=>(n3 x hx).1]
 have ho' : ∀ w1 : World,w1.heap = w.heap -> (Go.Builtin.firstCells (E.ty e).size els.length (.slice base els.length sCap)).run P w1 = .ok vlo.toArray w1:=fun w1 he=>by
  rw [o4 _ (Nat.le_refl _) w1 he,<- lo,List.take_length]
 obtain ⟨newCap,w1,he,hle,hrun⟩:=z47 (ty:=ty) (base:=base) (sCap:=sCap) hu hu2 hl2 Te.size hi hby hz' hgrow hb1 hb2 ho' hn'
 have hzs : zv.cells.size = (E.ty e).size:=by have:=e2.1; rw [e4] at this; simpa using this
 have hfl : (flat (els ++ new)).length = (els.length + new.length) * (E.ty e).size:=by
  rw [z1g,List.length_append,<- o2.1,<- n2.1,lo,ln,Nat.add_mul]
 refine ⟨vlo.toArray ++ vln.toArray ++ Go.Builtin.zeroCells zv.cells (newCap - (els.length + new.length)),newCap,w1,he,hle,?_,?_,hrun⟩
 ·simp only [Array.size_append,List.size_toArray,Go.Builtin.zeroCells,Array.size_map,Array.size_range,lo,ln,hzs]
  rw [<- Nat.add_mul,<- Nat.add_mul]
  congr 1
  omega
 ·have : (vlo.toArray ++ vln.toArray ++ Go.Builtin.zeroCells zv.cells (newCap - (els.length + new.length))).toList.take (flat (els ++ new)).length = vlo ++ vln:=by
   simp only [Array.toList_append,List.append_assoc]
   rw [<- List.append_assoc,List.take_append_of_le_length (by rw [hfl]; simp [lo,ln,Nat.add_mul]),List.take_of_length_le (by rw [hfl]; simp [lo,ln,Nat.add_mul])]
  rw [this,z1g]
  exact o2.append n2

end
end Dv

namespace Dv
open Go (Value Program World Act Oper Operand Code)

section
variable {P : Program} {E : Env} {CL : CLink} {φ : Phi} {τ : Phi} {B : Nat} {ρ : Rho} {H : HS} {os : List Obj} {w : World}

theorem SR.dead_rho (S : SR CL φ B ρ H w.heap os) {id : Nat} (f : Free ρ os id) {v : Value} {d : D} (hv : Rep φ ρ H w.heap v d) (bk : Bk) : Rep φ (upd ρ id bk) H w.heap v d:=
 hv.mono (f.ext bk H w.heap)

theorem z8g (S : SR CL φ B ρ H w.heap os) {id : Nat} (f : Free ρ os id) (used sz : Nat) : Post CL φ B ρ H w.heap os (upd ρ id .virt) H w.heap (addO os id (.tok used sz)):=
 ⟨f.ext .virt H w.heap,S.add f (.inl rfl) (fun b c e=>by cases e) (fun b c e=>by cases e) (fun cs b c e=>by cases e),Nat.le_refl _,fun _ _ _=>rfl,fun _ _ h=>.inl h,FzAt.refl _,z75 f rfl,rbV,hnS⟩

theorem zh5 (S : SR CL φ B ρ H w.heap os) {id k b cap used sz : Nat} (f : Free ρ os id) (hk : os[k]? = some (.tok used sz)) (hr : ρ k = some (.blk b cap)) :
  Post CL φ B ρ H w.heap os (upd ρ id (.blk b cap)) H w.heap (addO (os.set k .dead) id (.tok used sz)):=by
 obtain ⟨bk,h1,h2⟩:=S.dom k _ hk rfl
 rw [hr] at h1; simp at h1; subst h1
 rcases h2 with h2 | ⟨b',cap',e,hT⟩
 ·cases h2
 simp at e; obtain ⟨rfl,rfl⟩:=e
 have own:=S.own k _ b cap hk rfl hr
 refine Post.of_kill (k:=k) ⟨f.ext _ H w.heap,(S.kill k).add f.kill (.inr ⟨b,cap,rfl,hT⟩) (fun b c e=>?_) (fun b c e i o' c' h1 l1 r1=>?_) (fun cs b c e=>by cases e),Nat.le_refl _,fun _ _ _=>rfl,fun _ _ h=>.inl h,FzAt.refl _,z75 f.kill rfl,rbU (.inl ⟨k,cap,hr⟩),hnS⟩
 ·simp at e; obtain ⟨rfl,rfl⟩:=e; exact own
 ·simp at e; obtain ⟨rfl,rfl⟩:=e
  rw [List.getElem?_set] at h1
  split at h1
  ·split at h1
   ·simp at h1; subst h1; simp [Obj.live] at l1
   ·simp at h1
  ·rename_i hne
   exact hne (S.inj k i _ o' b cap c' hk rfl h1 l1 hr r1)

theorem z4g {hp : Heap} {v : Value} {sp : Spare} {els : List D} (h : Rep φ ρ H hp v (.imm sp els)) : ∃ a cap,v = .slice a els.length cap /\ els.length <= cap /\ (sp = .exact -> cap = els.length) /\
  (∀ k,sp = .tok k -> (∃ b',ρ k = some (.blk b' cap) /\ a = some ⟨b',0,none⟩) \/ (ρ k = some .virt /\ cap = els.length)):=by
 cases h with
 | imm _ _ a cap b off su vs hu hcap hex htok ha hH hr=>exact ⟨a,cap,rfl,hcap,hex,htok⟩

theorem z4u {hp : Heap} {v : Value} {sp sp' : Spare} {els : List D} {a : Option Go.Addr} {cap : Nat} (hv : v = .slice a els.length cap) (h : Rep φ ρ H hp v (.imm sp els)) (hex : sp' = .exact -> cap = els.length)
  (htok : ∀ k,sp' = .tok k -> (∃ b',ρ k = some (.blk b' cap) /\ a = some ⟨b',0,none⟩) \/ (ρ k = some .virt /\ cap = els.length)) : Rep φ ρ H hp v (.imm sp' els):=by
 cases h with
 | imm _ _ a' cap' b off su vs hu hcap hex' htok' ha hH hr=>
  simp at hv
  obtain ⟨rfl,rfl⟩:=hv
  exact .imm sp' els a' cap' b off su vs hu hcap hex htok ha hH hr

theorem z42 {hp : Heap} {vl : List Value} {ds : List D} (h : RepL φ ρ H hp vl ds) (ha : ∀ d,d ∈ ds -> d.atom = true) : ∀ v,v ∈ vl -> v.oneCell' = true:=by
 intro v hv
 obtain ⟨j,hj,e⟩:=List.getElem_of_mem hv
 have hj' : j < ds.length:=h.1 ▸ hj
 exact (h.2 j v ds[j] (by rw [List.getElem?_eq_getElem hj,e]) (List.getElem?_eq_getElem hj')).one (ha _ (List.getElem_mem hj')) |>.1

theorem zcs {w' : World} (S : SR CL φ B ρ H w.heap os) {id k b cap sz : Nat} (f : Free ρ os id) {els new : List D} {vln : List Value} {arr : Array Value} {el : Nat}
  (hk : os[k]? = some (.tok (els.length * sz) sz)) (hr : ρ k = some (.blk b cap)) (hb : w.heap[b]? = some (.cells arr el (0,0))) (hsz : arr.size = cap * sz) (hfree : ∀ o,els.length * sz <= o -> ¬ H b o)
  (hle : els.length + new.length <= cap) (hn : RepL φ ρ H w.heap vln (flat new)) (hnu : ∀ x,x ∈ new -> x.cellsL.length = sz /\ x.storable = true) (hxu : ∀ x,x ∈ els -> x.cellsL.length = sz /\ x.storable = true)
  (hx : Rep φ ρ H w.heap (.slice (some ⟨b,0,none⟩) els.length cap) (.imm (.tok k) els))
  (hw : Wrote w w' b (setV arr.toList (els.length * sz) vln).toArray el) :
  ∃ ρ' H',Post CL φ B ρ H w.heap os ρ' H' w'.heap (addO (os.set k .dead) id (.tok ((els.length + new.length) * sz) sz)) /\
   Rep φ ρ' H' w'.heap (.slice (some ⟨b,0,none⟩) (els.length + new.length) cap) (.imm (.tok id) (els ++ new)):=by
 have own:=S.own k _ b cap hk rfl hr
 have lx : (flat els).length = els.length * sz:=zg fun x hx=>(hxu x hx).1
 have ln : (flat new).length = new.length * sz:=zg fun x hx=>(hnu x hx).1
 have hmul : els.length * sz + new.length * sz <= cap * sz:=by rw [<- Nat.add_mul]; exact Nat.mul_le_mul_right _ hle
 have hlv : vln.length = new.length * sz:=by rw [hn.1,ln]
 -- the new marks
 let H' : HS:=fun b' o=>H b' o \/ (b' = b /\ els.length * sz <= o /\ o < (els.length + new.length) * sz)
 have keep : ∀ b' o,H b' o -> cellOf w'.heap b' o = cellOf w.heap b' o:=by
  intro b' o hh
  unfold cellOf
  by_cases e : b' = b
  ·subst e
   rw [hw.at_,hb]
   have ho : o < els.length * sz:=Nat.lt_of_not_le fun h=>hfree o h hh
   simp only [List.getElem?_toArray]
   rw [z1c (.inl ho)]
   simp
  ·rw [hw.other b' e]
 have x1 : Ext ρ ρ H H' w.heap w'.heap:=⟨fun _ _ h=>h,fun _ _ h=>.inl h,keep⟩
 -- the others stand
 have S1 : SR CL φ B ρ H' w'.heap (os.set k .dead):=by
  have S0:=S.kill k
  have hne : ∀ (i : Nat) o c,(os.set k .dead)[i]? = some o -> o.live = true -> ρ i ≠ some (.blk b c):=by
   intro i o c h1 l1 r1
   rw [List.getElem?_set] at h1
   split at h1
   ·split at h1
    ·simp at h1; subst h1; simp [Obj.live] at l1
    ·simp at h1
   ·rename_i hne
    exact hne (S.inj k i _ o b cap c hk rfl h1 l1 hr r1)
  exact {
   dom:=fun i o h1 l1=>by
    obtain ⟨bk,r1,h2⟩:=S0.dom i o h1 l1
    refine ⟨bk,r1,h2.mono x1 (fun b' c e=>hw.other b' (fun e'=>hne i o c h1 l1 (by rw [r1,e,e']))) (fun b' c u s e _ j _ hh=>?_)⟩
    rcases hh with hh | ⟨rfl,_⟩
    ·exact hh
    ·exact absurd (by rw [r1,e]) (hne i o c h1 l1)
   lt:=S0.lt
   inj:=S0.inj
   own:=fun i o b' c h1 l1 r1=>by rw [hw.size]; exact S0.own i o b' c h1 l1 r1
   mutH:=fun i cs b' c o h1 r1 hh=>by
    rcases hh with hh | ⟨rfl,_⟩
    ·exact S0.mutH i cs b' c o h1 r1 hh
    ·exact hne i _ c h1 rfl r1
   hb:=S.hb.ext x1 fun b' o hh=>by
    rw [hw.size]
    rcases hh with hh | ⟨rfl,_⟩
    ·exact S.hb b' o hh
    ·exact own.2
   hB:=by rw [hw.size]; exact S.hB }
 have x2:=f.kill (k:=k) |>.ext (.blk b cap) H' w'.heap
 have hadd : (els ++ new).length = els.length + new.length:=by simp
 have x3:=x1.trans x2
 have hS2 : SR CL φ B (upd ρ id (.blk b cap)) H' w'.heap (addO (os.set k .dead) id (.tok ((els.length + new.length) * sz) sz)):=by
  refine S1.add f.kill ?_ ?_ ?_ (fun cs b c e=>by cases e)
  ·refine .inr ⟨b,cap,rfl,_,el,hw.at_,by simp [z1b,hsz],by simp [z1b,hsz]; rw [Nat.add_mul]; exact hmul,fun o ho hh=>?_⟩
   rcases hh with hh | ⟨_,_,hh⟩
   ·exact hfree o (by rw [Nat.add_mul] at ho; omega) hh
   ·omega
  ·intro b' c e; simp at e; obtain ⟨rfl,rfl⟩:=e; rw [hw.size]; exact own
  ·intro b' c e i o' c' h1 l1 r1; simp at e; obtain ⟨rfl,rfl⟩:=e
   rw [List.getElem?_set] at h1
   split at h1
   ·split at h1
    ·simp at h1; subst h1; simp [Obj.live] at l1
    ·simp at h1
   ·rename_i hne
    exact hne (S.inj k i _ o' b cap c' hk rfl h1 l1 hr r1)
 refine ⟨upd ρ id (.blk b cap),H',⟨x3,hS2,by rw [hw.size]; exact Nat.le_refl _,fun b' hb' hn'=>?_,fun b' o hh=>?_,FzAt.at hw.at_ (by intro arr el fr h; cases h; rfl) hw.other,z75 f.kill rfl,rbU (.inl ⟨k,cap,hr⟩),fun b' o hh=>hh.elim .inl fun e=>.inr (.inl ⟨k,cap,by rw [e.1]; exact hr⟩)⟩,?_⟩
 ·refine hw.other b' (fun e=>?_)
  subst e
  exact hn' k _ cap hk rfl hr
 ·rcases hh with hh | ⟨rfl,_⟩
  ·exact .inl hh
  ·exact .inr own.1
 ·have hold : ∀ j,j < (flat els).length -> ∃ v,H b j /\ arr[j]? = some v /\ ∀ d,(flat els)[j]? = some d -> Rep φ ρ H w.heap v d:=by
   intro j hj
   obtain ⟨a,cap',b',off,su,e,_,ha,_,vl,hrl,hcl⟩:=z64 hx
   have hne : els ≠ []:=by rintro rfl; simp [flat] at hj
   simp at e
   have:=ha hne
   rw [<- e.1] at this
   simp at this
   obtain ⟨rfl,rfl⟩:=this
   obtain ⟨d,hd⟩ : ∃ d,(flat els)[j]? = some d:=⟨_,List.getElem?_eq_getElem hj⟩
   obtain ⟨v,hv,hrr⟩:=hrl.get hd
   have:=hcl j v hv
   rw [Nat.zero_add] at this
   refine ⟨v,this.1,?_,fun d' hd'=>by rw [hd] at hd'; simp at hd'; subst hd'; exact hrr⟩
   have h2:=this.2
   simp only [cellOf,hb] at h2
   exact h2
  rw [<- hadd]
  refine .imm (.tok id) (els ++ new) _ cap b 0 sz (fun j=>(setV arr.toList (els.length * sz) vln).getD j Go.undef) (fun x hx'=>?_) (by rw [hadd]; exact hle) (fun h=>by cases h) (fun k' hk'=>?_) (fun _=>rfl) (fun j hj=>?_) (fun j d hd=>?_)
  ·rcases List.mem_append.1 hx' with h | h
   ·exact hxu x h
   ·exact hnu x h
  ·simp at hk'; subst hk'; exact .inl ⟨b,by simp [upd],rfl⟩
  ·rw [z1g,List.length_append,lx,ln] at hj
   have hja : j < arr.size:=by rw [hsz]; omega
   rw [Nat.zero_add]
   constructor
   ·by_cases h1 : j < els.length * sz
    ·obtain ⟨v,h2,_⟩:=hold j (by rw [lx]; exact h1)
     exact .inl h2
    ·exact .inr ⟨rfl,by omega,by rw [Nat.add_mul]; exact hj⟩
   ·have hjl : j < (setV arr.toList (els.length * sz) vln).length:=by rw [z1b]; simpa using hja
    simp only [cellOf,hw.at_,List.getElem?_toArray,List.getD_eq_getElem?_getD,List.getElem?_eq_getElem hjl,Option.getD_some]
  ·rw [z1g] at hd
   by_cases h1 : j < (flat els).length
   ·rw [List.getElem?_append_left h1] at hd
    obtain ⟨v,_,h3,h4⟩:=hold j h1
    rw [List.getD_eq_getElem?_getD,z1c (.inl (by rw [<- lx]; exact h1))]
    simp [h3]
    exact (h4 d hd).mono x3
   ·have h1 : (flat els).length <= j:=by omega
    rw [List.getElem?_append_right h1] at hd
    obtain ⟨v,h3,h4⟩:=hn.get hd
    have hjv : j - (flat els).length < vln.length:=(List.getElem?_eq_some_iff.1 h3).1
    have h5:=z2v (cs:=arr.toList) (off:=els.length * sz) (vs:=vln) (j:=j - (flat els).length) (by simp [hsz,hlv]; omega) hjv
    rw [show els.length * sz + (j - (flat els).length) = j from by rw [<- lx]; omega] at h5
    rw [List.getD_eq_getElem?_getD,h5,h3]
    exact h4.mono x3

theorem z9n (TA : TAll P E τ) {t t2 ty id e e' : Nat} {vx vy : Value} {sp : Spare} {els new : List D} {vln : List Value} {ef : Ef} (S : SR CL φ B ρ H w.heap os) (f : Free ρ os id)
  (hu : P.underlying t = some (.slice e')) (Te : TOk P E τ e' e) (hu2 : NoInt P t2) (hl2 : LenIs P vy new.length)
  (hn : RepL φ ρ H w.heap vln (flat new)) (hnu : ∀ x,x ∈ new -> x.cellsL.length = (E.ty e).size /\ x.storable = true)
  (hrd : ∀ w1 : World,w1.heap = w.heap -> (Go.Builtin.firstCells (E.ty e).size new.length vy).run P w1 = .ok vln.toArray w1)
  (hx : Rep φ ρ H w.heap vx (.imm sp els)) (h : appendB E os id e sp els new = some ef) :
  Went CL φ B ρ H os w ((Go.Builtin.append_ #[t,t2] ty #[vx,vy]).run P w) ef.d (applyEf os id ef):=by
 unfold appendB at h
 split at h
 ·rename_i hc
  obtain ⟨hb1,hb2,hz,hfit⟩:=hc
  have hxu:=zal hfit
  obtain ⟨a,cap,rfl,hcap,hex,htok⟩:=z4g hx
  have lx : (flat els).length = els.length * (E.ty e).size:=zg fun x hx=>(hxu x hx).1
  have ln : (flat new).length = new.length * (E.ty e).size:=zg fun x hx=>(hnu x hx).1
  have hlv : vln.length = new.length * (E.ty e).size:=by rw [hn.1,ln]
  have hn1 : (Go.Builtin.firstCells (E.ty e).size new.length (vy)).run P w = .ok vln.toArray w:=by
   exact hrd w rfl
  have hadd : (els ++ new).length = els.length + new.length:=by simp
  have hunif : ∀ x,x ∈ els ++ new -> x.cellsL.length = (E.ty e).size /\ x.storable = true:=fun x hx'=>by
   rcases List.mem_append.1 hx' with h | h
   ·exact hxu x h
   ·exact hnu x h
  -- a new array
  have grows : ∀ (os0 : List Obj),cap < els.length + new.length -> SR CL φ B ρ H w.heap os0 -> Free ρ os0 id ->
    (∀ ρ' H' hp' os',Post CL φ B ρ H w.heap os0 ρ' H' hp' os' -> Post CL φ B ρ H w.heap os ρ' H' hp' os') ->
    Went CL φ B ρ H os w ((Go.Builtin.append_ #[t,t2] ty #[.slice a els.length cap,vy]).run P w) (.imm (.tok id) (els ++ new)) (addO os0 id (.tok ((els.length + new.length) * (E.ty e).size) (E.ty e).size)):=by
   intro os0 hg S0 f0 back
   obtain ⟨arr,newCap,w1,⟨he,hsl⟩,hle,hsz,hra,hrun⟩:=zfz (ty:=ty) S Te hu hu2 hl2 hx (zai hfit) hn hnu hrd hg hb1 hb2 hz
   obtain ⟨ρ',H',hp,hr⟩:=zfk he S0 f0 (el:=e') hra hsz hunif (by rw [hadd]; exact hle)
   rw [hadd] at hp hr
   exact ⟨_,_,ρ',H',hrun,⟨back _ _ _ _ hp,hsl.os,hsl.tape,hsl.out,hsl.dr⟩,hr⟩
  -- nothing to append
  have same : new = [] -> (Go.Builtin.append_ #[t,t2] ty #[.slice a els.length cap,vy]).run P w = .ok (.slice a (els.length + new.length) cap) w:=by
   intro h0
   subst h0
   have : vln = []:=by simpa using hlv
   subst this
   exact z1d hu hu2 hl2 Te.size hn1 (by simpa using hcap) (by cases a <;> simp [Go.storeCells])
  split at h
  ·-- exactly full
   simp at h; subst h
   have hcl:=hex rfl
   by_cases h0 : new = []
   ·subst h0
    simp only [List.append_nil,List.length_nil,Nat.add_zero,applyEf] at same ⊢
    refine ⟨_,w,upd ρ id .virt,H,same trivial,⟨z8g S f _ _,Still.refl _⟩,?_⟩
    refine z4u rfl (S.dead_rho f hx .virt) (fun h=>by cases h) (fun k hk'=>?_)
    simp at hk'; subst hk'
    exact .inr ⟨by simp [upd],hcl⟩
   ·have hpos : 0 < new.length:=List.length_pos_iff.2 h0
    exact grows os (by omega) S f (fun _ _ _ _ h=>h)
  ·rename_i k
   split at h
   ·rename_i used sz hos
    split at h
    ·rename_i hus
     obtain ⟨rfl,rfl⟩:=hus
     simp at h; subst h
     simp only [applyEf]
     obtain ⟨bk,hrk,hrel⟩:=S.dom k _ hos rfl
     by_cases h0 : new = []
     ·subst h0
      simp only [List.append_nil,List.length_nil,Nat.add_zero] at same ⊢
      rcases htok k rfl with ⟨b,hb,rfl⟩ | ⟨hb,hcl⟩
      ·refine ⟨_,w,upd ρ id (.blk b cap),H,same trivial,⟨zh5 S f hos hb,Still.refl _⟩,?_⟩
       refine z4u rfl (S.dead_rho f hx _) (fun h=>by cases h) (fun k' hk'=>?_)
       simp at hk'; subst hk'
       exact .inl ⟨b,by simp [upd],rfl⟩
      ·refine ⟨_,w,upd ρ id .virt,H,same trivial,⟨?_,Still.refl _⟩,?_⟩
       ·have:=z8g (w:=w) (S.kill k) f.kill (els.length * (E.ty e).size) (E.ty e).size
        exact this.of_kill
       ·refine z4u rfl (S.dead_rho f hx .virt) (fun h=>by cases h) (fun k' hk'=>?_)
        simp at hk'; subst hk'
        exact .inr ⟨by simp [upd],hcl⟩
     ·have hpos : 0 < new.length:=List.length_pos_iff.2 h0
      by_cases hg : cap < els.length + new.length
      ·exact grows (os.set k .dead) hg (S.kill k) f.kill (fun _ _ _ _ h=>h.of_kill)
      ·-- there is room
       rcases htok k rfl with ⟨b,hb,rfl⟩ | ⟨hb,hcl⟩
       ·rw [hrk] at hb; simp at hb; subst hb
        rcases hrel with hrel | ⟨b',cap',e1,arr,el,a1,a2',a3,a4⟩
        ·cases hrel
        simp at e1; obtain ⟨rfl,rfl⟩:=e1
        have hsum : els.length * (E.ty e).size + new.length * (E.ty e).size <= cap * (E.ty e).size:=by rw [<- Nat.add_mul]; exact Nat.mul_le_mul_right _ (by omega)
        obtain ⟨w',s1,s2⟩:=z2b (P:=P) (b:=b) (el:=el) vln (els.length * (E.ty e).size) 0 arr w a1 (by rw [a2',hlv]; simpa using hsum) (z42 hn (z19 fun x hx'=>(hnu x hx').2))
        have hrun:=z1d (ty:=ty) (sLen:=els.length) (n:=new.length) (sCap:=cap) (base:=some ⟨b,0,none⟩) (w':=w') hu hu2 hl2 Te.size hn1 (by omega) (by simp only [z14,Nat.zero_add]; exact s1)
        obtain ⟨ρ',H',hp,hr⟩:=zcs (id:=id) (k:=k) S f hos hrk a1 a2' a4 (by omega) hn hnu hxu hx s2
        exact ⟨_,w',ρ',H',hrun,⟨hp,s2.still⟩,hr⟩
       ·omega
    ·simp at h
   ·simp at h
  ·simp at h
 ·simp at h

theorem zm8 {s : ByteArray} {ρ : Rho} {H : HS} {hp : Heap} : RepL φ ρ H hp (s.data.toList.map fun b=>Value.int .u8 b.toNat) (flat (s.data.toList.map byteD)):=by
 have e : ∀ l : List UInt8,flat (l.map byteD) = l.map byteD:=fun l=>by
  induction l with
  | nil=>rfl
  | cons x r ih=>rw [List.map_cons,z15,ih]; rfl
 rw [e]
 refine ⟨by simp,fun j v d hv hd=>?_⟩
 rw [List.getElem?_map] at hv hd
 cases hb : s.data.toList[j]? with
 | none=>rw [hb] at hv; simp at hv
 | some b=>
  rw [hb] at hv hd
  simp only [Option.map_some,Option.some.injEq] at hv hd
  subst hv hd
  exact .int _ _

theorem zf9 (TA : TAll P E τ) {t c t2 c2 ty id : Nat} {vx vy : Value} {x y : D} {ef : Ef} (T : TOk P E τ t c) (T2 : TOk P E τ t2 c2) (S : SR CL φ B ρ H w.heap os) (f : Free ρ os id)
  (hx : Rep φ ρ H w.heap vx x) (hy : Rep φ ρ H w.heap vy y) (h : appendI E os id c c2 x y = some ef) :
  Went CL φ B ρ H os w ((Go.Builtin.append_ #[t,t2] ty #[vx,vy]).run P w) ef.d (applyEf os id ef):=by
 unfold appendI at h
 split at h
 ·rename_i e e2 sp els hk hk2
  obtain ⟨e',hu,he'⟩:=T.slice hk
  obtain ⟨e2',hu2,_⟩:=T2.slice hk2
  split at h
  ·rename_i new hnew
   obtain ⟨a2,cap2,vln,rfl,hn,hnu,hrd⟩:=z28 (P:=P) S hy hnew
   have ln : (flat new).length = new.length * (E.ty e).size:=zg fun x hx=>(hnu x hx).1
   have hlv : vln.length = new.length * (E.ty e).size:=by rw [hn.1,ln]
   exact z9n TA S f hu (TA _ _ he') (z26 hu2) z29 hn hnu (fun w1 he=>by rw [hrd _ (Nat.le_refl _) w1 he,<- hlv,List.take_length]) hx h
  ·simp at h
 ·rename_i e sp els hk hk2
  obtain ⟨e',hu,he'⟩:=T.slice hk
  have hu2:=T2.und; rw [hk2] at hu2
  split at h
  ·rename_i s
   split at h
   ·rename_i hc
    obtain ⟨s0,rfl,rfl⟩:=hy.strv
    refine z9n TA S f hu (TA _ _ he') (zk9 hu2) (fun w1=>by simp [Go.Builtin.lenOf]) zm8 (fun x hx'=>?_) (fun w1 he=>?_) hx h
    ·obtain ⟨b,_,rfl⟩:=List.mem_map.1 hx'
     exact ⟨hc.1,rfl⟩
    ·simp [Go.Builtin.firstCells]; exact Array.toList_inj.1 (by simp)
   ·simp at h
  ·simp at h
 ·simp at h

end
end Dv

namespace Dv
open Go (Value Program World Act Oper Operand Code)

section
variable {P : Program} {E : Env} {CL : CLink} {φ : Phi} {τ : Phi} {B : Nat} {ρ : Rho} {H : HS} {os : List Obj} {w : World}

theorem SR.free (S : SR CL φ B ρ H w.heap os) : Free ρ os os.length:=
 ⟨by cases h : ρ os.length with
   | none=>rfl
   | some bk=>exact absurd (S.lt _ _ h) (Nat.lt_irrefl _),.inl rfl⟩

theorem z8h (S : SR CL φ B ρ H w.heap os) {id : Nat} (f : Free ρ os id) {arr : Array Value} {el : Nat} {cs : List D} (h : RepL φ ρ H w.heap (arr.toList.take cs.length) cs) (hle : cs.length <= arr.size) (ha : ∀ d,d ∈ cs -> d.atom = true) :
  Post CL φ B ρ H w.heap os (upd ρ id (.blk w.heap.size arr.size)) H (w.heap.push (.cells arr el (0,0))) (addO os id (.cells cs)):=by
 have g:=z4h H w.heap (.cells arr el (0,0))
 have S1:=S.grew g
 have x:=(g.ext ρ S.hb).trans (f.ext (.blk w.heap.size arr.size) H (w.heap.push (.cells arr el (0,0))))
 refine ⟨x,S1.add f ?_ ?_ ?_ ?_,g.size,fun b hb _=>g.old b hb,fun _ _ h=>.inl h,FzAt.push _ (by intro arr el fr h; cases h; rfl),z75 f rfl,rbU (.inr (Nat.le_refl _)),hnS⟩
 ·refine ⟨_,_,rfl,arr,el,z3v _ _,rfl,hle,fun j v d hv hd=>?_,ha⟩
  have hj : j < cs.length:=(List.getElem?_eq_some_iff.1 hd).1
  exact (h.2 j v d (by rw [List.getElem?_take,if_pos hj]; simpa using hv) hd).mono x
 ·intro b c e; simp at e; obtain ⟨rfl,rfl⟩:=e; exact ⟨S.hB,by simp⟩
 ·intro b c e i o' c' h1 l1 r1; simp at e; obtain ⟨rfl,rfl⟩:=e
  exact absurd (S.own i o' _ c' h1 l1 r1).2 (Nat.lt_irrefl _)
 ·intro cs' b c _ e j hh; simp at e; obtain ⟨rfl,rfl⟩:=e
  exact absurd (S.hb _ _ hh) (Nat.lt_irrefl _)

theorem SR.write (S : SR CL φ B ρ H w.heap os) {w' : World} {k b c el : Nat} {cs cs' : List D} {arr' : Array Value} (hk : os[k]? = some (.cells cs)) (hr : ρ k = some (.blk b c)) (hw : Wrote w w' b arr' el) (hsz : arr'.size = c)
  (hle : cs'.length <= arr'.size) (hrep : ∀ (j : Nat) (v : Value) (d : D),arr'[j]? = some v -> cs'[j]? = some d -> Rep φ ρ H w.heap v d) (hat : ∀ d,d ∈ cs' -> d.atom = true) :
  Post CL φ B ρ H w.heap os ρ H w'.heap (os.set k (.cells cs')):=by
 have own:=S.own k _ b c hk rfl hr
 have hlt:=(List.getElem?_eq_some_iff.1 hk).1
 have x : Ext ρ ρ H H w.heap w'.heap:=⟨fun _ _ h=>h,fun _ _ h=>h,fun b' o hh=>by
  unfold cellOf
  rw [hw.other b' (fun e=>S.mutH k cs b c o hk hr (e ▸ hh))]⟩
 have get : ∀ (i : Nat) o,(os.set k (.cells cs'))[i]? = some o -> (i = k /\ o = .cells cs') \/ (i ≠ k /\ os[i]? = some o):=by
  intro i o h
  rw [List.getElem?_set] at h
  split at h
  ·rename_i e; subst e; simp [hlt] at h; exact .inl ⟨rfl,h.symm⟩
  ·rename_i e; exact .inr ⟨fun e'=>e e'.symm,h⟩
 have hne : ∀ (i : Nat) o c',i ≠ k -> os[i]? = some o -> o.live = true -> ρ i ≠ some (.blk b c'):=fun i o c' hi h l r=>
  hi (S.inj i k o _ b c' c h l hk rfl r hr)
 refine ⟨x,?_,by rw [hw.size]; exact Nat.le_refl _,fun b' _ hn=>hw.other b' (fun e=>?_),fun _ _ h=>.inl h,FzAt.at hw.at_ (by intro arr el fr h; cases h; rfl) hw.other,fun _ _ h=>.inl h,rbS,hnS⟩
 ·exact {
   dom:=fun i o h l=>by
    rcases get i o h with ⟨rfl,rfl⟩ | ⟨hi,h⟩
    ·exact ⟨_,hr,_,_,rfl,arr',el,hw.at_,hsz,hle,fun j v d hv hd=>(hrep j v d hv hd).mono x,hat⟩
    ·obtain ⟨bk,r,h2⟩:=S.dom i o h l
     exact ⟨bk,r,h2.mono x (fun b' c' e=>hw.other b' (fun e'=>hne i o c' hi h l (by rw [r,e,e']))) (fun _ _ _ _ _ _ _ _ hh=>hh)⟩
   lt:=fun i bk h=>by simpa using S.lt i bk h
   inj:=fun i i' o o' b1 c1 c2 h l h' l' r r'=>by
    rcases get i o h with ⟨e,e1⟩ | ⟨hi,g⟩ <;> rcases get i' o' h' with ⟨e',e2⟩ | ⟨hi',g'⟩
    ·rw [e,e']
    ·rw [e] at r ⊢; exact S.inj k i' _ o' b1 c1 c2 hk rfl g' l' r r'
    ·rw [e'] at r' ⊢; exact S.inj i k o _ b1 c1 c2 g l hk rfl r r'
    ·exact S.inj i i' o o' b1 c1 c2 g l g' l' r r'
   own:=fun i o b1 c1 h l r=>by
    rw [hw.size]
    rcases get i o h with ⟨rfl,rfl⟩ | ⟨hi,h⟩
    ·exact S.own i _ b1 c1 hk rfl r
    ·exact S.own i o b1 c1 h l r
   mutH:=fun i cs1 b1 c1 o h r=>by
    rcases get i _ h with ⟨rfl,h⟩ | ⟨hi,h⟩
    ·exact S.mutH i cs b1 c1 o hk r
    ·exact S.mutH i cs1 b1 c1 o h r
   hb:=S.hb.ext x fun b1 o h=>by rw [hw.size]; exact S.hb b1 o h
   hB:=by rw [hw.size]; exact S.hB }
 ·subst e; exact hn k _ c hk rfl hr

theorem z4y {cs : List D} : ∀ {off : Nat} {vs : List D},(∀ d,d ∈ cs -> d.atom = true) -> (∀ d,d ∈ vs -> d.atom = true) -> ∀ d,d ∈ setCells cs off vs -> d.atom = true
 | off,[],h,_=>h
 | off,v :: vs,h,h'=>by
  simp only [setCells]
  exact z4y (fun d hd=>by
   rcases List.mem_or_eq_of_mem_set hd with hd | rfl
   ·exact h d hd
   ·exact h' d (by simp)) (fun d hd=>h' d (by simp [hd]))

theorem z54 (S : SR CL φ B ρ H w.heap os) {k b c off : Nat} {cs ds : List D} {vs : List Value} (hk : os[k]? = some (.cells cs)) (hr : ρ k = some (.blk b c)) (hv : RepL φ ρ H w.heap vs ds) (hat : ∀ d,d ∈ ds -> d.atom = true) (hle : off + ds.length <= cs.length) :
  ∃ w',(Go.storeCells ⟨b,off,none⟩ vs).run P w = .ok () w' /\ (Post CL φ B ρ H w.heap os ρ H w'.heap (os.set k (.cells (setCells cs off ds))) /\ Still w w'):=by
 obtain ⟨arr,el,r1,r2,r3,r4,r5⟩:=S.row hr (by simp [rowOf,hk] : rowOf os k = some cs)
 have hlv : vs.length = ds.length:=hv.1
 obtain ⟨w',s1,s2⟩:=z2b (P:=P) (b:=b) (el:=el) vs off 0 arr w r1 (by omega) (z42 hv hat)
 refine ⟨w',s1,S.write hk hr s2 (by simp [z1b,r2]) (by simp [z1b,z2w]; omega) (fun j v d h1 h2=>?_) (z4y r5 hat),s2.still⟩
 have h0 : RepL φ ρ H w.heap (arr.toList.take cs.length) cs:=⟨by simp; omega,fun j v d hv hd=>by
  rw [List.getElem?_take] at hv
  split at hv
  ·exact r4 j v d (by simpa using hv) hd
  ·simp at hv⟩
 have h3:=h0.setCells off hv
 have hj : j < cs.length:=by have:=(List.getElem?_eq_some_iff.1 h2).1; rwa [z2w] at this
 refine h3.2 j v d ?_ h2
 -- the written prefix is the prefix of the written
 have h4 : (setV (arr.toList.take cs.length) off vs)[j]? = (setV arr.toList off vs)[j]?:=by
  by_cases ho : off <= j /\ j < off + vs.length
  ·have e1:=z2v (cs:=arr.toList.take cs.length) (off:=off) (vs:=vs) (j:=j - off) (by simp; omega) (by omega)
   have e2:=z2v (cs:=arr.toList) (off:=off) (vs:=vs) (j:=j - off) (by simp; omega) (by omega)
   rw [show off + (j - off) = j from by omega] at e1 e2
   rw [e1,e2]
  ·rw [z1c (by omega),z1c (by omega),List.getElem?_take,if_pos hj]
 rw [h4]
 simpa using h1

theorem zjj {t c : Nat} {va vx : Value} {a x : D} {os' : List Obj} (T : TOk P E τ t c) (S : SR CL φ B ρ H w.heap os) (ha : Rep φ ρ H w.heap va a) (hx : Rep φ ρ H w.heap vx x) (h : storeD E os c a x = some os') :
  ∃ w',(Go.Instr.storeAt t va vx).run P w = .ok () w' /\ (Post CL φ B ρ H w.heap os ρ H w'.heap os' /\ Still w w'):=by
 unfold storeD at h
 split at h
 ·rename_i id off
  split at h
  ·rename_i cs hos
   split at h
   ·rename_i hc
    simp at h; subst h
    cases ha with
    | loc b cc _ _ hid=>
     have hcl:=hx.cells hc.1
     obtain ⟨w',h1,h2⟩:=z54 (P:=P) (off:=off) S hos hid hcl (z2a hc.1) (by rw [hc.2.1]; exact hc.2.2)
     refine ⟨w',?_,h2⟩
     unfold Go.Instr.storeAt Go.storeVar
     have hs : vx.cells.size = (E.ty c).size:=by have:=hcl.1; rw [hc.2.1] at this; simpa using this
     simp only [Go.Instr.sureAddr,Go.Sem.run_bind,Go.Sem.run_pure,Go.Result.andThen_ok,T.size,hs]
     simpa using h1
   ·simp at h
  ·simp at h
 ·simp at h

theorem z9m (TA : TAll P E τ) {t c t2 c2 ty id : Nat} {vx vy : Value} {x y : D} {ef : Ef} (T : TOk P E τ t c) (T2 : TOk P E τ t2 c2) (S : SR CL φ B ρ H w.heap os) (f : Free ρ os id)
  (hx : Rep φ ρ H w.heap vx x) (hy : Rep φ ρ H w.heap vy y) (h : appendM E os id c c2 x y = some ef) :
  Went CL φ B ρ H os w ((Go.Builtin.append_ #[t,t2] ty #[vx,vy]).run P w) ef.d (applyEf os id ef):=by
 unfold appendM at h
 split at h
 ·rename_i e e2 els hk hk2
  obtain ⟨e',hu,he'⟩:=T.slice hk
  obtain ⟨e2',hu2,_⟩:=T2.slice hk2
  have Te:=TA _ _ he'
  split at h
  ·rename_i new hnew
   obtain ⟨a,cap,rfl,hcap,hex,_⟩:=z4g hx
   obtain ⟨a2,cap2,vln,rfl,hn,hnu,hrd⟩:=z28 (P:=P) S hy hnew
   have ln : (flat new).length = new.length * (E.ty e).size:=zg fun x hx=>(hnu x hx).1
   have hlv : vln.length = new.length * (E.ty e).size:=by rw [hn.1,ln]
   have hrd' : ∀ w1 : World,w1.heap = w.heap -> (Go.Builtin.firstCells (E.ty e).size new.length (.slice a2 new.length cap2)).run P w1 = .ok vln.toArray w1:=fun w1 he=>by
    rw [hrd _ (Nat.le_refl _) w1 he,<- hlv,List.take_length]
   have hn1:=hrd' w rfl
   split at h
   ·rename_i h0
    simp at h; subst h
    have h0' : new = []:=List.length_eq_zero_iff.1 h0
    subst h0'
    have hv0 : vln = []:=by simpa using hlv
    subst hv0
    have:=z1d (ty:=ty) (sLen:=els.length) (n:=0) (sCap:=cap) (base:=a) (w':=w) hu (z26 hu2) z29 Te.size hn1 (by omega) (by cases a <;> simp [Go.storeCells])
    exact ⟨_,w,ρ,H,this,⟨Post.refl S,Still.refl _⟩,hx⟩
   ·rename_i h0
    split at h
    ·rename_i hc
     obtain ⟨hb1,hb2,hz,hfit⟩:=hc
     simp at h; subst h
     simp only [applyEf]
     have hcl:=hex rfl
     obtain ⟨arr,newCap,w1,⟨he,hsl⟩,hle,hsz,hra,hrun⟩:=zfz (ty:=ty) S Te hu (z26 hu2) z29 hx (zai hfit) hn hnu hrd' (by omega) hb1 hb2 hz
     have hxu:=zal hfit
     have lx : (flat els).length = els.length * (E.ty e).size:=zg fun x hx=>(hxu x hx).1
     have hfl : (flat els ++ flat new).length = (els.length + new.length) * (E.ty e).size:=by rw [List.length_append,lx,ln,Nat.add_mul]
     rw [z1g] at hra
     have hp:=z8h S f (el:=e') hra (by rw [hfl,hsz]; exact Nat.mul_le_mul_right _ hle) (fun d hd=>by
      rcases List.mem_append.1 hd with hd | hd
      ·exact z19 (fun x hx=>(hxu x hx).2) d hd
      ·exact z19 (fun x hx=>(hnu x hx).2) d hd)
     rw [<- he] at hp
     refine ⟨_,_,_,_,hrun,⟨by rw [he] at hp ⊢; exact hp,hsl.os,hsl.tape,hsl.out,hsl.dr⟩,.sl _ _ _ _ _ _ w.heap.size arr.size newCap _ (by simp [upd]) hle (fun _=>rfl) (fun _=>⟨rfl,rfl,hsz⟩)⟩
    ·simp at h
  ·simp at h
 ·simp at h

end
end Dv

namespace Dv
open Go (Value Program World Act Oper Operand Code)

section
variable {P : Program} {E : Env} {CL : CLink} {φ : Phi} {τ : Phi} {B : Nat} {ρ : Rho} {H : HS} {os : List Obj} {w : World}

theorem SR.wrote_free (S : SR CL φ B ρ H w.heap os) {w' : World} {b el : Nat} {arr' : Array Value} (hw : Wrote w w' b arr' el) (hno : ∀ (i : Nat) o c,os[i]? = some o -> o.live = true -> ρ i ≠ some (.blk b c)) (hH : ∀ o,¬ H b o) :
  SR CL φ B ρ H w'.heap os /\ Ext ρ ρ H H w.heap w'.heap:=by
 have x : Ext ρ ρ H H w.heap w'.heap:=⟨fun _ _ h=>h,fun _ _ h=>h,fun b' o hh=>by
  unfold cellOf
  rw [hw.other b' (fun e=>hH o (e ▸ hh))]⟩
 exact ⟨{
  dom:=fun i o h l=>by
   obtain ⟨bk,r,h2⟩:=S.dom i o h l
   exact ⟨bk,r,h2.mono x (fun b' c' e=>hw.other b' (fun e'=>hno i o c' h l (by rw [r,e,e']))) (fun _ _ _ _ _ _ _ _ hh=>hh)⟩
  lt:=S.lt
  inj:=S.inj
  own:=fun i o b1 c1 h l r=>by rw [hw.size]; exact S.own i o b1 c1 h l r
  mutH:=S.mutH
  hb:=S.hb.ext x fun b1 o h=>by rw [hw.size]; exact S.hb b1 o h
  hB:=by rw [hw.size]; exact S.hB },x⟩

theorem znw {t t2 ty e' e2' e n m : Nat} {base a2 : Option Go.Addr} {sCap cap2 : Nat} {xs ys : List D} {vlo vln : List Value} (Te : TOk P E τ e' e)
  (hu : P.underlying t = some (.slice e')) (hu2 : P.underlying t2 = some (.slice e2')) (o2 : RepL φ ρ H w.heap vlo xs) (n2 : RepL φ ρ H w.heap vln ys)
  (ho' : ∀ w1 : World,w1.heap = w.heap -> (Go.Builtin.firstCells (E.ty e).size n (.slice base n sCap)).run P w1 = .ok vlo.toArray w1)
  (hn' : ∀ w1 : World,w1.heap = w.heap -> (Go.Builtin.firstCells (E.ty e).size m (.slice a2 m cap2)).run P w1 = .ok vln.toArray w1)
  (lo : vlo.length = n * (E.ty e).size) (ln : vln.length = m * (E.ty e).size) (hgrow : sCap < n + m)
  (hb1 : (n + m) * ((E.ty e).bytes + 1) <= 211106232532992) (hb2 : (E.ty e).bytes <= 65536) (hz : (zeroE E e).isSome = true) :
  ∃ (arr : Array Value) (newCap : Nat) (w1 : World),(w1.heap = w.heap /\ Still w w1) /\ n + m <= newCap /\ arr.size = newCap * (E.ty e).size /\ RepL φ ρ H w.heap (arr.toList.take (xs ++ ys).length) (xs ++ ys) /\
   (Go.Builtin.append_ #[t,t2] ty #[.slice base n sCap,.slice a2 m cap2]).run P w = .ok (.slice (some ⟨w.heap.size,0,none⟩) (n + m) newCap) { w1 with heap:=w1.heap.push (.cells arr e') }:=by
 obtain ⟨z,hzz⟩:=Option.isSome_iff_exists.1 hz
 obtain ⟨inf,hi,hsz,hby,_⟩:=Te.info
 obtain ⟨zv,e1,e2,_,e4,_⟩:=z2f (w:=w) (φ:=φ) (ρ:=ρ) (H:=H) Te hzz
 have hz' : ∀ w1 : World,(Go.zeroValue e').run P w1 = .ok zv w1:=by
  intro w1
  have h1 : (Go.zeroValue e').run P w = .ok zv w:=e1
  unfold Go.zeroValue at h1 ⊢
  simp only [Go.Sem.run_bind,z12 hi,Go.Result.andThen_ok] at h1 ⊢
  cases hzero : inf.zero with
  | none=>simp [hzero] at h1
  | some q=>simp [hzero] at h1 ⊢; exact h1
 obtain ⟨newCap,w1,he,hle,hrun⟩:=z47 (ty:=ty) (base:=base) (sCap:=sCap) hu (z26 hu2) z29 Te.size hi hby hz' hgrow hb1 hb2 ho' hn'
 have hzs : zv.cells.size = (E.ty e).size:=by have:=e2.1; rw [e4] at this; simpa using this
 have hfl : (xs ++ ys).length = (n + m) * (E.ty e).size:=by rw [List.length_append,<- o2.1,<- n2.1,lo,ln,Nat.add_mul]
 refine ⟨vlo.toArray ++ vln.toArray ++ Go.Builtin.zeroCells zv.cells (newCap - (n + m)),newCap,w1,he,hle,?_,?_,hrun⟩
 ·simp only [Array.size_append,List.size_toArray,Go.Builtin.zeroCells,Array.size_map,Array.size_range,lo,ln,hzs]
  rw [<- Nat.add_mul,<- Nat.add_mul]
  congr 1
  omega
 ·have : (vlo.toArray ++ vln.toArray ++ Go.Builtin.zeroCells zv.cells (newCap - (n + m))).toList.take (xs ++ ys).length = vlo ++ vln:=by
   simp only [Array.toList_append,List.append_assoc]
   rw [<- List.append_assoc,List.take_append_of_le_length (by rw [hfl]; simp [lo,ln,Nat.add_mul]),List.take_of_length_le (by rw [hfl]; simp [lo,ln,Nat.add_mul])]
  rw [this]
  exact o2.append n2

theorem zgk (o : Obj) : addO os os.length o = os ++ [o]:=by simp [addO]

theorem zfa (TA : TAll P E τ) {t c t2 c2 ty : Nat} {vx vy : Value} {x y d : D} {os' : List Obj} (T : TOk P E τ t c) (T2 : TOk P E τ t2 c2) (S : SR CL φ B ρ H w.heap os)
  (hx : Rep φ ρ H w.heap vx x) (hy : Rep φ ρ H w.heap vy y) (h : appendG E os c c2 x y = some (d,os')) :
  Went CL φ B ρ H os w ((Go.Builtin.append_ #[t,t2] ty #[vx,vy]).run P w) d os':=by
 unfold appendG at h
 split at h
 ·rename_i e e2 k len sz ag hk hk2
  obtain ⟨e',hu,he'⟩:=T.slice hk
  obtain ⟨e2',hu2,_⟩:=T2.slice hk2
  have Te:=TA _ _ he'
  split at h
  ·rename_i new hnew
   obtain ⟨a2,cap2,vln,rfl,hn,hnu,hrd⟩:=z28 (P:=P) S hy hnew
   have ln : (flat new).length = new.length * (E.ty e).size:=zg fun x hx=>(hnu x hx).1
   have hlv : vln.length = new.length * (E.ty e).size:=by rw [hn.1,ln]
   have hn' : ∀ w1 : World,w1.heap = w.heap -> (Go.Builtin.firstCells (E.ty e).size new.length (.slice a2 new.length cap2)).run P w1 = .ok vln.toArray w1:=fun w1 he=>by
    rw [hrd _ (Nat.le_refl _) w1 he,<- hlv,List.take_length]
   split at h
   ·rename_i cs hos
    have hx0:=hx
    cases hx with
    | sl _ _ _ _ _ _ b cc cap a hid hl ha hc=>
     obtain ⟨_,rfl,hcap⟩:=hc rfl
     split at h
     ·rename_i h0
      simp at h; obtain ⟨rfl,rfl⟩:=h
      have h0' : new = []:=List.length_eq_zero_iff.1 h0
      subst h0'
      have hv0 : vln = []:=by simpa using hlv
      subst hv0
      have:=z1d (ty:=ty) (sLen:=len) (n:=0) (sCap:=cap) (base:=some ⟨b,0,none⟩) (w':=w) hu (z26 hu2) z29 Te.size (hn' w rfl) (by omega) (by simp [Go.storeCells])
      exact ⟨_,w,ρ,H,this,⟨Post.refl S,Still.refl _⟩,hx0⟩
     ·rename_i h0
      have core : ∀ cs0 : List D,(len + new.length) * ((E.ty e).bytes + 1) <= 211106232532992 -> (E.ty e).bytes <= 65536 -> (zeroE E e).isSome = true -> sz = (E.ty e).size -> cs0.length = len * sz -> cs0.length <= cs.length -> (∀ j,j < cs0.length -> cs0[j]? = cs[j]?) ->
        Went CL φ B ρ H os w ((Go.Builtin.append_ #[t,t2] ty #[.slice (some ⟨b,0,none⟩) len cap,.slice a2 new.length cap2]).run P w) (.sl os.length 0 (len + new.length) (E.ty e).size (E.ty e).ag true) (os.set k .dead ++ [.cells (cs0 ++ flat new)]):=by
       intro cs0 hb1 hb2 hz hsz hcs hle0 hat0
       subst hsz
       obtain ⟨arr,el,r1,r2,r3',r4',r5'⟩:=S.row hid (by simp [rowOf,hos] : rowOf os k = some cs)
       have r3 : cs0.length <= arr.size:=Nat.le_trans hle0 r3'
       have r4 : ∀ (j : Nat) (v : Value) (d : D),arr[j]? = some v -> cs0[j]? = some d -> Rep φ ρ H w.heap v d:=fun j v d hv hd=>r4' j v d hv (by rw [<- hat0 j (List.getElem?_eq_some_iff.1 hd).1]; exact hd)
       have r5 : ∀ d,d ∈ cs0 -> d.atom = true:=fun d hd=>by
        obtain ⟨j,hj⟩:=List.mem_iff_getElem?.1 hd
        rw [hat0 j (List.getElem?_eq_some_iff.1 hj).1] at hj
        exact r5' d (List.mem_of_getElem? hj)
       have f:=S.free
       have hS0:=S.kill k
       have f0 : Free ρ (os.set k .dead) os.length:=f.kill
       have hno : ∀ (i : Nat) o c',(os.set k .dead)[i]? = some o -> o.live = true -> ρ i ≠ some (.blk b c'):=by
        intro i o c' h1 l1 r
        rw [List.getElem?_set] at h1
        split at h1
        ·split at h1
         ·simp at h1; subst h1; simp [Obj.live] at l1
         ·simp at h1
        ·rename_i hne
         exact hne (S.inj k i _ o b cc c' hos rfl h1 l1 hid r)
       have hHb : ∀ o,¬ H b o:=fun o=>S.mutH k cs b cc o hos hid
       have hrow0 : RepL φ ρ H w.heap (arr.toList.take cs0.length) cs0:=⟨by simp; omega,fun j v d hv hd=>by
        rw [List.getElem?_take] at hv
        split at hv
        ·exact r4 j v d (by simpa using hv) hd
        ·simp at hv⟩
       have hat : ∀ d,d ∈ cs0 ++ flat new -> d.atom = true:=fun d hd=>by
        rcases List.mem_append.1 hd with hd | hd
        ·exact r5 d hd
        ·exact z19 (fun x hx=>(hnu x hx).2) d hd
       have hlen2 : (cs0 ++ flat new).length = (len + new.length) * (E.ty e).size:=by rw [List.length_append,hcs,ln,Nat.add_mul]
       by_cases hg : cap < len + new.length
       ·-- a new array
        have ho' : ∀ w1 : World,w1.heap = w.heap -> (Go.Builtin.firstCells (E.ty e).size len (.slice (some ⟨b,0,none⟩) len cap)).run P w1 = .ok (arr.toList.take cs0.length).toArray w1:=by
         intro w1 he
         simp only [Go.Builtin.firstCells]
         refine z2o (by rw [List.length_take,<- hcs]; simp; omega) (fun j v hv=>?_)
         rw [List.getElem?_take] at hv
         split at hv
         ·rw [he]; simp [cellOf,r1]; simpa using hv
         ·simp at hv
        obtain ⟨arr2,newCap,w1,⟨he,hsl⟩,hle,hsz,hra,hrun⟩:=znw (ty:=ty) (a2:=a2) (cap2:=cap2) Te hu hu2 hrow0 hn ho' hn' (by rw [hrow0.1,hcs]) hlv hg hb1 hb2 hz
        have hp:=z8h hS0 f0 (el:=e') hra (by rw [hlen2,hsz]; exact Nat.mul_le_mul_right _ hle) hat
        have hp2:=hp.of_kill
        rw [show addO (os.set k .dead) os.length (.cells (cs0 ++ flat new)) = os.set k .dead ++ [.cells (cs0 ++ flat new)] from by simp [addO]] at hp2
        exact ⟨_,_,_,_,hrun,⟨by rw [he]; exact hp2,hsl.os,hsl.tape,hsl.out,hsl.dr⟩,.sl _ _ _ _ _ _ w.heap.size arr2.size newCap _ (by simp [upd]) hle (fun _=>rfl) (fun _=>⟨rfl,rfl,hsz⟩)⟩
       ·-- in the room behind it
        have hroom : len * (E.ty e).size + vln.length <= arr.size:=by
         rw [r2,hcap,hlv,<- Nat.add_mul]; exact Nat.mul_le_mul_right _ (by omega)
        obtain ⟨w',s1,s2⟩:=z2b (P:=P) (b:=b) (el:=el) vln (len * (E.ty e).size) 0 arr w r1 hroom (z42 hn (z19 fun x hx'=>(hnu x hx').2))
        have hrun:=z1d (ty:=ty) (sLen:=len) (n:=new.length) (sCap:=cap) (base:=some ⟨b,0,none⟩) (w':=w') hu (z26 hu2) z29 Te.size (hn' w rfl) (by omega) (by simp only [z14,Nat.zero_add]; exact s1)
        obtain ⟨S1,x1⟩:=hS0.wrote_free s2 hno hHb
        have own:=S.own k _ b cc hos rfl hid
        have f1 : Free ρ (os.set k .dead) os.length:=f0
        have x2:=f1.ext (.blk b cc) H w'.heap
        have S2:=S1.add f1 (o:=.cells (cs0 ++ flat new)) (bk:=.blk b cc) ⟨b,cc,rfl,_,el,s2.at_,by simp [z1b,r2],by simp only [List.size_toArray,z1b,Array.length_toList]; rw [hlen2,r2,hcap]; exact Nat.mul_le_mul_right _ (by omega),fun j v d hv hd=>?_,hat⟩
         (fun b' c' e=>by simp at e; obtain ⟨rfl,rfl⟩:=e; rw [s2.size]; exact own) (fun b' c' e i o' c2 h1 l1 r=>by simp at e; obtain ⟨rfl,rfl⟩:=e; exact hno i o' c2 h1 l1 r)
         (fun cs2 b' c' _ e j=>by simp at e; obtain ⟨rfl,rfl⟩:=e; exact hHb j)
        ·rw [show addO (os.set k .dead) os.length (.cells (cs0 ++ flat new)) = os.set k .dead ++ [.cells (cs0 ++ flat new)] from by simp [addO]] at S2
         refine ⟨_,w',upd ρ os.length (.blk b cc),H,hrun,⟨⟨x1.trans x2,S2,by rw [s2.size]; exact Nat.le_refl _,fun b' hb' hn2=>s2.other b' (fun e=>?_),fun _ _ h=>.inl h,FzAt.at s2.at_ (by intro arr el fr h; cases h; rfl) s2.other,fun i bk h=>by have:=z75 f1 (o:=.cells (cs0 ++ flat new)) rfl i bk h; rwa [show addO (os.set k .dead) os.length (.cells (cs0 ++ flat new)) = os.set k .dead ++ [.cells (cs0 ++ flat new)] from by simp [addO]] at this,rbU (.inl ⟨k,cc,hid⟩),hnS⟩,s2.still⟩,.sl _ _ _ _ _ _ b cc cap _ (by simp [upd]) (by omega) (fun _=>rfl) (fun _=>⟨rfl,rfl,hcap⟩)⟩
         subst e; exact hn2 k _ cc hos rfl hid
        ·-- what the row holds
         have hj:=(List.getElem?_eq_some_iff.1 hd).1
         refine Rep.mono (x1.trans x2) ?_
         by_cases hjc : j < cs0.length
         ·rw [List.getElem?_append_left hjc] at hd
          simp only [List.getElem?_toArray] at hv
          rw [z1c (.inl (by rw [<- hcs]; exact hjc))] at hv
          exact r4 j v d (by simpa using hv) hd
         ·have hjc : cs0.length <= j:=by omega
          rw [List.getElem?_append_right hjc] at hd
          simp only [List.getElem?_toArray,Nat.add_zero] at hv
          have hjv : j - cs0.length < vln.length:=by rw [hn.1]; exact (List.getElem?_eq_some_iff.1 hd).1
          have h5:=z2v (cs:=arr.toList) (off:=len * (E.ty e).size) (vs:=vln) (j:=j - cs0.length) (by simpa using hroom) hjv
          rw [<- hcs,show cs0.length + (j - cs0.length) = j from by omega,hcs] at h5
          rw [h5] at hv
          exact hn.2 _ v d hv (by rw [<- hcs]; exact hd)
      split at h
      ·rename_i hcond
       obtain ⟨hb1,hb2,hz,hsz,hcs⟩:=hcond
       simp at h; obtain ⟨rfl,rfl⟩:=h
       exact core cs hb1 hb2 hz hsz hcs (Nat.le_refl _) (fun _ _=>rfl)
      ·split at h
       ·rename_i hcond
        obtain ⟨hb1,hb2,hz,hsz,hcs⟩:=hcond
        simp at h; obtain ⟨rfl,rfl⟩:=h
        exact core (cs.take (len * sz)) hb1 hb2 hz hsz (by rw [List.length_take]; omega) (by rw [List.length_take]; omega) (fun j hj=>by rw [List.getElem?_take,if_pos (by rw [List.length_take] at hj; omega)])
       ·simp at h
   ·simp at h
  ·simp at h
 ·rename_i e e2 els hk hk2
  -- as the making form
  have hM : ∀ ef,appendM E os os.length c c2 (.imm .exact els) y = some ef -> Went CL φ B ρ H os w ((Go.Builtin.append_ #[t,t2] ty #[vx,vy]).run P w) ef.d (applyEf os os.length ef):=
   fun ef hef=>z9m TA T T2 S S.free hx hy hef
  unfold appendM at hM
  simp only [hk,hk2] at hM
  split at h
  ·rename_i new hnew
   simp only [hnew] at hM
   split at h
   ·rename_i h0
    simp at h; obtain ⟨rfl,rfl⟩:=h
    have:=hM ⟨.imm .exact els,none,none⟩ (by rw [if_pos h0])
    simpa [applyEf] using this
   ·rename_i h0
    rw [if_neg h0] at hM
    split at h
    ·rename_i hc
     rw [if_pos hc] at hM
     simp at h; obtain ⟨rfl,rfl⟩:=h
     have:=hM _ rfl
     simpa [applyEf,zgk] using this
    ·simp at h
  ·simp at h
 ·simp at h

end
end Dv

namespace Dv
open Go (Value Program World Act Oper Operand Code)

section
variable {P : Program} {E : Env} {CL : CLink} {φ : Phi} {τ : Phi} {B : Nat} {ρ : Rho} {H : HS} {os : List Obj} {w : World}

theorem zos (TA : TAll P E τ) {t c t2 c2 ty : Nat} {vx vy : Value} {x y d : D} {os' : List Obj} (T : TOk P E τ t c) (S : SR CL φ B ρ H w.heap os)
  (hx : Rep φ ρ H w.heap vx x) (hy : Rep φ ρ H w.heap vy y) (h : copyD E os c c2 x y = some (d,os')) :
  Went CL φ B ρ H os w ((Go.Builtin.copy_ #[t,t2] ty #[vx,vy]).run P w) d os':=by
 unfold copyD at h
 split at h
 ·rename_i e e2 id off len sz ag gr hk hk2
  obtain ⟨e',hu,he'⟩:=T.slice hk
  have Te:=TA _ _ he'
  split at h
  ·rename_i cs new hos hnew
   split at h
   ·rename_i hc
    obtain ⟨rfl,hle⟩:=hc
    simp at h; obtain ⟨rfl,rfl⟩:=h
    obtain ⟨a2,cap2,vln,rfl,hn,hnu,hrd⟩:=z28 (P:=P) S hy hnew
    cases hx with
    | sl _ _ _ _ _ _ b cc cap a hid hl ha hc=>
     have hm : Nat.min new.length len <= new.length:=Nat.min_le_left _ _
     have hm2 : Nat.min new.length len <= len:=Nat.min_le_right _ _
     have hmu : ∀ x,x ∈ new.take (Nat.min new.length len) -> x.cellsL.length = (E.ty e).size /\ x.storable = true:=fun x hx=>hnu x (List.mem_of_mem_take hx)
     have hfl : (flat (new.take (Nat.min new.length len))).length = Nat.min new.length len * (E.ty e).size:=by
      rw [zg fun x hx=>(hmu x hx).1,List.length_take,Nat.min_eq_left hm]
     have hr : RepL φ ρ H w.heap (vln.take (Nat.min new.length len * (E.ty e).size)) (flat (new.take (Nat.min new.length len))):=by
      have h1:=hn.take (Nat.min new.length len * (E.ty e).size)
      have h2 : (flat new).take (Nat.min new.length len * (E.ty e).size) = flat (new.take (Nat.min new.length len)):=by
       have : flat new = flat (new.take (Nat.min new.length len)) ++ flat (new.drop (Nat.min new.length len)):=by rw [<- z1g,List.take_append_drop]
       rw [this,List.take_append_of_le_length (by rw [hfl]; exact Nat.le_refl _),List.take_of_length_le (by rw [hfl]; exact Nat.le_refl _)]
      rwa [h2] at h1
     have hrun0:=hrd _ hm w rfl
     have hle2 : off + (flat (new.take (Nat.min new.length len))).length <= cs.length:=by
      rw [hfl]
      have:=Nat.mul_le_mul_right (E.ty e).size hm2
      omega
     by_cases h0 : len = 0
     ·-- nothing is copied
      subst h0
      have hz : Nat.min new.length 0 = 0:=Nat.min_zero _
      have hset : os.set id (.cells (setCells cs off (flat (new.take (Nat.min new.length 0))))) = os:=by
       rw [hz]; simp [flat,setCells]
       apply List.ext_getElem?
       intro i
       rw [List.getElem?_set]
       split
       ·rename_i e1; subst e1; have:=(List.getElem?_eq_some_iff.1 hos).1; simp [this]; exact ((List.getElem?_eq_some_iff.1 hos).2).symm
       ·rfl
      refine ⟨.int .i64 ((Nat.min new.length 0 : Nat) : Int),w,ρ,H,?_,⟨by rw [hset]; exact Post.refl S,Still.refl _⟩,.int _ _⟩
      unfold Go.Builtin.copy_
      simp only [List.getElem?_toArray,List.getElem?_cons_zero,List.getElem?_cons_succ]
      rw [hz] at hrun0 ⊢
      simp only [Go.Sem.run_bind,run_underlying hu,Go.Result.andThen_ok,Go.Builtin.lenOf,Go.Sem.run_pure,Te.size]
      simp only [show Nat.min new.length 0 = 0 from Nat.min_zero _]
      rw [hrun0]
      cases a <;> simp [Go.storeCells,Go.goInt]
     ·obtain ⟨w',s1,s2⟩:=z54 (P:=P) S hos hid hr (z19 fun x hx=>(hmu x hx).2) hle2
      refine ⟨.int .i64 ((Nat.min new.length len : Nat) : Int),w',ρ,H,?_,s2,.int _ _⟩
      unfold Go.Builtin.copy_
      rw [ha h0]
      simp only [List.getElem?_toArray,List.getElem?_cons_zero,List.getElem?_cons_succ]
      simp only [Go.Sem.run_bind,run_underlying hu,Go.Result.andThen_ok,Go.Builtin.lenOf,Go.Sem.run_pure,Te.size,hrun0,s1]
      simp [Go.goInt]
   ·simp at h
  ·simp at h
 ·rename_i e e2 sp hk hk2
  obtain ⟨e',hu,he'⟩:=T.slice hk
  have Te:=TA _ _ he'
  split at h
  case h_2=>simp at h
  rename_i new hnew
  simp at h; obtain ⟨rfl,rfl⟩:=h
  obtain ⟨a,cap,rfl,_⟩:=z4g hx
  obtain ⟨a2,cap2,vln,rfl,hn,hnu,hrd⟩:=z28 (P:=P) S hy hnew
  obtain ⟨n2,hn2⟩ : ∃ n2,n2 = new.length:=⟨_,rfl⟩
  rw [<- hn2]
  refine ⟨.int .i64 0,w,ρ,H,?_,⟨Post.refl S,Still.refl _⟩,.int _ _⟩
  unfold Go.Builtin.copy_
  simp only [List.getElem?_toArray,List.getElem?_cons_zero,List.getElem?_cons_succ]
  simp only [Go.Sem.run_bind,run_underlying hu,Go.Result.andThen_ok,Go.Builtin.lenOf,Go.Sem.run_pure,Te.size]
  simp only [List.length_nil,show Nat.min n2 0 = 0 from Nat.min_zero _]
  cases a <;> cases a2 <;> simp [Go.Builtin.firstCells,Go.loadCells,Go.loadCellsFrom,Go.storeCells,Go.goInt]
 ·simp at h

theorem zt {hp : Heap} {b o : Nat} (h : ∀ a el fr,hp[b]? ≠ some (.cells a el fr)) : cellOf hp b o = none:=by
 unfold cellOf
 split
 ·rename_i hh; exact absurd hh (h _ _ _)
 ·rfl

structure WroteO (w w' : World) (b : Nat) (o : Go.Obj) : Prop where
 at_ : w'.heap[b]? = some o
 other : ∀ b',b' ≠ b -> w'.heap[b']? = w.heap[b']?
 size : w'.heap.size = w.heap.size
 still : Still w w'

theorem SR.writeO (S : SR CL φ B ρ H w.heap os) {w' : World} {k b c : Nat} {o1 : Go.Obj} {ob ob' : Obj} (hk : os[k]? = some ob) (hl : ob.live = true) (hr : ρ k = some (.blk b c)) (hw : WroteO w w' b o1)
  (hold : ∀ a el fr,w.heap[b]? ≠ some (.cells a el fr)) (hnew : ∀ a el fr,o1 ≠ .cells a el fr) (hob : ObjRel CL φ ρ H w'.heap (.blk b c) ob') (hnc : ∀ cs,ob' ≠ .cells cs) :
  Post CL φ B ρ H w.heap os ρ H w'.heap (os.set k ob'):=by
 have own:=S.own k _ b c hk hl hr
 have hlt:=(List.getElem?_eq_some_iff.1 hk).1
 have x : Ext ρ ρ H H w.heap w'.heap:=⟨fun _ _ h=>h,fun _ _ h=>h,fun b' o hh=>by
  by_cases e : b' = b
  ·subst e
   rw [zt hold,zt (by rw [hw.at_]; intro a el fr h; simp at h; exact hnew _ _ _ h)]
  ·unfold cellOf; rw [hw.other b' e]⟩
 have get : ∀ (i : Nat) o,(os.set k ob')[i]? = some o -> (i = k /\ o = ob') \/ (i ≠ k /\ os[i]? = some o):=by
  intro i o h
  rw [List.getElem?_set] at h
  split at h
  ·rename_i e; subst e; simp [hlt] at h; exact .inl ⟨rfl,h.symm⟩
  ·rename_i e; exact .inr ⟨fun e'=>e e'.symm,h⟩
 have hne : ∀ (i : Nat) o c',i ≠ k -> os[i]? = some o -> o.live = true -> ρ i ≠ some (.blk b c'):=fun i o c' hi h l r=>
  hi (S.inj i k o _ b c' c h l hk hl r hr)
 refine ⟨x,?_,by rw [hw.size]; exact Nat.le_refl _,fun b' _ hn=>hw.other b' (fun e=>?_),fun _ _ h=>.inl h,FzAt.at hw.at_ (by intro arr el fr h; exact absurd h (hnew _ _ _)) hw.other,fun _ _ h=>.inl h,rbS,hnS⟩
 ·exact {
   dom:=fun i o h l=>by
    rcases get i o h with ⟨rfl,rfl⟩ | ⟨hi,h⟩
    ·exact ⟨_,hr,hob⟩
    ·obtain ⟨bk,r,h2⟩:=S.dom i o h l
     exact ⟨bk,r,h2.mono x (fun b' c' e=>hw.other b' (fun e'=>hne i o c' hi h l (by rw [r,e,e']))) (fun _ _ _ _ _ _ _ _ hh=>hh)⟩
   lt:=fun i bk h=>by simpa using S.lt i bk h
   inj:=fun i i' o o' b1 c1 c2 h l h' l' r r'=>by
    rcases get i o h with ⟨e,e1⟩ | ⟨hi,g⟩ <;> rcases get i' o' h' with ⟨e',e2⟩ | ⟨hi',g'⟩
    ·rw [e,e']
    ·rw [e] at r ⊢; exact S.inj k i' _ o' b1 c1 c2 hk hl g' l' r r'
    ·rw [e'] at r' ⊢; exact S.inj i k o _ b1 c1 c2 g l hk hl r r'
    ·exact S.inj i i' o o' b1 c1 c2 g l g' l' r r'
   own:=fun i o b1 c1 h l r=>by
    rw [hw.size]
    rcases get i o h with ⟨rfl,rfl⟩ | ⟨hi,h⟩
    ·exact S.own i _ b1 c1 hk hl r
    ·exact S.own i o b1 c1 h l r
   mutH:=fun i cs1 b1 c1 o h r=>by
    rcases get i _ h with ⟨_,h⟩ | ⟨hi,h⟩
    ·exact absurd h.symm (hnc _)
    ·exact S.mutH i cs1 b1 c1 o h r
   hb:=S.hb.ext x fun b1 o h=>by rw [hw.size]; exact S.hb b1 o h
   hB:=by rw [hw.size]; exact S.hB }
 ·subst e; exact hn k _ c hk hl hr

theorem z1t {b : Nat} {o o' : Go.Obj} (hb : w.heap[b]? = some o) (hnc : ∀ a el fr,o ≠ .cells a el fr) : ∃ w',(Go.setObj b o').run P w = .ok () w' /\ WroteO w w' b o':=by
 have hlt:=z2m hb
 refine ⟨{ w with heap:=w.heap.setIfInBounds b o' },?_,by simp [hlt],fun b' hne=>by simp [Array.getElem?_setIfInBounds,Ne.symm hne],by simp,rfl,rfl,rfl,Nat.le_refl _⟩
 unfold Go.setObj
 simp only [Go.Sem.run,hb]

theorem z3y {k v : D} : ∀ {es es' : List (D × D)},mapPut k v es = some es' -> ∃ r,mapFind k es = some r /\ (match mapIdx k es 0 with
  | some i=>es' = es.set i (k,v) /\ i < es.length /\ r.isSome = true
  | none=>es' = es ++ [(k,v)] /\ r = none):=by
 have key : ∀ (es es' : List (D × D)) (n : Nat),mapPut k v es = some es' -> ∃ r,mapFind k es = some r /\ (match mapIdx k es n with
  | some i=>n <= i /\ es' = es.set (i - n) (k,v) /\ i - n < es.length /\ r.isSome = true
  | none=>es' = es ++ [(k,v)] /\ r = none):=by
  intro es
  induction es with
  | nil=>intro es' n h; simp [mapPut] at h; subst h; exact ⟨none,rfl,rfl,rfl⟩
  | cons e es ih=>
   intro es' n h
   simp only [mapPut] at h
   cases hb : k.eqb e.1 with
   | none=>simp [hb] at h
   | some b=>cases b with
    | true=>
     simp [hb] at h; subst h
     exact ⟨some e.2,by simp [mapFind,hb],by simp [mapIdx,hb]⟩
    | false=>
     simp [hb] at h
     obtain ⟨es1,h1,rfl⟩:=h
     obtain ⟨r,h2,h3⟩:=ih es1 (n + 1) h1
     refine ⟨r,by simp [mapFind,hb,h2],?_⟩
     simp only [mapIdx,hb]
     cases hi : mapIdx k es (n + 1) with
     | none=>simp only [hi] at h3 ⊢; rw [h3.1]; exact ⟨rfl,h3.2⟩
     | some i=>
      simp only [hi] at h3 ⊢
      obtain ⟨h4,h5,h6,h7⟩:=h3
      refine ⟨by omega,?_,by simp; omega,h7⟩
      rw [h5,show i - n = (i - (n + 1)) + 1 from by omega,List.set_cons_succ]
 intro es es' h
 obtain ⟨r,h1,h2⟩:=key es es' 0 h
 refine ⟨r,h1,?_⟩
 cases hi : mapIdx k es 0 with
 | none=>simp only [hi] at h2 ⊢; exact h2
 | some i=>simp only [hi] at h2 ⊢; simpa using h2.2

end
end Dv

namespace Dv
open Go (Value Program World Act Oper Operand Code)

section
variable {P : Program} {E : Env} {CL : CLink} {φ : Phi} {τ : Phi} {B : Nat} {ρ : Rho} {H : HS} {os : List Obj} {w : World}

theorem z9k {a b : D} (h : atomEq a b = some true) : a = b:=by
 unfold atomEq at h
 split at h
 ·simp at h; rw [h]
 ·split at h
  ·rename_i e; simp at h; rw [e,h]
  ·simp at h
 ·simp at h; rw [h]
 ·simp at h

theorem zgb : ∀ {xs ys : List D},eqL xs ys = some true -> xs = ys
 | [],[],_=>rfl
 | [],_ :: _,h=>by simp [eqL] at h
 | _ :: _,[],h=>by simp [eqL] at h
 | x :: xs,y :: ys,h=>by
  simp only [eqL] at h
  cases e1 : atomEq x y with
  | none=>simp [e1] at h
  | some p=>cases e2 : eqL xs ys with
   | none=>simp [e1,e2] at h
   | some q=>
    simp [e1,e2] at h
    obtain ⟨rfl,rfl⟩:=h
    rw [z9k e1,zgb e2]

theorem zoi {k d : D} (h : k.eqb d = some true) : k = d:=by
 unfold D.eqb at h
 split at h
 ·rw [zgb h]
 ·exact z9k h

theorem z27 {k : D} : ∀ {es : List (D × D)} {n i : Nat},mapIdx k es n = some i -> n <= i /\ ∃ p,es[i - n]? = some p /\ p.1 = k
 | [],n,i,h=>by simp [mapIdx] at h
 | e :: es,n,i,h=>by
  simp only [mapIdx] at h
  split at h
  ·rename_i hb
   simp at h; subst h
   exact ⟨Nat.le_refl _,e,by simp,(zoi hb).symm⟩
  ·obtain ⟨h1,p,h2,h3⟩:=z27 h
   exact ⟨by omega,p,by rw [show i - n = (i - (n + 1)) + 1 from by omega]; simpa using h2,h3⟩

theorem RepM.push {hp : Heap} {me : List Go.MapEntry} {es : List (D × D)} {e : Go.MapEntry} {p : D × D} (h : RepM φ ρ H hp me es) (he : Rep φ ρ H hp e.key p.1 /\ Rep φ ρ H hp e.val p.2) : RepM φ ρ H hp (me ++ [e]) (es ++ [p]):=by
 refine ⟨by simp [h.1],fun j e' p' h1 h2=>?_⟩
 by_cases hj : j < me.length
 ·rw [List.getElem?_append_left hj] at h1
  rw [List.getElem?_append_left (h.1 ▸ hj)] at h2
  exact h.2 j e' p' h1 h2
 ·have hj : me.length <= j:=by omega
  rw [List.getElem?_append_right hj] at h1
  rw [List.getElem?_append_right (h.1 ▸ hj),<- h.1] at h2
  cases hk : j - me.length with
  | zero=>rw [hk] at h1 h2; simp at h1 h2; rw [<- h1,<- h2]; exact he
  | succ n=>rw [hk] at h1; simp at h1

theorem RepM.mapAt {hp : Heap} {b : Nat} {me : Array Go.MapEntry} {clock : Nat} {es : List (D × D)} (hb : hp[b]? = some (.map me clock)) (h : RepM φ ρ H hp me.toList es) (hs : StampL me clock) : MapAt φ ρ H hp b es:=
 ⟨me,clock,hb,by simpa using h.1,fun j e p he hp'=>h.2 j e p (by simpa using he) hp',hs⟩
theorem StampL.push {me : Array Go.MapEntry} {clock : Nat} {k v : Value} (h : StampL me clock) : StampL (me.push { key:=k,val:=v,born:=clock }) (clock + 1):=by
 refine ⟨fun x hx=>?_,?_⟩
 ·simp only [Array.toList_push,List.mem_append,List.mem_singleton] at hx
  rcases hx with hx | rfl
  ·have:=h.1 x hx; omega
  ·exact Nat.lt_succ_self _
 ·simp only [Array.toList_push,List.map_append,List.map_cons,List.map_nil]
  rw [List.nodup_append]
  refine ⟨h.2,by simp,fun a ha b hb e=>?_⟩
  obtain ⟨x,hx,rfl⟩:=List.mem_map.1 ha
  simp only [List.mem_singleton] at hb
  have:=h.1 x hx; omega
theorem StampL.modify {me : Array Go.MapEntry} {clock i : Nat} {f : Go.MapEntry -> Go.MapEntry} (hf : ∀ e,(f e).born = e.born) (h : StampL me clock) : StampL (me.modify i f) clock:=by
 have e : (me.modify i f).toList.map (·.born) = me.toList.map (·.born):=by
  refine List.ext_getElem? fun j=>?_
  simp only [List.getElem?_map,Array.getElem?_toList,Array.getElem?_modify]
  split
  ·cases me[j]? with
   | none=>rfl
   | some x=>simp [hf]
  ·rfl
 refine ⟨fun x hx=>?_,by rw [e]; exact h.2⟩
 have : x.born ∈ (me.modify i f).toList.map (·.born):=List.mem_map.2 ⟨x,hx,rfl⟩
 rw [e] at this
 obtain ⟨y,hy,e2⟩:=List.mem_map.1 this
 have:=h.1 y hy
 omega

theorem RepM.mono {ρ' : Rho} {H' : HS} {hp hp' : Heap} (x : Ext ρ ρ' H H' hp hp') {me : List Go.MapEntry} {es : List (D × D)} (h : RepM φ ρ H hp me es) : RepM φ ρ' H' hp' me es:=
 ⟨h.1,fun j e p he hp'=>⟨(h.2 j e p he hp').1.mono x,(h.2 j e p he hp').2.mono x⟩⟩

theorem z74 (a b : Value) : ∃ v w',(Go.Instr.keyThatStays a b).run P w = .ok v w' /\ (v = a \/ v = b) /\ (w'.heap = w.heap /\ Still w w'):=by
 unfold Go.Instr.keyThatStays
 by_cases h : Go.Instr.sameBits 10000 a b = true
 ·exact ⟨b,w,by simp [h],.inr rfl,rfl,Still.refl _⟩
 ·simp only [if_neg h,Go.Sem.run_bind,Go.run_choose,Go.Question.forced]
  refine ⟨_,_,rfl,?_,rfl,rfl,rfl,rfl,Nat.le_succ _⟩
  split
  ·exact .inr rfl
  ·exact .inl rfl

theorem zhf (TA : TAll P E τ) {t c : Nat} {vm vk vv : Value} {m k v : D} {os' : List Obj} (T : TOk P E τ t c) (S : SR CL φ B ρ H w.heap os) (hm : Rep φ ρ H w.heap vm m) (hk : Rep φ ρ H w.heap vk k) (hv : Rep φ ρ H w.heap vv v)
  (h : mapsetD E os c m k v = some os') : ∃ w',(Go.Instr.mapUpdate t vm vk vv).run P w = .ok () w' /\ (Post CL φ B ρ H w.heap os ρ H w'.heap os' /\ Still w w'):=by
 unfold mapsetD at h
 split at h
 ·rename_i kt e id hkk
  have hu:=T.und; rw [hkk] at hu
  obtain ⟨k',e',hu,hk',he'⟩:=hu
  split at h
  ·rename_i hc
   split at h
   ·rename_i es hos
    cases hm with
    | map b cc _ hid=>
     obtain ⟨me,clock,h1,h2,hst⟩:=(S.mapAt hid hos).list
     cases hp : mapPut k v es with
     | none=>simp [hp] at h
     | some es1=>
      simp [hp] at h; subst h
      obtain ⟨r,hf,hs⟩:=z3y hp
      obtain ⟨x,f1,f2,f3⟩:=z5d (TA _ _ hk') hk hc.1 h2 hf
      have hck:=z4j (w:=w) (TA _ _ hk') hk hc.1 false
      have hg : (Go.getObj b).run P w = .ok (.map me clock) w:=by simp [Go.getObj,Go.Sem.run,h1]
      have hnc : ∀ a el fr,(Go.Obj.map me clock) ≠ .cells a el fr:=fun _ _ _ h=>by cases h
      -- what is behind the write
      have fin : ∀ (w1 w2 : World) (me' : Array Go.MapEntry) (clock' : Nat),(w1.heap = w.heap /\ Still w w1) -> WroteO w1 w2 b (.map me' clock') -> RepM φ ρ H w.heap me'.toList es1 -> StampL me' clock' ->
        (Post CL φ B ρ H w.heap os ρ H w2.heap (os.set id (.map es1)) /\ Still w w2):=by
       intro w1 w2 me' clock' ⟨hw1,hsl⟩ hw2 hr hst2
       have hw : WroteO w w2 b (.map me' clock'):=⟨hw2.at_,fun b' hb'=>by rw [hw2.other b' hb',hw1],by rw [hw2.size,hw1],hsl.trans hw2.still⟩
       have x : Ext ρ ρ H H w.heap w2.heap:=⟨fun _ _ h=>h,fun _ _ h=>h,fun b' o _=>by
        by_cases e : b' = b
        ·subst e
         rw [zt (hp:=w.heap) (by rw [h1]; intro a el fr h; cases h),zt (by rw [hw.at_]; intro a el fr h; cases h)]
        ·unfold cellOf; rw [hw.other b' e]⟩
       refine ⟨?_,hw.still⟩
       exact S.writeO hos rfl hid hw (by rw [h1]; intro a el fr h; cases h) (fun _ _ _ h=>by cases h) ⟨b,cc,rfl,(hr.mono x).mapAt hw.at_ hst2⟩ (fun _ h=>by cases h)
      cases hi : mapIdx k es 0 with
      | none=>
       rw [hi] at f2 hs
       simp only at hs
       obtain ⟨rfl,rfl⟩:=hs
       have hx : x = none:=by cases x <;> simp_all
       subst hx
       obtain ⟨w2,s1,s2⟩:=z1t (P:=P) (o':=.map (me.push { key:=vk,val:=vv,born:=clock }) (clock + 1)) h1 hnc
       refine ⟨w2,?_,fin w w2 _ _ ⟨rfl,Still.refl _⟩ s2 (by simpa using h2.push (e:={ key:=vk,val:=vv,born:=clock }) (p:=(k,v)) ⟨hk,hv⟩) hst.push⟩
       unfold Go.Instr.mapUpdate
       simp only [Go.Sem.run_bind,run_underlying hu,Go.Result.andThen_ok,hg,hck,f1,s1]
      | some i=>
       rw [hi] at f2 hs
       simp only at hs
       obtain ⟨rfl,hlt,_⟩:=hs
       obtain ⟨p,rfl⟩ : ∃ p,x = some p:=by cases x <;> simp_all
       obtain ⟨pi,pv⟩:=p
       simp at f2; subst f2
       obtain ⟨_,q,hq,hqk⟩:=z27 hi
       rw [Nat.sub_zero] at hq
       have hlm : pi < me.size:=by have:=h2.1; simp at this; omega
       obtain ⟨kv,w1,k1,k2,k3⟩:=z74 (P:=P) (w:=w) (((me[pi]?).map (·.key)).getD vk) vk
       have hkr : Rep φ ρ H w.heap kv k:=by
        rcases k2 with rfl | rfl
        ·have:=(h2.2 pi me[pi] q (by simp [hlm]) hq).1
         rw [hqk] at this
         simpa [hlm] using this
        ·exact hk
       have h1' : w1.heap[b]? = some (.map me clock):=by rw [k3.1,h1]
       obtain ⟨w2,s1,s2⟩:=z1t (P:=P) (w:=w1) (o':=.map (me.modify pi fun e=>{ e with key:=kv,val:=vv }) clock) h1' hnc
       refine ⟨w2,?_,fin w1 w2 _ _ k3 s2 ?_ (hst.modify fun _=>rfl)⟩
       ·unfold Go.Instr.mapUpdate
        simp only [Go.Sem.run_bind,run_underlying hu,Go.Result.andThen_ok,hg,hck,f1,k1,s1]
       ·refine ⟨by simp; simpa using h2.1,fun j e p he hp=>?_⟩
        simp only [Array.getElem?_toList,Array.getElem?_modify] at he
        rw [List.getElem?_set] at hp
        by_cases hj : pi = j
        ·subst hj
         simp [hlm] at he; simp [hlt] at hp
         rw [<- he,<- hp]; exact ⟨hkr,hv⟩
        ·rw [if_neg hj] at he hp
         exact h2.2 j e p (by simpa using he) hp
   ·simp at h
  ·simp at h
 ·simp at h

theorem zct (S : SR CL φ B ρ H w.heap os) (id : Nat) : ∃ H',Post CL φ B ρ H w.heap os ρ H' w.heap (freeze1 os id):=by
 unfold freeze1
 split
 ·rename_i cs hos
  obtain ⟨bk,hr,b,c,rfl,hrow⟩:=S.dom id _ hos rfl
  have hlt:=(List.getElem?_eq_some_iff.1 hos).1
  have own:=S.own id _ b c hos rfl hr
  have x : Ext ρ ρ H (hold H b cs.length) w.heap w.heap:=⟨fun _ _ h=>h,fun _ _ h=>.inl h,fun _ _ _=>rfl⟩
  have get : ∀ (i : Nat) o,(os.set id (.frozen cs))[i]? = some o -> (i = id /\ o = .frozen cs) \/ (i ≠ id /\ os[i]? = some o):=by
   intro i o h
   rw [List.getElem?_set] at h
   split at h
   ·rename_i e; subst e; simp [hlt] at h; exact .inl ⟨rfl,h.symm⟩
   ·rename_i e; exact .inr ⟨fun e'=>e e'.symm,h⟩
  have hne : ∀ (i : Nat) o c',i ≠ id -> os[i]? = some o -> o.live = true -> ρ i ≠ some (.blk b c'):=fun i o c' hi h l r=>
   hi (S.inj i id o _ b c' c h l hos rfl r hr)
  refine ⟨hold H b cs.length,x,?_,Nat.le_refl _,fun _ _ _=>rfl,fun b' o hh=>?_,FzAt.refl _,fun _ _ h=>.inl h,rbS,fun b' o hh=>hh.elim .inl fun e=>.inr (.inl ⟨id,c,by rw [e.1]; exact hr⟩)⟩
  ·exact {
    dom:=fun i o h l=>by
     rcases get i o h with ⟨rfl,rfl⟩ | ⟨hi,h⟩
     ·exact ⟨_,hr,b,c,rfl,hrow.mono x rfl,fun j hj=>.inr ⟨rfl,hj⟩⟩
     ·obtain ⟨bk,r,h2⟩:=S.dom i o h l
      refine ⟨bk,r,h2.mono x (fun _ _ _=>rfl) (fun b' c' u s e _ j _ hh=>?_)⟩
      rcases hh with hh | ⟨rfl,_⟩
      ·exact hh
      ·exact absurd (by rw [r,e]) (hne i o c' hi h l)
    lt:=fun i bk h=>by simpa using S.lt i bk h
    inj:=fun i i' o o' b1 c1 c2 h l h' l' r r'=>by
     rcases get i o h with ⟨e,e1⟩ | ⟨hi,g⟩ <;> rcases get i' o' h' with ⟨e',e2⟩ | ⟨hi',g'⟩
     ·rw [e,e']
     ·rw [e] at r ⊢; exact S.inj id i' _ o' b1 c1 c2 hos rfl g' l' r r'
     ·rw [e'] at r' ⊢; exact S.inj i id o _ b1 c1 c2 g l hos rfl r r'
     ·exact S.inj i i' o o' b1 c1 c2 g l g' l' r r'
    own:=fun i o b1 c1 h l r=>by
     rcases get i o h with ⟨rfl,rfl⟩ | ⟨hi,h⟩
     ·exact S.own i _ b1 c1 hos rfl r
     ·exact S.own i o b1 c1 h l r
    mutH:=fun i cs1 b1 c1 o h r hh=>by
     rcases get i _ h with ⟨_,h⟩ | ⟨hi,h⟩
     ·cases h
     ·rcases hh with hh | ⟨rfl,_⟩
      ·exact S.mutH i cs1 b1 c1 o h r hh
      ·exact hne i _ c1 hi h rfl r
    hb:=S.hb.ext x fun b1 o h=>by
     rcases h with h | ⟨rfl,_⟩
     ·exact S.hb b1 o h
     ·exact own.2
    hB:=S.hB }
  ·rcases hh with hh | ⟨rfl,_⟩
   ·exact .inl hh
   ·exact .inr own.1
 ·exact ⟨H,Post.refl S⟩

end
end Dv

namespace Dv
open Go (Value Program World Act Oper Operand Code)

section
variable {P : Program} {E : Env} {CL : CLink} {φ : Phi} {τ : Phi} {B : Nat} {ρ : Rho} {H : HS} {os : List Obj} {w : World}

theorem zgi {e' e : Nat} (Te : TOk P E τ e' e) (h : isByte E e = true) : P.underlying e' = some (.int .u8):=by
 unfold isByte at h
 split at h
 ·rename_i hk
  have:=Te.und; rw [hk] at this; exact this
 ·simp at h

theorem zau {hp : Heap} : ∀ {vs : List Value} {els : List D} {b : List UInt8},RepL φ ρ H hp vs (flat els) -> bytesOf els = some b ->
  ∃ ns : List Int,vs = ns.map (Value.int .u8) /\ ∀ s0 : ByteArray,(ns.foldl (fun r n=>r.push (UInt8.ofNat n.toNat)) s0).data.toList = s0.data.toList ++ b
 | vs,[],b,hr,h=>by
  simp [bytesOf] at h; subst h
  have : vs = []:=by have:=hr.1; simpa [flat] using this
  subst this
  exact ⟨[],rfl,fun s0=>by simp⟩
 | vs,d :: els,b,hr,h=>by
  unfold bytesOf at h
  split at h
  ·rename_i heq; simp at heq
  ·rename_i n r heq
   simp only [List.cons.injEq] at heq
   obtain ⟨rfl,rfl⟩:=heq
   split at h
   ·rename_i s hs
    simp only [Option.some.injEq] at h; subst h
    match vs,hr with
    | v :: vs,hr=>
     rw [show flat (D.int .u8 n :: els) = .int .u8 n :: flat els from rfl] at hr
     obtain ⟨h1,h2⟩:=hr.of_cons
     obtain rfl:=h1.intv
     obtain ⟨ns,rfl,e2⟩:=zau h2 hs
     exact ⟨n :: ns,rfl,fun s0=>by rw [List.foldl_cons,e2]; simp [ByteArray.push]⟩
    | [],hr=>have:=hr.1; simp [flat,D.cellsL] at this
   ·simp at h
  ·simp at h

theorem zav : ∀ {els : List D} {b : List UInt8},bytesOf els = some b -> els.all (fun d=>d.storable && d.cellsL.length == 1) = true
 | [],b,h=>rfl
 | d :: els,b,h=>by
  unfold bytesOf at h
  split at h
  ·rename_i heq; simp at heq
  ·rename_i n r heq
   simp only [List.cons.injEq] at heq
   obtain ⟨rfl,rfl⟩:=heq
   split at h
   ·rename_i s hs
    rw [List.all_cons,zav hs]; rfl
   ·simp at h
  ·simp at h

theorem zsn {t c t2 c2 : Nat} {vx : Value} {x d : D} (T : TOk P E τ t c) (T2 : TOk P E τ t2 c2) (TA : TAll P E τ) (S : SR CL φ B ρ H w.heap os) (hx : Rep φ ρ H w.heap vx x) (h : b2sD E c c2 x = some d) :
  ∃ v,(Go.convert t t2 vx).run P w = .ok v w /\ Rep φ ρ H w.heap v d:=by
 unfold b2sD at h
 split at h
 case h_2=>simp at h
 rename_i e sp els hk hk2
 obtain ⟨e',hu,he'⟩:=T.slice hk
 have hu2:=T2.und; rw [hk2] at hu2
 split at h
 case isFalse=>simp at h
 rename_i hb
 have hbu:=zgi (TA _ _ he') hb
 simp only [Option.map_eq_some_iff] at h
 obtain ⟨b,hbo,rfl⟩:=h
 have hels : listOf os 1 false (.imm sp els) = some els:=by
  simp only [listOf]
  rw [if_pos (zav hbo)]
 obtain ⟨a,cap,vl,rfl,hr,hu1,hrd⟩:=z28 (P:=P) S hx hels
 have hlen : vl.length = els.length:=by
  have e:=hr.1
  rw [zg (su:=1) fun y hy=>(hu1 y hy).1,Nat.mul_one] at e; exact e
 have h1:=hrd _ (Nat.le_refl _) w rfl
 rw [Nat.mul_one,<- hlen,List.take_length] at h1
 obtain ⟨ns,rfl,e1⟩:=zau hr hbo
 have e2:=e1 ByteArray.empty
 refine ⟨.string (ns.foldl (fun r n=>r.push (UInt8.ofNat n.toNat)) ByteArray.empty),?_,?_⟩
 ·rw [Go.run_convert_bytes_string w t t2 e' a _ cap hu hbu hu2]
  cases a with
  | none=>
   simp only [Go.Builtin.firstCells,Go.Sem.run_pure] at h1
   have h0 : ns = []:=by
    have h2:=congrArg (fun r : Go.Result (Array Value)=>match r with | .ok v _=>v.size | _=>0) h1
    simp at h2
    exact List.eq_nil_of_length_eq_zero h2.symm
   subst h0
   simp [Go.Conv.bytesToString]
  | some a=>
   simp only [Go.Builtin.firstCells,Nat.mul_one,hlen] at h1
   exact Go.run_bytesToString w a _ cap ns h1
 ·have:=Rep.str (φ:=φ) (ρ:=ρ) (H:=H) (hp:=w.heap) (ns.foldl (fun r n=>r.push (UInt8.ofNat n.toNat)) ByteArray.empty)
  rw [e2] at this
  simpa using this

theorem z6r : ∀ (l : List UInt8),flat (l.map byteD) = l.map byteD
 | []=>rfl
 | x :: r=>by rw [List.map_cons,z15,z6r r]; rfl

theorem z9u {hp : Heap} {arr : Array Value} {el : Nat} {fr : Nat × Nat} (j : Nat) : cellOf (hp.push (.cells arr el fr)) hp.size j = arr[j]?:=by
 unfold cellOf; rw [z3v]

theorem zrg (TA : TAll P E τ) {t c t2 c2 : Nat} {vx : Value} {x d : D} (T : TOk P E τ t c) (T2 : TOk P E τ t2 c2) (S : SR CL φ B ρ H w.heap os) (hx : Rep φ ρ H w.heap vx x) (h : s2bD E c c2 x = some d) :
  Went CL φ B ρ H os w ((Go.convert t t2 vx).run P w) d os:=by
 unfold s2bD at h
 split at h
 case h_2=>simp at h
 rename_i e b hk hk2
 obtain ⟨e',hu2,he'⟩:=T2.slice hk2
 have hu:=T.und; rw [hk] at hu
 split at h
 case isFalse=>simp at h
 rename_i hb
 have hbu:=zgi (TA _ _ he') hb
 simp only [Option.some.injEq] at h
 subst h
 obtain ⟨s,rfl,rfl⟩:=hx.strv
 have hrun:=Go.run_bytes_of_string w t t2 e' s hu hu2 hbu
 obtain ⟨arr,harr⟩ : ∃ arr,Go.bytesRow s (Go.grownCap w s.size 0 e') = arr:=⟨_,rfl⟩
 obtain ⟨cap,hcap⟩ : ∃ cap,Go.grownCap w s.size 0 e' = cap:=⟨_,rfl⟩
 rw [harr,hcap] at hrun
 have hsz0 : s.data.toList.length = s.size:=by rw [Array.length_toList]; rfl
 have hle : s.data.toList.length <= cap:=by
  have:=Go.grownCap_ge w s.size 0 e'
  rw [hcap,<- hsz0] at this
  omega
 have g:=z67 H w.heap (.cells arr e' (arr.size,arr.size + 1)) arr.size
 have x1:=g.ext ρ S.hb
 have harr0 : ∀ j,j < s.data.toList.length -> arr[j]? = some (.int .u8 ((s.data.toList[j]?.getD 0).toNat : Int)):=fun j hj=>by
  have hj' : j < s.data.size:=by simpa using hj
  have e : s.data.toList[j]? = some s.data[j]:=by rw [Array.getElem?_toList,Array.getElem?_eq_getElem hj']
  rw [<- harr,Go.bytesRow_at s _ j hj',e]
  rfl
 have hsz : s.data.toList.length <= arr.size:=by
  rcases Nat.eq_zero_or_pos s.data.toList.length with h0 | h0
  ·omega
  ·have:=harr0 (s.data.toList.length - 1) (by omega)
   have:=(Array.getElem?_eq_some_iff.1 this).1
   omega
 have hp : Post CL φ B ρ H w.heap os ρ (hold H w.heap.size arr.size) (w.heap.push (.cells arr e' (arr.size,arr.size + 1))) os:=
  ⟨x1,S.grew g,g.size,fun b hb _=>g.old b hb,fun b o hh=>by
   rcases hh with hh | ⟨rfl,_⟩
   ·exact .inl hh
   ·exact .inr S.hB,trivial,fun _ _ h=>.inl h,rbS,fun b o hh=>hh.elim .inl fun e=>.inr (.inr (Nat.le_of_eq e.1.symm))⟩
 refine ⟨_,_,ρ,hold H w.heap.size arr.size,hrun,⟨hp,rfl,rfl,rfl,Nat.le_succ _⟩,?_⟩
 have hsl : s.size = (s.data.toList.map byteD).length:=by rw [List.length_map,hsz0]
 rw [hsl]
 have hmem : ∀ x,x ∈ s.data.toList.map byteD -> x.cellsL.length = 1 /\ x.storable = true:=fun x hx'=>by
  obtain ⟨b,_,rfl⟩:=List.mem_map.1 hx'
  exact ⟨rfl,rfl⟩
 refine .imm .none _ _ cap w.heap.size 0 1 (fun j=>.int .u8 ((s.data.toList[j]?.getD 0).toNat : Int)) hmem (by simpa using hle) (fun h=>by cases h) (fun k hk=>by cases hk) (fun _=>rfl) (fun j hj=>?_) (fun j d hd=>?_)
 ·rw [z6r,List.length_map] at hj
  refine ⟨.inr ⟨rfl,by omega⟩,?_⟩
  rw [Nat.zero_add]
  show cellOf (w.heap.push (.cells arr e' (arr.size,arr.size + 1))) w.heap.size j = _
  rw [z9u]
  exact harr0 j hj
 ·rw [z6r,List.getElem?_map] at hd
  cases hb2 : s.data.toList[j]? with
  | none=>rw [hb2] at hd; simp at hd
  | some b=>
   rw [hb2] at hd
   simp only [Option.map_some,Option.some.injEq] at hd
   subst hd
   simp only [Option.getD_some]
   exact .int _ _

theorem zkd (TA : TAll P E τ) {t c : Nat} {vl vc : Value} {l m d : D} {os' : List Obj} (T : TOk P E τ t c) (S : SR CL φ B ρ H w.heap os) (hl : Rep φ ρ H w.heap vl l) (hm : Rep φ ρ H w.heap vc m)
  (h : mkcapD E os c l m = some (d,os')) : Went CL φ B ρ H os w ((Go.Instr.makeSlice t vl vc).run P w) d os':=by
 unfold mkcapD at h
 split at h
 case h_2=>simp at h
 rename_i e kl l kc m hk
 obtain ⟨e',hu,he'⟩:=T.slice hk
 have Te:=TA _ _ he'
 obtain rfl:=hl.intv
 obtain rfl:=hm.intv
 split at h
 case h_2=>simp at h
 rename_i z hz
 split at h
 case isFalse=>simp at h
 rename_i hc
 obtain ⟨h0,hlm,hb⟩:=hc
 simp only [Option.some.injEq,Prod.mk.injEq] at h
 obtain ⟨rfl,rfl⟩:=h
 obtain ⟨zv,e1,e2,_,e4,e5,e6⟩:=z2f (w:=w) (φ:=φ) (ρ:=ρ) (H:=H) Te hz
 obtain ⟨a,rfl⟩:=Int.eq_ofNat_of_zero_le h0
 obtain ⟨n,rfl⟩:=Int.eq_ofNat_of_zero_le (Int.le_trans h0 hlm)
 have han : a <= n:=by omega
 obtain ⟨inf,hi,hsz,hby,_⟩:=Te.info
 have hzr:=z5j (n:=n) e2 e4
 have hnn : (n : Int) <= maxBytes:=by
  have h1 : (n : Int) * 1 <= (n : Int) * ((E.ty e).bytes + 1):=Int.mul_le_mul_of_nonneg_left (by omega) (by omega)
  omega
 have hbb : (E.ty e).bytes * (n : Int) <= maxBytes:=by
  have h1 : (n : Int) * (E.ty e).bytes <= (n : Int) * ((E.ty e).bytes + 1):=Int.mul_le_mul_of_nonneg_left (by omega) (by omega)
  rw [Int.mul_comm]; omega
 have hm : (maxBytes : Int) = 17592186044416:=rfl
 rw [hm] at hnn hbb
 have hwn : Go.IntKind.i64.wrap (n : Int) = n:=Go.IntWalk.i64_in _ (by omega)
 have hwa : Go.IntKind.i64.wrap (a : Int) = a:=Go.IntWalk.i64_in _ (by omega)
 have hrun : (Go.Instr.makeSlice t (.int kl a) (.int kc n)).run P w = .ok (.slice (some ⟨w.heap.size,0,none⟩) a n) { w with heap:=w.heap.push (.cells ((Array.range (n * (E.ty e).size)).map (zv.cells[· % zv.cells.size]!)) e') }:=by
  unfold Go.Instr.makeSlice
  simp only [Go.Sem.run_bind,run_underlying hu,Go.Result.andThen_ok,Go.asInt,Go.asIntOf,Go.Sem.run_pure,Go.Sem.run_map,z12 hi,hwn,hwa,hby]
  have hc : ¬ (((decide ((n : Int) < 0) || decide ((((E.ty e).bytes : Nat) : Int) * (n : Int) > 2 ^ 48)) || decide ((a : Int) < 0) || decide ((a : Int) > (n : Int))) = true):=by
   simp
   omega
  simp only [if_neg hc,Go.Sem.run_bind,Go.run_askRoom,Go.Result.andThen_ok,Te.size,Int.toNat_natCast,Go.Sem.run_ite,Go.Sem.run_pure]
  by_cases hn0 : n * (E.ty e).size = 0
  ·have hr0 : ∀ g : Nat -> Value,(Array.range 0).map g = #[]:=fun g=>by simp [Array.range]
   have hn : n = 0:=by rcases Nat.mul_eq_zero.1 hn0 with h | h; exact h; exact absurd h e6
   subst hn
   simp [hr0,z16]
  ·simp [if_neg hn0,e1,z16]
 rw [Int.toNat_natCast,Int.toNat_natCast]
 have f:=S.free
 have hp:=z3l S f (el:=e') hzr (z19 fun x hx=>(z17 e4 e5 x hx).2)
 rw [show addO os os.length (.cells (flat (List.replicate n z))) = os ++ [.cells (flat (List.replicate n z))] from by simp [addO]] at hp
 exact ⟨_,_,_,_,hrun,⟨hp,rfl,rfl,rfl,Nat.le_refl _⟩,.sl _ _ _ _ _ _ w.heap.size _ n _ (by simp [upd]; rfl) han (fun _=>rfl) (fun _=>⟨rfl,rfl,by simp⟩)⟩

theorem ze5 (_TA : TAll P E τ) {t c : Nat} {vx vh : Value} {x m d : D} (T : TOk P E τ t c) (S : SR CL φ B ρ H w.heap os) (hx : Rep φ ρ H w.heap vx x) (hm : Rep φ ρ H w.heap vh m)
  (h : resliceD E os c x m = some (d,os)) : ∃ v,(Go.Instr.sliceAt t vx none (some vh) none).run P w = .ok v w /\ Rep φ ρ H w.heap v d:=by
 unfold resliceD at h
 split at h
 case h_2=>simp at h
 rename_i e id len sz ag k m hk
 obtain ⟨e',hu,he'⟩:=T.slice hk
 have Te:=_TA _ _ he'
 obtain rfl:=hm.intv
 split at h
 case h_2=>simp at h
 rename_i cs hos
 split at h
 case isFalse=>simp at h
 rename_i hc
 obtain ⟨h0,h1,h2,h3⟩:=hc
 simp only [Option.some.injEq,Prod.mk.injEq,and_true] at h
 subst h
 cases hx with
 | sl _ _ _ _ _ _ b cc cap a hid hl ha hcc=>
  obtain ⟨_,rfl,rfl⟩:=hcc rfl
  obtain ⟨arr,el,r1,r2,r3,r4,r5⟩:=S.row hid (by simp [rowOf,hos] : rowOf os id = some cs)
  have hle : m.toNat <= cap:=by
   have : m.toNat * sz <= cap * sz:=by rw [r2] at r3; omega
   exact Nat.le_of_mul_le_mul_right this (by omega)
  have hmc : m <= (cap : Int):=by omega
  refine ⟨.slice (some ⟨b,0,none⟩) m.toNat cap,?_,.sl id 0 m.toNat sz ag true b _ cap _ hid hle (fun _=>rfl) (fun _=>⟨rfl,rfl,rfl⟩)⟩
  unfold Go.Instr.sliceAt
  simp [run_underlying hu,Go.Instr.slice,Go.Instr.sliceBounds,Go.Instr.sliceBound,Go.asIntOf,h0,hmc,Te.size,z14]

theorem zsi (TA : TAll P E τ) {t c ty : Nat} {vx : Value} {x d : D} {os' : List Obj} (T : TOk P E τ t c) (S : SR CL φ B ρ H w.heap os) (hx : Rep φ ρ H w.heap vx x)
  (h : clrD E os c x = some (d,os')) : Went CL φ B ρ H os w ((Go.Builtin.clear_ #[t] ty #[vx]).run P w) d os':=by
 unfold clrD at h
 split at h
 case h_2=>simp at h
 rename_i e id off len sz ag gr hk
 obtain ⟨e',hu,he'⟩:=T.slice hk
 have Te:=TA _ _ he'
 split at h
 case h_2=>simp at h
 rename_i cs z hos hz
 split at h
 case isFalse=>simp at h
 rename_i hc
 obtain ⟨rfl,hle⟩:=hc
 simp only [Option.some.injEq,Prod.mk.injEq] at h
 obtain ⟨rfl,rfl⟩:=h
 obtain ⟨zv,e1,e2,_,e4,e5,e6⟩:=z2f (w:=w) (φ:=φ) (ρ:=ρ) (H:=H) Te hz
 cases hx with
 | sl _ _ _ _ _ _ b cc cap a hid hl ha hcc=>
  have hzs : zv.cells.size = (E.ty e).size:=by have:=e2.1; rw [e4] at this; simpa using this
  have hzr:=z5j (n:=len) e2 e4
  have hzc : Go.Builtin.zeroCells zv.cells len = (Array.range (len * (E.ty e).size)).map (zv.cells[· % zv.cells.size]!):=by
   unfold Go.Builtin.zeroCells; rw [hzs]
  rw [<- hzc] at hzr
  have hfl : (flat (List.replicate len z)).length = len * (E.ty e).size:=by
   rw [zg fun x hx=>(z17 e4 e5 x hx).1]; simp
  obtain ⟨w',s1,s2⟩:=z54 (P:=P) (off:=off) S hos hid hzr (z19 fun x hx=>(z17 e4 e5 x hx).2) (by rw [hfl]; exact hle)
  by_cases h0 : len = 0
  ·subst h0
   have hset : os.set id (.cells (setCells cs off (flat (List.replicate 0 z)))) = os:=by
    simp [flat,setCells]
    apply List.ext_getElem?
    intro i
    rw [List.getElem?_set]
    split
    ·rename_i e1; subst e1; have:=(List.getElem?_eq_some_iff.1 hos).1; simp [this]; exact ((List.getElem?_eq_some_iff.1 hos).2).symm
    ·rfl
   refine ⟨Go.undef,w,ρ,H,?_,⟨by rw [hset]; exact Post.refl S,Still.refl _⟩,.u0⟩
   unfold Go.Builtin.clear_
   simp only [List.getElem?_toArray,List.getElem?_cons_zero]
   simp only [Go.Sem.run_bind,run_underlying hu,Go.Result.andThen_ok]
   cases a <;> simp [Go.undef]
  ·refine ⟨Go.undef,w',ρ,H,?_,s2,.u0⟩
   unfold Go.Builtin.clear_
   rw [ha h0]
   simp only [List.getElem?_toArray,List.getElem?_cons_zero]
   simp only [Go.Sem.run_bind,run_underlying hu,Go.Result.andThen_ok]
   obtain ⟨n,rfl⟩ : ∃ n,len = n + 1:=⟨len - 1,by omega⟩
   simp only [Go.Sem.run_bind,e1,Go.Result.andThen_ok,s1]
   simp [Go.undef]

end
end Dv

namespace Dv
open Go (Value Program World Act Oper Operand Code)

def LiveIn (os os' : List Obj) (K : Nat -> Prop) : Prop:=∀ (i : Nat) o,K i -> os'[i]? = some o -> o.live = true -> ∃ o' : Obj,os[i]? = some o' /\ o'.live = true

theorem LiveIn.refl {os : List Obj} {K : Nat -> Prop} : LiveIn os os K:=fun _ o _ h hl=>⟨o,h,hl⟩

theorem LiveIn.trans {os os' os'' : List Obj} {K : Nat -> Prop} (h : LiveIn os os' K) (h' : LiveIn os' os'' K) : LiveIn os os'' K:=fun i o hi h1 h2=>by
 obtain ⟨o',h3,h4⟩:=h' i o hi h1 h2
 exact h i o' hi h3 h4

theorem LiveIn.set {os : List Obj} {K : Nat -> Prop} {k : Nat} {ob ob' : Obj} (hk : os[k]? = some ob) (hl : ob.live = true) : LiveIn os (os.set k ob') K:=fun i o _ h h'=>by
 rw [List.getElem?_set] at h
 split at h
 ·rename_i e; subst e; exact ⟨ob,hk,hl⟩
 ·exact ⟨o,h,h'⟩

theorem LiveIn.kill {os : List Obj} {K : Nat -> Prop} (k : Nat) : LiveIn os (os.set k .dead) K:=fun i o _ h h'=>by
 rw [List.getElem?_set] at h
 split at h
 ·split at h
  ·simp at h; subst h; simp [Obj.live] at h'
  ·simp at h
 ·exact ⟨o,h,h'⟩

theorem LiveIn.add {ρ : Rho} {os : List Obj} {K : Nat -> Prop} {id : Nat} {ob : Obj} (f : Free ρ os id) (hne : ∀ i,K i -> i ≠ id) : LiveIn os (addO os id ob) K:=fun i o hi h h'=>by
 rw [z4x f,if_neg (hne i hi)] at h
 exact ⟨o,h,h'⟩

theorem LiveIn.push {os : List Obj} {K : Nat -> Prop} {ob : Obj} (hK : ∀ i,K i -> i < os.length) : LiveIn os (os ++ [ob]) K:=fun i o hi h h'=>by
 rw [List.getElem?_append_left (hK i hi)] at h
 exact ⟨o,h,h'⟩

structure PostT (CL : CLink) (φ : Phi) (B : Nat) (K : Nat -> Prop) (ρ : Rho) (H : HS) (w : World) (ρ' : Rho) (H' : HS) (w' : World) (os' : List Obj) : Prop where
 ext : Ext ρ ρ' H H' w.heap w'.heap
 sr : SR CL φ B ρ' H' w'.heap os'
 size : w.heap.size <= w'.heap.size
 frB : ∀ b,b < B -> w'.heap[b]? = w.heap[b]?
 frD : ∀ (b : Nat) ds,w.heap[b]? = some (.deferred ds) -> w'.heap[b]? = some (.deferred ds)
 hnew : ∀ b o,H' b o -> H b o \/ B <= b
 vac : ∀ i,K i -> ρ i = none -> ρ' i = none
 fz : FzAt w.heap w'.heap
 still : Still w w'
 frame : ∀ b,b < w.heap.size -> ¬ Old ρ b -> w'.heap[b]? = w.heap[b]?
 rb : ∀ (k : Nat) b c,ρ' k = some (.blk b c) -> Old ρ b \/ w.heap.size <= b
 hn : ∀ b o,H' b o -> H b o \/ Old ρ b \/ w.heap.size <= b

section
variable {CL : CLink} {φ : Phi} {B : Nat} {K : Nat -> Prop} {ρ ρ' ρ'' : Rho} {H H' H'' : HS} {hp hp' hp'' : Heap} {os os' os'' : List Obj}

theorem PostT.trans {w w' w'' : World} (h : PostT CL φ B K ρ H w ρ' H' w' os') (h' : PostT CL φ B K ρ' H' w' ρ'' H'' w'' os'') : PostT CL φ B K ρ H w ρ'' H'' w'' os'':=
 ⟨h.ext.trans h'.ext,h'.sr,Nat.le_trans h.size h'.size,fun b hb=>(h'.frB b hb).trans (h.frB b hb),fun b ds hd=>h'.frD b ds (h.frD b ds hd),fun b o hh=>by
  rcases h'.hnew b o hh with hh | hh
  ·exact h.hnew b o hh
  ·exact .inr hh,fun i hi hn=>h'.vac i hi (h.vac i hi hn),h.fz.trans h'.fz,h.still.trans h'.still,
  fun b hb ho=>(h'.frame b (Nat.lt_of_lt_of_le hb h.size) (fun ⟨k,c,hk⟩=>(h.rb k b c hk).elim ho (fun hle=>absurd hle (Nat.not_le.2 hb)))).trans (h.frame b hb ho),
  fun k b c hk=>(h'.rb k b c hk).elim (fun ⟨k0,c0,h0⟩=>h.rb k0 b c0 h0) (fun hle=>.inr (Nat.le_trans h.size hle)),
  fun b o hh=>(h'.hn b o hh).elim (h.hn b o) (fun hh=>hh.elim (fun ⟨k0,c0,h0⟩=>.inr (h.rb k0 b c0 h0)) (fun hle=>.inr (.inr (Nat.le_trans h.size hle))))⟩

theorem PostT.refl {w : World} (S : SR CL φ B ρ H w.heap os) : PostT CL φ B K ρ H w ρ H w os:=
 ⟨Ext.refl _ _ _,S,Nat.le_refl _,fun _ _=>rfl,fun _ _ h=>h,fun _ _ h=>.inl h,fun _ _ h=>h,FzAt.refl _,Still.refl _,fun _ _ _=>rfl,rbS,hnS⟩

theorem Post.toT {w w' : World} (S : SR CL φ B ρ H w.heap os) (hK : LiveIn os os' K) (h : Post CL φ B ρ H w.heap os ρ' H' w'.heap os') (hst : Still w w') : PostT CL φ B K ρ H w ρ' H' w' os':=by
 refine ⟨h.ext,h.sr,h.size,fun b hb=>h.frame b (Nat.lt_of_lt_of_le hb S.hB) (fun id o c ho hl r=>by have:=(S.own id o b c ho hl r).1; omega),fun b ds hd=>?_,h.hnew,fun i hi hn=>?_,h.fz,hst,fun b hb ho=>h.frame b hb (fun id o c _ _ r=>ho ⟨id,c,r⟩),h.rb,h.hn⟩
 rotate_left
 ·cases hr : ρ' i with
  | none=>rfl
  | some bk=>
   rcases h.rn i bk hr with h1 | ⟨o,h1,h2⟩
   ·rw [hn] at h1; cases h1
   ·obtain ⟨o',h3,h4⟩:=hK i o hi h1 h2
    obtain ⟨bk',h5,_⟩:=S.dom i o' h3 h4
    rw [hn] at h5; cases h5
 rw [<- hd]
 refine h.frame b (z2m hd) (fun id o c ho hl r=>?_)
 obtain ⟨bk,r',h2⟩:=S.dom id o ho hl
 rw [r] at r'; simp at r'; subst r'
 cases o with
 | dead=>simp [Obj.live] at hl
 | cells cs=>obtain ⟨_,_,e,arr,el,h3,_⟩:=h2; simp at e; obtain ⟨rfl,rfl⟩:=e; rw [hd] at h3; cases h3
 | frozen cs=>obtain ⟨_,_,e,⟨arr,el,h3,_⟩,_⟩:=h2; simp at e; obtain ⟨rfl,rfl⟩:=e; rw [hd] at h3; cases h3
 | tok u s=>
  rcases h2 with h2 | ⟨_,_,e,arr,el,h3,_⟩
  ·cases h2
  ·simp at e; obtain ⟨rfl,rfl⟩:=e; rw [hd] at h3; cases h3
 | map es=>obtain ⟨_,_,e,me,cl,h3,_⟩:=h2; simp at e; obtain ⟨rfl,rfl⟩:=e; rw [hd] at h3; cases h3
 | loop busy slots ps asg body pend=>obtain ⟨_,_,e,L,h3,_⟩:=h2; simp at e; obtain ⟨rfl,rfl⟩:=e; rw [hd] at h3; cases h3

theorem zfx : ∀ {n m : Nat} {d : D} {id : Nat},m <= n -> id ∈ ids os m d -> id ∈ ids os n d
 | n,0,d,id,_,h=>by simp [ids] at h
 | 0,m + 1,d,id,hm,_=>by omega
 | n + 1,m + 1,d,id,hm,h=>by
  have hm' : m <= n:=by omega
  have go : ∀ (l : List D),id ∈ l.flatMap (ids os m) -> id ∈ l.flatMap (ids os n):=fun l hl=>by
   simp only [List.mem_flatMap] at hl ⊢
   obtain ⟨x,h1,h2⟩:=hl
   exact ⟨x,h1,zfx hm' h2⟩
  cases d <;> simp only [ids] at h ⊢ <;> try exact h
  ·rcases List.mem_cons.1 h with h | h
   ·exact List.mem_cons.2 (.inl h)
   ·refine List.mem_cons.2 (.inr ?_)
    split at h
    ·exact go _ h
    ·simp at h
  ·exact go _ h
  ·exact go _ h
  ·rcases List.mem_cons.1 h with h | h
   ·exact List.mem_cons.2 (.inl h)
   ·refine List.mem_cons.2 (.inr ?_)
    split at h
    ·exact go _ h
    ·simp at h
  ·exact go _ h
  ·exact go _ h
  ·exact go _ h

theorem z2d {w : World} : ∀ (l : List Nat) {H : HS} {os : List Obj},SR CL φ B ρ H w.heap os -> ∃ H',PostT CL φ B K ρ H w ρ H' w (freezeAll os l) /\ ∀ id cs b c,id ∈ l -> os[id]? = some (.cells cs) -> ρ id = some (.blk b c) -> ∀ j,j < cs.length -> H' b j
 | [],H,os,S=>⟨H,PostT.refl S,fun id cs b c h=>by simp at h⟩
 | i :: l,H,os,S=>by
  -- freeze1 with what it marks
  have one : ∃ H1,PostT CL φ B K ρ H w ρ H1 w (freeze1 os i) /\ (∀ cs b c,os[i]? = some (.cells cs) -> ρ i = some (.blk b c) -> ∀ j,j < cs.length -> H1 b j):=by
   obtain ⟨H1,h1⟩:=zct (w:=w) S i
   refine ⟨H1,Post.toT S (by unfold freeze1; split; (· rename_i ho; exact .set ho rfl); exact .refl) h1 (Still.refl _),fun cs b c ho hr j hj=>?_⟩
   have hlt:=(List.getElem?_eq_some_iff.1 ho).1
   have hf : (freeze1 os i)[i]? = some (.frozen cs):=by unfold freeze1; rw [ho]; simp [hlt]
   obtain ⟨bk,r,b',c',e,_,hH⟩:=h1.sr.dom i _ hf rfl
   rw [hr] at r; simp at r; subst r; simp at e; obtain ⟨rfl,rfl⟩:=e
   exact hH j hj
  obtain ⟨H1,p1,m1⟩:=one
  obtain ⟨H2,p2,m2⟩:=z2d l p1.sr
  refine ⟨H2,p1.trans p2,fun id cs b c hid ho hr j hj=>?_⟩
  by_cases e : id = i
  ·subst e; exact p2.ext.hs _ _ (m1 cs b c ho hr j hj)
  ·rcases List.mem_cons.1 hid with h | h
   ·exact absurd h e
   ·refine m2 id cs b c h ?_ hr j hj
    unfold freeze1
    split
    ·rw [List.getElem?_set_ne (Ne.symm e)]; exact ho
    ·exact ho

theorem z11 {f : D -> Option D} : ∀ {l r : List D},frzL f l = some r -> r.length = l.length /\ ∀ (j : Nat) x y,l[j]? = some x -> r[j]? = some y -> f x = some y
 | [],r,h=>by simp [frzL] at h; subst h; exact ⟨rfl,fun j x y h=>by simp at h⟩
 | d :: l,r,h=>by
  simp only [frzL] at h
  cases e1 : f d with
  | none=>simp [e1] at h
  | some d'=>cases e2 : frzL f l with
   | none=>simp [e1,e2] at h
   | some r'=>
    simp [e1,e2] at h; subst h
    obtain ⟨h1,h2⟩:=z11 e2
    refine ⟨by simp [h1],fun j x y hx hy=>?_⟩
    cases j with
    | zero=>simp at hx hy; subst hx; subst hy; exact e1
    | succ j=>exact h2 j x y (by simpa using hx) (by simpa using hy)

theorem zg1 {n : Nat} {d d' : D} (h : frz os n d = some d') (ha : d.atom = true) : d'.atom = true:=by
 cases n with
 | zero=>simp [frz] at h
 | succ n=>
  cases d <;> simp only [frz,D.atom,reduceCtorEq,Option.some.injEq,Option.map_eq_some_iff,Bool.false_eq_true] at h ha <;> try contradiction
  all_goals first
   | (subst h; rfl)
   | (obtain ⟨_,_,rfl⟩:=h; rfl)
   | skip
  ·-- loc
   split at h
   ·simp at h; obtain ⟨_,_,rfl⟩:=h; rfl
   ·simp at h
  ·split at h
   ·split at h
    ·simp at h; obtain ⟨_,_,rfl⟩:=h; rfl
    ·simp at h
   ·simp at h
  ·rename_i id
   cases id with
   | none=>simp at h; subst h; rfl
   | some i=>simp at h

theorem zm2 {n : Nat} {e e' : D} (h : frz os n e = some e') (hs : e.storable = true) : e'.cellsL.length = e.cellsL.length /\ e'.storable = true /\
  ∀ (j : Nat) c c',e.cellsL[j]? = some c -> e'.cellsL[j]? = some c' -> ∃ m,m <= n /\ frz os m c = some c' /\ ∀ id,id ∈ ids os m c -> id ∈ ids os n e:=by
 by_cases hag : ∃ cs,e = .agg cs
 ·obtain ⟨cs,rfl⟩:=hag
  cases n with
  | zero=>simp [frz] at h
  | succ n=>
   simp only [frz,Option.map_eq_some_iff] at h
   obtain ⟨r,hr,rfl⟩:=h
   obtain ⟨h1,h2⟩:=z11 hr
   refine ⟨h1,?_,fun j c c' hc hc'=>⟨n,Nat.le_succ _,h2 j c c' hc hc',fun id hid=>?_⟩⟩
   ·simp only [D.storable,List.all_eq_true] at hs ⊢
    intro x hx
    obtain ⟨j,hj,rfl⟩:=List.getElem_of_mem hx
    have hj' : j < cs.length:=by rw [<- h1]; exact hj
    exact zg1 (h2 j cs[j] r[j] (List.getElem?_eq_getElem hj') (List.getElem?_eq_getElem hj)) (hs _ (List.getElem_mem hj'))
   ·simp only [ids,List.mem_flatMap]
    exact ⟨c,by have:=List.mem_of_getElem? hc; exact this,hid⟩
 ·have hat : e.atom = true:=by
   cases e <;> first | exact hs | exact absurd ⟨_,rfl⟩ hag
  have hat':=zg1 h hat
  have c1 : e.cellsL = [e]:=by cases e <;> first | rfl | exact absurd ⟨_,rfl⟩ hag
  have c2 : e'.cellsL = [e']:=by cases e' <;> first | rfl | (simp [D.atom] at hat')
  refine ⟨by rw [c1,c2]; rfl,?_,fun j c c' hc hc'=>?_⟩
  ·cases e' <;> first | exact hat' | (simp [D.atom] at hat')
  ·rw [c1] at hc; rw [c2] at hc'
   cases j with
   | zero=>simp at hc hc'; subst hc; subst hc'; exact ⟨n,Nat.le_refl _,h,fun _ h=>h⟩
   | succ j=>simp at hc

theorem zbp {n : Nat} : ∀ {els els' : List D},frzL (frz os n) els = some els' -> (∀ x,x ∈ els -> x.storable = true) -> (flat els').length = (flat els).length /\
  (∀ (j : Nat) c c',(flat els)[j]? = some c -> (flat els')[j]? = some c' -> ∃ m,m <= n /\ frz os m c = some c' /\ ∀ id,id ∈ ids os m c -> id ∈ els.flatMap (ids os n)) /\
  ∀ su,(∀ x,x ∈ els -> x.cellsL.length = su) -> ∀ x,x ∈ els' -> x.cellsL.length = su /\ x.storable = true
 | [],els',h,_=>by simp [frzL] at h; subst h; exact ⟨rfl,fun j c c' h=>by simp [flat] at h,fun _ _ x h=>by simp at h⟩
 | e :: els,els',h,hs=>by
  simp only [frzL] at h
  cases e1 : frz os n e with
  | none=>simp [e1] at h
  | some d'=>cases e2 : frzL (frz os n) els with
   | none=>simp [e1,e2] at h
   | some r'=>
    simp [e1,e2] at h; subst h
    obtain ⟨h1,h2,h3⟩:=zbp e2 (fun x hx=>hs x (by simp [hx]))
    obtain ⟨g1,g2,g3⟩:=zm2 e1 (hs e (by simp))
    refine ⟨by simp only [z15,List.length_append,h1,g1],fun j c c' hc hc'=>?_,fun su hu x hx=>?_⟩
    ·rw [z15] at hc hc'
     by_cases hj : j < e.cellsL.length
     ·rw [List.getElem?_append_left hj] at hc
      rw [List.getElem?_append_left (by omega)] at hc'
      obtain ⟨m,m1,m2,m3⟩:=g3 j c c' hc hc'
      exact ⟨m,m1,m2,fun id hid=>by simp only [List.flatMap_cons,List.mem_append]; exact .inl (m3 id hid)⟩
     ·rw [List.getElem?_append_right (by omega)] at hc
      rw [List.getElem?_append_right (by omega),g1] at hc'
      obtain ⟨m,m1,m2,m3⟩:=h2 _ c c' hc hc'
      exact ⟨m,m1,m2,fun id hid=>by simp only [List.flatMap_cons,List.mem_append]; exact .inr (m3 id hid)⟩
    ·rcases List.mem_cons.1 hx with rfl | hx
     ·exact ⟨by rw [g1]; exact hu e (by simp),g2⟩
     ·exact h3 su (fun y hy=>hu y (by simp [hy])) x hx

theorem zbm (hrow : ∀ (id b c : Nat) cs,ρ id = some (.blk b c) -> rowOf os id = some cs -> RowAt φ ρ H hp b c cs) (hHH : ∀ b o,H b o -> H' b o) : ∀ (n : Nat) {v : Value} {d d' : D},Rep φ ρ H hp v d -> frz os n d = some d' ->
  (∀ id,id ∈ ids os n d -> ∀ cs b c,rowOf os id = some cs -> ρ id = some (.blk b c) -> ∀ j,j < cs.length -> H' b j) -> Rep φ ρ' H' hp v d':=by
 intro n
 induction n using Nat.strongRecOn with
 | _ n ih=>
 intro v d d' hv h hk
 cases n with
 | zero=>simp [frz] at h
 | succ n=>
  have ih' : ∀ m,m <= n -> ∀ {v : Value} {d d' : D},Rep φ ρ H hp v d -> frz os m d = some d' -> (∀ id,id ∈ ids os m d -> ∀ cs b c,rowOf os id = some cs -> ρ id = some (.blk b c) -> ∀ j,j < cs.length -> H' b j) -> Rep φ ρ' H' hp v d':=
   fun m hm=>ih m (by omega)
  cases hv with
  | undef=>simp [frz] at h
  | bool b=>simp [frz] at h; subst h; exact .bool b
  | int k x=>simp [frz] at h; subst h; exact .int k x
  | str s=>simp [frz] at h; subst h; exact .str s
  | nilp=>simp [frz] at h; subst h; exact .nilp
  | nilfn=>simp [frz] at h; subst h; exact .nilfn
  | mapn=>simp [frz] at h; subst h; exact .mapn
  | bfn f f' v d hf hr=>simp [frz] at h
  | map b c id hid=>simp [frz] at h
  | yld b c id hid=>simp [frz] at h
  | loc b c id off hid=>
   simp only [frz] at h
   split at h
   ·rename_i cs hr
    simp only [Option.map_eq_some_iff] at h
    obtain ⟨r,h1,rfl⟩:=h
    obtain ⟨g1,g2⟩:=z11 h1
    obtain ⟨arr,el,r1,r2,r3,r4,r5⟩:=hrow id b c cs hid hr
    have hK:=hk id (by simp [ids]) cs b c hr hid
    have hlen : r.length = cs.length - off:=by rw [g1]; simp
    refine .iptr b off r (fun j=>arr.toList.getD (off + j) Go.undef) (fun j hj=>⟨hK _ (by omega),?_⟩) (fun j d1 hd=>?_)
    ·have : off + j < arr.size:=by omega
     simp [cellOf,r1,this]
    ·have hj : j < r.length:=(List.getElem?_eq_some_iff.1 hd).1
     have hja : off + j < arr.size:=by omega
     have hjc : off + j < cs.length:=by omega
     have hc : (cs.drop off)[j]? = some cs[off + j]:=by rw [List.getElem?_drop,List.getElem?_eq_getElem hjc]
     have hf:=g2 j _ d1 hc hd
     have hr0:=r4 (off + j) arr[off + j] cs[off + j] (by simp [hja]) (List.getElem?_eq_getElem hjc)
     have : arr.toList.getD (off + j) Go.undef = arr[off + j]:=by simp [List.getD_eq_getElem?_getD,hja]
     rw [this]
     refine ih' n (Nat.le_refl _) hr0 hf (fun id' hid'=>hk id' ?_)
     simp only [ids,List.mem_cons,hr,List.mem_flatMap]
     exact .inr ⟨_,List.mem_of_getElem? hc,hid'⟩
   ·simp at h
  | iptr b off cells vs hH hr=>
   simp only [frz,Option.map_eq_some_iff] at h
   obtain ⟨r,h1,rfl⟩:=h
   obtain ⟨g1,g2⟩:=z11 h1
   refine .iptr b off r vs (fun j hj=>⟨hHH _ _ (hH j (by omega)).1,(hH j (by omega)).2⟩) (fun j d1 hd=>?_)
   have hj : j < cells.length:=by rw [<- g1]; exact (List.getElem?_eq_some_iff.1 hd).1
   have hc:=List.getElem?_eq_getElem hj
   refine ih' n (Nat.le_refl _) (hr j _ hc) (g2 j _ d1 hc hd) (fun id' hid'=>hk id' ?_)
   simp only [ids,List.mem_flatMap]
   exact ⟨_,List.mem_of_getElem? hc,hid'⟩
  | imm sp els a cap b off su vs hu hcap hex htok ha hH hr=>
   simp only [frz,Option.map_eq_some_iff] at h
   obtain ⟨r,h1,rfl⟩:=h
   obtain ⟨g1,g2⟩:=z11 h1
   obtain ⟨f1,f2,f3⟩:=zbp h1 (fun x hx=>(hu x hx).2)
   rw [<- g1]
   refine .imm .none r a cap b off su vs (f3 su (fun x hx=>(hu x hx).1)) (by omega) (fun h=>by cases h) (fun k h=>by cases h) (fun hne=>ha (fun e=>hne (by subst e; simpa using g1))) (fun j hj=>⟨hHH _ _ (hH j (by omega)).1,(hH j (by omega)).2⟩) (fun j d1 hd=>?_)
   have hj : j < (flat els).length:=by rw [<- f1]; exact (List.getElem?_eq_some_iff.1 hd).1
   have hc:=List.getElem?_eq_getElem hj
   obtain ⟨m,m1,m2,m3⟩:=f2 j _ d1 hc hd
   exact ih' m m1 (hr j _ hc) m2 (fun id' hid'=>hk id' (by simp only [ids]; exact m3 id' hid'))
  | sl id off len sz ag gr b c cap a hid hl ha hc=>
   simp only [frz] at h
   split at h
   ·rename_i cs hrow'
    split at h
    ·rename_i els hch
     simp only [Option.map_eq_some_iff] at h
     obtain ⟨r,h1,rfl⟩:=h
     obtain ⟨arr,el,r1,r2,r3,r4,r5⟩:=hrow id b c cs hid hrow'
     obtain ⟨c1,c2,c3,c4⟩:=z6v (fun d hd=>r5 d (List.mem_of_mem_drop hd)) hch
     obtain ⟨g1,g2⟩:=z11 h1
     obtain ⟨f1,f2,f3⟩:=zbp h1 (fun x hx=>(c4 x hx).2)
     have hK:=hk id (by simp [ids]) cs b c hrow' hid
     rw [List.length_drop] at c3
     have hfl : (flat els).length = len * sz:=by rw [c2]; simp; omega
     have hrl : r.length = len:=by rw [g1,c1]
     have hcell : ∀ j,j < len * sz -> (flat els)[j]? = some (cs[off + j]?.getD .undef) /\ off + j < cs.length:=by
      intro j hj
      have : off + j < cs.length:=by omega
      rw [c2,List.getElem?_take,if_pos hj,List.getElem?_drop,List.getElem?_eq_getElem this]
      simp [this]
     rw [<- hrl]
     refine .imm .none r a cap b off sz (fun j=>arr.toList.getD (off + j) Go.undef) (f3 sz (fun x hx=>(c4 x hx).1)) (by omega) (fun h=>by cases h) (fun k h=>by cases h) (fun hne=>ha (fun e=>hne (List.length_eq_zero_iff.1 (by omega)))) (fun j hj=>?_) (fun j d1 hd=>?_)
     ·rw [f1,hfl] at hj
      have h2:=(hcell j hj).2
      refine ⟨hK _ h2,?_⟩
      have : off + j < arr.size:=by omega
      simp [cellOf,r1,this]
     ·have hj : j < len * sz:=by rw [<- hfl,<- f1]; exact (List.getElem?_eq_some_iff.1 hd).1
      obtain ⟨e1,h2⟩:=hcell j hj
      have e2 : (flat els)[j]? = some cs[off + j]:=by rw [e1]; simp [h2]
      obtain ⟨m,m1,m2,m3⟩:=f2 j _ d1 e2 hd
      have hja : off + j < arr.size:=by omega
      have hr0:=r4 (off + j) arr[off + j] cs[off + j] (by simp [hja]) (List.getElem?_eq_getElem h2)
      have : arr.toList.getD (off + j) Go.undef = arr[off + j]:=by simp [List.getD_eq_getElem?_getD,hja]
      rw [this]
      refine ih' m m1 hr0 m2 (fun id' hid'=>?_)
      refine hk id' ?_
      simp only [ids,hrow',List.mem_cons,List.mem_flatMap]
      refine .inr ⟨cs[off + j],?_,zfx m1 hid'⟩
      refine List.mem_of_getElem? (i:=j) ?_
      rw [List.getElem?_take,if_pos hj,List.getElem?_drop,List.getElem?_eq_getElem h2]
    ·simp at h
   ·simp at h
  | fn f f' cvs caps hf hs hr=>
   simp only [frz,Option.map_eq_some_iff] at h
   obtain ⟨r,h1,rfl⟩:=h
   obtain ⟨g1,g2⟩:=z11 h1
   refine .fn f f' cvs r hf (by omega) (fun j v1 d1 hv1 hd=>?_)
   have hj : j < caps.length:=by rw [<- g1]; exact (List.getElem?_eq_some_iff.1 hd).1
   have hc:=List.getElem?_eq_getElem hj
   refine ih' n (Nat.le_refl _) (hr j v1 _ hv1 hc) (g2 j _ d1 hc hd) (fun id' hid'=>hk id' ?_)
   simp only [ids,List.mem_flatMap]
   exact ⟨_,List.mem_of_getElem? hc,hid'⟩
  | agg vs cs hs hr=>
   simp only [frz,Option.map_eq_some_iff] at h
   obtain ⟨r,h1,rfl⟩:=h
   obtain ⟨g1,g2⟩:=z11 h1
   refine .agg vs r (by omega) (fun j v1 d1 hv1 hd=>?_)
   have hj : j < cs.length:=by rw [<- g1]; exact (List.getElem?_eq_some_iff.1 hd).1
   have hc:=List.getElem?_eq_getElem hj
   refine ih' n (Nat.le_refl _) (hr j v1 _ hv1 hc) (g2 j _ d1 hc hd) (fun id' hid'=>hk id' ?_)
   simp only [ids,List.mem_flatMap]
   exact ⟨_,List.mem_of_getElem? hc,hid'⟩
  | tup vs cs hs hr=>
   simp only [frz,Option.map_eq_some_iff] at h
   obtain ⟨r,h1,rfl⟩:=h
   obtain ⟨g1,g2⟩:=z11 h1
   refine .tup vs r (by omega) (fun j v1 d1 hv1 hd=>?_)
   have hj : j < cs.length:=by rw [<- g1]; exact (List.getElem?_eq_some_iff.1 hd).1
   have hc:=List.getElem?_eq_getElem hj
   refine ih' n (Nat.le_refl _) (hr j v1 _ hv1 hc) (g2 j _ d1 hc hd) (fun id' hid'=>hk id' ?_)
   simp only [ids,List.mem_flatMap]
   exact ⟨_,List.mem_of_getElem? hc,hid'⟩

theorem zg4 (hrow : ∀ (id b c : Nat) cs,ρ id = some (.blk b c) -> rowOf os id = some cs -> RowAt φ ρ H hp b c cs) (hHH : ∀ b o,H b o -> H' b o) (n : Nat) {v : Value} {d d' : D} (hv : Rep φ ρ H hp v d) (h : frz1 os n d = some d')
  (hk : ∀ id,id ∈ ids os n d -> ∀ cs b c,rowOf os id = some cs -> ρ id = some (.blk b c) -> ∀ j,j < cs.length -> H' b j) : Rep φ ρ' H' hp v d':=by
 unfold frz1 at h
 split at h
 ·rename_i n els
  simp only [Option.map_eq_some_iff] at h
  obtain ⟨r,h1,rfl⟩:=h
  have h2 : frz os (n + 1) (.imm .exact els) = some (.imm .none r):=by simp only [frz,h1,Option.map_some]
  have h3 : Rep φ ρ' H' hp v (.imm .none r):=zbm hrow hHH (n + 1) hv h2 hk
  obtain ⟨g1,_⟩:=z11 h1
  obtain ⟨cap,a,e,hc⟩ : ∃ cap a,v = .slice a els.length cap /\ cap = els.length:=by
   cases hv with
   | imm _ _ a cap b off su vs hu hcap hex htok ha hH hr=>exact ⟨cap,a,rfl,hex rfl⟩
  subst e
  rw [<- g1] at h3 hc
  generalize hl : r.length = m at h3
  cases h3 with
  | imm _ _ _ _ b off su vs hu hcap hex htok ha hH hr=>
   rw [<- g1]
   exact .imm .exact r a cap b off su vs hu hcap (fun _=>hc) (fun k h=>by cases h) ha hH hr
 ·exact zbm hrow hHH n hv h hk

theorem zo7 (hrow : ∀ (id b c : Nat) cs,ρ id = some (.blk b c) -> rowOf os id = some cs -> RowAt φ ρ H hp b c cs) (hHH : ∀ b o,H b o -> H' b o) (n : Nat) {v : Value} {d d' : D} (hv : Rep φ ρ H hp v d) (h : frzX os n d = some d')
  (hk : ∀ id,id ∈ ids os n d -> ∀ cs b c,rowOf os id = some cs -> ρ id = some (.blk b c) -> ∀ j,j < cs.length -> H' b j) : Rep φ ρ' H' hp v d':=by
 unfold frzX at h
 split at h
 ·rename_i n cs
  simp only [Option.map_eq_some_iff] at h
  obtain ⟨r,h1,rfl⟩:=h
  obtain ⟨g1,g2⟩:=z11 h1
  cases hv with
  | tup vs _ hs hr=>
   refine .tup vs r (by omega) (fun j v1 d1 hv1 hd=>?_)
   have hj : j < cs.length:=by rw [<- g1]; exact (List.getElem?_eq_some_iff.1 hd).1
   have hc:=List.getElem?_eq_getElem hj
   refine zg4 hrow hHH n (hr j v1 _ hv1 hc) (g2 j _ d1 hc hd) (fun id' hid'=>hk id' ?_)
   simp only [ids,List.mem_flatMap]
   exact ⟨_,List.mem_of_getElem? hc,hid'⟩
 ·exact zg4 hrow hHH n hv h hk

theorem zo9 (hrow : ∀ (id b c : Nat) cs,ρ id = some (.blk b c) -> rowOf os id = some cs -> RowAt φ ρ H hp b c cs) (hHH : ∀ b o,H b o -> H' b o) (k : Bool) {v : Value} {d d' : D} (hv : Rep φ ρ H hp v d) (h : frzK k os d = some d')
  (hk : ∀ id,id ∈ ids os depth d -> ∀ cs b c,rowOf os id = some cs -> ρ id = some (.blk b c) -> ∀ j,j < cs.length -> H' b j) : Rep φ ρ' H' hp v d':=by
 cases k with
 | true=>exact zo7 hrow hHH depth hv h hk
 | false=>exact zbm hrow hHH depth hv h hk

end
end Dv

namespace Dv
open Go (Value Program World Act Oper Operand Code)

def stripOpd (F : Phi) : Operand -> Option Opd
 | .tmp t=>some (.t t)
 | .const (.agg cs)=>(ofClosedL cs.toList).map fun ds=>.c (.agg ds)
 | .const v=>(ofClosed v).map .c
 | .func f=>(F f).map .f
 | .global g=>(glTab.lookup g).map fun cs=>.c (.iptr (cs.map fun p=>.int p.1 p.2))

def stripL (F : Phi) : List Operand -> Option (List Opd)
 | []=>some []
 | x :: xs=>match stripOpd F x,stripL F xs with
  | some y,some ys=>some (y :: ys)
  | _,_=>none

def stripP (F : Phi) : List (Nat × Operand) -> Option (List (Nat × Opd))
 | []=>some []
 | (i,x) :: xs=>match stripOpd F x,stripP F xs with
  | some y,some ys=>some ((i,y) :: ys)
  | _,_=>none

def stripO (F : Phi) : Option Operand -> Option (Option Opd)
 | none=>some none
 | some x=>(stripOpd F x).map some

def o1 {α β : Type} (a : Option α) (f : α -> β) : Option β:=a.map f
def o2 {α β γ : Type} (a : Option α) (b : Option β) (f : α -> β -> γ) : Option γ:=match a,b with | some a,some b=>some (f a b) | _,_=>none
def o3 {α β γ δ : Type} (a : Option α) (b : Option β) (c : Option γ) (f : α -> β -> γ -> δ) : Option δ:=match a,b,c with | some a,some b,some c=>some (f a b c) | _,_,_=>none
def o4 {α β γ δ ε : Type} (a : Option α) (b : Option β) (c : Option γ) (d : Option δ) (f : α -> β -> γ -> δ -> ε) : Option ε:=match a,b,c,d with | some a,some b,some c,some d=>some (f a b c d) | _,_,_,_=>none

def stripOp (T F : Phi) : Go.Op -> Option DOp
 | .move x=>o1 (stripOpd F x) .move
 | .assign x=>o1 (stripOpd F x) .assign
 | .pick c a b=>o3 (stripOpd F c) (stripOpd F a) (stripOpd F b) .pick
 | .alloc t=>o1 (T t) .alloc
 | .box t x=>o2 (T t) (stripOpd F x) .box
 | .build t parts=>o2 (T t) (stripP F parts.toList) .build
 | .buildSlice t len parts=>o2 (T t) (stripP F parts.toList) fun t ps=>.bslice false t len ps
 | .load t a=>o2 (T t) (stripOpd F a) .load
 | .store t a x=>o3 (T t) (stripOpd F a) (stripOpd F x) .store
 | .binOp op t x y _=>o3 (T t) (stripOpd F x) (stripOpd F y) (.bin op)
 | .unOp op _ x=>o1 (stripOpd F x) (.un op)
 | .convert s d x=>o3 (T s) (T d) (stripOpd F x) .conv
 | .makeFunc (.func f) first caps=>if first.size = 0 then o2 (F f) (stripL F caps.toList) .mkfn else
   (match first.toList,caps.toList with
   | [x],[]=>o2 (F f) (stripOpd F x) .mkbfn
   | _,_=>none)
 | .makeMap t none=>o1 (T t) .mkmap
 | .makeSlice t l c=>o3 (T t) (stripOpd F l) (stripOpd F c) (.mkslice false)
 | .slice t x lo hi mx=>if mx.isSome = true /\ hi.isSome = false then none else
   (match T t,stripOpd F x,stripO F lo,stripO F hi,stripO F mx with
   | some t,some x,some lo,some hi,some mx=>some (.slice t x lo hi mx)
   | _,_,_,_,_=>none)
 | .fieldAddr t x f=>o2 (T t) (stripOpd F x) fun t x=>.faddr t x f
 | .field t x f=>o2 (T t) (stripOpd F x) fun t x=>.field t x f
 | .indexAddr t x i=>o3 (T t) (stripOpd F x) (stripOpd F i) .iaddr
 | .index t x i=>o3 (T t) (stripOpd F x) (stripOpd F i) .index
 | .lookup t m k ok=>o3 (T t) (stripOpd F m) (stripOpd F k) fun t m k=>.lookup t m k ok
 | .mapUpdate t m k v=>o4 (T t) (stripOpd F m) (stripOpd F k) (stripOpd F v) .mapset
 | .extract x i=>o1 (stripOpd F x) fun x=>.extract x i
 | .nilCheck x=>o1 (stripOpd F x) fun x=>.nilc x
 | .call { callee:=.value f,args,argTypes:=_ }=>o2 (stripOpd F f) (stripL F args.toList) (.call 0)
 | .call { callee:=.builtin .append,args,argTypes }=>(match args.toList,argTypes.toList with
  | [x,y],[t,t2]=>o4 (T t) (T t2) (stripOpd F x) (stripOpd F y) (.append 0)
  | _,_=>none)
 | .call { callee:=.builtin .len,args,argTypes }=>(match args.toList,argTypes.toList with
  | [x],[t]=>o2 (T t) (stripOpd F x) .len
  | _,_=>none)
 | .call { callee:=.builtin .max,args,argTypes:=_ }=>o1 (stripL F args.toList) .maxi
 | .call { callee:=.builtin .min,args,argTypes:=_ }=>o1 (stripL F args.toList) .mini
 | .call { callee:=.builtin .copy,args,argTypes }=>(match args.toList,argTypes.toList with
  | [x,y],[t,t2]=>o4 (T t) (T t2) (stripOpd F x) (stripOpd F y) .copy
  | _,_=>none)
 | .call { callee:=.builtin .clear,args,argTypes }=>(match args.toList,argTypes.toList with
  | [x],[t]=>o2 (T t) (stripOpd F x) .clr
  | _,_=>none)
 | _=>none

def eraseOp : DOp -> DOp
 | .bslice _ t len ps=>.bslice false t len ps
 | .mkslice _ t l c=>.mkslice false t l c
 | .append _ t t2 x y=>.append 0 t t2 x y
 | .call md f as=>.call (if md < 5 then 0 else md) f as
 | .b2s s d x=>.conv s d x
 | .s2b s d x=>.conv s d x
 | .mkcap t l c=>.mkslice false t l c
 | .reslice t x h=>.slice t x none (some h) none
 | .ibox t x=>.box t x
 | .mkcall f as=>.call 0 f as
 | .iload t a=>.load t a
 | op=>op

def stripGd (ops : List Oper) : Option (Nat × Bool) -> Option (Option (Nat × Bool))
 | none=>some none
 | some (j,b)=>(match ops[j]? with
  | some o=>(match o.dst with
   | some d=>some (some (d,b))
   | none=>none)
  | none=>none)

def stripOps (T F : Phi) (all : List Oper) : List Oper -> Option (List DOpr)
 | []=>some []
 | o :: os=>(match stripOp T F o.op,stripGd all o.guard,stripOps T F all os with
  | some op,some gd,some r=>some (⟨o.dst,op,gd⟩ :: r)
  | _,_,_=>none)

def eraseOps : List DOpr -> List DOpr
 | []=>[]
 | o :: os=>⟨o.dst,eraseOp o.op,o.gd⟩ :: eraseOps os

abbrev deadC : DC:=.cond (.c .undef) .skip .skip

structure AsgQ where
 t : Nat
 t' : Nat
 mt : Nat
 kt : Nat
 vt : Nat
 dE : Nat
 dX : Nat
 oE : Oper
 oX : Oper
 oS : Oper

def asgTail (q : AsgQ) : List DOpr:=
 [⟨some q.dX,.move (.c (.bool true)),none⟩,⟨some q.dE,.pick (.t q.dX) (.c (.bool true)) (.c (.bool true)),none⟩,⟨some q.dX,.pick (.t q.dE) (.c .undef) (.c .undef),none⟩,⟨some q.dE,.move (.c .undef),none⟩,
  ⟨none,.mapset q.t' (.t q.mt) (.t q.kt) (.t q.vt),none⟩]

def asgSplit : List Oper -> Option (List Oper × Oper × Oper × Oper)
 | [a,b,c]=>some ([],a,b,c)
 | x :: r=>(match asgSplit r with
  | some (l,p)=>some (x :: l,p)
  | none=>none)
 | []=>none
def asgQof (t' : Nat) (oE oX oS : Oper) : Option AsgQ:=
 match oE.op,oE.dst,oX.op,oX.dst,oS.op with
 | .mapEntry t (.tmp mt) (.tmp kt),some dE,.extract (.tmp dE') 1,some dX,.entryStore t2 (.tmp mt2) (.tmp dX') (.tmp vt)=>
  if dE = dE' /\ dX = dX' /\ t = t2 /\ mt = mt2 /\ oE.guard.isNone = true /\ oX.guard.isNone = true /\ oS.guard.isNone = true /\ oS.dst.isNone = true then some ⟨t,t',mt,kt,vt,dE,dX,oE,oX,oS⟩ else none
 | _,_,_,_,_=>none
def asgT (T : Phi) (oE : Oper) : Option Nat:=
 match oE.op with
 | .mapEntry t _ _=>T t
 | _=>none
def asgStrip (T F : Phi) (ops : List Oper) : Option (List DOpr):=
 match asgSplit ops with
 | some (pre,oE,oX,oS)=>(match stripOps T F ops pre,asgT T oE with
  | some p,some t'=>(match asgQof t' oE oX oS with
   | some q=>some (p ++ asgTail q)
   | none=>none)
  | _,_=>none)
 | none=>none

def stripC (T F : Phi) : Code -> Option DC
 | .skip=>some .skip
 | .region _ ops dr=>some (match stripOps T F ops.toList ops.toList with
  | some ds=>.region dr [] ds
  | none=>if dr = true then (match asgStrip T F ops.toList with
   | some ds=>.region false [] ds
   | none=>deadC) else deadC)
 | .seq a b=>o2 (stripC T F a) (stripC T F b) .seq
 | .cond c a b=>o3 (stripOpd F c) (stripC T F a) (stripC T F b) .cond
 | .block id a=>o1 (stripC T F a) (.block id)
 | .loop a=>o1 (stripC T F a) .loop
 | .rangeFunc f ps asg body=>o3 (stripOpd F f) (stripC T F asg) (stripC T F body) fun f a b=>.rfunc f ps.toList a b
 | .exit id=>some (.exit id)
 | .ret=>some .ret
 | _=>none

def eraseC : DC -> DC
 | .region dr _ ops=>.region dr [] (eraseOps ops)
 | .seq a b=>.seq (eraseC a) (eraseC b)
 | .cond c a b=>.cond c (eraseC a) (eraseC b)
 | .block id a=>.block id (eraseC a)
 | .loop a=>.loop (eraseC a)
 | .rfunc f ps asg body=>.rfunc f ps (eraseC asg) (eraseC body)
 | c=>c

section
variable {P : Program} {E : Env} {CL : CLink} {F : Phi} {T : Phi} {B : Nat} {ρ : Rho} {H : HS} {os : List Obj} {w : World} {a : Act} {sl : List D}

theorem z2e {t : Nat} (hs : RepL F ρ H w.heap a.tmps.toList sl) : Rep F ρ H w.heap (a.eval (.tmp t)) (getO sl (.t t)):=by
 simp only [Act.eval,getO]
 by_cases ht : t < sl.length
 ·obtain ⟨v,hv,hr⟩:=hs.get (List.getElem?_eq_getElem ht)
  have h1 : a.tmps.getD t Go.undef = v:=by
   have : a.tmps[t]? = some v:=by simpa using hv
   simp [Array.getD_eq_getD_getElem?,this]
  rw [h1,List.getD_eq_getElem?_getD,List.getElem?_eq_getElem ht]
  exact hr
 ·have ht' : sl.length <= t:=Nat.le_of_not_lt ht
  have h0 : a.tmps.size = sl.length:=by simpa using hs.1
  have h1 : a.tmps[t]? = none:=Array.getElem?_eq_none (by rw [h0]; exact ht')
  have h2 : sl[t]? = none:=List.getElem?_eq_none ht'
  rw [Array.getD_eq_getD_getElem?,h1,List.getD_eq_getElem?_getD,h2]
  exact .u0

theorem z6 (hB : HB H w.heap) {x : Operand} {y : Opd} (hs : RepL F ρ H w.heap a.tmps.toList sl) (h : stripOpd F x = some y) : Rep F ρ H w.heap (a.eval x) (getO sl y):=by
 unfold stripOpd at h
 split at h
 ·rename_i t
  simp at h; subst h
  exact z2e hs
 ·rename_i cs
  simp only [Option.map_eq_some_iff] at h
  obtain ⟨ds,h1,rfl⟩:=h
  have:=(z3w (φ:=F) (ρ:=ρ) (H:=H) (hp:=w.heap) h1).agg
  simpa [Act.eval,getO] using this
 ·simp only [Option.map_eq_some_iff] at h
  obtain ⟨d,h1,rfl⟩:=h
  exact z7d h1
 ·simp only [Option.map_eq_some_iff] at h
  obtain ⟨f',h1,rfl⟩:=h
  exact .fn _ f' #[] [] h1 rfl (fun j v d hv=>by simp at hv)
 ·rename_i g
  simp only [Option.map_eq_some_iff] at h
  obtain ⟨cs,h1,rfl⟩:=h
  simp only [Act.eval,getO]
  refine .iptr g 0 _ (fun j=>.int (cs[j]?.getD (.i64,0)).1 (cs[j]?.getD (.i64,0)).2) (fun j hj=>?_) (fun j d hd=>?_)
  ·have hj' : j < cs.length:=by simpa using hj
   have e:=hB.gl g cs h1 j (cs[j]).1 (cs[j]).2 (by simp [hj'])
   rw [Nat.zero_add]
   simpa [hj'] using e
  ·rw [List.getElem?_map] at hd
   cases hc : cs[j]? with
   | none=>rw [hc] at hd; simp at hd
   | some p=>
    rw [hc] at hd
    simp only [Option.map_some,Option.some.injEq] at hd
    subst hd
    exact .int _ _

theorem z3n (hB : HB H w.heap) {xs : List Operand} {ys : List Opd} (hs : RepL F ρ H w.heap a.tmps.toList sl) (h : stripL F xs = some ys) : RepL F ρ H w.heap (xs.map a.eval) (ys.map (getO sl)):=by
 induction xs generalizing ys with
 | nil=>simp [stripL] at h; subst h; exact .nil
 | cons x xs ih=>
  simp only [stripL] at h
  cases h1 : stripOpd F x with
  | none=>simp [h1] at h
  | some y=>cases h2 : stripL F xs with
   | none=>simp [h1,h2] at h
   | some ys'=>simp [h1,h2] at h; subst h; exact .cons (z6 hB hs h1) (ih h2)

theorem zdd (hB : HB H w.heap) {xs : List (Nat × Operand)} {ys : List (Nat × Opd)} (hs : RepL F ρ H w.heap a.tmps.toList sl) (h : stripP F xs = some ys) : RepP F ρ H w.heap (xs.map fun p=>(p.1,a.eval p.2)) (ys.map fun p=>(p.1,getO sl p.2)):=by
 induction xs generalizing ys with
 | nil=>simp [stripP] at h; subst h; exact ⟨rfl,.nil⟩
 | cons x xs ih=>
  obtain ⟨i,x⟩:=x
  simp only [stripP] at h
  cases h1 : stripOpd F x with
  | none=>simp [h1] at h
  | some y=>cases h2 : stripP F xs with
   | none=>simp [h1,h2] at h
   | some ys'=>
    simp [h1,h2] at h; subst h
    obtain ⟨e1,e2⟩:=ih h2
    exact ⟨by simp only [List.map_cons,e1],by simp only [List.map_cons]; exact .cons (z6 hB hs h1) e2⟩

theorem z96 (hB : HB H w.heap) {x : Option Operand} {y : Option Opd} (hs : RepL F ρ H w.heap a.tmps.toList sl) (h : stripO F x = some y) : RepO F ρ H w.heap (x.map a.eval) (y.map (getO sl)):=by
 cases x with
 | none=>simp [stripO] at h; subst h; trivial
 | some x=>
  simp only [stripO,Option.map_eq_some_iff] at h
  obtain ⟨z,h1,rfl⟩:=h
  exact z6 hB hs h1

end
end Dv
