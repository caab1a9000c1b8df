/- Texts that a proof of this claim uses, joined: Dv.Core, Dv.Prim, Dv.Glob, Dv.Rel, Dv.Val, Dv.Val2, Dv.Val3, Dv.Val4, Dv.Val5, Dv.Val6, Dv.Val7, Dv.Val8, Dv.Objs, Dv.Alloc, Dv.Alloc2, Dv.Append, Dv.Append2, Dv.Append3, Dv.Append4, Dv.Append5, Dv.Write, Dv.Write2, Dv.Write3, Dv.Write4, Dv.Ext, Dv.Snap, Dv.Strip. -/
import GoSem.Step
import Derived.OrdersIn
import Derived.RangeFuncLeaves
import Derived.Laws.StructEq
import Derived.IntWalk
import Derived.Laws.IdiomStrings
set_option linter.all false
open Array renaming getD_eq_getD_getElem?->ay,getElem?_eq_getElem->bO,getElem?_eq_some_iff->aG,getElem?_modify->cw,getElem?_push->ct,getElem?_toList->eD,length_toList->cF,range->dD,size_append->gx,size_map->lr,size_range->kL,toList_append->cu,toList_push->ky
open BitVec renaming ofInt->cp
open Bool renaming and_eq_true->ar,false_eq_true->aP,not_false->jx
open ByteArray renaming empty->jf
open ByteArray.toList renaming loop->gV
open Go renaming Addr->cB,BinOp->ik,Field->eK,IntKind->aZ,MapEntry->br,Obj->dR,Result->gW,Sem->fp,TypeDesc->nJ,TypeInfo->kH,asIntOf->ep,binOp->cz,convert->jN,eqGuard->jM,fieldPlace->mc,getObj->ew,goInt->iV,grownCap->kI,isAgg->eL,loadCells->gY,loadCellsFrom->eY,newVar->lN,run_askRoom->jw,run_choose->mg,run_equalIn_bool'->gZ,sizeOf->f7,storeCells->dG,typeInfo->nI,undef->bj,underlying->jR,zeroValue->cV
open Go.Builtin renaming append_->bM,clear_->iM,copy_->gO,firstCells->aM,growBy->kx,lenOf->fd,len_->eC,max2->kY,max_->kX,min2->k5,min_->kZ,nextslicecap->fk,zeroCells->bW
open Go.Instr renaming alloc->lq,box->iY,build->jv,buildSlice->fQ,checkKey->cG,field->lm,fieldAt->iU,fill->mf,findAsking->fi,findKey->e8,findNow->e9,index->jt,indexAt->fF,keyThatStays->jy,loadAt->fU,lookup->g7,makeMap->kK,makeSlice->dH,mapUpdate->iy,sameNow->gM,slice->js,sliceAt->ej,sliceBound->dz,sliceBounds->eO,storeAt->kM,sureAddr->db
open Go.IntKind renaming i64->aw
open Go.IntWalk renaming i64_in->gw
open Go.Op renaming equal->jk,intArith->il,intBits->iI,intCmp->f8,intDiv->mO,maxDepth->ju,shift->nK,stringOp->lp,unary->jl
open Go.Question renaming appendCap->pM,forced->rV
open Go.Result renaming andThen_ok->al
open Go.Sem renaming run->er,run_bind->ax,run_ite->ip,run_map->io,run_pure->aK
open Int renaming eq_ofNat_of_zero_le->gt,mul_comm->mP,mul_le_mul_of_nonneg_left->ec,not_lt->rk,toNat_natCast->ci
open List renaming all_cons->gI,all_eq_true->aD,append_assoc->a8,append_nil->bZ,eq_of_mem_replicate->iX,ext_getElem?->cx,flatMap_cons->bD,foldlM->nL,foldl_cons->du,getD_eq_getElem?_getD->aj,getElem?_append_left->aB,getElem?_append_right->aF,getElem?_cons_succ->cM,getElem?_cons_zero->cA,getElem?_drop->bX,getElem?_eq_getElem->ae,getElem?_eq_none->be,getElem?_eq_some_iff->ac,getElem?_map->bK,getElem?_range->ee,getElem?_set->bn,getElem?_set_ne->bl,getElem?_take->aU,getElem?_toArray->bT,getElem_mem->aC,getElem_of_mem->ig,length_append->ak,length_cons->aA,length_drop->cq,length_eq_zero_iff->bB,length_map->ao,length_nil->ba,length_pos_iff->fj,length_take->aI,map_cons->av,mem_append->aN,mem_cons->az,mem_cons_of_mem->bI,mem_flatMap->bJ,mem_map->aT,mem_of_getElem?->aX,mem_of_mem_drop->eP,mem_of_mem_take->dh,mem_or_eq_of_mem_set->iQ,mem_singleton->fq,range->cO,replicate->af,set_append_right->cH,set_cons_succ->iv,size_toArray->bL,take_append_drop->bp,take_append_of_le_length->bG,take_length->aS,take_of_length_le->bg
open List.cons renaming injEq->bF
open Nat renaming add_assoc->d8,add_mul->bo,add_zero->cU,eq_zero_or_pos->bR,le_of_eq->cW,le_refl->ai,le_succ->eu,le_trans->aJ,lt_irrefl->dF,lt_of_lt_of_le->aR,lt_of_not_le->iT,lt_or_ge->bU,min->c9,min_zero->ke,mul_eq_zero->je,mul_le_mul_left->jW,mul_le_mul_right->bw,mul_one->dA,ne_of_lt->fB,zero_add->bA,zero_mul->eZ
open Ne renaming symm->eU
open Option renaming getD_some->cC,isSome_iff_exists->f9,map_eq_some_iff->ab,map_none->aV,map_some->aq
open Option.some renaming injEq->aa
open Prod.mk renaming injEq->au
open UInt8 renaming ofNat->bi
namespace Dv
open Go (IntKind BinOp UnOp)

inductive y13 where
 |exact
 |none
 |tok (k:Nat)

inductive D where
 |undef
 |bool (b:Bool)
 |int (k:IntKind) (n:Int)
 |str (s:List UInt8)
 |nilp
 |loc (id off:Nat)
 |iptr (cells:List D)
 |imm (sp:y13) (els:List D)
 |sl (id off len sz:Nat) (ag gr:Bool)
 |map (id:Option Nat)
 |fn (f:Nat) (caps:List D)
 |bfn (f:Nat) (r:D)
 |nilfn
 |yld (id:Nat)
 |agg (cells:List D)
 |tup (vs:List D)

instance:Inhabited D:=⟨.undef⟩

inductive TK where
 |bool
 |int (k:IntKind)
 |str
 |slice (e:Nat)
 |struct (fs:List (Nat × Nat))
 |arr (n e:Nat)
 |map (k e:Nat)
 |ptr (e:Nat)
 |func
 |other

structure TI where
 k:TK
 size:Nat
 bytes:Nat
 zero:List D
 eqc:Bool

instance:Inhabited TI:=⟨⟨.other,0,0,[],false⟩⟩

def TI.ag(i:TI):Bool:=
 match i.k with
 |.struct _=>true
 |.arr _ _=>true
 |_=>false

inductive Opd where
 |t (n:Nat)
 |c (d:D)
 |f (k:Nat)

inductive DOp where
 |move (x:Opd)
 |assign (x:Opd)
 |pick (c a b:Opd)
 |alloc (t:Nat)
 |box (t:Nat) (x:Opd)
 |build (t:Nat) (parts:List (Nat × Opd))
 |bslice (mu:Bool) (t len:Nat) (parts:List (Nat × Opd))
 |load (t:Nat) (a:Opd)
 |store (t:Nat) (a x:Opd)
 |bin (op:BinOp) (t:Nat) (x y:Opd)
 |un (op:UnOp) (x:Opd)
 |conv (src dst:Nat) (x:Opd)
 |mkfn (f:Nat) (caps:List Opd)
 |mkmap (t:Nat)
 |mkslice (mu:Bool) (t:Nat) (l c:Opd)
 |slice (t:Nat) (x:Opd) (lo hi mx:Option Opd)
 |faddr (t:Nat) (x:Opd) (f:Nat)
 |field (t:Nat) (x:Opd) (f:Nat)
 |iaddr (t:Nat) (x i:Opd)
 |index (t:Nat) (x i:Opd)
 |lookup (t:Nat) (m k:Opd) (ok:Bool)
 |mapset (t:Nat) (m k v:Opd)
 |extract (x:Opd) (i:Nat)
 |call (md:Nat) (f:Opd) (args:List Opd)
 |append (mu:Nat) (t t2:Nat) (x y:Opd)
 |len (t:Nat) (x:Opd)
 |maxi (args:List Opd)
 |mini (args:List Opd)
 |copy (t t2:Nat) (x y:Opd)
 |nilc (x:Opd)
 |mark (b:Bool) (x:Opd)
 |b2s (s d:Nat) (x:Opd)
 |s2b (s d:Nat) (x:Opd)
 |mkcap (t:Nat) (l c:Opd)
 |reslice (t:Nat) (x h:Opd)
 |clr (t:Nat) (x:Opd)
 |ibox (t:Nat) (x:Opd)
 |iload (t:Nat) (a:Opd)
 |mkbfn (f:Nat) (x:Opd)
 |mkcall (f:Opd) (as:List Opd)
 |prim (n:Nat) (as:List Opd)

structure y1a where
 dst:Option Nat
 op:DOp
 gd:Option (Nat × Bool)

inductive DC where
 |skip
 |region (dr:Bool) (ap:List (Nat × Nat)) (ops:List y1a)
 |seq (a b:DC)
 |cond (c:Opd) (a b:DC)
 |ifp (x:Opd) (a b:DC)
 |block (id:Nat) (a:DC)
 |loop (a:DC)
 |rfunc (f:Opd) (ps:List Nat) (asg body:DC)
 |exit (id:Nat)
 |ret

inductive RV where
 |tmp (t:Nat)
 |cell (a t:Nat)

structure DFn where
 ntmps:Nat
 results:List RV
 body:DC

inductive Ex where
 |normal
 |exit (id:Nat)
 |ret

inductive Obj where
 |dead
 |cells (cs:List D)
 |frozen (cs:List D)
 |tok (used sz:Nat)
 |map (es:List (D × D))
 |loop (busy:Bool) (y1u:List D) (ps:List Nat) (asg body:DC) (pend:Option Ex)

structure Env where
 ty:Nat->TI
 fn:Nat->Option DFn
 keep:Nat->Bool
 mp:Nat->Bool:=fun _=>false
 prim:Nat->List D->List Obj->Option (D × List Obj):=fun _ _ _=>none

structure St where
 sl:List D
 hp:List Obj


def D.flatB:D->Bool
 |.bool _=>true
 |.int _ _=>true
 |.str _=>true
 |_=>false

def D.closed:D->Bool
 |.tup l=>l.all D.flatB
 |d=>d.flatB

def D.atom:D->Bool
 |.agg _=>false
 |.tup _=>false
 |.undef=>false
 |_=>true

def D.cellsL:D->List D
 |.agg cs=>cs
 |d=>[d]

def D.storable:D->Bool
 |.agg cs=>cs.all D.atom
 |d=>d.atom

def yk(ag:Bool)(cs:List D):Option D:=
 match ag,cs with
 |true,cs=>some (.agg cs)
 |false,[c]=>some c
 |false,_=>none

def y1x(cs:List D)(off:Nat):Nat->Option (List D)
 | 0=>some []
 |n+1=>match cs[off]? with
  |some c=>(match y1x cs (off+1) n with
   |some r=>some (c::r)
   |none=>none)
  |none=>none

def setCells(cs:List D)(off:Nat):List D->List D
 |[]=>cs
 |v::vs=>setCells (cs.set off v) (off+1) vs

def y3a(sz:Nat)(ag:Bool):Nat->List D->Option (List D)
 | 0,_=>some []
 |n+1,cs=>match y1x cs 0 sz with
  |some c=>(match yk ag c,y3a sz ag n (cs.drop sz) with
   |some d,some r=>some (d::r)
   |_,_=>none)
  |none=>none

def yi(els:List D):List D:=els.flatMap D.cellsL

def y20:D->D->Option Bool
 |.bool a,.bool b=>some (a == b)
 |.int k a,.int k' b=>if k=k' then some (a == b) else none
 |.str a,.str b=>some (a == b)
 |_,_=>none

def eqL:List D->List D->Option Bool
 |[],[]=>some true
 |x::xs,y::ys=>(match y20 x y,eqL xs ys with
  |some a,some b=>some (a && b)
  |_,_=>none)
 |_,_=>none

def D.eqb:D->D->Option Bool
 |.agg xs,.agg ys=>eqL xs ys
 |x,y=>y20 x y

def y18(k:D):List (D × D)->Option (Option D)
 |[]=>some none
 |e::es=>match k.eqb e.1 with
  |some true=>some (some e.2)
  |some false=>y18 k es
  |none=>none

def y1j(k v:D):List (D × D)->Option (List (D × D))
 |[]=>some [(k,v)]
 |e::es=>match k.eqb e.1 with
  |some true=>some ((k,v)::es)
  |some false=>(y1j k v es).map (e :: ·)
  |none=>none

def ybe(k:IntKind)(a b:Int):Int:=k.wrap ((cp k.bits a &&& cp k.bits b).toNat:Nat)
def yam(k:IntKind)(a b:Int):Int:=k.wrap ((cp k.bits a ||| cp k.bits b).toNat:Nat)
def y8d(k:IntKind)(a b:Int):Int:=k.wrap ((cp k.bits a ^^^ cp k.bits b).toNat:Nat)

def y2p(op:BinOp)(k:IntKind)(a b:Int):Option D:=
 match op with
 |.and=>some (.int k (ybe k a b))
 |.or=>some (.int k (yam k a b))
 |.xor=>some (.int k (y8d k a b))
 |.add=>some (.int k (k.wrap (a+b)))
 |.sub=>some (.int k (k.wrap (a - b)))
 |.mul=>some (.int k (k.wrap (a*b)))
 |.quo=>if b=0 then none else some (.int k (k.wrap (a.tdiv b)))
 |.rem=>if b=0 then none else some (.int k (a.tmod b))
 |.eql=>some (.bool (a == b))
 |.neq=>some (.bool (a != b))
 |.lss=>some (.bool (decide (a<b)))
 |.leq=>some (.bool (decide (a<=b)))
 |.gtr=>some (.bool (decide (b<a)))
 |.geq=>some (.bool (decide (b<=a)))
 |_=>none

def y1r:List D->List D->Bool
 |[],[]=>true
 |.bool _::xs,.bool _::ys=>y1r xs ys
 |.int k _::xs,.int k' _::ys=>decide (k=k') && y1r xs ys
 |.str _::xs,.str _::ys=>y1r xs ys
 |_,_=>false

def y2l(E:Env)(op:BinOp)(t:Nat)(x y:D):Option D:=
 match x,y with
 |.int k a,.int k' b=>(match op with
  |.shl=>if 0<=b then some (.int k (k.wrap (a*2 ^ (min b.toNat k.bits)))) else none
  |.shr=>if 0<=b then some (.int k (a.fdiv (2 ^ (min b.toNat k.bits)))) else none
  |op=>if k=k' then y2p op k a b else none)
 |.bool a,.bool b=>(match (E.ty t).k,op with
  |.bool,.eql=>some (.bool (a == b))
  |.bool,.neq=>some (.bool (!(a == b)))
  |_,_=>none)
 |.agg xs,.agg ys=>if(E.ty t).eqc=true/\y1r xs (E.ty t).zero=true then(match op,eqL xs ys with
  |.eql,some r=>some (.bool r)
  |.neq,some r=>some (.bool (!r))
  |_,_=>none) else none
 |.str a,.str b=>(match op with
  |.eql=>some (.bool (a == b))
  |.neq=>some (.bool (!(a == b)))
  |_=>none)
 |_,_=>none

def unD(op:UnOp)(x:D):Option D:=
 match op,x with
 |.not,.bool b=>some (.bool (!b))
 |.xor,.int k n=>some (.int k (y8d k (if k.signed then -1 else k.max) n))
 |.neg,.int k n=>some (.int k (k.wrap (0 - n)))
 |_,_=>none

def y2v(E:Env)(src dst:Nat)(x:D):Option D:=
 match (E.ty src).k,(E.ty dst).k,x with
 |.int _,.int k,.int _ n=>some (.int k (k.wrap n))
 |_,_,_=>none

def bnd(x:Option D)(dflt:Nat):Option Nat:=
 match x with
 |none=>some dflt
 |some (.int _ n)=>if 0<=n then some n.toNat else none
 |some _=>none

def yo(E:Env)(hp:List Obj)(t:Nat)(a:D):Option D:=
 match a with
 |.loc id off=>(match hp[id]? with
  |some (.cells cs)=>(y1x cs off (E.ty t).size).bind (yk (E.ty t).ag)
  |some (.frozen cs)=>(y1x cs off (E.ty t).size).bind (yk (E.ty t).ag)
  |_=>none)
 |.iptr cs=>(y1x cs 0 (E.ty t).size).bind (yk (E.ty t).ag)
 |_=>none

def y5j(E:Env)(t:Nat)(a:D):Option D:=
 match a with
 |.iptr cs=>(y1x cs 0 (E.ty t).size).bind (yk (E.ty t).ag)
 |_=>none

def y29(E:Env)(t:Nat)(x i:D):Option D:=
 match x,i,(E.ty t).k with
 |.imm _ els,.int _ n,.slice e=>
  if 0<=n then(match els[n.toNat]? with
   |some d=>if d.cellsL.length=(E.ty e).size then some (.iptr d.cellsL) else none
   |none=>none) else none
 |.sl id off len sz _ _,.int _ n,.slice e=>
  if 0<=n/\n<len/\sz=(E.ty e).size then some (.loc id (off+n.toNat*sz)) else none
 |.loc id off,.int _ n,.arr len e=>
  if 0<=n/\n<len then some (.loc id (off+n.toNat*(E.ty e).size)) else none
 |.iptr cs,.int _ n,.arr len e=>
  if 0<=n/\n<len then some (.iptr (cs.drop (n.toNat*(E.ty e).size))) else none
 |_,_,_=>none

def y1c(sp:y13)(len hi:Nat)(mx:Option Nat):y13:=
 match mx with
 |some m=>if m=hi then .exact else .none
 |none=>if hi=len then(match sp with | .exact=>.exact | _=>.none) else .none

def y53(sz:Nat)(els:List D):Bool:=
 match els with
 |[]=>true
 |d::_=>d.cellsL.length == sz

def y15(E:Env)(t:Nat)(x:D)(lo hi mx:Option D):Option D:=
 match x,(E.ty t).k with
 |.imm sp els,.slice e=>
  (match bnd lo 0,bnd hi els.length,bnd mx els.length with
  |some l,some h,some m=>
   if l<=h/\h<=m/\m<=els.length/\y53 (E.ty e).size els=true then some (.imm (y1c sp els.length h (mx.map fun _=>m)) ((els.drop l).take (h - l))) else none
  |_,_,_=>none)
 |.sl id off len sz ag _,.slice e=>
  (match bnd lo 0,bnd hi len,mx with
  |some l,some h,none=>if l<=h/\h<=len/\sz=(E.ty e).size then some (.sl id (off+l*sz) (h - l) sz ag false) else none
  |_,_,_=>none)
 |.loc id off,.arr n e=>
  (match bnd lo 0,bnd hi n,mx with
  |some l,some h,none=>if l<=h/\h<=n then some (.sl id (off+l*(E.ty e).size) (h - l) (E.ty e).size (E.ty e).ag false) else none
  |_,_,_=>none)
 |.iptr cs,.arr n e=>
  (match bnd lo 0,bnd hi n,mx with
  |some l,some h,none=>if l<=h/\h<=n/\n<=cs.length/\(E.ty e).size=1/\cs.all (fun d=>d.atom)=true then some (.imm .none ((cs.drop l).take (h - l))) else none
  |_,_,_=>none)
 |_,_=>none

def y5z(place:Nat->Option (Nat × Nat))(cells:List D):List (Nat × D)->Option (List D)
 |[]=>some cells
 |p::rest=>match place p.1 with
  |none=>none
  |some (off,size)=>
   if p.2.storable=true/\p.2.cellsL.length=size/\off+size<=cells.length then y5z place (setCells cells off p.2.cellsL) rest else none

def y6u(E:Env)(t:Nat)(parts:List (Nat × D)):Option D:=
 match (E.ty t).k with
 |.struct fs=>(y5z (fun i=>(fs[i]?).map fun f=>(f.1,(E.ty f.2).size)) (E.ty t).zero parts).map .agg
 |.arr _ e=>(y5z (fun i=>some (i*(E.ty e).size,(E.ty e).size)) (E.ty t).zero parts).map .agg
 |_=>none

def y6j(sz:Nat)(els:List D):List (Nat × D)->Option (List D)
 |[]=>some els
 |p::rest=>
   if p.2.storable=true/\p.2.cellsL.length=sz/\p.1<els.length then y6j sz (els.set p.1 p.2) rest else none

def y8j(E:Env)(t:Nat)(x:D)(f:Nat):Option D:=
 match (E.ty t).k,x with
 |.struct fs,.agg cs=>(match fs[f]? with
  |some (off,u)=>(y1x cs off (E.ty u).size).bind (yk (E.ty u).ag)
  |none=>none)
 |_,_=>none

def y5k(E:Env)(t:Nat)(x:D)(f:Nat):Option D:=
 match (E.ty t).k,x with
 |.struct fs,.loc id off=>(match fs[f]? with
  |some (o,u)=>if(E.ty u).size=0 then none else some (.loc id (off+o))
  |none=>none)
 |.struct fs,.iptr cs=>(match fs[f]? with
  |some (o,u)=>if(E.ty u).size=0 then none else some (.iptr (cs.drop o))
  |none=>none)
 |_,_=>none

def y5w(E:Env)(t:Nat)(x i:D):Option D:=
 match (E.ty t).k,x,i with
 |.arr len e,.agg cs,.int _ n=>if 0<=n/\n<len then(y1x cs (n.toNat*(E.ty e).size) (E.ty e).size).bind (yk (E.ty e).ag) else none
 |.str,.str s,.int _ n=>if 0<=n then(match s[n.toNat]? with | some b=>some (.int .u8 b.toNat) | none=>none) else none
 |_,_,_=>none

def y6s(E:Env)(hp:List Obj)(t:Nat)(x:D):Option D:=
 match (E.ty t).k,x with
 |.slice _,.imm _ els=>some (.int .i64 els.length)
 |.slice _,.sl _ _ len _ _ _=>some (.int .i64 len)
 |.str,.str s=>some (.int .i64 s.length)
 |.arr n _,_=>some (.int .i64 n)
 |.map _ _,.map none=>some (.int .i64 0)
 |.map _ _,.map (some id)=>(match hp[id]? with
  |some (.map es)=>some (.int .i64 es.length)
  |_=>none)
 |_,_=>none

def y86(f:Int->Int->Int)(k:IntKind)(a:Int):List D->Option D
 |[]=>some (.int k a)
 |.int k' b::r=>if k=k' then y86 f k (f a b) r else none
 |_::_=>none

def y7i:List D->Option D
 |.int k a::r=>y86 (fun a b=>if b > a then b else a) k a r
 |_=>none

def y8u:List D->Option D
 |.int k a::r=>y86 (fun a b=>if b<a then b else a) k a r
 |_=>none

def y4d(E:Env)(kt:Nat)(k:D):Bool:=
 match k,(E.ty kt).k with
 |.agg xs,_=>(E.ty kt).eqc && y1r xs (E.ty kt).zero
 |.bool _,.bool=>true
 |.int q _,.int q'=>decide (q=q')
 |.str _,.str=>true
 |_,_=>false

def y22(E:Env)(e:Nat):Option D:=
 if(E.ty e).zero.length=(E.ty e).size/\(E.ty e).size ≠ 0 then(match yk (E.ty e).ag (E.ty e).zero with
  |some z=>if z.cellsL.length=(E.ty e).size/\z.storable=true then some z else none
  |none=>none) else none

def y23(E:Env)(hp:List Obj)(t:Nat)(m k:D)(ok:Bool):Option D:=
 match (E.ty t).k,m with
 |.map kt e,.map mid=>
  if y4d E kt k=true then
  (match (match mid with
   |none=>some []
   |some id=>(match hp[id]? with
    |some (.map es)=>some es
    |_=>none)) with
  |some es=>(match y18 k es with
   |some (some v)=>some (if ok then .tup [v,.bool true] else v)
   |some none=>(match y22 E e with
     |some z=>some (if ok then .tup [z,.bool false] else z)
     |none=>none)
   |none=>none)
  |none=>none) else none
 |_,_=>none


def yz(hp:List Obj)(id:Nat):Option (List D):=
 match hp[id]? with
 |some (.cells cs)=>some cs
 |some (.frozen cs)=>some cs
 |_=>none

def y1p(f:D->Option D):List D->Option (List D)
 |[]=>some []
 |d::r=>match f d,y1p f r with
  |some d',some r'=>some (d'::r')
  |_,_=>none

def frz(hp:List Obj):Nat->D->Option D
 | 0,_=>none
 |n+1,d=>match d with
  |.bool b=>some (.bool b)
  |.int k x=>some (.int k x)
  |.str s=>some (.str s)
  |.nilp=>some .nilp
  |.nilfn=>some .nilfn
  |.map none=>some (.map none)
  |.imm _ els=>(y1p (frz hp n) els).map (.imm .none)
  |.agg cs=>(y1p (frz hp n) cs).map .agg
  |.tup cs=>(y1p (frz hp n) cs).map .tup
  |.fn f caps=>(y1p (frz hp n) caps).map (.fn f)
  |.iptr cs=>(y1p (frz hp n) cs).map .iptr
  |.sl id off len sz ag _=>(match yz hp id with
   |some cs=>(match y3a sz ag len (cs.drop off) with
    |some els=>(y1p (frz hp n) els).map (.imm .none)
    |none=>none)
   |none=>none)
  |.loc id off=>(match yz hp id with
   |some cs=>(y1p (frz hp n) (cs.drop off)).map .iptr
   |none=>none)
  |_=>none

def y9y(hp:List Obj):Nat->D->Option D
 |n+1,.imm .exact els=>(y1p (frz hp n) els).map (.imm .exact)
 |n,d=>frz hp n d

def yba(hp:List Obj):Nat->D->Option D
 |n+1,.tup cs=>(y1p (y9y hp n) cs).map .tup
 |n,d=>y9y hp n d

def ids(hp:List Obj):Nat->D->List Nat
 | 0,_=>[]
 |n+1,d=>match d with
  |.imm _ els=>els.flatMap (ids hp n)
  |.agg cs=>cs.flatMap (ids hp n)
  |.tup cs=>cs.flatMap (ids hp n)
  |.fn _ caps=>caps.flatMap (ids hp n)
  |.iptr cs=>cs.flatMap (ids hp n)
  |.sl id off len sz _ _=>id::(match yz hp id with
   |some cs=>((cs.drop off).take (len*sz)).flatMap (ids hp n)
   |none=>[])
  |.loc id off=>id::(match yz hp id with
   |some cs=>(cs.drop off).flatMap (ids hp n)
   |none=>[])
  |_=>[]

def y24(hp:List Obj)(id:Nat):List Obj:=
 match hp[id]? with
 |some (.cells cs)=>hp.set id (.frozen cs)
 |_=>hp

def yv(hp:List Obj)(l:List Nat):List Obj:=l.foldl y24 hp

def depth:Nat:=12

def yao(b:Bool)(hp:List Obj)(d:D):Option D:=match b with
 |true=>yba hp depth d
 |false=>frz hp depth d


def yn(sl:List D):Opd->D
 |.t n=>sl.getD n .undef
 |.c d=>d
 |.f k=>.fn k []

def y1y(hp:List Obj)(id:Nat)(o:Obj):List Obj:=if id<hp.length then hp.set id o else hp++[o]

def y12(hp:List Obj)(sz:Nat)(ag:Bool)(d:D):Option (List D):=
 match d with
 |.imm _ els=>if els.all (fun d=>d.storable && d.cellsL.length == sz) then some els else none
 |.sl id off len sz' _ _=>if sz=sz' then(match yz hp id with
  |some cs=>y3a sz ag len (cs.drop off)
  |none=>none) else none
 |_=>none

def yg:Nat:=17592186044416

def y2u(sz:Nat)(els:List D):Bool:=els.all fun d=>d.storable && d.cellsL.length == sz

structure Ef where
 d:D
 new:Option Obj
 kill:Option Nat

abbrev ya(b:UInt8):D:=.int .u8 b.toNat

def y2m(E:Env)(hp:List Obj)(id:Nat)(e:Nat)(sp:y13)(els new:List D):Option Ef:=
   if(els.length+new.length)*((E.ty e).bytes+1)<=yg/\(E.ty e).bytes<=65536/\(y22 E e).isSome=true/\y2u (E.ty e).size els=true then
    (match sp with
    |.exact=>some ⟨.imm (.tok id) (els++new),some (.tok ((els.length+new.length)*(E.ty e).size) (E.ty e).size),none⟩
    |.tok k=>(match hp[k]? with
     |some (.tok used sz)=>if used=els.length*(E.ty e).size/\sz=(E.ty e).size then
       some ⟨.imm (.tok id) (els++new),some (.tok ((els.length+new.length)*(E.ty e).size) (E.ty e).size),some k⟩ else none
     |_=>none)
    |.none=>none)
   else none

def y32(E:Env)(hp:List Obj)(id:Nat)(t t2:Nat)(x y:D):Option Ef:=
 match (E.ty t).k,(E.ty t2).k,x with
 |.slice e,.slice _,.imm sp els=>
  (match y12 hp (E.ty e).size (E.ty e).ag y with
  |some new=>y2m E hp id e sp els new
  |none=>none)
 |.slice e,.str,.imm sp els=>
  (match y with
  |.str s=>if 1=(E.ty e).size/\(E.ty e).ag=false then y2m E hp id e sp els (s.map ya) else none
  |_=>none)
 |_,_,_=>none

def y1s(E:Env)(hp:List Obj)(id:Nat)(t t2:Nat)(x y:D):Option Ef:=
 match (E.ty t).k,(E.ty t2).k,x with
 |.slice e,.slice _,.imm .exact els=>
  (match y12 hp (E.ty e).size (E.ty e).ag y with
  |some new=>
    if new.length=0 then some ⟨.imm .exact els,none,none⟩ else
    if(els.length+new.length)*((E.ty e).bytes+1)<=yg/\(E.ty e).bytes<=65536/\(y22 E e).isSome=true/\y2u (E.ty e).size els=true then
     some ⟨.sl id 0 (els.length+new.length) (E.ty e).size (E.ty e).ag true,some (.cells (yi els++yi new)),none⟩
    else none
  |none=>none)
 |_,_,_=>none

def y33(E:Env)(hp:List Obj)(t t2:Nat)(x y:D):Option (D × List Obj):=
 match (E.ty t).k,(E.ty t2).k,x with
 |.slice e,.slice _,.sl k 0 len sz ag true=>
  (match y12 hp (E.ty e).size (E.ty e).ag y with
  |some new=>(match hp[k]? with
    |some (.cells cs)=>
     if new.length=0 then some (.sl k 0 len sz ag true,hp) else
     if(len+new.length)*((E.ty e).bytes+1)<=yg/\(E.ty e).bytes<=65536/\(y22 E e).isSome=true/\sz=(E.ty e).size/\cs.length=len*sz then
      some (.sl hp.length 0 (len+new.length) (E.ty e).size (E.ty e).ag true,(hp.set k .dead)++[.cells (cs++yi new)])
     else if(len+new.length)*((E.ty e).bytes+1)<=yg/\(E.ty e).bytes<=65536/\(y22 E e).isSome=true/\sz=(E.ty e).size/\len*sz<=cs.length then
      some (.sl hp.length 0 (len+new.length) (E.ty e).size (E.ty e).ag true,(hp.set k .dead)++[.cells (cs.take (len*sz)++yi new)])
     else none
    |_=>none)
  |none=>none)
 |.slice e,.slice _,.imm .exact els=>
  (match y12 hp (E.ty e).size (E.ty e).ag y with
  |some new=>
    if new.length=0 then some (.imm .exact els,hp) else
    if(els.length+new.length)*((E.ty e).bytes+1)<=yg/\(E.ty e).bytes<=65536/\(y22 E e).isSome=true/\y2u (E.ty e).size els=true then
     some (.sl hp.length 0 (els.length+new.length) (E.ty e).size (E.ty e).ag true,hp++[.cells (yi els++yi new)])
    else none
  |none=>none)
 |_,_,_=>none

def y39(E:Env)(hp:List Obj)(t:Nat)(a x:D):Option (List Obj):=
 match a with
 |.loc id off=>(match hp[id]? with
  |some (.cells cs)=>
   if x.storable=true/\x.cellsL.length=(E.ty t).size/\off+(E.ty t).size<=cs.length then some (hp.set id (.cells (setCells cs off x.cellsL))) else none
  |_=>none)
 |_=>none

def y6m(E:Env)(hp:List Obj)(t t2:Nat)(x y:D):Option (D × List Obj):=
 match (E.ty t).k,(E.ty t2).k,x with
 |.slice e,.slice _,.sl id off len sz _ _=>
  (match hp[id]?,y12 hp (E.ty e).size (E.ty e).ag y with
  |some (.cells cs),some new=>
   if sz=(E.ty e).size/\off+len*sz<=cs.length then
    some (.int .i64 ((c9 new.length len:Nat):Int),hp.set id (.cells (setCells cs off (yi (new.take (c9 new.length len))))))
   else none
  |_,_=>none)
 |.slice e,.slice _,.imm _ []=>(match y12 hp (E.ty e).size (E.ty e).ag y with
  |some _=>some (.int .i64 0,hp)
  |none=>none)
 |_,_,_=>none

def y30(E:Env)(hp:List Obj)(t:Nat)(m k v:D):Option (List Obj):=
 match (E.ty t).k,m with
 |.map kt e,.map (some id)=>
  if y4d E kt k=true/\v.storable=true/\v.cellsL.length=(E.ty e).size then
  (match hp[id]? with
  |some (.map es)=>(y1j k v es).map fun es'=>hp.set id (.map es')
  |_=>none) else none
 |_,_=>none

def y42:List D->Option (List UInt8)
 |[]=>some []
 |.int .u8 n::r=>(match y42 r with
  |some s=>some (bi n.toNat::s)
  |none=>none)
 |_=>none

def y5v(E:Env)(e:Nat):Bool:=match (E.ty e).k with
 |.int .u8=>true
 |_=>false

def ybu(E:Env)(s d:Nat)(x:D):Option D:=
 match (E.ty s).k,(E.ty d).k,x with
 |.slice e,.str,.imm _ els=>if y5v E e=true then(y42 els).map .str else none
 |_,_,_=>none

def ybo(E:Env)(s d:Nat)(x:D):Option D:=
 match (E.ty s).k,(E.ty d).k,x with
 |.str,.slice e,.str b=>if y5v E e=true then some (.imm .none (b.map ya)) else none
 |_,_,_=>none

def y5h(E:Env)(hp:List Obj)(t:Nat)(l c:D):Option (D × List Obj):=
 match (E.ty t).k,l,c with
 |.slice e,.int _ l,.int _ c=>(match y22 E e with
  |some z=>if 0<=l/\l<=c/\c*((E.ty e).bytes+1)<=yg then some (.sl hp.length 0 l.toNat (E.ty e).size (E.ty e).ag true,hp++[.cells (yi (af c.toNat z))]) else none
  |none=>none)
 |_,_,_=>none

def y37(E:Env)(hp:List Obj)(t:Nat)(x h:D):Option (D × List Obj):=
 match (E.ty t).k,x,h with
 |.slice e,.sl id 0 _ sz ag true,.int _ h=>(match hp[id]? with
  |some (.cells cs)=>if 0<=h/\h.toNat*sz<=cs.length/\sz=(E.ty e).size/\sz ≠ 0 then some (.sl id 0 h.toNat sz ag true,hp) else none
  |_=>none)
 |_,_,_=>none

def yar(E:Env)(hp:List Obj)(t:Nat)(x:D):Option (D × List Obj):=
 match (E.ty t).k,x with
 |.slice e,.sl id off len sz _ _=>(match hp[id]?,y22 E e with
  |some (.cells cs),some z=>if sz=(E.ty e).size/\off+len*sz<=cs.length then some (.undef,hp.set id (.cells (setCells cs off (yi (af len z))))) else none
  |_,_=>none)
 |_,_=>none

def DOp.fin:DOp->Bool
 |.mkcall _ _=>true
 |.prim _ _=>true
 |.mkcap _ _ _=>true
 |.reslice _ _ _=>true
 |.clr _ _=>true
 |.store _ _ _=>true
 |.mapset _ _ _ _=>true
 |.copy _ _ _ _=>true
 |.append 2 _ _ _ _=>true
 |.call 0 _ _=>false
 |.call _ _ _=>true
 |_=>false

def yh(hp:List Obj)(id:Nat)(e:Ef):List Obj:=
 match e.kill,e.new with
 |none,none=>hp
 |none,some o=>y1y hp id o
 |some k,none=>hp.set k .dead
 |some k,some o=>y1y (hp.set k .dead) id o

def yb(E:Env)(callP:Nat->List D->Option D)(id:Nat)(g:Opd->D)(hp:List Obj)(op:DOp):Option Ef:=
 match op with
 |.move x=>some ⟨g x,none,none⟩
 |.assign x=>some ⟨g x,none,none⟩
 |.pick c a b=>(match g c with
  |.bool t=>some ⟨if t then g a else g b,none,none⟩
  |_=>none)
 |.alloc t=>if(E.ty t).zero.all D.atom/\(E.ty t).zero.length=(E.ty t).size/\(E.ty t).size ≠ 0 then some ⟨.loc id 0,some (.cells (E.ty t).zero),none⟩ else none
 |.box _ x=>if(g x).storable then some ⟨.loc id 0,some (.cells (g x).cellsL),none⟩ else none
 |.build t parts=>if(E.ty t).zero.length=(E.ty t).size/\(E.ty t).size ≠ 0 then(y6u E t (parts.map fun p=>(p.1,g p.2))).map (⟨·,none,none⟩) else none
 |.bslice mu t len parts=>(match (E.ty t).k with
  |.slice e=>(match y22 E e with
   |some z=>if len*(E.ty e).size<=16777216 then
     (match y6j (E.ty e).size (af len z) (parts.map fun p=>(p.1,g p.2)) with
     |some els=>if mu/\len ≠ 0 then some ⟨.sl id 0 len (E.ty e).size (E.ty e).ag true,some (.cells (yi els)),none⟩
       else some ⟨.imm .exact els,none,none⟩
     |none=>none) else none
   |none=>none)
  |_=>none)
 |.load t a=>(yo E hp t (g a)).map (⟨·,none,none⟩)
 |.ibox _ x=>if(g x).storable=true then some ⟨.iptr (g x).cellsL,none,none⟩ else none
 |.iload t a=>(y5j E t (g a)).map (⟨·,none,none⟩)
 |.mkbfn f x=>some ⟨.bfn f (g x),none,none⟩
 |.b2s s d x=>(ybu E s d (g x)).map (⟨·,none,none⟩)
 |.s2b s d x=>(ybo E s d (g x)).map (⟨·,none,none⟩)
 |.bin op t x y=>(y2l E op t (g x) (g y)).map (⟨·,none,none⟩)
 |.un op x=>(unD op (g x)).map (⟨·,none,none⟩)
 |.conv s d x=>(y2v E s d (g x)).map (⟨·,none,none⟩)
 |.mkfn f caps=>some ⟨.fn f (caps.map g),none,none⟩
 |.mkmap _=>some ⟨.map (some id),some (.map []),none⟩
 |.mkslice mu t l c=>(match (E.ty t).k,g l,g c with
  |.slice e,.int _ l,.int _ c=>
   (match y22 E e with
   |some z=>
    if 0<=l/\l=c/\c*((E.ty e).bytes+1)<=yg then
     (if mu then some ⟨.sl id 0 l.toNat (E.ty e).size (E.ty e).ag true,some (.cells (yi (af l.toNat z))),none⟩
     else some ⟨.imm .exact (af l.toNat z),none,none⟩)
    else none
   |none=>none)
  |_,_,_=>none)
 |.slice t x lo hi mx=>(y15 E t (g x) (lo.map g) (hi.map g) (mx.map g)).map (⟨·,none,none⟩)
 |.faddr t x f=>(y5k E t (g x) f).map (⟨·,none,none⟩)
 |.field t x f=>(y8j E t (g x) f).map (⟨·,none,none⟩)
 |.iaddr t x i=>(y29 E t (g x) (g i)).map (⟨·,none,none⟩)
 |.index t x i=>(y5w E t (g x) (g i)).map (⟨·,none,none⟩)
 |.lookup t m k ok=>(y23 E hp t (g m) (g k) ok).map (⟨·,none,none⟩)
 |.extract x i=>(match g x with
  |.tup vs=>(vs[i]?).map (⟨·,none,none⟩)
  |_=>none)
 |.append md t t2 x y=>(match md with
  | 0=>y32 E hp id t t2 (g x) (g y)
  | 1=>y1s E hp id t t2 (g x) (g y)
  |_=>none)
 |.len t x=>(y6s E hp t (g x)).map (⟨·,none,none⟩)
 |.nilc x=>(match g x with
  |.loc i o=>some ⟨.loc i o,none,none⟩
  |.iptr cs=>some ⟨.iptr cs,none,none⟩
  |_=>none)
 |.mark b x=>(match b,g x with
  |false,.int .i64 n=>some ⟨.tup [.undef,.int .i64 n],none,none⟩
  |true,.agg [.int .i64 n]=>some ⟨.tup [.undef,.agg [.int .i64 n]],none,none⟩
  |_,_=>none)
 |.maxi as=>(y7i (as.map g)).map (⟨·,none,none⟩)
 |.mini as=>(y8u (as.map g)).map (⟨·,none,none⟩)
 |.call 0 f as=>(match g f with
  |.fn k caps=>(match y1p (frz [] depth) (as.map g++caps) with
    |some vs=>(callP k vs).map (⟨·,none,none⟩)
    |none=>none)
  |_=>none)
 |_=>none

def yw:D->Bool
 |.tup (.undef::_)=>true
 |.agg (.undef::_)=>true
 |_=>false

def y16(r:Option (D × List Obj)):Option (D × List Obj):=
 match r with
 |some (d,hp)=>if yw d=true then none else some (d,hp)
 |none=>none

theorem zm{x:Option (D × List Obj)}{r:D × List Obj}(h:y16 x=some r):x=some r/\yw r.1=false:=by
 cases x with
 |none=>simp[y16] at h
 |some y=>
  obtain⟨d,hp⟩:=y
  simp only[y16] at h
  split at h
  ·simp at h
  ·rename_i hm
   simp only[aa] at h;subst h
   exact⟨rfl,by simpa using hm⟩
theorem z11{d:D}{hp:List Obj}(h:yw d=false):y16 (some (d,hp))=some (d,hp):=by simp[y16,h]

def y9f(r:Option (D × List Obj)):Option D:=
 match r with
 |some (d,hp)=>if yw d=true then some d else frz hp depth d
 |none=>none

def y6h(callS:Nat->List D->List Obj->Option (D × List Obj))(k:Nat)(vs:List D)(hp:List Obj):Option (D × List Obj):=
 (y16 (callS k vs (af hp.length .dead))).map fun r=>(r.1,hp++r.2.drop hp.length)

def y7w(callS:Nat->List D->List Obj->Option (D × List Obj))(k:Nat)(r:D)(rest:List D)(hp:List Obj):Option (D × Nat × Obj):=
 match r with
 |.loc q 0=>(match hp[q]? with
  |some (.cells cs)=>(match y1p (frz [] depth) rest,y1p (frz [] depth) cs with
   |some vs,some cs1=>if(cs1.all fun d=>d.atom)=true then(match y16 (callS k (.loc 0 0::vs) [.cells cs1]) with
    |some (d,hp2)=>(match List.head? hp2 with
     |some (.cells cs2)=>if(ids hp2 depth d++cs2.flatMap (ids hp2 depth)).contains 0=true then none else
      (match frz hp2 depth d,y1p (frz hp2 depth) cs2 with
      |some d1,some cs3=>if(cs3.all fun d=>d.atom)=true then some (d1,q,.cells cs3) else none
      |_,_=>none)
     |_=>none)
    |none=>none) else none
   |_,_=>none)
  |_=>none)
 |_=>none

def yl(E:Env)(callP:Nat->List D->Option D)(callS:Nat->List D->List Obj->Option (D × List Obj))
  (callY:Nat->List D->List Obj->Option (D × List Obj)) (g:Opd->D) (hp:List Obj) (op:DOp):Option (D × List Obj):=
 match op with
 |.store t a x=>(y39 E hp t (g a) (g x)).map (.undef,·)
 |.mapset t m k v=>(y30 E hp t (g m) (g k) (g v)).map (.undef,·)
 |.append _ t t2 x y=>y33 E hp t t2 (g x) (g y)
 |.copy t t2 x y=>y6m E hp t t2 (g x) (g y)
 |.mkcap t l c=>y5h E hp t (g l) (g c)
 |.mkcall f as=>(match g f with
  |.fn k caps=>(match y1p (frz [] depth) (as.map g++caps) with
    |some vs=>y6h callS k vs hp
    |none=>none)
  |_=>none)
 |.prim n as=>E.prim n (as.map g) hp
 |.reslice t x h=>y37 E hp t (g x) (g h)
 |.clr t x=>yar E hp t (g x)
 |.call 1 f as=>(match g f with
  |.fn k caps=>(match y1p (frz hp depth) (as.map g++caps) with
    |some vs=>(callP k vs).map (·,yv hp ((as.map g++caps).flatMap (ids hp depth)))
    |none=>none)
  |_=>none)
 |.call 3 f as=>(match g f with
  |.fn k caps=>(match y1p (frz hp depth) (as.map g++caps) with
    |some vs=>(match callP k vs with
     |some d=>if d.closed=true then some (d,hp) else none
     |none=>none)
    |none=>none)
  |_=>none)
 |.call 4 f (x::as)=>(match g f with
  |.fn k caps=>(y7w callS k (g x) (as.map g++caps) hp).map fun r=>(r.1,hp.set r.2.1 r.2.2)
  |_=>none)
 |.call 4 f []=>(match g f with
  |.fn k caps=>(match y1p (frz [] depth) caps with
    |some vs=>y6h callS k vs hp
    |none=>none)
  |_=>none)
 |.call 5 f as=>(match g f with
  |.fn k caps=>if E.mp k=true then(match y1p (frz [] depth) (as.map g++caps) with
    |some vs=>(y9f (callS k vs [])).map (·,hp)
    |none=>none) else none
  |_=>none)
 |.call 6 f as=>(match g f with
  |.fn k caps=>if E.mp k=true then callS k (as.map g++caps) hp else none
  |_=>none)
 |.call _ f as=>(match g f with
  |.fn k caps=>y16 (callS k (as.map g++caps) hp)
  |.bfn k r=>y16 (callS k (r::as.map g) hp)
  |.yld l=>callY l (as.map g) hp
  |_=>none)
 |_=>none

def yd(E:Env)(callP:Nat->List D->Option D)(callS:Nat->List D->List Obj->Option (D × List Obj))
  (callY:Nat->List D->List Obj->Option (D × List Obj)) (id:Nat) (g:Opd->D) (hp:List Obj) (op:DOp):Option (D × List Obj):=
 match op.fin with
 |true=>yl E callP callS callY g hp op
 |false=>(yb E callP id g hp op).map fun e=>(e.d,yh hp id e)

def y25(sl:List D)(dst:Option Nat)(d:D):List D:=
 match dst with
 |some i=>sl.set i d
 |none=>sl

def yj(sl:List D)(gd:Option (Nat × Bool)):Bool:=
 match gd with
 |none=>true
 |some (j,b)=>(match sl.getD j .undef with
  |.bool c=>c == b
  |_=>false)

def yf(E:Env)(callP:Nat->List D->Option D)(callS:Nat->List D->List Obj->Option (D × List Obj))
  (callY:Nat->List D->List Obj->Option (D × List Obj)):List y1a->St->Option St
 |[],st=>some st
 |o::os,st=>
  if yj st.sl o.gd then
   (match yd E callP callS callY st.hp.length (yn st.sl) st.hp o.op with
   |some (d,hp)=>yf E callP callS callY os ⟨y25 st.sl o.dst d,hp⟩
   |none=>none)
  else yf E callP callS callY os ⟨y25 st.sl o.dst .undef,st.hp⟩

def did:D->Option Nat
 |.loc id _=>some id
 |.sl id _ _ _ _ _=>some id
 |.map (some id)=>some id
 |.imm (.tok k) _=>some k
 |_=>none

def y1h:DOp->List Opd
 |.load _ a=>[a]
 |.store _ a _=>[a]
 |.lookup _ m _ _=>[m]
 |.len _ x=>[x]
 |.append _ _ _ x y=>[x,y]
 |.call 4 _ (x::_)=>[x]
 |_=>[]

def y8w(x y:Option Nat):Bool:=
 match x,y with
 |some i,some j=>i != j
 |_,_=>true

def y9q(sl:List D)(a b:Option y1a):Bool:=
 match a,b with
 |some a,some b=>(y1h a.op).all fun x=>(y1h b.op).all fun y=>y8w (did (yn sl x)) (did (yn sl y))
 |_,_=>false

def y7o(sl:List D)(ops:List y1a)(ap:List (Nat × Nat)):Bool:=ap.all fun p=>y9q sl ops[p.1]? ops[p.2]?

def y27(ops:List y1a)(ap:List (Nat × Nat)):Option St->Option St
 |some st=>if y7o st.sl ops ap then some st else none
 |none=>none

def y14(E:Env)(callP:Nat->List D->Option D)(callS:Nat->List D->List Obj->Option (D × List Obj))
  (callY:Nat->List D->List Obj->Option (D × List Obj)):Nat->List y1a->St->Option St
 |_,[],st=>some st
 |id,o::os,st=>
  if yj st.sl o.gd then
   (match yd E callP callS callY id (yn st.sl) st.hp o.op with
   |some (d,hp)=>y14 E callP callS callY (id+1) os ⟨y25 st.sl o.dst d,hp⟩
   |none=>none)
  else y14 E callP callS callY (id+1) os ⟨y25 st.sl o.dst .undef,st.hp⟩

def y5n(E:Env)(st:St):List RV->Option (List D)
 |[]=>some []
 |.tmp t::r=>(match y5n E st r with
  |some l=>some (st.sl.getD t .undef::l)
  |none=>none)
 |.cell a t::r=>(match yo E st.hp t (st.sl.getD a .undef),y5n E st r with
  |some d,some l=>some (d::l)
  |_,_=>none)

def y2d(l:List D):D:=
 match l with
 |[d]=>d
 |l=>.tup l

def y2c(sl:List D):List Nat->List D->List D
 |p::ps,v::vs=>y2c (sl.set p v) ps vs
 |_,_=>sl

def y1z(E:Env)(F:DFn):Option (Ex × St)->Option (D × List Obj)
 |some (.ret,st)=>(y5n E st F.results).map fun l=>(y2d l,st.hp)
 |some (.normal,st)=>(y5n E st F.results).map fun l=>(y2d l,st.hp)
 |_=>none

def y83:Nat:=1000000
def y4s(E:Env)(F:DFn):Option (Ex × St)->Option (D × List Obj)
 |some (.ret,st)=>y16 ((y5n E st F.results).map fun l=>(y2d l,st.hp))
 |some (.normal,st)=>y16 ((y5n E st F.results).map fun l=>(y2d l,st.hp))
 |some (.exit i,st)=>if y83<=i/\yw (st.sl.getD (i - y83) .undef)=true then some (st.sl.getD (i - y83) .undef,st.hp) else none
 |none=>none
def y2e(b:Bool)(E:Env)(F:DFn)(x:Option (Ex × St)):Option (D × List Obj):=
 match b with
 |false=>y1z E F x
 |true=>y4s E F x

def ym(F:DFn)(args:List D)(hp:List Obj):St:=⟨args++af (F.ntmps - args.length) .undef,hp⟩

def y1o(E:Env)(rec:DC->St->Option (Ex × St))(f:Nat)(args:List D)(hp:List Obj):Option (D × List Obj):=
 match E.fn f with
 |some F=>y2e (E.mp f) E F (rec F.body (ym F args hp))
 |none=>none

def yu(E:Env)(rec:DC->St->Option (Ex × St))(f:Nat)(args:List D):Option D:=
 match y1o E rec f args [] with
 |some (d,hp)=>yao (E.keep f) hp d
 |none=>none

def y5y(E:Env)(d:D):D:=
 match d with
 |.fn k caps=>if E.mp k=true then .undef else .fn k caps
 |d=>d

theorem zph{E:Env}{d:D}{k:Nat}{caps:List D}(h:y5y E d=.fn k caps):d=.fn k caps/\E.mp k=false:=by
 cases d with
 |fn k' caps'=>
  simp only[y5y] at h
  split at h
  ·cases h
  ·rename_i hm;cases h;exact⟨rfl,by simpa using hm⟩
 |_=>simp[y5y] at h

def y3m(rec:DC->St->Option (Ex × St))(l:Nat)(args:List D)(hp:List Obj):Option (D × List Obj):=
 match hp[l]? with
 |some (.loop false y1u ps asg body none)=>
  if args.length=ps.length then
   (match rec asg ⟨y2c y1u ps args,hp⟩ with
   |some (.normal,st1)=>(match st1.hp[l]? with
    |some (.loop false slots1 ps1 asg1 body1 none)=>
     (match rec body ⟨st1.sl,st1.hp.set l (.loop true slots1 ps1 asg1 body1 none)⟩ with
     |some (ex,st2)=>(match st2.hp[l]? with
      |some (.loop true slots2 ps2 asg2 body2 none)=>
       (match ex with
       |.normal=>some (.bool true,st2.hp.set l (.loop false slots2 ps2 asg2 body2 none))
       |ex=>some (.bool false,st2.hp.set l (.loop false slots2 ps2 asg2 body2 (some ex))))
      |_=>none)
     |none=>none)
    |_=>none)
   |_=>none)
  else none
 |_=>none

def dC(E:Env):Nat->DC->St->Option (Ex × St)
 | 0,_,_=>none
 |n+1,c,st=>match c with
  |.skip=>some (.normal,st)
  |.ret=>some (.ret,st)
  |.exit id=>some (.exit id,st)
  |.seq a b=>(match dC E n a st with
   |some (.normal,st')=>dC E n b st'
   |r=>r)
  |.cond c a b=>(match yn st.sl c with
   |.bool true=>dC E n a st
   |.bool false=>dC E n b st
   |_=>none)
  |.ifp x a b=>if yw (yn st.sl x)=true then dC E n a st else dC E n b st
  |.block id a=>(match dC E n a st with
   |some (.exit id',st')=>some (if id'=id then .normal else .exit id',st')
   |r=>r)
  |.loop a=>(match dC E n a st with
   |some (.normal,st')=>dC E n (.loop a) st'
   |r=>r)
  |.region dr ap ops=>
   (if dr then y27 ops ap (y14 E (yu E (dC E n)) (y1o E (dC E n)) (y3m (dC E n)) st.hp.length ops ⟨st.sl,st.hp++af ops.length .dead⟩)
    else yf E (yu E (dC E n)) (y1o E (dC E n)) (y3m (dC E n)) ops st).map fun st'=>(.normal,st')
  |.rfunc f ps asg body=>(match y5y E (yn st.sl f) with
   |.fn k caps=>(match y1o E (dC E n) k (.yld st.hp.length::caps) (st.hp++[.loop false st.sl ps asg body none]) with
    |some (_,hp')=>(match hp'[st.hp.length]? with
     |some (.loop false _ _ _ _ none)=>some (.normal,⟨st.sl,hp'.set st.hp.length .dead⟩)
     |some (.loop false _ _ _ _ (some ex))=>some (ex,⟨st.sl,hp'.set st.hp.length .dead⟩)
     |_=>none)
    |none=>none)
   |_=>none)

end Dv

namespace Dv

def y2o(x y:Int × Int):Bool:=decide (x.1<y.1\/(x.1=y.1/\x.2<y.2))
def y1m(l:List (Int × Int)):List (Int × Int):=l.mergeSort fun x y=>!y2o y x
def y4b:List D->Option (List (Int × Int))
 |[]=>some []
 |.int .i64 a :: .int .i64 b::r=>(match y4b r with
  |some l=>some ((a,b)::l)
  |none=>none)
 |_=>none
def ye(l:List (Int × Int)):List D:=l.flatMap fun p=>[.int .i64 p.1,.int .i64 p.2]

def y70(cmp:List Nat):List D->List Obj->Option (D × List Obj)
 |[.imm .exact [],.fn k []],hp=>if cmp.contains k=true then some (.tup [],hp) else none
 |[.sl id 0 len 2 _ _,.fn k []],hp=>if cmp.contains k=true then(match hp[id]? with
   |some (.cells cs)=>if cs.length=len*2/\len<=1000000000000 then(match y4b cs with
    |some ps=>some (.tup [],hp.set id (.cells (ye (y1m ps))))
    |none=>none) else none
   |_=>none) else none
 |_,_=>none

def y5u:List (D × D)->Option (List (Int × Int))
 |[]=>some []
 |(.agg [.int .i64 a,.int .i64 b],_)::r=>(match y5u r with
  |some l=>some ((a,b)::l)
  |none=>none)
 |_=>none
def y8v(it cmp:List Nat):List D->List Obj->Option (D × List Obj)
 |[.fn kk [.iptr [.map (some id)]],.fn k []],hp=>if(it.contains kk && cmp.contains k)=true then(match hp[id]? with
  |some (.map es)=>(match y5u es with
   |some ks=>if ks.length<=1000000 then some (.imm .none ((y1m ks).map fun p=>.agg [.int .i64 p.1,.int .i64 p.2]),hp) else none
   |none=>none)
  |_=>none) else none
 |_,_=>none

def yb1:Nat->List D->List Obj->Option (D × List Obj)
 | 0=>y70 [362,386]
 | 1=>y8v [409] [386]
 |_=>fun _ _=>none
end Dv

namespace Dv
def glTab:List (Nat × List (aZ × Int)):=[(0,[(.u32,1779033703),(.u32,3144134277),(.u32,1013904242),(.u32,2773480762),(.u32,1359893119),(.u32,2600822924),(.u32,528734635),(.u32,1541459225)]),(1,[(.u32,1116352408),(.u32,1899447441),(.u32,3049323471),(.u32,3921009573),(.u32,961987163),(.u32,1508970993),(.u32,2453635748),(.u32,2870763221),(.u32,3624381080),(.u32,310598401),(.u32,607225278),(.u32,1426881987),(.u32,1925078388),(.u32,2162078206),(.u32,2614888103),(.u32,3248222580),(.u32,3835390401),(.u32,4022224774),(.u32,264347078),(.u32,604807628),(.u32,770255983),(.u32,1249150122),(.u32,1555081692),(.u32,1996064986),(.u32,2554220882),(.u32,2821834349),(.u32,2952996808),(.u32,3210313671),(.u32,3336571891),(.u32,3584528711),(.u32,113926993),(.u32,338241895),(.u32,666307205),(.u32,773529912),(.u32,1294757372),(.u32,1396182291),(.u32,1695183700),(.u32,1986661051),(.u32,2177026350),(.u32,2456956037),(.u32,2730485921),(.u32,2820302411),(.u32,3259730800),(.u32,3345764771),(.u32,3516065817),(.u32,3600352804),(.u32,4094571909),(.u32,275423344),(.u32,430227734),(.u32,506948616),(.u32,659060556),(.u32,883997877),(.u32,958139571),(.u32,1322822218),(.u32,1537002063),(.u32,1747873779),(.u32,1955562222),(.u32,2024104815),(.u32,2227730452),(.u32,2361852424),(.u32,2428436474),(.u32,2756734187),(.u32,3204031479),(.u32,3329325298)])]
end Dv

namespace Dv
open Go (Value Program World Act Oper Operand Code)

inductive Bk where
 |blk (b c:Nat)
 |virt

abbrev Rho:=Nat->Option Bk
abbrev HS:=Nat->Nat->Prop
abbrev y1q:=Array dR
abbrev Phi:=Nat->Option Nat

structure y1n(w w':World):Prop where
 os:w'.os=w.os
 tape:w'.tape=w.tape
 out:w'.output=w.output
 dr:w.drawn<=w'.drawn

theorem y1n.refl(w:World):y1n w w:=⟨rfl,rfl,rfl,ai _⟩

theorem y1n.trans{w w' w'':World}(h:y1n w w')(h':y1n w' w''):y1n w w'':=⟨h'.os.trans h.os,h'.tape.trans h.tape,h'.out.trans h.out,aJ h.dr h'.dr⟩

def y48(_ _:y1q):Prop:=True

theorem y48.refl(hp:y1q):y48 hp hp:=trivial
theorem y48.trans{hp hp' hp'':y1q}(_:y48 hp hp')(_:y48 hp' hp''):y48 hp hp'':=trivial
theorem y48.push(hp:y1q){o:dR}(_:∀ arr el fr,o=.cells arr el fr->fr=(0,0)):y48 hp (hp.push o):=trivial
theorem y48.at{hp hp':y1q}{b:Nat}{o:dR}(_:hp'[b]? = some o)(_:∀ arr el fr,o=.cells arr el fr->fr=(0,0))(_:∀ b',b' ≠ b->hp'[b']? = hp[b']?):y48 hp hp':=trivial

def cellOf(hp:y1q)(b o:Nat):Option Value:=
 match hp[b]? with
 |some (.cells c _ _)=>c[o]?
 |_=>none

theorem cell?_eq (w:World) (b o:Nat):w.cell? ⟨b,o,none⟩=cellOf w.heap b o:=by
 unfold World.cell? cellOf
 cases w.heap[b]? with
 |none=>rfl
 |some x=>cases x <;> rfl

inductive Rep (φ : Phi) (ρ : Rho) (H:HS) (hp:y1q):Value->D->Prop
 |undef (v:Value) (h:∀ b,v ≠ .bool b):Rep φ ρ H hp v .undef
 |bool (b:Bool):Rep φ ρ H hp (.bool b) (.bool b)
 |int (k:aZ) (n:Int):Rep φ ρ H hp (.int k n) (.int k n)
 |str (s:ByteArray):Rep φ ρ H hp (.string s) (.str s.data.toList)
 |nilp:Rep φ ρ H hp (.pointer none) .nilp
 |loc (b c id off:Nat) (h : ρ id=some (.blk b c)):Rep φ ρ H hp (.pointer (some ⟨b,off,none⟩)) (.loc id off)
 |iptr (b off:Nat) (cells:List D) (vs:Nat->Value)
   (hH:∀(j:Nat),j<cells.length->H b (off+j)/\cellOf hp b (off+j)=some (vs j))
   (hr:∀(j:Nat) (d:D),cells[j]? = some d->Rep φ ρ H hp (vs j) d):Rep φ ρ H hp (.pointer (some ⟨b,off,none⟩)) (.iptr cells)
 |imm (sp:y13) (els:List D) (a:Option cB) (cap b off su:Nat) (vs:Nat->Value)
   (hu:∀ x,x ∈ els->x.cellsL.length=su/\x.storable=true) (hcap:els.length<=cap)
   (hex:sp=.exact->cap=els.length)
   (htok:∀ k,sp=.tok k->(∃ b',ρ k=some (.blk b' cap)/\a=some ⟨b',0,none⟩)\/(ρ k=some .virt/\cap=els.length))
   (ha:els ≠ []->a=some ⟨b,off,none⟩)
   (hH:∀(j:Nat),j<(yi els).length->H b (off+j)/\cellOf hp b (off+j)=some (vs j))
   (hr:∀(j:Nat) (d:D),(yi els)[j]? = some d->Rep φ ρ H hp (vs j) d):Rep φ ρ H hp (.slice a els.length cap) (.imm sp els)
 |sl (id off len sz:Nat) (ag gr:Bool) (b c cap:Nat) (a:Option cB) (h : ρ id=some (.blk b c)) (hl:len<=cap)
   (ha:len ≠ 0->a=some ⟨b,off,none⟩) (hc:gr=true->off=0/\a=some ⟨b,0,none⟩/\c=cap*sz):Rep φ ρ H hp (.slice a len cap) (.sl id off len sz ag gr)
 |mapn:Rep φ ρ H hp (.map none) (.map none)
 |map (b c id:Nat) (h : ρ id=some (.blk b c)):Rep φ ρ H hp (.map (some b)) (.map (some id))
 |fn (f f':Nat) (cvs:Array Value) (caps:List D) (hf : φ f=some f') (hs:cvs.size=caps.length)
   (hr:∀(j:Nat) (v:Value) (d:D),cvs[j]? = some v->caps[j]? = some d->Rep φ ρ H hp v d):Rep φ ρ H hp (.func (.func f) #[] cvs) (.fn f' caps)
 |bfn (f f':Nat) (v:Value) (d:D) (hf : φ f=some f') (hr:Rep φ ρ H hp v d):Rep φ ρ H hp (.func (.func f) #[v] #[]) (.bfn f' d)
 |nilfn:Rep φ ρ H hp .nilFunc .nilfn
 |yld (b c id:Nat) (h : ρ id=some (.blk b c)):Rep φ ρ H hp (.func (.yield b) #[] #[]) (.yld id)
 |agg (vs:Array Value) (cs:List D) (hs:vs.size=cs.length)
   (hr:∀(j:Nat) (v:Value) (d:D),vs[j]? = some v->cs[j]? = some d->Rep φ ρ H hp v d):Rep φ ρ H hp (.agg vs) (.agg cs)
 |tup (vs:Array Value) (cs:List D) (hs:vs.size=cs.length)
   (hr:∀(j:Nat) (v:Value) (d:D),vs[j]? = some v->cs[j]? = some d->Rep φ ρ H hp v d):Rep φ ρ H hp (.tuple vs) (.tup cs)

theorem Rep.u0{φ : Phi}{ρ : Rho}{H:HS}{hp:y1q}:Rep φ ρ H hp bj .undef:=.undef _ (by intro b h;cases h)

structure Ext(ρ ρ':Rho)(H H':HS)(hp hp':y1q):Prop where
 rho:∀ id bk,ρ id=some bk -> ρ' id=some bk
 hs:∀ b o,H b o->H' b o
 keep:∀ b o,H b o->cellOf hp' b o=cellOf hp b o

theorem Ext.refl(ρ : Rho)(H:HS)(hp:y1q):Ext ρ ρ H H hp hp:=⟨fun _ _ h=>h,fun _ _ h=>h,fun _ _ _=>rfl⟩

theorem Ext.trans{ρ ρ' ρ'':Rho}{H H' H'':HS}{hp hp' hp'':y1q}(h:Ext ρ ρ' H H' hp hp')(h':Ext ρ' ρ'' H' H'' hp' hp''):Ext ρ ρ'' H H'' hp hp'':=
 ⟨fun id bk e=>h'.rho id bk (h.rho id bk e),fun b o e=>h'.hs b o (h.hs b o e),fun b o e=>(h'.keep b o (h.hs b o e)).trans (h.keep b o e)⟩

theorem Rep.mono{φ : Phi}{ρ ρ':Rho}{H H':HS}{hp hp':y1q}(x:Ext ρ ρ' H H' hp hp'){v:Value}{d:D}(h:Rep φ ρ H hp v d):Rep φ ρ' H' hp' v d:=by
 induction h with
 |undef v h=>exact .undef v h
 |bool b=>exact .bool b
 |int k n=>exact .int k n
 |str s=>exact .str s
 |nilp=>exact .nilp
 |loc b c id off h=>exact .loc b c id off (x.rho _ _ h)
 |iptr b off cells vs hH hr ih=>exact .iptr b off cells vs (fun j hj=>⟨x.hs _ _ (hH j hj).1,(x.keep _ _ (hH j hj).1).trans (hH j hj).2⟩) ih
 |imm sp els a cap b off su vs hu hcap hex htok ha hH hr ih=>
  exact .imm sp els a cap b off su vs hu hcap hex (fun k hk=>(htok k hk).imp (fun⟨b',h1,h2⟩=>⟨b',x.rho _ _ h1,h2⟩) (fun⟨h1,h2⟩=>⟨x.rho _ _ h1,h2⟩)) ha
   (fun j hj=>⟨x.hs _ _ (hH j hj).1,(x.keep _ _ (hH j hj).1).trans (hH j hj).2⟩) ih
 |sl id off len sz ag gr b c cap a h hl ha hc=>exact .sl id off len sz ag gr b c cap a (x.rho _ _ h) hl ha hc
 |mapn=>exact .mapn
 |map b c id h=>exact .map b c id (x.rho _ _ h)
 |fn f f' cvs caps hf hs hr ih=>exact .fn f f' cvs caps hf hs ih
 |bfn f f' v d hf hr ih=>exact .bfn f f' v d hf ih
 |nilfn=>exact .nilfn
 |yld b c id h=>exact .yld b c id (x.rho _ _ h)
 |agg vs cs hs hr ih=>exact .agg vs cs hs ih
 |tup vs cs hs hr ih=>exact .tup vs cs hs ih

def yt(φ : Phi)(ρ : Rho)(H:HS)(hp:y1q)(vs:List Value)(ds:List D):Prop:=
 vs.length=ds.length /\ ∀(j:Nat) v d,vs[j]? = some v->ds[j]? = some d->Rep φ ρ H hp v d

theorem yt.mono{φ : Phi}{ρ ρ':Rho}{H H':HS}{hp hp':y1q}(x:Ext ρ ρ' H H' hp hp'){vs:List Value}{ds:List D}(h:yt φ ρ H hp vs ds):yt φ ρ' H' hp' vs ds:=
 ⟨h.1,fun j v d hv hd=>(h.2 j v d hv hd).mono x⟩

theorem yt.nil{φ : Phi}{ρ : Rho}{H:HS}{hp:y1q}:yt φ ρ H hp [] []:=⟨rfl,fun j v d h=>by simp at h⟩

theorem yt.cons{φ : Phi}{ρ : Rho}{H:HS}{hp:y1q}{v:Value}{d:D}{vs:List Value}{ds:List D}(h:Rep φ ρ H hp v d)(h':yt φ ρ H hp vs ds):yt φ ρ H hp (v::vs) (d::ds):=
 ⟨by simp[h'.1],fun j v' d' hv hd=>by
  cases j with
  |zero=>simp at hv hd;subst hv;subst hd;exact h
  |succ j=>exact h'.2 j v' d' (by simpa using hv) (by simpa using hd)⟩

theorem yt.of_cons{φ : Phi}{ρ : Rho}{H:HS}{hp:y1q}{v:Value}{d:D}{vs:List Value}{ds:List D}(h:yt φ ρ H hp (v::vs) (d::ds)):Rep φ ρ H hp v d/\yt φ ρ H hp vs ds:=
 ⟨h.2 0 v d rfl rfl,by simpa using h.1,fun j v' d' hv hd=>h.2 (j+1) v' d' (by simpa using hv) (by simpa using hd)⟩

theorem yt.append{φ : Phi}{ρ : Rho}{H:HS}{hp:y1q}{vs:List Value}{ds:List D}{vs':List Value}{ds':List D}(h:yt φ ρ H hp vs ds)(h':yt φ ρ H hp vs' ds'):yt φ ρ H hp (vs++vs') (ds++ds'):=by
 refine⟨by simp[h.1,h'.1],fun j v d hv hd=>?_⟩
 by_cases hj:j<vs.length
 ·rw[aB hj] at hv
  rw[aB (h.1 ▸ hj)] at hd
  exact h.2 j v d hv hd
 ·have hj:vs.length<=j:=by omega
  rw[aF hj] at hv
  rw[aF (h.1 ▸ hj)] at hd
  exact h'.2 _ v d hv (by rw[h.1];exact hd)

theorem yt.drop{φ : Phi}{ρ : Rho}{H:HS}{hp:y1q}{vs:List Value}{ds:List D}(n:Nat)(h:yt φ ρ H hp vs ds):yt φ ρ H hp (vs.drop n) (ds.drop n):=
 ⟨by simp[h.1],fun j v d hv hd=>h.2 (n+j) v d (by simpa using hv) (by simpa using hd)⟩

theorem yt.take{φ : Phi}{ρ : Rho}{H:HS}{hp:y1q}{vs:List Value}{ds:List D}(n:Nat)(h:yt φ ρ H hp vs ds):yt φ ρ H hp (vs.take n) (ds.take n):=
 ⟨by simp[h.1],fun j v d hv hd=>h.2 j v d (by rw[aU] at hv;split at hv <;> simp_all) (by rw[aU] at hd;split at hd <;> simp_all)⟩

theorem yt.set{φ : Phi}{ρ : Rho}{H:HS}{hp:y1q}{vs:List Value}{ds:List D}(n:Nat){v:Value}{d:D}(hv:Rep φ ρ H hp v d)(h:yt φ ρ H hp vs ds):yt φ ρ H hp (vs.set n v) (ds.set n d):=by
 refine⟨by simp[h.1],fun j v' d' h1 h2=>?_⟩
 rw[bn] at h1 h2
 rw[h.1] at h1
 split at h1
 ·rename_i e
  rw[if_pos e] at h2
  split at h1
  ·rename_i e'
   rw[if_pos e'] at h2
   simp at h1 h2;subst h1;subst h2;exact hv
  ·simp at h1
 ·rename_i e
  rw[if_neg e] at h2
  exact h.2 j v' d' h1 h2

theorem yt.get{φ : Phi}{ρ : Rho}{H:HS}{hp:y1q}{vs:List Value}{ds:List D}(h:yt φ ρ H hp vs ds){j:Nat}{d:D}(hd:ds[j]? = some d):∃ v,vs[j]? = some v/\Rep φ ρ H hp v d:=by
 have:j<ds.length:=(ac.1 hd).1
 have hj:j<vs.length:=h.1 ▸ this
 exact⟨vs[j],ae hj,h.2 j _ d (ae hj) hd⟩

theorem yt.agg{φ : Phi}{ρ : Rho}{H:HS}{hp:y1q}{vs:List Value}{ds:List D}(h:yt φ ρ H hp vs ds):Rep φ ρ H hp (.agg vs.toArray) (.agg ds):=
 .agg _ _ (by simp[h.1]) (fun j v d hv hd=>h.2 j v d (by simpa using hv) hd)

theorem Rep.aggL{φ : Phi}{ρ : Rho}{H:HS}{hp:y1q}{v:Value}{ds:List D}(h:Rep φ ρ H hp v (.agg ds)):∃ vs:List Value,v=.agg vs.toArray/\yt φ ρ H hp vs ds:=by
 cases h with
 |agg vs cs hs hr=>exact⟨vs.toList,by simp,by simp[hs],fun j v d hv hd=>hr j v d (by simpa using hv) hd⟩

theorem Rep.tupL{φ : Phi}{ρ : Rho}{H:HS}{hp:y1q}{v:Value}{ds:List D}(h:Rep φ ρ H hp v (.tup ds)):∃ vs:List Value,v=.tuple vs.toArray/\yt φ ρ H hp vs ds:=by
 cases h with
 |tup vs cs hs hr=>exact⟨vs.toList,by simp,by simp[hs],fun j v d hv hd=>hr j v d (by simpa using hv) hd⟩

theorem Rep.cells{φ : Phi}{ρ : Rho}{H:HS}{hp:y1q}{v:Value}{d:D}(h:Rep φ ρ H hp v d)(hd:d.storable=true):yt φ ρ H hp v.cells.toList d.cellsL:=by
 cases h with
 |agg vs cs hs hr=>exact⟨by simpa[Value.cells,D.cellsL] using hs,fun j v d hv hd=>hr j v d (by simpa[Value.cells] using hv) (by simpa[D.cellsL] using hd)⟩
 |undef v h=>simp[D.storable,D.atom] at hd
 |tup vs cs hs hr=>simp[D.storable,D.atom] at hd
 |bool b=>exact .cons (.bool b) .nil
 |int k n=>exact .cons (.int k n) .nil
 |str s=>exact .cons (.str s) .nil
 |nilp=>exact .cons .nilp .nil
 |loc b c id off h=>exact .cons (.loc b c id off h) .nil
 |iptr b off cells vs hH hr=>exact .cons (.iptr b off cells vs hH hr) .nil
 |imm sp els a cap b off su vs hu hcap hex htok ha hH hr=>exact .cons (.imm sp els a cap b off su vs hu hcap hex htok ha hH hr) .nil
 |sl id off len sz ag gr b c cap a h hl ha hc=>exact .cons (.sl id off len sz ag gr b c cap a h hl ha hc) .nil
 |mapn=>exact .cons .mapn .nil
 |map b c id h=>exact .cons (.map b c id h) .nil
 |fn f f' cvs caps hf hs hr=>exact .cons (.fn f f' cvs caps hf hs hr) .nil
 |bfn f f' v d hf hr=>exact .cons (.bfn f f' v d hf hr) .nil
 |nilfn=>exact .cons .nilfn .nil
 |yld b c id h=>exact .cons (.yld b c id h) .nil

theorem Rep.strv{φ : Phi}{ρ : Rho}{H:HS}{hp:y1q}{v:Value}{s:List UInt8}(h:Rep φ ρ H hp v (.str s)):∃ s0:ByteArray,v=.string s0/\s=s0.data.toList:=by
 cases h with
 |str s=>exact⟨s,rfl,rfl⟩

theorem Rep.one{φ : Phi}{ρ : Rho}{H:HS}{hp:y1q}{v:Value}{d:D}(h:Rep φ ρ H hp v d)(hd:d.atom=true):v.oneCell'=true/\v.cells = #[v]:=by
 cases h <;> first | exact⟨rfl,rfl⟩ | (simp[D.atom] at hd)

end Dv

namespace Dv
open Go (Value Program World Act Oper Operand Code)

section
variable{P:Program}{E:Env}{φ : Phi}{τ : Phi}{ρ : Rho}{H:HS}{w:World}

def y3v:Value->Option D
 |.bool b=>some (.bool b)
 |.int k n=>some (.int k n)
 |.string s=>some (.str s.data.toList)
 |.pointer none=>some .nilp
 |.slice none 0 0=>some (.imm .exact [])
 |.map none=>some (.map none)
 |.nilFunc=>some .nilfn
 |_=>none

def y26:List Value->Option (List D)
 |[]=>some []
 |v::vs=>match y3v v,y26 vs with
  |some d,some ds=>some (d::ds)
  |_,_=>none

theorem z8p{hp:y1q}{v:Value}{d:D}(h:y3v v=some d):Rep φ ρ H hp v d:=by
 unfold y3v at h
 split at h <;> simp at h <;> subst h
 ·exact .bool _
 ·exact .int _ _
 ·exact .str _
 ·exact .nilp
 ·exact .imm .exact [] none 0 0 0 0 (fun _=>bj) (fun x hx=>by cases hx) (by simp) (fun _=>rfl) (fun k hk=>by cases hk) (fun h=>absurd rfl h) (fun j hj=>by simp[yi] at hj) (fun j d hd=>by simp[yi] at hd)
 ·exact .mapn
 ·exact .nilfn

theorem z4s{hp:y1q}:∀{vs:List Value} {ds:List D},y26 vs=some ds->yt φ ρ H hp vs ds
 |[],ds,h=>by simp[y26] at h;subst h;exact .nil
 |v::vs,ds,h=>by
  simp only[y26] at h
  cases h1:y3v v with
  |none=>simp[h1] at h
  |some d=>cases h2:y26 vs with
   |none=>simp[h1,h2] at h
   |some ds'=>simp[h1,h2] at h;subst h;exact .cons (z8p h1) (z4s h2)

def veq:Value->Value->Option Bool
 |.bool a,.bool b=>some (a == b)
 |.int k a,.int k' b=>if k=k' then some (a == b) else none
 |.string a,.string b=>some (a.data.toList == b.data.toList)
 |_,_=>none

def y4y:List Value->List Value->Option Bool
 |[],[]=>some true
 |x::xs,y::ys=>match veq x y,y4y xs ys with
  |some a,some b=>some (a && b)
  |_,_=>none
 |_,_=>none

theorem zyo{hp:y1q}{x y:Value}{a b:D}{r:Bool}(hx:Rep φ ρ H hp x a)(hy:Rep φ ρ H hp y b)(h:y20 a b=some r):veq x y=some r:=by
 unfold y20 at h
 split at h
 ·cases hx;cases hy;exact h
 ·cases hx;cases hy;exact h
 ·cases hx;cases hy;exact h
 ·cases h

theorem zd5{hp:y1q}:∀{xs ys:List Value} {as bs:List D} {r:Bool},yt φ ρ H hp xs as->yt φ ρ H hp ys bs->eqL as bs=some r->y4y xs ys=some r
 |[],[],[],[],r,_,_,h=>h
 |[],_::_,[],[],r,_,h2,h=>by have:=h2.1;simp at this
 |_::_,_,[],_,r,h1,_,h=>by have:=h1.1;simp at this
 |[],_,_::_,_,r,h1,_,h=>by have:=h1.1;simp at this
 |_::_,[],_::_,_::_,r,_,h2,h=>by have:=h2.1;simp at this
 |x::xs,y::ys,a::as,b::bs,r,h1,h2,h=>by
  simp only[eqL] at h
  cases e1:y20 a b with
  |none=>simp[e1] at h
  |some p=>cases e2:eqL as bs with
   |none=>simp[e1,e2] at h
   |some q=>
    simp[e1,e2] at h;subst h
    simp only[y4y,zyo h1.of_cons.1 h2.of_cons.1 e1,zd5 h1.of_cons.2 h2.of_cons.2 e2]
 |[],_,[],_::_,r,_,_,h=>by simp[eqL] at h
 |_::_,_,_::_,[],r,_,_,h=>by simp[eqL] at h

def y8h:Value->Bool
 |.agg _=>true
 |_=>false

def klB:List Value->List D->Bool
 |[],[]=>true
 |.bool _::xs,.bool _::ys=>klB xs ys
 |.int k _::xs,.int k' _::ys=>decide (k=k') && klB xs ys
 |.string _::xs,.str _::ys=>klB xs ys
 |_,_=>false

theorem zlo{hp:y1q}:∀{vs:List Value} {xs zs:List D},yt φ ρ H hp vs xs->y1r xs zs=true->klB vs zs=true
 |[],[],[],_,_=>rfl
 |[],_::_,_,h,_=>by have:=h.1;simp at this
 |_::_,[],_,h,_=>by have:=h.1;simp at this
 |[],[],_::_,_,h=>by simp[y1r] at h
 |v::vs,x::xs,[],_,h=>by cases x <;> simp[y1r] at h
 |v::vs,x::xs,z::zs,h,hk=>by
  obtain⟨h1,h2⟩:=h.of_cons
  cases x <;> cases z <;> simp[y1r] at hk
  ·cases h1;simpa[klB] using zlo h2 hk
  ·cases h1;simp[klB,hk.1];exact zlo h2 hk.2
  ·cases h1;simpa[klB] using zlo h2 hk

structure EqOk(P:Program)(t:Nat)(zs:List D):Prop where
 eq:∀(w:World) (d:Nat) (xs ys:List Value) (r:Bool),klB xs zs=true->y4y xs ys=some r->(Go.Op.equalIn (d+16) t (.agg xs.toArray) (.agg ys.toArray)).run P w=.ok r w
 key:∀(w:World) (em:Bool) (d:Nat) (vs:List Value),klB vs zs=true->(cG em (d+16) t (.agg vs.toArray)).run P w=.ok () w
 kind:∃ u,P.underlying t=some u/\(match u with | .int _=>False | .string=>False | .bool=>False | _=>True)
 guard:P.eqGuardType P.depth t=false

structure TOk(P:Program)(E:Env)(τ : Phi)(t c:Nat):Prop where
 id : τ t=some c
 info:∃ i,P.info? t=some i/\i.size=(E.ty c).size/\i.bytes=(E.ty c).bytes /\
  ((E.ty c).zero.length=(E.ty c).size->(E.ty c).size ≠ 0->∃ z,i.zero=some z/\y26 z.cells.toList=some (E.ty c).zero/\y8h z=(E.ty c).ag)
 eq:(E.ty c).eqc=true->EqOk P t (E.ty c).zero
 und:match (E.ty c).k with
  |.bool=>P.underlying t=some .bool
  |.int k=>P.underlying t=some (.int k)
  |.str=>P.underlying t=some .string
  |.slice e=>∃ e',P.underlying t=some (.slice e') /\ τ e'=some e
  |.struct fs=>∃ fs':Array eK,P.underlying t=some (.struct fs')/\fs'.size=fs.length /\ ∀(i:Nat) (f:eK) (p:Nat × Nat),fs'[i]? = some f->fs[i]? = some p->f.offset=p.1 /\ τ f.type=some p.2
  |.arr n e=>∃ e',P.underlying t=some (.array n e') /\ τ e'=some e
  |.map k e=>∃ k' e',P.underlying t=some (.map k' e') /\ τ k'=some k /\ τ e'=some e
  |.ptr _=>∃ e',P.underlying t=some (.pointer e')
  |.func=>∃ a b v,P.underlying t=some (.func a b v)
  |.other=>False

def y3d(P:Program)(E:Env)(τ : Phi):Prop:=∀ t c,τ t=some c->TOk P E τ t c

theorem z1g{t:Nat}{i:kH}(h:P.info? t=some i):(nI t).run P w=.ok i w:=by
 simp[nI,h]

theorem run_underlying{t:Nat}{u:nJ}(h:P.underlying t=some u):(jR t).run P w=.ok u w:=by
 simp[jR,h]

theorem TOk.size{t c:Nat}(T:TOk P E τ t c):(f7 t).run P w=.ok (E.ty c).size w:=by
 obtain⟨i,hi,hs,_⟩:=T.info
 simp[f7,z1g hi,hs]

theorem TOk.isAgg{t c:Nat}(T:TOk P E τ t c):(eL t).run P w=.ok (E.ty c).ag w:=by
 have h:=T.und
 unfold TI.ag
 cases hk:(E.ty c).k <;> rw[hk] at h <;> simp only at h
 case bool=>simp[eL,run_underlying h]
 case int k=>simp[eL,run_underlying h]
 case str=>simp[eL,run_underlying h]
 case slice e=>obtain⟨_,h,_⟩:=h;simp[eL,run_underlying h]
 case struct fs=>obtain⟨_,h,_⟩:=h;simp[eL,run_underlying h]
 case arr n e=>obtain⟨_,h,_⟩:=h;simp[eL,run_underlying h]
 case map k e=>obtain⟨_,_,h,_⟩:=h;simp[eL,run_underlying h]
 case ptr e=>obtain⟨_,h⟩:=h;simp[eL,run_underlying h]
 case func=>obtain⟨_,_,_,h⟩:=h;simp[eL,run_underlying h]


theorem z3f{cs:List D}:∀{n off:Nat} {r:List D},y1x cs off n=some r->r.length=n /\ ∀ j,j<n->r[j]? = cs[off+j]? /\ off+j<cs.length
 | 0,off,r,h=>by simp[y1x] at h;subst h;exact⟨rfl,fun j hj=>absurd hj (Nat.not_lt_zero _)⟩
 |n+1,off,r,h=>by
  simp only[y1x] at h
  cases h1:cs[off]? with
  |none=>simp[h1] at h
  |some c=>cases h2:y1x cs (off+1) n with
   |none=>simp[h1,h2] at h
   |some r'=>
    simp[h1,h2] at h;subst h
    obtain⟨hl,hj⟩:=z3f h2
    refine⟨by simp[hl],fun j hjn=>?_⟩
    cases j with
    |zero=>exact⟨by simp[h1],(ac.1 h1).1⟩
    |succ j=>have:=hj j (by omega);exact⟨by simp only[cM,this.1];congr 1;omega,by omega⟩

def y5g(φ : Phi)(ρ : Rho)(H:HS)(hp:y1q)(b off:Nat)(cs:List D):Prop:=
 ∃ vl:List Value,yt φ ρ H hp vl cs /\ ∀(j:Nat) v,vl[j]? = some v->cellOf hp b (off+j)=some v

theorem z1h(b off n:Nat):(⟨b,off,none⟩:cB).add n=⟨b,off+n,none⟩:=by
 unfold Go.Addr.add
 split
 ·rename_i h;subst h;rfl
 ·rfl

theorem z73{b off:Nat}{v:Value}(h:cellOf w.heap b off=some v):(Go.load ⟨b,off,none⟩).run P w=.ok v w:=by
 rw[Go.run_load,cell?_eq,h]

theorem z4b{b off:Nat}:∀(vl:List Value) (i:Nat) (acc:Array Value),(∀(j:Nat) v,vl[j]? = some v->cellOf w.heap b (off+i+j)=some v) ->
  (eY ⟨b,off,none⟩ i vl.length acc).run P w=.ok (acc++vl.toArray) w
 |[],i,acc,_=>by simp[eY]
 |v::vl,i,acc,h=>by
  have h0:=h 0 v rfl
  simp only[aA,eY,ax,z1h]
  rw[z73 (by simpa using h0)]
  simp only[al]
  rw[z4b vl (i+1) (acc.push v) (fun j v' hv=>by have:=h (j+1) v' (by simpa using hv);rw[<- this];congr 1;omega)]
  simp

theorem z37{b off n:Nat}{vl:List Value}(hn:vl.length=n)(h:∀(j:Nat) v,vl[j]? = some v->cellOf w.heap b (off+j)=some v) :
  (gY ⟨b,off,none⟩ n).run P w=.ok vl.toArray w:=by
 subst hn
 unfold gY
 rw[z4b vl 0 #[] (by simpa using h)]
 simp

theorem y5g.take{hp:y1q}{b off:Nat}{cs:List D}(h:y5g φ ρ H hp b off cs){k n:Nat}{r:List D}(hr:y1x cs k n=some r):y5g φ ρ H hp b (off+k) r:=by
 obtain⟨vl,h1,h2⟩:=h
 obtain⟨hl,hj⟩:=z3f hr
 refine⟨(vl.drop k).take n,⟨?_,?_⟩,?_⟩
 ·rw[aI,cq,hl,h1.1]
  cases n with
  |zero=>simp
  |succ m=>have:=(hj m (by omega)).2;omega
 ·intro j v d hv hd
  have hjn:j<n:=by have:=(ac.1 hd).1;omega
  rw[aU,if_pos hjn,bX] at hv
  exact h1.2 _ v d hv (by rw[<- (hj j hjn).1];exact hd)
 ·intro j v hv
  rw[aU] at hv
  split at hv
  ·rw[bX] at hv
   have:=h2 _ v hv
   rw[<- this];congr 1;omega
  ·simp at hv

theorem zan{t c b off:Nat}{r:List D}{d:D}(T:TOk P E τ t c)(h:y5g φ ρ H w.heap b off r)(hl:r.length=(E.ty c).size)(hd:yk (E.ty c).ag r=some d) :
  ∃ v,(fU t (.pointer (some ⟨b,off,none⟩))).run P w=.ok v w/\Rep φ ρ H w.heap v d:=by
 obtain⟨vl,h1,h2⟩:=h
 unfold fU Go.loadVar
 simp only[db,ax,aK,al,T.isAgg]
 cases ha:(E.ty c).ag with
 |true=>
  rw[ha] at hd
  simp[yk] at hd;subst hd
  refine⟨.agg vl.toArray,?_,h1.agg⟩
  simp only[if_true,ax,T.size,al]
  rw[z37 (by rw[h1.1,hl]) h2]
  simp
 |false=>
  rw[ha] at hd
  match r,hd with
  |[c0],hd=>
   simp[yk] at hd;subst hd
   match vl,h1 with
   |[v],h1=>
    refine⟨v,?_,h1.of_cons.1⟩
    have:=h2 0 v rfl
    simp only[aP,if_false]
    rw[z73 (by simpa using this)]
   |[],h1=>have:=h1.1;simp at this
   |_::_::_,h1=>have:=h1.1;simp at this
  |[],hd=>simp[yk] at hd
  |_::_::_,hd=>simp[yk] at hd

end
end Dv

namespace Dv
open Go (Value Program World Act Oper Operand Code)

section
variable{P:Program}{E:Env}{φ : Phi}{τ : Phi}{ρ : Rho}{H:HS}{w:World}

def y55(φ : Phi)(ρ : Rho)(H:HS)(hp:y1q)(b c:Nat)(cs:List D):Prop:=
 ∃(arr:Array Value) (el:Nat),hp[b]? = some (.cells arr el (0,0))/\arr.size=c/\cs.length<=arr.size/\(∀(j:Nat) (v:Value) (d:D),arr[j]? = some v->cs[j]? = some d->Rep φ ρ H hp v d) /\ ∀ d,d ∈ cs->d.atom=true

theorem y55.cells{hp:y1q}{b c:Nat}{cs:List D}(h:y55 φ ρ H hp b c cs):y5g φ ρ H hp b 0 cs:=by
 obtain⟨arr,el,h1,h2,h3,h4,_⟩:=h
 refine⟨arr.toList.take cs.length,⟨by simp;omega,fun j v d hv hd=>?_⟩,fun j v hv=>?_⟩
 ·rw[aU] at hv
  split at hv
  ·exact h4 j v d (by simpa using hv) hd
  ·simp at hv
 ·rw[aU] at hv
  split at hv
  ·simp[cellOf,h1];simpa using hv
  ·simp at hv

def y3l(me:Array br)(clock:Nat):Prop:=(∀ x,x ∈ me.toList->x.born<clock)/\(me.toList.map (·.born)).Nodup

def y78(φ : Phi)(ρ : Rho)(H:HS)(hp:y1q)(b:Nat)(es:List (D × D)):Prop:=
 ∃(me:Array br) (clock:Nat),hp[b]? = some (.map me clock)/\me.size=es.length/\(∀(j:Nat) (e:br) (p:D × D),me[j]? = some e->es[j]? = some p->Rep φ ρ H hp e.key p.1/\Rep φ ρ H hp e.val p.2)/\y3l me clock

structure RR(φ : Phi)(ρ : Rho)(H:HS)(hp:y1q)(os:List Obj):Prop where
 row:∀(id b c:Nat) cs,ρ id=some (.blk b c)->yz os id=some cs->y55 φ ρ H hp b c cs
 map:∀(id b c:Nat) es,ρ id=some (.blk b c)->os[id]? = some (.map es)->y78 φ ρ H hp b es

theorem zao{os:List Obj}(R:RR φ ρ H w.heap os){t c:Nat}{va:Value}{a d:D}(T:TOk P E τ t c)(ha:Rep φ ρ H w.heap va a)(h:yo E os c a=some d) :
  ∃ v,(fU t va).run P w=.ok v w/\Rep φ ρ H w.heap v d:=by
 unfold yo at h
 split at h
 ·rename_i id off
  cases ha with
  |loc b cc _ _ hid=>
   have key:∀ cs,yz os id=some cs->(y1x cs off (E.ty c).size).bind (yk (E.ty c).ag)=some d->∃ v,(fU t (.pointer (some ⟨b,off,none⟩))).run P w=.ok v w/\Rep φ ρ H w.heap v d:=by
    intro cs hrow h
    cases ht:y1x cs off (E.ty c).size with
    |none=>simp[ht] at h
    |some r=>
     simp[ht] at h
     have:=((R.row id b cc cs hid hrow).cells).take ht
     rw[bA] at this
     exact zan T this (z3f ht).1 h
   split at h
   ·rename_i cs hos;exact key cs (by simp[yz,hos]) h
   ·rename_i cs hos;exact key cs (by simp[yz,hos]) h
   ·cases h
 ·rename_i cs
  cases ha with
  |iptr b off _ vs hH hr=>
   have hc:y5g φ ρ H w.heap b off cs:=⟨(cO cs.length).map vs,⟨by simp,fun j v d hv hd=>by
     simp only[bK,ab] at hv
     obtain⟨k,hk,rfl⟩:=hv
     have hj:=(ac.1 hd).1
     rw[ee hj] at hk;simp at hk;subst hk
     exact hr _ d hd⟩,fun j v hv=>by
     simp only[bK,ab] at hv
     obtain⟨k,hk,rfl⟩:=hv
     have hj:=(ac.1 hk).1
     simp at hj
     rw[ee hj] at hk;simp at hk;subst hk
     exact(hH _ hj).2⟩
   cases ht:y1x cs 0 (E.ty c).size with
   |none=>simp[ht] at h
   |some r=>
    simp[ht] at h
    have:=hc.take ht
    rw[cU] at this
    exact zan T this (z3f ht).1 h
 ·cases h

theorem z7k{hp:y1q}{va:Value}{sp:y13}{els:List D}(h:Rep φ ρ H hp va (.imm sp els)) :
  ∃ a cap b off su,va=.slice a els.length cap/\els.length<=cap/\(els ≠ []->a=some ⟨b,off,none⟩)/\(∀ x,x ∈ els->x.cellsL.length=su/\x.storable=true) /\
   ∃ vl:List Value,yt φ ρ H hp vl (yi els) /\ ∀(j:Nat) v,vl[j]? = some v->H b (off+j)/\cellOf hp b (off+j)=some v:=by
 cases h with
 |imm _ _ a cap b off su vs hu hcap hex htok ha hH hr=>
  refine⟨a,cap,b,off,su,rfl,hcap,ha,hu,(cO (yi els).length).map vs,⟨by simp,fun j v d hv hd=>?_⟩,fun j v hv=>?_⟩
  ·have hj:=(ac.1 hd).1
   simp only[bK,ee hj,aq,aa] at hv
   subst hv;exact hr _ d hd
  ·have hj:=(ac.1 hv).1
   simp at hj
   simp only[bK,ee hj,aq,aa] at hv
   subst hv;exact hH _ hj

theorem z19(a b:List D):yi (a++b)=yi a++yi b:=by simp[yi]

theorem zcr{sz:Nat}:∀{els:List D},y2u sz els=true->(yi els).length=els.length*sz
 |[],_=>by simp[yi]
 |d::els,h=>by
  simp only[y2u,gI,ar,beq_iff_eq] at h
  have:=zcr (sz:=sz) (els:=els) h.2
  rw[show yi (d::els)=d.cellsL++yi els from rfl,ak,this,h.1.2]
  simp[bo];omega

theorem zjn{sz:Nat}:∀{els:List D} {i:Nat} {d:D},(∀ x ∈ els.take (i+1),x.cellsL.length=sz)->els[i]? = some d->∀ j,j<sz->(yi els)[i*sz+j]? = d.cellsL[j]?
 |x::els,0,d,hall,hd,j,hj=>by
  simp at hd;subst hd
  have hx:x.cellsL.length=sz:=hall x (by simp)
  rw[show yi (x::els)=x.cellsL++yi els from rfl,eZ,bA,aB (by omega)]
 |x::els,i+1,d,hall,hd,j,hj=>by
  have hx:x.cellsL.length=sz:=hall x (by simp)
  rw[show yi (x::els)=x.cellsL++yi els from rfl,aF (by rw[hx,bo];omega),hx]
  rw[show(i+1)*sz+j - sz=i*sz+j from by rw[bo];omega]
  exact zjn (fun y hy=>hall y (by simp;exact .inr hy)) (by simpa using hd) j hj

end
end Dv

namespace Dv
open Go (Value Program World Act Oper Operand Code)

section
variable{P:Program}{E:Env}{φ : Phi}{τ : Phi}{ρ : Rho}{H:HS}{w:World}

theorem TOk.slice{t c e:Nat}(T:TOk P E τ t c)(h:(E.ty c).k=.slice e):∃ e',P.underlying t=some (.slice e') /\ τ e'=some e:=by
 have:=T.und;rw[h] at this;exact this

theorem Rep.intv{hp:y1q}{v:Value}{k:aZ}{n:Int}(h:Rep φ ρ H hp v (.int k n)):v=.int k n:=by cases h;rfl
theorem Rep.boolv{hp:y1q}{v:Value}{b:Bool}(h:Rep φ ρ H hp v (.bool b)):v=.bool b:=by cases h;rfl

theorem zm3(TA:y3d P E τ){t c:Nat}{vx vi:Value}{x i d:D}(T:TOk P E τ t c)(hx:Rep φ ρ H w.heap vx x)(hi:Rep φ ρ H w.heap vi i)(h:y29 E c x i=some d) :
  ∃ v,(fF t vx vi).run P w=.ok v w/\Rep φ ρ H w.heap v d:=by
 unfold y29 at h
 split at h
 ·rename_i sp els k n e hk
  obtain⟨e',hu,he'⟩:=T.slice hk
  have Te:=TA _ _ he'
  obtain rfl:=hi.intv
  split at h
  ·rename_i hn
   split at h
   ·rename_i d0 hd0
    split at h
    ·rename_i hl
     simp at h;subst h
     obtain⟨a,cap,b,off,su,rfl,hcap,ha,hun,vl,hrl,hcl⟩:=z7k hx
     have hlt:=(ac.1 hd0).1
     have hne:els ≠ []:=by rintro rfl;simp at hlt
     have hmem:d0 ∈ els:=by obtain⟨h1,h2⟩:=ac.1 hd0;rw[<- h2];exact aC h1
     have hsu:su=(E.ty e).size:=by rw[<- (hun d0 hmem).1,hl]
     rw[ha hne]
     refine⟨.pointer (some ⟨b,off+n.toNat*(E.ty e).size,none⟩),?_,?_⟩
     ·unfold fF
      have:(0:Int)<=n/\n<(els.length:Int):=⟨hn,by omega⟩
      simp[ep,run_underlying hu,this,Te.size,z1h]
     ·have key:∀ j,j<(E.ty e).size->(yi els)[n.toNat*(E.ty e).size+j]? = d0.cellsL[j]?:=fun j hj=>
       zjn (fun y hy=>by rw[<- hsu];exact(hun y (dh hy)).1) hd0 j hj
      refine .iptr _ _ _ (fun j=>vl.getD (n.toNat*(E.ty e).size+j) bj) (fun j hj=>?_) (fun j d1 hd1=>?_)
      ·rw[hl] at hj
       have h1:=key j hj
       have h2:(yi els)[n.toNat*(E.ty e).size+j]? ≠ none:=by rw[h1,ae (by omega)];simp
       have h3:n.toNat*(E.ty e).size+j<vl.length:=by rw[hrl.1];exact iT fun hh=>h2 (be hh)
       have h4:=hcl _ _ (ae h3)
       rw[aj,ae h3,d8]
       exact h4
      ·have hj:j<(E.ty e).size:=by rw[<- hl];exact(ac.1 hd1).1
       have h1:=key j hj
       rw[hd1] at h1
       obtain⟨v,hv,hr⟩:=hrl.get h1
       rw[aj,hv]
       exact hr
    ·simp at h
   ·simp at h
  ·simp at h
 ·rename_i id off len sz ag gr k n e hk
  obtain⟨e',hu,he'⟩:=T.slice hk
  have Te:=TA _ _ he'
  obtain rfl:=hi.intv
  split at h
  ·rename_i hn
   simp at h;subst h
   cases hx with
   |sl _ _ _ _ _ _ b c cap a hid hl ha hc=>
    have hne:len ≠ 0:=by omega
    rw[ha hne]
    refine⟨.pointer (some ⟨b,off+n.toNat*(E.ty e).size,none⟩),?_,?_⟩
    ·unfold fF
     simp[ep,run_underlying hu,hn.1,hn.2.1,Te.size,z1h]
    ·rw[hn.2.2];exact .loc _ _ _ _ hid
  ·simp at h
 ·rename_i id off k n len e hk
  have hu:=T.und;rw[hk] at hu
  obtain⟨e',hu,he'⟩:=hu
  have Te:=TA _ _ he'
  obtain rfl:=hi.intv
  split at h
  ·rename_i hn
   simp at h;subst h
   cases hx with
   |loc b c _ _ hid=>
    refine⟨.pointer (some ⟨b,off+n.toNat*(E.ty e).size,none⟩),?_,.loc _ _ _ _ hid⟩
    unfold fF
    simp[ep,run_underlying hu,db,hn.1,hn.2,Te.size,z1h]
  ·simp at h
 ·rename_i cs k n len e hk
  have hu:=T.und;rw[hk] at hu
  obtain⟨e',hu,he'⟩:=hu
  have Te:=TA _ _ he'
  obtain rfl:=hi.intv
  split at h
  ·rename_i hn
   simp at h;subst h
   cases hx with
   |iptr b off _ vs hH hr=>
    refine⟨.pointer (some ⟨b,off+n.toNat*(E.ty e).size,none⟩),?_,.iptr b _ _ (fun j=>vs (n.toNat*(E.ty e).size+j)) (fun j hj=>?_) (fun j d hd=>hr _ d (by simpa using hd))⟩
    ·unfold fF
     simp[ep,run_underlying hu,db,hn.1,hn.2,Te.size,z1h]
    ·have:=hH (n.toNat*(E.ty e).size+j) (by simp at hj;omega)
     rw[d8];exact this
  ·simp at h
 ·simp at h

theorem z2t{x:D}{v:Value}{y l:Nat}{code:Go.BoundsCode}(h:Rep φ ρ H w.heap v x)(hb:bnd (some x) 0=some l)(hl:l<=y):(dz v y code).run P w=.ok l w:=by
 unfold bnd at hb
 split at hb
 ·contradiction
 ·rename_i k n hk
  simp at hk;subst hk
  obtain rfl:=h.intv
  split at hb
  ·rename_i h0
   simp at hb;subst hb
   unfold dz
   have:n<=(y:Int):=by omega
   simp[ep,h0,this]
  ·simp at hb
 ·simp at hb

def ybi(φ : Phi)(ρ : Rho)(H:HS)(hp:y1q):Option Value->Option D->Prop
 |none,none=>True
 |some v,some d=>Rep φ ρ H hp v d
 |_,_=>False

theorem z9b{x:D}{a b:Nat}:bnd (some x) a=bnd (some x) b:=by cases x <;> rfl

theorem z2f{isS:Bool}{vl vh vm:Option Value}{lo hi mx:Option D}{len cap l h m:Nat}(rl:ybi φ ρ H w.heap vl lo)(rh:ybi φ ρ H w.heap vh hi)(rm:ybi φ ρ H w.heap vm mx)
  (hl:bnd lo 0=some l) (hh:bnd hi len=some h) (hm:bnd mx cap=some m) (hmh:mx.isSome=true->hi.isSome=true) (h1:l<=h) (h2:h<=m) (h3:m<=cap) :
  (eO isS len cap vl vh vm).run P w=.ok (l,h,m) w:=by
 have e1:∀ code,(match vl with | some v=>dz v h code | none=>pure 0:fp Nat).run P w=.ok l w:=by
  intro code
  match vl,lo,rl with
  |none,none,_=>simp[bnd] at hl;simp[hl]
  |some v,some d,r=>exact z2t r hl h1
 match vm,mx,rm with
 |none,none,_=>
  simp[bnd] at hm;subst hm
  match vh,hi,rh with
  |none,none,_=>
   simp[bnd] at hh;subst hh
   unfold eO
   have e2:=e1 .sliceB
   cases vl <;> simp_all
  |some v,some d,r=>
   unfold eO
   have e2:=e1 .sliceB
   have e3:∀ code,(dz v cap code).run P w=.ok h w:=fun code=>z2t r (by rw[z9b (b:=len)];exact hh) h2
   cases vl <;> simp_all
 |some vm,some dm,rm=>
  match vh,hi,rh with
  |none,none,_=>simp at hmh
  |some v,some d,r=>
   unfold eO
   have e2:=e1 .slice3C
   have e3:∀ code,(dz v m code).run P w=.ok h w:=fun code=>z2t r (by rw[z9b (b:=len)];exact hh) h2
   have e4:∀ code,(dz vm cap code).run P w=.ok m w:=fun code=>z2t rm (by rw[z9b (b:=cap)];exact hm) h3
   cases vl <;> simp_all

end
end Dv

namespace Dv
open Go (Value Program World Act Oper Operand Code)

section
variable{P:Program}{E:Env}{φ : Phi}{τ : Phi}{ρ : Rho}{H:HS}{w:World}

theorem z6c{su:Nat}:∀{els:List D} (l n:Nat),(∀ x,x ∈ els->x.cellsL.length=su)->∀(j:Nat),j<(yi ((els.drop l).take n)).length->(yi ((els.drop l).take n))[j]? = (yi els)[l*su+j]?
 |[],l,n,_,j,hj=>by simp[yi] at hj
 |x::els,0,n,hu,j,hj=>by
  simp only[List.drop_zero] at hj ⊢
  have:yi (x::els)=yi ((x::els).take n)++yi ((x::els).drop n):=by rw[<- z19,bp]
  rw[this,eZ,bA,aB hj]
 |x::els,l+1,n,hu,j,hj=>by
  simp only[List.drop_succ_cons] at hj ⊢
  rw[z6c (su:=su) l n (fun y hy=>hu y (bI _ hy)) j hj]
  have hx:x.cellsL.length=su:=hu x (by simp)
  rw[show yi (x::els)=x.cellsL++yi els from rfl,aF (by rw[hx,bo];omega),hx]
  congr 1
  rw[bo];omega

theorem zo{su:Nat}{els:List D}(hu:∀ x,x ∈ els->x.cellsL.length=su):(yi els).length=els.length*su:=by
 induction els with
 |nil=>simp[yi]
 |cons x els ih=>
  rw[show yi (x::els)=x.cellsL++yi els from rfl,ak,ih (fun y hy=>hu y (bI _ hy)),hu x (by simp),aA,bo]
  omega

theorem zb6:∀{l:List D},(∀ x,x ∈ l->x.cellsL=[x])->yi l=l
 |[],_=>rfl
 |x::l,h=>by
  have e:yi (x::l)=x.cellsL++yi l:=rfl
  rw[e,h x (by simp),zb6 fun y hy=>h y (by simp[hy])]
  rfl

theorem zkv(TA:y3d P E τ){t c:Nat}{vx:Value}{vl vh vm:Option Value}{x d:D}{lo hi mx:Option D}(T:TOk P E τ t c)(hx:Rep φ ρ H w.heap vx x)(rl:ybi φ ρ H w.heap vl lo)
  (rh:ybi φ ρ H w.heap vh hi) (rm:ybi φ ρ H w.heap vm mx) (hmh:mx.isSome=true->hi.isSome=true) (h:y15 E c x lo hi mx=some d) :
  ∃ v,(ej t vx vl vh vm).run P w=.ok v w/\Rep φ ρ H w.heap v d:=by
 unfold y15 at h
 split at h
 ·rename_i sp els e hk
  obtain⟨e',hu,he'⟩:=T.slice hk
  have Te:=TA _ _ he'
  split at h
  ·rename_i l hh m e1 e2 e3
   split at h
   ·rename_i hb
    obtain⟨b1,b2,b3,b4⟩:=hb
    simp at h;subst h
    cases hx with
    |imm _ _ a cap b off su vs hun hcap hex htok ha hH hr=>
     have hsu:els ≠ []->su=(E.ty e).size:=by
      intro hne
      cases els with
      |nil=>exact absurd rfl hne
      |cons y ys=>simp[y53] at b4;rw[<- b4];exact(hun y (by simp)).1.symm
     obtain⟨m',hm',hm1,hm2⟩:∃ m',bnd mx cap=some m'/\hh<=m'/\m'<=cap/\(mx.isSome=true->m'=m)/\(mx=none->m'=cap):=by
      cases mx with
      |none=>exact⟨cap,rfl,by omega,ai _,by simp,by simp⟩
      |some y=>exact⟨m,by rw[z9b (b:=els.length)];exact e3,b2,by omega,by simp,by simp⟩
     have hrun:=z2f (P:=P) (isS:=true) rl rh rm e1 e2 hm' hmh b1 hm1 hm2.1
     refine⟨.slice (if m'=l then a else a.map (·.add (l*(E.ty e).size))) (hh - l) (m' - l),?_,?_⟩
     ·unfold ej js
      simp[run_underlying hu,hrun,Te.size]
     ·have hlen:((els.drop l).take (hh - l)).length=hh - l:=by simp;omega
      have hsub:∀ y,y ∈ (els.drop l).take (hh - l)->y ∈ els:=fun y hy=>eP (dh hy)
      have hnum:∀(j:Nat),j<(yi ((els.drop l).take (hh - l))).length->(yi ((els.drop l).take (hh - l)))[j]? = (yi els)[l*su+j]?:=
       z6c l (hh - l) (fun y hy=>(hun y hy).1)
      have hlt:∀(j:Nat),j<(yi ((els.drop l).take (hh - l))).length->l*su+j<(yi els).length:=by
       intro j hj
       have h1:=hnum j hj
       rw[ae hj] at h1
       exact(ac.1 h1.symm).1
      have key:=Rep.imm (φ:=φ) (ρ:=ρ) (H:=H) (hp:=w.heap) (y1c sp els.length hh (mx.map fun _=>m)) ((els.drop l).take (hh - l))
       (if m'=l then a else a.map (·.add (l*(E.ty e).size))) (m' - l) b (off+l*su) su (fun j=>vs (l*su+j)) (fun y hy=>hun y (hsub y hy)) (by rw[hlen];omega)
       (by
        rw[hlen]
        intro hs
        unfold y1c at hs
        cases mx with
        |none=>
         simp only[aV] at hs
         split at hs
         ·rename_i e4
          cases sp with
          |exact=>have:=hex rfl;rw[hm2.2.2 rfl];omega
          |none=>simp at hs
          |tok k=>simp at hs
         ·simp at hs
        |some y=>
         simp only[aq] at hs
         split at hs
         ·rename_i e4;rw[hm2.2.1 rfl,e4]
         ·simp at hs)
       (by
        intro k hs
        unfold y1c at hs
        cases mx <;> simp only[aV,aq] at hs <;> split at hs <;> first | (simp at hs;done) | (cases sp <;> simp at hs))
       (by
        intro hne
        have h0:hh - l ≠ 0:=by intro h0;rw[h0] at hne;simp at hne
        have hne':els ≠ []:=by rintro rfl;simp at hne
        rw[if_neg (by omega),ha hne',hsu hne']
        simp[z1h])
       (by
        intro j hj
        have:=hH (l*su+j) (hlt j hj)
        rw[show off+l*su+j=off+(l*su+j) from by omega]
        exact this)
       (by
        intro j d1 hd1
        have hj:=(ac.1 hd1).1
        exact hr _ d1 (by rw[<- hnum j hj];exact hd1))
      rw[hlen] at key
      exact key
   ·simp at h
  ·simp at h
 ·rename_i id off len sz ag gr e hk
  obtain⟨e',hu,he'⟩:=T.slice hk
  have Te:=TA _ _ he'
  split at h
  ·rename_i l hh e1 e2
   split at h
   ·rename_i hb
    simp at h;subst h
    cases hx with
    |sl _ _ _ _ _ _ b c cap a hid hl ha hc=>
     have hrun:=z2f (P:=P) (w:=w) (isS:=true) (cap:=cap) (m:=cap) rl rh rm e1 e2 rfl hmh hb.1 (by omega) (ai _)
     refine⟨.slice (if cap=l then a else a.map (·.add (l*(E.ty e).size))) (hh - l) (cap - l),?_,?_⟩
     ·unfold ej js
      simp[run_underlying hu,hrun,Te.size]
     ·refine .sl _ _ _ _ _ _ b c _ _ hid (by omega) (fun h0=>?_) (by simp)
      rw[if_neg (by omega),ha (by omega),<- hb.2.2]
      simp[z1h]
   ·simp at h
  ·simp at h
 ·rename_i id off n e hk
  have hu:=T.und;rw[hk] at hu
  obtain⟨e',hu,he'⟩:=hu
  have Te:=TA _ _ he'
  split at h
  ·rename_i l hh e1 e2
   split at h
   ·rename_i hb
    simp at h;subst h
    cases hx with
    |loc b c _ _ hid=>
     have hrun:=z2f (P:=P) (w:=w) (isS:=false) (cap:=n) (m:=n) rl rh rm e1 e2 rfl hmh hb.1 hb.2 (ai _)
     refine⟨.slice (some (if n=l then⟨b,off,none⟩ else(⟨b,off,none⟩:cB).add (l*(E.ty e).size))) (hh - l) (n - l),?_,?_⟩
     ·unfold ej
      simp[run_underlying hu,db,hrun,Te.size]
     ·refine .sl _ _ _ _ _ _ b c _ _ hid (by omega) (fun h0=>?_) (by simp)
      rw[if_neg (by omega),z1h]
   ·simp at h
  ·simp at h
 ·rename_i cs n e hk
  have hu:=T.und;rw[hk] at hu
  obtain⟨e',hu,he'⟩:=hu
  have Te:=TA _ _ he'
  split at h
  ·rename_i l hh e1 e2
   split at h
   ·rename_i hb
    obtain⟨b1,b2,b3,b4,b5⟩:=hb
    simp at h;subst h
    cases hx with
    |iptr b off _ vs hH hr=>
     have hrun:=z2f (P:=P) (w:=w) (isS:=false) (cap:=n) (m:=n) rl rh rm e1 e2 rfl hmh b1 b2 (ai _)
     refine⟨.slice (some (if n=l then⟨b,off,none⟩ else(⟨b,off,none⟩:cB).add (l*(E.ty e).size))) (hh - l) (n - l),?_,?_⟩
     ·unfold ej
      simp[run_underlying hu,db,hrun,Te.size]
     ·have hone:∀ x,x ∈ cs->x.cellsL=[x]/\x.storable=true:=fun x hx=>by
       have:=aD.1 b5 x hx
       cases x <;> first | exact⟨rfl,rfl⟩ | (simp[D.atom] at this)
      have hsub:∀ x,x ∈ (cs.drop l).take (hh - l)->x ∈ cs:=fun x hx=>eP (dh hx)
      have hun:∀ x,x ∈ (cs.drop l).take (hh - l)->x.cellsL.length=1/\x.storable=true:=fun x hx=>by
       obtain⟨h1,h2⟩:=hone x (hsub x hx)
       exact⟨by rw[h1];rfl,h2⟩
      have hlen:((cs.drop l).take (hh - l)).length=hh - l:=by simp;omega
      have hfl:yi ((cs.drop l).take (hh - l))=(cs.drop l).take (hh - l):=zb6 fun x hx=>(hone x (hsub x hx)).1
      have key:=Rep.imm (φ:=φ) (ρ:=ρ) (H:=H) (hp:=w.heap) .none ((cs.drop l).take (hh - l)) (some (if n=l then⟨b,off,none⟩ else(⟨b,off,none⟩:cB).add (l*(E.ty e).size))) (n - l) b (off+l) 1 (fun j=>vs (l+j)) hun (by omega) (fun h=>by cases h) (fun k hk=>by cases hk) (fun hne=>?_) (fun j hj=>?_) (fun j d1 hd1=>?_)
      ·rw[hlen] at key;exact key
      ·have h0:hh - l ≠ 0:=by intro h0;rw[h0] at hne;simp at hne
       rw[if_neg (by omega),b4,dA];simp[z1h]
      ·rw[hfl,hlen] at hj
       have:=hH (l+j) (by omega)
       rw[d8];exact this
      ·rw[hfl,aU] at hd1
       split at hd1
       ·rw[bX] at hd1
        exact hr _ d1 hd1
       ·simp at hd1
   ·simp at h
  ·simp at h
 ·simp at h

end
end Dv

namespace Dv
open Go (Value Program World Act Oper Operand Code)

section
variable{P:Program}{E:Env}{φ : Phi}{τ : Phi}{ρ : Rho}{H:HS}{w:World}

theorem ziy{t c off:Nat}{vs:List Value}{cs r:List D}{d:D}(T:TOk P E τ t c)(hs:yt φ ρ H w.heap vs cs)(ht:y1x cs off (E.ty c).size=some r)(hd:yk (E.ty c).ag r=some d) :
  ∃ v,(Go.part t vs.toArray off).run P w=.ok v w/\Rep φ ρ H w.heap v d:=by
 obtain⟨hl,hj⟩:=z3f ht
 unfold Go.part
 simp only[ax,T.isAgg,al]
 cases ha:(E.ty c).ag with
 |true=>
  rw[ha] at hd
  simp[yk] at hd;subst hd
  refine⟨.agg (vs.toArray.extract off (off+(E.ty c).size)),by simp[T.size],?_⟩
  have hsz:(vs.toArray.extract off (off+(E.ty c).size)).size=r.length:=by
   simp only[Array.size_extract,bL]
   rw[hl,hs.1]
   cases hsz:(E.ty c).size with
   |zero=>simp;omega
   |succ m=>have:=(hj m (by omega)).2;omega
  refine .agg _ _ hsz (fun j v d hv hd=>?_)
  have hjr:j<(E.ty c).size:=by rw[<- hl];exact(ac.1 hd).1
  rw[Array.getElem?_extract] at hv
  split at hv
  ·exact hs.2 (off+j) v d (by simpa using hv) (by rw[<- (hj j hjr).1];exact hd)
  ·simp at hv
 |false=>
  rw[ha] at hd
  match r,hd with
  |[c0],hd=>
   simp[yk] at hd;subst hd
   have h1:=(hj 0 (by rw[<- hl];simp)).1
   simp at h1
   obtain⟨v,hv,hr⟩:=hs.get h1.symm
   exact⟨v,by simp[hv],hr⟩
  |[],hd=>simp[yk] at hd
  |_::_::_,hd=>simp[yk] at hd

theorem TOk.struct{t c:Nat}{fs:List (Nat × Nat)}(T:TOk P E τ t c)(h:(E.ty c).k=.struct fs):∃ fs':Array eK,P.underlying t=some (.struct fs')/\fs'.size=fs.length /\
  ∀(i:Nat) (f:eK) (p:Nat × Nat),fs'[i]? = some f->fs[i]? = some p->f.offset=p.1 /\ τ f.type=some p.2:=by
 have:=T.und;rw[h] at this;exact this

theorem zb0{fs':Array eK}{fs:List (Nat × Nat)}(hs:fs'.size=fs.length){i:Nat}{p:Nat × Nat}(h:fs[i]? = some p):∃ f,fs'[i]? = some f:=by
 have:=(ac.1 h).1
 exact⟨fs'[i],bO (by omega)⟩

theorem zmh(TA:y3d P E τ){t c:Nat}{vx:Value}{x d:D}{f:Nat}(T:TOk P E τ t c)(hx:Rep φ ρ H w.heap vx x)(h:y8j E c x f=some d) :
  ∃ v,(lm t vx f).run P w=.ok v w/\Rep φ ρ H w.heap v d:=by
 unfold y8j at h
 split at h
 ·rename_i fs cs hk
  obtain⟨fs',hu,hs,hf⟩:=T.struct hk
  obtain⟨vs,rfl,hr⟩:=hx.aggL
  split at h
  ·rename_i off u hp
   obtain⟨g,hg⟩:=zb0 hs hp
   obtain⟨ho,ht⟩:=hf _ _ _ hg hp
   cases e:y1x cs off (E.ty u).size with
   |none=>simp[e] at h
   |some r=>
    simp[e] at h
    obtain⟨v,h1,h2⟩:=ziy (TA _ _ ht) hr e h
    refine⟨v,?_,h2⟩
    unfold lm
    simp only[ax,run_underlying hu,al,hg,Go.asAgg,aK]
    rw[ho];exact h1
  ·simp at h
 ·simp at h

theorem zmi(TA:y3d P E τ){t c:Nat}{vx:Value}{x d:D}{f:Nat}(T:TOk P E τ t c)(hx:Rep φ ρ H w.heap vx x)(h:y5k E c x f=some d) :
  ∃ v,(iU t vx f).run P w=.ok v w/\Rep φ ρ H w.heap v d:=by
 unfold y5k at h
 split at h
 ·rename_i fs id off hk
  obtain⟨fs',hu,hs,hf⟩:=T.struct hk
  split at h
  ·rename_i o u hp
   obtain⟨g,hg⟩:=zb0 hs hp
   obtain⟨ho,ht⟩:=hf _ _ _ hg hp
   split at h
   ·simp at h
   ·rename_i hz
    simp at h;subst h
    cases hx with
    |loc b cc _ _ hid=>
     refine⟨.pointer (some ⟨b,off+o,none⟩),?_,.loc _ _ _ _ hid⟩
     unfold iU mc
     simp[run_underlying hu,hg,db,(TA _ _ ht).size,hz,z1h,ho]
  ·simp at h
 ·rename_i fs cs hk
  obtain⟨fs',hu,hs,hf⟩:=T.struct hk
  split at h
  ·rename_i o u hp
   obtain⟨g,hg⟩:=zb0 hs hp
   obtain⟨ho,ht⟩:=hf _ _ _ hg hp
   split at h
   ·simp at h
   ·rename_i hz
    simp at h;subst h
    cases hx with
    |iptr b off _ vs hH hr=>
     refine⟨.pointer (some ⟨b,off+o,none⟩),?_,.iptr b (off+o) _ (fun j=>vs (o+j)) (fun j hj=>?_) (fun j d hd=>hr _ d (by simpa using hd))⟩
     ·unfold iU mc
      simp[run_underlying hu,hg,db,(TA _ _ ht).size,hz,z1h,ho]
     ·have:=hH (o+j) (by simp at hj;omega)
      rw[d8];exact this
  ·simp at h
 ·simp at h

theorem zm1(TA:y3d P E τ){t c:Nat}{vx vi:Value}{x i d:D}(T:TOk P E τ t c)(hx:Rep φ ρ H w.heap vx x)(hi:Rep φ ρ H w.heap vi i)(h:y5w E c x i=some d) :
  ∃ v,(jt t vx vi).run P w=.ok v w/\Rep φ ρ H w.heap v d:=by
 unfold y5w at h
 split at h
 ·rename_i len e cs k n hk
  have hu:=T.und;rw[hk] at hu
  obtain⟨e',hu,he'⟩:=hu
  have Te:=TA _ _ he'
  obtain⟨vs,rfl,hr⟩:=hx.aggL
  obtain rfl:=hi.intv
  split at h
  ·rename_i hn
   cases e1:y1x cs (n.toNat*(E.ty e).size) (E.ty e).size with
   |none=>simp[e1] at h
   |some r=>
    simp[e1] at h
    obtain⟨v,h1,h2⟩:=ziy Te hr e1 h
    refine⟨v,?_,h2⟩
    unfold jt
    simp[ep,run_underlying hu,hn.1,hn.2,Te.size,h1]
  ·simp at h
 ·rename_i s k n hk
  have hu:=T.und;rw[hk] at hu
  obtain rfl:=hi.intv
  cases hx with
  |str bs=>
   split at h
   ·rename_i hn
    split at h
    ·rename_i b hb
     simp at h;subst h
     refine⟨.int .u8 b.toNat,?_,.int _ _⟩
     unfold jt
     have hb':bs[n.toNat]? = some b:=by
      obtain⟨h1,h2⟩:=ac.1 hb
      simp at h1 h2
      have:n.toNat<bs.size:=h1
      rw[getElem?_pos bs n.toNat this]
      exact congrArg some h2
     simp[ep,run_underlying hu,hn,hb']
    ·simp at h
   ·simp at h
 ·simp at h

theorem zsk{os:List Obj}(R:RR φ ρ H w.heap os){t c t2:Nat}{vx:Value}{x d:D}(T:TOk P E τ t c)(hx:Rep φ ρ H w.heap vx x)(h:y6s E os c x=some d) :
  ∃ v,(eC #[t] t2 #[vx]).run P w=.ok v w/\Rep φ ρ H w.heap v d:=by
 unfold y6s at h
 split at h
 ·rename_i e sp els hk
  obtain⟨e',hu,he'⟩:=T.slice hk
  simp at h;subst h
  obtain⟨a,cap,b,off,su,rfl,_⟩:=z7k hx
  exact⟨_,by simp[eC,run_underlying hu];rfl,.int _ _⟩
 ·rename_i e id off len sz ag gr hk
  obtain⟨e',hu,he'⟩:=T.slice hk
  simp at h;subst h
  cases hx
  exact⟨_,by simp[eC,run_underlying hu];rfl,.int _ _⟩
 ·rename_i s hk
  have hu:=T.und;rw[hk] at hu
  simp at h;subst h
  cases hx with
  |str bs=>exact⟨_,by simp[eC,run_underlying hu];rfl,by simp[iV];exact .int _ _⟩
 ·rename_i n e _ hk
  have hu:=T.und;rw[hk] at hu
  obtain⟨e',hu,he'⟩:=hu
  simp at h;subst h
  exact⟨_,by simp[eC,run_underlying hu];rfl,.int _ _⟩
 ·rename_i k e hk
  have hu:=T.und;rw[hk] at hu
  obtain⟨k',e',hu,_⟩:=hu
  simp at h;subst h
  cases hx
  exact⟨_,by simp[eC,run_underlying hu];rfl,.int _ _⟩
 ·rename_i k e id hk
  have hu:=T.und;rw[hk] at hu
  obtain⟨k',e',hu,_⟩:=hu
  split at h
  ·rename_i es hes
   simp at h;subst h
   cases hx with
   |map b cc _ hid=>
    obtain⟨me,clock,h1,h2,h3,_⟩:=R.map _ _ _ _ hid hes
    refine⟨.int .i64 me.size,?_,by rw[h2];exact .int _ _⟩
    simp[eC,run_underlying hu,ew,er,h1,iV]
  ·simp at h
 ·simp at h

end
end Dv

namespace Dv
open Go (Value Program World Act Oper Operand Code)

section
variable{P:Program}{E:Env}{φ : Phi}{τ : Phi}{ρ : Rho}{H:HS}{w:World}

theorem zm0{op:ik}{k:aZ}{a b:Int}{t:Nat}{d:D}(h:y2p op k a b=some d) :
  ∃ v,(cz op t (.int k a) (.int k b)).run P w=.ok v w/\Rep φ ρ H w.heap v d:=by
 unfold y2p at h
 cases op <;> simp only[reduceCtorEq,aa] at h
 case and=>subst h;exact⟨.int k _,by simp[cz,iI,ybe],.int _ _⟩
 case or=>subst h;exact⟨.int k _,by simp[cz,iI,yam],.int _ _⟩
 case xor=>subst h;exact⟨.int k _,by simp[cz,iI,y8d],.int _ _⟩
 case add=>subst h;exact⟨.int k _,by simp[cz,il],.int _ _⟩
 case sub=>subst h;exact⟨.int k _,by simp[cz,il],.int _ _⟩
 case mul=>subst h;exact⟨.int k _,by simp[cz,il],.int _ _⟩
 case quo=>
  split at h
  ·simp at h
  ·rename_i hb;simp at h;subst h;exact⟨.int k _,by simp[cz,mO,hb],.int _ _⟩
 case rem=>
  split at h
  ·simp at h
  ·rename_i hb;simp at h;subst h;exact⟨.int k _,by simp[cz,mO,hb],.int _ _⟩
 case eql=>subst h;exact⟨.bool _,by simp[cz,f8],.bool _⟩
 case neq=>subst h;exact⟨.bool _,by simp[cz,f8],.bool _⟩
 case lss=>subst h;exact⟨.bool _,by simp[cz,f8],.bool _⟩
 case leq=>subst h;exact⟨.bool _,by simp[cz,f8],.bool _⟩
 case gtr=>subst h;exact⟨.bool _,by simp[cz,f8],.bool _⟩
 case geq=>subst h;exact⟨.bool _,by simp[cz,f8],.bool _⟩

theorem zn0(a:ByteArray):∀(n i:Nat) (r:List UInt8),a.size - i=n->gV a i r=r.reverse++a.data.toList.drop i:=by
 intro n
 induction n with
 |zero=>
  intro i r h
  unfold gV
  have hs:a.data.toList.length=a.size:=rfl
  rw[if_neg (by omega),List.drop_eq_nil_of_le (by omega),bZ]
 |succ n ih=>
  intro i r h
  unfold gV
  have hs:a.data.toList.length=a.size:=rfl
  rw[if_pos (by omega),ih (i+1) _ (by omega)]
  have hi:i<a.data.size:=by have:a.size=a.data.size:=rfl;omega
  rw[List.drop_eq_getElem_cons (i:=i) (by simpa using hi)]
  simp[ByteArray.get!]
  exact getElem!_pos a.data i hi

theorem z64(a:ByteArray):a.toList=a.data.toList:=by
 unfold ByteArray.toList
 rw[zn0 a a.size 0 [] (by simp)]
 simp

theorem z1y(op:ik)(t:Nat)(x y:Operand)(a b:Value)(h:(∀ xs,a ≠ .agg xs)/\a ≠ .nilIface):(jM op t x y a b).run P w=.ok () w:=by
 unfold jM
 cases op <;> simp <;> (split <;> simp_all)

theorem zqt{op:ik}{t c:Nat}{ox oy:Operand}{vx vy:Value}{x y d:D}(T:TOk P E τ t c)(hx:Rep φ ρ H w.heap vx x)(hy:Rep φ ρ H w.heap vy y)
  (h:y2l E op c x y=some d) :
  ∃ v,(do jM op t ox oy vx vy;cz op t vx vy:fp Value).run P w=.ok v w/\Rep φ ρ H w.heap v d:=by
 unfold y2l at h
 split at h
 ·rename_i k a k' b
  obtain rfl:=hx.intv
  obtain rfl:=hy.intv
  have hg:=z1y (P:=P) (w:=w) op t ox oy (.int k a) (.int k' b) ⟨fun _=>by simp,by simp⟩
  split at h
  ·split at h
   ·rename_i hb
    simp at h;subst h
    refine⟨.int k _,?_,.int _ _⟩
    simp[hg,cz,nK,rk.2 hb]
   ·simp at h
  ·split at h
   ·rename_i hb
    simp at h;subst h
    refine⟨.int k _,?_,.int _ _⟩
    simp[hg,cz,nK,rk.2 hb]
   ·simp at h
  ·split at h
   ·rename_i hk
    subst hk
    obtain⟨v,h1,h2⟩:=zm0 (P:=P) (w:=w) (t:=t) (φ:=φ) (ρ:=ρ) (H:=H) h
    exact⟨v,by simp[hg,h1],h2⟩
   ·simp at h
 ·rename_i a b
  obtain rfl:=hx.boolv
  obtain rfl:=hy.boolv
  have hg:=z1y (P:=P) (w:=w) op t ox oy (.bool a) (.bool b) ⟨fun _=>by simp,by simp⟩
  split at h
  ·rename_i hk
   have hu:=T.und;rw[hk] at hu
   simp at h;subst h
   refine⟨.bool (a == b),?_,.bool _⟩
   simp[hg,cz,jk,ju,gZ w 9999 t a b hu]
  ·rename_i hk
   have hu:=T.und;rw[hk] at hu
   simp at h;subst h
   refine⟨.bool (!(a == b)),?_,.bool _⟩
   simp[hg,cz,jk,ju,gZ w 9999 t a b hu]
  ·simp at h
 ·rename_i xs ys
  split at h
  ·rename_i he
   obtain⟨vs,rfl,hr⟩:=hx.aggL
   obtain⟨us,rfl,hs⟩:=hy.aggL
   have Q:=T.eq he.1
   have hg:(jM op t ox oy (.agg vs.toArray) (.agg us.toArray)).run P w=.ok () w:=Go.run_eqGuard_agg w op t ox oy _ _ Q.guard
   have hlen:=zlo hr he.2
   split at h
   ·rename_i r hr'
    simp at h;subst h
    have:=Q.eq w 9984 vs us r hlen (zd5 hr hs hr')
    refine⟨.bool r,?_,.bool _⟩
    simp only[ax,hg,al]
    rw[Go.run_eql_struct,this];rfl
   ·rename_i r hr'
    simp at h;subst h
    have:=Q.eq w 9984 vs us r hlen (zd5 hr hs hr')
    refine⟨.bool (!r),?_,.bool _⟩
    simp only[ax,hg,al]
    rw[Go.run_neq_struct,this];rfl
   ·simp at h
  ·simp at h
 ·rename_i a b
  cases hx with
  |str a=>
  cases hy with
  |str b=>
  have hg:=z1y (P:=P) (w:=w) op t ox oy (.string a) (.string b) ⟨fun _=>by simp,by simp⟩
  split at h
  ·simp only[aa] at h;subst h
   refine⟨.bool (a.toList == b.toList),?_,by rw[z64,z64];exact .bool _⟩
   simp[hg,cz,lp]
  ·simp only[aa] at h;subst h
   refine⟨.bool (!(a.toList == b.toList)),?_,by rw[z64,z64];exact .bool _⟩
   simp[hg,cz,lp]
  ·simp at h
 ·simp at h

theorem zyq{op:Go.UnOp}{vx:Value}{x d:D}(hx:Rep φ ρ H w.heap vx x)(h:unD op x=some d) :
  ∃ v,(jl op vx).run P w=.ok v w/\Rep φ ρ H w.heap v d:=by
 unfold unD at h
 split at h
 ·rename_i b
  obtain rfl:=hx.boolv
  simp at h;subst h
  exact⟨.bool (!b),by simp[jl],.bool _⟩
 ·rename_i k n
  obtain rfl:=hx.intv
  simp at h;subst h
  exact⟨.int k _,by simp[jl,iI,y8d],.int _ _⟩
 ·rename_i k n
  obtain rfl:=hx.intv
  simp at h;subst h
  exact⟨.int k _,by simp[jl,il],.int _ _⟩
 ·simp at h

theorem zts(_TA:y3d P E τ){s cs dd cd:Nat}{vx:Value}{x d:D}(Ts:TOk P E τ s cs)(Td:TOk P E τ dd cd)(hx:Rep φ ρ H w.heap vx x)(h:y2v E cs cd x=some d) :
  ∃ v,(jN s dd vx).run P w=.ok v w/\Rep φ ρ H w.heap v d:=by
 unfold y2v at h
 split at h
 ·rename_i k1 k k' n hk1 hk
  have h1:=Ts.und;rw[hk1] at h1
  have h2:=Td.und;rw[hk] at h2
  obtain rfl:=hx.intv
  simp at h;subst h
  exact⟨.int k _,by simp[jN,run_underlying h1,run_underlying h2,Go.Conv.intToInt],.int _ _⟩
 ·simp at h

theorem zb4{f:Int->Int->Int}{g:Value->Value->fp Value}(hg:∀ k a b,(g (.int k a) (.int k b)).run P w=.ok (.int k (f a b)) w) :
  ∀{l:List D} {vs:List Value} {k:aZ} {a:Int} {d:D},yt φ ρ H w.heap vs l->y86 f k a l=some d->∃ v,(vs.foldlM g (.int k a)).run P w=.ok v w/\Rep φ ρ H w.heap v d
 |[],[],k,a,d,_,h=>by simp[y86] at h;subst h;exact⟨.int k a,by simp[nL],.int _ _⟩
 |[],_::_,_,_,_,hr,_=>by have:=hr.1;simp at this
 |_::_,[],_,_,_,hr,_=>by have:=hr.1;simp at this
 |x::l,v::vs,k,a,d,hr,h=>by
  cases x <;> simp only[y86] at h <;> try (simp at h;done)
  rename_i k' b
  split at h
  ·rename_i hk
   subst hk
   obtain⟨hv,hr'⟩:=hr.of_cons
   obtain rfl:=hv.intv
   obtain⟨v,h1,h2⟩:=zb4 hg hr' h
   exact⟨v,by simp[nL,hg,h1],h2⟩
  ·simp at h

theorem zsi{t1 t2}{vs:List Value}{l:List D}{d:D}(hr:yt φ ρ H w.heap vs l)(h:y7i l=some d) :
  ∃ v,(kX t1 t2 vs.toArray).run P w=.ok v w/\Rep φ ρ H w.heap v d:=by
 unfold y7i at h
 split at h
 ·rename_i k a r
  match vs,hr with
  |[],hr=>have:=hr.1;simp at this
  |v::vs,hr=>
   obtain⟨hv,hr'⟩:=hr.of_cons
   obtain rfl:=hv.intv
   obtain⟨v,h1,h2⟩:=zb4 (P:=P) (g:=kY) (fun k a b=>by simp[kY]) hr' h
   exact⟨v,by simp[kX,h1],h2⟩
 ·simp at h

theorem zsh{t1 t2}{vs:List Value}{l:List D}{d:D}(hr:yt φ ρ H w.heap vs l)(h:y8u l=some d) :
  ∃ v,(kZ t1 t2 vs.toArray).run P w=.ok v w/\Rep φ ρ H w.heap v d:=by
 unfold y8u at h
 split at h
 ·rename_i k a r
  match vs,hr with
  |[],hr=>have:=hr.1;simp at this
  |v::vs,hr=>
   obtain⟨hv,hr'⟩:=hr.of_cons
   obtain rfl:=hv.intv
   obtain⟨v,h1,h2⟩:=zb4 (P:=P) (g:=k5) (fun k a b=>by simp[k5]) hr' h
   exact⟨v,by simp[kZ,h1],h2⟩
 ·simp at h

end
end Dv

namespace Dv
open Go (Value Program World Act Oper Operand Code)

section
variable{P:Program}{E:Env}{φ : Phi}{τ : Phi}{ρ : Rho}{H:HS}{w:World}

theorem z3k{cs:List D}:∀{off:Nat} {vs:List D},(setCells cs off vs).length=cs.length
 |off,[]=>rfl
 |off,v::vs=>by simp only[setCells];rw[z3k];simp

def y6q(cs:List Value)(off:Nat):List Value->List Value
 |[]=>cs
 |v::vs=>y6q (cs.set off v) (off+1) vs

theorem yt.setCells{hp:y1q}:∀{vs':List Value} {ds':List D} {vs:List Value} {ds:List D} (off:Nat),yt φ ρ H hp vs ds->yt φ ρ H hp vs' ds'->yt φ ρ H hp (y6q vs off vs') (Dv.setCells ds off ds')
 |[],[],vs,ds,off,h,_=>h
 |[],_::_,_,_,_,_,h=>by have:=h.1;simp at this
 |_::_,[],_,_,_,_,h=>by have:=h.1;simp at this
 |v::vs',d::ds',vs,ds,off,h,h'=>by
  simp only[y6q,Dv.setCells]
  exact yt.setCells (off+1) (h.set off h'.of_cons.1) h'.of_cons.2

theorem zfy:∀(l:List Value) (k off:Nat) (arr:Array Value),((l.zipIdx k).foldl (fun cs (p:Value × Nat)=>cs.setIfInBounds (off+p.2) p.1) arr).toList=y6q arr.toList (off+k) l
 |[],k,off,arr=>rfl
 |v::l,k,off,arr=>by
  simp only[List.zipIdx_cons,du,y6q]
  rw[zfy l (k+1) off]
  simp[d8]

def ybh(φ : Phi)(ρ : Rho)(H:HS)(hp:y1q)(vs:List (Nat × Value))(ds:List (Nat × D)):Prop:=
 vs.map (·.1)=ds.map (·.1)/\yt φ ρ H hp (vs.map (·.2)) (ds.map (·.2))

theorem ybh.cons_inv{hp:y1q}{v:Nat × Value}{d:Nat × D}{vs:List (Nat × Value)}{ds:List (Nat × D)}(h:ybh φ ρ H hp (v::vs) (d::ds)):v.1=d.1/\Rep φ ρ H hp v.2 d.2/\ybh φ ρ H hp vs ds:=by
 obtain⟨h1,h2⟩:=h
 simp only[av,bF] at h1 h2
 exact⟨h1.1,h2.of_cons.1,h1.2,h2.of_cons.2⟩

theorem z99{hp:y1q}{place:Nat->Option (Nat × Nat)}:∀{ps:List (Nat × Value)} {ds:List (Nat × D)} {arr:Array Value} {cs r:List D},yt φ ρ H hp arr.toList cs->ybh φ ρ H hp ps ds->y5z place cs ds=some r ->
  ∃ arr',mf place arr ps=some arr'/\yt φ ρ H hp arr'.toList r
 |[],[],arr,cs,r,h,_,hf=>by simp[y5z] at hf;subst hf;exact⟨arr,rfl,h⟩
 |[],_::_,_,_,_,_,h,_=>by have:=h.1;simp at this
 |_::_,[],_,_,_,_,h,_=>by have:=h.1;simp at this
 |p::ps,d::ds,arr,cs,r,h,hp',hf=>by
  obtain⟨e1,e2,e3⟩:=hp'.cons_inv
  obtain⟨pi,pv⟩:=p
  obtain⟨di,dd⟩:=d
  simp only at e1 e2
  subst e1
  simp only[y5z] at hf
  split at hf
  ·simp at hf
  ·rename_i off size hpl
   split at hf
   ·rename_i hc
    have hcl:=e2.cells hc.1
    have hsz:pv.cells.size=size:=by have:=hcl.1;simpa[hc.2.1] using this
    have hb : ¬ (pv.cells.size ≠ size\/off+pv.cells.size > arr.size):=by
     have h1:=h.1
     simp at h1
     have:=hc.2.2
     omega
    have hset:yt φ ρ H hp (pv.cells.zipIdx.foldl (fun cs (p:Value × Nat)=>cs.setIfInBounds (off+p.2) p.1) arr).toList (Dv.setCells cs off dd.cellsL):=by
     rw[<- Array.foldl_toList,Array.toList_zipIdx,zfy,cU]
     exact h.setCells off hcl
    obtain⟨arr',h1,h2⟩:=z99 hset e3 hf
    refine⟨arr',?_,h2⟩
    have hb1 : ¬ pv.cells.size ≠ size:=fun hh=>hb (.inl hh)
    have hb2 : ¬ off+pv.cells.size > arr.size:=fun hh=>hb (.inr hh)
    simp only[mf,hpl]
    rw[if_neg (by simp;exact⟨by simpa using hb1,by omega⟩)]
    exact h1
   ·simp at hf

theorem TOk.zeroV{t c:Nat}(T:TOk P E τ t c)(h1:(E.ty c).zero.length=(E.ty c).size)(h2:(E.ty c).size ≠ 0):∃ z,(cV t).run P w=.ok z w/\yt φ ρ H w.heap z.cells.toList (E.ty c).zero /\
  ∀ d,yk (E.ty c).ag (E.ty c).zero=some d->Rep φ ρ H w.heap z d:=by
 obtain⟨i,hi,_,_,hz⟩:=T.info
 obtain⟨z,hz1,hz2,hz3⟩:=hz h1 h2
 have hr:yt φ ρ H w.heap z.cells.toList (E.ty c).zero:=z4s hz2
 refine⟨z,by simp[cV,z1g hi,hz1],hr,fun d hd=>?_⟩
 rw[<- hz3] at hd
 cases z with
 |agg vs=>simp[y8h,yk] at hd;subst hd;simpa[Value.cells] using hr.agg
 |_=>
  simp only[y8h] at hd
  generalize (E.ty c).zero=zs at hd hr
  match zs,hd with
  |[c0],hd=>simp[yk] at hd;subst hd;exact hr.of_cons.1
  |[],hd=>simp[yk] at hd
  |_::_::_,hd=>simp[yk] at hd

theorem z2x{t c:Nat}{z:D}(T:TOk P E τ t c)(h:y22 E c=some z):∃ zv,(cV t).run P w=.ok zv w/\yt φ ρ H w.heap zv.cells.toList z.cellsL/\Rep φ ρ H w.heap zv z /\
  z.cellsL.length=(E.ty c).size/\z.storable=true/\(E.ty c).size ≠ 0:=by
 unfold y22 at h
 split at h
 ·rename_i h1
  split at h
  ·rename_i z' hz
   split at h
   ·rename_i h2
    simp at h;subst h
    obtain⟨zv,e1,_,e3⟩:=T.zeroV (w:=w) (φ:=φ) (ρ:=ρ) (H:=H) h1.1 h1.2
    exact⟨zv,e1,(e3 _ hz).cells h2.2,e3 _ hz,h2.1,h2.2,h1.2⟩
   ·simp at h
  ·simp at h
 ·simp at h

theorem zca(TA:y3d P E τ):∀(fs':List eK) (fs:List (Nat × Nat)),fs'.length=fs.length->(∀(i:Nat) (f:eK) (p:Nat × Nat),fs'[i]? = some f->fs[i]? = some p->f.offset=p.1 /\ τ f.type=some p.2) ->
  (fs'.mapM fun(f:eK)=>(do pure (f.offset,<- f7 f.type):fp (Nat × Nat))).run P w=.ok (fs.map fun p=>(p.1,(E.ty p.2).size)) w
 |[],[],_,_=>by simp
 |[],_::_,h,_=>by simp at h
 |_::_,[],h,_=>by simp at h
 |f::fs',p::fs,hl,h=>by
  obtain⟨h1,h2⟩:=h 0 f p rfl rfl
  have ih:=zca TA fs' fs (by simpa using hl) (fun i f' p' hf hp=>h (i+1) f' p' (by simpa using hf) (by simpa using hp))
  rw[List.mapM_cons]
  simp only[ax,(TA _ _ h2).size,al,aK,ih,h1,av]

theorem zqp(TA:y3d P E τ){t c:Nat}{ps:List (Nat × Value)}{ds:List (Nat × D)}{d:D}(T:TOk P E τ t c)(hp:ybh φ ρ H w.heap ps ds)(hz:(E.ty c).zero.length=(E.ty c).size/\(E.ty c).size ≠ 0)(h:y6u E c ds=some d) :
  ∃ v,(jv t ps.toArray).run P w=.ok v w/\Rep φ ρ H w.heap v d:=by
 obtain⟨z,hz1,hz2,_⟩:=T.zeroV (w:=w) (φ:=φ) (ρ:=ρ) (H:=H) hz.1 hz.2
 unfold y6u at h
 split at h
 ·rename_i fs hk
  obtain⟨fs',hu,hs,hf⟩:=T.struct hk
  cases e:y5z (fun i=>(fs[i]?).map fun f=>(f.1,(E.ty f.2).size)) (E.ty c).zero ds with
  |none=>simp[e] at h
  |some r=>
   simp[e] at h;subst h
   obtain⟨arr',h1,h2⟩:=z99 hz2 hp e
   refine⟨.agg arr',?_,?_⟩
   ·have hm:=zca (P:=P) (w:=w) TA fs'.toList fs (by simpa using hs) (by simpa using hf)
    have hm':(fs'.mapM fun(f:eK)=>(do pure (f.offset,<- f7 f.type):fp (Nat × Nat))).run P w=.ok (fs.map fun p=>(p.1,(E.ty p.2).size)).toArray w:=by
     rw[Array.mapM_eq_mapM_toList]
     rw[io,hm];rfl
    unfold jv
    simp only[ax,hz1,al,run_underlying hu,hm']
    have hpl:(fun(i:Nat)=>(fs.map fun p=>(p.1,(E.ty p.2).size)).toArray[i]?)=fun(i:Nat)=>(fs[i]?).map fun(f:Nat × Nat)=>(f.1,(E.ty f.2).size):=by
     funext i;simp
    rw[hpl,h1]
    simp
   ·have:=h2.agg;simpa using this
 ·rename_i n e hk
  have hu:=T.und;rw[hk] at hu
  obtain⟨e',hu,he'⟩:=hu
  cases e1:y5z (fun i=>some (i*(E.ty e).size,(E.ty e).size)) (E.ty c).zero ds with
  |none=>simp[e1] at h
  |some r=>
   simp[e1] at h;subst h
   obtain⟨arr',h1,h2⟩:=z99 hz2 hp e1
   refine⟨.agg arr',?_,?_⟩
   ·unfold jv
    simp only[ax,hz1,al,run_underlying hu,(TA _ _ he').size]
    rw[h1];simp
   ·have:=h2.agg;simpa using this
 ·simp at h

end
end Dv

namespace Dv
open Go (Value Program World Act Oper Operand Code)

section
variable{P:Program}{E:Env}{φ : Phi}{τ : Phi}{ρ : Rho}{H:HS}{w:World}

def y6o(φ : Phi)(ρ : Rho)(H:HS)(hp:y1q)(me:List br)(es:List (D × D)):Prop:=
 me.length=es.length /\ ∀(j:Nat) (e:br) (p:D × D),me[j]? = some e->es[j]? = some p->Rep φ ρ H hp e.key p.1/\Rep φ ρ H hp e.val p.2

theorem y6o.cons_inv{hp:y1q}{e:br}{p:D × D}{me:List br}{es:List (D × D)}(h:y6o φ ρ H hp (e::me) (p::es)):(Rep φ ρ H hp e.key p.1/\Rep φ ρ H hp e.val p.2)/\y6o φ ρ H hp me es:=
 ⟨h.2 0 e p rfl rfl,by simpa using h.1,fun j e' p' h1 h2=>h.2 (j+1) e' p' (by simpa using h1) (by simpa using h2)⟩

theorem y78.list{hp:y1q}{b:Nat}{es:List (D × D)}(h:y78 φ ρ H hp b es):∃(me:Array br) (clock:Nat),hp[b]? = some (.map me clock)/\y6o φ ρ H hp me.toList es/\y3l me clock:=by
 obtain⟨me,clock,h1,h2,h3,h4⟩:=h
 exact⟨me,clock,h1,⟨by simpa using h2,fun j e p he hp=>h3 j e p (by simpa using he) hp⟩,h4⟩

def y1f(k:D):List (D × D)->Nat->Option Nat
 |[],_=>none
 |e::es,i=>match k.eqb e.1 with
  |some true=>some i
  |_=>y1f k es (i+1)

theorem z6q{kt ck:Nat}(T:TOk P E τ kt ck){vk:Value}{k:D}(hk:Rep φ ρ H w.heap vk k)(hok:y4d E ck k=true) :
  ∀{me:List br} {es:List (D × D)} {r:Option D},y6o φ ρ H w.heap me es->y18 k es=some r ->
   ∃ x:Option (Nat × Value),(e8 kt vk me).run P w=.ok x w/\x.map (·.1)=y1f k es 0 /\
    (match r,x with | none,none=>True | some d,some p=>Rep φ ρ H w.heap p.2 d | _,_=>False):=by
 -- the two ways of looking
 have plain:∀(u:nJ),P.underlying kt=some u ->
   (∀(v:Value) (d:D) (b:Bool),Rep φ ρ H w.heap v d->k.eqb d=some b->gM u vk v=some b) ->
   ∀{me:List br} {es:List (D × D)} {r:Option D},y6o φ ρ H w.heap me es->y18 k es=some r ->
   ∃ x:Option (Nat × Value),(e8 kt vk me).run P w=.ok x w/\x.map (·.1)=y1f k es 0 /\
    (match r,x with | none,none=>True | some d,some p=>Rep φ ρ H w.heap p.2 d | _,_=>False):=by
  intro u hu hs me es r hm hf
  have go:∀(me:List br) (es:List (D × D)) (r:Option D) (i:Nat),y6o φ ρ H w.heap me es->y18 k es=some r ->
    ∃ x:Option (Nat × Value),e9 u vk me i=some x/\x.map (·.1)=y1f k es i/\(match r,x with | none,none=>True | some d,some p=>Rep φ ρ H w.heap p.2 d | _,_=>False):=by
   intro me
   induction me with
   |nil=>
    intro es r i hm hf
    match es,hm with
    |[],_=>simp[y18] at hf;subst hf;exact⟨none,rfl,rfl,trivial⟩
    |_::_,hm=>have:=hm.1;simp at this
   |cons e me ih=>
    intro es r i hm hf
    match es,hm with
    |[],hm=>have:=hm.1;simp at this
    |p::es,hm=>
     obtain⟨⟨h1,h2⟩,h3⟩:=hm.cons_inv
     simp only[y18] at hf
     cases hb:k.eqb p.1 with
     |none=>simp[hb] at hf
     |some b=>
      have:=hs _ _ _ h1 hb
      cases b with
      |true=>
       simp[hb] at hf;subst hf
       exact⟨some (i,e.val),by simp[e9,this],by simp[y1f,hb],h2⟩
      |false=>
       simp[hb] at hf
       obtain⟨x,e1,e2,e3⟩:=ih es r (i+1) h3 hf
       exact⟨x,by simp[e9,this,e1],by simp[y1f,hb,e2],e3⟩
  obtain⟨x,e1,e2,e3⟩:=go me es r 0 hm hf
  exact⟨x,by simp[e8,run_underlying hu,e1],e2,e3⟩
 unfold y4d at hok
 intro me es r hm hf
 split at hok
 ·-- a struct
  rename_i xs
  simp only[ar,beq_iff_eq] at hok
  have Q:=T.eq hok.1
  obtain⟨vs,rfl,hr⟩:=hk.aggL
  obtain⟨u,hu,hnot⟩:=Q.kind
  have hlen:=zlo hr hok.2
  have go:∀(me:List br) (es:List (D × D)) (r:Option D) (i:Nat),y6o φ ρ H w.heap me es->y18 (.agg xs) es=some r ->
    ∃ x:Option (Nat × Value),(fi kt (.agg vs.toArray) me i).run P w=.ok x w/\x.map (·.1)=y1f (.agg xs) es i/\(match r,x with | none,none=>True | some d,some p=>Rep φ ρ H w.heap p.2 d | _,_=>False):=by
   intro me
   induction me with
   |nil=>
    intro es r i hm hf
    match es,hm with
    |[],_=>simp[y18] at hf;subst hf;exact⟨none,by simp[fi],rfl,trivial⟩
    |_::_,hm=>have:=hm.1;simp at this
   |cons e me ih=>
    intro es r i hm hf
    match es,hm with
    |[],hm=>have:=hm.1;simp at this
    |p::es,hm=>
     obtain⟨⟨h1,h2⟩,h3⟩:=hm.cons_inv
     simp only[y18] at hf
     cases hb:D.eqb (.agg xs) p.1 with
     |none=>simp[hb] at hf
     |some b=>
      have key:(jk kt (.agg vs.toArray) e.key).run P w=.ok b w:=by
       cases hp1:p.1 <;> rw[hp1] at hb <;> simp[D.eqb,y20] at hb
       rename_i ys
       rw[hp1] at h1
       obtain⟨us,hus,hr2⟩:=h1.aggL
       rw[hus]
       exact Q.eq w 9984 vs us b hlen (zd5 hr hr2 hb)
      cases b with
      |true=>
       simp[hb] at hf;subst hf
       exact⟨some (i,e.val),by simp[fi,key],by simp[y1f,hb],h2⟩
      |false=>
       simp[hb] at hf
       obtain⟨x,e1,e2,e3⟩:=ih es r (i+1) h3 hf
       exact⟨x,by simp[fi,key,e1],by simp[y1f,hb,e2],e3⟩
  have hnow:e9 u (.agg vs.toArray) me 0=none\/me=[]:=by
   cases me with
   |nil=>exact .inr rfl
   |cons e me=>exact .inl (by simp[e9,gM])
  rcases hnow with hnow | rfl
  ·obtain⟨x,e1,e2,e3⟩:=go me es r 0 hm hf
   exact⟨x,by simp[e8,run_underlying hu,hnow,e1],e2,e3⟩
  ·obtain⟨x,e1,e2,e3⟩:=go [] es r 0 hm hf
   simp[fi] at e1
   subst e1
   exact⟨none,by simp[e8,run_underlying hu,e9],e2,e3⟩
 ·rename_i b hkk
  have hu:=T.und;rw[hkk] at hu
  obtain rfl:=hk.boolv
  refine plain _ hu (fun v d b' hv he=>?_) hm hf
  cases d <;> simp[D.eqb,y20] at he
  subst he
  obtain rfl:=hv.boolv
  rfl
 ·rename_i q n q' hkk
  have hu:=T.und;rw[hkk] at hu
  obtain rfl:=hk.intv
  refine plain _ hu (fun v d b' hv he=>?_) hm hf
  cases d <;> simp[D.eqb,y20] at he
  obtain⟨e1,e2⟩:=he
  subst e1;subst e2
  obtain rfl:=hv.intv
  simp[gM]
 ·rename_i s hkk
  have hu:=T.und;rw[hkk] at hu
  cases hk with
  |str bs=>
   refine plain _ hu (fun v d b' hv he=>?_) hm hf
   cases d <;> simp[D.eqb,y20] at he
   subst he
   cases hv with
   |str bs'=>
    simp only[gM,aa]
    obtain⟨⟨x⟩⟩:=bs
    obtain⟨⟨y⟩⟩:=bs'
    show((⟨x⟩:Array UInt8) == ⟨y⟩)=(x == y)
    simp
 ·simp at hok

theorem z5p{kt ck:Nat}(T:TOk P E τ kt ck){vk:Value}{k:D}(hk:Rep φ ρ H w.heap vk k)(hok:y4d E ck k=true)(em:Bool):(cG em 10000 kt vk).run P w=.ok () w:=by
 unfold y4d at hok
 split at hok
 ·rename_i xs
  simp only[ar,beq_iff_eq] at hok
  have Q:=T.eq hok.1
  obtain⟨vs,rfl,hr⟩:=hk.aggL
  have hlen:=zlo hr hok.2
  exact Q.key w em 9984 vs hlen
 ·rename_i b hkk
  have hu:=T.und;rw[hkk] at hu
  rw[show(10000:Nat)=9999+1 from rfl,cG]
  simp[run_underlying hu]
 ·rename_i q n q' hkk
  have hu:=T.und;rw[hkk] at hu
  rw[show(10000:Nat)=9999+1 from rfl,cG]
  simp[run_underlying hu]
 ·rename_i s hkk
  have hu:=T.und;rw[hkk] at hu
  rw[show(10000:Nat)=9999+1 from rfl,cG]
  simp[run_underlying hu]
 ·simp at hok

theorem zkx{t k' e':Nat}{vm vk:Value}{ok:Bool}{me:Array br}{x:Option (Nat × Value)}(hu:P.underlying t=some (.map k' e'))
  (hvm:(vm=.map none/\me = #[]) \/ ∃ b clock,vm=.map (some b)/\w.heap[b]? = some (.map me clock)) (hck:(cG me.isEmpty 10000 k' vk).run P w=.ok () w)
  (hf:(e8 k' vk me.toList).run P w=.ok x w) :
  (g7 t vm vk ok).run P w=(match x with
   |some p=>.ok (if ok then .tuple #[p.2,.bool true] else p.2) w
   |none=>((cV e').run P w).andThen fun z w'=>.ok (if ok then .tuple #[z,.bool false] else z) w'):=by
 rcases hvm with⟨rfl,rfl⟩ | ⟨b,clock,rfl,hb⟩
 ·unfold g7
  simp only[ax,run_underlying hu,al,aK,hck,hf]
  cases x with
  |some p=>cases ok <;> simp
  |none=>cases h:(cV e').run P w <;> cases ok <;> simp[h]
 ·unfold g7
  have hg:(ew b).run P w=.ok (.map me clock) w:=by simp[ew,er,hb]
  simp only[ax,run_underlying hu,al,hg,aK,hck,hf]
  cases x with
  |some p=>cases ok <;> simp
  |none=>cases h:(cV e').run P w <;> cases ok <;> simp[h]

theorem zci(TA:y3d P E τ){os:List Obj}(R:RR φ ρ H w.heap os){t c:Nat}{vm vk:Value}{m k d:D}{ok:Bool}(T:TOk P E τ t c)(hm:Rep φ ρ H w.heap vm m)(hk:Rep φ ρ H w.heap vk k)(h:y23 E os c m k ok=some d) :
  ∃ v,(g7 t vm vk ok).run P w=.ok v w/\Rep φ ρ H w.heap v d:=by
 unfold y23 at h
 split at h
 ·rename_i kt e mid hkk
  have hu:=T.und;rw[hkk] at hu
  obtain⟨k',e',hu,hk',he'⟩:=hu
  split at h
  ·rename_i hok
   split at h
   ·rename_i es hes
    obtain⟨me,hme,hrm⟩:∃ me:Array br,((vm=.map none/\me = #[]) \/ ∃ b clock,vm=.map (some b)/\w.heap[b]? = some (.map me clock))/\y6o φ ρ H w.heap me.toList es:=by
     cases mid with
     |none=>
      cases hm
      simp at hes;subst hes
      exact⟨#[],.inl ⟨rfl,rfl⟩,rfl,fun j e p he=>by simp at he⟩
     |some id=>
      cases hm with
      |map b cc _ hid=>
       simp only at hes
       split at hes
       ·rename_i es' hos
        simp at hes;subst hes
        obtain⟨me,clock,h1,h2,_⟩:=(R.map _ _ _ _ hid hos).list
        exact⟨me,.inr ⟨b,clock,rfl,h1⟩,h2⟩
       ·simp at hes
    have hck:=z5p (w:=w) (TA _ _ hk') hk hok me.isEmpty
    cases hf:y18 k es with
    |none=>simp[hf] at h
    |some r=>
     obtain⟨x,h1,_,h3⟩:=z6q (TA _ _ hk') hk hok hrm hf
     have hrun:=zkx (ok:=ok) hu hme hck h1
     cases r with
     |some dv=>
      match x,h3 with
      |some p,h3=>
       simp[hf] at h
       obtain⟨pi,pv⟩:=p
       refine⟨if ok then .tuple #[pv,.bool true] else pv,by rw[hrun],?_⟩
       cases ok
       ·simp at h;subst h;exact h3
       ·simp at h;subst h
        exact .tup _ _ rfl (fun j v d hv hd=>(yt.cons h3 (yt.cons (.bool true) yt.nil)).2 j v d (by simpa using hv) hd)
     |none=>
      match x,h3 with
      |none,_=>
       simp[hf] at h
       cases hoc:y22 E e with
       |none=>simp[hoc] at h
       |some zd=>
        simp[hoc] at h
        obtain⟨z,e1,_,hzr,_⟩:=z2x (w:=w) (φ:=φ) (ρ:=ρ) (H:=H) (TA _ _ he') hoc
        refine⟨if ok then .tuple #[z,.bool false] else z,by rw[hrun];simp[e1],?_⟩
        cases ok
        ·simp at h;subst h;exact hzr
        ·simp at h;subst h
         exact .tup _ _ rfl (fun j v d hv hd=>(yt.cons hzr (yt.cons (.bool false) yt.nil)).2 j v d (by simpa using hv) hd)
   ·simp at h
  ·simp at h
 ·simp at h

end
end Dv

namespace Dv
open Go (Value Program World Act Oper Operand Code)

def y61:Ex->Code
 |.normal=>.skip
 |.exit id=>.exit id
 |.ret=>.ret

def Obj.live:Obj->Bool
 |.dead=>false
 |_=>true

abbrev y1t:=Code->DC->Prop

def ygc(H:HS)(hp:y1q)(b cap used sz:Nat):Prop:=
 ∃(arr:Array Value) (el:Nat),hp[b]? = some (.cells arr el (0,0))/\arr.size=cap*sz/\used<=arr.size /\ ∀ o,used<=o -> ¬ H b o

def y7r(CL:y1t)(φ : Phi)(ρ : Rho)(H:HS)(hp:y1q)(b:Nat)(busy:Bool)(y1u:List D)(ps:List Nat)(asg body:DC)(pend:Option Ex):Prop:=
 ∃ L:Go.Loop,hp[b]? = some (.loop L)/\yt φ ρ H hp L.tmps.toList y1u/\L.params.toList=ps/\CL L.assign asg/\CL L.body body /\
  L.state=(if pend.isSome then .done else if busy then .busy else .ready)/\L.pending=pend.map y61

def y69(CL:y1t)(φ : Phi)(ρ : Rho)(H:HS)(hp:y1q)(bk:Bk):Obj->Prop
 |.dead=>True
 |.cells cs=>∃ b c,bk=.blk b c/\y55 φ ρ H hp b c cs
 |.frozen cs=>∃ b c,bk=.blk b c/\y55 φ ρ H hp b c cs /\ ∀ j,j<cs.length->H b j
 |.tok used sz=>bk=.virt \/ ∃ b cap,bk=.blk b cap/\ygc H hp b cap used sz
 |.map es=>∃ b c,bk=.blk b c/\y78 φ ρ H hp b es
 |.loop busy y1u ps asg body pend=>∃ b c,bk=.blk b c/\y7r CL φ ρ H hp b busy y1u ps asg body pend

structure HB(H:HS)(hp:y1q):Prop where
 lt:∀ b o,H b o->b<hp.size
 gl:∀ g cs,glTab.lookup g=some cs->∀(j:Nat) k n,cs[j]? = some (k,n)->H g j/\cellOf hp g j=some (.int k n)
instance{H:HS}{hp:y1q}:CoeFun (HB H hp) (fun _=>∀ b o,H b o->b<hp.size):=⟨fun h=>h.lt⟩

theorem HB.ext{ρ ρ':Rho}{H H':HS}{hp hp':y1q}(h:HB H hp)(x:Ext ρ ρ' H H' hp hp')(hl:∀ b o,H' b o->b<hp'.size):HB H' hp':=
 ⟨hl,fun g cs hg j k n hj=>⟨x.hs _ _ (h.gl g cs hg j k n hj).1,(x.keep _ _ (h.gl g cs hg j k n hj).1).trans (h.gl g cs hg j k n hj).2⟩⟩

structure SR(CL:y1t)(φ : Phi)(B:Nat)(ρ : Rho)(H:HS)(hp:y1q)(os:List Obj):Prop where
 dom:∀(id:Nat) o,os[id]? = some o->o.live=true->∃ bk,ρ id=some bk/\y69 CL φ ρ H hp bk o
 lt:∀(id:Nat) bk,ρ id=some bk->id<os.length
 inj:∀(id id':Nat) o o' b c c',os[id]? = some o->o.live=true->os[id']? = some o'->o'.live=true -> ρ id=some (.blk b c) -> ρ id'=some (.blk b c')->id=id'
 own:∀(id:Nat) o b c,os[id]? = some o->o.live=true -> ρ id=some (.blk b c)->B<=b/\b<hp.size
 mutH:∀(id:Nat) cs b c o,os[id]? = some (.cells cs) -> ρ id=some (.blk b c) -> ¬ H b o
 hb:HB H hp
 hB:B<=hp.size

section
variable{CL:y1t}{φ : Phi}{B:Nat}{ρ ρ':Rho}{H H':HS}{hp hp':y1q}{os:List Obj}

theorem y55.mono(x:Ext ρ ρ' H H' hp hp'){b c:Nat}{cs:List D}(hb:hp'[b]? = hp[b]?)(h:y55 φ ρ H hp b c cs):y55 φ ρ' H' hp' b c cs:=by
 obtain⟨arr,el,h1,h2,h3,h4,h5⟩:=h
 exact⟨arr,el,by rw[hb,h1],h2,h3,fun j v d hv hd=>(h4 j v d hv hd).mono x,h5⟩

theorem y78.mono(x:Ext ρ ρ' H H' hp hp'){b:Nat}{es:List (D × D)}(hb:hp'[b]? = hp[b]?)(h:y78 φ ρ H hp b es):y78 φ ρ' H' hp' b es:=by
 obtain⟨me,clock,h1,h2,h3,h4⟩:=h
 exact⟨me,clock,by rw[hb,h1],h2,fun j e p he hp'=>⟨(h3 j e p he hp').1.mono x,(h3 j e p he hp').2.mono x⟩,h4⟩

theorem y7r.mono(x:Ext ρ ρ' H H' hp hp'){b:Nat}{busy y1u ps asg body pend}(hb:hp'[b]? = hp[b]?)(h:y7r CL φ ρ H hp b busy y1u ps asg body pend):y7r CL φ ρ' H' hp' b busy y1u ps asg body pend:=by
 obtain⟨L,h1,h2,h3⟩:=h
 exact⟨L,by rw[hb,h1],h2.mono x,h3⟩

theorem y69.mono(x:Ext ρ ρ' H H' hp hp'){bk:Bk}{o:Obj}(hb:∀ b c,bk=.blk b c->hp'[b]? = hp[b]?)(hH:∀ b c u s,bk=.blk b c->o=.tok u s->∀ j,u<=j->H' b j->H b j)
  (h:y69 CL φ ρ H hp bk o):y69 CL φ ρ' H' hp' bk o:=by
 cases o with
 |dead=>trivial
 |cells cs=>obtain⟨b,c,rfl,h⟩:=h;exact⟨b,c,rfl,h.mono x (hb b c rfl)⟩
 |frozen cs=>obtain⟨b,c,rfl,h,h'⟩:=h;exact⟨b,c,rfl,h.mono x (hb b c rfl),fun j hj=>x.hs _ _ (h' j hj)⟩
 |tok u s=>
  rcases h with rfl | ⟨b,cap,rfl,arr,el,h1,h2,h3,h4⟩
  ·exact .inl rfl
  ·exact .inr ⟨b,cap,rfl,arr,el,by rw[hb b cap rfl,h1],h2,h3,fun o ho hh=>h4 o ho (hH b cap u s rfl rfl o ho hh)⟩
 |map es=>obtain⟨b,c,rfl,h⟩:=h;exact⟨b,c,rfl,h.mono x (hb b c rfl)⟩
 |loop busy y1u ps asg body pend=>obtain⟨b,c,rfl,h⟩:=h;exact⟨b,c,rfl,h.mono x (hb b c rfl)⟩

theorem SR.row{id b c:Nat}{cs:List D}(S:SR CL φ B ρ H hp os)(hid : ρ id=some (.blk b c))(hr:yz os id=some cs):y55 φ ρ H hp b c cs:=by
 unfold yz at hr
 split at hr
 ·rename_i cs' ho
  simp at hr;subst hr
  obtain⟨bk,h1,h2⟩:=S.dom _ _ ho rfl
  rw[hid] at h1;simp at h1;subst h1
  obtain⟨b',c',e,h⟩:=h2;simp at e;obtain⟨rfl,rfl⟩:=e;exact h
 ·rename_i cs' ho
  simp at hr;subst hr
  obtain⟨bk,h1,h2⟩:=S.dom _ _ ho rfl
  rw[hid] at h1;simp at h1;subst h1
  obtain⟨b',c',e,h,_⟩:=h2;simp at e;obtain⟨rfl,rfl⟩:=e;exact h
 ·simp at hr

theorem SR.mapAt{id b c:Nat}{es:List (D × D)}(S:SR CL φ B ρ H hp os)(hid : ρ id=some (.blk b c))(ho:os[id]? = some (.map es)):y78 φ ρ H hp b es:=by
 obtain⟨bk,h1,h2⟩:=S.dom _ _ ho rfl
 rw[hid] at h1;simp at h1;subst h1
 obtain⟨b',c',e,h⟩:=h2;simp at e;obtain⟨rfl,rfl⟩:=e;exact h

theorem SR.rr(S:SR CL φ B ρ H hp os):RR φ ρ H hp os:=
 ⟨fun _ _ _ _ h1 h2=>S.row h1 h2,fun _ _ _ _ h1 h2=>S.mapAt h1 h2⟩

structure y7s(H H':HS)(hp hp':y1q):Prop where
 size:hp.size<=hp'.size
 old:∀ b,b<hp.size->hp'[b]? = hp[b]?
 hs:∀ b o,H b o->H' b o
 new:∀ b o,H' b o->H b o\/(hp.size<=b/\b<hp'.size)

theorem z23{hp:y1q}{b:Nat}{o:dR}(h:hp[b]? = some o):b<hp.size:=(aG.1 h).1

theorem z3w{hp:y1q}{b o:Nat}{v:Value}(h:cellOf hp b o=some v):b<hp.size:=by
 unfold cellOf at h
 split at h
 ·rename_i hh;exact z23 hh
 ·simp at h

theorem y7s.ext(g:y7s H H' hp hp')(ρ : Rho)(hb:HB H hp):Ext ρ ρ H H' hp hp':=
 ⟨fun _ _ h=>h,g.hs,fun b o h=>by unfold cellOf;rw[g.old b (hb b o h)]⟩

theorem SR.grew(S:SR CL φ B ρ H hp os)(g:y7s H H' hp hp'):SR CL φ B ρ H' hp' os where
 dom:=fun id o ho hl=>by
  obtain⟨bk,h1,h2⟩:=S.dom id o ho hl
  refine⟨bk,h1,h2.mono (g.ext ρ S.hb) (fun b c e=>g.old b (S.own id o b c ho hl (e ▸ h1)).2) (fun b c u s e _ j _ hh=>?_)⟩
  rcases g.new b j hh with hh | ⟨hh,_⟩
  ·exact hh
  ·have:=(S.own id o b c ho hl (e ▸ h1)).2;omega
 lt:=S.lt
 inj:=S.inj
 own:=fun id o b c ho hl hr=>⟨(S.own id o b c ho hl hr).1,aR (S.own id o b c ho hl hr).2 g.size⟩
 mutH:=fun id cs b c o ho hr hh=>by
  rcases g.new b o hh with hh | ⟨hh,_⟩
  ·exact S.mutH id cs b c o ho hr hh
  ·have:=(S.own id _ b c ho rfl hr).2;omega
 hb:=S.hb.ext (g.ext ρ S.hb) fun b o hh=>by
  rcases g.new b o hh with hh | ⟨_,hh⟩
  ·exact aR (S.hb b o hh) g.size
  ·exact hh
 hB:=aJ S.hB g.size

def upd(ρ : Rho)(id:Nat)(bk:Bk):Rho:=fun i=>if i=id then some bk else ρ i

structure y44(ρ : Rho)(os:List Obj)(id:Nat):Prop where
 rho : ρ id=none
 place:id=os.length\/os[id]? = some .dead

theorem y44.le{id:Nat}(f:y44 ρ os id):id<=os.length:=by
 rcases f.place with h | h
 ·omega
 ·exact Nat.le_of_lt (ac.1 h).1

theorem z68{id:Nat}{o:Obj}(f:y44 ρ os id)(i:Nat):(y1y os id o)[i]? = if i=id then some o else os[i]?:=by
 unfold y1y
 rcases f.place with h | h
 ·subst h
  rw[if_neg (dF _)]
  split
  ·rename_i h;subst h;simp
  ·rename_i h
   rcases bU i os.length with hi | hi
   ·rw[aB hi]
   ·rw[aF hi,be hi]
    have:i - os.length ≠ 0:=by omega
    cases hj:i - os.length with
    |zero=>omega
    |succ n=>simp
 ·have hlt:=(ac.1 h).1
  rw[if_pos hlt,bn]
  split
  ·rename_i e;subst e;simp[hlt]
  ·rename_i e;rw[if_neg (fun e'=>e e'.symm)]

theorem z9g{id:Nat}{o:Obj}(f:y44 ρ os id):id<(y1y os id o).length/\os.length<=(y1y os id o).length:=by
 have:=f.le
 unfold y1y
 split
 ·rename_i h;simp;exact h
 ·simp;omega

theorem y44.ext{id:Nat}(f:y44 ρ os id)(bk:Bk)(H:HS)(hp:y1q):Ext ρ (upd ρ id bk) H H hp hp:=
 ⟨fun i b h=>by unfold upd;split; (· rename_i e;subst e;rw[f.rho] at h;cases h);exact h,fun _ _ h=>h,fun _ _ _=>rfl⟩

theorem z8l{id:Nat}{o:Obj}{bk:Bk}(f:y44 ρ os id)(hl:o.live=true):∀(k:Nat) bk',upd ρ id bk k=some bk' -> ρ k=some bk' \/ ∃ o':Obj,(y1y os id o)[k]? = some o'/\o'.live=true:=by
 intro k bk' h
 unfold upd at h
 split at h
 ·rename_i e;subst e;exact .inr ⟨o,by rw[z68 f];simp,hl⟩
 ·exact .inl h

theorem SR.add(S:SR CL φ B ρ H hp os){id:Nat}(f:y44 ρ os id){o:Obj}{bk:Bk}(ho:y69 CL φ (upd ρ id bk) H hp bk o)
  (hown:∀ b c,bk=.blk b c->B<=b/\b<hp.size) (y1d:∀ b c,bk=.blk b c->∀ i o' c',os[i]? = some o'->o'.live=true -> ρ i ≠ some (.blk b c'))
  (hmut:∀ cs b c,o=.cells cs->bk=.blk b c->∀ j,¬ H b j):SR CL φ B (upd ρ id bk) H hp (y1y os id o) where
 dom:=fun i o' ho' hl=>by
  rw[z68 f] at ho'
  split at ho'
  ·rename_i e;simp at ho';subst ho';subst e;exact⟨bk,by simp[upd],ho⟩
  ·rename_i e
   obtain⟨bk',h1,h2⟩:=S.dom i o' ho' hl
   exact⟨bk',by simp[upd,e,h1],h2.mono (f.ext bk H hp) (fun _ _ _=>rfl) (fun _ _ _ _ _ _ _ _ hh=>hh)⟩
 lt:=fun i b h=>by
  unfold upd at h
  split at h
  ·rename_i e;rw[e];exact(z9g f).1
  ·exact aR (S.lt i b h) (z9g f).2
 inj:=fun i i' o1 o2 b c c' h1 l1 h2 l2 r1 r2=>by
  rw[z68 f] at h1 h2
  unfold upd at r1 r2
  by_cases e1:i=id <;> by_cases e2:i'=id
  ·rw[e1,e2]
  ·rw[if_pos e1] at r1;rw[if_neg e2] at r2 h2;simp at r1
   exact absurd r2 (y1d b c r1 i' o2 c' h2 l2)
  ·rw[if_pos e2] at r2;rw[if_neg e1] at r1 h1;simp at r2
   exact absurd r1 (y1d b c' r2 i o1 c h1 l1)
  ·rw[if_neg e1] at r1 h1;rw[if_neg e2] at r2 h2
   exact S.inj i i' o1 o2 b c c' h1 l1 h2 l2 r1 r2
 own:=fun i o' b c h1 l1 r1=>by
  rw[z68 f] at h1
  unfold upd at r1
  by_cases e1:i=id
  ·rw[if_pos e1] at r1;simp at r1;exact hown b c r1
  ·rw[if_neg e1] at r1 h1;exact S.own i o' b c h1 l1 r1
 mutH:=fun i cs b c j h1 r1=>by
  rw[z68 f] at h1
  unfold upd at r1
  by_cases e1:i=id
  ·rw[if_pos e1] at r1 h1;simp at r1 h1;exact hmut cs b c h1 r1 j
  ·rw[if_neg e1] at r1 h1;exact S.mutH i cs b c j h1 r1
 hb:=S.hb
 hB:=S.hB

theorem SR.kill(S:SR CL φ B ρ H hp os)(k:Nat):SR CL φ B ρ H hp (os.set k .dead):=by
 have get:∀(i:Nat) o,(os.set k .dead)[i]? = some o->o.live=true->os[i]? = some o:=by
  intro i o h hl
  rw[bn] at h
  split at h
  ·split at h
   ·simp at h;subst h;simp[Obj.live] at hl
   ·simp at h
  ·exact h
 exact {
  dom:=fun i o h hl=>S.dom i o (get i o h hl) hl
  lt:=fun i b h=>by simpa using S.lt i b h
  inj:=fun i i' o o' b c c' h l h' l' r r'=>S.inj i i' o o' b c c' (get i o h l) l (get i' o' h' l') l' r r'
  own:=fun i o b c h l r=>S.own i o b c (get i o h l) l r
  mutH:=fun i cs b c o h r=>S.mutH i cs b c o (get i _ h rfl) r
  hb:=S.hb
  hB:=S.hB }

end
end Dv

namespace Dv
open Go (Value Program World Act Oper Operand Code)

def Old(ρ : Rho)(b:Nat):Prop:=∃(k:Nat) (c:Nat),ρ k=some (.blk b c)
theorem rbS{ρ : Rho}{n:Nat}:∀(k:Nat) b c,ρ k=some (.blk b c)->Old ρ b\/n<=b:=fun k _ c h=>.inl ⟨k,c,h⟩
theorem hnS{H:HS}{ρ : Rho}{n:Nat}:∀ b o,H b o->H b o\/Old ρ b\/n<=b:=fun _ _ h=>.inl h
theorem rbU{ρ : Rho}{id n b0 cap:Nat}(h0:Old ρ b0\/n<=b0):∀(k:Nat) b c,upd ρ id (.blk b0 cap) k=some (.blk b c)->Old ρ b\/n<=b:=fun k b c h=>by
 unfold upd at h
 split at h
 ·simp at h;obtain⟨rfl,_⟩:=h;exact h0
 ·exact .inl ⟨k,c,h⟩
theorem rbV{ρ : Rho}{id n:Nat}:∀(k:Nat) b c,upd ρ id .virt k=some (.blk b c)->Old ρ b\/n<=b:=fun k b c h=>by
 unfold upd at h
 split at h
 ·simp at h
 ·exact .inl ⟨k,c,h⟩

structure y47(CL:y1t)(φ : Phi)(B:Nat)(ρ : Rho)(H:HS)(hp:y1q)(os:List Obj)(ρ':Rho)(H':HS)(hp':y1q)(os':List Obj):Prop where
 ext:Ext ρ ρ' H H' hp hp'
 sr:SR CL φ B ρ' H' hp' os'
 size:hp.size<=hp'.size
 frame:∀ b,b<hp.size->(∀(id:Nat) o c,os[id]? = some o->o.live=true -> ρ id ≠ some (.blk b c))->hp'[b]? = hp[b]?
 hnew:∀ b o,H' b o->H b o\/B<=b
 fz:y48 hp hp'
 rn:∀(k:Nat) bk,ρ' k=some bk -> ρ k=some bk \/ ∃ o:Obj,os'[k]? = some o/\o.live=true
 rb:∀(k:Nat) b c,ρ' k=some (.blk b c)->Old ρ b\/hp.size<=b
 hn:∀ b o,H' b o->H b o\/Old ρ b\/hp.size<=b

section
variable{P:Program}{E:Env}{CL:y1t}{φ : Phi}{τ : Phi}{B:Nat}{ρ ρ' ρ'':Rho}{H H' H'':HS}{hp hp' hp'':y1q}{os os' os'':List Obj}{w:World}

theorem y47.refl(S:SR CL φ B ρ H hp os):y47 CL φ B ρ H hp os ρ H hp os:=
 ⟨Ext.refl _ _ _,S,ai _,fun _ _ _=>rfl,fun _ _ h=>.inl h,y48.refl _,fun _ _ h=>.inl h,rbS,hnS⟩

theorem z5l(H:HS)(hp:y1q)(o:dR):y7s H H hp (hp.push o):=
 ⟨by simp,fun b hb=>by rw[ct];simp[fB hb],fun _ _ h=>h,fun _ _ h=>.inl h⟩

theorem z4r(hp:y1q)(o:dR):(hp.push o)[hp.size]? = some o:=by simp

theorem z4e(S:SR CL φ B ρ H hp os){id:Nat}(f:y44 ρ os id){arr:Array Value}{el:Nat}{cs:List D}(h:yt φ ρ H hp arr.toList cs)(ha:∀ d,d ∈ cs->d.atom=true) :
  y47 CL φ B ρ H hp os (upd ρ id (.blk hp.size arr.size)) H (hp.push (.cells arr el (0,0))) (y1y os id (.cells cs)):=by
 have g:=z5l H hp (.cells arr el (0,0))
 have S1:=S.grew g
 have x:=(g.ext ρ S.hb).trans (f.ext (.blk hp.size arr.size) H (hp.push (.cells arr el (0,0))))
 refine⟨x,S1.add f ?_ ?_ ?_ ?_,g.size,fun b hb _=>g.old b hb,fun _ _ h=>.inl h,y48.push _ (by intro arr el fr h;cases h;rfl),z8l f rfl,rbU (.inr (ai _)),hnS⟩
 ·refine⟨_,_,rfl,arr,el,z4r _ _,rfl,by have:=h.1;simp at this;omega,fun j v d hv hd=>?_,ha⟩
  exact(h.2 j v d (by simpa using hv) hd).mono x
 ·intro b c e;simp at e;obtain⟨rfl,rfl⟩:=e;exact⟨S.hB,by simp⟩
 ·intro b c e i o' c' h1 l1 r1;simp at e;obtain⟨rfl,rfl⟩:=e
  exact absurd (S.own i o' _ c' h1 l1 r1).2 (dF _)
 ·intro cs' b c _ e j hh;simp at e;obtain⟨rfl,rfl⟩:=e
  exact absurd (S.hb _ _ hh) (dF _)

def y5r(H:HS)(b0 n:Nat):HS:=fun b o=>H b o\/(b=b0/\o<n)

theorem z6t{arr:Array Value}{el:Nat}(j:Nat):cellOf (hp.push (.cells arr el (0,0))) hp.size j=arr[j]?:=by
 unfold cellOf;rw[z4r]

theorem z7m(H:HS)(hp:y1q)(o:dR)(n:Nat):y7s H (y5r H hp.size n) hp (hp.push o):=
 ⟨by simp,fun b hb=>by rw[ct];simp[fB hb],fun _ _ h=>.inl h,fun b o h=>by
  rcases h with h | ⟨rfl,_⟩
  ·exact .inl h
  ·exact .inr ⟨ai _,by simp⟩⟩

theorem zix(S:SR CL φ B ρ H hp os){arr:Array Value}{el:Nat}{els:List D}{su:Nat}(h:yt φ ρ H hp arr.toList (yi els))(hu:∀ x,x ∈ els->x.cellsL.length=su/\x.storable=true) :
  y47 CL φ B ρ H hp os ρ (y5r H hp.size arr.size) (hp.push (.cells arr el (0,0))) os /\
   Rep φ ρ (y5r H hp.size arr.size) (hp.push (.cells arr el (0,0))) (.slice (some ⟨hp.size,0,none⟩) els.length els.length) (.imm .exact els):=by
 have g:=z7m H hp (.cells arr el (0,0)) arr.size
 have x:=g.ext ρ S.hb
 refine⟨⟨x,S.grew g,g.size,fun b hb _=>g.old b hb,fun b o hh=>?_,y48.push _ (by intro arr el fr h;cases h;rfl),fun _ _ h=>.inl h,rbS,fun b o hh=>hh.elim .inl fun e=>.inr (.inr (cW e.1.symm))⟩,?_⟩
 ·rcases hh with hh | ⟨rfl,_⟩
  ·exact .inl hh
  ·exact .inr S.hB
 ·refine .imm .exact els _ els.length hp.size 0 su (fun j=>arr.toList.getD j bj) hu (ai _) (fun _=>rfl) (fun k hk=>by cases hk) (fun _=>rfl) (fun j hj=>?_) (fun j d hd=>?_)
  ·rw[<- h.1] at hj
   simp at hj
   refine⟨.inr ⟨rfl,by omega⟩,?_⟩
   rw[bA,z6t]
   simp[hj]
  ·obtain⟨v,hv,hr⟩:=h.get hd
   simp only[aj,hv,cC]
   exact hr.mono x

theorem zy(x:D)(els:List D):yi (x::els)=x.cellsL++yi els:=rfl

theorem z1z{a b:List D}:∀{off:Nat} {vs:List D},off+vs.length<=a.length->setCells (a++b) off vs=setCells a off vs++b
 |off,[],_=>rfl
 |off,v::vs,h=>by
  simp only[aA] at h
  simp only[setCells]
  rw[List.set_append_left _ _ (by omega)]
  exact z1z (by simp;omega)

theorem z10{a b:List D}:∀{off:Nat} {vs:List D},setCells (a++b) (a.length+off) vs=a++setCells b off vs
 |off,[]=>rfl
 |off,v::vs=>by
  simp only[setCells]
  rw[cH _ _ (by omega),Nat.add_sub_cancel_left,d8]
  exact z10

theorem zh:∀{a vs:List D},a.length=vs.length->setCells a 0 vs=vs
 |a,vs,h=>by
  have key:∀(pre a vs:List D),a.length=vs.length->setCells (pre++a) pre.length vs=pre++vs:=by
   intro pre a vs
   induction vs generalizing pre a with
   |nil=>intro h;cases a <;> simp_all [setCells]
   |cons v vs ih=>
    intro h
    match a,h with
    |x::a,h=>
     simp only[setCells]
     rw[cH _ _ (ai _),Nat.sub_self]
     have:=ih (pre++[v]) a (by simpa using h)
     simpa using this
  simpa using key [] a vs h

theorem zjm{sz:Nat}:∀{els:List D} {i:Nat} {d:D},(∀ x,x ∈ els->x.cellsL.length=sz)->d.cellsL.length=sz->i<els.length->yi (els.set i d)=setCells (yi els) (i*sz) d.cellsL
 |x::els,0,d,hu,hd,_=>by
  have hx:=hu x (by simp)
  simp only[List.set_cons_zero,zy,eZ]
  rw[z1z (by omega),zh (by omega)]
 |x::els,i+1,d,hu,hd,hi=>by
  have hx:=hu x (by simp)
  simp only[iv,zy]
  rw[zjm (fun y hy=>hu y (bI _ hy)) hd (by simpa using hi)]
  rw[show(i+1)*sz=x.cellsL.length+i*sz from by rw[hx,bo];omega,z10]

theorem zb7{sz:Nat}:∀{ds:List (Nat × D)} {els r:List D},(∀ x,x ∈ els->x.cellsL.length=sz/\x.storable=true)->y6j sz els ds=some r ->
  y5z (fun i=>some (i*sz,sz)) (yi els) ds=some (yi r)/\r.length=els.length /\ ∀ x,x ∈ r->x.cellsL.length=sz/\x.storable=true
 |[],els,r,hu,h=>by simp[y6j] at h;subst h;exact⟨rfl,rfl,hu⟩
 |(i,d)::ds,els,r,hu,h=>by
  simp only[y6j] at h
  split at h
  ·rename_i hc
   have hu':∀ x,x ∈ els.set i d->x.cellsL.length=sz/\x.storable=true:=by
    intro x hx
    rcases iQ hx with hx | rfl
    ·exact hu x hx
    ·exact⟨hc.2.1,hc.1⟩
   obtain⟨h1,h2,h3⟩:=zb7 hu' h
   rw[zjm (fun x hx=>(hu x hx).1) hc.2.1 hc.2.2] at h1
   refine⟨?_,by simpa using h2,h3⟩
   have hlen:=zo (fun x hx=>(hu x hx).1)
   have hle:i*sz+sz<=els.length*sz:=by
    have:=bw sz hc.2.2
    rw[Nat.succ_mul] at this;exact this
   simp only[y5z]
   rw[if_pos ⟨hc.1,hc.2.1,by rw[hlen];exact hle⟩]
   exact h1
  ·simp at h

theorem zdo{ag:Bool}{cs:List D}{z:D}(h:yk ag cs=some z)(ha:∀ d,d ∈ cs->d.atom=true):z.cellsL=cs/\z.storable=true:=by
 cases ag with
 |true=>simp[yk] at h;subst h;exact⟨rfl,by simpa[D.storable] using ha⟩
 |false=>
  match cs,h with
  |[c],h=>
   simp[yk] at h;subst h
   have:=ha c (by simp)
   cases c <;> simp[D.atom] at this <;> exact⟨rfl,rfl⟩
  |[],h=>simp[yk] at h
  |_::_::_,h=>simp[yk] at h

theorem z43{z:D}{sz:Nat}(hz:z.cellsL.length=sz):∀(n j:Nat),j<n*sz->(yi (af n z))[j]? = z.cellsL[j % sz]?
 | 0,j,h=>by simp at h
 |n+1,j,h=>by
  rw[List.replicate_succ,zy]
  rcases bU j sz with hj | hj
  ·rw[aB (by omega),Nat.mod_eq_of_lt hj]
  ·rw[aF (by omega),hz,z43 hz n (j - sz) (by rw[bo] at h;omega)]
   congr 1
   rw[Nat.mod_eq_sub_mod hj]

theorem z6v{zv:Array Value}{z:D}{sz n:Nat}(hz:yt φ ρ H hp zv.toList z.cellsL)(hsz:z.cellsL.length=sz) :
  yt φ ρ H hp ((dD (n*sz)).map (zv[· % zv.size]!)).toList (yi (af n z)):=by
 have h1:zv.size=sz:=by rw[<- hsz,<- hz.1];simp
 have hfl:(yi (af n z)).length=n*sz:=by
  rw[zo (su:=sz) (fun x hx=>by rw[iX hx];exact hsz)];simp
 refine⟨by simp[hfl],fun j v d hv hd=>?_⟩
 have hj:j<n*sz:=by rw[<- hfl];exact(ac.1 hd).1
 rw[z43 hsz n j hj] at hd
 simp[hj] at hv
 have hm:j % sz<sz:=Nat.mod_lt _ (by rcases bR sz with h | h; (· subst h;omega);exact h)
 refine hz.2 (j % sz) v d ?_ hd
 rw[<- hv,h1]
 simp[h1,hm]

end
end Dv

namespace Dv
open Go (Value Program World Act Oper Operand Code)

section
variable{P:Program}{E:Env}{CL:y1t}{φ : Phi}{τ : Phi}{B:Nat}{ρ : Rho}{H:HS}{os:List Obj}{w:World}

def y3w(CL:y1t)(φ : Phi)(B:Nat)(ρ : Rho)(H:HS)(os:List Obj)(w:World)(r:gW Value)(d:D)(os':List Obj):Prop:=
 ∃ v w' ρ' H',r=.ok v w'/\(y47 CL φ B ρ H w.heap os ρ' H' w'.heap os'/\y1n w w')/\Rep φ ρ' H' w'.heap v d

theorem y3w.of_value{r:gW Value}{d:D}(S:SR CL φ B ρ H w.heap os)(h:∃ v,r=.ok v w/\Rep φ ρ H w.heap v d):y3w CL φ B ρ H os w r d os:=by
 obtain⟨v,h1,h2⟩:=h
 exact⟨v,w,ρ,H,h1,⟨y47.refl S,y1n.refl _⟩,h2⟩

theorem z1i{el:Nat}{cells:Array Value}:(Go.newRow el cells).run P w=.ok ⟨w.heap.size,0,none⟩ { w with heap:=w.heap.push (.cells cells el) }:=by
 simp[Go.newRow]

theorem zr7{t c id:Nat}(T:TOk P E τ t c)(S:SR CL φ B ρ H w.heap os)(f:y44 ρ os id)(ha:(E.ty c).zero.all D.atom=true)(hz:(E.ty c).zero.length=(E.ty c).size)(h0:(E.ty c).size ≠ 0) :
  y3w CL φ B ρ H os w ((lq t true (.tuple #[])).run P w) (.loc id 0) (y1y os id (.cells (E.ty c).zero)):=by
 obtain⟨z,e1,e2,_⟩:=T.zeroV (w:=w) (φ:=φ) (ρ:=ρ) (H:=H) hz h0
 have hp:=z4e S f (el:=t) e2 (by simpa using ha)
 refine⟨.pointer (some ⟨w.heap.size,0,none⟩),{ w with heap:=w.heap.push (.cells z.cells t) },_,_,?_,⟨hp,rfl,rfl,rfl,ai _⟩,.loc _ z.cells.size _ _ (by simp[upd])⟩
 simp[lq,e1,lN,z1i]

theorem z2q{d:D}(h:d.storable=true):∀ x,x ∈ d.cellsL->x.atom=true:=by
 cases d <;> first | (simpa[D.storable,D.cellsL] using h) | (simp[D.storable,D.atom] at h)

theorem zxr{t id:Nat}{vx:Value}{x:D}(S:SR CL φ B ρ H w.heap os)(f:y44 ρ os id)(hx:Rep φ ρ H w.heap vx x)(hs:x.storable=true) :
  y3w CL φ B ρ H os w ((iY t vx).run P w) (.loc id 0) (y1y os id (.cells x.cellsL)):=by
 have hp:=z4e S f (el:=t) (hx.cells hs) (z2q hs)
 refine⟨.pointer (some ⟨w.heap.size,0,none⟩),{ w with heap:=w.heap.push (.cells vx.cells t) },_,_,?_,⟨hp,rfl,rfl,rfl,ai _⟩,.loc _ vx.cells.size _ _ (by simp[upd])⟩
 simp[iY,lN,z1i]

theorem zst{t:Nat}{vx:Value}{x:D}(S:SR CL φ B ρ H w.heap os)(hx:Rep φ ρ H w.heap vx x)(hs:x.storable=true) :
  y3w CL φ B ρ H os w ((iY t vx).run P w) (.iptr x.cellsL) os:=by
 have hc:=hx.cells hs
 have g:=z7m H w.heap (.cells vx.cells t (0,0)) vx.cells.size
 have e:=g.ext ρ S.hb
 refine⟨.pointer (some ⟨w.heap.size,0,none⟩),{ w with heap:=w.heap.push (.cells vx.cells t) },ρ,y5r H w.heap.size vx.cells.size,?_,⟨⟨e,S.grew g,g.size,fun b hb _=>g.old b hb,fun b o hh=>?_,trivial,fun _ _ h=>.inl h,rbS,fun b o hh=>hh.elim .inl fun e=>.inr (.inr (cW e.1.symm))⟩,rfl,rfl,rfl,ai _⟩,?_⟩
 ·simp[iY,lN,z1i]
 ·rcases hh with hh | ⟨rfl,_⟩
  ·exact .inl hh
  ·exact .inr S.hB
 ·refine .iptr w.heap.size 0 _ (fun j=>vx.cells.toList.getD j bj) (fun j hj=>?_) (fun j d hd=>?_)
  ·rw[<- hc.1] at hj
   simp at hj
   refine⟨.inr ⟨rfl,by omega⟩,?_⟩
   rw[bA]
   show cellOf (w.heap.push (.cells vx.cells t (0,0))) w.heap.size j=_
   rw[z6t]
   simp[hj]
  ·obtain⟨v,hv,hr⟩:=hc.get hd
   simp only[aj,hv,cC]
   exact hr.mono e

theorem z1j{z:D}{sz n:Nat}(h1:z.cellsL.length=sz)(h2:z.storable=true):∀ x,x ∈ af n z->x.cellsL.length=sz/\x.storable=true:=
 fun x hx=>by rw[iX hx];exact⟨h1,h2⟩

theorem z1m{els:List D}(h:∀ x,x ∈ els->x.storable=true):∀ d,d ∈ yi els->d.atom=true:=by
 intro d hd
 simp only[yi,bJ] at hd
 obtain⟨x,hx,hd⟩:=hd
 exact z2q (h x hx) d hd

theorem zn1(TA:y3d P E τ){t c e id len:Nat}{mu:Bool}{ps:List (Nat × Value)}{ds:List (Nat × D)}{z:D}{els:List D}(T:TOk P E τ t c)(hk:(E.ty c).k=.slice e)(S:SR CL φ B ρ H w.heap os)(f:y44 ρ os id)
  (hp:ybh φ ρ H w.heap ps ds) (hz:y22 E e=some z) (hl:len*(E.ty e).size<=16777216) (hf:y6j (E.ty e).size (af len z) ds=some els) :
  (mu=true/\len ≠ 0->y3w CL φ B ρ H os w ((fQ t len ps.toArray).run P w) (.sl id 0 len (E.ty e).size (E.ty e).ag true) (y1y os id (.cells (yi els)))) /\
  y3w CL φ B ρ H os w ((fQ t len ps.toArray).run P w) (.imm .exact els) os:=by
 obtain⟨e',hu,he'⟩:=T.slice hk
 have Te:=TA _ _ he'
 obtain⟨zv,e1,e2,_,e4,e5,e6⟩:=z2x (w:=w) (φ:=φ) (ρ:=ρ) (H:=H) Te hz
 obtain⟨h1,h2,h3⟩:=zb7 (z1j e4 e5) hf
 have hzr:=z6v (n:=len) e2 e4
 obtain⟨arr',a1,a2⟩:=z99 hzr hp h1
 have hlen:els.length=len:=by simpa using h2
 have hsz:arr'.size=len*(E.ty e).size:=by
  have:=a2.1
  rw[zo (fun x hx=>(h3 x hx).1),hlen] at this
  simpa using this
 have hrun:(fQ t len ps.toArray).run P w=.ok (.slice (some ⟨w.heap.size,0,none⟩) len len) { w with heap:=w.heap.push (.cells arr' e') }:=by
  unfold fQ
  simp only[ax,run_underlying hu,al,Te.size]
  have hnot : ¬ len*(E.ty e).size > 2 ^ 24:=by omega
  simp only[if_neg hnot,ax,ip,aK,al]
  by_cases h0:len*(E.ty e).size=0
  ·-- nothing is laid
   have hl0:len=0:=by rcases je.1 h0 with h | h;exact h;exact absurd h e6
   subst hl0
   have hd:ds=[]\/ds ≠ []:=by cases ds <;> simp
   have ha:(dD (0*(E.ty e).size)).map (zv.cells[· % zv.cells.size]!) = #[]:=by simp
   rw[ha] at a1
   have hr0:∀ g:Nat->Value,(dD 0).map g = #[]:=fun g=>by simp[dD]
   simp[h0,hr0,a1,z1i]
  ·simp only[if_neg h0,e1,al]
   simp[a1,z1i]
 constructor
 ·rintro⟨_,h0⟩
  have hp:=z4e S f (el:=e') a2 (z1m fun x hx=>(h3 x hx).2)
  exact⟨_,_,_,_,hrun,⟨hp,rfl,rfl,rfl,ai _⟩,.sl _ _ _ _ _ _ w.heap.size arr'.size len _ (by simp[upd]) (ai _) (fun _=>rfl) (fun _=>⟨rfl,rfl,hsz⟩)⟩
 ·obtain⟨hp,hr⟩:=zix S (el:=e') a2 h3
  rw[hlen] at hr
  exact⟨_,_,_,_,hrun,⟨hp,rfl,rfl,rfl,ai _⟩,hr⟩

theorem zhe(TA:y3d P E τ){t c e id:Nat}{kl kc:aZ}{l:Int}{mu:Bool}{z:D}(T:TOk P E τ t c)(hk:(E.ty c).k=.slice e)(S:SR CL φ B ρ H w.heap os)(f:y44 ρ os id)
  (hz:y22 E e=some z) (h0:0<=l) (hb:l*((E.ty e).bytes+1)<=yg) :
  (mu=true->y3w CL φ B ρ H os w ((dH t (.int kl l) (.int kc l)).run P w) (.sl id 0 l.toNat (E.ty e).size (E.ty e).ag true) (y1y os id (.cells (yi (af l.toNat z))))) /\
  y3w CL φ B ρ H os w ((dH t (.int kl l) (.int kc l)).run P w) (.imm .exact (af l.toNat z)) os:=by
 obtain⟨e',hu,he'⟩:=T.slice hk
 have Te:=TA _ _ he'
 obtain⟨zv,e1,e2,_,e4,e5,e6⟩:=z2x (w:=w) (φ:=φ) (ρ:=ρ) (H:=H) Te hz
 obtain⟨n,rfl⟩:=gt h0
 obtain⟨inf,hi,hsz,hby,_⟩:=Te.info
 have hzr:=z6v (n:=n) e2 e4
 have hsize:((dD (n*(E.ty e).size)).map (zv.cells[· % zv.cells.size]!)).size=n*(E.ty e).size:=by simp
 have hnn:(n:Int)<=yg:=by
  have h1:(n:Int)*1<=(n:Int)*((E.ty e).bytes+1):=ec (by omega) (by omega)
  omega
 have hbb:(E.ty e).bytes*(n:Int)<=yg:=by
  have h1:(n:Int)*(E.ty e).bytes<=(n:Int)*((E.ty e).bytes+1):=ec (by omega) (by omega)
  rw[mP];omega
 have hwrap:aw.wrap (n:Int)=n:=by
  have hm:(yg:Int)=17592186044416:=rfl
  rw[hm] at hnn
  exact gw _ (by omega)
 have hrun:(dH t (.int kl n) (.int kc n)).run P w=.ok (.slice (some ⟨w.heap.size,0,none⟩) n n) { w with heap:=w.heap.push (.cells ((dD (n*(E.ty e).size)).map (zv.cells[· % zv.cells.size]!)) e') }:=by
  have hm:(yg:Int)=17592186044416:=rfl
  rw[hm] at hbb hnn
  unfold dH
  simp only[ax,run_underlying hu,al,Go.asInt,ep,aK,io,z1g hi,hwrap,hby]
  have hc : ¬ (((decide ((n:Int)<0) || decide ((((E.ty e).bytes:Nat):Int)*(n:Int) > 2 ^ 48)) || decide ((n:Int)<0) || decide ((n:Int) > (n:Int)))=true):=by
   simp
   omega
  simp only[if_neg hc,ax,jw,al,Te.size,ci,ip,aK]
  by_cases hn0:n*(E.ty e).size=0
  ·have hr0:∀ g:Nat->Value,(dD 0).map g = #[]:=fun g=>by simp[dD]
   have hn:n=0:=by rcases je.1 hn0 with h | h;exact h;exact absurd h e6
   subst hn
   simp[hr0,z1i]
  ·simp[if_neg hn0,e1,z1i]
 rw[ci]
 constructor
 ·intro _
  have hp:=z4e S f (el:=e') hzr (z1m fun x hx=>(z1j e4 e5 x hx).2)
  exact⟨_,_,_,_,hrun,⟨hp,rfl,rfl,rfl,ai _⟩,.sl _ _ _ _ _ _ w.heap.size _ n _ (by simp[upd];rfl) (ai _) (fun _=>rfl) (fun _=>⟨rfl,rfl,by simp⟩)⟩
 ·obtain⟨hp,hr⟩:=zix S (el:=e') hzr (z1j e4 e5)
  simp only[List.length_replicate] at hr
  exact⟨_,_,_,_,hrun,⟨hp,rfl,rfl,rfl,ai _⟩,hr⟩

end
end Dv

namespace Dv
open Go (Value Program World Act Oper Operand Code)

section
variable{P:Program}{E:Env}{CL:y1t}{φ : Phi}{τ : Phi}{B:Nat}{ρ : Rho}{H:HS}{os:List Obj}{w:World}

theorem zor{t id:Nat}(S:SR CL φ B ρ H w.heap os)(f:y44 ρ os id):y3w CL φ B ρ H os w ((kK t none).run P w) (.map (some id)) (y1y os id (.map [])):=by
 have g:=z5l H w.heap (.map #[] 0)
 have S1:=S.grew g
 have x:=(g.ext ρ S.hb).trans (f.ext (.blk w.heap.size 0) H (w.heap.push (.map #[] 0)))
 refine⟨.map (some w.heap.size),{ w with heap:=w.heap.push (.map #[] 0) },upd ρ id (.blk w.heap.size 0),H,by simp[kK],⟨⟨x,S1.add f ?_ ?_ ?_ ?_,g.size,fun b hb _=>g.old b hb,fun _ _ h=>.inl h,y48.push _ (by intro arr el fr h;cases h),z8l f rfl,rbU (.inr (ai _)),hnS⟩,rfl,rfl,rfl,ai _⟩,.map _ 0 _ (by simp[upd])⟩
 ·exact⟨_,_,rfl,#[],0,z4r _ _,rfl,fun j e p he=>by simp at he,by simp,by simp⟩
 ·intro b c e;simp at e;obtain⟨rfl,rfl⟩:=e;exact⟨S.hB,by simp⟩
 ·intro b c e i o' c' h1 l1 r1;simp at e;obtain⟨rfl,rfl⟩:=e
  exact absurd (S.own i o' _ c' h1 l1 r1).2 (dF _)
 ·intro cs' b c e;simp at e

theorem z8b{sz:Nat}{ag:Bool}:∀{n:Nat} {cs els:List D},(∀ d,d ∈ cs->d.atom=true)->y3a sz ag n cs=some els->els.length=n/\yi els=cs.take (n*sz)/\n*sz<=cs.length /\ ∀ x,x ∈ els->x.cellsL.length=sz/\x.storable=true
 | 0,cs,els,_,h=>by simp[y3a] at h;subst h;simp[yi]
 |n+1,cs,els,ha,h=>by
  simp only[y3a] at h
  cases h1:y1x cs 0 sz with
  |none=>simp[h1] at h
  |some c=>cases h2:yk ag c with
   |none=>simp[h1,h2] at h
   |some d=>cases h3:y3a sz ag n (cs.drop sz) with
    |none=>simp[h1,h2,h3] at h
    |some r=>
     simp[h1,h2,h3] at h;subst h
     obtain⟨e1,e2⟩:=z3f h1
     obtain⟨i1,i2,i3,i4⟩:=z8b (fun d hd=>ha d (eP hd)) h3
     have hle:sz<=cs.length:=by
      cases sz with
      |zero=>omega
      |succ m=>have:=(e2 m (by omega)).2;omega
     have hc:c=cs.take sz:=by
      apply cx
      intro j
      rw[aU]
      split
      ·rename_i hj;rw[(e2 j hj).1];simp
      ·rename_i hj;rw[be (by omega)]
     obtain⟨o1,o2⟩:=zdo h2 (fun x hx=>ha x (by rw[hc] at hx;exact dh hx))
     refine⟨by simp[i1],?_,?_,?_⟩
     ·rw[zy,o1,i2,hc,show(n+1)*sz=sz+n*sz from by rw[bo];omega,List.take_add]
     ·rw[cq] at i3;rw[bo];omega
     ·intro x hx
      rcases az.1 hx with rfl | hx
      ·exact⟨by rw[o1,hc];simp;omega,o2⟩
      ·exact i4 x hx

theorem z2n{sz:Nat}{ag:Bool}{vy:Value}{y:D}{new:List D}(S:SR CL φ B ρ H w.heap os)(hy:Rep φ ρ H w.heap vy y)(h:y12 os sz ag y=some new) :
  ∃ a cap vl,vy=.slice a new.length cap/\yt φ ρ H w.heap vl (yi new)/\(∀ x,x ∈ new->x.cellsL.length=sz/\x.storable=true) /\
   (∀ n ≤ new.length,∀ w1:World,w1.heap=w.heap->(aM sz n vy).run P w1=.ok (vl.take (n*sz)).toArray w1):=by
 unfold y12 at h
 split at h
 ·rename_i sp els
  split at h
  ·rename_i hall
   simp at h;subst h
   have hu:∀ x,x ∈ els->x.cellsL.length=sz/\x.storable=true:=fun x hx=>by
    have:=aD.1 hall x hx
    simp at this;exact⟨this.2,this.1⟩
   obtain⟨a,cap,b,off,su,rfl,hcap,ha,hun,vl,hr,hc⟩:=z7k hy
   have hlen:vl.length=els.length*sz:=by rw[hr.1,zo (fun x hx=>(hu x hx).1)]
   have key:∀ n ≤ els.length,∀ w1:World,w1.heap=w.heap->(aM sz n (.slice a els.length cap)).run P w1=.ok (vl.take (n*sz)).toArray w1:=by
    intro n hn w1 he
    have hns:n*sz<=vl.length:=by rw[hlen];exact bw _ hn
    by_cases hne:els=[]
    ·subst hne
     have hn0:n=0:=by simpa using hn
     subst hn0
     cases a with
     |none=>simp[aM]
     |some a=>simp[aM,gY,eY]
    ·rw[ha hne]
     simp only[aM]
     exact z37 (by simp;omega) (fun j v hv=>by
      rw[aU] at hv
      split at hv
      ·rw[he];exact(hc j v hv).2
      ·simp at hv)
   exact⟨a,cap,vl,rfl,hr,hu,key⟩
  ·simp at h
 ·rename_i id off len sz' ag' gr
  split at h
  ·rename_i hsz
   subst hsz
   split at h
   ·rename_i cs hrow
    cases hy with
    |sl _ _ _ _ _ _ b c cap a hid hl ha hc=>
     have R:=S.row hid hrow
     obtain⟨arr,el,r1,r2,r3,r4,r5⟩:=R
     obtain⟨c1,c2,c3,c4⟩:=z8b (fun d hd=>r5 d (eP hd)) h
     have C:=(S.row hid hrow).cells
     obtain⟨vl0,v1,v2⟩:=C
     have hlen:((vl0.drop off).take (len*sz)).length=len*sz:=by
      rw[cq] at c3
      rw[aI,cq,v1.1];omega
     have key:∀ n ≤ len,∀ w1:World,w1.heap=w.heap->(aM sz n (.slice a len cap)).run P w1=.ok (((vl0.drop off).take (len*sz)).take (n*sz)).toArray w1:=by
      intro n hn w1 he
      have hns:n*sz<=len*sz:=bw _ hn
      by_cases h0:len=0
      ·subst h0
       have hn0:n=0:=by simpa using hn
       subst hn0
       cases a with
       |none=>simp[aM]
       |some a=>simp[aM,gY,eY]
      ·rw[ha h0]
       simp only[aM]
       exact z37 (by rw[aI,hlen];omega) (fun j v hv=>by
        rw[aU] at hv
        split at hv
        ·rw[aU] at hv
         split at hv
         ·rw[bX] at hv
          have:=v2 _ v hv
          rw[bA] at this
          rw[he];exact this
         ·simp at hv
        ·simp at hv)
     rw[c1]
     refine⟨a,cap,(vl0.drop off).take (len*sz),rfl,?_,c4,key⟩
     rw[c2];exact(v1.drop off).take _
   ·simp at h
  ·simp at h
 ·simp at h

theorem zag(need cap:Nat)(h:cap<need):fk need cap<=4*need+1024:=by
 unfold fk
 split
 ·omega
 ·split
  ·omega
  ·have key:∀(r c:Nat),c<=4*need+1024->kx need r c<=4*need+1024:=by
    intro r
    induction r with
    |zero=>intro c h;exact h
    |succ r ih=>
     intro c h
     unfold kx
     split
     ·exact h
     ·exact ih _ (by omega)
   exact key 4 cap (by omega)

end
end Dv

namespace Dv
open Go (Value Program World Act Oper Operand Code)

section
variable{P:Program}{E:Env}{CL:y1t}{φ : Phi}{τ : Phi}{B:Nat}{ρ : Rho}{H:HS}{os:List Obj}{w:World}

theorem z1q{cs:List Value}:∀{off:Nat} {vs:List Value},(y6q cs off vs).length=cs.length
 |off,[]=>rfl
 |off,v::vs=>by simp only[y6q];rw[z1q];simp

theorem z1r{cs:List Value}:∀{off:Nat} {vs:List Value} {j:Nat},(j<off\/off+vs.length<=j)->(y6q cs off vs)[j]? = cs[j]?
 |off,[],j,_=>rfl
 |off,v::vs,j,h=>by
  simp only[aA] at h
  simp only[y6q]
  rw[z1r (by omega),bl (by omega)]

theorem z3j{cs:List Value}:∀{off:Nat} {vs:List Value} {j:Nat},off+vs.length<=cs.length->j<vs.length->(y6q cs off vs)[off+j]? = vs[j]?
 |off,v::vs,0,h,_=>by
  simp only[aA] at h
  simp only[y6q,cU]
  rw[z1r (by omega),List.getElem?_set_self (by omega)]
  rfl
 |off,v::vs,j+1,h,hj=>by
  simp only[aA] at h hj
  simp only[y6q]
  have:=z3j (cs:=cs.set off v) (off:=off+1) (vs:=vs) (j:=j) (by simp;omega) (by omega)
  rw[show off+(j+1)=off+1+j from by omega,this]
  rfl

structure y8y(w w':World)(b:Nat)(arr':Array Value)(el:Nat):Prop where
 at_:w'.heap[b]? = some (.cells arr' el (0,0))
 other:∀ b',b' ≠ b->w'.heap[b']? = w.heap[b']?
 size:w'.heap.size=w.heap.size
 still:y1n w w'

theorem zdf{b off el:Nat}{arr:Array Value}{v:Value}(hb:w.heap[b]? = some (.cells arr el (0,0)))(ho:off<arr.size)(hv:v.oneCell'=true) :
  ∃ w',(Go.store ⟨b,off,none⟩ v).run P w=.ok () w'/\y8y w w' b (arr.setIfInBounds off v) el:=by
 refine⟨w.setCell ⟨b,off,none⟩ v,?_,?_⟩
 ·rw[Go.run_store _ _ _ _ _ hv,cell?_eq]
  have h1:cellOf w.heap b off=some arr[off]:=by simp[cellOf,hb,ho]
  have h2:w.frozen? ⟨b,off,none⟩=false:=by simp[World.frozen?,hb]
  rw[h1];simp[h2]
 ·have hlt:=z23 hb
  refine⟨?_,fun b' hne=>?_,by simp[World.setCell],rfl,rfl,rfl,ai _⟩
  ·simp only[World.setCell]
   rw[cw]
   simp[hb]
  ·simp only[World.setCell]
   rw[cw]
   simp[eU hne]

theorem z2s{b el:Nat}:∀(vs:List Value) (off i:Nat) (arr:Array Value) (w:World),w.heap[b]? = some (.cells arr el (0,0))->off+i+vs.length<=arr.size->(∀ v,v ∈ vs->v.oneCell'=true) ->
  ∃ w',(dG ⟨b,off,none⟩ vs i).run P w=.ok () w'/\y8y w w' b (y6q arr.toList (off+i) vs).toArray el
 |[],off,i,arr,w,hb,_,_=>⟨w,by simp[dG],by simpa[y6q] using hb,fun _ _=>rfl,rfl,y1n.refl _⟩
 |v::vs,off,i,arr,w,hb,hl,hv=>by
  simp only[aA] at hl
  obtain⟨w1,h1,h2⟩:=zdf (P:=P) (w:=w) (off:=off+i) hb (by omega) (hv v (by simp))
  obtain⟨w2,h3,h4⟩:=z2s vs off (i+1) (arr.setIfInBounds (off+i) v) w1 h2.at_ (by simp;omega) (fun u hu=>hv u (by simp[hu]))
  refine⟨w2,?_,?_,fun b' hne=>(h4.other b' hne).trans (h2.other b' hne),h4.size.trans h2.size,h2.still.trans h4.still⟩
  ·simp only[dG,ax,z1h,h1,al,h3]
  ·rw[h4.at_]
   simp[y6q,d8]

theorem y47.of_kill{ρ':Rho}{H':HS}{hp hp':y1q}{os':List Obj}{k:Nat}(h:y47 CL φ B ρ H hp (os.set k .dead) ρ' H' hp' os'):y47 CL φ B ρ H hp os ρ' H' hp' os':=
 ⟨h.ext,h.sr,h.size,fun b hb hn=>h.frame b hb (fun id o c ho hl=>by
  rw[bn] at ho
  split at ho
  ·split at ho
   ·simp at ho;subst ho;simp[Obj.live] at hl
   ·simp at ho
  ·exact hn id o c ho hl),h.hnew,h.fz,h.rn,h.rb,h.hn⟩

theorem y44.kill{id k:Nat}(f:y44 ρ os id):y44 ρ (os.set k .dead) id:=by
 refine⟨f.rho,?_⟩
 rcases f.place with h | h
 ·left;simpa using h
 ·by_cases e:k=id
  ·subst e
   right
   have:=(ac.1 h).1
   simp[this]
  ·right;rw[bl e];exact h

theorem ziw{w1:World}(hw:w1.heap=w.heap)(S:SR CL φ B ρ H w.heap os){id:Nat}(f:y44 ρ os id){arr:Array Value}{el cap su:Nat}{els:List D}(hr:yt φ ρ H w.heap (arr.toList.take (yi els).length) (yi els))(hsz:arr.size=cap*su)
  (hu:∀ x,x ∈ els->x.cellsL.length=su/\x.storable=true) (hle:els.length<=cap) :
  ∃ ρ' H',y47 CL φ B ρ H w.heap os ρ' H' (w1.heap.push (.cells arr el (0,0))) (y1y os id (.tok (els.length*su) su)) /\
   Rep φ ρ' H' (w1.heap.push (.cells arr el (0,0))) (.slice (some ⟨w.heap.size,0,none⟩) els.length cap) (.imm (.tok id) els):=by
 rw[hw]
 have hfl:(yi els).length=els.length*su:=zo fun x hx=>(hu x hx).1
 have hfa:(yi els).length<=arr.size:=by rw[hfl,hsz];exact bw _ hle
 have g:=z7m H w.heap (.cells arr el (0,0)) (yi els).length
 have S1:=S.grew g
 have x1:=g.ext ρ S.hb
 have x:=x1.trans (f.ext (.blk w.heap.size cap) (y5r H w.heap.size (yi els).length) (w.heap.push (.cells arr el (0,0))))
 refine⟨upd ρ id (.blk w.heap.size cap),y5r H w.heap.size (yi els).length,⟨x,S1.add f ?_ ?_ ?_ ?_,g.size,fun b hb _=>g.old b hb,fun b o hh=>?_,y48.push _ (by intro arr el fr h;cases h;rfl),z8l f rfl,rbU (.inr (ai _)),fun b o hh=>hh.elim .inl fun e=>.inr (.inr (cW e.1.symm))⟩,?_⟩
 ·refine .inr ⟨_,_,rfl,arr,el,z4r _ _,hsz,by rw[<- hfl];exact hfa,fun o ho hh=>?_⟩
  rcases hh with hh | ⟨_,hh⟩
  ·exact absurd (S.hb _ _ hh) (dF _)
  ·omega
 ·intro b c e;simp at e;obtain⟨rfl,rfl⟩:=e;exact⟨S.hB,by simp⟩
 ·intro b c e i o' c' h1 l1 r1;simp at e;obtain⟨rfl,rfl⟩:=e
  exact absurd (S.own i o' _ c' h1 l1 r1).2 (dF _)
 ·intro cs' b c e;simp at e
 ·rcases hh with hh | ⟨rfl,_⟩
  ·exact .inl hh
  ·exact .inr S.hB
 ·refine .imm (.tok id) els _ cap w.heap.size 0 su (fun j=>arr.toList.getD j bj) hu hle (fun h=>by cases h) (fun k hk=>?_) (fun _=>rfl) (fun j hj=>⟨.inr ⟨rfl,by omega⟩,?_⟩) (fun j d hd=>?_)
  ·simp at hk;subst hk;exact .inl ⟨_,by simp[upd],rfl⟩
  ·rw[bA,z6t]
   have:j<arr.size:=by omega
   simp[this]
  ·obtain⟨v,hv,hrr⟩:=hr.get hd
   rw[aU] at hv
   split at hv
   ·simp only[aj,hv,cC]
    exact hrr.mono x
   ·simp at hv

end
end Dv

namespace Dv
open Go (Value Program World Act Oper Operand Code)

section
variable{P:Program}{E:Env}{CL:y1t}{φ : Phi}{τ : Phi}{B:Nat}{ρ : Rho}{H:HS}{os:List Obj}{w:World}

theorem zrz{t2:Nat}{e2':Nat}(h:P.underlying t2=some (.slice e2')) :
  ((do pure ((<- jR t2) matches .int _):fp Bool)).run P w=.ok false w:=by
 simp[run_underlying h]

def y90(P:Program)(t2:Nat):Prop:=∃ ty,P.underlying t2=some ty/\(match ty with | .int _=>true | _=>false)=false
def y9s(P:Program)(v:Value)(n:Nat):Prop:=∀ w:World,(fd v).run P w=.ok n w
theorem z2l{t2 e2':Nat}(h:P.underlying t2=some (.slice e2')):y90 P t2:=⟨_,h,rfl⟩
theorem zoo{t2:Nat}(h:P.underlying t2=some .string):y90 P t2:=⟨_,h,rfl⟩
theorem z2o{a:Option cB}{n cap:Nat}:y9s P (.slice a n cap) n:=fun _=>by simp[fd]

theorem z1s{t t2 ty e' sz sLen sCap n:Nat}{base:Option cB}{vy:Value}{vln:List Value}{w':World}
  (hu:P.underlying t=some (.slice e')) (hu2:y90 P t2) (hl2:y9s P vy n) (hsz:(f7 e').run P w=.ok sz w)
  (hn:(aM sz n vy).run P w=.ok vln.toArray w) (hfit:sLen+n<=sCap)
  (hst:(match base with | some a=>dG (a.add (sLen*sz)) vln | none=>pure ():fp Unit).run P w=.ok () w') :
  (bM #[t,t2] ty #[.slice base sLen sCap,vy]).run P w=.ok (.slice base (sLen+n) sCap) w':=by
 unfold bM
 simp only[bT,cA,cM]
 obtain⟨ty2,hu3,hz⟩:=hu2
 cases ty2 <;> first | (cases hz;done) | skip
 all_goals (
  simp only[ax,run_underlying hu,run_underlying hu3,al,hsz,aK,hl2 w,jx,if_true,if_pos hfit,aP,if_false,hn]
  cases base with
  |none=>simp at hst;subst hst;simp
  |some a=>simp only[ax,hst,al,aK])

theorem z59{t t2 ty e' sz by' sLen sCap n:Nat}{base:Option cB}{vy:Value}{vlo vln:List Value}{zv:Value}{inf:kH}
  (hu:P.underlying t=some (.slice e')) (hu2:y90 P t2) (hl2:y9s P vy n) (hsz:(f7 e').run P w=.ok sz w) (hi:P.info? e'=some inf) (hby:inf.bytes=by')
  (hz:∀ w1:World,(cV e').run P w1=.ok zv w1) (hgrow:sCap<sLen+n)
  (hb1:(sLen+n)*(by'+1)<=17592186044416) (hb2:by'<=65536) (ho':∀ w1:World,w1.heap=w.heap->(aM sz sLen (.slice base sLen sCap)).run P w1=.ok vlo.toArray w1)
  (hn':∀ w1:World,w1.heap=w.heap->(aM sz n vy).run P w1=.ok vln.toArray w1) :
  ∃(newCap:Nat) (w1:World),(w1.heap=w.heap/\y1n w w1)/\sLen+n<=newCap/\(bM #[t,t2] ty #[.slice base sLen sCap,vy]).run P w =
   .ok (.slice (some ⟨w.heap.size,0,none⟩) (sLen+n) newCap) { w1 with heap:=w1.heap.push (.cells (vlo.toArray++vln.toArray++bW zv.cells (newCap - (sLen+n))) e') }:=by
 let q:Go.Question:=.appendCap (sLen+n) sCap e'
 refine⟨q.cut (w.tape w.drawn q),{ w with drawn:=w.drawn+1 },⟨rfl,rfl,rfl,rfl,eu _⟩,Nat.le_add_right _ _,?_⟩
 unfold bM
 have hnf : ¬ (sLen+n<=sCap):=by omega
 have h1:sLen+n<=17592186044416:=by
  have:(sLen+n)*1<=(sLen+n)*(by'+1):=jW _ (by omega)
  omega
 have hmax : ¬ (((sLen+n:Nat):Int) > aw.max/\(false=true\/by'=0)):=by
  rintro⟨hh,_⟩
  have:aw.max=9223372036854775807:=by decide
  rw[this] at hh
  omega
 have hnx : ¬ (fk (sLen+n) sCap*by' > 2 ^ 48):=by
  have hle:=zag (sLen+n) sCap hgrow
  have h2:fk (sLen+n) sCap*by'<=(4*(sLen+n)+1024)*by':=bw _ hle
  have h3:(sLen+n)*by'<=17592186044416:=aJ (jW _ (eu _)) hb1
  rw[bo,Nat.mul_assoc] at h2
  omega
 simp only[bT,cA,cM]
 obtain⟨ty2,hu3,hz0⟩:=hu2
 cases ty2 <;> first | (cases hz0;done) | skip
 all_goals (
  simp only[ax,run_underlying hu,run_underlying hu3,al,hsz,aK,hl2 w,jx,if_true,if_neg hnf,aP,if_false,z1g hi,hby]
  rw[if_neg (by simpa using hmax)]
  simp only[ax,ip,aK,z1g hi,hby,if_neg hnx,al]
  have hforced:(pM (sLen+n) sCap e').forced=false:=rfl
  simp only[mg,hforced,aP,if_false,al,jw]
  rw[ho' { w with drawn:=w.drawn+1 } rfl]
  simp only[al,ax]
  rw[hn' { w with drawn:=w.drawn+1 } rfl]
  simp only[al,ax,hz,z1i,aK]
  rfl)

end
end Dv

namespace Dv
open Go (Value Program World Act Oper Operand Code)

section
variable{P:Program}{E:Env}{CL:y1t}{φ : Phi}{τ : Phi}{B:Nat}{ρ : Rho}{H:HS}{os:List Obj}{w:World}

theorem zcq{sz:Nat}{els:List D}(h:y2u sz els=true):∀ x,x ∈ els->x.cellsL.length=sz/\x.storable=true:=fun x hx=>by
 have:=aD.1 h x hx
 simp at this;exact⟨this.2,this.1⟩

theorem zcp{sz:Nat}{ag:Bool}{sp:y13}{els:List D}(h:y2u sz els=true):y12 os sz ag (.imm sp els)=some els:=by
 simp only[y12]
 simp only[y2u] at h
 rw[if_pos h]

theorem zje{t t2 ty e' e:Nat}{base:Option cB}{sCap:Nat}{x:D}{vy:Value}{vln:List Value}{els new:List D}(S:SR CL φ B ρ H w.heap os)(Te:TOk P E τ e' e)
  (hu:P.underlying t=some (.slice e')) (hu2:y90 P t2) (hl2:y9s P vy new.length) (hx:Rep φ ρ H w.heap (.slice base els.length sCap) x)
  (lx:y12 os (E.ty e).size (E.ty e).ag x=some els) (n2:yt φ ρ H w.heap vln (yi new)) (n3:∀ x,x ∈ new->x.cellsL.length=(E.ty e).size/\x.storable=true)
  (hn':∀ w1:World,w1.heap=w.heap->(aM (E.ty e).size new.length vy).run P w1=.ok vln.toArray w1) (hgrow:sCap<els.length+new.length)
  (hb1:(els.length+new.length)*((E.ty e).bytes+1)<=yg) (hb2:(E.ty e).bytes<=65536) (hz:(y22 E e).isSome=true) :
  ∃(arr:Array Value) (newCap:Nat) (w1:World),(w1.heap=w.heap/\y1n w w1)/\els.length+new.length<=newCap/\arr.size=newCap*(E.ty e).size /\
   yt φ ρ H w.heap (arr.toList.take (yi (els++new)).length) (yi (els++new)) /\
   (bM #[t,t2] ty #[.slice base els.length sCap,vy]).run P w =
    .ok (.slice (some ⟨w.heap.size,0,none⟩) (els.length+new.length) newCap) { w1 with heap:=w1.heap.push (.cells arr e') }:=by
 obtain⟨z,hzz⟩:=f9.1 hz
 obtain⟨inf,hi,hsz,hby,_⟩:=Te.info
 obtain⟨_,_,vlo,eo,o2,o3,o4⟩:=z2n (P:=P) S hx lx
 obtain⟨zv,e1,e2,_,e4,_⟩:=z2x (w:=w) (φ:=φ) (ρ:=ρ) (H:=H) Te hzz
 have hz':∀ w1:World,(cV e').run P w1=.ok zv w1:=by
  intro w1
  have h1:(cV e').run P w=.ok zv w:=e1
  unfold cV at h1 ⊢
  simp only[ax,z1g hi,al] at h1 ⊢
  cases hzero:inf.zero with
  |none=>simp[hzero] at h1
  |some q=>simp[hzero] at h1 ⊢;exact h1
 have lo:vlo.length=els.length*(E.ty e).size:=by rw[o2.1,zo fun x hx=>(o3 x hx).1]
 have ln:vln.length=new.length*(E.ty e).size:=by rw[n2.1,zo fun x hx=>(n3 x hx).1]
 have ho':∀ w1:World,w1.heap=w.heap->(aM (E.ty e).size els.length (.slice base els.length sCap)).run P w1=.ok vlo.toArray w1:=fun w1 he=>by
  rw[o4 _ (ai _) w1 he,<- lo,aS]
 obtain⟨newCap,w1,he,hle,hrun⟩:=z59 (ty:=ty) (base:=base) (sCap:=sCap) hu hu2 hl2 Te.size hi hby hz' hgrow hb1 hb2 ho' hn'
 have hzs:zv.cells.size=(E.ty e).size:=by have:=e2.1;rw[e4] at this;simpa using this
 have hfl:(yi (els++new)).length=(els.length+new.length)*(E.ty e).size:=by
  rw[z19,ak,<- o2.1,<- n2.1,lo,ln,bo]
 refine⟨vlo.toArray++vln.toArray++bW zv.cells (newCap - (els.length+new.length)),newCap,w1,he,hle,?_,?_,hrun⟩
 ·simp only[gx,bL,bW,lr,kL,lo,ln,hzs]
  rw[<- bo,<- bo]
  congr 1
  omega
 ·have:(vlo.toArray++vln.toArray++bW zv.cells (newCap - (els.length+new.length))).toList.take (yi (els++new)).length=vlo++vln:=by
   simp only[cu,a8]
   rw[<- a8,bG (by rw[hfl];simp[lo,ln,bo]),bg (by rw[hfl];simp[lo,ln,bo])]
  rw[this,z19]
  exact o2.append n2

end
end Dv

namespace Dv
open Go (Value Program World Act Oper Operand Code)

section
variable{P:Program}{E:Env}{CL:y1t}{φ : Phi}{τ : Phi}{B:Nat}{ρ : Rho}{H:HS}{os:List Obj}{w:World}

theorem SR.dead_rho(S:SR CL φ B ρ H w.heap os){id:Nat}(f:y44 ρ os id){v:Value}{d:D}(hv:Rep φ ρ H w.heap v d)(bk:Bk):Rep φ (upd ρ id bk) H w.heap v d:=
 hv.mono (f.ext bk H w.heap)

theorem zaa(S:SR CL φ B ρ H w.heap os){id:Nat}(f:y44 ρ os id)(used sz:Nat):y47 CL φ B ρ H w.heap os (upd ρ id .virt) H w.heap (y1y os id (.tok used sz)):=
 ⟨f.ext .virt H w.heap,S.add f (.inl rfl) (fun b c e=>by cases e) (fun b c e=>by cases e) (fun cs b c e=>by cases e),ai _,fun _ _ _=>rfl,fun _ _ h=>.inl h,y48.refl _,z8l f rfl,rbV,hnS⟩

theorem zl5(S:SR CL φ B ρ H w.heap os){id k b cap used sz:Nat}(f:y44 ρ os id)(hk:os[k]? = some (.tok used sz))(hr : ρ k=some (.blk b cap)) :
  y47 CL φ B ρ H w.heap os (upd ρ id (.blk b cap)) H w.heap (y1y (os.set k .dead) id (.tok used sz)):=by
 obtain⟨bk,h1,h2⟩:=S.dom k _ hk rfl
 rw[hr] at h1;simp at h1;subst h1
 rcases h2 with h2 | ⟨b',cap',e,hT⟩
 ·cases h2
 simp at e;obtain⟨rfl,rfl⟩:=e
 have own:=S.own k _ b cap hk rfl hr
 refine y47.of_kill (k:=k) ⟨f.ext _ H w.heap,(S.kill k).add f.kill (.inr ⟨b,cap,rfl,hT⟩) (fun b c e=>?_) (fun b c e i o' c' h1 l1 r1=>?_) (fun cs b c e=>by cases e),ai _,fun _ _ _=>rfl,fun _ _ h=>.inl h,y48.refl _,z8l f.kill rfl,rbU (.inl ⟨k,cap,hr⟩),hnS⟩
 ·simp at e;obtain⟨rfl,rfl⟩:=e;exact own
 ·simp at e;obtain⟨rfl,rfl⟩:=e
  rw[bn] at h1
  split at h1
  ·split at h1
   ·simp at h1;subst h1;simp[Obj.live] at l1
   ·simp at h1
  ·rename_i hne
   exact hne (S.inj k i _ o' b cap c' hk rfl h1 l1 hr r1)

theorem z5k{hp:y1q}{v:Value}{sp:y13}{els:List D}(h:Rep φ ρ H hp v (.imm sp els)):∃ a cap,v=.slice a els.length cap/\els.length<=cap/\(sp=.exact->cap=els.length) /\
  (∀ k,sp=.tok k->(∃ b',ρ k=some (.blk b' cap)/\a=some ⟨b',0,none⟩)\/(ρ k=some .virt/\cap=els.length)):=by
 cases h with
 |imm _ _ a cap b off su vs hu hcap hex htok ha hH hr=>exact⟨a,cap,rfl,hcap,hex,htok⟩

theorem z60{hp:y1q}{v:Value}{sp sp':y13}{els:List D}{a:Option cB}{cap:Nat}(hv:v=.slice a els.length cap)(h:Rep φ ρ H hp v (.imm sp els))(hex:sp'=.exact->cap=els.length)
  (htok:∀ k,sp'=.tok k->(∃ b',ρ k=some (.blk b' cap)/\a=some ⟨b',0,none⟩)\/(ρ k=some .virt/\cap=els.length)):Rep φ ρ H hp v (.imm sp' els):=by
 cases h with
 |imm _ _ a' cap' b off su vs hu hcap hex' htok' ha hH hr=>
  simp at hv
  obtain⟨rfl,rfl⟩:=hv
  exact .imm sp' els a' cap' b off su vs hu hcap hex htok ha hH hr

theorem z54{hp:y1q}{vl:List Value}{ds:List D}(h:yt φ ρ H hp vl ds)(ha:∀ d,d ∈ ds->d.atom=true):∀ v,v ∈ vl->v.oneCell'=true:=by
 intro v hv
 obtain⟨j,hj,e⟩:=ig hv
 have hj':j<ds.length:=h.1 ▸ hj
 exact(h.2 j v ds[j] (by rw[ae hj,e]) (ae hj')).one (ha _ (aC hj')) |>.1

theorem zfh{w':World}(S:SR CL φ B ρ H w.heap os){id k b cap sz:Nat}(f:y44 ρ os id){els new:List D}{vln:List Value}{arr:Array Value}{el:Nat}
  (hk:os[k]? = some (.tok (els.length*sz) sz)) (hr : ρ k=some (.blk b cap)) (hb:w.heap[b]? = some (.cells arr el (0,0))) (hsz:arr.size=cap*sz) (y1d:∀ o,els.length*sz<=o -> ¬ H b o)
  (hle:els.length+new.length<=cap) (hn:yt φ ρ H w.heap vln (yi new)) (hnu:∀ x,x ∈ new->x.cellsL.length=sz/\x.storable=true) (hxu:∀ x,x ∈ els->x.cellsL.length=sz/\x.storable=true)
  (hx:Rep φ ρ H w.heap (.slice (some ⟨b,0,none⟩) els.length cap) (.imm (.tok k) els))
  (hw:y8y w w' b (y6q arr.toList (els.length*sz) vln).toArray el) :
  ∃ ρ' H',y47 CL φ B ρ H w.heap os ρ' H' w'.heap (y1y (os.set k .dead) id (.tok ((els.length+new.length)*sz) sz)) /\
   Rep φ ρ' H' w'.heap (.slice (some ⟨b,0,none⟩) (els.length+new.length) cap) (.imm (.tok id) (els++new)):=by
 have own:=S.own k _ b cap hk rfl hr
 have lx:(yi els).length=els.length*sz:=zo fun x hx=>(hxu x hx).1
 have ln:(yi new).length=new.length*sz:=zo fun x hx=>(hnu x hx).1
 have hmul:els.length*sz+new.length*sz<=cap*sz:=by rw[<- bo];exact bw _ hle
 have hlv:vln.length=new.length*sz:=by rw[hn.1,ln]
 -- the new marks
 let H':HS:=fun b' o=>H b' o\/(b'=b/\els.length*sz<=o/\o<(els.length+new.length)*sz)
 have keep:∀ b' o,H b' o->cellOf w'.heap b' o=cellOf w.heap b' o:=by
  intro b' o hh
  unfold cellOf
  by_cases e:b'=b
  ·subst e
   rw[hw.at_,hb]
   have ho:o<els.length*sz:=iT fun h=>y1d o h hh
   simp only[bT]
   rw[z1r (.inl ho)]
   simp
  ·rw[hw.other b' e]
 have x1:Ext ρ ρ H H' w.heap w'.heap:=⟨fun _ _ h=>h,fun _ _ h=>.inl h,keep⟩
 -- the others stand
 have S1:SR CL φ B ρ H' w'.heap (os.set k .dead):=by
  have S0:=S.kill k
  have hne:∀(i:Nat) o c,(os.set k .dead)[i]? = some o->o.live=true -> ρ i ≠ some (.blk b c):=by
   intro i o c h1 l1 r1
   rw[bn] at h1
   split at h1
   ·split at h1
    ·simp at h1;subst h1;simp[Obj.live] at l1
    ·simp at h1
   ·rename_i hne
    exact hne (S.inj k i _ o b cap c hk rfl h1 l1 hr r1)
  exact {
   dom:=fun i o h1 l1=>by
    obtain⟨bk,r1,h2⟩:=S0.dom i o h1 l1
    refine⟨bk,r1,h2.mono x1 (fun b' c e=>hw.other b' (fun e'=>hne i o c h1 l1 (by rw[r1,e,e']))) (fun b' c u s e _ j _ hh=>?_)⟩
    rcases hh with hh | ⟨rfl,_⟩
    ·exact hh
    ·exact absurd (by rw[r1,e]) (hne i o c h1 l1)
   lt:=S0.lt
   inj:=S0.inj
   own:=fun i o b' c h1 l1 r1=>by rw[hw.size];exact S0.own i o b' c h1 l1 r1
   mutH:=fun i cs b' c o h1 r1 hh=>by
    rcases hh with hh | ⟨rfl,_⟩
    ·exact S0.mutH i cs b' c o h1 r1 hh
    ·exact hne i _ c h1 rfl r1
   hb:=S.hb.ext x1 fun b' o hh=>by
    rw[hw.size]
    rcases hh with hh | ⟨rfl,_⟩
    ·exact S.hb b' o hh
    ·exact own.2
   hB:=by rw[hw.size];exact S.hB }
 have x2:=f.kill (k:=k) |>.ext (.blk b cap) H' w'.heap
 have hadd:(els++new).length=els.length+new.length:=by simp
 have x3:=x1.trans x2
 have hS2:SR CL φ B (upd ρ id (.blk b cap)) H' w'.heap (y1y (os.set k .dead) id (.tok ((els.length+new.length)*sz) sz)):=by
  refine S1.add f.kill ?_ ?_ ?_ (fun cs b c e=>by cases e)
  ·refine .inr ⟨b,cap,rfl,_,el,hw.at_,by simp[z1q,hsz],by simp[z1q,hsz];rw[bo];exact hmul,fun o ho hh=>?_⟩
   rcases hh with hh | ⟨_,_,hh⟩
   ·exact y1d o (by rw[bo] at ho;omega) hh
   ·omega
  ·intro b' c e;simp at e;obtain⟨rfl,rfl⟩:=e;rw[hw.size];exact own
  ·intro b' c e i o' c' h1 l1 r1;simp at e;obtain⟨rfl,rfl⟩:=e
   rw[bn] at h1
   split at h1
   ·split at h1
    ·simp at h1;subst h1;simp[Obj.live] at l1
    ·simp at h1
   ·rename_i hne
    exact hne (S.inj k i _ o' b cap c' hk rfl h1 l1 hr r1)
 refine⟨upd ρ id (.blk b cap),H',⟨x3,hS2,by rw[hw.size];exact ai _,fun b' hb' hn'=>?_,fun b' o hh=>?_,y48.at hw.at_ (by intro arr el fr h;cases h;rfl) hw.other,z8l f.kill rfl,rbU (.inl ⟨k,cap,hr⟩),fun b' o hh=>hh.elim .inl fun e=>.inr (.inl ⟨k,cap,by rw[e.1];exact hr⟩)⟩,?_⟩
 ·refine hw.other b' (fun e=>?_)
  subst e
  exact hn' k _ cap hk rfl hr
 ·rcases hh with hh | ⟨rfl,_⟩
  ·exact .inl hh
  ·exact .inr own.1
 ·have y5r:∀ j,j<(yi els).length->∃ v,H b j/\arr[j]? = some v /\ ∀ d,(yi els)[j]? = some d->Rep φ ρ H w.heap v d:=by
   intro j hj
   obtain⟨a,cap',b',off,su,e,_,ha,_,vl,hrl,hcl⟩:=z7k hx
   have hne:els ≠ []:=by rintro rfl;simp[yi] at hj
   simp at e
   have:=ha hne
   rw[<- e.1] at this
   simp at this
   obtain⟨rfl,rfl⟩:=this
   obtain⟨d,hd⟩:∃ d,(yi els)[j]? = some d:=⟨_,ae hj⟩
   obtain⟨v,hv,hrr⟩:=hrl.get hd
   have:=hcl j v hv
   rw[bA] at this
   refine⟨v,this.1,?_,fun d' hd'=>by rw[hd] at hd';simp at hd';subst hd';exact hrr⟩
   have h2:=this.2
   simp only[cellOf,hb] at h2
   exact h2
  rw[<- hadd]
  refine .imm (.tok id) (els++new) _ cap b 0 sz (fun j=>(y6q arr.toList (els.length*sz) vln).getD j bj) (fun x hx'=>?_) (by rw[hadd];exact hle) (fun h=>by cases h) (fun k' hk'=>?_) (fun _=>rfl) (fun j hj=>?_) (fun j d hd=>?_)
  ·rcases aN.1 hx' with h | h
   ·exact hxu x h
   ·exact hnu x h
  ·simp at hk';subst hk';exact .inl ⟨b,by simp[upd],rfl⟩
  ·rw[z19,ak,lx,ln] at hj
   have hja:j<arr.size:=by rw[hsz];omega
   rw[bA]
   constructor
   ·by_cases h1:j<els.length*sz
    ·obtain⟨v,h2,_⟩:=y5r j (by rw[lx];exact h1)
     exact .inl h2
    ·exact .inr ⟨rfl,by omega,by rw[bo];exact hj⟩
   ·have hjl:j<(y6q arr.toList (els.length*sz) vln).length:=by rw[z1q];simpa using hja
    simp only[cellOf,hw.at_,bT,aj,ae hjl,cC]
  ·rw[z19] at hd
   by_cases h1:j<(yi els).length
   ·rw[aB h1] at hd
    obtain⟨v,_,h3,h4⟩:=y5r j h1
    rw[aj,z1r (.inl (by rw[<- lx];exact h1))]
    simp[h3]
    exact(h4 d hd).mono x3
   ·have h1:(yi els).length<=j:=by omega
    rw[aF h1] at hd
    obtain⟨v,h3,h4⟩:=hn.get hd
    have hjv:j - (yi els).length<vln.length:=(ac.1 h3).1
    have h5:=z3j (cs:=arr.toList) (off:=els.length*sz) (vs:=vln) (j:=j - (yi els).length) (by simp[hsz,hlv];omega) hjv
    rw[show els.length*sz+(j - (yi els).length)=j from by rw[<- lx];omega] at h5
    rw[aj,h5,h3]
    exact h4.mono x3

theorem zbn(TA:y3d P E τ){t t2 ty id e e':Nat}{vx vy:Value}{sp:y13}{els new:List D}{vln:List Value}{ef:Ef}(S:SR CL φ B ρ H w.heap os)(f:y44 ρ os id)
  (hu:P.underlying t=some (.slice e')) (Te:TOk P E τ e' e) (hu2:y90 P t2) (hl2:y9s P vy new.length)
  (hn:yt φ ρ H w.heap vln (yi new)) (hnu:∀ x,x ∈ new->x.cellsL.length=(E.ty e).size/\x.storable=true)
  (hrd:∀ w1:World,w1.heap=w.heap->(aM (E.ty e).size new.length vy).run P w1=.ok vln.toArray w1)
  (hx:Rep φ ρ H w.heap vx (.imm sp els)) (h:y2m E os id e sp els new=some ef) :
  y3w CL φ B ρ H os w ((bM #[t,t2] ty #[vx,vy]).run P w) ef.d (yh os id ef):=by
 unfold y2m at h
 split at h
 ·rename_i hc
  obtain⟨hb1,hb2,hz,hfit⟩:=hc
  have hxu:=zcq hfit
  obtain⟨a,cap,rfl,hcap,hex,htok⟩:=z5k hx
  have lx:(yi els).length=els.length*(E.ty e).size:=zo fun x hx=>(hxu x hx).1
  have ln:(yi new).length=new.length*(E.ty e).size:=zo fun x hx=>(hnu x hx).1
  have hlv:vln.length=new.length*(E.ty e).size:=by rw[hn.1,ln]
  have hn1:(aM (E.ty e).size new.length (vy)).run P w=.ok vln.toArray w:=by
   exact hrd w rfl
  have hadd:(els++new).length=els.length+new.length:=by simp
  have hunif:∀ x,x ∈ els++new->x.cellsL.length=(E.ty e).size/\x.storable=true:=fun x hx'=>by
   rcases aN.1 hx' with h | h
   ·exact hxu x h
   ·exact hnu x h
  -- a new array
  have grows:∀(os0:List Obj),cap<els.length+new.length->SR CL φ B ρ H w.heap os0->y44 ρ os0 id ->
    (∀ ρ' H' hp' os',y47 CL φ B ρ H w.heap os0 ρ' H' hp' os'->y47 CL φ B ρ H w.heap os ρ' H' hp' os') ->
    y3w CL φ B ρ H os w ((bM #[t,t2] ty #[.slice a els.length cap,vy]).run P w) (.imm (.tok id) (els++new)) (y1y os0 id (.tok ((els.length+new.length)*(E.ty e).size) (E.ty e).size)):=by
   intro os0 hg S0 f0 back
   obtain⟨arr,newCap,w1,⟨he,hsl⟩,hle,hsz,hra,hrun⟩:=zje (ty:=ty) S Te hu hu2 hl2 hx (zcp hfit) hn hnu hrd hg hb1 hb2 hz
   obtain⟨ρ',H',hp,hr⟩:=ziw he S0 f0 (el:=e') hra hsz hunif (by rw[hadd];exact hle)
   rw[hadd] at hp hr
   exact⟨_,_,ρ',H',hrun,⟨back _ _ _ _ hp,hsl.os,hsl.tape,hsl.out,hsl.dr⟩,hr⟩
  -- nothing to append
  have same:new=[]->(bM #[t,t2] ty #[.slice a els.length cap,vy]).run P w=.ok (.slice a (els.length+new.length) cap) w:=by
   intro h0
   subst h0
   have:vln=[]:=by simpa using hlv
   subst this
   exact z1s hu hu2 hl2 Te.size hn1 (by simpa using hcap) (by cases a <;> simp[dG])
  split at h
  ·-- exactly full
   simp at h;subst h
   have hcl:=hex rfl
   by_cases h0:new=[]
   ·subst h0
    simp only[bZ,ba,cU,yh] at same ⊢
    refine⟨_,w,upd ρ id .virt,H,same trivial,⟨zaa S f _ _,y1n.refl _⟩,?_⟩
    refine z60 rfl (S.dead_rho f hx .virt) (fun h=>by cases h) (fun k hk'=>?_)
    simp at hk';subst hk'
    exact .inr ⟨by simp[upd],hcl⟩
   ·have hpos:0<new.length:=fj.2 h0
    exact grows os (by omega) S f (fun _ _ _ _ h=>h)
  ·rename_i k
   split at h
   ·rename_i used sz hos
    split at h
    ·rename_i hus
     obtain⟨rfl,rfl⟩:=hus
     simp at h;subst h
     simp only[yh]
     obtain⟨bk,hrk,hrel⟩:=S.dom k _ hos rfl
     by_cases h0:new=[]
     ·subst h0
      simp only[bZ,ba,cU] at same ⊢
      rcases htok k rfl with⟨b,hb,rfl⟩ | ⟨hb,hcl⟩
      ·refine⟨_,w,upd ρ id (.blk b cap),H,same trivial,⟨zl5 S f hos hb,y1n.refl _⟩,?_⟩
       refine z60 rfl (S.dead_rho f hx _) (fun h=>by cases h) (fun k' hk'=>?_)
       simp at hk';subst hk'
       exact .inl ⟨b,by simp[upd],rfl⟩
      ·refine⟨_,w,upd ρ id .virt,H,same trivial,⟨?_,y1n.refl _⟩,?_⟩
       ·have:=zaa (w:=w) (S.kill k) f.kill (els.length*(E.ty e).size) (E.ty e).size
        exact this.of_kill
       ·refine z60 rfl (S.dead_rho f hx .virt) (fun h=>by cases h) (fun k' hk'=>?_)
        simp at hk';subst hk'
        exact .inr ⟨by simp[upd],hcl⟩
     ·have hpos:0<new.length:=fj.2 h0
      by_cases hg:cap<els.length+new.length
      ·exact grows (os.set k .dead) hg (S.kill k) f.kill (fun _ _ _ _ h=>h.of_kill)
      ·-- there is room
       rcases htok k rfl with⟨b,hb,rfl⟩ | ⟨hb,hcl⟩
       ·rw[hrk] at hb;simp at hb;subst hb
        rcases hrel with hrel | ⟨b',cap',e1,arr,el,a1,a2',a3,a4⟩
        ·cases hrel
        simp at e1;obtain⟨rfl,rfl⟩:=e1
        have hsum:els.length*(E.ty e).size+new.length*(E.ty e).size<=cap*(E.ty e).size:=by rw[<- bo];exact bw _ (by omega)
        obtain⟨w',s1,s2⟩:=z2s (P:=P) (b:=b) (el:=el) vln (els.length*(E.ty e).size) 0 arr w a1 (by rw[a2',hlv];simpa using hsum) (z54 hn (z1m fun x hx'=>(hnu x hx').2))
        have hrun:=z1s (ty:=ty) (sLen:=els.length) (n:=new.length) (sCap:=cap) (base:=some ⟨b,0,none⟩) (w':=w') hu hu2 hl2 Te.size hn1 (by omega) (by simp only[z1h,bA];exact s1)
        obtain⟨ρ',H',hp,hr⟩:=zfh (id:=id) (k:=k) S f hos hrk a1 a2' a4 (by omega) hn hnu hxu hx s2
        exact⟨_,w',ρ',H',hrun,⟨hp,s2.still⟩,hr⟩
       ·omega
    ·simp at h
   ·simp at h
  ·simp at h
 ·simp at h

theorem zqo{s:ByteArray}{ρ : Rho}{H:HS}{hp:y1q}:yt φ ρ H hp (s.data.toList.map fun b=>Value.int .u8 b.toNat) (yi (s.data.toList.map ya)):=by
 have e:∀ l:List UInt8,yi (l.map ya)=l.map ya:=fun l=>by
  induction l with
  |nil=>rfl
  |cons x r ih=>rw[av,zy,ih];rfl
 rw[e]
 refine⟨by simp,fun j v d hv hd=>?_⟩
 rw[bK] at hv hd
 cases hb:s.data.toList[j]? with
 |none=>rw[hb] at hv;simp at hv
 |some b=>
  rw[hb] at hv hd
  simp only[aq,aa] at hv hd
  subst hv hd
  exact .int _ _

theorem zib(TA:y3d P E τ){t c t2 c2 ty id:Nat}{vx vy:Value}{x y:D}{ef:Ef}(T:TOk P E τ t c)(T2:TOk P E τ t2 c2)(S:SR CL φ B ρ H w.heap os)(f:y44 ρ os id)
  (hx:Rep φ ρ H w.heap vx x) (hy:Rep φ ρ H w.heap vy y) (h:y32 E os id c c2 x y=some ef) :
  y3w CL φ B ρ H os w ((bM #[t,t2] ty #[vx,vy]).run P w) ef.d (yh os id ef):=by
 unfold y32 at h
 split at h
 ·rename_i e e2 sp els hk hk2
  obtain⟨e',hu,he'⟩:=T.slice hk
  obtain⟨e2',hu2,_⟩:=T2.slice hk2
  split at h
  ·rename_i new hnew
   obtain⟨a2,cap2,vln,rfl,hn,hnu,hrd⟩:=z2n (P:=P) S hy hnew
   have ln:(yi new).length=new.length*(E.ty e).size:=zo fun x hx=>(hnu x hx).1
   have hlv:vln.length=new.length*(E.ty e).size:=by rw[hn.1,ln]
   exact zbn TA S f hu (TA _ _ he') (z2l hu2) z2o hn hnu (fun w1 he=>by rw[hrd _ (ai _) w1 he,<- hlv,aS]) hx h
  ·simp at h
 ·rename_i e sp els hk hk2
  obtain⟨e',hu,he'⟩:=T.slice hk
  have hu2:=T2.und;rw[hk2] at hu2
  split at h
  ·rename_i s
   split at h
   ·rename_i hc
    obtain⟨s0,rfl,rfl⟩:=hy.strv
    refine zbn TA S f hu (TA _ _ he') (zoo hu2) (fun w1=>by simp[fd]) zqo (fun x hx'=>?_) (fun w1 he=>?_) hx h
    ·obtain⟨b,_,rfl⟩:=aT.1 hx'
     exact⟨hc.1,rfl⟩
    ·simp[aM];exact Array.toList_inj.1 (by simp)
   ·simp at h
  ·simp at h
 ·simp at h

end
end Dv

namespace Dv
open Go (Value Program World Act Oper Operand Code)

section
variable{P:Program}{E:Env}{CL:y1t}{φ : Phi}{τ : Phi}{B:Nat}{ρ : Rho}{H:HS}{os:List Obj}{w:World}

theorem SR.free(S:SR CL φ B ρ H w.heap os):y44 ρ os os.length:=
 ⟨by cases h : ρ os.length with
   |none=>rfl
   |some bk=>exact absurd (S.lt _ _ h) (dF _),.inl rfl⟩

theorem zab(S:SR CL φ B ρ H w.heap os){id:Nat}(f:y44 ρ os id){arr:Array Value}{el:Nat}{cs:List D}(h:yt φ ρ H w.heap (arr.toList.take cs.length) cs)(hle:cs.length<=arr.size)(ha:∀ d,d ∈ cs->d.atom=true) :
  y47 CL φ B ρ H w.heap os (upd ρ id (.blk w.heap.size arr.size)) H (w.heap.push (.cells arr el (0,0))) (y1y os id (.cells cs)):=by
 have g:=z5l H w.heap (.cells arr el (0,0))
 have S1:=S.grew g
 have x:=(g.ext ρ S.hb).trans (f.ext (.blk w.heap.size arr.size) H (w.heap.push (.cells arr el (0,0))))
 refine⟨x,S1.add f ?_ ?_ ?_ ?_,g.size,fun b hb _=>g.old b hb,fun _ _ h=>.inl h,y48.push _ (by intro arr el fr h;cases h;rfl),z8l f rfl,rbU (.inr (ai _)),hnS⟩
 ·refine⟨_,_,rfl,arr,el,z4r _ _,rfl,hle,fun j v d hv hd=>?_,ha⟩
  have hj:j<cs.length:=(ac.1 hd).1
  exact(h.2 j v d (by rw[aU,if_pos hj];simpa using hv) hd).mono x
 ·intro b c e;simp at e;obtain⟨rfl,rfl⟩:=e;exact⟨S.hB,by simp⟩
 ·intro b c e i o' c' h1 l1 r1;simp at e;obtain⟨rfl,rfl⟩:=e
  exact absurd (S.own i o' _ c' h1 l1 r1).2 (dF _)
 ·intro cs' b c _ e j hh;simp at e;obtain⟨rfl,rfl⟩:=e
  exact absurd (S.hb _ _ hh) (dF _)

theorem SR.write(S:SR CL φ B ρ H w.heap os){w':World}{k b c el:Nat}{cs cs':List D}{arr':Array Value}(hk:os[k]? = some (.cells cs))(hr : ρ k=some (.blk b c))(hw:y8y w w' b arr' el)(hsz:arr'.size=c)
  (hle:cs'.length<=arr'.size) (hrep:∀(j:Nat) (v:Value) (d:D),arr'[j]? = some v->cs'[j]? = some d->Rep φ ρ H w.heap v d) (hat:∀ d,d ∈ cs'->d.atom=true) :
  y47 CL φ B ρ H w.heap os ρ H w'.heap (os.set k (.cells cs')):=by
 have own:=S.own k _ b c hk rfl hr
 have hlt:=(ac.1 hk).1
 have x:Ext ρ ρ H H w.heap w'.heap:=⟨fun _ _ h=>h,fun _ _ h=>h,fun b' o hh=>by
  unfold cellOf
  rw[hw.other b' (fun e=>S.mutH k cs b c o hk hr (e ▸ hh))]⟩
 have get:∀(i:Nat) o,(os.set k (.cells cs'))[i]? = some o->(i=k/\o=.cells cs')\/(i ≠ k/\os[i]? = some o):=by
  intro i o h
  rw[bn] at h
  split at h
  ·rename_i e;subst e;simp[hlt] at h;exact .inl ⟨rfl,h.symm⟩
  ·rename_i e;exact .inr ⟨fun e'=>e e'.symm,h⟩
 have hne:∀(i:Nat) o c',i ≠ k->os[i]? = some o->o.live=true -> ρ i ≠ some (.blk b c'):=fun i o c' hi h l r=>
  hi (S.inj i k o _ b c' c h l hk rfl r hr)
 refine⟨x,?_,by rw[hw.size];exact ai _,fun b' _ hn=>hw.other b' (fun e=>?_),fun _ _ h=>.inl h,y48.at hw.at_ (by intro arr el fr h;cases h;rfl) hw.other,fun _ _ h=>.inl h,rbS,hnS⟩
 ·exact {
   dom:=fun i o h l=>by
    rcases get i o h with⟨rfl,rfl⟩ | ⟨hi,h⟩
    ·exact⟨_,hr,_,_,rfl,arr',el,hw.at_,hsz,hle,fun j v d hv hd=>(hrep j v d hv hd).mono x,hat⟩
    ·obtain⟨bk,r,h2⟩:=S.dom i o h l
     exact⟨bk,r,h2.mono x (fun b' c' e=>hw.other b' (fun e'=>hne i o c' hi h l (by rw[r,e,e']))) (fun _ _ _ _ _ _ _ _ hh=>hh)⟩
   lt:=fun i bk h=>by simpa using S.lt i bk h
   inj:=fun i i' o o' b1 c1 c2 h l h' l' r r'=>by
    rcases get i o h with⟨e,e1⟩ | ⟨hi,g⟩ <;> rcases get i' o' h' with⟨e',e2⟩ | ⟨hi',g'⟩
    ·rw[e,e']
    ·rw[e] at r ⊢;exact S.inj k i' _ o' b1 c1 c2 hk rfl g' l' r r'
    ·rw[e'] at r' ⊢;exact S.inj i k o _ b1 c1 c2 g l hk rfl r r'
    ·exact S.inj i i' o o' b1 c1 c2 g l g' l' r r'
   own:=fun i o b1 c1 h l r=>by
    rw[hw.size]
    rcases get i o h with⟨rfl,rfl⟩ | ⟨hi,h⟩
    ·exact S.own i _ b1 c1 hk rfl r
    ·exact S.own i o b1 c1 h l r
   mutH:=fun i cs1 b1 c1 o h r=>by
    rcases get i _ h with⟨rfl,h⟩ | ⟨hi,h⟩
    ·exact S.mutH i cs b1 c1 o hk r
    ·exact S.mutH i cs1 b1 c1 o h r
   hb:=S.hb.ext x fun b1 o h=>by rw[hw.size];exact S.hb b1 o h
   hB:=by rw[hw.size];exact S.hB }
 ·subst e;exact hn k _ c hk rfl hr

theorem z6a{cs:List D}:∀{off:Nat} {vs:List D},(∀ d,d ∈ cs->d.atom=true)->(∀ d,d ∈ vs->d.atom=true)->∀ d,d ∈ setCells cs off vs->d.atom=true
 |off,[],h,_=>h
 |off,v::vs,h,h'=>by
  simp only[setCells]
  exact z6a (fun d hd=>by
   rcases iQ hd with hd | rfl
   ·exact h d hd
   ·exact h' d (by simp)) (fun d hd=>h' d (by simp[hd]))

theorem z6e(S:SR CL φ B ρ H w.heap os){k b c off:Nat}{cs ds:List D}{vs:List Value}(hk:os[k]? = some (.cells cs))(hr : ρ k=some (.blk b c))(hv:yt φ ρ H w.heap vs ds)(hat:∀ d,d ∈ ds->d.atom=true)(hle:off+ds.length<=cs.length) :
  ∃ w',(dG ⟨b,off,none⟩ vs).run P w=.ok () w'/\(y47 CL φ B ρ H w.heap os ρ H w'.heap (os.set k (.cells (setCells cs off ds)))/\y1n w w'):=by
 obtain⟨arr,el,r1,r2,r3,r4,r5⟩:=S.row hr (by simp[yz,hk]:yz os k=some cs)
 have hlv:vs.length=ds.length:=hv.1
 obtain⟨w',s1,s2⟩:=z2s (P:=P) (b:=b) (el:=el) vs off 0 arr w r1 (by omega) (z54 hv hat)
 refine⟨w',s1,S.write hk hr s2 (by simp[z1q,r2]) (by simp[z1q,z3k];omega) (fun j v d h1 h2=>?_) (z6a r5 hat),s2.still⟩
 have h0:yt φ ρ H w.heap (arr.toList.take cs.length) cs:=⟨by simp;omega,fun j v d hv hd=>by
  rw[aU] at hv
  split at hv
  ·exact r4 j v d (by simpa using hv) hd
  ·simp at hv⟩
 have h3:=h0.setCells off hv
 have hj:j<cs.length:=by have:=(ac.1 h2).1;rwa [z3k] at this
 refine h3.2 j v d ?_ h2
 -- the written prefix is the prefix of the written
 have h4:(y6q (arr.toList.take cs.length) off vs)[j]? = (y6q arr.toList off vs)[j]?:=by
  by_cases ho:off<=j/\j<off+vs.length
  ·have e1:=z3j (cs:=arr.toList.take cs.length) (off:=off) (vs:=vs) (j:=j - off) (by simp;omega) (by omega)
   have e2:=z3j (cs:=arr.toList) (off:=off) (vs:=vs) (j:=j - off) (by simp;omega) (by omega)
   rw[show off+(j - off)=j from by omega] at e1 e2
   rw[e1,e2]
  ·rw[z1r (by omega),z1r (by omega),aU,if_pos hj]
 rw[h4]
 simpa using h1

theorem znr{t c:Nat}{va vx:Value}{a x:D}{os':List Obj}(T:TOk P E τ t c)(S:SR CL φ B ρ H w.heap os)(ha:Rep φ ρ H w.heap va a)(hx:Rep φ ρ H w.heap vx x)(h:y39 E os c a x=some os') :
  ∃ w',(kM t va vx).run P w=.ok () w'/\(y47 CL φ B ρ H w.heap os ρ H w'.heap os'/\y1n w w'):=by
 unfold y39 at h
 split at h
 ·rename_i id off
  split at h
  ·rename_i cs hos
   split at h
   ·rename_i hc
    simp at h;subst h
    cases ha with
    |loc b cc _ _ hid=>
     have hcl:=hx.cells hc.1
     obtain⟨w',h1,h2⟩:=z6e (P:=P) (off:=off) S hos hid hcl (z2q hc.1) (by rw[hc.2.1];exact hc.2.2)
     refine⟨w',?_,h2⟩
     unfold kM Go.storeVar
     have hs:vx.cells.size=(E.ty c).size:=by have:=hcl.1;rw[hc.2.1] at this;simpa using this
     simp only[db,ax,aK,al,T.size,hs]
     simpa using h1
   ·simp at h
  ·simp at h
 ·simp at h

theorem zbm(TA:y3d P E τ){t c t2 c2 ty id:Nat}{vx vy:Value}{x y:D}{ef:Ef}(T:TOk P E τ t c)(T2:TOk P E τ t2 c2)(S:SR CL φ B ρ H w.heap os)(f:y44 ρ os id)
  (hx:Rep φ ρ H w.heap vx x) (hy:Rep φ ρ H w.heap vy y) (h:y1s E os id c c2 x y=some ef) :
  y3w CL φ B ρ H os w ((bM #[t,t2] ty #[vx,vy]).run P w) ef.d (yh os id ef):=by
 unfold y1s at h
 split at h
 ·rename_i e e2 els hk hk2
  obtain⟨e',hu,he'⟩:=T.slice hk
  obtain⟨e2',hu2,_⟩:=T2.slice hk2
  have Te:=TA _ _ he'
  split at h
  ·rename_i new hnew
   obtain⟨a,cap,rfl,hcap,hex,_⟩:=z5k hx
   obtain⟨a2,cap2,vln,rfl,hn,hnu,hrd⟩:=z2n (P:=P) S hy hnew
   have ln:(yi new).length=new.length*(E.ty e).size:=zo fun x hx=>(hnu x hx).1
   have hlv:vln.length=new.length*(E.ty e).size:=by rw[hn.1,ln]
   have hrd':∀ w1:World,w1.heap=w.heap->(aM (E.ty e).size new.length (.slice a2 new.length cap2)).run P w1=.ok vln.toArray w1:=fun w1 he=>by
    rw[hrd _ (ai _) w1 he,<- hlv,aS]
   have hn1:=hrd' w rfl
   split at h
   ·rename_i h0
    simp at h;subst h
    have h0':new=[]:=bB.1 h0
    subst h0'
    have hv0:vln=[]:=by simpa using hlv
    subst hv0
    have:=z1s (ty:=ty) (sLen:=els.length) (n:=0) (sCap:=cap) (base:=a) (w':=w) hu (z2l hu2) z2o Te.size hn1 (by omega) (by cases a <;> simp[dG])
    exact⟨_,w,ρ,H,this,⟨y47.refl S,y1n.refl _⟩,hx⟩
   ·rename_i h0
    split at h
    ·rename_i hc
     obtain⟨hb1,hb2,hz,hfit⟩:=hc
     simp at h;subst h
     simp only[yh]
     have hcl:=hex rfl
     obtain⟨arr,newCap,w1,⟨he,hsl⟩,hle,hsz,hra,hrun⟩:=zje (ty:=ty) S Te hu (z2l hu2) z2o hx (zcp hfit) hn hnu hrd' (by omega) hb1 hb2 hz
     have hxu:=zcq hfit
     have lx:(yi els).length=els.length*(E.ty e).size:=zo fun x hx=>(hxu x hx).1
     have hfl:(yi els++yi new).length=(els.length+new.length)*(E.ty e).size:=by rw[ak,lx,ln,bo]
     rw[z19] at hra
     have hp:=zab S f (el:=e') hra (by rw[hfl,hsz];exact bw _ hle) (fun d hd=>by
      rcases aN.1 hd with hd | hd
      ·exact z1m (fun x hx=>(hxu x hx).2) d hd
      ·exact z1m (fun x hx=>(hnu x hx).2) d hd)
     rw[<- he] at hp
     refine⟨_,_,_,_,hrun,⟨by rw[he] at hp ⊢;exact hp,hsl.os,hsl.tape,hsl.out,hsl.dr⟩,.sl _ _ _ _ _ _ w.heap.size arr.size newCap _ (by simp[upd]) hle (fun _=>rfl) (fun _=>⟨rfl,rfl,hsz⟩)⟩
    ·simp at h
  ·simp at h
 ·simp at h

end
end Dv

namespace Dv
open Go (Value Program World Act Oper Operand Code)

section
variable{P:Program}{E:Env}{CL:y1t}{φ : Phi}{τ : Phi}{B:Nat}{ρ : Rho}{H:HS}{os:List Obj}{w:World}

theorem SR.wrote_free(S:SR CL φ B ρ H w.heap os){w':World}{b el:Nat}{arr':Array Value}(hw:y8y w w' b arr' el)(hno:∀(i:Nat) o c,os[i]? = some o->o.live=true -> ρ i ≠ some (.blk b c))(hH:∀ o,¬ H b o) :
  SR CL φ B ρ H w'.heap os/\Ext ρ ρ H H w.heap w'.heap:=by
 have x:Ext ρ ρ H H w.heap w'.heap:=⟨fun _ _ h=>h,fun _ _ h=>h,fun b' o hh=>by
  unfold cellOf
  rw[hw.other b' (fun e=>hH o (e ▸ hh))]⟩
 exact⟨{
  dom:=fun i o h l=>by
   obtain⟨bk,r,h2⟩:=S.dom i o h l
   exact⟨bk,r,h2.mono x (fun b' c' e=>hw.other b' (fun e'=>hno i o c' h l (by rw[r,e,e']))) (fun _ _ _ _ _ _ _ _ hh=>hh)⟩
  lt:=S.lt
  inj:=S.inj
  own:=fun i o b1 c1 h l r=>by rw[hw.size];exact S.own i o b1 c1 h l r
  mutH:=S.mutH
  hb:=S.hb.ext x fun b1 o h=>by rw[hw.size];exact S.hb b1 o h
  hB:=by rw[hw.size];exact S.hB },x⟩

theorem zsv{t t2 ty e' e2' e n m:Nat}{base a2:Option cB}{sCap cap2:Nat}{xs ys:List D}{vlo vln:List Value}(Te:TOk P E τ e' e)
  (hu:P.underlying t=some (.slice e')) (hu2:P.underlying t2=some (.slice e2')) (o2:yt φ ρ H w.heap vlo xs) (n2:yt φ ρ H w.heap vln ys)
  (ho':∀ w1:World,w1.heap=w.heap->(aM (E.ty e).size n (.slice base n sCap)).run P w1=.ok vlo.toArray w1)
  (hn':∀ w1:World,w1.heap=w.heap->(aM (E.ty e).size m (.slice a2 m cap2)).run P w1=.ok vln.toArray w1)
  (lo:vlo.length=n*(E.ty e).size) (ln:vln.length=m*(E.ty e).size) (hgrow:sCap<n+m)
  (hb1:(n+m)*((E.ty e).bytes+1)<=yg) (hb2:(E.ty e).bytes<=65536) (hz:(y22 E e).isSome=true) :
  ∃(arr:Array Value) (newCap:Nat) (w1:World),(w1.heap=w.heap/\y1n w w1)/\n+m<=newCap/\arr.size=newCap*(E.ty e).size/\yt φ ρ H w.heap (arr.toList.take (xs++ys).length) (xs++ys) /\
   (bM #[t,t2] ty #[.slice base n sCap,.slice a2 m cap2]).run P w=.ok (.slice (some ⟨w.heap.size,0,none⟩) (n+m) newCap) { w1 with heap:=w1.heap.push (.cells arr e') }:=by
 obtain⟨z,hzz⟩:=f9.1 hz
 obtain⟨inf,hi,hsz,hby,_⟩:=Te.info
 obtain⟨zv,e1,e2,_,e4,_⟩:=z2x (w:=w) (φ:=φ) (ρ:=ρ) (H:=H) Te hzz
 have hz':∀ w1:World,(cV e').run P w1=.ok zv w1:=by
  intro w1
  have h1:(cV e').run P w=.ok zv w:=e1
  unfold cV at h1 ⊢
  simp only[ax,z1g hi,al] at h1 ⊢
  cases hzero:inf.zero with
  |none=>simp[hzero] at h1
  |some q=>simp[hzero] at h1 ⊢;exact h1
 obtain⟨newCap,w1,he,hle,hrun⟩:=z59 (ty:=ty) (base:=base) (sCap:=sCap) hu (z2l hu2) z2o Te.size hi hby hz' hgrow hb1 hb2 ho' hn'
 have hzs:zv.cells.size=(E.ty e).size:=by have:=e2.1;rw[e4] at this;simpa using this
 have hfl:(xs++ys).length=(n+m)*(E.ty e).size:=by rw[ak,<- o2.1,<- n2.1,lo,ln,bo]
 refine⟨vlo.toArray++vln.toArray++bW zv.cells (newCap - (n+m)),newCap,w1,he,hle,?_,?_,hrun⟩
 ·simp only[gx,bL,bW,lr,kL,lo,ln,hzs]
  rw[<- bo,<- bo]
  congr 1
  omega
 ·have:(vlo.toArray++vln.toArray++bW zv.cells (newCap - (n+m))).toList.take (xs++ys).length=vlo++vln:=by
   simp only[cu,a8]
   rw[<- a8,bG (by rw[hfl];simp[lo,ln,bo]),bg (by rw[hfl];simp[lo,ln,bo])]
  rw[this]
  exact o2.append n2

theorem zk8(o:Obj):y1y os os.length o=os++[o]:=by simp[y1y]

theorem zic(TA:y3d P E τ){t c t2 c2 ty:Nat}{vx vy:Value}{x y d:D}{os':List Obj}(T:TOk P E τ t c)(T2:TOk P E τ t2 c2)(S:SR CL φ B ρ H w.heap os)
  (hx:Rep φ ρ H w.heap vx x) (hy:Rep φ ρ H w.heap vy y) (h:y33 E os c c2 x y=some (d,os')) :
  y3w CL φ B ρ H os w ((bM #[t,t2] ty #[vx,vy]).run P w) d os':=by
 unfold y33 at h
 split at h
 ·rename_i e e2 k len sz ag hk hk2
  obtain⟨e',hu,he'⟩:=T.slice hk
  obtain⟨e2',hu2,_⟩:=T2.slice hk2
  have Te:=TA _ _ he'
  split at h
  ·rename_i new hnew
   obtain⟨a2,cap2,vln,rfl,hn,hnu,hrd⟩:=z2n (P:=P) S hy hnew
   have ln:(yi new).length=new.length*(E.ty e).size:=zo fun x hx=>(hnu x hx).1
   have hlv:vln.length=new.length*(E.ty e).size:=by rw[hn.1,ln]
   have hn':∀ w1:World,w1.heap=w.heap->(aM (E.ty e).size new.length (.slice a2 new.length cap2)).run P w1=.ok vln.toArray w1:=fun w1 he=>by
    rw[hrd _ (ai _) w1 he,<- hlv,aS]
   split at h
   ·rename_i cs hos
    have hx0:=hx
    cases hx with
    |sl _ _ _ _ _ _ b cc cap a hid hl ha hc=>
     obtain⟨_,rfl,hcap⟩:=hc rfl
     split at h
     ·rename_i h0
      simp at h;obtain⟨rfl,rfl⟩:=h
      have h0':new=[]:=bB.1 h0
      subst h0'
      have hv0:vln=[]:=by simpa using hlv
      subst hv0
      have:=z1s (ty:=ty) (sLen:=len) (n:=0) (sCap:=cap) (base:=some ⟨b,0,none⟩) (w':=w) hu (z2l hu2) z2o Te.size (hn' w rfl) (by omega) (by simp[dG])
      exact⟨_,w,ρ,H,this,⟨y47.refl S,y1n.refl _⟩,hx0⟩
     ·rename_i h0
      have core:∀ cs0:List D,(len+new.length)*((E.ty e).bytes+1)<=yg->(E.ty e).bytes<=65536->(y22 E e).isSome=true->sz=(E.ty e).size->cs0.length=len*sz->cs0.length<=cs.length->(∀ j,j<cs0.length->cs0[j]? = cs[j]?) ->
        y3w CL φ B ρ H os w ((bM #[t,t2] ty #[.slice (some ⟨b,0,none⟩) len cap,.slice a2 new.length cap2]).run P w) (.sl os.length 0 (len+new.length) (E.ty e).size (E.ty e).ag true) (os.set k .dead++[.cells (cs0++yi new)]):=by
       intro cs0 hb1 hb2 hz hsz hcs hle0 hat0
       subst hsz
       obtain⟨arr,el,r1,r2,r3',r4',r5'⟩:=S.row hid (by simp[yz,hos]:yz os k=some cs)
       have r3:cs0.length<=arr.size:=aJ hle0 r3'
       have r4:∀(j:Nat) (v:Value) (d:D),arr[j]? = some v->cs0[j]? = some d->Rep φ ρ H w.heap v d:=fun j v d hv hd=>r4' j v d hv (by rw[<- hat0 j (ac.1 hd).1];exact hd)
       have r5:∀ d,d ∈ cs0->d.atom=true:=fun d hd=>by
        obtain⟨j,hj⟩:=List.mem_iff_getElem?.1 hd
        rw[hat0 j (ac.1 hj).1] at hj
        exact r5' d (aX hj)
       have f:=S.free
       have hS0:=S.kill k
       have f0:y44 ρ (os.set k .dead) os.length:=f.kill
       have hno:∀(i:Nat) o c',(os.set k .dead)[i]? = some o->o.live=true -> ρ i ≠ some (.blk b c'):=by
        intro i o c' h1 l1 r
        rw[bn] at h1
        split at h1
        ·split at h1
         ·simp at h1;subst h1;simp[Obj.live] at l1
         ·simp at h1
        ·rename_i hne
         exact hne (S.inj k i _ o b cc c' hos rfl h1 l1 hid r)
       have hHb:∀ o,¬ H b o:=fun o=>S.mutH k cs b cc o hos hid
       have hrow0:yt φ ρ H w.heap (arr.toList.take cs0.length) cs0:=⟨by simp;omega,fun j v d hv hd=>by
        rw[aU] at hv
        split at hv
        ·exact r4 j v d (by simpa using hv) hd
        ·simp at hv⟩
       have hat:∀ d,d ∈ cs0++yi new->d.atom=true:=fun d hd=>by
        rcases aN.1 hd with hd | hd
        ·exact r5 d hd
        ·exact z1m (fun x hx=>(hnu x hx).2) d hd
       have hlen2:(cs0++yi new).length=(len+new.length)*(E.ty e).size:=by rw[ak,hcs,ln,bo]
       by_cases hg:cap<len+new.length
       ·-- a new array
        have ho':∀ w1:World,w1.heap=w.heap->(aM (E.ty e).size len (.slice (some ⟨b,0,none⟩) len cap)).run P w1=.ok (arr.toList.take cs0.length).toArray w1:=by
         intro w1 he
         simp only[aM]
         refine z37 (by rw[aI,<- hcs];simp;omega) (fun j v hv=>?_)
         rw[aU] at hv
         split at hv
         ·rw[he];simp[cellOf,r1];simpa using hv
         ·simp at hv
        obtain⟨arr2,newCap,w1,⟨he,hsl⟩,hle,hsz,hra,hrun⟩:=zsv (ty:=ty) (a2:=a2) (cap2:=cap2) Te hu hu2 hrow0 hn ho' hn' (by rw[hrow0.1,hcs]) hlv hg hb1 hb2 hz
        have hp:=zab hS0 f0 (el:=e') hra (by rw[hlen2,hsz];exact bw _ hle) hat
        have hp2:=hp.of_kill
        rw[show y1y (os.set k .dead) os.length (.cells (cs0++yi new))=os.set k .dead++[.cells (cs0++yi new)] from by simp[y1y]] at hp2
        exact⟨_,_,_,_,hrun,⟨by rw[he];exact hp2,hsl.os,hsl.tape,hsl.out,hsl.dr⟩,.sl _ _ _ _ _ _ w.heap.size arr2.size newCap _ (by simp[upd]) hle (fun _=>rfl) (fun _=>⟨rfl,rfl,hsz⟩)⟩
       ·-- in the room behind it
        have hroom:len*(E.ty e).size+vln.length<=arr.size:=by
         rw[r2,hcap,hlv,<- bo];exact bw _ (by omega)
        obtain⟨w',s1,s2⟩:=z2s (P:=P) (b:=b) (el:=el) vln (len*(E.ty e).size) 0 arr w r1 hroom (z54 hn (z1m fun x hx'=>(hnu x hx').2))
        have hrun:=z1s (ty:=ty) (sLen:=len) (n:=new.length) (sCap:=cap) (base:=some ⟨b,0,none⟩) (w':=w') hu (z2l hu2) z2o Te.size (hn' w rfl) (by omega) (by simp only[z1h,bA];exact s1)
        obtain⟨S1,x1⟩:=hS0.wrote_free s2 hno hHb
        have own:=S.own k _ b cc hos rfl hid
        have f1:y44 ρ (os.set k .dead) os.length:=f0
        have x2:=f1.ext (.blk b cc) H w'.heap
        have S2:=S1.add f1 (o:=.cells (cs0++yi new)) (bk:=.blk b cc) ⟨b,cc,rfl,_,el,s2.at_,by simp[z1q,r2],by simp only[bL,z1q,cF];rw[hlen2,r2,hcap];exact bw _ (by omega),fun j v d hv hd=>?_,hat⟩
         (fun b' c' e=>by simp at e;obtain⟨rfl,rfl⟩:=e;rw[s2.size];exact own) (fun b' c' e i o' c2 h1 l1 r=>by simp at e;obtain⟨rfl,rfl⟩:=e;exact hno i o' c2 h1 l1 r)
         (fun cs2 b' c' _ e j=>by simp at e;obtain⟨rfl,rfl⟩:=e;exact hHb j)
        ·rw[show y1y (os.set k .dead) os.length (.cells (cs0++yi new))=os.set k .dead++[.cells (cs0++yi new)] from by simp[y1y]] at S2
         refine⟨_,w',upd ρ os.length (.blk b cc),H,hrun,⟨⟨x1.trans x2,S2,by rw[s2.size];exact ai _,fun b' hb' hn2=>s2.other b' (fun e=>?_),fun _ _ h=>.inl h,y48.at s2.at_ (by intro arr el fr h;cases h;rfl) s2.other,fun i bk h=>by have:=z8l f1 (o:=.cells (cs0++yi new)) rfl i bk h;rwa [show y1y (os.set k .dead) os.length (.cells (cs0++yi new))=os.set k .dead++[.cells (cs0++yi new)] from by simp[y1y]] at this,rbU (.inl ⟨k,cc,hid⟩),hnS⟩,s2.still⟩,.sl _ _ _ _ _ _ b cc cap _ (by simp[upd]) (by omega) (fun _=>rfl) (fun _=>⟨rfl,rfl,hcap⟩)⟩
         subst e;exact hn2 k _ cc hos rfl hid
        ·-- what the row holds
         have hj:=(ac.1 hd).1
         refine Rep.mono (x1.trans x2) ?_
         by_cases hjc:j<cs0.length
         ·rw[aB hjc] at hd
          simp only[bT] at hv
          rw[z1r (.inl (by rw[<- hcs];exact hjc))] at hv
          exact r4 j v d (by simpa using hv) hd
         ·have hjc:cs0.length<=j:=by omega
          rw[aF hjc] at hd
          simp only[bT,cU] at hv
          have hjv:j - cs0.length<vln.length:=by rw[hn.1];exact(ac.1 hd).1
          have h5:=z3j (cs:=arr.toList) (off:=len*(E.ty e).size) (vs:=vln) (j:=j - cs0.length) (by simpa using hroom) hjv
          rw[<- hcs,show cs0.length+(j - cs0.length)=j from by omega,hcs] at h5
          rw[h5] at hv
          exact hn.2 _ v d hv (by rw[<- hcs];exact hd)
      split at h
      ·rename_i hcond
       obtain⟨hb1,hb2,hz,hsz,hcs⟩:=hcond
       simp at h;obtain⟨rfl,rfl⟩:=h
       exact core cs hb1 hb2 hz hsz hcs (ai _) (fun _ _=>rfl)
      ·split at h
       ·rename_i hcond
        obtain⟨hb1,hb2,hz,hsz,hcs⟩:=hcond
        simp at h;obtain⟨rfl,rfl⟩:=h
        exact core (cs.take (len*sz)) hb1 hb2 hz hsz (by rw[aI];omega) (by rw[aI];omega) (fun j hj=>by rw[aU,if_pos (by rw[aI] at hj;omega)])
       ·simp at h
   ·simp at h
  ·simp at h
 ·rename_i e e2 els hk hk2
  -- as the making form
  have hM:∀ ef,y1s E os os.length c c2 (.imm .exact els) y=some ef->y3w CL φ B ρ H os w ((bM #[t,t2] ty #[vx,vy]).run P w) ef.d (yh os os.length ef):=
   fun ef hef=>zbm TA T T2 S S.free hx hy hef
  unfold y1s at hM
  simp only[hk,hk2] at hM
  split at h
  ·rename_i new hnew
   simp only[hnew] at hM
   split at h
   ·rename_i h0
    simp at h;obtain⟨rfl,rfl⟩:=h
    have:=hM ⟨.imm .exact els,none,none⟩ (by rw[if_pos h0])
    simpa[yh] using this
   ·rename_i h0
    rw[if_neg h0] at hM
    split at h
    ·rename_i hc
     rw[if_pos hc] at hM
     simp at h;obtain⟨rfl,rfl⟩:=h
     have:=hM _ rfl
     simpa[yh,zk8] using this
    ·simp at h
  ·simp at h
 ·simp at h

end
end Dv

namespace Dv
open Go (Value Program World Act Oper Operand Code)

section
variable{P:Program}{E:Env}{CL:y1t}{φ : Phi}{τ : Phi}{B:Nat}{ρ : Rho}{H:HS}{os:List Obj}{w:World}

theorem ztr(TA:y3d P E τ){t c t2 c2 ty:Nat}{vx vy:Value}{x y d:D}{os':List Obj}(T:TOk P E τ t c)(S:SR CL φ B ρ H w.heap os)
  (hx:Rep φ ρ H w.heap vx x) (hy:Rep φ ρ H w.heap vy y) (h:y6m E os c c2 x y=some (d,os')) :
  y3w CL φ B ρ H os w ((gO #[t,t2] ty #[vx,vy]).run P w) d os':=by
 unfold y6m at h
 split at h
 ·rename_i e e2 id off len sz ag gr hk hk2
  obtain⟨e',hu,he'⟩:=T.slice hk
  have Te:=TA _ _ he'
  split at h
  ·rename_i cs new hos hnew
   split at h
   ·rename_i hc
    obtain⟨rfl,hle⟩:=hc
    simp at h;obtain⟨rfl,rfl⟩:=h
    obtain⟨a2,cap2,vln,rfl,hn,hnu,hrd⟩:=z2n (P:=P) S hy hnew
    cases hx with
    |sl _ _ _ _ _ _ b cc cap a hid hl ha hc=>
     have hm:c9 new.length len<=new.length:=Nat.min_le_left _ _
     have hm2:c9 new.length len<=len:=Nat.min_le_right _ _
     have hmu:∀ x,x ∈ new.take (c9 new.length len)->x.cellsL.length=(E.ty e).size/\x.storable=true:=fun x hx=>hnu x (dh hx)
     have hfl:(yi (new.take (c9 new.length len))).length=c9 new.length len*(E.ty e).size:=by
      rw[zo fun x hx=>(hmu x hx).1,aI,Nat.min_eq_left hm]
     have hr:yt φ ρ H w.heap (vln.take (c9 new.length len*(E.ty e).size)) (yi (new.take (c9 new.length len))):=by
      have h1:=hn.take (c9 new.length len*(E.ty e).size)
      have h2:(yi new).take (c9 new.length len*(E.ty e).size)=yi (new.take (c9 new.length len)):=by
       have:yi new=yi (new.take (c9 new.length len))++yi (new.drop (c9 new.length len)):=by rw[<- z19,bp]
       rw[this,bG (by rw[hfl];exact ai _),bg (by rw[hfl];exact ai _)]
      rwa [h2] at h1
     have hrun0:=hrd _ hm w rfl
     have hle2:off+(yi (new.take (c9 new.length len))).length<=cs.length:=by
      rw[hfl]
      have:=bw (E.ty e).size hm2
      omega
     by_cases h0:len=0
     ·-- nothing is copied
      subst h0
      have hz:c9 new.length 0=0:=ke _
      have hset:os.set id (.cells (setCells cs off (yi (new.take (c9 new.length 0)))))=os:=by
       rw[hz];simp[yi,setCells]
       apply cx
       intro i
       rw[bn]
       split
       ·rename_i e1;subst e1;have:=(ac.1 hos).1;simp[this];exact((ac.1 hos).2).symm
       ·rfl
      refine⟨.int .i64 ((c9 new.length 0:Nat):Int),w,ρ,H,?_,⟨by rw[hset];exact y47.refl S,y1n.refl _⟩,.int _ _⟩
      unfold gO
      simp only[bT,cA,cM]
      rw[hz] at hrun0 ⊢
      simp only[ax,run_underlying hu,al,fd,aK,Te.size]
      simp only[show c9 new.length 0=0 from ke _]
      rw[hrun0]
      cases a <;> simp[dG,iV]
     ·obtain⟨w',s1,s2⟩:=z6e (P:=P) S hos hid hr (z1m fun x hx=>(hmu x hx).2) hle2
      refine⟨.int .i64 ((c9 new.length len:Nat):Int),w',ρ,H,?_,s2,.int _ _⟩
      unfold gO
      rw[ha h0]
      simp only[bT,cA,cM]
      simp only[ax,run_underlying hu,al,fd,aK,Te.size,hrun0,s1]
      simp[iV]
   ·simp at h
  ·simp at h
 ·rename_i e e2 sp hk hk2
  obtain⟨e',hu,he'⟩:=T.slice hk
  have Te:=TA _ _ he'
  split at h
  case h_2=>simp at h
  rename_i new hnew
  simp at h;obtain⟨rfl,rfl⟩:=h
  obtain⟨a,cap,rfl,_⟩:=z5k hx
  obtain⟨a2,cap2,vln,rfl,hn,hnu,hrd⟩:=z2n (P:=P) S hy hnew
  obtain⟨n2,hn2⟩:∃ n2,n2=new.length:=⟨_,rfl⟩
  rw[<- hn2]
  refine⟨.int .i64 0,w,ρ,H,?_,⟨y47.refl S,y1n.refl _⟩,.int _ _⟩
  unfold gO
  simp only[bT,cA,cM]
  simp only[ax,run_underlying hu,al,fd,aK,Te.size]
  simp only[ba,show c9 n2 0=0 from ke _]
  cases a <;> cases a2 <;> simp[aM,gY,eY,dG,iV]
 ·simp at h

theorem z15{hp:y1q}{b o:Nat}(h:∀ a el fr,hp[b]? ≠ some (.cells a el fr)):cellOf hp b o=none:=by
 unfold cellOf
 split
 ·rename_i hh;exact absurd hh (h _ _ _)
 ·rfl

structure y6v(w w':World)(b:Nat)(o:dR):Prop where
 at_:w'.heap[b]? = some o
 other:∀ b',b' ≠ b->w'.heap[b']? = w.heap[b']?
 size:w'.heap.size=w.heap.size
 still:y1n w w'

theorem SR.writeO(S:SR CL φ B ρ H w.heap os){w':World}{k b c:Nat}{o1:dR}{ob ob':Obj}(hk:os[k]? = some ob)(hl:ob.live=true)(hr : ρ k=some (.blk b c))(hw:y6v w w' b o1)
  (y5r:∀ a el fr,w.heap[b]? ≠ some (.cells a el fr)) (hnew:∀ a el fr,o1 ≠ .cells a el fr) (hob:y69 CL φ ρ H w'.heap (.blk b c) ob') (hnc:∀ cs,ob' ≠ .cells cs) :
  y47 CL φ B ρ H w.heap os ρ H w'.heap (os.set k ob'):=by
 have own:=S.own k _ b c hk hl hr
 have hlt:=(ac.1 hk).1
 have x:Ext ρ ρ H H w.heap w'.heap:=⟨fun _ _ h=>h,fun _ _ h=>h,fun b' o hh=>by
  by_cases e:b'=b
  ·subst e
   rw[z15 y5r,z15 (by rw[hw.at_];intro a el fr h;simp at h;exact hnew _ _ _ h)]
  ·unfold cellOf;rw[hw.other b' e]⟩
 have get:∀(i:Nat) o,(os.set k ob')[i]? = some o->(i=k/\o=ob')\/(i ≠ k/\os[i]? = some o):=by
  intro i o h
  rw[bn] at h
  split at h
  ·rename_i e;subst e;simp[hlt] at h;exact .inl ⟨rfl,h.symm⟩
  ·rename_i e;exact .inr ⟨fun e'=>e e'.symm,h⟩
 have hne:∀(i:Nat) o c',i ≠ k->os[i]? = some o->o.live=true -> ρ i ≠ some (.blk b c'):=fun i o c' hi h l r=>
  hi (S.inj i k o _ b c' c h l hk hl r hr)
 refine⟨x,?_,by rw[hw.size];exact ai _,fun b' _ hn=>hw.other b' (fun e=>?_),fun _ _ h=>.inl h,y48.at hw.at_ (by intro arr el fr h;exact absurd h (hnew _ _ _)) hw.other,fun _ _ h=>.inl h,rbS,hnS⟩
 ·exact {
   dom:=fun i o h l=>by
    rcases get i o h with⟨rfl,rfl⟩ | ⟨hi,h⟩
    ·exact⟨_,hr,hob⟩
    ·obtain⟨bk,r,h2⟩:=S.dom i o h l
     exact⟨bk,r,h2.mono x (fun b' c' e=>hw.other b' (fun e'=>hne i o c' hi h l (by rw[r,e,e']))) (fun _ _ _ _ _ _ _ _ hh=>hh)⟩
   lt:=fun i bk h=>by simpa using S.lt i bk h
   inj:=fun i i' o o' b1 c1 c2 h l h' l' r r'=>by
    rcases get i o h with⟨e,e1⟩ | ⟨hi,g⟩ <;> rcases get i' o' h' with⟨e',e2⟩ | ⟨hi',g'⟩
    ·rw[e,e']
    ·rw[e] at r ⊢;exact S.inj k i' _ o' b1 c1 c2 hk hl g' l' r r'
    ·rw[e'] at r' ⊢;exact S.inj i k o _ b1 c1 c2 g l hk hl r r'
    ·exact S.inj i i' o o' b1 c1 c2 g l g' l' r r'
   own:=fun i o b1 c1 h l r=>by
    rw[hw.size]
    rcases get i o h with⟨rfl,rfl⟩ | ⟨hi,h⟩
    ·exact S.own i _ b1 c1 hk hl r
    ·exact S.own i o b1 c1 h l r
   mutH:=fun i cs1 b1 c1 o h r=>by
    rcases get i _ h with⟨_,h⟩ | ⟨hi,h⟩
    ·exact absurd h.symm (hnc _)
    ·exact S.mutH i cs1 b1 c1 o h r
   hb:=S.hb.ext x fun b1 o h=>by rw[hw.size];exact S.hb b1 o h
   hB:=by rw[hw.size];exact S.hB }
 ·subst e;exact hn k _ c hk hl hr

theorem z2b{b:Nat}{o o':dR}(hb:w.heap[b]? = some o)(hnc:∀ a el fr,o ≠ .cells a el fr):∃ w',(Go.setObj b o').run P w=.ok () w'/\y6v w w' b o':=by
 have hlt:=z23 hb
 refine⟨{ w with heap:=w.heap.setIfInBounds b o' },?_,by simp[hlt],fun b' hne=>by simp[Array.getElem?_setIfInBounds,eU hne],by simp,rfl,rfl,rfl,ai _⟩
 unfold Go.setObj
 simp only[er,hb]

theorem z4t{k v:D}:∀{es es':List (D × D)},y1j k v es=some es'->∃ r,y18 k es=some r/\(match y1f k es 0 with
  |some i=>es'=es.set i (k,v)/\i<es.length/\r.isSome=true
  |none=>es'=es++[(k,v)]/\r=none):=by
 have key:∀(es es':List (D × D)) (n:Nat),y1j k v es=some es'->∃ r,y18 k es=some r/\(match y1f k es n with
  |some i=>n<=i/\es'=es.set (i - n) (k,v)/\i - n<es.length/\r.isSome=true
  |none=>es'=es++[(k,v)]/\r=none):=by
  intro es
  induction es with
  |nil=>intro es' n h;simp[y1j] at h;subst h;exact⟨none,rfl,rfl,rfl⟩
  |cons e es ih=>
   intro es' n h
   simp only[y1j] at h
   cases hb:k.eqb e.1 with
   |none=>simp[hb] at h
   |some b=>cases b with
    |true=>
     simp[hb] at h;subst h
     exact⟨some e.2,by simp[y18,hb],by simp[y1f,hb]⟩
    |false=>
     simp[hb] at h
     obtain⟨es1,h1,rfl⟩:=h
     obtain⟨r,h2,h3⟩:=ih es1 (n+1) h1
     refine⟨r,by simp[y18,hb,h2],?_⟩
     simp only[y1f,hb]
     cases hi:y1f k es (n+1) with
     |none=>simp only[hi] at h3 ⊢;rw[h3.1];exact⟨rfl,h3.2⟩
     |some i=>
      simp only[hi] at h3 ⊢
      obtain⟨h4,h5,h6,h7⟩:=h3
      refine⟨by omega,?_,by simp;omega,h7⟩
      rw[h5,show i - n=(i - (n+1))+1 from by omega,iv]
 intro es es' h
 obtain⟨r,h1,h2⟩:=key es es' 0 h
 refine⟨r,h1,?_⟩
 cases hi:y1f k es 0 with
 |none=>simp only[hi] at h2 ⊢;exact h2
 |some i=>simp only[hi] at h2 ⊢;simpa using h2.2

end
end Dv

namespace Dv
open Go (Value Program World Act Oper Operand Code)

section
variable{P:Program}{E:Env}{CL:y1t}{φ : Phi}{τ : Phi}{B:Nat}{ρ : Rho}{H:HS}{os:List Obj}{w:World}

theorem zbk{a b:D}(h:y20 a b=some true):a=b:=by
 unfold y20 at h
 split at h
 ·simp at h;rw[h]
 ·split at h
  ·rename_i e;simp at h;rw[e,h]
  ·simp at h
 ·simp at h;rw[h]
 ·simp at h

theorem zjv:∀{xs ys:List D},eqL xs ys=some true->xs=ys
 |[],[],_=>rfl
 |[],_::_,h=>by simp[eqL] at h
 |_::_,[],h=>by simp[eqL] at h
 |x::xs,y::ys,h=>by
  simp only[eqL] at h
  cases e1:y20 x y with
  |none=>simp[e1] at h
  |some p=>cases e2:eqL xs ys with
   |none=>simp[e1,e2] at h
   |some q=>
    simp[e1,e2] at h
    obtain⟨rfl,rfl⟩:=h
    rw[zbk e1,zjv e2]

theorem ztg{k d:D}(h:k.eqb d=some true):k=d:=by
 unfold D.eqb at h
 split at h
 ·rw[zjv h]
 ·exact zbk h

theorem z2m{k:D}:∀{es:List (D × D)} {n i:Nat},y1f k es n=some i->n<=i /\ ∃ p,es[i - n]? = some p/\p.1=k
 |[],n,i,h=>by simp[y1f] at h
 |e::es,n,i,h=>by
  simp only[y1f] at h
  split at h
  ·rename_i hb
   simp at h;subst h
   exact⟨ai _,e,by simp,(ztg hb).symm⟩
  ·obtain⟨h1,p,h2,h3⟩:=z2m h
   exact⟨by omega,p,by rw[show i - n=(i - (n+1))+1 from by omega];simpa using h2,h3⟩

theorem y6o.push{hp:y1q}{me:List br}{es:List (D × D)}{e:br}{p:D × D}(h:y6o φ ρ H hp me es)(he:Rep φ ρ H hp e.key p.1/\Rep φ ρ H hp e.val p.2):y6o φ ρ H hp (me++[e]) (es++[p]):=by
 refine⟨by simp[h.1],fun j e' p' h1 h2=>?_⟩
 by_cases hj:j<me.length
 ·rw[aB hj] at h1
  rw[aB (h.1 ▸ hj)] at h2
  exact h.2 j e' p' h1 h2
 ·have hj:me.length<=j:=by omega
  rw[aF hj] at h1
  rw[aF (h.1 ▸ hj),<- h.1] at h2
  cases hk:j - me.length with
  |zero=>rw[hk] at h1 h2;simp at h1 h2;rw[<- h1,<- h2];exact he
  |succ n=>rw[hk] at h1;simp at h1

theorem y6o.mapAt{hp:y1q}{b:Nat}{me:Array br}{clock:Nat}{es:List (D × D)}(hb:hp[b]? = some (.map me clock))(h:y6o φ ρ H hp me.toList es)(hs:y3l me clock):y78 φ ρ H hp b es:=
 ⟨me,clock,hb,by simpa using h.1,fun j e p he hp'=>h.2 j e p (by simpa using he) hp',hs⟩
theorem y3l.push{me:Array br}{clock:Nat}{k v:Value}(h:y3l me clock):y3l (me.push { key:=k,val:=v,born:=clock }) (clock+1):=by
 refine⟨fun x hx=>?_,?_⟩
 ·simp only[ky,aN,fq] at hx
  rcases hx with hx | rfl
  ·have:=h.1 x hx;omega
  ·exact Nat.lt_succ_self _
 ·simp only[ky,List.map_append,av,List.map_nil]
  rw[List.nodup_append]
  refine⟨h.2,by simp,fun a ha b hb e=>?_⟩
  obtain⟨x,hx,rfl⟩:=aT.1 ha
  simp only[fq] at hb
  have:=h.1 x hx;omega
theorem y3l.modify{me:Array br}{clock i:Nat}{f:br->br}(hf:∀ e,(f e).born=e.born)(h:y3l me clock):y3l (me.modify i f) clock:=by
 have e:(me.modify i f).toList.map (·.born)=me.toList.map (·.born):=by
  refine cx fun j=>?_
  simp only[bK,eD,cw]
  split
  ·cases me[j]? with
   |none=>rfl
   |some x=>simp[hf]
  ·rfl
 refine⟨fun x hx=>?_,by rw[e];exact h.2⟩
 have:x.born ∈ (me.modify i f).toList.map (·.born):=aT.2 ⟨x,hx,rfl⟩
 rw[e] at this
 obtain⟨y,hy,e2⟩:=aT.1 this
 have:=h.1 y hy
 omega

theorem y6o.mono{ρ':Rho}{H':HS}{hp hp':y1q}(x:Ext ρ ρ' H H' hp hp'){me:List br}{es:List (D × D)}(h:y6o φ ρ H hp me es):y6o φ ρ' H' hp' me es:=
 ⟨h.1,fun j e p he hp'=>⟨(h.2 j e p he hp').1.mono x,(h.2 j e p he hp').2.mono x⟩⟩

theorem z8k(a b:Value):∃ v w',(jy a b).run P w=.ok v w'/\(v=a\/v=b)/\(w'.heap=w.heap/\y1n w w'):=by
 unfold jy
 by_cases h:Go.Instr.sameBits 10000 a b=true
 ·exact⟨b,w,by simp[h],.inr rfl,rfl,y1n.refl _⟩
 ·simp only[if_neg h,ax,mg,rV]
  refine⟨_,_,rfl,?_,rfl,rfl,rfl,rfl,eu _⟩
  split
  ·exact .inr rfl
  ·exact .inl rfl

theorem zlf(TA:y3d P E τ){t c:Nat}{vm vk vv:Value}{m k v:D}{os':List Obj}(T:TOk P E τ t c)(S:SR CL φ B ρ H w.heap os)(hm:Rep φ ρ H w.heap vm m)(hk:Rep φ ρ H w.heap vk k)(hv:Rep φ ρ H w.heap vv v)
  (h:y30 E os c m k v=some os'):∃ w',(iy t vm vk vv).run P w=.ok () w'/\(y47 CL φ B ρ H w.heap os ρ H w'.heap os'/\y1n w w'):=by
 unfold y30 at h
 split at h
 ·rename_i kt e id hkk
  have hu:=T.und;rw[hkk] at hu
  obtain⟨k',e',hu,hk',he'⟩:=hu
  split at h
  ·rename_i hc
   split at h
   ·rename_i es hos
    cases hm with
    |map b cc _ hid=>
     obtain⟨me,clock,h1,h2,hst⟩:=(S.mapAt hid hos).list
     cases hp:y1j k v es with
     |none=>simp[hp] at h
     |some es1=>
      simp[hp] at h;subst h
      obtain⟨r,hf,hs⟩:=z4t hp
      obtain⟨x,f1,f2,f3⟩:=z6q (TA _ _ hk') hk hc.1 h2 hf
      have hck:=z5p (w:=w) (TA _ _ hk') hk hc.1 false
      have hg:(ew b).run P w=.ok (.map me clock) w:=by simp[ew,er,h1]
      have hnc:∀ a el fr,(Go.Obj.map me clock) ≠ .cells a el fr:=fun _ _ _ h=>by cases h
      -- what is behind the write
      have fin:∀(w1 w2:World) (me':Array br) (clock':Nat),(w1.heap=w.heap/\y1n w w1)->y6v w1 w2 b (.map me' clock')->y6o φ ρ H w.heap me'.toList es1->y3l me' clock' ->
        (y47 CL φ B ρ H w.heap os ρ H w2.heap (os.set id (.map es1))/\y1n w w2):=by
       intro w1 w2 me' clock' ⟨hw1,hsl⟩ hw2 hr hst2
       have hw:y6v w w2 b (.map me' clock'):=⟨hw2.at_,fun b' hb'=>by rw[hw2.other b' hb',hw1],by rw[hw2.size,hw1],hsl.trans hw2.still⟩
       have x:Ext ρ ρ H H w.heap w2.heap:=⟨fun _ _ h=>h,fun _ _ h=>h,fun b' o _=>by
        by_cases e:b'=b
        ·subst e
         rw[z15 (hp:=w.heap) (by rw[h1];intro a el fr h;cases h),z15 (by rw[hw.at_];intro a el fr h;cases h)]
        ·unfold cellOf;rw[hw.other b' e]⟩
       refine⟨?_,hw.still⟩
       exact S.writeO hos rfl hid hw (by rw[h1];intro a el fr h;cases h) (fun _ _ _ h=>by cases h) ⟨b,cc,rfl,(hr.mono x).mapAt hw.at_ hst2⟩ (fun _ h=>by cases h)
      cases hi:y1f k es 0 with
      |none=>
       rw[hi] at f2 hs
       simp only at hs
       obtain⟨rfl,rfl⟩:=hs
       have hx:x=none:=by cases x <;> simp_all
       subst hx
       obtain⟨w2,s1,s2⟩:=z2b (P:=P) (o':=.map (me.push { key:=vk,val:=vv,born:=clock }) (clock+1)) h1 hnc
       refine⟨w2,?_,fin w w2 _ _ ⟨rfl,y1n.refl _⟩ s2 (by simpa using h2.push (e:={ key:=vk,val:=vv,born:=clock }) (p:=(k,v)) ⟨hk,hv⟩) hst.push⟩
       unfold iy
       simp only[ax,run_underlying hu,al,hg,hck,f1,s1]
      |some i=>
       rw[hi] at f2 hs
       simp only at hs
       obtain⟨rfl,hlt,_⟩:=hs
       obtain⟨p,rfl⟩:∃ p,x=some p:=by cases x <;> simp_all
       obtain⟨pi,pv⟩:=p
       simp at f2;subst f2
       obtain⟨_,q,hq,hqk⟩:=z2m hi
       rw[Nat.sub_zero] at hq
       have hlm:pi<me.size:=by have:=h2.1;simp at this;omega
       obtain⟨kv,w1,k1,k2,k3⟩:=z8k (P:=P) (w:=w) (((me[pi]?).map (·.key)).getD vk) vk
       have hkr:Rep φ ρ H w.heap kv k:=by
        rcases k2 with rfl | rfl
        ·have:=(h2.2 pi me[pi] q (by simp[hlm]) hq).1
         rw[hqk] at this
         simpa[hlm] using this
        ·exact hk
       have h1':w1.heap[b]? = some (.map me clock):=by rw[k3.1,h1]
       obtain⟨w2,s1,s2⟩:=z2b (P:=P) (w:=w1) (o':=.map (me.modify pi fun e=>{ e with key:=kv,val:=vv }) clock) h1' hnc
       refine⟨w2,?_,fin w1 w2 _ _ k3 s2 ?_ (hst.modify fun _=>rfl)⟩
       ·unfold iy
        simp only[ax,run_underlying hu,al,hg,hck,f1,k1,s1]
       ·refine⟨by simp;simpa using h2.1,fun j e p he hp=>?_⟩
        simp only[eD,cw] at he
        rw[bn] at hp
        by_cases hj:pi=j
        ·subst hj
         simp[hlm] at he;simp[hlt] at hp
         rw[<- he,<- hp];exact⟨hkr,hv⟩
        ·rw[if_neg hj] at he hp
         exact h2.2 j e p (by simpa using he) hp
   ·simp at h
  ·simp at h
 ·simp at h

theorem zfi(S:SR CL φ B ρ H w.heap os)(id:Nat):∃ H',y47 CL φ B ρ H w.heap os ρ H' w.heap (y24 os id):=by
 unfold y24
 split
 ·rename_i cs hos
  obtain⟨bk,hr,b,c,rfl,hrow⟩:=S.dom id _ hos rfl
  have hlt:=(ac.1 hos).1
  have own:=S.own id _ b c hos rfl hr
  have x:Ext ρ ρ H (y5r H b cs.length) w.heap w.heap:=⟨fun _ _ h=>h,fun _ _ h=>.inl h,fun _ _ _=>rfl⟩
  have get:∀(i:Nat) o,(os.set id (.frozen cs))[i]? = some o->(i=id/\o=.frozen cs)\/(i ≠ id/\os[i]? = some o):=by
   intro i o h
   rw[bn] at h
   split at h
   ·rename_i e;subst e;simp[hlt] at h;exact .inl ⟨rfl,h.symm⟩
   ·rename_i e;exact .inr ⟨fun e'=>e e'.symm,h⟩
  have hne:∀(i:Nat) o c',i ≠ id->os[i]? = some o->o.live=true -> ρ i ≠ some (.blk b c'):=fun i o c' hi h l r=>
   hi (S.inj i id o _ b c' c h l hos rfl r hr)
  refine⟨y5r H b cs.length,x,?_,ai _,fun _ _ _=>rfl,fun b' o hh=>?_,y48.refl _,fun _ _ h=>.inl h,rbS,fun b' o hh=>hh.elim .inl fun e=>.inr (.inl ⟨id,c,by rw[e.1];exact hr⟩)⟩
  ·exact {
    dom:=fun i o h l=>by
     rcases get i o h with⟨rfl,rfl⟩ | ⟨hi,h⟩
     ·exact⟨_,hr,b,c,rfl,hrow.mono x rfl,fun j hj=>.inr ⟨rfl,hj⟩⟩
     ·obtain⟨bk,r,h2⟩:=S.dom i o h l
      refine⟨bk,r,h2.mono x (fun _ _ _=>rfl) (fun b' c' u s e _ j _ hh=>?_)⟩
      rcases hh with hh | ⟨rfl,_⟩
      ·exact hh
      ·exact absurd (by rw[r,e]) (hne i o c' hi h l)
    lt:=fun i bk h=>by simpa using S.lt i bk h
    inj:=fun i i' o o' b1 c1 c2 h l h' l' r r'=>by
     rcases get i o h with⟨e,e1⟩ | ⟨hi,g⟩ <;> rcases get i' o' h' with⟨e',e2⟩ | ⟨hi',g'⟩
     ·rw[e,e']
     ·rw[e] at r ⊢;exact S.inj id i' _ o' b1 c1 c2 hos rfl g' l' r r'
     ·rw[e'] at r' ⊢;exact S.inj i id o _ b1 c1 c2 g l hos rfl r r'
     ·exact S.inj i i' o o' b1 c1 c2 g l g' l' r r'
    own:=fun i o b1 c1 h l r=>by
     rcases get i o h with⟨rfl,rfl⟩ | ⟨hi,h⟩
     ·exact S.own i _ b1 c1 hos rfl r
     ·exact S.own i o b1 c1 h l r
    mutH:=fun i cs1 b1 c1 o h r hh=>by
     rcases get i _ h with⟨_,h⟩ | ⟨hi,h⟩
     ·cases h
     ·rcases hh with hh | ⟨rfl,_⟩
      ·exact S.mutH i cs1 b1 c1 o h r hh
      ·exact hne i _ c1 hi h rfl r
    hb:=S.hb.ext x fun b1 o h=>by
     rcases h with h | ⟨rfl,_⟩
     ·exact S.hb b1 o h
     ·exact own.2
    hB:=S.hB }
  ·rcases hh with hh | ⟨rfl,_⟩
   ·exact .inl hh
   ·exact .inr own.1
 ·exact⟨H,y47.refl S⟩

end
end Dv

namespace Dv
open Go (Value Program World Act Oper Operand Code)

section
variable{P:Program}{E:Env}{CL:y1t}{φ : Phi}{τ : Phi}{B:Nat}{ρ : Rho}{H:HS}{os:List Obj}{w:World}

theorem zk1{e' e:Nat}(Te:TOk P E τ e' e)(h:y5v E e=true):P.underlying e'=some (.int .u8):=by
 unfold y5v at h
 split at h
 ·rename_i hk
  have:=Te.und;rw[hk] at this;exact this
 ·simp at h

theorem zcy{hp:y1q}:∀{vs:List Value} {els:List D} {b:List UInt8},yt φ ρ H hp vs (yi els)->y42 els=some b ->
  ∃ ns:List Int,vs=ns.map (Value.int .u8) /\ ∀ s0:ByteArray,(ns.foldl (fun r n=>r.push (bi n.toNat)) s0).data.toList=s0.data.toList++b
 |vs,[],b,hr,h=>by
  simp[y42] at h;subst h
  have:vs=[]:=by have:=hr.1;simpa[yi] using this
  subst this
  exact⟨[],rfl,fun s0=>by simp⟩
 |vs,d::els,b,hr,h=>by
  unfold y42 at h
  split at h
  ·rename_i heq;simp at heq
  ·rename_i n r heq
   simp only[bF] at heq
   obtain⟨rfl,rfl⟩:=heq
   split at h
   ·rename_i s hs
    simp only[aa] at h;subst h
    match vs,hr with
    |v::vs,hr=>
     rw[show yi (D.int .u8 n::els)=.int .u8 n::yi els from rfl] at hr
     obtain⟨h1,h2⟩:=hr.of_cons
     obtain rfl:=h1.intv
     obtain⟨ns,rfl,e2⟩:=zcy h2 hs
     exact⟨n::ns,rfl,fun s0=>by rw[du,e2];simp[ByteArray.push]⟩
    |[],hr=>have:=hr.1;simp[yi,D.cellsL] at this
   ·simp at h
  ·simp at h

theorem zcz:∀{els:List D} {b:List UInt8},y42 els=some b->els.all (fun d=>d.storable && d.cellsL.length == 1)=true
 |[],b,h=>rfl
 |d::els,b,h=>by
  unfold y42 at h
  split at h
  ·rename_i heq;simp at heq
  ·rename_i n r heq
   simp only[bF] at heq
   obtain⟨rfl,rfl⟩:=heq
   split at h
   ·rename_i s hs
    rw[gI,zcz hs];rfl
   ·simp at h
  ·simp at h

theorem zxw{t c t2 c2:Nat}{vx:Value}{x d:D}(T:TOk P E τ t c)(T2:TOk P E τ t2 c2)(TA:y3d P E τ)(S:SR CL φ B ρ H w.heap os)(hx:Rep φ ρ H w.heap vx x)(h:ybu E c c2 x=some d) :
  ∃ v,(jN t t2 vx).run P w=.ok v w/\Rep φ ρ H w.heap v d:=by
 unfold ybu at h
 split at h
 case h_2=>simp at h
 rename_i e sp els hk hk2
 obtain⟨e',hu,he'⟩:=T.slice hk
 have hu2:=T2.und;rw[hk2] at hu2
 split at h
 case isFalse=>simp at h
 rename_i hb
 have hbu:=zk1 (TA _ _ he') hb
 simp only[ab] at h
 obtain⟨b,hbo,rfl⟩:=h
 have hels:y12 os 1 false (.imm sp els)=some els:=by
  simp only[y12]
  rw[if_pos (zcz hbo)]
 obtain⟨a,cap,vl,rfl,hr,hu1,hrd⟩:=z2n (P:=P) S hx hels
 have hlen:vl.length=els.length:=by
  have e:=hr.1
  rw[zo (su:=1) fun y hy=>(hu1 y hy).1,dA] at e;exact e
 have h1:=hrd _ (ai _) w rfl
 rw[dA,<- hlen,aS] at h1
 obtain⟨ns,rfl,e1⟩:=zcy hr hbo
 have e2:=e1 jf
 refine⟨.string (ns.foldl (fun r n=>r.push (bi n.toNat)) jf),?_,?_⟩
 ·rw[Go.run_convert_bytes_string w t t2 e' a _ cap hu hbu hu2]
  cases a with
  |none=>
   simp only[aM,aK] at h1
   have h0:ns=[]:=by
    have h2:=congrArg (fun r:gW (Array Value)=>match r with | .ok v _=>v.size | _=>0) h1
    simp at h2
    exact List.eq_nil_of_length_eq_zero h2.symm
   subst h0
   simp[Go.Conv.bytesToString]
  |some a=>
   simp only[aM,dA,hlen] at h1
   exact Go.run_bytesToString w a _ cap ns h1
 ·have:=Rep.str (φ:=φ) (ρ:=ρ) (H:=H) (hp:=w.heap) (ns.foldl (fun r n=>r.push (bi n.toNat)) jf)
  rw[e2] at this
  simpa using this

theorem z86:∀(l:List UInt8),yi (l.map ya)=l.map ya
 |[]=>rfl
 |x::r=>by rw[av,zy,z86 r];rfl

theorem zbw{hp:y1q}{arr:Array Value}{el:Nat}{fr:Nat × Nat}(j:Nat):cellOf (hp.push (.cells arr el fr)) hp.size j=arr[j]?:=by
 unfold cellOf;rw[z4r]

theorem zwj(TA:y3d P E τ){t c t2 c2:Nat}{vx:Value}{x d:D}(T:TOk P E τ t c)(T2:TOk P E τ t2 c2)(S:SR CL φ B ρ H w.heap os)(hx:Rep φ ρ H w.heap vx x)(h:ybo E c c2 x=some d) :
  y3w CL φ B ρ H os w ((jN t t2 vx).run P w) d os:=by
 unfold ybo at h
 split at h
 case h_2=>simp at h
 rename_i e b hk hk2
 obtain⟨e',hu2,he'⟩:=T2.slice hk2
 have hu:=T.und;rw[hk] at hu
 split at h
 case isFalse=>simp at h
 rename_i hb
 have hbu:=zk1 (TA _ _ he') hb
 simp only[aa] at h
 subst h
 obtain⟨s,rfl,rfl⟩:=hx.strv
 have hrun:=Go.run_bytes_of_string w t t2 e' s hu hu2 hbu
 obtain⟨arr,harr⟩:∃ arr,Go.bytesRow s (kI w s.size 0 e')=arr:=⟨_,rfl⟩
 obtain⟨cap,hcap⟩:∃ cap,kI w s.size 0 e'=cap:=⟨_,rfl⟩
 rw[harr,hcap] at hrun
 have hsz0:s.data.toList.length=s.size:=by rw[cF];rfl
 have hle:s.data.toList.length<=cap:=by
  have:=Go.grownCap_ge w s.size 0 e'
  rw[hcap,<- hsz0] at this
  omega
 have g:=z7m H w.heap (.cells arr e' (arr.size,arr.size+1)) arr.size
 have x1:=g.ext ρ S.hb
 have harr0:∀ j,j<s.data.toList.length->arr[j]? = some (.int .u8 ((s.data.toList[j]?.getD 0).toNat:Int)):=fun j hj=>by
  have hj':j<s.data.size:=by simpa using hj
  have e:s.data.toList[j]? = some s.data[j]:=by rw[eD,bO hj']
  rw[<- harr,Go.bytesRow_at s _ j hj',e]
  rfl
 have hsz:s.data.toList.length<=arr.size:=by
  rcases bR s.data.toList.length with h0 | h0
  ·omega
  ·have:=harr0 (s.data.toList.length - 1) (by omega)
   have:=(aG.1 this).1
   omega
 have hp:y47 CL φ B ρ H w.heap os ρ (y5r H w.heap.size arr.size) (w.heap.push (.cells arr e' (arr.size,arr.size+1))) os:=
  ⟨x1,S.grew g,g.size,fun b hb _=>g.old b hb,fun b o hh=>by
   rcases hh with hh | ⟨rfl,_⟩
   ·exact .inl hh
   ·exact .inr S.hB,trivial,fun _ _ h=>.inl h,rbS,fun b o hh=>hh.elim .inl fun e=>.inr (.inr (cW e.1.symm))⟩
 refine⟨_,_,ρ,y5r H w.heap.size arr.size,hrun,⟨hp,rfl,rfl,rfl,eu _⟩,?_⟩
 have hsl:s.size=(s.data.toList.map ya).length:=by rw[ao,hsz0]
 rw[hsl]
 have hmem:∀ x,x ∈ s.data.toList.map ya->x.cellsL.length=1/\x.storable=true:=fun x hx'=>by
  obtain⟨b,_,rfl⟩:=aT.1 hx'
  exact⟨rfl,rfl⟩
 refine .imm .none _ _ cap w.heap.size 0 1 (fun j=>.int .u8 ((s.data.toList[j]?.getD 0).toNat:Int)) hmem (by simpa using hle) (fun h=>by cases h) (fun k hk=>by cases hk) (fun _=>rfl) (fun j hj=>?_) (fun j d hd=>?_)
 ·rw[z86,ao] at hj
  refine⟨.inr ⟨rfl,by omega⟩,?_⟩
  rw[bA]
  show cellOf (w.heap.push (.cells arr e' (arr.size,arr.size+1))) w.heap.size j=_
  rw[zbw]
  exact harr0 j hj
 ·rw[z86,bK] at hd
  cases hb2:s.data.toList[j]? with
  |none=>rw[hb2] at hd;simp at hd
  |some b=>
   rw[hb2] at hd
   simp only[aq,aa] at hd
   subst hd
   simp only[cC]
   exact .int _ _

theorem zos(TA:y3d P E τ){t c:Nat}{vl vc:Value}{l m d:D}{os':List Obj}(T:TOk P E τ t c)(S:SR CL φ B ρ H w.heap os)(hl:Rep φ ρ H w.heap vl l)(hm:Rep φ ρ H w.heap vc m)
  (h:y5h E os c l m=some (d,os')):y3w CL φ B ρ H os w ((dH t vl vc).run P w) d os':=by
 unfold y5h at h
 split at h
 case h_2=>simp at h
 rename_i e kl l kc m hk
 obtain⟨e',hu,he'⟩:=T.slice hk
 have Te:=TA _ _ he'
 obtain rfl:=hl.intv
 obtain rfl:=hm.intv
 split at h
 case h_2=>simp at h
 rename_i z hz
 split at h
 case isFalse=>simp at h
 rename_i hc
 obtain⟨h0,hlm,hb⟩:=hc
 simp only[aa,au] at h
 obtain⟨rfl,rfl⟩:=h
 obtain⟨zv,e1,e2,_,e4,e5,e6⟩:=z2x (w:=w) (φ:=φ) (ρ:=ρ) (H:=H) Te hz
 obtain⟨a,rfl⟩:=gt h0
 obtain⟨n,rfl⟩:=gt (Int.le_trans h0 hlm)
 have han:a<=n:=by omega
 obtain⟨inf,hi,hsz,hby,_⟩:=Te.info
 have hzr:=z6v (n:=n) e2 e4
 have hnn:(n:Int)<=yg:=by
  have h1:(n:Int)*1<=(n:Int)*((E.ty e).bytes+1):=ec (by omega) (by omega)
  omega
 have hbb:(E.ty e).bytes*(n:Int)<=yg:=by
  have h1:(n:Int)*(E.ty e).bytes<=(n:Int)*((E.ty e).bytes+1):=ec (by omega) (by omega)
  rw[mP];omega
 have hm:(yg:Int)=17592186044416:=rfl
 rw[hm] at hnn hbb
 have hwn:aw.wrap (n:Int)=n:=gw _ (by omega)
 have hwa:aw.wrap (a:Int)=a:=gw _ (by omega)
 have hrun:(dH t (.int kl a) (.int kc n)).run P w=.ok (.slice (some ⟨w.heap.size,0,none⟩) a n) { w with heap:=w.heap.push (.cells ((dD (n*(E.ty e).size)).map (zv.cells[· % zv.cells.size]!)) e') }:=by
  unfold dH
  simp only[ax,run_underlying hu,al,Go.asInt,ep,aK,io,z1g hi,hwn,hwa,hby]
  have hc : ¬ (((decide ((n:Int)<0) || decide ((((E.ty e).bytes:Nat):Int)*(n:Int) > 2 ^ 48)) || decide ((a:Int)<0) || decide ((a:Int) > (n:Int)))=true):=by
   simp
   omega
  simp only[if_neg hc,ax,jw,al,Te.size,ci,ip,aK]
  by_cases hn0:n*(E.ty e).size=0
  ·have hr0:∀ g:Nat->Value,(dD 0).map g = #[]:=fun g=>by simp[dD]
   have hn:n=0:=by rcases je.1 hn0 with h | h;exact h;exact absurd h e6
   subst hn
   simp[hr0,z1i]
  ·simp[if_neg hn0,e1,z1i]
 rw[ci,ci]
 have f:=S.free
 have hp:=z4e S f (el:=e') hzr (z1m fun x hx=>(z1j e4 e5 x hx).2)
 rw[show y1y os os.length (.cells (yi (af n z)))=os++[.cells (yi (af n z))] from by simp[y1y]] at hp
 exact⟨_,_,_,_,hrun,⟨hp,rfl,rfl,rfl,ai _⟩,.sl _ _ _ _ _ _ w.heap.size _ n _ (by simp[upd];rfl) han (fun _=>rfl) (fun _=>⟨rfl,rfl,by simp⟩)⟩

theorem zh2(_TA:y3d P E τ){t c:Nat}{vx vh:Value}{x m d:D}(T:TOk P E τ t c)(S:SR CL φ B ρ H w.heap os)(hx:Rep φ ρ H w.heap vx x)(hm:Rep φ ρ H w.heap vh m)
  (h:y37 E os c x m=some (d,os)):∃ v,(ej t vx none (some vh) none).run P w=.ok v w/\Rep φ ρ H w.heap v d:=by
 unfold y37 at h
 split at h
 case h_2=>simp at h
 rename_i e id len sz ag k m hk
 obtain⟨e',hu,he'⟩:=T.slice hk
 have Te:=_TA _ _ he'
 obtain rfl:=hm.intv
 split at h
 case h_2=>simp at h
 rename_i cs hos
 split at h
 case isFalse=>simp at h
 rename_i hc
 obtain⟨h0,h1,h2,h3⟩:=hc
 simp only[aa,au,and_true] at h
 subst h
 cases hx with
 |sl _ _ _ _ _ _ b cc cap a hid hl ha hcc=>
  obtain⟨_,rfl,rfl⟩:=hcc rfl
  obtain⟨arr,el,r1,r2,r3,r4,r5⟩:=S.row hid (by simp[yz,hos]:yz os id=some cs)
  have hle:m.toNat<=cap:=by
   have:m.toNat*sz<=cap*sz:=by rw[r2] at r3;omega
   exact Nat.le_of_mul_le_mul_right this (by omega)
  have hmc:m<=(cap:Int):=by omega
  refine⟨.slice (some ⟨b,0,none⟩) m.toNat cap,?_,.sl id 0 m.toNat sz ag true b _ cap _ hid hle (fun _=>rfl) (fun _=>⟨rfl,rfl,rfl⟩)⟩
  unfold ej
  simp[run_underlying hu,js,eO,dz,ep,h0,hmc,Te.size,z1h]

theorem zxp(TA:y3d P E τ){t c ty:Nat}{vx:Value}{x d:D}{os':List Obj}(T:TOk P E τ t c)(S:SR CL φ B ρ H w.heap os)(hx:Rep φ ρ H w.heap vx x)
  (h:yar E os c x=some (d,os')):y3w CL φ B ρ H os w ((iM #[t] ty #[vx]).run P w) d os':=by
 unfold yar at h
 split at h
 case h_2=>simp at h
 rename_i e id off len sz ag gr hk
 obtain⟨e',hu,he'⟩:=T.slice hk
 have Te:=TA _ _ he'
 split at h
 case h_2=>simp at h
 rename_i cs z hos hz
 split at h
 case isFalse=>simp at h
 rename_i hc
 obtain⟨rfl,hle⟩:=hc
 simp only[aa,au] at h
 obtain⟨rfl,rfl⟩:=h
 obtain⟨zv,e1,e2,_,e4,e5,e6⟩:=z2x (w:=w) (φ:=φ) (ρ:=ρ) (H:=H) Te hz
 cases hx with
 |sl _ _ _ _ _ _ b cc cap a hid hl ha hcc=>
  have hzs:zv.cells.size=(E.ty e).size:=by have:=e2.1;rw[e4] at this;simpa using this
  have hzr:=z6v (n:=len) e2 e4
  have hzc:bW zv.cells len=(dD (len*(E.ty e).size)).map (zv.cells[· % zv.cells.size]!):=by
   unfold bW;rw[hzs]
  rw[<- hzc] at hzr
  have hfl:(yi (af len z)).length=len*(E.ty e).size:=by
   rw[zo fun x hx=>(z1j e4 e5 x hx).1];simp
  obtain⟨w',s1,s2⟩:=z6e (P:=P) (off:=off) S hos hid hzr (z1m fun x hx=>(z1j e4 e5 x hx).2) (by rw[hfl];exact hle)
  by_cases h0:len=0
  ·subst h0
   have hset:os.set id (.cells (setCells cs off (yi (af 0 z))))=os:=by
    simp[yi,setCells]
    apply cx
    intro i
    rw[bn]
    split
    ·rename_i e1;subst e1;have:=(ac.1 hos).1;simp[this];exact((ac.1 hos).2).symm
    ·rfl
   refine⟨bj,w,ρ,H,?_,⟨by rw[hset];exact y47.refl S,y1n.refl _⟩,.u0⟩
   unfold iM
   simp only[bT,cA]
   simp only[ax,run_underlying hu,al]
   cases a <;> simp[bj]
  ·refine⟨bj,w',ρ,H,?_,s2,.u0⟩
   unfold iM
   rw[ha h0]
   simp only[bT,cA]
   simp only[ax,run_underlying hu,al]
   obtain⟨n,rfl⟩:∃ n,len=n+1:=⟨len - 1,by omega⟩
   simp only[ax,e1,al,s1]
   simp[bj]

end
end Dv

namespace Dv
open Go (Value Program World Act Oper Operand Code)

def y1w(os os':List Obj)(K:Nat->Prop):Prop:=∀(i:Nat) o,K i->os'[i]? = some o->o.live=true->∃ o':Obj,os[i]? = some o'/\o'.live=true

theorem y1w.refl{os:List Obj}{K:Nat->Prop}:y1w os os K:=fun _ o _ h hl=>⟨o,h,hl⟩

theorem y1w.trans{os os' os'':List Obj}{K:Nat->Prop}(h:y1w os os' K)(h':y1w os' os'' K):y1w os os'' K:=fun i o hi h1 h2=>by
 obtain⟨o',h3,h4⟩:=h' i o hi h1 h2
 exact h i o' hi h3 h4

theorem y1w.set{os:List Obj}{K:Nat->Prop}{k:Nat}{ob ob':Obj}(hk:os[k]? = some ob)(hl:ob.live=true):y1w os (os.set k ob') K:=fun i o _ h h'=>by
 rw[bn] at h
 split at h
 ·rename_i e;subst e;exact⟨ob,hk,hl⟩
 ·exact⟨o,h,h'⟩

theorem y1w.kill{os:List Obj}{K:Nat->Prop}(k:Nat):y1w os (os.set k .dead) K:=fun i o _ h h'=>by
 rw[bn] at h
 split at h
 ·split at h
  ·simp at h;subst h;simp[Obj.live] at h'
  ·simp at h
 ·exact⟨o,h,h'⟩

theorem y1w.add{ρ : Rho}{os:List Obj}{K:Nat->Prop}{id:Nat}{ob:Obj}(f:y44 ρ os id)(hne:∀ i,K i->i ≠ id):y1w os (y1y os id ob) K:=fun i o hi h h'=>by
 rw[z68 f,if_neg (hne i hi)] at h
 exact⟨o,h,h'⟩

theorem y1w.push{os:List Obj}{K:Nat->Prop}{ob:Obj}(hK:∀ i,K i->i<os.length):y1w os (os++[ob]) K:=fun i o hi h h'=>by
 rw[aB (hK i hi)] at h
 exact⟨o,h,h'⟩

structure y17(CL:y1t)(φ : Phi)(B:Nat)(K:Nat->Prop)(ρ : Rho)(H:HS)(w:World)(ρ':Rho)(H':HS)(w':World)(os':List Obj):Prop where
 ext:Ext ρ ρ' H H' w.heap w'.heap
 sr:SR CL φ B ρ' H' w'.heap os'
 size:w.heap.size<=w'.heap.size
 frB:∀ b,b<B->w'.heap[b]? = w.heap[b]?
 frD:∀(b:Nat) ds,w.heap[b]? = some (.deferred ds)->w'.heap[b]? = some (.deferred ds)
 hnew:∀ b o,H' b o->H b o\/B<=b
 vac:∀ i,K i -> ρ i=none -> ρ' i=none
 fz:y48 w.heap w'.heap
 still:y1n w w'
 frame:∀ b,b<w.heap.size -> ¬ Old ρ b->w'.heap[b]? = w.heap[b]?
 rb:∀(k:Nat) b c,ρ' k=some (.blk b c)->Old ρ b\/w.heap.size<=b
 hn:∀ b o,H' b o->H b o\/Old ρ b\/w.heap.size<=b

section
variable{CL:y1t}{φ : Phi}{B:Nat}{K:Nat->Prop}{ρ ρ' ρ'':Rho}{H H' H'':HS}{hp hp' hp'':y1q}{os os' os'':List Obj}

theorem y17.trans{w w' w'':World}(h:y17 CL φ B K ρ H w ρ' H' w' os')(h':y17 CL φ B K ρ' H' w' ρ'' H'' w'' os''):y17 CL φ B K ρ H w ρ'' H'' w'' os'':=
 ⟨h.ext.trans h'.ext,h'.sr,aJ h.size h'.size,fun b hb=>(h'.frB b hb).trans (h.frB b hb),fun b ds hd=>h'.frD b ds (h.frD b ds hd),fun b o hh=>by
  rcases h'.hnew b o hh with hh | hh
  ·exact h.hnew b o hh
  ·exact .inr hh,fun i hi hn=>h'.vac i hi (h.vac i hi hn),h.fz.trans h'.fz,h.still.trans h'.still,
  fun b hb ho=>(h'.frame b (aR hb h.size) (fun⟨k,c,hk⟩=>(h.rb k b c hk).elim ho (fun hle=>absurd hle (Nat.not_le.2 hb)))).trans (h.frame b hb ho),
  fun k b c hk=>(h'.rb k b c hk).elim (fun⟨k0,c0,h0⟩=>h.rb k0 b c0 h0) (fun hle=>.inr (aJ h.size hle)),
  fun b o hh=>(h'.hn b o hh).elim (h.hn b o) (fun hh=>hh.elim (fun⟨k0,c0,h0⟩=>.inr (h.rb k0 b c0 h0)) (fun hle=>.inr (.inr (aJ h.size hle))))⟩

theorem y17.refl{w:World}(S:SR CL φ B ρ H w.heap os):y17 CL φ B K ρ H w ρ H w os:=
 ⟨Ext.refl _ _ _,S,ai _,fun _ _=>rfl,fun _ _ h=>h,fun _ _ h=>.inl h,fun _ _ h=>h,y48.refl _,y1n.refl _,fun _ _ _=>rfl,rbS,hnS⟩

theorem y47.toT{w w':World}(S:SR CL φ B ρ H w.heap os)(hK:y1w os os' K)(h:y47 CL φ B ρ H w.heap os ρ' H' w'.heap os')(hst:y1n w w'):y17 CL φ B K ρ H w ρ' H' w' os':=by
 refine⟨h.ext,h.sr,h.size,fun b hb=>h.frame b (aR hb S.hB) (fun id o c ho hl r=>by have:=(S.own id o b c ho hl r).1;omega),fun b ds hd=>?_,h.hnew,fun i hi hn=>?_,h.fz,hst,fun b hb ho=>h.frame b hb (fun id o c _ _ r=>ho ⟨id,c,r⟩),h.rb,h.hn⟩
 rotate_left
 ·cases hr : ρ' i with
  |none=>rfl
  |some bk=>
   rcases h.rn i bk hr with h1 | ⟨o,h1,h2⟩
   ·rw[hn] at h1;cases h1
   ·obtain⟨o',h3,h4⟩:=hK i o hi h1 h2
    obtain⟨bk',h5,_⟩:=S.dom i o' h3 h4
    rw[hn] at h5;cases h5
 rw[<- hd]
 refine h.frame b (z23 hd) (fun id o c ho hl r=>?_)
 obtain⟨bk,r',h2⟩:=S.dom id o ho hl
 rw[r] at r';simp at r';subst r'
 cases o with
 |dead=>simp[Obj.live] at hl
 |cells cs=>obtain⟨_,_,e,arr,el,h3,_⟩:=h2;simp at e;obtain⟨rfl,rfl⟩:=e;rw[hd] at h3;cases h3
 |frozen cs=>obtain⟨_,_,e,⟨arr,el,h3,_⟩,_⟩:=h2;simp at e;obtain⟨rfl,rfl⟩:=e;rw[hd] at h3;cases h3
 |tok u s=>
  rcases h2 with h2 | ⟨_,_,e,arr,el,h3,_⟩
  ·cases h2
  ·simp at e;obtain⟨rfl,rfl⟩:=e;rw[hd] at h3;cases h3
 |map es=>obtain⟨_,_,e,me,cl,h3,_⟩:=h2;simp at e;obtain⟨rfl,rfl⟩:=e;rw[hd] at h3;cases h3
 |loop busy y1u ps asg body pend=>obtain⟨_,_,e,L,h3,_⟩:=h2;simp at e;obtain⟨rfl,rfl⟩:=e;rw[hd] at h3;cases h3

theorem zjd:∀{n m:Nat} {d:D} {id:Nat},m<=n->id ∈ ids os m d->id ∈ ids os n d
 |n,0,d,id,_,h=>by simp[ids] at h
 | 0,m+1,d,id,hm,_=>by omega
 |n+1,m+1,d,id,hm,h=>by
  have hm':m<=n:=by omega
  have go:∀(l:List D),id ∈ l.flatMap (ids os m)->id ∈ l.flatMap (ids os n):=fun l hl=>by
   simp only[bJ] at hl ⊢
   obtain⟨x,h1,h2⟩:=hl
   exact⟨x,h1,zjd hm' h2⟩
  cases d <;> simp only[ids] at h ⊢ <;> try exact h
  ·rcases az.1 h with h | h
   ·exact az.2 (.inl h)
   ·refine az.2 (.inr ?_)
    split at h
    ·exact go _ h
    ·simp at h
  ·exact go _ h
  ·exact go _ h
  ·rcases az.1 h with h | h
   ·exact az.2 (.inl h)
   ·refine az.2 (.inr ?_)
    split at h
    ·exact go _ h
    ·simp at h
  ·exact go _ h
  ·exact go _ h
  ·exact go _ h

theorem z2u{w:World}:∀(l:List Nat) {H:HS} {os:List Obj},SR CL φ B ρ H w.heap os->∃ H',y17 CL φ B K ρ H w ρ H' w (yv os l) /\ ∀ id cs b c,id ∈ l->os[id]? = some (.cells cs) -> ρ id=some (.blk b c)->∀ j,j<cs.length->H' b j
 |[],H,os,S=>⟨H,y17.refl S,fun id cs b c h=>by simp at h⟩
 |i::l,H,os,S=>by
  -- y24 with what it marks
  have one:∃ H1,y17 CL φ B K ρ H w ρ H1 w (y24 os i)/\(∀ cs b c,os[i]? = some (.cells cs) -> ρ i=some (.blk b c)->∀ j,j<cs.length->H1 b j):=by
   obtain⟨H1,h1⟩:=zfi (w:=w) S i
   refine⟨H1,y47.toT S (by unfold y24;split; (· rename_i ho;exact .set ho rfl);exact .refl) h1 (y1n.refl _),fun cs b c ho hr j hj=>?_⟩
   have hlt:=(ac.1 ho).1
   have hf:(y24 os i)[i]? = some (.frozen cs):=by unfold y24;rw[ho];simp[hlt]
   obtain⟨bk,r,b',c',e,_,hH⟩:=h1.sr.dom i _ hf rfl
   rw[hr] at r;simp at r;subst r;simp at e;obtain⟨rfl,rfl⟩:=e
   exact hH j hj
  obtain⟨H1,p1,m1⟩:=one
  obtain⟨H2,p2,m2⟩:=z2u l p1.sr
  refine⟨H2,p1.trans p2,fun id cs b c hid ho hr j hj=>?_⟩
  by_cases e:id=i
  ·subst e;exact p2.ext.hs _ _ (m1 cs b c ho hr j hj)
  ·rcases az.1 hid with h | h
   ·exact absurd h e
   ·refine m2 id cs b c h ?_ hr j hj
    unfold y24
    split
    ·rw[bl (eU e)];exact ho
    ·exact ho

theorem z1f{f:D->Option D}:∀{l r:List D},y1p f l=some r->r.length=l.length /\ ∀(j:Nat) x y,l[j]? = some x->r[j]? = some y->f x=some y
 |[],r,h=>by simp[y1p] at h;subst h;exact⟨rfl,fun j x y h=>by simp at h⟩
 |d::l,r,h=>by
  simp only[y1p] at h
  cases e1:f d with
  |none=>simp[e1] at h
  |some d'=>cases e2:y1p f l with
   |none=>simp[e1,e2] at h
   |some r'=>
    simp[e1,e2] at h;subst h
    obtain⟨h1,h2⟩:=z1f e2
    refine⟨by simp[h1],fun j x y hx hy=>?_⟩
    cases j with
    |zero=>simp at hx hy;subst hx;subst hy;exact e1
    |succ j=>exact h2 j x y (by simpa using hx) (by simpa using hy)

theorem zji{n:Nat}{d d':D}(h:frz os n d=some d')(ha:d.atom=true):d'.atom=true:=by
 cases n with
 |zero=>simp[frz] at h
 |succ n=>
  cases d <;> simp only[frz,D.atom,reduceCtorEq,aa,ab,aP] at h ha <;> try contradiction
  all_goals first
   |(subst h;rfl)
   |(obtain⟨_,_,rfl⟩:=h;rfl)
   |skip
  ·-- loc
   split at h
   ·simp at h;obtain⟨_,_,rfl⟩:=h;rfl
   ·simp at h
  ·split at h
   ·split at h
    ·simp at h;obtain⟨_,_,rfl⟩:=h;rfl
    ·simp at h
   ·simp at h
  ·rename_i id
   cases id with
   |none=>simp at h;subst h;rfl
   |some i=>simp at h

theorem zqi{n:Nat}{e e':D}(h:frz os n e=some e')(hs:e.storable=true):e'.cellsL.length=e.cellsL.length/\e'.storable=true /\
  ∀(j:Nat) c c',e.cellsL[j]? = some c->e'.cellsL[j]? = some c'->∃ m,m<=n/\frz os m c=some c' /\ ∀ id,id ∈ ids os m c->id ∈ ids os n e:=by
 by_cases hag:∃ cs,e=.agg cs
 ·obtain⟨cs,rfl⟩:=hag
  cases n with
  |zero=>simp[frz] at h
  |succ n=>
   simp only[frz,ab] at h
   obtain⟨r,hr,rfl⟩:=h
   obtain⟨h1,h2⟩:=z1f hr
   refine⟨h1,?_,fun j c c' hc hc'=>⟨n,eu _,h2 j c c' hc hc',fun id hid=>?_⟩⟩
   ·simp only[D.storable,aD] at hs ⊢
    intro x hx
    obtain⟨j,hj,rfl⟩:=ig hx
    have hj':j<cs.length:=by rw[<- h1];exact hj
    exact zji (h2 j cs[j] r[j] (ae hj') (ae hj)) (hs _ (aC hj'))
   ·simp only[ids,bJ]
    exact⟨c,by have:=aX hc;exact this,hid⟩
 ·have hat:e.atom=true:=by
   cases e <;> first | exact hs | exact absurd ⟨_,rfl⟩ hag
  have hat':=zji h hat
  have c1:e.cellsL=[e]:=by cases e <;> first | rfl | exact absurd ⟨_,rfl⟩ hag
  have c2:e'.cellsL=[e']:=by cases e' <;> first | rfl | (simp[D.atom] at hat')
  refine⟨by rw[c1,c2];rfl,?_,fun j c c' hc hc'=>?_⟩
  ·cases e' <;> first | exact hat' | (simp[D.atom] at hat')
  ·rw[c1] at hc;rw[c2] at hc'
   cases j with
   |zero=>simp at hc hc';subst hc;subst hc';exact⟨n,ai _,h,fun _ h=>h⟩
   |succ j=>simp at hc

theorem ze5{n:Nat}:∀{els els':List D},y1p (frz os n) els=some els'->(∀ x,x ∈ els->x.storable=true)->(yi els').length=(yi els).length /\
  (∀(j:Nat) c c',(yi els)[j]? = some c->(yi els')[j]? = some c'->∃ m,m<=n/\frz os m c=some c' /\ ∀ id,id ∈ ids os m c->id ∈ els.flatMap (ids os n)) /\
  ∀ su,(∀ x,x ∈ els->x.cellsL.length=su)->∀ x,x ∈ els'->x.cellsL.length=su/\x.storable=true
 |[],els',h,_=>by simp[y1p] at h;subst h;exact⟨rfl,fun j c c' h=>by simp[yi] at h,fun _ _ x h=>by simp at h⟩
 |e::els,els',h,hs=>by
  simp only[y1p] at h
  cases e1:frz os n e with
  |none=>simp[e1] at h
  |some d'=>cases e2:y1p (frz os n) els with
   |none=>simp[e1,e2] at h
   |some r'=>
    simp[e1,e2] at h;subst h
    obtain⟨h1,h2,h3⟩:=ze5 e2 (fun x hx=>hs x (by simp[hx]))
    obtain⟨g1,g2,g3⟩:=zqi e1 (hs e (by simp))
    refine⟨by simp only[zy,ak,h1,g1],fun j c c' hc hc'=>?_,fun su hu x hx=>?_⟩
    ·rw[zy] at hc hc'
     by_cases hj:j<e.cellsL.length
     ·rw[aB hj] at hc
      rw[aB (by omega)] at hc'
      obtain⟨m,m1,m2,m3⟩:=g3 j c c' hc hc'
      exact⟨m,m1,m2,fun id hid=>by simp only[bD,aN];exact .inl (m3 id hid)⟩
     ·rw[aF (by omega)] at hc
      rw[aF (by omega),g1] at hc'
      obtain⟨m,m1,m2,m3⟩:=h2 _ c c' hc hc'
      exact⟨m,m1,m2,fun id hid=>by simp only[bD,aN];exact .inr (m3 id hid)⟩
    ·rcases az.1 hx with rfl | hx
     ·exact⟨by rw[g1];exact hu e (by simp),g2⟩
     ·exact h3 su (fun y hy=>hu y (by simp[hy])) x hx

theorem ze2(hrow:∀(id b c:Nat) cs,ρ id=some (.blk b c)->yz os id=some cs->y55 φ ρ H hp b c cs)(hHH:∀ b o,H b o->H' b o):∀(n:Nat) {v:Value} {d d':D},Rep φ ρ H hp v d->frz os n d=some d' ->
  (∀ id,id ∈ ids os n d->∀ cs b c,yz os id=some cs -> ρ id=some (.blk b c)->∀ j,j<cs.length->H' b j)->Rep φ ρ' H' hp v d':=by
 intro n
 induction n using Nat.strongRecOn with
 |_ n ih=>
 intro v d d' hv h hk
 cases n with
 |zero=>simp[frz] at h
 |succ n=>
  have ih':∀ m,m<=n->∀{v:Value} {d d':D},Rep φ ρ H hp v d->frz os m d=some d'->(∀ id,id ∈ ids os m d->∀ cs b c,yz os id=some cs -> ρ id=some (.blk b c)->∀ j,j<cs.length->H' b j)->Rep φ ρ' H' hp v d':=
   fun m hm=>ih m (by omega)
  cases hv with
  |undef=>simp[frz] at h
  |bool b=>simp[frz] at h;subst h;exact .bool b
  |int k x=>simp[frz] at h;subst h;exact .int k x
  |str s=>simp[frz] at h;subst h;exact .str s
  |nilp=>simp[frz] at h;subst h;exact .nilp
  |nilfn=>simp[frz] at h;subst h;exact .nilfn
  |mapn=>simp[frz] at h;subst h;exact .mapn
  |bfn f f' v d hf hr=>simp[frz] at h
  |map b c id hid=>simp[frz] at h
  |yld b c id hid=>simp[frz] at h
  |loc b c id off hid=>
   simp only[frz] at h
   split at h
   ·rename_i cs hr
    simp only[ab] at h
    obtain⟨r,h1,rfl⟩:=h
    obtain⟨g1,g2⟩:=z1f h1
    obtain⟨arr,el,r1,r2,r3,r4,r5⟩:=hrow id b c cs hid hr
    have hK:=hk id (by simp[ids]) cs b c hr hid
    have hlen:r.length=cs.length - off:=by rw[g1];simp
    refine .iptr b off r (fun j=>arr.toList.getD (off+j) bj) (fun j hj=>⟨hK _ (by omega),?_⟩) (fun j d1 hd=>?_)
    ·have:off+j<arr.size:=by omega
     simp[cellOf,r1,this]
    ·have hj:j<r.length:=(ac.1 hd).1
     have hja:off+j<arr.size:=by omega
     have hjc:off+j<cs.length:=by omega
     have hc:(cs.drop off)[j]? = some cs[off+j]:=by rw[bX,ae hjc]
     have hf:=g2 j _ d1 hc hd
     have hr0:=r4 (off+j) arr[off+j] cs[off+j] (by simp[hja]) (ae hjc)
     have:arr.toList.getD (off+j) bj=arr[off+j]:=by simp[aj,hja]
     rw[this]
     refine ih' n (ai _) hr0 hf (fun id' hid'=>hk id' ?_)
     simp only[ids,az,hr,bJ]
     exact .inr ⟨_,aX hc,hid'⟩
   ·simp at h
  |iptr b off cells vs hH hr=>
   simp only[frz,ab] at h
   obtain⟨r,h1,rfl⟩:=h
   obtain⟨g1,g2⟩:=z1f h1
   refine .iptr b off r vs (fun j hj=>⟨hHH _ _ (hH j (by omega)).1,(hH j (by omega)).2⟩) (fun j d1 hd=>?_)
   have hj:j<cells.length:=by rw[<- g1];exact(ac.1 hd).1
   have hc:=ae hj
   refine ih' n (ai _) (hr j _ hc) (g2 j _ d1 hc hd) (fun id' hid'=>hk id' ?_)
   simp only[ids,bJ]
   exact⟨_,aX hc,hid'⟩
  |imm sp els a cap b off su vs hu hcap hex htok ha hH hr=>
   simp only[frz,ab] at h
   obtain⟨r,h1,rfl⟩:=h
   obtain⟨g1,g2⟩:=z1f h1
   obtain⟨f1,f2,f3⟩:=ze5 h1 (fun x hx=>(hu x hx).2)
   rw[<- g1]
   refine .imm .none r a cap b off su vs (f3 su (fun x hx=>(hu x hx).1)) (by omega) (fun h=>by cases h) (fun k h=>by cases h) (fun hne=>ha (fun e=>hne (by subst e;simpa using g1))) (fun j hj=>⟨hHH _ _ (hH j (by omega)).1,(hH j (by omega)).2⟩) (fun j d1 hd=>?_)
   have hj:j<(yi els).length:=by rw[<- f1];exact(ac.1 hd).1
   have hc:=ae hj
   obtain⟨m,m1,m2,m3⟩:=f2 j _ d1 hc hd
   exact ih' m m1 (hr j _ hc) m2 (fun id' hid'=>hk id' (by simp only[ids];exact m3 id' hid'))
  |sl id off len sz ag gr b c cap a hid hl ha hc=>
   simp only[frz] at h
   split at h
   ·rename_i cs hrow'
    split at h
    ·rename_i els hch
     simp only[ab] at h
     obtain⟨r,h1,rfl⟩:=h
     obtain⟨arr,el,r1,r2,r3,r4,r5⟩:=hrow id b c cs hid hrow'
     obtain⟨c1,c2,c3,c4⟩:=z8b (fun d hd=>r5 d (eP hd)) hch
     obtain⟨g1,g2⟩:=z1f h1
     obtain⟨f1,f2,f3⟩:=ze5 h1 (fun x hx=>(c4 x hx).2)
     have hK:=hk id (by simp[ids]) cs b c hrow' hid
     rw[cq] at c3
     have hfl:(yi els).length=len*sz:=by rw[c2];simp;omega
     have hrl:r.length=len:=by rw[g1,c1]
     have hcell:∀ j,j<len*sz->(yi els)[j]? = some (cs[off+j]?.getD .undef)/\off+j<cs.length:=by
      intro j hj
      have:off+j<cs.length:=by omega
      rw[c2,aU,if_pos hj,bX,ae this]
      simp[this]
     rw[<- hrl]
     refine .imm .none r a cap b off sz (fun j=>arr.toList.getD (off+j) bj) (f3 sz (fun x hx=>(c4 x hx).1)) (by omega) (fun h=>by cases h) (fun k h=>by cases h) (fun hne=>ha (fun e=>hne (bB.1 (by omega)))) (fun j hj=>?_) (fun j d1 hd=>?_)
     ·rw[f1,hfl] at hj
      have h2:=(hcell j hj).2
      refine⟨hK _ h2,?_⟩
      have:off+j<arr.size:=by omega
      simp[cellOf,r1,this]
     ·have hj:j<len*sz:=by rw[<- hfl,<- f1];exact(ac.1 hd).1
      obtain⟨e1,h2⟩:=hcell j hj
      have e2:(yi els)[j]? = some cs[off+j]:=by rw[e1];simp[h2]
      obtain⟨m,m1,m2,m3⟩:=f2 j _ d1 e2 hd
      have hja:off+j<arr.size:=by omega
      have hr0:=r4 (off+j) arr[off+j] cs[off+j] (by simp[hja]) (ae h2)
      have:arr.toList.getD (off+j) bj=arr[off+j]:=by simp[aj,hja]
      rw[this]
      refine ih' m m1 hr0 m2 (fun id' hid'=>?_)
      refine hk id' ?_
      simp only[ids,hrow',az,bJ]
      refine .inr ⟨cs[off+j],?_,zjd m1 hid'⟩
      refine aX (i:=j) ?_
      rw[aU,if_pos hj,bX,ae h2]
    ·simp at h
   ·simp at h
  |fn f f' cvs caps hf hs hr=>
   simp only[frz,ab] at h
   obtain⟨r,h1,rfl⟩:=h
   obtain⟨g1,g2⟩:=z1f h1
   refine .fn f f' cvs r hf (by omega) (fun j v1 d1 hv1 hd=>?_)
   have hj:j<caps.length:=by rw[<- g1];exact(ac.1 hd).1
   have hc:=ae hj
   refine ih' n (ai _) (hr j v1 _ hv1 hc) (g2 j _ d1 hc hd) (fun id' hid'=>hk id' ?_)
   simp only[ids,bJ]
   exact⟨_,aX hc,hid'⟩
  |agg vs cs hs hr=>
   simp only[frz,ab] at h
   obtain⟨r,h1,rfl⟩:=h
   obtain⟨g1,g2⟩:=z1f h1
   refine .agg vs r (by omega) (fun j v1 d1 hv1 hd=>?_)
   have hj:j<cs.length:=by rw[<- g1];exact(ac.1 hd).1
   have hc:=ae hj
   refine ih' n (ai _) (hr j v1 _ hv1 hc) (g2 j _ d1 hc hd) (fun id' hid'=>hk id' ?_)
   simp only[ids,bJ]
   exact⟨_,aX hc,hid'⟩
  |tup vs cs hs hr=>
   simp only[frz,ab] at h
   obtain⟨r,h1,rfl⟩:=h
   obtain⟨g1,g2⟩:=z1f h1
   refine .tup vs r (by omega) (fun j v1 d1 hv1 hd=>?_)
   have hj:j<cs.length:=by rw[<- g1];exact(ac.1 hd).1
   have hc:=ae hj
   refine ih' n (ai _) (hr j v1 _ hv1 hc) (g2 j _ d1 hc hd) (fun id' hid'=>hk id' ?_)
   simp only[ids,bJ]
   exact⟨_,aX hc,hid'⟩

theorem zjk(hrow:∀(id b c:Nat) cs,ρ id=some (.blk b c)->yz os id=some cs->y55 φ ρ H hp b c cs)(hHH:∀ b o,H b o->H' b o)(n:Nat){v:Value}{d d':D}(hv:Rep φ ρ H hp v d)(h:y9y os n d=some d')
  (hk:∀ id,id ∈ ids os n d->∀ cs b c,yz os id=some cs -> ρ id=some (.blk b c)->∀ j,j<cs.length->H' b j):Rep φ ρ' H' hp v d':=by
 unfold y9y at h
 split at h
 ·rename_i n els
  simp only[ab] at h
  obtain⟨r,h1,rfl⟩:=h
  have h2:frz os (n+1) (.imm .exact els)=some (.imm .none r):=by simp only[frz,h1,aq]
  have h3:Rep φ ρ' H' hp v (.imm .none r):=ze2 hrow hHH (n+1) hv h2 hk
  obtain⟨g1,_⟩:=z1f h1
  obtain⟨cap,a,e,hc⟩:∃ cap a,v=.slice a els.length cap/\cap=els.length:=by
   cases hv with
   |imm _ _ a cap b off su vs hu hcap hex htok ha hH hr=>exact⟨cap,a,rfl,hex rfl⟩
  subst e
  rw[<- g1] at h3 hc
  generalize hl:r.length=m at h3
  cases h3 with
  |imm _ _ _ _ b off su vs hu hcap hex htok ha hH hr=>
   rw[<- g1]
   exact .imm .exact r a cap b off su vs hu hcap (fun _=>hc) (fun k h=>by cases h) ha hH hr
 ·exact ze2 hrow hHH n hv h hk

theorem zt6(hrow:∀(id b c:Nat) cs,ρ id=some (.blk b c)->yz os id=some cs->y55 φ ρ H hp b c cs)(hHH:∀ b o,H b o->H' b o)(n:Nat){v:Value}{d d':D}(hv:Rep φ ρ H hp v d)(h:yba os n d=some d')
  (hk:∀ id,id ∈ ids os n d->∀ cs b c,yz os id=some cs -> ρ id=some (.blk b c)->∀ j,j<cs.length->H' b j):Rep φ ρ' H' hp v d':=by
 unfold yba at h
 split at h
 ·rename_i n cs
  simp only[ab] at h
  obtain⟨r,h1,rfl⟩:=h
  obtain⟨g1,g2⟩:=z1f h1
  cases hv with
  |tup vs _ hs hr=>
   refine .tup vs r (by omega) (fun j v1 d1 hv1 hd=>?_)
   have hj:j<cs.length:=by rw[<- g1];exact(ac.1 hd).1
   have hc:=ae hj
   refine zjk hrow hHH n (hr j v1 _ hv1 hc) (g2 j _ d1 hc hd) (fun id' hid'=>hk id' ?_)
   simp only[ids,bJ]
   exact⟨_,aX hc,hid'⟩
 ·exact zjk hrow hHH n hv h hk

theorem zt8(hrow:∀(id b c:Nat) cs,ρ id=some (.blk b c)->yz os id=some cs->y55 φ ρ H hp b c cs)(hHH:∀ b o,H b o->H' b o)(k:Bool){v:Value}{d d':D}(hv:Rep φ ρ H hp v d)(h:yao k os d=some d')
  (hk:∀ id,id ∈ ids os depth d->∀ cs b c,yz os id=some cs -> ρ id=some (.blk b c)->∀ j,j<cs.length->H' b j):Rep φ ρ' H' hp v d':=by
 cases k with
 |true=>exact zt6 hrow hHH depth hv h hk
 |false=>exact ze2 hrow hHH depth hv h hk

end
end Dv

namespace Dv
open Go (Value Program World Act Oper Operand Code)

def yc(F:Phi):Operand->Option Opd
 |.tmp t=>some (.t t)
 |.const (.agg cs)=>(y26 cs.toList).map fun ds=>.c (.agg ds)
 |.const v=>(y3v v).map .c
 |.func f=>(F f).map .f
 |.global g=>(glTab.lookup g).map fun cs=>.c (.iptr (cs.map fun p=>.int p.1 p.2))

def y2h(F:Phi):List Operand->Option (List Opd)
 |[]=>some []
 |x::xs=>match yc F x,y2h F xs with
  |some y,some ys=>some (y::ys)
  |_,_=>none

def y50(F:Phi):List (Nat × Operand)->Option (List (Nat × Opd))
 |[]=>some []
 |(i,x)::xs=>match yc F x,y50 F xs with
  |some y,some ys=>some ((i,y)::ys)
  |_,_=>none

def y3f(F:Phi):Option Operand->Option (Option Opd)
 |none=>some none
 |some x=>(yc F x).map some

def o1{α β : Type}(a:Option α)(f : α -> β):Option β:=a.map f
def o2{α β γ : Type}(a:Option α)(b:Option β)(f : α -> β -> γ):Option γ:=match a,b with | some a,some b=>some (f a b) | _,_=>none
def o3{α β γ δ : Type}(a:Option α)(b:Option β)(c:Option γ)(f : α -> β -> γ -> δ):Option δ:=match a,b,c with | some a,some b,some c=>some (f a b c) | _,_,_=>none
def o4{α β γ δ ε : Type}(a:Option α)(b:Option β)(c:Option γ)(d:Option δ)(f : α -> β -> γ -> δ -> ε):Option ε:=match a,b,c,d with | some a,some b,some c,some d=>some (f a b c d) | _,_,_,_=>none

def y81(T F:Phi):Go.Op->Option DOp
 |.move x=>o1 (yc F x) .move
 |.assign x=>o1 (yc F x) .assign
 |.pick c a b=>o3 (yc F c) (yc F a) (yc F b) .pick
 |.alloc t=>o1 (T t) .alloc
 |.box t x=>o2 (T t) (yc F x) .box
 |.build t parts=>o2 (T t) (y50 F parts.toList) .build
 |.buildSlice t len parts=>o2 (T t) (y50 F parts.toList) fun t ps=>.bslice false t len ps
 |.load t a=>o2 (T t) (yc F a) .load
 |.store t a x=>o3 (T t) (yc F a) (yc F x) .store
 |.binOp op t x y _=>o3 (T t) (yc F x) (yc F y) (.bin op)
 |.unOp op _ x=>o1 (yc F x) (.un op)
 |.convert s d x=>o3 (T s) (T d) (yc F x) .conv
 |.makeFunc (.func f) first caps=>if first.size=0 then o2 (F f) (y2h F caps.toList) .mkfn else
   (match first.toList,caps.toList with
   |[x],[]=>o2 (F f) (yc F x) .mkbfn
   |_,_=>none)
 |.makeMap t none=>o1 (T t) .mkmap
 |.makeSlice t l c=>o3 (T t) (yc F l) (yc F c) (.mkslice false)
 |.slice t x lo hi mx=>if mx.isSome=true/\hi.isSome=false then none else
   (match T t,yc F x,y3f F lo,y3f F hi,y3f F mx with
   |some t,some x,some lo,some hi,some mx=>some (.slice t x lo hi mx)
   |_,_,_,_,_=>none)
 |.fieldAddr t x f=>o2 (T t) (yc F x) fun t x=>.faddr t x f
 |.field t x f=>o2 (T t) (yc F x) fun t x=>.field t x f
 |.indexAddr t x i=>o3 (T t) (yc F x) (yc F i) .iaddr
 |.index t x i=>o3 (T t) (yc F x) (yc F i) .index
 |.lookup t m k ok=>o3 (T t) (yc F m) (yc F k) fun t m k=>.lookup t m k ok
 |.mapUpdate t m k v=>o4 (T t) (yc F m) (yc F k) (yc F v) .mapset
 |.extract x i=>o1 (yc F x) fun x=>.extract x i
 |.nilCheck x=>o1 (yc F x) fun x=>.nilc x
 |.call { callee:=.value f,args,argTypes:=_ }=>o2 (yc F f) (y2h F args.toList) (.call 0)
 |.call { callee:=.builtin .append,args,argTypes }=>(match args.toList,argTypes.toList with
  |[x,y],[t,t2]=>o4 (T t) (T t2) (yc F x) (yc F y) (.append 0)
  |_,_=>none)
 |.call { callee:=.builtin .len,args,argTypes }=>(match args.toList,argTypes.toList with
  |[x],[t]=>o2 (T t) (yc F x) .len
  |_,_=>none)
 |.call { callee:=.builtin .max,args,argTypes:=_ }=>o1 (y2h F args.toList) .maxi
 |.call { callee:=.builtin .min,args,argTypes:=_ }=>o1 (y2h F args.toList) .mini
 |.call { callee:=.builtin .copy,args,argTypes }=>(match args.toList,argTypes.toList with
  |[x,y],[t,t2]=>o4 (T t) (T t2) (yc F x) (yc F y) .copy
  |_,_=>none)
 |.call { callee:=.builtin .clear,args,argTypes }=>(match args.toList,argTypes.toList with
  |[x],[t]=>o2 (T t) (yc F x) .clr
  |_,_=>none)
 |_=>none

def yq:DOp->DOp
 |.bslice _ t len ps=>.bslice false t len ps
 |.mkslice _ t l c=>.mkslice false t l c
 |.append _ t t2 x y=>.append 0 t t2 x y
 |.call md f as=>.call (if md<5 then 0 else md) f as
 |.b2s s d x=>.conv s d x
 |.s2b s d x=>.conv s d x
 |.mkcap t l c=>.mkslice false t l c
 |.reslice t x h=>.slice t x none (some h) none
 |.ibox t x=>.box t x
 |.mkcall f as=>.call 0 f as
 |.iload t a=>.load t a
 |op=>op

def y4m(ops:List Oper):Option (Nat × Bool)->Option (Option (Nat × Bool))
 |none=>some none
 |some (j,b)=>(match ops[j]? with
  |some o=>(match o.dst with
   |some d=>some (some (d,b))
   |none=>none)
  |none=>none)

def y36(T F:Phi)(all:List Oper):List Oper->Option (List y1a)
 |[]=>some []
 |o::os=>(match y81 T F o.op,y4m all o.guard,y36 T F all os with
  |some op,some gd,some r=>some (⟨o.dst,op,gd⟩::r)
  |_,_,_=>none)

def y19:List y1a->List y1a
 |[]=>[]
 |o::os=>⟨o.dst,yq o.op,o.gd⟩::y19 os

abbrev y9l:DC:=.cond (.c .undef) .skip .skip

structure y96 where
 t:Nat
 t':Nat
 mt:Nat
 kt:Nat
 vt:Nat
 dE:Nat
 dX:Nat
 oE:Oper
 oX:Oper
 oS:Oper

def y3r(q:y96):List y1a:=
 [⟨some q.dX,.move (.c (.bool true)),none⟩,⟨some q.dE,.pick (.t q.dX) (.c (.bool true)) (.c (.bool true)),none⟩,⟨some q.dX,.pick (.t q.dE) (.c .undef) (.c .undef),none⟩,⟨some q.dE,.move (.c .undef),none⟩,
  ⟨none,.mapset q.t' (.t q.mt) (.t q.kt) (.t q.vt),none⟩]

def y38:List Oper->Option (List Oper × Oper × Oper × Oper)
 |[a,b,c]=>some ([],a,b,c)
 |x::r=>(match y38 r with
  |some (l,p)=>some (x::l,p)
  |none=>none)
 |[]=>none
def y7n(t':Nat)(oE oX oS:Oper):Option y96:=
 match oE.op,oE.dst,oX.op,oX.dst,oS.op with
 |.mapEntry t (.tmp mt) (.tmp kt),some dE,.extract (.tmp dE') 1,some dX,.entryStore t2 (.tmp mt2) (.tmp dX') (.tmp vt)=>
  if dE=dE'/\dX=dX'/\t=t2/\mt=mt2/\oE.guard.isNone=true/\oX.guard.isNone=true/\oS.guard.isNone=true/\oS.dst.isNone=true then some ⟨t,t',mt,kt,vt,dE,dX,oE,oX,oS⟩ else none
 |_,_,_,_,_=>none
def asgT(T:Phi)(oE:Oper):Option Nat:=
 match oE.op with
 |.mapEntry t _ _=>T t
 |_=>none
def y8k(T F:Phi)(ops:List Oper):Option (List y1a):=
 match y38 ops with
 |some (pre,oE,oX,oS)=>(match y36 T F ops pre,asgT T oE with
  |some p,some t'=>(match y7n t' oE oX oS with
   |some q=>some (p++y3r q)
   |none=>none)
  |_,_=>none)
 |none=>none

def y2n(T F:Phi):Code->Option DC
 |.skip=>some .skip
 |.region _ ops dr=>some (match y36 T F ops.toList ops.toList with
  |some ds=>.region dr [] ds
  |none=>if dr=true then(match y8k T F ops.toList with
   |some ds=>.region false [] ds
   |none=>y9l) else y9l)
 |.seq a b=>o2 (y2n T F a) (y2n T F b) .seq
 |.cond c a b=>o3 (yc F c) (y2n T F a) (y2n T F b) .cond
 |.block id a=>o1 (y2n T F a) (.block id)
 |.loop a=>o1 (y2n T F a) .loop
 |.rangeFunc f ps asg body=>o3 (yc F f) (y2n T F asg) (y2n T F body) fun f a b=>.rfunc f ps.toList a b
 |.exit id=>some (.exit id)
 |.ret=>some .ret
 |_=>none

def y28:DC->DC
 |.region dr _ ops=>.region dr [] (y19 ops)
 |.seq a b=>.seq (y28 a) (y28 b)
 |.cond c a b=>.cond c (y28 a) (y28 b)
 |.block id a=>.block id (y28 a)
 |.loop a=>.loop (y28 a)
 |.rfunc f ps asg body=>.rfunc f ps (y28 asg) (y28 body)
 |c=>c

section
variable{P:Program}{E:Env}{CL:y1t}{F:Phi}{T:Phi}{B:Nat}{ρ : Rho}{H:HS}{os:List Obj}{w:World}{a:Act}{sl:List D}

theorem z2w{t:Nat}(hs:yt F ρ H w.heap a.tmps.toList sl):Rep F ρ H w.heap (a.eval (.tmp t)) (yn sl (.t t)):=by
 simp only[Act.eval,yn]
 by_cases ht:t<sl.length
 ·obtain⟨v,hv,hr⟩:=hs.get (ae ht)
  have h1:a.tmps.getD t bj=v:=by
   have:a.tmps[t]? = some v:=by simpa using hv
   simp[ay,this]
  rw[h1,aj,ae ht]
  exact hr
 ·have ht':sl.length<=t:=Nat.le_of_not_lt ht
  have h0:a.tmps.size=sl.length:=by simpa using hs.1
  have h1:a.tmps[t]? = none:=Array.getElem?_eq_none (by rw[h0];exact ht')
  have h2:sl[t]? = none:=be ht'
  rw[ay,h1,aj,h2]
  exact .u0

theorem zc(hB:HB H w.heap){x:Operand}{y:Opd}(hs:yt F ρ H w.heap a.tmps.toList sl)(h:yc F x=some y):Rep F ρ H w.heap (a.eval x) (yn sl y):=by
 unfold yc at h
 split at h
 ·rename_i t
  simp at h;subst h
  exact z2w hs
 ·rename_i cs
  simp only[ab] at h
  obtain⟨ds,h1,rfl⟩:=h
  have:=(z4s (φ:=F) (ρ:=ρ) (H:=H) (hp:=w.heap) h1).agg
  simpa[Act.eval,yn] using this
 ·simp only[ab] at h
  obtain⟨d,h1,rfl⟩:=h
  exact z8p h1
 ·simp only[ab] at h
  obtain⟨f',h1,rfl⟩:=h
  exact .fn _ f' #[] [] h1 rfl (fun j v d hv=>by simp at hv)
 ·rename_i g
  simp only[ab] at h
  obtain⟨cs,h1,rfl⟩:=h
  simp only[Act.eval,yn]
  refine .iptr g 0 _ (fun j=>.int (cs[j]?.getD (.i64,0)).1 (cs[j]?.getD (.i64,0)).2) (fun j hj=>?_) (fun j d hd=>?_)
  ·have hj':j<cs.length:=by simpa using hj
   have e:=hB.gl g cs h1 j (cs[j]).1 (cs[j]).2 (by simp[hj'])
   rw[bA]
   simpa[hj'] using e
  ·rw[bK] at hd
   cases hc:cs[j]? with
   |none=>rw[hc] at hd;simp at hd
   |some p=>
    rw[hc] at hd
    simp only[aq,aa] at hd
    subst hd
    exact .int _ _

theorem z4g(hB:HB H w.heap){xs:List Operand}{ys:List Opd}(hs:yt F ρ H w.heap a.tmps.toList sl)(h:y2h F xs=some ys):yt F ρ H w.heap (xs.map a.eval) (ys.map (yn sl)):=by
 induction xs generalizing ys with
 |nil=>simp[y2h] at h;subst h;exact .nil
 |cons x xs ih=>
  simp only[y2h] at h
  cases h1:yc F x with
  |none=>simp[h1] at h
  |some y=>cases h2:y2h F xs with
   |none=>simp[h1,h2] at h
   |some ys'=>simp[h1,h2] at h;subst h;exact .cons (zc hB hs h1) (ih h2)

theorem zg6(hB:HB H w.heap){xs:List (Nat × Operand)}{ys:List (Nat × Opd)}(hs:yt F ρ H w.heap a.tmps.toList sl)(h:y50 F xs=some ys):ybh F ρ H w.heap (xs.map fun p=>(p.1,a.eval p.2)) (ys.map fun p=>(p.1,yn sl p.2)):=by
 induction xs generalizing ys with
 |nil=>simp[y50] at h;subst h;exact⟨rfl,.nil⟩
 |cons x xs ih=>
  obtain⟨i,x⟩:=x
  simp only[y50] at h
  cases h1:yc F x with
  |none=>simp[h1] at h
  |some y=>cases h2:y50 F xs with
   |none=>simp[h1,h2] at h
   |some ys'=>
    simp[h1,h2] at h;subst h
    obtain⟨e1,e2⟩:=ih h2
    exact⟨by simp only[av,e1],by simp only[av];exact .cons (zc hB hs h1) e2⟩

theorem zb8(hB:HB H w.heap){x:Option Operand}{y:Option Opd}(hs:yt F ρ H w.heap a.tmps.toList sl)(h:y3f F x=some y):ybi F ρ H w.heap (x.map a.eval) (y.map (yn sl)):=by
 cases x with
 |none=>simp[y3f] at h;subst h;trivial
 |some x=>
  simp only[y3f,ab] at h
  obtain⟨z,h1,rfl⟩:=h
  exact zc hB hs h1

end
end Dv
