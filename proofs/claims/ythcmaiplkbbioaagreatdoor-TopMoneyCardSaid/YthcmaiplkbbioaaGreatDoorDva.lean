/- Texts that a proof of this claim uses, joined: Dv.Core, Dv.Prim, Dv.Glob, Dv.Rel, Dv.Val, Dv.Val2, Dv.Val3, Dv.Val4, Dv.Val5, Dv.Val6, Dv.Val7, Dv.Val8, Dv.Objs, Dv.Alloc, Dv.Alloc2, Dv.Append, Dv.Append2, Dv.Append3, Dv.Append4, Dv.Append5, Dv.Write, Dv.Write2, Dv.Write3, Dv.Write4, Dv.Ext, Dv.Snap, Dv.Strip. -/
import GoSem.Step
import Derived.OrdersIn
import Derived.RangeFuncLeaves
import Derived.Laws.StructEq
import Derived.IntWalk
import Derived.Laws.IdiomStrings
set_option linter.all false
open Array renaming getD_eq_getD_getElem?->az,getElem?_eq_getElem->bX,getElem?_eq_some_iff->aI,getElem?_modify->cC,getElem?_push->cA,getElem?_toList->fh,length_toList->cW,range->dZ,size_append->gY,size_map->nb,size_range->mo,toList_append->cB,toList_push->lP
open BitVec renaming ofInt->cy
open Bool renaming and_eq_true->ak,false_eq_true->aT,not_false->kf
open ByteArray renaming empty->jI
open ByteArray.toList renaming loop->iv
open Go renaming Addr->cF,BinOp->iT,Field->fo,IntKind->bj,MapEntry->bC,Obj->eI,Result->iw,Sem->fO,TypeDesc->pQ,TypeInfo->ma,asIntOf->eZ,binOp->cE,convert->kH,eqGuard->kG,fieldPlace->nX,getObj->fc,goInt->ju,grownCap->mb,isAgg->fp,loadCells->iA,loadCellsFrom->fA,newVar->nF,run_askRoom->ke,run_choose->nZ,run_equalIn_bool'->iC,sizeOf->gF,storeCells->ei,typeInfo->pP,undef->bu,underlying->kM,zeroValue->dt
open Go.Builtin renaming append_->bW,clear_->jm,copy_->ik,firstCells->aS,growBy->lO,lenOf->fF,len_->ff,max2->mK,max_->mJ,min2->mM,min_->mL,nextslicecap->fN,zeroCells->cm
open Go.Instr renaming alloc->na,box->jy,build->kb,buildSlice->gu,checkKey->cX,field->m8,fieldAt->jt,fill->nY,findAsking->fL,findKey->fC,findNow->fD,index->j0,indexAt->ge,keyThatStays->kg,loadAt->gA,lookup->iD,makeMap->ml,makeSlice->ew,mapUpdate->i9,sameNow->ii,slice->jZ,sliceAt->eW,sliceBound->dT,sliceBounds->fq,storeAt->mq,sureAddr->dA
open Go.IntKind renaming i64->aJ
open Go.IntWalk renaming i64_in->gX
open Go.Op renaming equal->jQ,intArith->iU,intBits->jg,intCmp->gG,intDiv->oK,maxDepth->ka,shift->pR,stringOp->m9,unary->jR
open Go.Question renaming appendCap->rt,forced->ux
open Go.Result renaming andThen_ok->au
open Go.Sem renaming run->e8,run_bind->ax,run_ite->iX,run_map->iW,run_pure->aP
open Int renaming eq_ofNat_of_zero_le->gU,mul_comm->oP,mul_le_mul_of_nonneg_left->cV,not_lt->tJ,toNat_natCast->bT
open List renaming all_cons->cG,all_eq_true->ay,append_assoc->bi,append_nil->bG,eq_of_mem_replicate->gH,ext_getElem?->cZ,flatMap_cons->bm,foldlM->pS,foldl_cons->bS,getD_eq_getElem?_getD->af,getElem?_append_left->aD,getElem?_append_right->aH,getElem?_cons_succ->df,getElem?_cons_zero->cu,getElem?_drop->cw,getElem?_eq_getElem->ac,getElem?_eq_none->aU,getElem?_eq_some_iff->ae,getElem?_map->ch,getElem?_range->fK,getElem?_set->bw,getElem?_set_ne->bo,getElem?_take->aZ,getElem?_toArray->ca,getElem_mem->av,getElem_of_mem->dD,length_append->ao,length_cons->ar,length_drop->er,length_eq_zero_iff->bF,length_map->aF,length_nil->aY,length_pos_iff->gv,length_take->bc,map_cons->al,mem_append->aB,mem_cons->aA,mem_cons_of_mem->cj,mem_flatMap->bB,mem_map->aL,mem_of_getElem?->bA,mem_of_mem_drop->bY,mem_of_mem_take->dM,mem_or_eq_of_mem_set->ft,mem_singleton->bz,range->bD,replicate->ah,set_append_right->et,set_cons_succ->i6,size_toArray->bQ,take_append_drop->bV,take_append_of_le_length->bN,take_length->bh,take_of_length_le->bd
open List.cons renaming injEq->bZ
open Nat renaming add_assoc->dq,add_mul->br,add_zero->dY,eq_zero_or_pos->eu,le_of_eq->dG,le_refl->aj,le_succ->fa,le_trans->aM,lt_irrefl->eh,lt_of_lt_of_le->aW,lt_of_not_le->js,lt_or_ge->cn,min->dw,min_zero->ld,mul_eq_zero->jH,mul_le_mul_left->kT,mul_le_mul_right->bE,mul_one->cN,ne_of_lt->fZ,zero_add->bM,zero_mul->fB
open Ne renaming symm->dF
open Option renaming getD_some->aX,isSome_iff_exists->gI,map_eq_some_iff->ab,map_none->ba,map_some->aq
open Option.some renaming injEq->aa
open Prod.mk renaming injEq->aw
open UInt8 renaming ofNat->cv
namespace Dv
open Go (IntKind BinOp UnOp)
inductive yt where
 |exact
 |none
 |tok (k:Nat)
inductive D where
 |undef
 |bool (b:Bool)
 |int (k:IntKind) (n:Int)
 |str (s:List UInt8)
 |nilp
 |loc (id off:Nat)
 |iptr (cells:List D)
 |imm (sp:yt) (els:List D)
 |sl (id off len sz:Nat) (ag gr:Bool)
 |map (id:Option Nat)
 |fn (f:Nat) (caps:List D)
 |bfn (f:Nat) (r:D)
 |nilfn
 |yld (id:Nat)
 |agg (cells:List D)
 |tup (vs:List D)
instance:Inhabited D:=⟨.undef⟩
inductive TK where
 |bool
 |int (k:IntKind)
 |str
 |slice (e:Nat)
 |struct (fs:List (Nat × Nat))
 |arr (n e:Nat)
 |map (k e:Nat)
 |ptr (e:Nat)
 |func
 |other
structure TI where
 k:TK
 size:Nat
 bytes:Nat
 zero:List D
 eqc:Bool
instance:Inhabited TI:=⟨⟨.other,0,0,[],false⟩⟩
def TI.ag(i:TI):Bool:=
 match i.k with
 |.struct _=>true
 |.arr _ _=>true
 |_=>false
inductive Opd where
 |t (n:Nat)
 |c (d:D)
 |f (k:Nat)
inductive DOp where
 |move (x:Opd)
 |assign (x:Opd)
 |pick (c a b:Opd)
 |alloc (t:Nat)
 |box (t:Nat) (x:Opd)
 |build (t:Nat) (parts:List (Nat × Opd))
 |bslice (mu:Bool) (t len:Nat) (parts:List (Nat × Opd))
 |load (t:Nat) (a:Opd)
 |store (t:Nat) (a x:Opd)
 |bin (op:BinOp) (t:Nat) (x y:Opd)
 |un (op:UnOp) (x:Opd)
 |conv (src dst:Nat) (x:Opd)
 |mkfn (f:Nat) (caps:List Opd)
 |mkmap (t:Nat)
 |mkslice (mu:Bool) (t:Nat) (l c:Opd)
 |slice (t:Nat) (x:Opd) (lo hi mx:Option Opd)
 |faddr (t:Nat) (x:Opd) (f:Nat)
 |field (t:Nat) (x:Opd) (f:Nat)
 |iaddr (t:Nat) (x i:Opd)
 |index (t:Nat) (x i:Opd)
 |lookup (t:Nat) (m k:Opd) (ok:Bool)
 |mapset (t:Nat) (m k v:Opd)
 |extract (x:Opd) (i:Nat)
 |call (md:Nat) (f:Opd) (args:List Opd)
 |append (mu:Nat) (t t2:Nat) (x y:Opd)
 |len (t:Nat) (x:Opd)
 |maxi (args:List Opd)
 |mini (args:List Opd)
 |copy (t t2:Nat) (x y:Opd)
 |nilc (x:Opd)
 |mark (b:Bool) (x:Opd)
 |b2s (s d:Nat) (x:Opd)
 |s2b (s d:Nat) (x:Opd)
 |mkcap (t:Nat) (l c:Opd)
 |reslice (t:Nat) (x h:Opd)
 |clr (t:Nat) (x:Opd)
 |ibox (t:Nat) (x:Opd)
 |iload (t:Nat) (a:Opd)
 |mkbfn (f:Nat) (x:Opd)
 |mkcall (f:Opd) (as:List Opd)
 |prim (n:Nat) (as:List Opd)
structure y1g where
 dst:Option Nat
 op:DOp
 gd:Option (Nat × Bool)
inductive DC where
 |skip
 |region (dr:Bool) (ap:List (Nat × Nat)) (ops:List y1g)
 |seq (a b:DC)
 |cond (c:Opd) (a b:DC)
 |ifp (x:Opd) (a b:DC)
 |block (id:Nat) (a:DC)
 |loop (a:DC)
 |rfunc (f:Opd) (ps:List Nat) (asg body:DC)
 |exit (id:Nat)
 |ret
inductive RV where
 |tmp (t:Nat)
 |cell (a t:Nat)
structure DFn where
 ntmps:Nat
 results:List RV
 body:DC
inductive Ex where
 |normal
 |exit (id:Nat)
 |ret
inductive Obj where
 |dead
 |cells (cs:List D)
 |frozen (cs:List D)
 |tok (used sz:Nat)
 |map (es:List (D × D))
 |loop (busy:Bool) (y22:List D) (ps:List Nat) (asg body:DC) (pend:Option Ex)
structure Env where
 ty:Nat->TI
 fn:Nat->Option DFn
 keep:Nat->Bool
 mp:Nat->Bool:=fun _=>false
 prim:Nat->List D->List Obj->Option (D × List Obj):=fun _ _ _=>none
structure St where
 sl:List D
 hp:List Obj
def D.flatB:D->Bool
 |.bool _=>true
 |.int _ _=>true
 |.str _=>true
 |_=>false
def D.closed:D->Bool
 |.tup l=>l.all D.flatB
 |d=>d.flatB
def D.atom:D->Bool
 |.agg _=>false
 |.tup _=>false
 |.undef=>false
 |_=>true
def D.cellsL:D->List D
 |.agg cs=>cs
 |d=>[d]
def D.storable:D->Bool
 |.agg cs=>cs.all D.atom
 |d=>d.atom
def ym(ag:Bool)(cs:List D):Option D:=
 match ag,cs with
 |true,cs=>some (.agg cs)
 |false,[c]=>some c
 |false,_=>none
def y2d(cs:List D)(off:Nat):Nat->Option (List D)
 | 0=>some []
 |n+1=>match cs[off]? with
  |some c=>(match y2d cs (off+1) n with
   |some r=>some (c::r)
   |none=>none)
  |none=>none
def setCells(cs:List D)(off:Nat):List D->List D
 |[]=>cs
 |v::vs=>setCells (cs.set off v) (off+1) vs
def y31(sz:Nat)(ag:Bool):Nat->List D->Option (List D)
 | 0,_=>some []
 |n+1,cs=>match y2d cs 0 sz with
  |some c=>(match ym ag c,y31 sz ag n (cs.drop sz)with
   |some d,some r=>some (d::r)
   |_,_=>none)
  |none=>none
def yr(els:List D):List D:=els.flatMap D.cellsL
def y2a:D->D->Option Bool
 |.bool a,.bool b=>some (a == b)
 |.int k a,.int k' b=>if k=k' then some (a == b)else none
 |.str a,.str b=>some (a == b)
 |_,_=>none
def eqL:List D->List D->Option Bool
 |[],[]=>some true
 |x::xs,y::ys=>(match y2a x y,eqL xs ys with
  |some a,some b=>some (a && b)
  |_,_=>none)
 |_,_=>none
def D.eqb:D->D->Option Bool
 |.agg xs,.agg ys=>eqL xs ys
 |x,y=>y2a x y
def y17(k:D):List (D × D)->Option (Option D)
 |[]=>some none
 |e::es=>match k.eqb e.1 with
  |some true=>some (some e.2)
  |some false=>y17 k es
  |none=>none
def y1n(k v:D):List (D × D)->Option (List (D × D))
 |[]=>some [(k,v)]
 |e::es=>match k.eqb e.1 with
  |some true=>some ((k,v)::es)
  |some false=>(y1n k v es).map (e :: ·)
  |none=>none
def yg8(k:IntKind)(a b:Int):Int:=k.wrap ((cy k.bits a &&& cy k.bits b).toNat:Nat)
def yc3(k:IntKind)(a b:Int):Int:=k.wrap ((cy k.bits a ||| cy k.bits b).toNat:Nat)
def y9x(k:IntKind)(a b:Int):Int:=k.wrap ((cy k.bits a ^^^ cy k.bits b).toNat:Nat)
def y38(op:BinOp)(k:IntKind)(a b:Int):Option D:=
 match op with
 |.and=>some (.int k (yg8 k a b))
 |.or=>some (.int k (yc3 k a b))
 |.xor=>some (.int k (y9x k a b))
 |.add=>some (.int k (k.wrap (a+b)))
 |.sub=>some (.int k (k.wrap (a - b)))
 |.mul=>some (.int k (k.wrap (a*b)))
 |.quo=>if b=0 then none else some (.int k (k.wrap (a.tdiv b)))
 |.rem=>if b=0 then none else some (.int k (a.tmod b))
 |.eql=>some (.bool (a == b))
 |.neq=>some (.bool (a != b))
 |.lss=>some (.bool (decide (a<b)))
 |.leq=>some (.bool (decide (a<=b)))
 |.gtr=>some (.bool (decide (b<a)))
 |.geq=>some (.bool (decide (b<=a)))
 |_=>none
def y24:List D->List D->Bool
 |[],[]=>true
 |.bool _::xs,.bool _::ys=>y24 xs ys
 |.int k _::xs,.int k' _::ys=>decide (k=k') && y24 xs ys
 |.str _::xs,.str _::ys=>y24 xs ys
 |_,_=>false
def y3h(E:Env)(op:BinOp)(t:Nat)(x y:D):Option D:=
 match x,y with
 |.int k a,.int k' b=>(match op with
  |.shl=>if 0<=b then some (.int k (k.wrap (a*2 ^ (min b.toNat k.bits))))else none
  |.shr=>if 0<=b then some (.int k (a.fdiv (2 ^ (min b.toNat k.bits))))else none
  |op=>if k=k' then y38 op k a b else none)
 |.bool a,.bool b=>(match (E.ty t).k,op with
  |.bool,.eql=>some (.bool (a == b))
  |.bool,.neq=>some (.bool (!(a == b)))
  |_,_=>none)
 |.agg xs,.agg ys=>if(E.ty t).eqc=true/\y24 xs (E.ty t).zero=true then(match op,eqL xs ys with
  |.eql,some r=>some (.bool r)
  |.neq,some r=>some (.bool (!r))
  |_,_=>none)else none
 |.str a,.str b=>(match op with
  |.eql=>some (.bool (a == b))
  |.neq=>some (.bool (!(a == b)))
  |_=>none)
 |_,_=>none
def unD(op:UnOp)(x:D):Option D:=
 match op,x with
 |.not,.bool b=>some (.bool (!b))
 |.xor,.int k n=>some (.int k (y9x k (if k.signed then -1 else k.max) n))
 |.neg,.int k n=>some (.int k (k.wrap (0 - n)))
 |_,_=>none
def y49(E:Env)(src dst:Nat)(x:D):Option D:=
 match (E.ty src).k,(E.ty dst).k,x with
 |.int _,.int k,.int _ n=>some (.int k (k.wrap n))
 |_,_,_=>none
def bnd(x:Option D)(dflt:Nat):Option Nat:=
 match x with
 |none=>some dflt
 |some (.int _ n)=>if 0<=n then some n.toNat else none
 |some _=>none
def y1c(E:Env)(hp:List Obj)(t:Nat)(a:D):Option D:=
 match a with
 |.loc id off=>(match hp[id]? with
  |some (.cells cs)=>(y2d cs off (E.ty t).size).bind (ym (E.ty t).ag)
  |some (.frozen cs)=>(y2d cs off (E.ty t).size).bind (ym (E.ty t).ag)
  |_=>none)
 |.iptr cs=>(y2d cs 0 (E.ty t).size).bind (ym (E.ty t).ag)
 |_=>none
def y8j(E:Env)(t:Nat)(a:D):Option D:=
 match a with
 |.iptr cs=>(y2d cs 0 (E.ty t).size).bind (ym (E.ty t).ag)
 |_=>none
def y3w(E:Env)(t:Nat)(x i:D):Option D:=
 match x,i,(E.ty t).k with
 |.imm _ els,.int _ n,.slice e=>
  if 0<=n then(match els[n.toNat]? with
   |some d=>if d.cellsL.length=(E.ty e).size then some (.iptr d.cellsL)else none
   |none=>none)else none
 |.sl id off len sz _ _,.int _ n,.slice e=>if 0<=n/\n<len/\sz=(E.ty e).size then some (.loc id (off+n.toNat*sz))else none
 |.loc id off,.int _ n,.arr len e=>if 0<=n/\n<len then some (.loc id (off+n.toNat*(E.ty e).size))else none
 |.iptr cs,.int _ n,.arr len e=>if 0<=n/\n<len then some (.iptr (cs.drop (n.toNat*(E.ty e).size)))else none
 |_,_,_=>none
def y27(sp:yt)(len hi:Nat)(mx:Option Nat):yt:=
 match mx with
 |some m=>if m=hi then .exact else .none
 |none=>if hi=len then(match sp with | .exact=>.exact | _=>.none)else .none
def y2u(sz:Nat)(els:List D):Bool:=
 match els with
 |[]=>true
 |d::_=>d.cellsL.length == sz
def y13(E:Env)(t:Nat)(x:D)(lo hi mx:Option D):Option D:=
 match x,(E.ty t).k with
 |.imm sp els,.slice e=>
  (match bnd lo 0,bnd hi els.length,bnd mx els.length with
  |some l,some h,some m=>if l<=h/\h<=m/\m<=els.length/\y2u (E.ty e).size els=true then some (.imm (y27 sp els.length h (mx.map fun _=>m)) ((els.drop l).take (h - l)))else none
  |_,_,_=>none)
 |.sl id off len sz ag _,.slice e=>
  (match bnd lo 0,bnd hi len,mx with
  |some l,some h,none=>if l<=h/\h<=len/\sz=(E.ty e).size then some (.sl id (off+l*sz) (h - l) sz ag false)else none
  |_,_,_=>none)
 |.loc id off,.arr n e=>
  (match bnd lo 0,bnd hi n,mx with
  |some l,some h,none=>if l<=h/\h<=n then some (.sl id (off+l*(E.ty e).size) (h - l) (E.ty e).size (E.ty e).ag false)else none
  |_,_,_=>none)
 |.iptr cs,.arr n e=>
  (match bnd lo 0,bnd hi n,mx with
  |some l,some h,none=>if l<=h/\h<=n/\n<=cs.length/\(E.ty e).size=1/\cs.all (fun d=>d.atom)=true then some (.imm .none ((cs.drop l).take (h - l)))else none
  |_,_,_=>none)
 |_,_=>none
def y6p(place:Nat->Option (Nat × Nat))(cells:List D):List (Nat × D)->Option (List D)
 |[]=>some cells
 |p::rest=>match place p.1 with
  |none=>none
  |some (off,size)=>if p.2.storable=true/\p.2.cellsL.length=size/\off+size<=cells.length then y6p place (setCells cells off p.2.cellsL) rest else none
def y8n(E:Env)(t:Nat)(parts:List (Nat × D)):Option D:=
 match (E.ty t).k with
 |.struct fs=>(y6p (fun i=>(fs[i]?).map fun f=>(f.1,(E.ty f.2).size)) (E.ty t).zero parts).map .agg
 |.arr _ e=>(y6p (fun i=>some (i*(E.ty e).size,(E.ty e).size)) (E.ty t).zero parts).map .agg
 |_=>none
def y7c(sz:Nat)(els:List D):List (Nat × D)->Option (List D)
 |[]=>some els
 |p::rest=>if p.2.storable=true/\p.2.cellsL.length=sz/\p.1<els.length then y7c sz (els.set p.1 p.2) rest else none
def y9q(E:Env)(t:Nat)(x:D)(f:Nat):Option D:=
 match (E.ty t).k,x with
 |.struct fs,.agg cs=>(match fs[f]? with
  |some (off,u)=>(y2d cs off (E.ty u).size).bind (ym (E.ty u).ag)
  |none=>none)
 |_,_=>none
def y69(E:Env)(t:Nat)(x:D)(f:Nat):Option D:=
 match (E.ty t).k,x with
 |.struct fs,.loc id off=>(match fs[f]? with
  |some (o,u)=>if(E.ty u).size=0 then none else some (.loc id (off+o))
  |none=>none)
 |.struct fs,.iptr cs=>(match fs[f]? with
  |some (o,u)=>if(E.ty u).size=0 then none else some (.iptr (cs.drop o))
  |none=>none)
 |_,_=>none
def y6m(E:Env)(t:Nat)(x i:D):Option D:=
 match (E.ty t).k,x,i with
 |.arr len e,.agg cs,.int _ n=>if 0<=n/\n<len then(y2d cs (n.toNat*(E.ty e).size) (E.ty e).size).bind (ym (E.ty e).ag)else none
 |.str,.str s,.int _ n=>if 0<=n then(match s[n.toNat]? with | some b=>some (.int .u8 b.toNat) | none=>none)else none
 |_,_,_=>none
def y7l(E:Env)(hp:List Obj)(t:Nat)(x:D):Option D:=
 match (E.ty t).k,x with
 |.slice _,.imm _ els=>some (.int .i64 els.length)
 |.slice _,.sl _ _ len _ _ _=>some (.int .i64 len)
 |.str,.str s=>some (.int .i64 s.length)
 |.arr n _,_=>some (.int .i64 n)
 |.map _ _,.map none=>some (.int .i64 0)
 |.map _ _,.map (some id)=>(match hp[id]? with
  |some (.map es)=>some (.int .i64 es.length)
  |_=>none)
 |_,_=>none
def y8k(f:Int->Int->Int)(k:IntKind)(a:Int):List D->Option D
 |[]=>some (.int k a)
 |.int k' b::r=>if k=k' then y8k f k (f a b) r else none
 |_::_=>none
def y8c:List D->Option D
 |.int k a::r=>y8k (fun a b=>if b > a then b else a) k a r
 |_=>none
def y8b:List D->Option D
 |.int k a::r=>y8k (fun a b=>if b<a then b else a) k a r
 |_=>none
def y4w(E:Env)(kt:Nat)(k:D):Bool:=
 match k,(E.ty kt).k with
 |.agg xs,_=>(E.ty kt).eqc && y24 xs (E.ty kt).zero
 |.bool _,.bool=>true
 |.int q _,.int q'=>decide (q=q')
 |.str _,.str=>true
 |_,_=>false
def y28(E:Env)(e:Nat):Option D:=
 if(E.ty e).zero.length=(E.ty e).size/\(E.ty e).size ≠ 0 then(match ym (E.ty e).ag (E.ty e).zero with
  |some z=>if z.cellsL.length=(E.ty e).size/\z.storable=true then some z else none
  |none=>none)else none
def y2f(E:Env)(hp:List Obj)(t:Nat)(m k:D)(ok:Bool):Option D:=
 match (E.ty t).k,m with
 |.map kt e,.map mid=>
  if y4w E kt k=true then
  (match (match mid with
   |none=>some []
   |some id=>(match hp[id]? with
    |some (.map es)=>some es
    |_=>none))with
  |some es=>(match y17 k es with
   |some (some v)=>some (if ok then .tup [v,.bool true]else v)
   |some none=>(match y28 E e with
     |some z=>some (if ok then .tup [z,.bool false]else z)
     |none=>none)
   |none=>none)
  |none=>none)else none
 |_,_=>none
def y14(hp:List Obj)(id:Nat):Option (List D):=
 match hp[id]? with
 |some (.cells cs)=>some cs
 |some (.frozen cs)=>some cs
 |_=>none
def y1k(f:D->Option D):List D->Option (List D)
 |[]=>some []
 |d::r=>match f d,y1k f r with
  |some d',some r'=>some (d'::r')
  |_,_=>none
def frz(hp:List Obj):Nat->D->Option D
 | 0,_=>none
 |n+1,d=>match d with
  |.bool b=>some (.bool b)
  |.int k x=>some (.int k x)
  |.str s=>some (.str s)
  |.nilp=>some .nilp
  |.nilfn=>some .nilfn
  |.map none=>some (.map none)
  |.imm _ els=>(y1k (frz hp n) els).map (.imm .none)
  |.agg cs=>(y1k (frz hp n) cs).map .agg
  |.tup cs=>(y1k (frz hp n) cs).map .tup
  |.fn f caps=>(y1k (frz hp n) caps).map (.fn f)
  |.iptr cs=>(y1k (frz hp n) cs).map .iptr
  |.sl id off len sz ag _=>(match y14 hp id with
   |some cs=>(match y31 sz ag len (cs.drop off)with
    |some els=>(y1k (frz hp n) els).map (.imm .none)
    |none=>none)
   |none=>none)
  |.loc id off=>(match y14 hp id with
   |some cs=>(y1k (frz hp n) (cs.drop off)).map .iptr
   |none=>none)
  |_=>none
def ybf(hp:List Obj):Nat->D->Option D
 |n+1,.imm .exact els=>(y1k (frz hp n) els).map (.imm .exact)
 |n,d=>frz hp n d
def yc4(hp:List Obj):Nat->D->Option D
 |n+1,.tup cs=>(y1k (ybf hp n) cs).map .tup
 |n,d=>ybf hp n d
def ids(hp:List Obj):Nat->D->List Nat
 | 0,_=>[]
 |n+1,d=>match d with
  |.imm _ els=>els.flatMap (ids hp n)
  |.agg cs=>cs.flatMap (ids hp n)
  |.tup cs=>cs.flatMap (ids hp n)
  |.fn _ caps=>caps.flatMap (ids hp n)
  |.iptr cs=>cs.flatMap (ids hp n)
  |.sl id off len sz _ _=>id::(match y14 hp id with
   |some cs=>((cs.drop off).take (len*sz)).flatMap (ids hp n)
   |none=>[])
  |.loc id off=>id::(match y14 hp id with
   |some cs=>(cs.drop off).flatMap (ids hp n)
   |none=>[])
  |_=>[]
def y2g(hp:List Obj)(id:Nat):List Obj:=
 match hp[id]? with
 |some (.cells cs)=>hp.set id (.frozen cs)
 |_=>hp
def y11(hp:List Obj)(l:List Nat):List Obj:=l.foldl y2g hp
def depth:Nat:=12
def ybe(b:Bool)(hp:List Obj)(d:D):Option D:=match b with
 |true=>yc4 hp depth d
 |false=>frz hp depth d
def yq(sl:List D):Opd->D
 |.t n=>sl.getD n .undef
 |.c d=>d
 |.f k=>.fn k []
def y2e(hp:List Obj)(id:Nat)(o:Obj):List Obj:=if id<hp.length then hp.set id o else hp++[o]
def y1b(hp:List Obj)(sz:Nat)(ag:Bool)(d:D):Option (List D):=
 match d with
 |.imm _ els=>if els.all (fun d=>d.storable && d.cellsL.length == sz)then some els else none
 |.sl id off len sz' _ _=>if sz=sz' then(match y14 hp id with
  |some cs=>y31 sz ag len (cs.drop off)
  |none=>none)else none
 |_=>none
def yg:Nat:=17592186044416
def y2k(sz:Nat)(els:List D):Bool:=els.all fun d=>d.storable && d.cellsL.length == sz
structure Ef where
 d:D
 new:Option Obj
 kill:Option Nat
abbrev yd(b:UInt8):D:=.int .u8 b.toNat
def y2x(E:Env)(hp:List Obj)(id:Nat)(e:Nat)(sp:yt)(els new:List D):Option Ef:=
   if(els.length+new.length)*((E.ty e).bytes+1)<=yg/\(E.ty e).bytes<=65536/\(y28 E e).isSome=true/\y2k (E.ty e).size els=true then
    (match sp with
    |.exact=>some ⟨.imm (.tok id) (els++new),some (.tok ((els.length+new.length)*(E.ty e).size) (E.ty e).size),none⟩
    |.tok k=>(match hp[k]? with
     |some (.tok used sz)=>if used=els.length*(E.ty e).size/\sz=(E.ty e).size then
       some ⟨.imm (.tok id) (els++new),some (.tok ((els.length+new.length)*(E.ty e).size) (E.ty e).size),some k⟩else none
     |_=>none)
    |.none=>none)
   else none
def y3a(E:Env)(hp:List Obj)(id:Nat)(t t2:Nat)(x y:D):Option Ef:=
 match (E.ty t).k,(E.ty t2).k,x with
 |.slice e,.slice _,.imm sp els=>
  (match y1b hp (E.ty e).size (E.ty e).ag y with
  |some new=>y2x E hp id e sp els new
  |none=>none)
 |.slice e,.str,.imm sp els=>
  (match y with
  |.str s=>if 1=(E.ty e).size/\(E.ty e).ag=false then y2x E hp id e sp els (s.map yd)else none
  |_=>none)
 |_,_,_=>none
def y1q(E:Env)(hp:List Obj)(id:Nat)(t t2:Nat)(x y:D):Option Ef:=
 match (E.ty t).k,(E.ty t2).k,x with
 |.slice e,.slice _,.imm .exact els=>
  (match y1b hp (E.ty e).size (E.ty e).ag y with
  |some new=>
    if new.length=0 then some ⟨.imm .exact els,none,none⟩else
    if(els.length+new.length)*((E.ty e).bytes+1)<=yg/\(E.ty e).bytes<=65536/\(y28 E e).isSome=true/\y2k (E.ty e).size els=true then
     some ⟨.sl id 0 (els.length+new.length) (E.ty e).size (E.ty e).ag true,some (.cells (yr els++yr new)),none⟩
    else none
  |none=>none)
 |_,_,_=>none
def y3b(E:Env)(hp:List Obj)(t t2:Nat)(x y:D):Option (D × List Obj):=
 match (E.ty t).k,(E.ty t2).k,x with
 |.slice e,.slice _,.sl k 0 len sz ag true=>
  (match y1b hp (E.ty e).size (E.ty e).ag y with
  |some new=>(match hp[k]? with
    |some (.cells cs)=>
     if new.length=0 then some (.sl k 0 len sz ag true,hp)else
     if(len+new.length)*((E.ty e).bytes+1)<=yg/\(E.ty e).bytes<=65536/\(y28 E e).isSome=true/\sz=(E.ty e).size/\cs.length=len*sz then
      some (.sl hp.length 0 (len+new.length) (E.ty e).size (E.ty e).ag true,(hp.set k .dead)++[.cells (cs++yr new)])
     else if(len+new.length)*((E.ty e).bytes+1)<=yg/\(E.ty e).bytes<=65536/\(y28 E e).isSome=true/\sz=(E.ty e).size/\len*sz<=cs.length then
      some (.sl hp.length 0 (len+new.length) (E.ty e).size (E.ty e).ag true,(hp.set k .dead)++[.cells (cs.take (len*sz)++yr new)])
     else none
    |_=>none)
  |none=>none)
 |.slice e,.slice _,.imm .exact els=>
  (match y1b hp (E.ty e).size (E.ty e).ag y with
  |some new=>
    if new.length=0 then some (.imm .exact els,hp)else
    if(els.length+new.length)*((E.ty e).bytes+1)<=yg/\(E.ty e).bytes<=65536/\(y28 E e).isSome=true/\y2k (E.ty e).size els=true then
     some (.sl hp.length 0 (els.length+new.length) (E.ty e).size (E.ty e).ag true,hp++[.cells (yr els++yr new)])
    else none
  |none=>none)
 |_,_,_=>none
def y4e(E:Env)(hp:List Obj)(t:Nat)(a x:D):Option (List Obj):=
 match a with
 |.loc id off=>(match hp[id]? with
  |some (.cells cs)=>if x.storable=true/\x.cellsL.length=(E.ty t).size/\off+(E.ty t).size<=cs.length then some (hp.set id (.cells (setCells cs off x.cellsL)))else none
  |_=>none)
 |_=>none
def y7d(E:Env)(hp:List Obj)(t t2:Nat)(x y:D):Option (D × List Obj):=
 match (E.ty t).k,(E.ty t2).k,x with
 |.slice e,.slice _,.sl id off len sz _ _=>
  (match hp[id]?,y1b hp (E.ty e).size (E.ty e).ag y with
  |some (.cells cs),some new=>
   if sz=(E.ty e).size/\off+len*sz<=cs.length then
    some (.int .i64 ((dw new.length len:Nat):Int),hp.set id (.cells (setCells cs off (yr (new.take (dw new.length len))))))
   else none
  |_,_=>none)
 |.slice e,.slice _,.imm _ []=>(match y1b hp (E.ty e).size (E.ty e).ag y with
  |some _=>some (.int .i64 0,hp)
  |none=>none)
 |_,_,_=>none
def y39(E:Env)(hp:List Obj)(t:Nat)(m k v:D):Option (List Obj):=
 match (E.ty t).k,m with
 |.map kt e,.map (some id)=>
  if y4w E kt k=true/\v.storable=true/\v.cellsL.length=(E.ty e).size then
  (match hp[id]? with
  |some (.map es)=>(y1n k v es).map fun es'=>hp.set id (.map es')
  |_=>none)else none
 |_,_=>none
def y4b:List D->Option (List UInt8)
 |[]=>some []
 |.int .u8 n::r=>(match y4b r with
  |some s=>some (cv n.toNat::s)
  |none=>none)
 |_=>none
def y6l(E:Env)(e:Nat):Bool:=match (E.ty e).k with
 |.int .u8=>true
 |_=>false
def ygq(E:Env)(s d:Nat)(x:D):Option D:=
 match (E.ty s).k,(E.ty d).k,x with
 |.slice e,.str,.imm _ els=>if y6l E e=true then(y4b els).map .str else none
 |_,_,_=>none
def ygk(E:Env)(s d:Nat)(x:D):Option D:=
 match (E.ty s).k,(E.ty d).k,x with
 |.str,.slice e,.str b=>if y6l E e=true then some (.imm .none (b.map yd))else none
 |_,_,_=>none
def y67(E:Env)(hp:List Obj)(t:Nat)(l c:D):Option (D × List Obj):=
 match (E.ty t).k,l,c with
 |.slice e,.int _ l,.int _ c=>(match y28 E e with
  |some z=>if 0<=l/\l<=c/\c*((E.ty e).bytes+1)<=yg then some (.sl hp.length 0 l.toNat (E.ty e).size (E.ty e).ag true,hp++[.cells (yr (ah c.toNat z))])else none
  |none=>none)
 |_,_,_=>none
def y3e(E:Env)(hp:List Obj)(t:Nat)(x h:D):Option (D × List Obj):=
 match (E.ty t).k,x,h with
 |.slice e,.sl id 0 _ sz ag true,.int _ h=>(match hp[id]? with
  |some (.cells cs)=>if 0<=h/\h.toNat*sz<=cs.length/\sz=(E.ty e).size/\sz ≠ 0 then some (.sl id 0 h.toNat sz ag true,hp)else none
  |_=>none)
 |_,_,_=>none
def yc9(E:Env)(hp:List Obj)(t:Nat)(x:D):Option (D × List Obj):=
 match (E.ty t).k,x with
 |.slice e,.sl id off len sz _ _=>(match hp[id]?,y28 E e with
  |some (.cells cs),some z=>if sz=(E.ty e).size/\off+len*sz<=cs.length then some (.undef,hp.set id (.cells (setCells cs off (yr (ah len z)))))else none
  |_,_=>none)
 |_,_=>none
def DOp.fin:DOp->Bool
 |.mkcall _ _=>true
 |.prim _ _=>true
 |.mkcap _ _ _=>true
 |.reslice _ _ _=>true
 |.clr _ _=>true
 |.store _ _ _=>true
 |.mapset _ _ _ _=>true
 |.copy _ _ _ _=>true
 |.append 2 _ _ _ _=>true
 |.call 0 _ _=>false
 |.call _ _ _=>true
 |_=>false
def yk(hp:List Obj)(id:Nat)(e:Ef):List Obj:=
 match e.kill,e.new with
 |none,none=>hp
 |none,some o=>y2e hp id o
 |some k,none=>hp.set k .dead
 |some k,some o=>y2e (hp.set k .dead) id o
def yb(E:Env)(callP:Nat->List D->Option D)(id:Nat)(g:Opd->D)(hp:List Obj)(op:DOp):Option Ef:=
 match op with
 |.move x=>some ⟨g x,none,none⟩
 |.assign x=>some ⟨g x,none,none⟩
 |.pick c a b=>(match g c with
  |.bool t=>some ⟨if t then g a else g b,none,none⟩
  |_=>none)
 |.alloc t=>if(E.ty t).zero.all D.atom/\(E.ty t).zero.length=(E.ty t).size/\(E.ty t).size ≠ 0 then some ⟨.loc id 0,some (.cells (E.ty t).zero),none⟩else none
 |.box _ x=>if(g x).storable then some ⟨.loc id 0,some (.cells (g x).cellsL),none⟩else none
 |.build t parts=>if(E.ty t).zero.length=(E.ty t).size/\(E.ty t).size ≠ 0 then(y8n E t (parts.map fun p=>(p.1,g p.2))).map (⟨·,none,none⟩)else none
 |.bslice mu t len parts=>(match (E.ty t).k with
  |.slice e=>(match y28 E e with
   |some z=>if len*(E.ty e).size<=16777216 then
     (match y7c (E.ty e).size (ah len z) (parts.map fun p=>(p.1,g p.2))with
     |some els=>if mu/\len ≠ 0 then some ⟨.sl id 0 len (E.ty e).size (E.ty e).ag true,some (.cells (yr els)),none⟩
       else some ⟨.imm .exact els,none,none⟩
     |none=>none)else none
   |none=>none)
  |_=>none)
 |.load t a=>(y1c E hp t (g a)).map (⟨·,none,none⟩)
 |.ibox _ x=>if(g x).storable=true then some ⟨.iptr (g x).cellsL,none,none⟩else none
 |.iload t a=>(y8j E t (g a)).map (⟨·,none,none⟩)
 |.mkbfn f x=>some ⟨.bfn f (g x),none,none⟩
 |.b2s s d x=>(ygq E s d (g x)).map (⟨·,none,none⟩)
 |.s2b s d x=>(ygk E s d (g x)).map (⟨·,none,none⟩)
 |.bin op t x y=>(y3h E op t (g x) (g y)).map (⟨·,none,none⟩)
 |.un op x=>(unD op (g x)).map (⟨·,none,none⟩)
 |.conv s d x=>(y49 E s d (g x)).map (⟨·,none,none⟩)
 |.mkfn f caps=>some ⟨.fn f (caps.map g),none,none⟩
 |.mkmap _=>some ⟨.map (some id),some (.map []),none⟩
 |.mkslice mu t l c=>(match (E.ty t).k,g l,g c with
  |.slice e,.int _ l,.int _ c=>
   (match y28 E e with
   |some z=>
    if 0<=l/\l=c/\c*((E.ty e).bytes+1)<=yg then
     (if mu then some ⟨.sl id 0 l.toNat (E.ty e).size (E.ty e).ag true,some (.cells (yr (ah l.toNat z))),none⟩
     else some ⟨.imm .exact (ah l.toNat z),none,none⟩)
    else none
   |none=>none)
  |_,_,_=>none)
 |.slice t x lo hi mx=>(y13 E t (g x) (lo.map g) (hi.map g) (mx.map g)).map (⟨·,none,none⟩)
 |.faddr t x f=>(y69 E t (g x) f).map (⟨·,none,none⟩)
 |.field t x f=>(y9q E t (g x) f).map (⟨·,none,none⟩)
 |.iaddr t x i=>(y3w E t (g x) (g i)).map (⟨·,none,none⟩)
 |.index t x i=>(y6m E t (g x) (g i)).map (⟨·,none,none⟩)
 |.lookup t m k ok=>(y2f E hp t (g m) (g k) ok).map (⟨·,none,none⟩)
 |.extract x i=>(match g x with
  |.tup vs=>(vs[i]?).map (⟨·,none,none⟩)
  |_=>none)
 |.append md t t2 x y=>(match md with
  | 0=>y3a E hp id t t2 (g x) (g y)
  | 1=>y1q E hp id t t2 (g x) (g y)
  |_=>none)
 |.len t x=>(y7l E hp t (g x)).map (⟨·,none,none⟩)
 |.nilc x=>(match g x with
  |.loc i o=>some ⟨.loc i o,none,none⟩
  |.iptr cs=>some ⟨.iptr cs,none,none⟩
  |_=>none)
 |.mark b x=>(match b,g x with
  |false,.int .i64 n=>some ⟨.tup [.undef,.int .i64 n],none,none⟩
  |true,.agg [.int .i64 n]=>some ⟨.tup [.undef,.agg [.int .i64 n]],none,none⟩
  |_,_=>none)
 |.maxi as=>(y8c (as.map g)).map (⟨·,none,none⟩)
 |.mini as=>(y8b (as.map g)).map (⟨·,none,none⟩)
 |.call 0 f as=>(match g f with
  |.fn k caps=>(match y1k (frz [] depth) (as.map g++caps)with
    |some vs=>(callP k vs).map (⟨·,none,none⟩)
    |none=>none)
  |_=>none)
 |_=>none
def yy:D->Bool
 |.tup (.undef::_)=>true
 |.agg (.undef::_)=>true
 |_=>false
def y18(r:Option (D × List Obj)):Option (D × List Obj):=
 match r with
 |some (d,hp)=>if yy d=true then none else some (d,hp)
 |none=>none
def zm{x:Option (D × List Obj)}{r:D × List Obj}(h:y18 x=some r):x=some r/\yy r.1=false:=by
 cases x with
 |none=>simp[y18]at h
 |some y=>
  obtain⟨d,hp⟩:=y;simp only[y18]at h;split at h
  ·simp at h
  ·rename_i hm;simp only[aa]at h;subst h;exact⟨rfl,by simpa using hm⟩
def z10{d:D}{hp:List Obj}(h:yy d=false):y18 (some (d,hp))=some (d,hp):=by simp[y18,h]
def yar(r:Option (D × List Obj)):Option D:=
 match r with
 |some (d,hp)=>if yy d=true then some d else frz hp depth d
 |none=>none
def y79(callS:Nat->List D->List Obj->Option (D × List Obj))(k:Nat)(vs:List D)(hp:List Obj):Option (D × List Obj):=
 (y18 (callS k vs (ah hp.length .dead))).map fun r=>(r.1,hp++r.2.drop hp.length)
def y8z(callS:Nat->List D->List Obj->Option (D × List Obj))(k:Nat)(r:D)(rest:List D)(hp:List Obj):Option (D × Nat × Obj):=
 match r with
 |.loc q 0=>(match hp[q]? with
  |some (.cells cs)=>(match y1k (frz [] depth) rest,y1k (frz [] depth) cs with
   |some vs,some cs1=>if(cs1.all fun d=>d.atom)=true then(match y18 (callS k (.loc 0 0::vs) [.cells cs1])with
    |some (d,hp2)=>(match List.head? hp2 with
     |some (.cells cs2)=>if(ids hp2 depth d++cs2.flatMap (ids hp2 depth)).contains 0=true then none else
      (match frz hp2 depth d,y1k (frz hp2 depth) cs2 with
      |some d1,some cs3=>if(cs3.all fun d=>d.atom)=true then some (d1,q,.cells cs3)else none
      |_,_=>none)
     |_=>none)
    |none=>none)else none
   |_,_=>none)
  |_=>none)
 |_=>none
def yo(E:Env)(callP:Nat->List D->Option D)(callS:Nat->List D->List Obj->Option (D × List Obj))
  (callY:Nat->List D->List Obj->Option (D × List Obj)) (g:Opd->D) (hp:List Obj) (op:DOp):Option (D × List Obj):=
 match op with
 |.store t a x=>(y4e E hp t (g a) (g x)).map (.undef,·)
 |.mapset t m k v=>(y39 E hp t (g m) (g k) (g v)).map (.undef,·)
 |.append _ t t2 x y=>y3b E hp t t2 (g x) (g y)
 |.copy t t2 x y=>y7d E hp t t2 (g x) (g y)
 |.mkcap t l c=>y67 E hp t (g l) (g c)
 |.mkcall f as=>(match g f with
  |.fn k caps=>(match y1k (frz [] depth) (as.map g++caps)with
    |some vs=>y79 callS k vs hp
    |none=>none)
  |_=>none)
 |.prim n as=>E.prim n (as.map g) hp
 |.reslice t x h=>y3e E hp t (g x) (g h)
 |.clr t x=>yc9 E hp t (g x)
 |.call 1 f as=>(match g f with
  |.fn k caps=>(match y1k (frz hp depth) (as.map g++caps)with
    |some vs=>(callP k vs).map (·,y11 hp ((as.map g++caps).flatMap (ids hp depth)))
    |none=>none)
  |_=>none)
 |.call 3 f as=>(match g f with
  |.fn k caps=>(match y1k (frz hp depth) (as.map g++caps)with
    |some vs=>(match callP k vs with
     |some d=>if d.closed=true then some (d,hp)else none
     |none=>none)
    |none=>none)
  |_=>none)
 |.call 4 f (x::as)=>(match g f with
  |.fn k caps=>(y8z callS k (g x) (as.map g++caps) hp).map fun r=>(r.1,hp.set r.2.1 r.2.2)
  |_=>none)
 |.call 4 f []=>(match g f with
  |.fn k caps=>(match y1k (frz [] depth) caps with
    |some vs=>y79 callS k vs hp
    |none=>none)
  |_=>none)
 |.call 5 f as=>(match g f with
  |.fn k caps=>if E.mp k=true then(match y1k (frz [] depth) (as.map g++caps)with
    |some vs=>(yar (callS k vs [])).map (·,hp)
    |none=>none)else none
  |_=>none)
 |.call 6 f as=>(match g f with
  |.fn k caps=>if E.mp k=true then callS k (as.map g++caps) hp else none
  |_=>none)
 |.call _ f as=>(match g f with
  |.fn k caps=>y18 (callS k (as.map g++caps) hp)
  |.bfn k r=>y18 (callS k (r::as.map g) hp)
  |.yld l=>callY l (as.map g) hp
  |_=>none)
 |_=>none
def yf(E:Env)(callP:Nat->List D->Option D)(callS:Nat->List D->List Obj->Option (D × List Obj))
  (callY:Nat->List D->List Obj->Option (D × List Obj)) (id:Nat) (g:Opd->D) (hp:List Obj) (op:DOp):Option (D × List Obj):=
 match op.fin with
 |true=>yo E callP callS callY g hp op
 |false=>(yb E callP id g hp op).map fun e=>(e.d,yk hp id e)
def y2i(sl:List D)(dst:Option Nat)(d:D):List D:=
 match dst with
 |some i=>sl.set i d
 |none=>sl
def yn(sl:List D)(gd:Option (Nat × Bool)):Bool:=
 match gd with
 |none=>true
 |some (j,b)=>(match sl.getD j .undef with
  |.bool c=>c == b
  |_=>false)
def yi(E:Env)(callP:Nat->List D->Option D)(callS:Nat->List D->List Obj->Option (D × List Obj))
  (callY:Nat->List D->List Obj->Option (D × List Obj)):List y1g->St->Option St
 |[],st=>some st
 |o::os,st=>
  if yn st.sl o.gd then
   (match yf E callP callS callY st.hp.length (yq st.sl) st.hp o.op with
   |some (d,hp)=>yi E callP callS callY os ⟨y2i st.sl o.dst d,hp⟩
   |none=>none)
  else yi E callP callS callY os ⟨y2i st.sl o.dst .undef,st.hp⟩
def did:D->Option Nat
 |.loc id _=>some id
 |.sl id _ _ _ _ _=>some id
 |.map (some id)=>some id
 |.imm (.tok k) _=>some k
 |_=>none
def y1r:DOp->List Opd
 |.load _ a=>[a]
 |.store _ a _=>[a]
 |.lookup _ m _ _=>[m]
 |.len _ x=>[x]
 |.append _ _ _ x y=>[x,y]
 |.call 4 _ (x::_)=>[x]
 |_=>[]
def y98(x y:Option Nat):Bool:=
 match x,y with
 |some i,some j=>i != j
 |_,_=>true
def yb5(sl:List D)(a b:Option y1g):Bool:=
 match a,b with
 |some a,some b=>(y1r a.op).all fun x=>(y1r b.op).all fun y=>y98 (did (yq sl x)) (did (yq sl y))
 |_,_=>false
def y8p(sl:List D)(ops:List y1g)(ap:List (Nat × Nat)):Bool:=ap.all fun p=>yb5 sl ops[p.1]? ops[p.2]?
def y2l(ops:List y1g)(ap:List (Nat × Nat)):Option St->Option St
 |some st=>if y8p st.sl ops ap then some st else none
 |none=>none
def y16(E:Env)(callP:Nat->List D->Option D)(callS:Nat->List D->List Obj->Option (D × List Obj))
  (callY:Nat->List D->List Obj->Option (D × List Obj)):Nat->List y1g->St->Option St
 |_,[],st=>some st
 |id,o::os,st=>
  if yn st.sl o.gd then
   (match yf E callP callS callY id (yq st.sl) st.hp o.op with
   |some (d,hp)=>y16 E callP callS callY (id+1) os ⟨y2i st.sl o.dst d,hp⟩
   |none=>none)
  else y16 E callP callS callY (id+1) os ⟨y2i st.sl o.dst .undef,st.hp⟩
def y6c(E:Env)(st:St):List RV->Option (List D)
 |[]=>some []
 |.tmp t::r=>(match y6c E st r with
  |some l=>some (st.sl.getD t .undef::l)
  |none=>none)
 |.cell a t::r=>(match y1c E st.hp t (st.sl.getD a .undef),y6c E st r with
  |some d,some l=>some (d::l)
  |_,_=>none)
def y2r(l:List D):D:=
 match l with
 |[d]=>d
 |l=>.tup l
def y23(sl:List D):List Nat->List D->List D
 |p::ps,v::vs=>y23 (sl.set p v) ps vs
 |_,_=>sl
def y29(E:Env)(F:DFn):Option (Ex × St)->Option (D × List Obj)
 |some (.ret,st)=>(y6c E st F.results).map fun l=>(y2r l,st.hp)
 |some (.normal,st)=>(y6c E st F.results).map fun l=>(y2r l,st.hp)
 |_=>none
def y95:Nat:=1000000
def y5d(E:Env)(F:DFn):Option (Ex × St)->Option (D × List Obj)
 |some (.ret,st)=>y18 ((y6c E st F.results).map fun l=>(y2r l,st.hp))
 |some (.normal,st)=>y18 ((y6c E st F.results).map fun l=>(y2r l,st.hp))
 |some (.exit i,st)=>if y95<=i/\yy (st.sl.getD (i - y95) .undef)=true then some (st.sl.getD (i - y95) .undef,st.hp)else none
 |none=>none
def y2s(b:Bool)(E:Env)(F:DFn)(x:Option (Ex × St)):Option (D × List Obj):=
 match b with
 |false=>y29 E F x
 |true=>y5d E F x
def yp(F:DFn)(args:List D)(hp:List Obj):St:=⟨args++ah (F.ntmps - args.length) .undef,hp⟩
def y1j(E:Env)(rec:DC->St->Option (Ex × St))(f:Nat)(args:List D)(hp:List Obj):Option (D × List Obj):=
 match E.fn f with
 |some F=>y2s (E.mp f) E F (rec F.body (yp F args hp))
 |none=>none
def yu(E:Env)(rec:DC->St->Option (Ex × St))(f:Nat)(args:List D):Option D:=
 match y1j E rec f args []with
 |some (d,hp)=>ybe (E.keep f) hp d
 |none=>none
def y6o(E:Env)(d:D):D:=
 match d with
 |.fn k caps=>if E.mp k=true then .undef else .fn k caps
 |d=>d
def zsh{E:Env}{d:D}{k:Nat}{caps:List D}(h:y6o E d=.fn k caps):d=.fn k caps/\E.mp k=false:=by
 cases d with
 |fn k' caps'=>
  simp only[y6o]at h;split at h
  ·cases h
  ·rename_i hm;cases h;exact⟨rfl,by simpa using hm⟩
 |_=>simp[y6o]at h
def y3d(rec:DC->St->Option (Ex × St))(l:Nat)(args:List D)(hp:List Obj):Option (D × List Obj):=
 match hp[l]? with
 |some (.loop false y22 ps asg body none)=>
  if args.length=ps.length then
   (match rec asg ⟨y23 y22 ps args,hp⟩with
   |some (.normal,st1)=>(match st1.hp[l]? with
    |some (.loop false slots1 ps1 asg1 body1 none)=>
     (match rec body ⟨st1.sl,st1.hp.set l (.loop true slots1 ps1 asg1 body1 none)⟩with
     |some (ex,st2)=>(match st2.hp[l]? with
      |some (.loop true slots2 ps2 asg2 body2 none)=>
       (match ex with
       |.normal=>some (.bool true,st2.hp.set l (.loop false slots2 ps2 asg2 body2 none))
       |ex=>some (.bool false,st2.hp.set l (.loop false slots2 ps2 asg2 body2 (some ex))))
      |_=>none)
     |none=>none)
    |_=>none)
   |_=>none)
  else none
 |_=>none
def dC(E:Env):Nat->DC->St->Option (Ex × St)
 | 0,_,_=>none
 |n+1,c,st=>match c with
  |.skip=>some (.normal,st)
  |.ret=>some (.ret,st)
  |.exit id=>some (.exit id,st)
  |.seq a b=>(match dC E n a st with
   |some (.normal,st')=>dC E n b st'
   |r=>r)
  |.cond c a b=>(match yq st.sl c with
   |.bool true=>dC E n a st
   |.bool false=>dC E n b st
   |_=>none)
  |.ifp x a b=>if yy (yq st.sl x)=true then dC E n a st else dC E n b st
  |.block id a=>(match dC E n a st with
   |some (.exit id',st')=>some (if id'=id then .normal else .exit id',st')
   |r=>r)
  |.loop a=>(match dC E n a st with
   |some (.normal,st')=>dC E n (.loop a) st'
   |r=>r)
  |.region dr ap ops=>
   (if dr then y2l ops ap (y16 E (yu E (dC E n)) (y1j E (dC E n)) (y3d (dC E n)) st.hp.length ops ⟨st.sl,st.hp++ah ops.length .dead⟩)
    else yi E (yu E (dC E n)) (y1j E (dC E n)) (y3d (dC E n)) ops st).map fun st'=>(.normal,st')
  |.rfunc f ps asg body=>(match y6o E (yq st.sl f)with
   |.fn k caps=>(match y1j E (dC E n) k (.yld st.hp.length::caps) (st.hp++[.loop false st.sl ps asg body none])with
    |some (_,hp')=>(match hp'[st.hp.length]? with
     |some (.loop false _ _ _ _ none)=>some (.normal,⟨st.sl,hp'.set st.hp.length .dead⟩)
     |some (.loop false _ _ _ _ (some ex))=>some (ex,⟨st.sl,hp'.set st.hp.length .dead⟩)
     |_=>none)
    |none=>none)
   |_=>none)
end Dv
namespace Dv
def y44(x y:Int × Int):Bool:=decide (x.1<y.1\/(x.1=y.1/\x.2<y.2))
def y1u(l:List (Int × Int)):List (Int × Int):=l.mergeSort fun x y=>!y44 y x
def y4t:List D->Option (List (Int × Int))
 |[]=>some []
 |.int .i64 a :: .int .i64 b::r=>(match y4t r with
  |some l=>some ((a,b)::l)
  |none=>none)
 |_=>none
def yh(l:List (Int × Int)):List D:=l.flatMap fun p=>[.int .i64 p.1,.int .i64 p.2]
def y7q(cmp:List Nat):List D->List Obj->Option (D × List Obj)
 |[.imm .exact [],.fn k []],hp=>if cmp.contains k=true then some (.tup [],hp)else none
 |[.sl id 0 len 2 _ _,.fn k []],hp=>if cmp.contains k=true then(match hp[id]? with
   |some (.cells cs)=>if cs.length=len*2/\len<=1000000000000 then(match y4t cs with
    |some ps=>some (.tup [],hp.set id (.cells (yh (y1u ps))))
    |none=>none)else none
   |_=>none)else none
 |_,_=>none
def y6k:List (D × D)->Option (List (Int × Int))
 |[]=>some []
 |(.agg [.int .i64 a,.int .i64 b],_)::r=>(match y6k r with
  |some l=>some ((a,b)::l)
  |none=>none)
 |_=>none
def ya5(it cmp:List Nat):List D->List Obj->Option (D × List Obj)
 |[.fn kk [.iptr [.map (some id)]],.fn k []],hp=>if(it.contains kk && cmp.contains k)=true then(match hp[id]? with
  |some (.map es)=>(match y6k es with
   |some ks=>if ks.length<=1000000 then some (.imm .none ((y1u ks).map fun p=>.agg [.int .i64 p.1,.int .i64 p.2]),hp)else none
   |none=>none)
  |_=>none)else none
 |_,_=>none
def ye3:Nat->List D->List Obj->Option (D × List Obj)
 | 0=>y7q [362,386]
 | 1=>ya5 [409] [386]
 |_=>fun _ _=>none
end Dv
namespace Dv
def glTab:List (Nat × List (bj × Int)):=[(0,[(.u32,1779033703),(.u32,3144134277),(.u32,1013904242),(.u32,2773480762),(.u32,1359893119),(.u32,2600822924),(.u32,528734635),(.u32,1541459225)]),(1,[(.u32,1116352408),(.u32,1899447441),(.u32,3049323471),(.u32,3921009573),(.u32,961987163),(.u32,1508970993),(.u32,2453635748),(.u32,2870763221),(.u32,3624381080),(.u32,310598401),(.u32,607225278),(.u32,1426881987),(.u32,1925078388),(.u32,2162078206),(.u32,2614888103),(.u32,3248222580),(.u32,3835390401),(.u32,4022224774),(.u32,264347078),(.u32,604807628),(.u32,770255983),(.u32,1249150122),(.u32,1555081692),(.u32,1996064986),(.u32,2554220882),(.u32,2821834349),(.u32,2952996808),(.u32,3210313671),(.u32,3336571891),(.u32,3584528711),(.u32,113926993),(.u32,338241895),(.u32,666307205),(.u32,773529912),(.u32,1294757372),(.u32,1396182291),(.u32,1695183700),(.u32,1986661051),(.u32,2177026350),(.u32,2456956037),(.u32,2730485921),(.u32,2820302411),(.u32,3259730800),(.u32,3345764771),(.u32,3516065817),(.u32,3600352804),(.u32,4094571909),(.u32,275423344),(.u32,430227734),(.u32,506948616),(.u32,659060556),(.u32,883997877),(.u32,958139571),(.u32,1322822218),(.u32,1537002063),(.u32,1747873779),(.u32,1955562222),(.u32,2024104815),(.u32,2227730452),(.u32,2361852424),(.u32,2428436474),(.u32,2756734187),(.u32,3204031479),(.u32,3329325298)])]
end Dv
namespace Dv
open Go (Value Program World Act Oper Operand Code)
inductive Bk where
 |blk (b c:Nat)
 |virt
abbrev Rho:=Nat->Option Bk
abbrev HS:=Nat->Nat->Prop
abbrev y1x:=Array eI
abbrev Phi:=Nat->Option Nat
structure y1v(w w':World):Prop where
 os:w'.os=w.os
 tape:w'.tape=w.tape
 out:w'.output=w.output
 dr:w.drawn<=w'.drawn
def y1v.refl(w:World):y1v w w:=⟨rfl,rfl,rfl,aj _⟩
def y1v.trans{w w' w'':World}(h:y1v w w')(h':y1v w' w''):y1v w w'':=⟨h'.os.trans h.os,h'.tape.trans h.tape,h'.out.trans h.out,aM h.dr h'.dr⟩
def y4n(_ _:y1x):Prop:=True
def y4n.refl(hp:y1x):y4n hp hp:=trivial
def y4n.trans{hp hp' hp'':y1x}(_:y4n hp hp')(_:y4n hp' hp''):y4n hp hp'':=trivial
def y4n.push(hp:y1x){o:eI}(_:∀ arr el fr,o=.cells arr el fr->fr=(0,0)):y4n hp (hp.push o):=trivial
def y4n.at{hp hp':y1x}{b:Nat}{o:eI}(_:hp'[b]? = some o)(_:∀ arr el fr,o=.cells arr el fr->fr=(0,0))(_:∀ b',b' ≠ b->hp'[b']? = hp[b']?):y4n hp hp':=trivial
def cellOf(hp:y1x)(b o:Nat):Option Value:=
 match hp[b]? with
 |some (.cells c _ _)=>c[o]?
 |_=>none
def cell?_eq (w:World) (b o:Nat):w.cell? ⟨b,o,none⟩=cellOf w.heap b o:=by
 unfold World.cell? cellOf;cases w.heap[b]? with
 |none=>rfl
 |some x=>cases x <;> rfl
inductive Rep (φ : Phi) (ρ : Rho) (H:HS) (hp:y1x):Value->D->Prop
 |undef (v:Value) (h:∀ b,v ≠ .bool b):Rep φ ρ H hp v .undef
 |bool (b:Bool):Rep φ ρ H hp (.bool b) (.bool b)
 |int (k:bj) (n:Int):Rep φ ρ H hp (.int k n) (.int k n)
 |str (s:ByteArray):Rep φ ρ H hp (.string s) (.str s.data.toList)
 |nilp:Rep φ ρ H hp (.pointer none) .nilp
 |loc (b c id off:Nat) (h : ρ id=some (.blk b c)):Rep φ ρ H hp (.pointer (some ⟨b,off,none⟩)) (.loc id off)
 |iptr (b off:Nat) (cells:List D) (vs:Nat->Value)
   (hH:∀(j:Nat),j<cells.length->H b (off+j)/\cellOf hp b (off+j)=some (vs j))
   (hr:∀(j:Nat) (d:D),cells[j]? = some d->Rep φ ρ H hp (vs j) d):Rep φ ρ H hp (.pointer (some ⟨b,off,none⟩)) (.iptr cells)
 |imm (sp:yt) (els:List D) (a:Option cF) (cap b off su:Nat) (vs:Nat->Value)
   (hu:∀ x,x ∈ els->x.cellsL.length=su/\x.storable=true) (hcap:els.length<=cap)
   (hex:sp=.exact->cap=els.length)
   (htok:∀ k,sp=.tok k->(∃ b',ρ k=some (.blk b' cap)/\a=some ⟨b',0,none⟩)\/(ρ k=some .virt/\cap=els.length))
   (ha:els ≠ []->a=some ⟨b,off,none⟩)
   (hH:∀(j:Nat),j<(yr els).length->H b (off+j)/\cellOf hp b (off+j)=some (vs j))
   (hr:∀(j:Nat) (d:D),(yr els)[j]? = some d->Rep φ ρ H hp (vs j) d):Rep φ ρ H hp (.slice a els.length cap) (.imm sp els)
 |sl (id off len sz:Nat) (ag gr:Bool) (b c cap:Nat) (a:Option cF) (h : ρ id=some (.blk b c)) (hl:len<=cap)
   (ha:len ≠ 0->a=some ⟨b,off,none⟩) (hc:gr=true->off=0/\a=some ⟨b,0,none⟩/\c=cap*sz):Rep φ ρ H hp (.slice a len cap) (.sl id off len sz ag gr)
 |mapn:Rep φ ρ H hp (.map none) (.map none)
 |map (b c id:Nat) (h : ρ id=some (.blk b c)):Rep φ ρ H hp (.map (some b)) (.map (some id))
 |fn (f f':Nat) (cvs:Array Value) (caps:List D) (hf : φ f=some f') (hs:cvs.size=caps.length)
   (hr:∀(j:Nat) (v:Value) (d:D),cvs[j]? = some v->caps[j]? = some d->Rep φ ρ H hp v d):Rep φ ρ H hp (.func (.func f) #[] cvs) (.fn f' caps)
 |bfn (f f':Nat) (v:Value) (d:D) (hf : φ f=some f') (hr:Rep φ ρ H hp v d):Rep φ ρ H hp (.func (.func f) #[v] #[]) (.bfn f' d)
 |nilfn:Rep φ ρ H hp .nilFunc .nilfn
 |yld (b c id:Nat) (h : ρ id=some (.blk b c)):Rep φ ρ H hp (.func (.yield b) #[] #[]) (.yld id)
 |agg (vs:Array Value) (cs:List D) (hs:vs.size=cs.length)
   (hr:∀(j:Nat) (v:Value) (d:D),vs[j]? = some v->cs[j]? = some d->Rep φ ρ H hp v d):Rep φ ρ H hp (.agg vs) (.agg cs)
 |tup (vs:Array Value) (cs:List D) (hs:vs.size=cs.length)
   (hr:∀(j:Nat) (v:Value) (d:D),vs[j]? = some v->cs[j]? = some d->Rep φ ρ H hp v d):Rep φ ρ H hp (.tuple vs) (.tup cs)
def Rep.u0{φ : Phi}{ρ : Rho}{H:HS}{hp:y1x}:Rep φ ρ H hp bu .undef:=.undef _ (by intro b h;cases h)
structure Ext(ρ ρ':Rho)(H H':HS)(hp hp':y1x):Prop where
 rho:∀ id bk,ρ id=some bk -> ρ' id=some bk
 hs:∀ b o,H b o->H' b o
 keep:∀ b o,H b o->cellOf hp' b o=cellOf hp b o
def Ext.refl(ρ : Rho)(H:HS)(hp:y1x):Ext ρ ρ H H hp hp:=⟨fun _ _ h=>h,fun _ _ h=>h,fun _ _ _=>rfl⟩
def Ext.trans{ρ ρ' ρ'':Rho}{H H' H'':HS}{hp hp' hp'':y1x}(h:Ext ρ ρ' H H' hp hp')(h':Ext ρ' ρ'' H' H'' hp' hp''):Ext ρ ρ'' H H'' hp hp'':=
 ⟨fun id bk e=>h'.rho id bk (h.rho id bk e),fun b o e=>h'.hs b o (h.hs b o e),fun b o e=>(h'.keep b o (h.hs b o e)).trans (h.keep b o e)⟩
def Rep.mono{φ : Phi}{ρ ρ':Rho}{H H':HS}{hp hp':y1x}(x:Ext ρ ρ' H H' hp hp'){v:Value}{d:D}(h:Rep φ ρ H hp v d):Rep φ ρ' H' hp' v d:=by
 induction h with
 |undef v h=>exact .undef v h
 |bool b=>exact .bool b
 |int k n=>exact .int k n
 |str s=>exact .str s
 |nilp=>exact .nilp
 |loc b c id off h=>exact .loc b c id off (x.rho _ _ h)
 |iptr b off cells vs hH hr ih=>exact .iptr b off cells vs (fun j hj=>⟨x.hs _ _ (hH j hj).1,(x.keep _ _ (hH j hj).1).trans (hH j hj).2⟩) ih
 |imm sp els a cap b off su vs hu hcap hex htok ha hH hr ih=>
  exact .imm sp els a cap b off su vs hu hcap hex (fun k hk=>(htok k hk).imp (fun⟨b',h1,h2⟩=>⟨b',x.rho _ _ h1,h2⟩) (fun⟨h1,h2⟩=>⟨x.rho _ _ h1,h2⟩)) ha
   (fun j hj=>⟨x.hs _ _ (hH j hj).1,(x.keep _ _ (hH j hj).1).trans (hH j hj).2⟩) ih
 |sl id off len sz ag gr b c cap a h hl ha hc=>exact .sl id off len sz ag gr b c cap a (x.rho _ _ h) hl ha hc
 |mapn=>exact .mapn
 |map b c id h=>exact .map b c id (x.rho _ _ h)
 |fn f f' cvs caps hf hs hr ih=>exact .fn f f' cvs caps hf hs ih
 |bfn f f' v d hf hr ih=>exact .bfn f f' v d hf ih
 |nilfn=>exact .nilfn
 |yld b c id h=>exact .yld b c id (x.rho _ _ h)
 |agg vs cs hs hr ih=>exact .agg vs cs hs ih
 |tup vs cs hs hr ih=>exact .tup vs cs hs ih
def yv(φ : Phi)(ρ : Rho)(H:HS)(hp:y1x)(vs:List Value)(ds:List D):Prop:=
 vs.length=ds.length /\ ∀(j:Nat) v d,vs[j]? = some v->ds[j]? = some d->Rep φ ρ H hp v d
def yv.mono{φ : Phi}{ρ ρ':Rho}{H H':HS}{hp hp':y1x}(x:Ext ρ ρ' H H' hp hp'){vs:List Value}{ds:List D}(h:yv φ ρ H hp vs ds):yv φ ρ' H' hp' vs ds:=
 ⟨h.1,fun j v d hv hd=>(h.2 j v d hv hd).mono x⟩
def yv.nil{φ : Phi}{ρ : Rho}{H:HS}{hp:y1x}:yv φ ρ H hp [] []:=⟨rfl,fun j v d h=>by simp at h⟩
def yv.cons{φ : Phi}{ρ : Rho}{H:HS}{hp:y1x}{v:Value}{d:D}{vs:List Value}{ds:List D}(h:Rep φ ρ H hp v d)(h':yv φ ρ H hp vs ds):yv φ ρ H hp (v::vs) (d::ds):=
 ⟨by simp[h'.1],fun j v' d' hv hd=>by
  cases j with
  |zero=>simp at hv hd;subst hv;subst hd;exact h
  |succ j=>exact h'.2 j v' d' (by simpa using hv) (by simpa using hd)⟩
def yv.of_cons{φ : Phi}{ρ : Rho}{H:HS}{hp:y1x}{v:Value}{d:D}{vs:List Value}{ds:List D}(h:yv φ ρ H hp (v::vs) (d::ds)):Rep φ ρ H hp v d/\yv φ ρ H hp vs ds:=
 ⟨h.2 0 v d rfl rfl,by simpa using h.1,fun j v' d' hv hd=>h.2 (j+1) v' d' (by simpa using hv) (by simpa using hd)⟩
def yv.append{φ : Phi}{ρ : Rho}{H:HS}{hp:y1x}{vs:List Value}{ds:List D}{vs':List Value}{ds':List D}(h:yv φ ρ H hp vs ds)(h':yv φ ρ H hp vs' ds'):yv φ ρ H hp (vs++vs') (ds++ds'):=by
 refine⟨by simp[h.1,h'.1],fun j v d hv hd=>?_⟩
 by_cases hj:j<vs.length
 ·rw[aD hj]at hv;rw[aD (h.1 ▸ hj)]at hd;exact h.2 j v d hv hd
 ·have hj:vs.length<=j:=by omega
  rw[aH hj]at hv;rw[aH (h.1 ▸ hj)]at hd;exact h'.2 _ v d hv (by rw[h.1];exact hd)
def yv.drop{φ : Phi}{ρ : Rho}{H:HS}{hp:y1x}{vs:List Value}{ds:List D}(n:Nat)(h:yv φ ρ H hp vs ds):yv φ ρ H hp (vs.drop n) (ds.drop n):=
 ⟨by simp[h.1],fun j v d hv hd=>h.2 (n+j) v d (by simpa using hv) (by simpa using hd)⟩
def yv.take{φ : Phi}{ρ : Rho}{H:HS}{hp:y1x}{vs:List Value}{ds:List D}(n:Nat)(h:yv φ ρ H hp vs ds):yv φ ρ H hp (vs.take n) (ds.take n):=
 ⟨by simp[h.1],fun j v d hv hd=>h.2 j v d (by rw[aZ]at hv;split at hv <;> simp_all) (by rw[aZ]at hd;split at hd <;> simp_all)⟩
def yv.set{φ : Phi}{ρ : Rho}{H:HS}{hp:y1x}{vs:List Value}{ds:List D}(n:Nat){v:Value}{d:D}(hv:Rep φ ρ H hp v d)(h:yv φ ρ H hp vs ds):yv φ ρ H hp (vs.set n v) (ds.set n d):=by
 refine⟨by simp[h.1],fun j v' d' h1 h2=>?_⟩
 rw[bw]at h1 h2;rw[h.1]at h1;split at h1
 ·rename_i e;rw[if_pos e]at h2;split at h1
  ·rename_i e';rw[if_pos e']at h2;simp at h1 h2;subst h1;subst h2;exact hv
  ·simp at h1
 ·rename_i e;rw[if_neg e]at h2;exact h.2 j v' d' h1 h2
def yv.get{φ : Phi}{ρ : Rho}{H:HS}{hp:y1x}{vs:List Value}{ds:List D}(h:yv φ ρ H hp vs ds){j:Nat}{d:D}(hd:ds[j]? = some d):∃ v,vs[j]? = some v/\Rep φ ρ H hp v d:=by have:j<ds.length:=(ae.1 hd).1;have hj:j<vs.length:=h.1 ▸ this;exact⟨vs[j],ac hj,h.2 j _ d (ac hj) hd⟩
def yv.agg{φ : Phi}{ρ : Rho}{H:HS}{hp:y1x}{vs:List Value}{ds:List D}(h:yv φ ρ H hp vs ds):Rep φ ρ H hp (.agg vs.toArray) (.agg ds):=
 .agg _ _ (by simp[h.1]) (fun j v d hv hd=>h.2 j v d (by simpa using hv) hd)
def Rep.aggL{φ : Phi}{ρ : Rho}{H:HS}{hp:y1x}{v:Value}{ds:List D}(h:Rep φ ρ H hp v (.agg ds)):∃ vs:List Value,v=.agg vs.toArray/\yv φ ρ H hp vs ds:=by
 cases h with
 |agg vs cs hs hr=>exact⟨vs.toList,by simp,by simp[hs],fun j v d hv hd=>hr j v d (by simpa using hv) hd⟩
def Rep.tupL{φ : Phi}{ρ : Rho}{H:HS}{hp:y1x}{v:Value}{ds:List D}(h:Rep φ ρ H hp v (.tup ds)):∃ vs:List Value,v=.tuple vs.toArray/\yv φ ρ H hp vs ds:=by
 cases h with
 |tup vs cs hs hr=>exact⟨vs.toList,by simp,by simp[hs],fun j v d hv hd=>hr j v d (by simpa using hv) hd⟩
def Rep.cells{φ : Phi}{ρ : Rho}{H:HS}{hp:y1x}{v:Value}{d:D}(h:Rep φ ρ H hp v d)(hd:d.storable=true):yv φ ρ H hp v.cells.toList d.cellsL:=by
 cases h with
 |agg vs cs hs hr=>exact⟨by simpa[Value.cells,D.cellsL]using hs,fun j v d hv hd=>hr j v d (by simpa[Value.cells]using hv) (by simpa[D.cellsL]using hd)⟩
 |undef v h=>simp[D.storable,D.atom]at hd
 |tup vs cs hs hr=>simp[D.storable,D.atom]at hd
 |bool b=>exact .cons (.bool b) .nil
 |int k n=>exact .cons (.int k n) .nil
 |str s=>exact .cons (.str s) .nil
 |nilp=>exact .cons .nilp .nil
 |loc b c id off h=>exact .cons (.loc b c id off h) .nil
 |iptr b off cells vs hH hr=>exact .cons (.iptr b off cells vs hH hr) .nil
 |imm sp els a cap b off su vs hu hcap hex htok ha hH hr=>exact .cons (.imm sp els a cap b off su vs hu hcap hex htok ha hH hr) .nil
 |sl id off len sz ag gr b c cap a h hl ha hc=>exact .cons (.sl id off len sz ag gr b c cap a h hl ha hc) .nil
 |mapn=>exact .cons .mapn .nil
 |map b c id h=>exact .cons (.map b c id h) .nil
 |fn f f' cvs caps hf hs hr=>exact .cons (.fn f f' cvs caps hf hs hr) .nil
 |bfn f f' v d hf hr=>exact .cons (.bfn f f' v d hf hr) .nil
 |nilfn=>exact .cons .nilfn .nil
 |yld b c id h=>exact .cons (.yld b c id h) .nil
def Rep.strv{φ : Phi}{ρ : Rho}{H:HS}{hp:y1x}{v:Value}{s:List UInt8}(h:Rep φ ρ H hp v (.str s)):∃ s0:ByteArray,v=.string s0/\s=s0.data.toList:=by
 cases h with
 |str s=>exact⟨s,rfl,rfl⟩
def Rep.one{φ : Phi}{ρ : Rho}{H:HS}{hp:y1x}{v:Value}{d:D}(h:Rep φ ρ H hp v d)(hd:d.atom=true):v.oneCell'=true/\v.cells = #[v]:=by cases h <;> first | exact⟨rfl,rfl⟩ | (simp[D.atom]at hd)
end Dv
namespace Dv
open Go (Value Program World Act Oper Operand Code)
section
variable{P:Program}{E:Env}{φ : Phi}{τ : Phi}{ρ : Rho}{H:HS}{w:World}
def y40:Value->Option D
 |.bool b=>some (.bool b)
 |.int k n=>some (.int k n)
 |.string s=>some (.str s.data.toList)
 |.pointer none=>some .nilp
 |.slice none 0 0=>some (.imm .exact [])
 |.map none=>some (.map none)
 |.nilFunc=>some .nilfn
 |_=>none
def y2j:List Value->Option (List D)
 |[]=>some []
 |v::vs=>match y40 v,y2j vs with
  |some d,some ds=>some (d::ds)
  |_,_=>none
def z9c{hp:y1x}{v:Value}{d:D}(h:y40 v=some d):Rep φ ρ H hp v d:=by
 unfold y40 at h;split at h <;> simp at h <;> subst h
 ·exact .bool _
 ·exact .int _ _
 ·exact .str _
 ·exact .nilp
 ·exact .imm .exact [] none 0 0 0 0 (fun _=>bu) (fun x hx=>by cases hx) (by simp) (fun _=>rfl) (fun k hk=>by cases hk) (fun h=>absurd rfl h) (fun j hj=>by simp[yr]at hj) (fun j d hd=>by simp[yr]at hd)
 ·exact .mapn
 ·exact .nilfn
def z51{hp:y1x}:∀{vs:List Value} {ds:List D},y2j vs=some ds->yv φ ρ H hp vs ds
 |[],ds,h=>by simp[y2j]at h;subst h;exact .nil
 |v::vs,ds,h=>by
  simp only[y2j]at h;cases h1:y40 v with
  |none=>simp[h1]at h
  |some d=>cases h2:y2j vs with
   |none=>simp[h1,h2]at h
   |some ds'=>simp[h1,h2]at h;subst h;exact .cons (z9c h1) (z51 h2)
def veq:Value->Value->Option Bool
 |.bool a,.bool b=>some (a == b)
 |.int k a,.int k' b=>if k=k' then some (a == b)else none
 |.string a,.string b=>some (a.data.toList == b.data.toList)
 |_,_=>none
def y5h:List Value->List Value->Option Bool
 |[],[]=>some true
 |x::xs,y::ys=>match veq x y,y5h xs ys with
  |some a,some b=>some (a && b)
  |_,_=>none
 |_,_=>none
def yha{hp:y1x}{x y:Value}{a b:D}{r:Bool}(hx:Rep φ ρ H hp x a)(hy:Rep φ ρ H hp y b)(h:y2a a b=some r):veq x y=some r:=by
 unfold y2a at h;split at h
 ·cases hx;cases hy;exact h
 ·cases hx;cases hy;exact h
 ·cases hx;cases hy;exact h
 ·cases h
def ze2{hp:y1x}:∀{xs ys:List Value} {as bs:List D} {r:Bool},yv φ ρ H hp xs as->yv φ ρ H hp ys bs->eqL as bs=some r->y5h xs ys=some r
 |[],[],[],[],r,_,_,h=>h
 |[],_::_,[],[],r,_,h2,h=>by have:=h2.1;simp at this
 |_::_,_,[],_,r,h1,_,h=>by have:=h1.1;simp at this
 |[],_,_::_,_,r,h1,_,h=>by have:=h1.1;simp at this
 |_::_,[],_::_,_::_,r,_,h2,h=>by have:=h2.1;simp at this
 |x::xs,y::ys,a::as,b::bs,r,h1,h2,h=>by
  simp only[eqL]at h;cases e1:y2a a b with
  |none=>simp[e1]at h
  |some p=>cases e2:eqL as bs with
   |none=>simp[e1,e2]at h
   |some q=>simp[e1,e2]at h;subst h;simp only[y5h,yha h1.of_cons.1 h2.of_cons.1 e1,ze2 h1.of_cons.2 h2.of_cons.2 e2]
 |[],_,[],_::_,r,_,_,h=>by simp[eqL]at h
 |_::_,_,_::_,[],r,_,_,h=>by simp[eqL]at h
def y9o:Value->Bool
 |.agg _=>true
 |_=>false
def klB:List Value->List D->Bool
 |[],[]=>true
 |.bool _::xs,.bool _::ys=>klB xs ys
 |.int k _::xs,.int k' _::ys=>decide (k=k') && klB xs ys
 |.string _::xs,.str _::ys=>klB xs ys
 |_,_=>false
def zns{hp:y1x}:∀{vs:List Value} {xs zs:List D},yv φ ρ H hp vs xs->y24 xs zs=true->klB vs zs=true
 |[],[],[],_,_=>rfl
 |[],_::_,_,h,_=>by have:=h.1;simp at this
 |_::_,[],_,h,_=>by have:=h.1;simp at this
 |[],[],_::_,_,h=>by simp[y24]at h
 |v::vs,x::xs,[],_,h=>by cases x <;> simp[y24]at h
 |v::vs,x::xs,z::zs,h,hk=>by
  obtain⟨h1,h2⟩:=h.of_cons;cases x <;> cases z <;> simp[y24]at hk
  ·cases h1;simpa[klB]using zns h2 hk
  ·cases h1;simp[klB,hk.1];exact zns h2 hk.2
  ·cases h1;simpa[klB]using zns h2 hk
structure EqOk(P:Program)(t:Nat)(zs:List D):Prop where
 eq:∀(w:World) (d:Nat) (xs ys:List Value) (r:Bool),klB xs zs=true->y5h xs ys=some r->(Go.Op.equalIn (d+16) t (.agg xs.toArray) (.agg ys.toArray)).run P w=.ok r w
 key:∀(w:World) (em:Bool) (d:Nat) (vs:List Value),klB vs zs=true->(cX em (d+16) t (.agg vs.toArray)).run P w=.ok () w
 kind:∃ u,P.underlying t=some u/\(match u with | .int _=>False | .string=>False | .bool=>False | _=>True)
 guard:P.eqGuardType P.depth t=false
structure TOk(P:Program)(E:Env)(τ : Phi)(t c:Nat):Prop where
 id : τ t=some c
 info:∃ i,P.info? t=some i/\i.size=(E.ty c).size/\i.bytes=(E.ty c).bytes /\
  ((E.ty c).zero.length=(E.ty c).size->(E.ty c).size ≠ 0->∃ z,i.zero=some z/\y2j z.cells.toList=some (E.ty c).zero/\y9o z=(E.ty c).ag)
 eq:(E.ty c).eqc=true->EqOk P t (E.ty c).zero
 und:match (E.ty c).k with
  |.bool=>P.underlying t=some .bool
  |.int k=>P.underlying t=some (.int k)
  |.str=>P.underlying t=some .string
  |.slice e=>∃ e',P.underlying t=some (.slice e') /\ τ e'=some e
  |.struct fs=>∃ fs':Array fo,P.underlying t=some (.struct fs')/\fs'.size=fs.length /\ ∀(i:Nat) (f:fo) (p:Nat × Nat),fs'[i]? = some f->fs[i]? = some p->f.offset=p.1 /\ τ f.type=some p.2
  |.arr n e=>∃ e',P.underlying t=some (.array n e') /\ τ e'=some e
  |.map k e=>∃ k' e',P.underlying t=some (.map k' e') /\ τ k'=some k /\ τ e'=some e
  |.ptr _=>∃ e',P.underlying t=some (.pointer e')
  |.func=>∃ a b v,P.underlying t=some (.func a b v)
  |.other=>False
def y3k(P:Program)(E:Env)(τ : Phi):Prop:=∀ t c,τ t=some c->TOk P E τ t c
def z1n{t:Nat}{i:ma}(h:P.info? t=some i):(pP t).run P w=.ok i w:=by simp[pP,h]
def run_underlying{t:Nat}{u:pQ}(h:P.underlying t=some u):(kM t).run P w=.ok u w:=by simp[kM,h]
def TOk.size{t c:Nat}(T:TOk P E τ t c):(gF t).run P w=.ok (E.ty c).size w:=by obtain⟨i,hi,hs,_⟩:=T.info;simp[gF,z1n hi,hs]
def TOk.isAgg{t c:Nat}(T:TOk P E τ t c):(fp t).run P w=.ok (E.ty c).ag w:=by
 have h:=T.und;unfold TI.ag;cases hk:(E.ty c).k <;> rw[hk]at h <;> simp only at h
 case bool=>simp[fp,run_underlying h]
 case int k=>simp[fp,run_underlying h]
 case str=>simp[fp,run_underlying h]
 case slice e=>obtain⟨_,h,_⟩:=h;simp[fp,run_underlying h]
 case struct fs=>obtain⟨_,h,_⟩:=h;simp[fp,run_underlying h]
 case arr n e=>obtain⟨_,h,_⟩:=h;simp[fp,run_underlying h]
 case map k e=>obtain⟨_,_,h,_⟩:=h;simp[fp,run_underlying h]
 case ptr e=>obtain⟨_,h⟩:=h;simp[fp,run_underlying h]
 case func=>obtain⟨_,_,_,h⟩:=h;simp[fp,run_underlying h]
def z3f{cs:List D}:∀{n off:Nat} {r:List D},y2d cs off n=some r->r.length=n /\ ∀ j,j<n->r[j]? = cs[off+j]? /\ off+j<cs.length
 | 0,off,r,h=>by simp[y2d]at h;subst h;exact⟨rfl,fun j hj=>absurd hj (Nat.not_lt_zero _)⟩
 |n+1,off,r,h=>by
  simp only[y2d]at h;cases h1:cs[off]? with
  |none=>simp[h1]at h
  |some c=>cases h2:y2d cs (off+1) n with
   |none=>simp[h1,h2]at h
   |some r'=>
    simp[h1,h2]at h;subst h;obtain⟨hl,hj⟩:=z3f h2;refine⟨by simp[hl],fun j hjn=>?_⟩
    cases j with
    |zero=>exact⟨by simp[h1],(ae.1 h1).1⟩
    |succ j=>have:=hj j (by omega);exact⟨by simp only[df,this.1];congr 1;omega,by omega⟩
def y65(φ : Phi)(ρ : Rho)(H:HS)(hp:y1x)(b off:Nat)(cs:List D):Prop:=
 ∃ vl:List Value,yv φ ρ H hp vl cs /\ ∀(j:Nat) v,vl[j]? = some v->cellOf hp b (off+j)=some v
def z1p(b off n:Nat):(⟨b,off,none⟩:cF).add n=⟨b,off+n,none⟩:=by
 unfold Go.Addr.add;split
 ·rename_i h;subst h;rfl
 ·rfl
def z7i{b off:Nat}{v:Value}(h:cellOf w.heap b off=some v):(Go.load ⟨b,off,none⟩).run P w=.ok v w:=by rw[Go.run_load,cell?_eq,h]
def z4g{b off:Nat}:∀(vl:List Value) (i:Nat) (acc:Array Value),(∀(j:Nat) v,vl[j]? = some v->cellOf w.heap b (off+i+j)=some v) ->
  (fA ⟨b,off,none⟩ i vl.length acc).run P w=.ok (acc++vl.toArray) w
 |[],i,acc,_=>by simp[fA]
 |v::vl,i,acc,h=>by
  have h0:=h 0 v rfl;simp only[ar,fA,ax,z1p];rw[z7i (by simpa using h0)]
  simp only[au];rw[z4g vl (i+1) (acc.push v) (fun j v' hv=>by have:=h (j+1) v' (by simpa using hv);rw[<- this];congr 1;omega)]
  simp
def z37{b off n:Nat}{vl:List Value}(hn:vl.length=n)(h:∀(j:Nat) v,vl[j]? = some v->cellOf w.heap b (off+j)=some v) :
  (iA ⟨b,off,none⟩ n).run P w=.ok vl.toArray w:=by
 subst hn;unfold iA;rw[z4g vl 0 #[] (by simpa using h)]
 simp
def y65.take{hp:y1x}{b off:Nat}{cs:List D}(h:y65 φ ρ H hp b off cs){k n:Nat}{r:List D}(hr:y2d cs k n=some r):y65 φ ρ H hp b (off+k) r:=by
 obtain⟨vl,h1,h2⟩:=h;obtain⟨hl,hj⟩:=z3f hr;refine⟨(vl.drop k).take n,⟨?_,?_⟩,?_⟩
 ·rw[bc,er,hl,h1.1];cases n with
  |zero=>simp
  |succ m=>have:=(hj m (by omega)).2;omega
 ·intro j v d hv hd;have hjn:j<n:=by have:=(ae.1 hd).1;omega
  rw[aZ,if_pos hjn,cw]at hv;exact h1.2 _ v d hv (by rw[<- (hj j hjn).1];exact hd)
 ·intro j v hv;rw[aZ]at hv;split at hv
  ·rw[cw]at hv;have:=h2 _ v hv;rw[<- this];congr 1;omega
  ·simp at hv
def zb6{t c b off:Nat}{r:List D}{d:D}(T:TOk P E τ t c)(h:y65 φ ρ H w.heap b off r)(hl:r.length=(E.ty c).size)(hd:ym (E.ty c).ag r=some d) :
  ∃ v,(gA t (.pointer (some ⟨b,off,none⟩))).run P w=.ok v w/\Rep φ ρ H w.heap v d:=by
 obtain⟨vl,h1,h2⟩:=h;unfold gA Go.loadVar;simp only[dA,ax,aP,au,T.isAgg];cases ha:(E.ty c).ag with
 |true=>
  rw[ha]at hd;simp[ym]at hd;subst hd;refine⟨.agg vl.toArray,?_,h1.agg⟩;simp only[if_true,ax,T.size,au];rw[z37 (by rw[h1.1,hl]) h2]
  simp
 |false=>
  rw[ha]at hd
  match r,hd with
  |[c0],hd=>
   simp[ym]at hd;subst hd
   match vl,h1 with
   |[v],h1=>refine⟨v,?_,h1.of_cons.1⟩;have:=h2 0 v rfl;simp only[aT,if_false];rw[z7i (by simpa using this)]
   |[],h1=>have:=h1.1;simp at this
   |_::_::_,h1=>have:=h1.1;simp at this
  |[],hd=>simp[ym]at hd
  |_::_::_,hd=>simp[ym]at hd
end
end Dv
namespace Dv
open Go (Value Program World Act Oper Operand Code)
section
variable{P:Program}{E:Env}{φ : Phi}{τ : Phi}{ρ : Rho}{H:HS}{w:World}
def y5o(φ : Phi)(ρ : Rho)(H:HS)(hp:y1x)(b c:Nat)(cs:List D):Prop:=
 ∃(arr:Array Value) (el:Nat),hp[b]? = some (.cells arr el (0,0))/\arr.size=c/\cs.length<=arr.size/\(∀(j:Nat) (v:Value) (d:D),arr[j]? = some v->cs[j]? = some d->Rep φ ρ H hp v d) /\ ∀ d,d ∈ cs->d.atom=true
def y5o.cells{hp:y1x}{b c:Nat}{cs:List D}(h:y5o φ ρ H hp b c cs):y65 φ ρ H hp b 0 cs:=by
 obtain⟨arr,el,h1,h2,h3,h4,_⟩:=h;refine⟨arr.toList.take cs.length,⟨by simp;omega,fun j v d hv hd=>?_⟩,fun j v hv=>?_⟩
 ·rw[aZ]at hv;split at hv
  ·exact h4 j v d (by simpa using hv) hd
  ·simp at hv
 ·rw[aZ]at hv;split at hv
  ·simp[cellOf,h1];simpa using hv
  ·simp at hv
def y3s(me:Array bC)(clock:Nat):Prop:=(∀ x,x ∈ me.toList->x.born<clock)/\(me.toList.map (·.born)).Nodup
def y81(φ : Phi)(ρ : Rho)(H:HS)(hp:y1x)(b:Nat)(es:List (D × D)):Prop:=
 ∃(me:Array bC) (clock:Nat),hp[b]? = some (.map me clock)/\me.size=es.length/\(∀(j:Nat) (e:bC) (p:D × D),me[j]? = some e->es[j]? = some p->Rep φ ρ H hp e.key p.1/\Rep φ ρ H hp e.val p.2)/\y3s me clock
structure RR(φ : Phi)(ρ : Rho)(H:HS)(hp:y1x)(os:List Obj):Prop where
 row:∀(id b c:Nat) cs,ρ id=some (.blk b c)->y14 os id=some cs->y5o φ ρ H hp b c cs
 map:∀(id b c:Nat) es,ρ id=some (.blk b c)->os[id]? = some (.map es)->y81 φ ρ H hp b es
def zb7{os:List Obj}(R:RR φ ρ H w.heap os){t c:Nat}{va:Value}{a d:D}(T:TOk P E τ t c)(ha:Rep φ ρ H w.heap va a)(h:y1c E os c a=some d) :
  ∃ v,(gA t va).run P w=.ok v w/\Rep φ ρ H w.heap v d:=by
 unfold y1c at h;split at h
 ·rename_i id off;cases ha with
  |loc b cc _ _ hid=>
   have key:∀ cs,y14 os id=some cs->(y2d cs off (E.ty c).size).bind (ym (E.ty c).ag)=some d->∃ v,(gA t (.pointer (some ⟨b,off,none⟩))).run P w=.ok v w/\Rep φ ρ H w.heap v d:=by
    intro cs hrow h;cases ht:y2d cs off (E.ty c).size with
    |none=>simp[ht]at h
    |some r=>simp[ht]at h;have:=((R.row id b cc cs hid hrow).cells).take ht;rw[bM]at this;exact zb6 T this (z3f ht).1 h
   split at h
   ·rename_i cs hos;exact key cs (by simp[y14,hos]) h
   ·rename_i cs hos;exact key cs (by simp[y14,hos]) h
   ·cases h
 ·rename_i cs;cases ha with
  |iptr b off _ vs hH hr=>
   have hc:y65 φ ρ H w.heap b off cs:=⟨(bD cs.length).map vs,⟨by simp,fun j v d hv hd=>by
     simp only[ch,ab]at hv;obtain⟨k,hk,rfl⟩:=hv;have hj:=(ae.1 hd).1;rw[fK hj]at hk;simp at hk;subst hk;exact hr _ d hd⟩,fun j v hv=>by
     simp only[ch,ab]at hv;obtain⟨k,hk,rfl⟩:=hv;have hj:=(ae.1 hk).1;simp at hj;rw[fK hj]at hk;simp at hk;subst hk;exact(hH _ hj).2⟩
   cases ht:y2d cs 0 (E.ty c).size with
   |none=>simp[ht]at h
   |some r=>simp[ht]at h;have:=hc.take ht;rw[dY]at this;exact zb6 T this (z3f ht).1 h
 ·cases h
def z7z{hp:y1x}{va:Value}{sp:yt}{els:List D}(h:Rep φ ρ H hp va (.imm sp els)) :
  ∃ a cap b off su,va=.slice a els.length cap/\els.length<=cap/\(els ≠ []->a=some ⟨b,off,none⟩)/\(∀ x,x ∈ els->x.cellsL.length=su/\x.storable=true) /\
   ∃ vl:List Value,yv φ ρ H hp vl (yr els) /\ ∀(j:Nat) v,vl[j]? = some v->H b (off+j)/\cellOf hp b (off+j)=some v:=by
 cases h with
 |imm _ _ a cap b off su vs hu hcap hex htok ha hH hr=>
  refine⟨a,cap,b,off,su,rfl,hcap,ha,hu,(bD (yr els).length).map vs,⟨by simp,fun j v d hv hd=>?_⟩,fun j v hv=>?_⟩
  ·have hj:=(ae.1 hd).1;simp only[ch,fK hj,aq,aa]at hv;subst hv;exact hr _ d hd
  ·have hj:=(ae.1 hv).1;simp at hj;simp only[ch,fK hj,aq,aa]at hv;subst hv;exact hH _ hj
def z1z(a b:List D):yr (a++b)=yr a++yr b:=by simp[yr]
def zdj{sz:Nat}:∀{els:List D},y2k sz els=true->(yr els).length=els.length*sz
 |[],_=>by simp[yr]
 |d::els,h=>by
  simp only[y2k,cG,ak,beq_iff_eq]at h;have:=zdj (sz:=sz) (els:=els) h.2;rw[show yr (d::els)=d.cellsL++yr els from rfl,ao,this,h.1.2]
  simp[br];omega
def zlv{sz:Nat}:∀{els:List D} {i:Nat} {d:D},(∀ x ∈ els.take (i+1),x.cellsL.length=sz)->els[i]? = some d->∀ j,j<sz->(yr els)[i*sz+j]? = d.cellsL[j]?
 |x::els,0,d,hall,hd,j,hj=>by
  simp at hd;subst hd;have hx:x.cellsL.length=sz:=hall x (by simp)
  rw[show yr (x::els)=x.cellsL++yr els from rfl,fB,bM,aD (by omega)]
 |x::els,i+1,d,hall,hd,j,hj=>by
  have hx:x.cellsL.length=sz:=hall x (by simp)
  rw[show yr (x::els)=x.cellsL++yr els from rfl,aH (by rw[hx,br];omega),hx]
  rw[show(i+1)*sz+j - sz=i*sz+j from by rw[br];omega]
  exact zlv (fun y hy=>hall y (by simp;exact .inr hy)) (by simpa using hd) j hj
end
end Dv
namespace Dv
open Go (Value Program World Act Oper Operand Code)
section
variable{P:Program}{E:Env}{φ : Phi}{τ : Phi}{ρ : Rho}{H:HS}{w:World}
def TOk.slice{t c e:Nat}(T:TOk P E τ t c)(h:(E.ty c).k=.slice e):∃ e',P.underlying t=some (.slice e') /\ τ e'=some e:=by have:=T.und;rw[h]at this;exact this
def Rep.intv{hp:y1x}{v:Value}{k:bj}{n:Int}(h:Rep φ ρ H hp v (.int k n)):v=.int k n:=by cases h;rfl
def Rep.boolv{hp:y1x}{v:Value}{b:Bool}(h:Rep φ ρ H hp v (.bool b)):v=.bool b:=by cases h;rfl
def zo7(TA:y3k P E τ){t c:Nat}{vx vi:Value}{x i d:D}(T:TOk P E τ t c)(hx:Rep φ ρ H w.heap vx x)(hi:Rep φ ρ H w.heap vi i)(h:y3w E c x i=some d) :
  ∃ v,(ge t vx vi).run P w=.ok v w/\Rep φ ρ H w.heap v d:=by
 unfold y3w at h;split at h
 ·rename_i sp els k n e hk;obtain⟨e',hu,he'⟩:=T.slice hk;have Te:=TA _ _ he';obtain rfl:=hi.intv;split at h
  ·rename_i hn;split at h
   ·rename_i d0 hd0;split at h
    ·rename_i hl;simp at h;subst h;obtain⟨a,cap,b,off,su,rfl,hcap,ha,hun,vl,hrl,hcl⟩:=z7z hx;have hlt:=(ae.1 hd0).1;have hne:els ≠ []:=by rintro rfl;simp at hlt
     have hmem:d0 ∈ els:=by obtain⟨h1,h2⟩:=ae.1 hd0;rw[<- h2];exact av h1
     have hsu:su=(E.ty e).size:=by rw[<- (hun d0 hmem).1,hl]
     rw[ha hne];refine⟨.pointer (some ⟨b,off+n.toNat*(E.ty e).size,none⟩),?_,?_⟩
     ·unfold ge;have:(0:Int)<=n/\n<(els.length:Int):=⟨hn,by omega⟩
      simp[eZ,run_underlying hu,this,Te.size,z1p]
     ·have key:∀ j,j<(E.ty e).size->(yr els)[n.toNat*(E.ty e).size+j]? = d0.cellsL[j]?:=fun j hj=>zlv (fun y hy=>by rw[<- hsu];exact(hun y (dM hy)).1) hd0 j hj
      refine .iptr _ _ _ (fun j=>vl.getD (n.toNat*(E.ty e).size+j) bu) (fun j hj=>?_) (fun j d1 hd1=>?_)
      ·rw[hl]at hj;have h1:=key j hj;have h2:(yr els)[n.toNat*(E.ty e).size+j]? ≠ none:=by rw[h1,ac (by omega)];simp
       have h3:n.toNat*(E.ty e).size+j<vl.length:=by rw[hrl.1];exact js fun hh=>h2 (aU hh)
       have h4:=hcl _ _ (ac h3);rw[af,ac h3,dq];exact h4
      ·have hj:j<(E.ty e).size:=by rw[<- hl];exact(ae.1 hd1).1
       have h1:=key j hj;rw[hd1]at h1;obtain⟨v,hv,hr⟩:=hrl.get h1;rw[af,hv];exact hr
    ·simp at h
   ·simp at h
  ·simp at h
 ·rename_i id off len sz ag gr k n e hk;obtain⟨e',hu,he'⟩:=T.slice hk;have Te:=TA _ _ he';obtain rfl:=hi.intv;split at h
  ·rename_i hn;simp at h;subst h;cases hx with
   |sl _ _ _ _ _ _ b c cap a hid hl ha hc=>
    have hne:len ≠ 0:=by omega
    rw[ha hne];refine⟨.pointer (some ⟨b,off+n.toNat*(E.ty e).size,none⟩),?_,?_⟩
    ·unfold ge;simp[eZ,run_underlying hu,hn.1,hn.2.1,Te.size,z1p]
    ·rw[hn.2.2];exact .loc _ _ _ _ hid
  ·simp at h
 ·rename_i id off k n len e hk;have hu:=T.und;rw[hk]at hu;obtain⟨e',hu,he'⟩:=hu;have Te:=TA _ _ he';obtain rfl:=hi.intv;split at h
  ·rename_i hn;simp at h;subst h;cases hx with
   |loc b c _ _ hid=>refine⟨.pointer (some ⟨b,off+n.toNat*(E.ty e).size,none⟩),?_,.loc _ _ _ _ hid⟩;unfold ge;simp[eZ,run_underlying hu,dA,hn.1,hn.2,Te.size,z1p]
  ·simp at h
 ·rename_i cs k n len e hk;have hu:=T.und;rw[hk]at hu;obtain⟨e',hu,he'⟩:=hu;have Te:=TA _ _ he';obtain rfl:=hi.intv;split at h
  ·rename_i hn;simp at h;subst h;cases hx with
   |iptr b off _ vs hH hr=>
    refine⟨.pointer (some ⟨b,off+n.toNat*(E.ty e).size,none⟩),?_,.iptr b _ _ (fun j=>vs (n.toNat*(E.ty e).size+j)) (fun j hj=>?_) (fun j d hd=>hr _ d (by simpa using hd))⟩
    ·unfold ge;simp[eZ,run_underlying hu,dA,hn.1,hn.2,Te.size,z1p]
    ·have:=hH (n.toNat*(E.ty e).size+j) (by simp at hj;omega)
     rw[dq];exact this
  ·simp at h
 ·simp at h
def z2u{x:D}{v:Value}{y l:Nat}{code:Go.BoundsCode}(h:Rep φ ρ H w.heap v x)(hb:bnd (some x) 0=some l)(hl:l<=y):(dT v y code).run P w=.ok l w:=by
 unfold bnd at hb;split at hb
 ·contradiction
 ·rename_i k n hk;simp at hk;subst hk;obtain rfl:=h.intv;split at hb
  ·rename_i h0;simp at hb;subst hb;unfold dT;have:n<=(y:Int):=by omega
   simp[eZ,h0,this]
  ·simp at hb
 ·simp at hb
def yge(φ : Phi)(ρ : Rho)(H:HS)(hp:y1x):Option Value->Option D->Prop
 |none,none=>True
 |some v,some d=>Rep φ ρ H hp v d
 |_,_=>False
def za4{x:D}{a b:Nat}:bnd (some x) a=bnd (some x) b:=by cases x <;> rfl
def z2h{isS:Bool}{vl vh vm:Option Value}{lo hi mx:Option D}{len cap l h m:Nat}(rl:yge φ ρ H w.heap vl lo)(rh:yge φ ρ H w.heap vh hi)(rm:yge φ ρ H w.heap vm mx)
  (hl:bnd lo 0=some l) (hh:bnd hi len=some h) (hm:bnd mx cap=some m) (hmh:mx.isSome=true->hi.isSome=true) (h1:l<=h) (h2:h<=m) (h3:m<=cap) :
  (fq isS len cap vl vh vm).run P w=.ok (l,h,m) w:=by
 have e1:∀ code,(match vl with | some v=>dT v h code | none=>pure 0:fO Nat).run P w=.ok l w:=by
  intro code
  match vl,lo,rl with
  |none,none,_=>simp[bnd]at hl;simp[hl]
  |some v,some d,r=>exact z2u r hl h1
 match vm,mx,rm with
 |none,none,_=>
  simp[bnd]at hm;subst hm
  match vh,hi,rh with
  |none,none,_=>simp[bnd]at hh;subst hh;unfold fq;have e2:=e1 .sliceB;cases vl <;> simp_all
  |some v,some d,r=>
   unfold fq;have e2:=e1 .sliceB;have e3:∀ code,(dT v cap code).run P w=.ok h w:=fun code=>z2u r (by rw[za4 (b:=len)];exact hh) h2
   cases vl <;> simp_all
 |some vm,some dm,rm=>
  match vh,hi,rh with
  |none,none,_=>simp at hmh
  |some v,some d,r=>
   unfold fq;have e2:=e1 .slice3C;have e3:∀ code,(dT v m code).run P w=.ok h w:=fun code=>z2u r (by rw[za4 (b:=len)];exact hh) h2
   have e4:∀ code,(dT vm cap code).run P w=.ok m w:=fun code=>z2u rm (by rw[za4 (b:=cap)];exact hm) h3
   cases vl <;> simp_all
end
end Dv
namespace Dv
open Go (Value Program World Act Oper Operand Code)
section
variable{P:Program}{E:Env}{φ : Phi}{τ : Phi}{ρ : Rho}{H:HS}{w:World}
def z6r{su:Nat}:∀{els:List D} (l n:Nat),(∀ x,x ∈ els->x.cellsL.length=su)->∀(j:Nat),j<(yr ((els.drop l).take n)).length->(yr ((els.drop l).take n))[j]? = (yr els)[l*su+j]?
 |[],l,n,_,j,hj=>by simp[yr]at hj
 |x::els,0,n,hu,j,hj=>by
  simp only[List.drop_zero]at hj ⊢;have:yr (x::els)=yr ((x::els).take n)++yr ((x::els).drop n):=by rw[<- z1z,bV]
  rw[this,fB,bM,aD hj]
 |x::els,l+1,n,hu,j,hj=>by
  simp only[List.drop_succ_cons]at hj ⊢;rw[z6r (su:=su) l n (fun y hy=>hu y (cj _ hy)) j hj]
  have hx:x.cellsL.length=su:=hu x (by simp)
  rw[show yr (x::els)=x.cellsL++yr els from rfl,aH (by rw[hx,br];omega),hx]
  congr 1;rw[br];omega
def zr{su:Nat}{els:List D}(hu:∀ x,x ∈ els->x.cellsL.length=su):(yr els).length=els.length*su:=by
 induction els with
 |nil=>simp[yr]
 |cons x els ih=>
  rw[show yr (x::els)=x.cellsL++yr els from rfl,ao,ih (fun y hy=>hu y (cj _ hy)),hu x (by simp),ar,br]
  omega
def zbn:∀{l:List D},(∀ x,x ∈ l->x.cellsL=[x])->yr l=l
 |[],_=>rfl
 |x::l,h=>by
  have e:yr (x::l)=x.cellsL++yr l:=rfl;rw[e,h x (by simp),zbn fun y hy=>h y (by simp[hy])]
  rfl
def zmy(TA:y3k P E τ){t c:Nat}{vx:Value}{vl vh vm:Option Value}{x d:D}{lo hi mx:Option D}(T:TOk P E τ t c)(hx:Rep φ ρ H w.heap vx x)(rl:yge φ ρ H w.heap vl lo)
  (rh:yge φ ρ H w.heap vh hi) (rm:yge φ ρ H w.heap vm mx) (hmh:mx.isSome=true->hi.isSome=true) (h:y13 E c x lo hi mx=some d) :
  ∃ v,(eW t vx vl vh vm).run P w=.ok v w/\Rep φ ρ H w.heap v d:=by
 unfold y13 at h;split at h
 ·rename_i sp els e hk;obtain⟨e',hu,he'⟩:=T.slice hk;have Te:=TA _ _ he';split at h
  ·rename_i l hh m e1 e2 e3;split at h
   ·rename_i hb;obtain⟨b1,b2,b3,b4⟩:=hb;simp at h;subst h;cases hx with
    |imm _ _ a cap b off su vs hun hcap hex htok ha hH hr=>
     have hsu:els ≠ []->su=(E.ty e).size:=by
      intro hne;cases els with
      |nil=>exact absurd rfl hne
      |cons y ys=>simp[y2u]at b4;rw[<- b4];exact(hun y (by simp)).1.symm
     obtain⟨m',hm',hm1,hm2⟩:∃ m',bnd mx cap=some m'/\hh<=m'/\m'<=cap/\(mx.isSome=true->m'=m)/\(mx=none->m'=cap):=by
      cases mx with
      |none=>exact⟨cap,rfl,by omega,aj _,by simp,by simp⟩
      |some y=>exact⟨m,by rw[za4 (b:=els.length)];exact e3,b2,by omega,by simp,by simp⟩
     have hrun:=z2h (P:=P) (isS:=true) rl rh rm e1 e2 hm' hmh b1 hm1 hm2.1;refine⟨.slice (if m'=l then a else a.map (·.add (l*(E.ty e).size))) (hh - l) (m' - l),?_,?_⟩
     ·unfold eW jZ;simp[run_underlying hu,hrun,Te.size]
     ·have hlen:((els.drop l).take (hh - l)).length=hh - l:=by simp;omega
      have hsub:∀ y,y ∈ (els.drop l).take (hh - l)->y ∈ els:=fun y hy=>bY (dM hy)
      have hnum:∀(j:Nat),j<(yr ((els.drop l).take (hh - l))).length->(yr ((els.drop l).take (hh - l)))[j]? = (yr els)[l*su+j]?:=
       z6r l (hh - l) (fun y hy=>(hun y hy).1)
      have hlt:∀(j:Nat),j<(yr ((els.drop l).take (hh - l))).length->l*su+j<(yr els).length:=by intro j hj;have h1:=hnum j hj;rw[ac hj]at h1;exact(ae.1 h1.symm).1
      have key:=Rep.imm (φ:=φ) (ρ:=ρ) (H:=H) (hp:=w.heap) (y27 sp els.length hh (mx.map fun _=>m)) ((els.drop l).take (hh - l))
       (if m'=l then a else a.map (·.add (l*(E.ty e).size))) (m' - l) b (off+l*su) su (fun j=>vs (l*su+j)) (fun y hy=>hun y (hsub y hy)) (by rw[hlen];omega)
       (by
        rw[hlen];intro hs;unfold y27 at hs;cases mx with
        |none=>
         simp only[ba]at hs;split at hs
         ·rename_i e4;cases sp with
          |exact=>have:=hex rfl;rw[hm2.2.2 rfl];omega
          |none=>simp at hs
          |tok k=>simp at hs
         ·simp at hs
        |some y=>
         simp only[aq]at hs;split at hs
         ·rename_i e4;rw[hm2.2.1 rfl,e4]
         ·simp at hs)
       (by
        intro k hs;unfold y27 at hs;cases mx <;> simp only[ba,aq]at hs <;> split at hs <;> first | (simp at hs;done) | (cases sp <;> simp at hs))
       (by
        intro hne;have h0:hh - l ≠ 0:=by intro h0;rw[h0]at hne;simp at hne
        have hne':els ≠ []:=by rintro rfl;simp at hne
        rw[if_neg (by omega),ha hne',hsu hne']
        simp[z1p])
       (by
        intro j hj;have:=hH (l*su+j) (hlt j hj);rw[show off+l*su+j=off+(l*su+j)from by omega]
        exact this)
       (by
        intro j d1 hd1;have hj:=(ae.1 hd1).1;exact hr _ d1 (by rw[<- hnum j hj];exact hd1))
      rw[hlen]at key;exact key
   ·simp at h
  ·simp at h
 ·rename_i id off len sz ag gr e hk;obtain⟨e',hu,he'⟩:=T.slice hk;have Te:=TA _ _ he';split at h
  ·rename_i l hh e1 e2;split at h
   ·rename_i hb;simp at h;subst h;cases hx with
    |sl _ _ _ _ _ _ b c cap a hid hl ha hc=>
     have hrun:=z2h (P:=P) (w:=w) (isS:=true) (cap:=cap) (m:=cap) rl rh rm e1 e2 rfl hmh hb.1 (by omega) (aj _)
     refine⟨.slice (if cap=l then a else a.map (·.add (l*(E.ty e).size))) (hh - l) (cap - l),?_,?_⟩
     ·unfold eW jZ;simp[run_underlying hu,hrun,Te.size]
     ·refine .sl _ _ _ _ _ _ b c _ _ hid (by omega) (fun h0=>?_) (by simp)
      rw[if_neg (by omega),ha (by omega),<- hb.2.2]
      simp[z1p]
   ·simp at h
  ·simp at h
 ·rename_i id off n e hk;have hu:=T.und;rw[hk]at hu;obtain⟨e',hu,he'⟩:=hu;have Te:=TA _ _ he';split at h
  ·rename_i l hh e1 e2;split at h
   ·rename_i hb;simp at h;subst h;cases hx with
    |loc b c _ _ hid=>
     have hrun:=z2h (P:=P) (w:=w) (isS:=false) (cap:=n) (m:=n) rl rh rm e1 e2 rfl hmh hb.1 hb.2 (aj _);refine⟨.slice (some (if n=l then⟨b,off,none⟩else(⟨b,off,none⟩:cF).add (l*(E.ty e).size))) (hh - l) (n - l),?_,?_⟩
     ·unfold eW;simp[run_underlying hu,dA,hrun,Te.size]
     ·refine .sl _ _ _ _ _ _ b c _ _ hid (by omega) (fun h0=>?_) (by simp)
      rw[if_neg (by omega),z1p]
   ·simp at h
  ·simp at h
 ·rename_i cs n e hk;have hu:=T.und;rw[hk]at hu;obtain⟨e',hu,he'⟩:=hu;have Te:=TA _ _ he';split at h
  ·rename_i l hh e1 e2;split at h
   ·rename_i hb;obtain⟨b1,b2,b3,b4,b5⟩:=hb;simp at h;subst h;cases hx with
    |iptr b off _ vs hH hr=>
     have hrun:=z2h (P:=P) (w:=w) (isS:=false) (cap:=n) (m:=n) rl rh rm e1 e2 rfl hmh b1 b2 (aj _);refine⟨.slice (some (if n=l then⟨b,off,none⟩else(⟨b,off,none⟩:cF).add (l*(E.ty e).size))) (hh - l) (n - l),?_,?_⟩
     ·unfold eW;simp[run_underlying hu,dA,hrun,Te.size]
     ·have hone:∀ x,x ∈ cs->x.cellsL=[x]/\x.storable=true:=fun x hx=>by have:=ay.1 b5 x hx;cases x <;> first | exact⟨rfl,rfl⟩ | (simp[D.atom]at this)
      have hsub:∀ x,x ∈ (cs.drop l).take (hh - l)->x ∈ cs:=fun x hx=>bY (dM hx)
      have hun:∀ x,x ∈ (cs.drop l).take (hh - l)->x.cellsL.length=1/\x.storable=true:=fun x hx=>by obtain⟨h1,h2⟩:=hone x (hsub x hx);exact⟨by rw[h1];rfl,h2⟩
      have hlen:((cs.drop l).take (hh - l)).length=hh - l:=by simp;omega
      have hfl:yr ((cs.drop l).take (hh - l))=(cs.drop l).take (hh - l):=zbn fun x hx=>(hone x (hsub x hx)).1
      have key:=Rep.imm (φ:=φ) (ρ:=ρ) (H:=H) (hp:=w.heap) .none ((cs.drop l).take (hh - l)) (some (if n=l then⟨b,off,none⟩else(⟨b,off,none⟩:cF).add (l*(E.ty e).size))) (n - l) b (off+l) 1 (fun j=>vs (l+j)) hun (by omega) (fun h=>by cases h) (fun k hk=>by cases hk) (fun hne=>?_) (fun j hj=>?_) (fun j d1 hd1=>?_)
      ·rw[hlen]at key;exact key
      ·have h0:hh - l ≠ 0:=by intro h0;rw[h0]at hne;simp at hne
       rw[if_neg (by omega),b4,cN];simp[z1p]
      ·rw[hfl,hlen]at hj;have:=hH (l+j) (by omega)
       rw[dq];exact this
      ·rw[hfl,aZ]at hd1;split at hd1
       ·rw[cw]at hd1;exact hr _ d1 hd1
       ·simp at hd1
   ·simp at h
  ·simp at h
 ·simp at h
end
end Dv
namespace Dv
open Go (Value Program World Act Oper Operand Code)
section
variable{P:Program}{E:Env}{φ : Phi}{τ : Phi}{ρ : Rho}{H:HS}{w:World}
def zkw{t c off:Nat}{vs:List Value}{cs r:List D}{d:D}(T:TOk P E τ t c)(hs:yv φ ρ H w.heap vs cs)(ht:y2d cs off (E.ty c).size=some r)(hd:ym (E.ty c).ag r=some d) :
  ∃ v,(Go.part t vs.toArray off).run P w=.ok v w/\Rep φ ρ H w.heap v d:=by
 obtain⟨hl,hj⟩:=z3f ht;unfold Go.part;simp only[ax,T.isAgg,au];cases ha:(E.ty c).ag with
 |true=>
  rw[ha]at hd;simp[ym]at hd;subst hd;refine⟨.agg (vs.toArray.extract off (off+(E.ty c).size)),by simp[T.size],?_⟩
  have hsz:(vs.toArray.extract off (off+(E.ty c).size)).size=r.length:=by
   simp only[Array.size_extract,bQ];rw[hl,hs.1];cases hsz:(E.ty c).size with
   |zero=>simp;omega
   |succ m=>have:=(hj m (by omega)).2;omega
  refine .agg _ _ hsz (fun j v d hv hd=>?_)
  have hjr:j<(E.ty c).size:=by rw[<- hl];exact(ae.1 hd).1
  rw[Array.getElem?_extract]at hv;split at hv
  ·exact hs.2 (off+j) v d (by simpa using hv) (by rw[<- (hj j hjr).1];exact hd)
  ·simp at hv
 |false=>
  rw[ha]at hd
  match r,hd with
  |[c0],hd=>
   simp[ym]at hd;subst hd;have h1:=(hj 0 (by rw[<- hl];simp)).1
   simp at h1;obtain⟨v,hv,hr⟩:=hs.get h1.symm;exact⟨v,by simp[hv],hr⟩
  |[],hd=>simp[ym]at hd
  |_::_::_,hd=>simp[ym]at hd
def TOk.struct{t c:Nat}{fs:List (Nat × Nat)}(T:TOk P E τ t c)(h:(E.ty c).k=.struct fs):∃ fs':Array fo,P.underlying t=some (.struct fs')/\fs'.size=fs.length /\
  ∀(i:Nat) (f:fo) (p:Nat × Nat),fs'[i]? = some f->fs[i]? = some p->f.offset=p.1 /\ τ f.type=some p.2:=by
 have:=T.und;rw[h]at this;exact this
def zbi{fs':Array fo}{fs:List (Nat × Nat)}(hs:fs'.size=fs.length){i:Nat}{p:Nat × Nat}(h:fs[i]? = some p):∃ f,fs'[i]? = some f:=by have:=(ae.1 h).1;exact⟨fs'[i],bX (by omega)⟩
def zok(TA:y3k P E τ){t c:Nat}{vx:Value}{x d:D}{f:Nat}(T:TOk P E τ t c)(hx:Rep φ ρ H w.heap vx x)(h:y9q E c x f=some d) :
  ∃ v,(m8 t vx f).run P w=.ok v w/\Rep φ ρ H w.heap v d:=by
 unfold y9q at h;split at h
 ·rename_i fs cs hk;obtain⟨fs',hu,hs,hf⟩:=T.struct hk;obtain⟨vs,rfl,hr⟩:=hx.aggL;split at h
  ·rename_i off u hp;obtain⟨g,hg⟩:=zbi hs hp;obtain⟨ho,ht⟩:=hf _ _ _ hg hp;cases e:y2d cs off (E.ty u).size with
   |none=>simp[e]at h
   |some r=>simp[e]at h;obtain⟨v,h1,h2⟩:=zkw (TA _ _ ht) hr e h;refine⟨v,?_,h2⟩;unfold m8;simp only[ax,run_underlying hu,au,hg,Go.asAgg,aP];rw[ho];exact h1
  ·simp at h
 ·simp at h
def zol(TA:y3k P E τ){t c:Nat}{vx:Value}{x d:D}{f:Nat}(T:TOk P E τ t c)(hx:Rep φ ρ H w.heap vx x)(h:y69 E c x f=some d) :
  ∃ v,(jt t vx f).run P w=.ok v w/\Rep φ ρ H w.heap v d:=by
 unfold y69 at h;split at h
 ·rename_i fs id off hk;obtain⟨fs',hu,hs,hf⟩:=T.struct hk;split at h
  ·rename_i o u hp;obtain⟨g,hg⟩:=zbi hs hp;obtain⟨ho,ht⟩:=hf _ _ _ hg hp;split at h
   ·simp at h
   ·rename_i hz;simp at h;subst h;cases hx with
    |loc b cc _ _ hid=>refine⟨.pointer (some ⟨b,off+o,none⟩),?_,.loc _ _ _ _ hid⟩;unfold jt nX;simp[run_underlying hu,hg,dA,(TA _ _ ht).size,hz,z1p,ho]
  ·simp at h
 ·rename_i fs cs hk;obtain⟨fs',hu,hs,hf⟩:=T.struct hk;split at h
  ·rename_i o u hp;obtain⟨g,hg⟩:=zbi hs hp;obtain⟨ho,ht⟩:=hf _ _ _ hg hp;split at h
   ·simp at h
   ·rename_i hz;simp at h;subst h;cases hx with
    |iptr b off _ vs hH hr=>
     refine⟨.pointer (some ⟨b,off+o,none⟩),?_,.iptr b (off+o) _ (fun j=>vs (o+j)) (fun j hj=>?_) (fun j d hd=>hr _ d (by simpa using hd))⟩
     ·unfold jt nX;simp[run_underlying hu,hg,dA,(TA _ _ ht).size,hz,z1p,ho]
     ·have:=hH (o+j) (by simp at hj;omega)
      rw[dq];exact this
  ·simp at h
 ·simp at h
def zo5(TA:y3k P E τ){t c:Nat}{vx vi:Value}{x i d:D}(T:TOk P E τ t c)(hx:Rep φ ρ H w.heap vx x)(hi:Rep φ ρ H w.heap vi i)(h:y6m E c x i=some d) :
  ∃ v,(j0 t vx vi).run P w=.ok v w/\Rep φ ρ H w.heap v d:=by
 unfold y6m at h;split at h
 ·rename_i len e cs k n hk;have hu:=T.und;rw[hk]at hu;obtain⟨e',hu,he'⟩:=hu;have Te:=TA _ _ he';obtain⟨vs,rfl,hr⟩:=hx.aggL;obtain rfl:=hi.intv;split at h
  ·rename_i hn;cases e1:y2d cs (n.toNat*(E.ty e).size) (E.ty e).size with
   |none=>simp[e1]at h
   |some r=>simp[e1]at h;obtain⟨v,h1,h2⟩:=zkw Te hr e1 h;refine⟨v,?_,h2⟩;unfold j0;simp[eZ,run_underlying hu,hn.1,hn.2,Te.size,h1]
  ·simp at h
 ·rename_i s k n hk;have hu:=T.und;rw[hk]at hu;obtain rfl:=hi.intv;cases hx with
  |str bs=>
   split at h
   ·rename_i hn;split at h
    ·rename_i b hb;simp at h;subst h;refine⟨.int .u8 b.toNat,?_,.int _ _⟩;unfold j0;have hb':bs[n.toNat]? = some b:=by obtain⟨h1,h2⟩:=ae.1 hb;simp at h1 h2;have:n.toNat<bs.size:=h1;rw[getElem?_pos bs n.toNat this];exact congrArg some h2
     simp[eZ,run_underlying hu,hn,hb']
    ·simp at h
   ·simp at h
 ·simp at h
def zwd{os:List Obj}(R:RR φ ρ H w.heap os){t c t2:Nat}{vx:Value}{x d:D}(T:TOk P E τ t c)(hx:Rep φ ρ H w.heap vx x)(h:y7l E os c x=some d) :
  ∃ v,(ff #[t] t2 #[vx]).run P w=.ok v w/\Rep φ ρ H w.heap v d:=by
 unfold y7l at h;split at h
 ·rename_i e sp els hk;obtain⟨e',hu,he'⟩:=T.slice hk;simp at h;subst h;obtain⟨a,cap,b,off,su,rfl,_⟩:=z7z hx;exact⟨_,by simp[ff,run_underlying hu];rfl,.int _ _⟩
 ·rename_i e id off len sz ag gr hk;obtain⟨e',hu,he'⟩:=T.slice hk;simp at h;subst h;cases hx;exact⟨_,by simp[ff,run_underlying hu];rfl,.int _ _⟩
 ·rename_i s hk;have hu:=T.und;rw[hk]at hu;simp at h;subst h;cases hx with
  |str bs=>exact⟨_,by simp[ff,run_underlying hu];rfl,by simp[ju];exact .int _ _⟩
 ·rename_i n e _ hk;have hu:=T.und;rw[hk]at hu;obtain⟨e',hu,he'⟩:=hu;simp at h;subst h;exact⟨_,by simp[ff,run_underlying hu];rfl,.int _ _⟩
 ·rename_i k e hk;have hu:=T.und;rw[hk]at hu;obtain⟨k',e',hu,_⟩:=hu;simp at h;subst h;cases hx;exact⟨_,by simp[ff,run_underlying hu];rfl,.int _ _⟩
 ·rename_i k e id hk;have hu:=T.und;rw[hk]at hu;obtain⟨k',e',hu,_⟩:=hu;split at h
  ·rename_i es hes;simp at h;subst h;cases hx with
   |map b cc _ hid=>
    obtain⟨me,clock,h1,h2,h3,_⟩:=R.map _ _ _ _ hid hes;refine⟨.int .i64 me.size,?_,by rw[h2];exact .int _ _⟩
    simp[ff,run_underlying hu,fc,e8,h1,ju]
  ·simp at h
 ·simp at h
end
end Dv
namespace Dv
open Go (Value Program World Act Oper Operand Code)
section
variable{P:Program}{E:Env}{φ : Phi}{τ : Phi}{ρ : Rho}{H:HS}{w:World}
def zo4{op:iT}{k:bj}{a b:Int}{t:Nat}{d:D}(h:y38 op k a b=some d) :
  ∃ v,(cE op t (.int k a) (.int k b)).run P w=.ok v w/\Rep φ ρ H w.heap v d:=by
 unfold y38 at h;cases op <;> simp only[reduceCtorEq,aa]at h
 case and=>subst h;exact⟨.int k _,by simp[cE,jg,yg8],.int _ _⟩
 case or=>subst h;exact⟨.int k _,by simp[cE,jg,yc3],.int _ _⟩
 case xor=>subst h;exact⟨.int k _,by simp[cE,jg,y9x],.int _ _⟩
 case add=>subst h;exact⟨.int k _,by simp[cE,iU],.int _ _⟩
 case sub=>subst h;exact⟨.int k _,by simp[cE,iU],.int _ _⟩
 case mul=>subst h;exact⟨.int k _,by simp[cE,iU],.int _ _⟩
 case quo=>
  split at h
  ·simp at h
  ·rename_i hb;simp at h;subst h;exact⟨.int k _,by simp[cE,oK,hb],.int _ _⟩
 case rem=>
  split at h
  ·simp at h
  ·rename_i hb;simp at h;subst h;exact⟨.int k _,by simp[cE,oK,hb],.int _ _⟩
 case eql=>subst h;exact⟨.bool _,by simp[cE,gG],.bool _⟩
 case neq=>subst h;exact⟨.bool _,by simp[cE,gG],.bool _⟩
 case lss=>subst h;exact⟨.bool _,by simp[cE,gG],.bool _⟩
 case leq=>subst h;exact⟨.bool _,by simp[cE,gG],.bool _⟩
 case gtr=>subst h;exact⟨.bool _,by simp[cE,gG],.bool _⟩
 case geq=>subst h;exact⟨.bool _,by simp[cE,gG],.bool _⟩
def zp2(a:ByteArray):∀(n i:Nat) (r:List UInt8),a.size - i=n->iv a i r=r.reverse++a.data.toList.drop i:=by
 intro n
 induction n with
 |zero=>intro i r h;unfold iv;have hs:a.data.toList.length=a.size:=rfl;rw[if_neg (by omega),List.drop_eq_nil_of_le (by omega),bG]
 |succ n ih=>
  intro i r h;unfold iv;have hs:a.data.toList.length=a.size:=rfl;rw[if_pos (by omega),ih (i+1) _ (by omega)]
  have hi:i<a.data.size:=by have:a.size=a.data.size:=rfl;omega
  rw[List.drop_eq_getElem_cons (i:=i) (by simpa using hi)]
  simp[ByteArray.get!];exact getElem!_pos a.data i hi
def z6m(a:ByteArray):a.toList=a.data.toList:=by
 unfold ByteArray.toList;rw[zp2 a a.size 0 [] (by simp)]
 simp
def z23(op:iT)(t:Nat)(x y:Operand)(a b:Value)(h:(∀ xs,a ≠ .agg xs)/\a ≠ .nilIface):(kG op t x y a b).run P w=.ok () w:=by unfold kG;cases op <;> simp <;> (split <;> simp_all)
def zub{op:iT}{t c:Nat}{ox oy:Operand}{vx vy:Value}{x y d:D}(T:TOk P E τ t c)(hx:Rep φ ρ H w.heap vx x)(hy:Rep φ ρ H w.heap vy y)
  (h:y3h E op c x y=some d) :
  ∃ v,(do kG op t ox oy vx vy;cE op t vx vy:fO Value).run P w=.ok v w/\Rep φ ρ H w.heap v d:=by
 unfold y3h at h;split at h
 ·rename_i k a k' b;obtain rfl:=hx.intv;obtain rfl:=hy.intv;have hg:=z23 (P:=P) (w:=w) op t ox oy (.int k a) (.int k' b) ⟨fun _=>by simp,by simp⟩
  split at h
  ·split at h
   ·rename_i hb;simp at h;subst h;refine⟨.int k _,?_,.int _ _⟩;simp[hg,cE,pR,tJ.2 hb]
   ·simp at h
  ·split at h
   ·rename_i hb;simp at h;subst h;refine⟨.int k _,?_,.int _ _⟩;simp[hg,cE,pR,tJ.2 hb]
   ·simp at h
  ·split at h
   ·rename_i hk;subst hk;obtain⟨v,h1,h2⟩:=zo4 (P:=P) (w:=w) (t:=t) (φ:=φ) (ρ:=ρ) (H:=H) h;exact⟨v,by simp[hg,h1],h2⟩
   ·simp at h
 ·rename_i a b;obtain rfl:=hx.boolv;obtain rfl:=hy.boolv;have hg:=z23 (P:=P) (w:=w) op t ox oy (.bool a) (.bool b) ⟨fun _=>by simp,by simp⟩
  split at h
  ·rename_i hk;have hu:=T.und;rw[hk]at hu;simp at h;subst h;refine⟨.bool (a == b),?_,.bool _⟩;simp[hg,cE,jQ,ka,iC w 9999 t a b hu]
  ·rename_i hk;have hu:=T.und;rw[hk]at hu;simp at h;subst h;refine⟨.bool (!(a == b)),?_,.bool _⟩;simp[hg,cE,jQ,ka,iC w 9999 t a b hu]
  ·simp at h
 ·rename_i xs ys;split at h
  ·rename_i he;obtain⟨vs,rfl,hr⟩:=hx.aggL;obtain⟨us,rfl,hs⟩:=hy.aggL;have Q:=T.eq he.1;have hg:(kG op t ox oy (.agg vs.toArray) (.agg us.toArray)).run P w=.ok () w:=Go.run_eqGuard_agg w op t ox oy _ _ Q.guard;have hlen:=zns hr he.2;split at h
   ·rename_i r hr';simp at h;subst h;have:=Q.eq w 9984 vs us r hlen (ze2 hr hs hr');refine⟨.bool r,?_,.bool _⟩;simp only[ax,hg,au];rw[Go.run_eql_struct,this];rfl
   ·rename_i r hr';simp at h;subst h;have:=Q.eq w 9984 vs us r hlen (ze2 hr hs hr');refine⟨.bool (!r),?_,.bool _⟩;simp only[ax,hg,au];rw[Go.run_neq_struct,this];rfl
   ·simp at h
  ·simp at h
 ·rename_i a b;cases hx with
  |str a=>
  cases hy with
  |str b=>
  have hg:=z23 (P:=P) (w:=w) op t ox oy (.string a) (.string b) ⟨fun _=>by simp,by simp⟩
  split at h
  ·simp only[aa]at h;subst h;refine⟨.bool (a.toList == b.toList),?_,by rw[z6m,z6m];exact .bool _⟩
   simp[hg,cE,m9]
  ·simp only[aa]at h;subst h;refine⟨.bool (!(a.toList == b.toList)),?_,by rw[z6m,z6m];exact .bool _⟩
   simp[hg,cE,m9]
  ·simp at h
 ·simp at h
def yhb{op:Go.UnOp}{vx:Value}{x d:D}(hx:Rep φ ρ H w.heap vx x)(h:unD op x=some d) :
  ∃ v,(jR op vx).run P w=.ok v w/\Rep φ ρ H w.heap v d:=by
 unfold unD at h;split at h
 ·rename_i b;obtain rfl:=hx.boolv;simp at h;subst h;exact⟨.bool (!b),by simp[jR],.bool _⟩
 ·rename_i k n;obtain rfl:=hx.intv;simp at h;subst h;exact⟨.int k _,by simp[jR,jg,y9x],.int _ _⟩
 ·rename_i k n;obtain rfl:=hx.intv;simp at h;subst h;exact⟨.int k _,by simp[jR,iU],.int _ _⟩
 ·simp at h
def zxv(_TA:y3k P E τ){s cs dd cd:Nat}{vx:Value}{x d:D}(Ts:TOk P E τ s cs)(Td:TOk P E τ dd cd)(hx:Rep φ ρ H w.heap vx x)(h:y49 E cs cd x=some d) :
  ∃ v,(kH s dd vx).run P w=.ok v w/\Rep φ ρ H w.heap v d:=by
 unfold y49 at h;split at h
 ·rename_i k1 k k' n hk1 hk;have h1:=Ts.und;rw[hk1]at h1;have h2:=Td.und;rw[hk]at h2;obtain rfl:=hx.intv;simp at h;subst h;exact⟨.int k _,by simp[kH,run_underlying h1,run_underlying h2,Go.Conv.intToInt],.int _ _⟩
 ·simp at h
def zbl{f:Int->Int->Int}{g:Value->Value->fO Value}(hg:∀ k a b,(g (.int k a) (.int k b)).run P w=.ok (.int k (f a b)) w) :
  ∀{l:List D} {vs:List Value} {k:bj} {a:Int} {d:D},yv φ ρ H w.heap vs l->y8k f k a l=some d->∃ v,(vs.foldlM g (.int k a)).run P w=.ok v w/\Rep φ ρ H w.heap v d
 |[],[],k,a,d,_,h=>by simp[y8k]at h;subst h;exact⟨.int k a,by simp[pS],.int _ _⟩
 |[],_::_,_,_,_,hr,_=>by have:=hr.1;simp at this
 |_::_,[],_,_,_,hr,_=>by have:=hr.1;simp at this
 |x::l,v::vs,k,a,d,hr,h=>by
  cases x <;> simp only[y8k]at h <;> try (simp at h;done)
  rename_i k' b;split at h
  ·rename_i hk;subst hk;obtain⟨hv,hr'⟩:=hr.of_cons;obtain rfl:=hv.intv;obtain⟨v,h1,h2⟩:=zbl hg hr' h;exact⟨v,by simp[pS,hg,h1],h2⟩
  ·simp at h
def zwa{t1 t2}{vs:List Value}{l:List D}{d:D}(hr:yv φ ρ H w.heap vs l)(h:y8c l=some d) :
  ∃ v,(mJ t1 t2 vs.toArray).run P w=.ok v w/\Rep φ ρ H w.heap v d:=by
 unfold y8c at h;split at h
 ·rename_i k a r
  match vs,hr with
  |[],hr=>have:=hr.1;simp at this
  |v::vs,hr=>
   obtain⟨hv,hr'⟩:=hr.of_cons;obtain rfl:=hv.intv;obtain⟨v,h1,h2⟩:=zbl (P:=P) (g:=mK) (fun k a b=>by simp[mK]) hr' h
   exact⟨v,by simp[mJ,h1],h2⟩
 ·simp at h
def zw9{t1 t2}{vs:List Value}{l:List D}{d:D}(hr:yv φ ρ H w.heap vs l)(h:y8b l=some d) :
  ∃ v,(mL t1 t2 vs.toArray).run P w=.ok v w/\Rep φ ρ H w.heap v d:=by
 unfold y8b at h;split at h
 ·rename_i k a r
  match vs,hr with
  |[],hr=>have:=hr.1;simp at this
  |v::vs,hr=>
   obtain⟨hv,hr'⟩:=hr.of_cons;obtain rfl:=hv.intv;obtain⟨v,h1,h2⟩:=zbl (P:=P) (g:=mM) (fun k a b=>by simp[mM]) hr' h
   exact⟨v,by simp[mL,h1],h2⟩
 ·simp at h
end
end Dv
namespace Dv
open Go (Value Program World Act Oper Operand Code)
section
variable{P:Program}{E:Env}{φ : Phi}{τ : Phi}{ρ : Rho}{H:HS}{w:World}
def z3m{cs:List D}:∀{off:Nat} {vs:List D},(setCells cs off vs).length=cs.length
 |off,[]=>rfl
 |off,v::vs=>by simp only[setCells];rw[z3m];simp
def y7i(cs:List Value)(off:Nat):List Value->List Value
 |[]=>cs
 |v::vs=>y7i (cs.set off v) (off+1) vs
def yv.setCells{hp:y1x}:∀{vs':List Value} {ds':List D} {vs:List Value} {ds:List D} (off:Nat),yv φ ρ H hp vs ds->yv φ ρ H hp vs' ds'->yv φ ρ H hp (y7i vs off vs') (Dv.setCells ds off ds')
 |[],[],vs,ds,off,h,_=>h
 |[],_::_,_,_,_,_,h=>by have:=h.1;simp at this
 |_::_,[],_,_,_,_,h=>by have:=h.1;simp at this
 |v::vs',d::ds',vs,ds,off,h,h'=>by simp only[y7i,Dv.setCells];exact yv.setCells (off+1) (h.set off h'.of_cons.1) h'.of_cons.2
def zhb:∀(l:List Value) (k off:Nat) (arr:Array Value),((l.zipIdx k).foldl (fun cs (p:Value × Nat)=>cs.setIfInBounds (off+p.2) p.1) arr).toList=y7i arr.toList (off+k) l
 |[],k,off,arr=>rfl
 |v::l,k,off,arr=>by simp only[List.zipIdx_cons,bS,y7i];rw[zhb l (k+1) off];simp[dq]
def ygd(φ : Phi)(ρ : Rho)(H:HS)(hp:y1x)(vs:List (Nat × Value))(ds:List (Nat × D)):Prop:=
 vs.map (·.1)=ds.map (·.1)/\yv φ ρ H hp (vs.map (·.2)) (ds.map (·.2))
def ygd.cons_inv{hp:y1x}{v:Nat × Value}{d:Nat × D}{vs:List (Nat × Value)}{ds:List (Nat × D)}(h:ygd φ ρ H hp (v::vs) (d::ds)):v.1=d.1/\Rep φ ρ H hp v.2 d.2/\ygd φ ρ H hp vs ds:=by obtain⟨h1,h2⟩:=h;simp only[al,bZ]at h1 h2;exact⟨h1.1,h2.of_cons.1,h1.2,h2.of_cons.2⟩
def za0{hp:y1x}{place:Nat->Option (Nat × Nat)}:∀{ps:List (Nat × Value)} {ds:List (Nat × D)} {arr:Array Value} {cs r:List D},yv φ ρ H hp arr.toList cs->ygd φ ρ H hp ps ds->y6p place cs ds=some r ->
  ∃ arr',nY place arr ps=some arr'/\yv φ ρ H hp arr'.toList r
 |[],[],arr,cs,r,h,_,hf=>by simp[y6p]at hf;subst hf;exact⟨arr,rfl,h⟩
 |[],_::_,_,_,_,_,h,_=>by have:=h.1;simp at this
 |_::_,[],_,_,_,_,h,_=>by have:=h.1;simp at this
 |p::ps,d::ds,arr,cs,r,h,hp',hf=>by
  obtain⟨e1,e2,e3⟩:=hp'.cons_inv;obtain⟨pi,pv⟩:=p;obtain⟨di,dd⟩:=d;simp only at e1 e2;subst e1;simp only[y6p]at hf;split at hf
  ·simp at hf
  ·rename_i off size hpl;split at hf
   ·rename_i hc;have hcl:=e2.cells hc.1;have hsz:pv.cells.size=size:=by have:=hcl.1;simpa[hc.2.1]using this
    have hb : ¬ (pv.cells.size ≠ size\/off+pv.cells.size > arr.size):=by have h1:=h.1;simp at h1;have:=hc.2.2;omega
    have hset:yv φ ρ H hp (pv.cells.zipIdx.foldl (fun cs (p:Value × Nat)=>cs.setIfInBounds (off+p.2) p.1) arr).toList (Dv.setCells cs off dd.cellsL):=by rw[<- Array.foldl_toList,Array.toList_zipIdx,zhb,dY];exact h.setCells off hcl
    obtain⟨arr',h1,h2⟩:=za0 hset e3 hf;refine⟨arr',?_,h2⟩;have hb1 : ¬ pv.cells.size ≠ size:=fun hh=>hb (.inl hh)
    have hb2 : ¬ off+pv.cells.size > arr.size:=fun hh=>hb (.inr hh)
    simp only[nY,hpl];rw[if_neg (by simp;exact⟨by simpa using hb1,by omega⟩)]
    exact h1
   ·simp at hf
def TOk.zeroV{t c:Nat}(T:TOk P E τ t c)(h1:(E.ty c).zero.length=(E.ty c).size)(h2:(E.ty c).size ≠ 0):∃ z,(dt t).run P w=.ok z w/\yv φ ρ H w.heap z.cells.toList (E.ty c).zero /\
  ∀ d,ym (E.ty c).ag (E.ty c).zero=some d->Rep φ ρ H w.heap z d:=by
 obtain⟨i,hi,_,_,hz⟩:=T.info;obtain⟨z,hz1,hz2,hz3⟩:=hz h1 h2;have hr:yv φ ρ H w.heap z.cells.toList (E.ty c).zero:=z51 hz2;refine⟨z,by simp[dt,z1n hi,hz1],hr,fun d hd=>?_⟩
 rw[<- hz3]at hd;cases z with
 |agg vs=>simp[y9o,ym]at hd;subst hd;simpa[Value.cells]using hr.agg
 |_=>
  simp only[y9o]at hd;generalize (E.ty c).zero=zs at hd hr
  match zs,hd with
  |[c0],hd=>simp[ym]at hd;subst hd;exact hr.of_cons.1
  |[],hd=>simp[ym]at hd
  |_::_::_,hd=>simp[ym]at hd
def z2x{t c:Nat}{z:D}(T:TOk P E τ t c)(h:y28 E c=some z):∃ zv,(dt t).run P w=.ok zv w/\yv φ ρ H w.heap zv.cells.toList z.cellsL/\Rep φ ρ H w.heap zv z /\
  z.cellsL.length=(E.ty c).size/\z.storable=true/\(E.ty c).size ≠ 0:=by
 unfold y28 at h;split at h
 ·rename_i h1;split at h
  ·rename_i z' hz;split at h
   ·rename_i h2;simp at h;subst h;obtain⟨zv,e1,_,e3⟩:=T.zeroV (w:=w) (φ:=φ) (ρ:=ρ) (H:=H) h1.1 h1.2;exact⟨zv,e1,(e3 _ hz).cells h2.2,e3 _ hz,h2.1,h2.2,h1.2⟩
   ·simp at h
  ·simp at h
 ·simp at h
def zd1(TA:y3k P E τ):∀(fs':List fo) (fs:List (Nat × Nat)),fs'.length=fs.length->(∀(i:Nat) (f:fo) (p:Nat × Nat),fs'[i]? = some f->fs[i]? = some p->f.offset=p.1 /\ τ f.type=some p.2) ->
  (fs'.mapM fun(f:fo)=>(do pure (f.offset,<- gF f.type):fO (Nat × Nat))).run P w=.ok (fs.map fun p=>(p.1,(E.ty p.2).size)) w
 |[],[],_,_=>by simp
 |[],_::_,h,_=>by simp at h
 |_::_,[],h,_=>by simp at h
 |f::fs',p::fs,hl,h=>by
  obtain⟨h1,h2⟩:=h 0 f p rfl rfl;have ih:=zd1 TA fs' fs (by simpa using hl) (fun i f' p' hf hp=>h (i+1) f' p' (by simpa using hf) (by simpa using hp))
  rw[List.mapM_cons];simp only[ax,(TA _ _ h2).size,au,aP,ih,h1,al]
def zu4(TA:y3k P E τ){t c:Nat}{ps:List (Nat × Value)}{ds:List (Nat × D)}{d:D}(T:TOk P E τ t c)(hp:ygd φ ρ H w.heap ps ds)(hz:(E.ty c).zero.length=(E.ty c).size/\(E.ty c).size ≠ 0)(h:y8n E c ds=some d) :
  ∃ v,(kb t ps.toArray).run P w=.ok v w/\Rep φ ρ H w.heap v d:=by
 obtain⟨z,hz1,hz2,_⟩:=T.zeroV (w:=w) (φ:=φ) (ρ:=ρ) (H:=H) hz.1 hz.2;unfold y8n at h;split at h
 ·rename_i fs hk;obtain⟨fs',hu,hs,hf⟩:=T.struct hk;cases e:y6p (fun i=>(fs[i]?).map fun f=>(f.1,(E.ty f.2).size)) (E.ty c).zero ds with
  |none=>simp[e]at h
  |some r=>
   simp[e]at h;subst h;obtain⟨arr',h1,h2⟩:=za0 hz2 hp e;refine⟨.agg arr',?_,?_⟩
   ·have hm:=zd1 (P:=P) (w:=w) TA fs'.toList fs (by simpa using hs) (by simpa using hf)
    have hm':(fs'.mapM fun(f:fo)=>(do pure (f.offset,<- gF f.type):fO (Nat × Nat))).run P w=.ok (fs.map fun p=>(p.1,(E.ty p.2).size)).toArray w:=by rw[Array.mapM_eq_mapM_toList];rw[iW,hm];rfl
    unfold kb;simp only[ax,hz1,au,run_underlying hu,hm'];have hpl:(fun(i:Nat)=>(fs.map fun p=>(p.1,(E.ty p.2).size)).toArray[i]?)=fun(i:Nat)=>(fs[i]?).map fun(f:Nat × Nat)=>(f.1,(E.ty f.2).size):=by funext i;simp
    rw[hpl,h1];simp
   ·have:=h2.agg;simpa using this
 ·rename_i n e hk;have hu:=T.und;rw[hk]at hu;obtain⟨e',hu,he'⟩:=hu;cases e1:y6p (fun i=>some (i*(E.ty e).size,(E.ty e).size)) (E.ty c).zero ds with
  |none=>simp[e1]at h
  |some r=>
   simp[e1]at h;subst h;obtain⟨arr',h1,h2⟩:=za0 hz2 hp e1;refine⟨.agg arr',?_,?_⟩
   ·unfold kb;simp only[ax,hz1,au,run_underlying hu,(TA _ _ he').size];rw[h1];simp
   ·have:=h2.agg;simpa using this
 ·simp at h
end
end Dv
namespace Dv
open Go (Value Program World Act Oper Operand Code)
section
variable{P:Program}{E:Env}{φ : Phi}{τ : Phi}{ρ : Rho}{H:HS}{w:World}
def y7e(φ : Phi)(ρ : Rho)(H:HS)(hp:y1x)(me:List bC)(es:List (D × D)):Prop:=
 me.length=es.length /\ ∀(j:Nat) (e:bC) (p:D × D),me[j]? = some e->es[j]? = some p->Rep φ ρ H hp e.key p.1/\Rep φ ρ H hp e.val p.2
def y7e.cons_inv{hp:y1x}{e:bC}{p:D × D}{me:List bC}{es:List (D × D)}(h:y7e φ ρ H hp (e::me) (p::es)):(Rep φ ρ H hp e.key p.1/\Rep φ ρ H hp e.val p.2)/\y7e φ ρ H hp me es:=
 ⟨h.2 0 e p rfl rfl,by simpa using h.1,fun j e' p' h1 h2=>h.2 (j+1) e' p' (by simpa using h1) (by simpa using h2)⟩
def y81.list{hp:y1x}{b:Nat}{es:List (D × D)}(h:y81 φ ρ H hp b es):∃(me:Array bC) (clock:Nat),hp[b]? = some (.map me clock)/\y7e φ ρ H hp me.toList es/\y3s me clock:=by obtain⟨me,clock,h1,h2,h3,h4⟩:=h;exact⟨me,clock,h1,⟨by simpa using h2,fun j e p he hp=>h3 j e p (by simpa using he) hp⟩,h4⟩
def y1o(k:D):List (D × D)->Nat->Option Nat
 |[],_=>none
 |e::es,i=>match k.eqb e.1 with
  |some true=>some i
  |_=>y1o k es (i+1)
def z71{kt ck:Nat}(T:TOk P E τ kt ck){vk:Value}{k:D}(hk:Rep φ ρ H w.heap vk k)(hok:y4w E ck k=true) :
  ∀{me:List bC} {es:List (D × D)} {r:Option D},y7e φ ρ H w.heap me es->y17 k es=some r ->
   ∃ x:Option (Nat × Value),(fC kt vk me).run P w=.ok x w/\x.map (·.1)=y1o k es 0 /\
    (match r,x with | none,none=>True | some d,some p=>Rep φ ρ H w.heap p.2 d | _,_=>False):=by
 -- the two ways of looking
 have plain:∀(u:pQ),P.underlying kt=some u ->
   (∀(v:Value) (d:D) (b:Bool),Rep φ ρ H w.heap v d->k.eqb d=some b->ii u vk v=some b) ->
   ∀{me:List bC} {es:List (D × D)} {r:Option D},y7e φ ρ H w.heap me es->y17 k es=some r ->
   ∃ x:Option (Nat × Value),(fC kt vk me).run P w=.ok x w/\x.map (·.1)=y1o k es 0 /\
    (match r,x with | none,none=>True | some d,some p=>Rep φ ρ H w.heap p.2 d | _,_=>False):=by
  intro u hu hs me es r hm hf;have go:∀(me:List bC) (es:List (D × D)) (r:Option D) (i:Nat),y7e φ ρ H w.heap me es->y17 k es=some r ->
    ∃ x:Option (Nat × Value),fD u vk me i=some x/\x.map (·.1)=y1o k es i/\(match r,x with | none,none=>True | some d,some p=>Rep φ ρ H w.heap p.2 d | _,_=>False):=by
   intro me
   induction me with
   |nil=>
    intro es r i hm hf
    match es,hm with
    |[],_=>simp[y17]at hf;subst hf;exact⟨none,rfl,rfl,trivial⟩
    |_::_,hm=>have:=hm.1;simp at this
   |cons e me ih=>
    intro es r i hm hf
    match es,hm with
    |[],hm=>have:=hm.1;simp at this
    |p::es,hm=>
     obtain⟨⟨h1,h2⟩,h3⟩:=hm.cons_inv;simp only[y17]at hf;cases hb:k.eqb p.1 with
     |none=>simp[hb]at hf
     |some b=>
      have:=hs _ _ _ h1 hb;cases b with
      |true=>simp[hb]at hf;subst hf;exact⟨some (i,e.val),by simp[fD,this],by simp[y1o,hb],h2⟩
      |false=>simp[hb]at hf;obtain⟨x,e1,e2,e3⟩:=ih es r (i+1) h3 hf;exact⟨x,by simp[fD,this,e1],by simp[y1o,hb,e2],e3⟩
  obtain⟨x,e1,e2,e3⟩:=go me es r 0 hm hf;exact⟨x,by simp[fC,run_underlying hu,e1],e2,e3⟩
 unfold y4w at hok;intro me es r hm hf;split at hok
 ·-- a struct
  rename_i xs;simp only[ak,beq_iff_eq]at hok;have Q:=T.eq hok.1;obtain⟨vs,rfl,hr⟩:=hk.aggL;obtain⟨u,hu,hnot⟩:=Q.kind;have hlen:=zns hr hok.2;have go:∀(me:List bC) (es:List (D × D)) (r:Option D) (i:Nat),y7e φ ρ H w.heap me es->y17 (.agg xs) es=some r ->
    ∃ x:Option (Nat × Value),(fL kt (.agg vs.toArray) me i).run P w=.ok x w/\x.map (·.1)=y1o (.agg xs) es i/\(match r,x with | none,none=>True | some d,some p=>Rep φ ρ H w.heap p.2 d | _,_=>False):=by
   intro me
   induction me with
   |nil=>
    intro es r i hm hf
    match es,hm with
    |[],_=>simp[y17]at hf;subst hf;exact⟨none,by simp[fL],rfl,trivial⟩
    |_::_,hm=>have:=hm.1;simp at this
   |cons e me ih=>
    intro es r i hm hf
    match es,hm with
    |[],hm=>have:=hm.1;simp at this
    |p::es,hm=>
     obtain⟨⟨h1,h2⟩,h3⟩:=hm.cons_inv;simp only[y17]at hf;cases hb:D.eqb (.agg xs) p.1 with
     |none=>simp[hb]at hf
     |some b=>
      have key:(jQ kt (.agg vs.toArray) e.key).run P w=.ok b w:=by
       cases hp1:p.1 <;> rw[hp1]at hb <;> simp[D.eqb,y2a]at hb
       rename_i ys;rw[hp1]at h1;obtain⟨us,hus,hr2⟩:=h1.aggL;rw[hus];exact Q.eq w 9984 vs us b hlen (ze2 hr hr2 hb)
      cases b with
      |true=>simp[hb]at hf;subst hf;exact⟨some (i,e.val),by simp[fL,key],by simp[y1o,hb],h2⟩
      |false=>simp[hb]at hf;obtain⟨x,e1,e2,e3⟩:=ih es r (i+1) h3 hf;exact⟨x,by simp[fL,key,e1],by simp[y1o,hb,e2],e3⟩
  have hnow:fD u (.agg vs.toArray) me 0=none\/me=[]:=by
   cases me with
   |nil=>exact .inr rfl
   |cons e me=>exact .inl (by simp[fD,ii])
  rcases hnow with hnow | rfl
  ·obtain⟨x,e1,e2,e3⟩:=go me es r 0 hm hf;exact⟨x,by simp[fC,run_underlying hu,hnow,e1],e2,e3⟩
  ·obtain⟨x,e1,e2,e3⟩:=go [] es r 0 hm hf;simp[fL]at e1;subst e1;exact⟨none,by simp[fC,run_underlying hu,fD],e2,e3⟩
 ·rename_i b hkk;have hu:=T.und;rw[hkk]at hu;obtain rfl:=hk.boolv;refine plain _ hu (fun v d b' hv he=>?_) hm hf
  cases d <;> simp[D.eqb,y2a]at he
  subst he;obtain rfl:=hv.boolv
  rfl
 ·rename_i q n q' hkk;have hu:=T.und;rw[hkk]at hu;obtain rfl:=hk.intv;refine plain _ hu (fun v d b' hv he=>?_) hm hf
  cases d <;> simp[D.eqb,y2a]at he
  obtain⟨e1,e2⟩:=he;subst e1;subst e2;obtain rfl:=hv.intv;simp[ii]
 ·rename_i s hkk;have hu:=T.und;rw[hkk]at hu;cases hk with
  |str bs=>
   refine plain _ hu (fun v d b' hv he=>?_) hm hf
   cases d <;> simp[D.eqb,y2a]at he
   subst he;cases hv with
   |str bs'=>
    simp only[ii,aa];obtain⟨⟨x⟩⟩:=bs;obtain⟨⟨y⟩⟩:=bs';show((⟨x⟩:Array UInt8) == ⟨y⟩)=(x == y)
    simp
 ·simp at hok
def z61{kt ck:Nat}(T:TOk P E τ kt ck){vk:Value}{k:D}(hk:Rep φ ρ H w.heap vk k)(hok:y4w E ck k=true)(em:Bool):(cX em 10000 kt vk).run P w=.ok () w:=by
 unfold y4w at hok;split at hok
 ·rename_i xs;simp only[ak,beq_iff_eq]at hok;have Q:=T.eq hok.1;obtain⟨vs,rfl,hr⟩:=hk.aggL;have hlen:=zns hr hok.2;exact Q.key w em 9984 vs hlen
 ·rename_i b hkk;have hu:=T.und;rw[hkk]at hu;rw[show(10000:Nat)=9999+1 from rfl,cX]
  simp[run_underlying hu]
 ·rename_i q n q' hkk;have hu:=T.und;rw[hkk]at hu;rw[show(10000:Nat)=9999+1 from rfl,cX]
  simp[run_underlying hu]
 ·rename_i s hkk;have hu:=T.und;rw[hkk]at hu;rw[show(10000:Nat)=9999+1 from rfl,cX]
  simp[run_underlying hu]
 ·simp at hok
def zn1{t k' e':Nat}{vm vk:Value}{ok:Bool}{me:Array bC}{x:Option (Nat × Value)}(hu:P.underlying t=some (.map k' e'))
  (hvm:(vm=.map none/\me = #[]) \/ ∃ b clock,vm=.map (some b)/\w.heap[b]? = some (.map me clock)) (hck:(cX me.isEmpty 10000 k' vk).run P w=.ok () w)
  (hf:(fC k' vk me.toList).run P w=.ok x w) :
  (iD t vm vk ok).run P w=(match x with
   |some p=>.ok (if ok then .tuple #[p.2,.bool true]else p.2) w
   |none=>((dt e').run P w).andThen fun z w'=>.ok (if ok then .tuple #[z,.bool false]else z) w'):=by
 rcases hvm with⟨rfl,rfl⟩ | ⟨b,clock,rfl,hb⟩
 ·unfold iD;simp only[ax,run_underlying hu,au,aP,hck,hf];cases x with
  |some p=>cases ok <;> simp
  |none=>cases h:(dt e').run P w <;> cases ok <;> simp[h]
 ·unfold iD;have hg:(fc b).run P w=.ok (.map me clock) w:=by simp[fc,e8,hb]
  simp only[ax,run_underlying hu,au,hg,aP,hck,hf];cases x with
  |some p=>cases ok <;> simp
  |none=>cases h:(dt e').run P w <;> cases ok <;> simp[h]
def zdb(TA:y3k P E τ){os:List Obj}(R:RR φ ρ H w.heap os){t c:Nat}{vm vk:Value}{m k d:D}{ok:Bool}(T:TOk P E τ t c)(hm:Rep φ ρ H w.heap vm m)(hk:Rep φ ρ H w.heap vk k)(h:y2f E os c m k ok=some d) :
  ∃ v,(iD t vm vk ok).run P w=.ok v w/\Rep φ ρ H w.heap v d:=by
 unfold y2f at h;split at h
 ·rename_i kt e mid hkk;have hu:=T.und;rw[hkk]at hu;obtain⟨k',e',hu,hk',he'⟩:=hu;split at h
  ·rename_i hok;split at h
   ·rename_i es hes;obtain⟨me,hme,hrm⟩:∃ me:Array bC,((vm=.map none/\me = #[]) \/ ∃ b clock,vm=.map (some b)/\w.heap[b]? = some (.map me clock))/\y7e φ ρ H w.heap me.toList es:=by
     cases mid with
     |none=>cases hm;simp at hes;subst hes;exact⟨#[],.inl ⟨rfl,rfl⟩,rfl,fun j e p he=>by simp at he⟩
     |some id=>
      cases hm with
      |map b cc _ hid=>
       simp only at hes;split at hes
       ·rename_i es' hos;simp at hes;subst hes;obtain⟨me,clock,h1,h2,_⟩:=(R.map _ _ _ _ hid hos).list;exact⟨me,.inr ⟨b,clock,rfl,h1⟩,h2⟩
       ·simp at hes
    have hck:=z61 (w:=w) (TA _ _ hk') hk hok me.isEmpty;cases hf:y17 k es with
    |none=>simp[hf]at h
    |some r=>
     obtain⟨x,h1,_,h3⟩:=z71 (TA _ _ hk') hk hok hrm hf;have hrun:=zn1 (ok:=ok) hu hme hck h1;cases r with
     |some dv=>
      match x,h3 with
      |some p,h3=>
       simp[hf]at h;obtain⟨pi,pv⟩:=p;refine⟨if ok then .tuple #[pv,.bool true]else pv,by rw[hrun],?_⟩
       cases ok
       ·simp at h;subst h;exact h3
       ·simp at h;subst h;exact .tup _ _ rfl (fun j v d hv hd=>(yv.cons h3 (yv.cons (.bool true) yv.nil)).2 j v d (by simpa using hv) hd)
     |none=>
      match x,h3 with
      |none,_=>
       simp[hf]at h;cases hoc:y28 E e with
       |none=>simp[hoc]at h
       |some zd=>
        simp[hoc]at h;obtain⟨z,e1,_,hzr,_⟩:=z2x (w:=w) (φ:=φ) (ρ:=ρ) (H:=H) (TA _ _ he') hoc;refine⟨if ok then .tuple #[z,.bool false]else z,by rw[hrun];simp[e1],?_⟩
        cases ok
        ·simp at h;subst h;exact hzr
        ·simp at h;subst h;exact .tup _ _ rfl (fun j v d hv hd=>(yv.cons hzr (yv.cons (.bool false) yv.nil)).2 j v d (by simpa using hv) hd)
   ·simp at h
  ·simp at h
 ·simp at h
end
end Dv
namespace Dv
open Go (Value Program World Act Oper Operand Code)
def y6q:Ex->Code
 |.normal=>.skip
 |.exit id=>.exit id
 |.ret=>.ret
def Obj.live:Obj->Bool
 |.dead=>false
 |_=>true
abbrev y21:=Code->DC->Prop
def ymw(H:HS)(hp:y1x)(b cap used sz:Nat):Prop:=
 ∃(arr:Array Value) (el:Nat),hp[b]? = some (.cells arr el (0,0))/\arr.size=cap*sz/\used<=arr.size /\ ∀ o,used<=o -> ¬ H b o
def y8s(CL:y21)(φ : Phi)(ρ : Rho)(H:HS)(hp:y1x)(b:Nat)(busy:Bool)(y22:List D)(ps:List Nat)(asg body:DC)(pend:Option Ex):Prop:=
 ∃ L:Go.Loop,hp[b]? = some (.loop L)/\yv φ ρ H hp L.tmps.toList y22/\L.params.toList=ps/\CL L.assign asg/\CL L.body body /\
  L.state=(if pend.isSome then .done else if busy then .busy else .ready)/\L.pending=pend.map y6q
def y6x(CL:y21)(φ : Phi)(ρ : Rho)(H:HS)(hp:y1x)(bk:Bk):Obj->Prop
 |.dead=>True
 |.cells cs=>∃ b c,bk=.blk b c/\y5o φ ρ H hp b c cs
 |.frozen cs=>∃ b c,bk=.blk b c/\y5o φ ρ H hp b c cs /\ ∀ j,j<cs.length->H b j
 |.tok used sz=>bk=.virt \/ ∃ b cap,bk=.blk b cap/\ymw H hp b cap used sz
 |.map es=>∃ b c,bk=.blk b c/\y81 φ ρ H hp b es
 |.loop busy y22 ps asg body pend=>∃ b c,bk=.blk b c/\y8s CL φ ρ H hp b busy y22 ps asg body pend
structure HB(H:HS)(hp:y1x):Prop where
 lt:∀ b o,H b o->b<hp.size
 gl:∀ g cs,glTab.lookup g=some cs->∀(j:Nat) k n,cs[j]? = some (k,n)->H g j/\cellOf hp g j=some (.int k n)
instance{H:HS}{hp:y1x}:CoeFun (HB H hp) (fun _=>∀ b o,H b o->b<hp.size):=⟨fun h=>h.lt⟩
def HB.ext{ρ ρ':Rho}{H H':HS}{hp hp':y1x}(h:HB H hp)(x:Ext ρ ρ' H H' hp hp')(hl:∀ b o,H' b o->b<hp'.size):HB H' hp':=
 ⟨hl,fun g cs hg j k n hj=>⟨x.hs _ _ (h.gl g cs hg j k n hj).1,(x.keep _ _ (h.gl g cs hg j k n hj).1).trans (h.gl g cs hg j k n hj).2⟩⟩
structure SR(CL:y21)(φ : Phi)(B:Nat)(ρ : Rho)(H:HS)(hp:y1x)(os:List Obj):Prop where
 dom:∀(id:Nat) o,os[id]? = some o->o.live=true->∃ bk,ρ id=some bk/\y6x CL φ ρ H hp bk o
 lt:∀(id:Nat) bk,ρ id=some bk->id<os.length
 inj:∀(id id':Nat) o o' b c c',os[id]? = some o->o.live=true->os[id']? = some o'->o'.live=true -> ρ id=some (.blk b c) -> ρ id'=some (.blk b c')->id=id'
 own:∀(id:Nat) o b c,os[id]? = some o->o.live=true -> ρ id=some (.blk b c)->B<=b/\b<hp.size
 mutH:∀(id:Nat) cs b c o,os[id]? = some (.cells cs) -> ρ id=some (.blk b c) -> ¬ H b o
 hb:HB H hp
 hB:B<=hp.size
section
variable{CL:y21}{φ : Phi}{B:Nat}{ρ ρ':Rho}{H H':HS}{hp hp':y1x}{os:List Obj}
def y5o.mono(x:Ext ρ ρ' H H' hp hp'){b c:Nat}{cs:List D}(hb:hp'[b]? = hp[b]?)(h:y5o φ ρ H hp b c cs):y5o φ ρ' H' hp' b c cs:=by obtain⟨arr,el,h1,h2,h3,h4,h5⟩:=h;exact⟨arr,el,by rw[hb,h1],h2,h3,fun j v d hv hd=>(h4 j v d hv hd).mono x,h5⟩
def y81.mono(x:Ext ρ ρ' H H' hp hp'){b:Nat}{es:List (D × D)}(hb:hp'[b]? = hp[b]?)(h:y81 φ ρ H hp b es):y81 φ ρ' H' hp' b es:=by obtain⟨me,clock,h1,h2,h3,h4⟩:=h;exact⟨me,clock,by rw[hb,h1],h2,fun j e p he hp'=>⟨(h3 j e p he hp').1.mono x,(h3 j e p he hp').2.mono x⟩,h4⟩
def y8s.mono(x:Ext ρ ρ' H H' hp hp'){b:Nat}{busy y22 ps asg body pend}(hb:hp'[b]? = hp[b]?)(h:y8s CL φ ρ H hp b busy y22 ps asg body pend):y8s CL φ ρ' H' hp' b busy y22 ps asg body pend:=by obtain⟨L,h1,h2,h3⟩:=h;exact⟨L,by rw[hb,h1],h2.mono x,h3⟩
def y6x.mono(x:Ext ρ ρ' H H' hp hp'){bk:Bk}{o:Obj}(hb:∀ b c,bk=.blk b c->hp'[b]? = hp[b]?)(hH:∀ b c u s,bk=.blk b c->o=.tok u s->∀ j,u<=j->H' b j->H b j)
  (h:y6x CL φ ρ H hp bk o):y6x CL φ ρ' H' hp' bk o:=by
 cases o with
 |dead=>trivial
 |cells cs=>obtain⟨b,c,rfl,h⟩:=h;exact⟨b,c,rfl,h.mono x (hb b c rfl)⟩
 |frozen cs=>obtain⟨b,c,rfl,h,h'⟩:=h;exact⟨b,c,rfl,h.mono x (hb b c rfl),fun j hj=>x.hs _ _ (h' j hj)⟩
 |tok u s=>
  rcases h with rfl | ⟨b,cap,rfl,arr,el,h1,h2,h3,h4⟩
  ·exact .inl rfl
  ·exact .inr ⟨b,cap,rfl,arr,el,by rw[hb b cap rfl,h1],h2,h3,fun o ho hh=>h4 o ho (hH b cap u s rfl rfl o ho hh)⟩
 |map es=>obtain⟨b,c,rfl,h⟩:=h;exact⟨b,c,rfl,h.mono x (hb b c rfl)⟩
 |loop busy y22 ps asg body pend=>obtain⟨b,c,rfl,h⟩:=h;exact⟨b,c,rfl,h.mono x (hb b c rfl)⟩
def SR.row{id b c:Nat}{cs:List D}(S:SR CL φ B ρ H hp os)(hid : ρ id=some (.blk b c))(hr:y14 os id=some cs):y5o φ ρ H hp b c cs:=by
 unfold y14 at hr;split at hr
 ·rename_i cs' ho;simp at hr;subst hr;obtain⟨bk,h1,h2⟩:=S.dom _ _ ho rfl;rw[hid]at h1;simp at h1;subst h1;obtain⟨b',c',e,h⟩:=h2;simp at e;obtain⟨rfl,rfl⟩:=e;exact h
 ·rename_i cs' ho;simp at hr;subst hr;obtain⟨bk,h1,h2⟩:=S.dom _ _ ho rfl;rw[hid]at h1;simp at h1;subst h1;obtain⟨b',c',e,h,_⟩:=h2;simp at e;obtain⟨rfl,rfl⟩:=e;exact h
 ·simp at hr
def SR.mapAt{id b c:Nat}{es:List (D × D)}(S:SR CL φ B ρ H hp os)(hid : ρ id=some (.blk b c))(ho:os[id]? = some (.map es)):y81 φ ρ H hp b es:=by obtain⟨bk,h1,h2⟩:=S.dom _ _ ho rfl;rw[hid]at h1;simp at h1;subst h1;obtain⟨b',c',e,h⟩:=h2;simp at e;obtain⟨rfl,rfl⟩:=e;exact h
def SR.rr(S:SR CL φ B ρ H hp os):RR φ ρ H hp os:=
 ⟨fun _ _ _ _ h1 h2=>S.row h1 h2,fun _ _ _ _ h1 h2=>S.mapAt h1 h2⟩
structure y8t(H H':HS)(hp hp':y1x):Prop where
 size:hp.size<=hp'.size
 old:∀ b,b<hp.size->hp'[b]? = hp[b]?
 hs:∀ b o,H b o->H' b o
 new:∀ b o,H' b o->H b o\/(hp.size<=b/\b<hp'.size)
def z26{hp:y1x}{b:Nat}{o:eI}(h:hp[b]? = some o):b<hp.size:=(aI.1 h).1
def z3w{hp:y1x}{b o:Nat}{v:Value}(h:cellOf hp b o=some v):b<hp.size:=by
 unfold cellOf at h;split at h
 ·rename_i hh;exact z26 hh
 ·simp at h
def y8t.ext(g:y8t H H' hp hp')(ρ : Rho)(hb:HB H hp):Ext ρ ρ H H' hp hp':=
 ⟨fun _ _ h=>h,g.hs,fun b o h=>by unfold cellOf;rw[g.old b (hb b o h)]⟩
def SR.grew(S:SR CL φ B ρ H hp os)(g:y8t H H' hp hp'):SR CL φ B ρ H' hp' os where
 dom:=fun id o ho hl=>by
  obtain⟨bk,h1,h2⟩:=S.dom id o ho hl;refine⟨bk,h1,h2.mono (g.ext ρ S.hb) (fun b c e=>g.old b (S.own id o b c ho hl (e ▸ h1)).2) (fun b c u s e _ j _ hh=>?_)⟩
  rcases g.new b j hh with hh | ⟨hh,_⟩
  ·exact hh
  ·have:=(S.own id o b c ho hl (e ▸ h1)).2;omega
 lt:=S.lt
 inj:=S.inj
 own:=fun id o b c ho hl hr=>⟨(S.own id o b c ho hl hr).1,aW (S.own id o b c ho hl hr).2 g.size⟩
 mutH:=fun id cs b c o ho hr hh=>by
  rcases g.new b o hh with hh | ⟨hh,_⟩
  ·exact S.mutH id cs b c o ho hr hh
  ·have:=(S.own id _ b c ho rfl hr).2;omega
 hb:=S.hb.ext (g.ext ρ S.hb) fun b o hh=>by
  rcases g.new b o hh with hh | ⟨_,hh⟩
  ·exact aW (S.hb b o hh) g.size
  ·exact hh
 hB:=aM S.hB g.size
def upd(ρ : Rho)(id:Nat)(bk:Bk):Rho:=fun i=>if i=id then some bk else ρ i
structure y4g(ρ : Rho)(os:List Obj)(id:Nat):Prop where
 rho : ρ id=none
 place:id=os.length\/os[id]? = some .dead
def y4g.le{id:Nat}(f:y4g ρ os id):id<=os.length:=by
 rcases f.place with h | h
 ·omega
 ·exact Nat.le_of_lt (ae.1 h).1
def z6o{id:Nat}{o:Obj}(f:y4g ρ os id)(i:Nat):(y2e os id o)[i]? = if i=id then some o else os[i]?:=by
 unfold y2e;rcases f.place with h | h
 ·subst h;rw[if_neg (eh _)];split
  ·rename_i h;subst h;simp
  ·rename_i h;rcases cn i os.length with hi | hi
   ·rw[aD hi]
   ·rw[aH hi,aU hi];have:i - os.length ≠ 0:=by omega
    cases hj:i - os.length with
    |zero=>omega
    |succ n=>simp
 ·have hlt:=(ae.1 h).1;rw[if_pos hlt,bw];split
  ·rename_i e;subst e;simp[hlt]
  ·rename_i e;rw[if_neg (fun e'=>e e'.symm)]
def za6{id:Nat}{o:Obj}(f:y4g ρ os id):id<(y2e os id o).length/\os.length<=(y2e os id o).length:=by
 have:=f.le;unfold y2e;split
 ·rename_i h;simp;exact h
 ·simp;omega
def y4g.ext{id:Nat}(f:y4g ρ os id)(bk:Bk)(H:HS)(hp:y1x):Ext ρ (upd ρ id bk) H H hp hp:=
 ⟨fun i b h=>by unfold upd;split; (· rename_i e;subst e;rw[f.rho]at h;cases h);exact h,fun _ _ h=>h,fun _ _ _=>rfl⟩
def z97{id:Nat}{o:Obj}{bk:Bk}(f:y4g ρ os id)(hl:o.live=true):∀(k:Nat) bk',upd ρ id bk k=some bk' -> ρ k=some bk' \/ ∃ o':Obj,(y2e os id o)[k]? = some o'/\o'.live=true:=by
 intro k bk' h;unfold upd at h;split at h
 ·rename_i e;subst e;exact .inr ⟨o,by rw[z6o f];simp,hl⟩
 ·exact .inl h
def SR.add(S:SR CL φ B ρ H hp os){id:Nat}(f:y4g ρ os id){o:Obj}{bk:Bk}(ho:y6x CL φ (upd ρ id bk) H hp bk o)
  (hown:∀ b c,bk=.blk b c->B<=b/\b<hp.size) (y1l:∀ b c,bk=.blk b c->∀ i o' c',os[i]? = some o'->o'.live=true -> ρ i ≠ some (.blk b c'))
  (hmut:∀ cs b c,o=.cells cs->bk=.blk b c->∀ j,¬ H b j):SR CL φ B (upd ρ id bk) H hp (y2e os id o) where
 dom:=fun i o' ho' hl=>by
  rw[z6o f]at ho';split at ho'
  ·rename_i e;simp at ho';subst ho';subst e;exact⟨bk,by simp[upd],ho⟩
  ·rename_i e;obtain⟨bk',h1,h2⟩:=S.dom i o' ho' hl;exact⟨bk',by simp[upd,e,h1],h2.mono (f.ext bk H hp) (fun _ _ _=>rfl) (fun _ _ _ _ _ _ _ _ hh=>hh)⟩
 lt:=fun i b h=>by
  unfold upd at h;split at h
  ·rename_i e;rw[e];exact(za6 f).1
  ·exact aW (S.lt i b h) (za6 f).2
 inj:=fun i i' o1 o2 b c c' h1 l1 h2 l2 r1 r2=>by
  rw[z6o f]at h1 h2;unfold upd at r1 r2
  by_cases e1:i=id <;> by_cases e2:i'=id
  ·rw[e1,e2]
  ·rw[if_pos e1]at r1;rw[if_neg e2]at r2 h2;simp at r1;exact absurd r2 (y1l b c r1 i' o2 c' h2 l2)
  ·rw[if_pos e2]at r2;rw[if_neg e1]at r1 h1;simp at r2;exact absurd r1 (y1l b c' r2 i o1 c h1 l1)
  ·rw[if_neg e1]at r1 h1;rw[if_neg e2]at r2 h2;exact S.inj i i' o1 o2 b c c' h1 l1 h2 l2 r1 r2
 own:=fun i o' b c h1 l1 r1=>by
  rw[z6o f]at h1;unfold upd at r1
  by_cases e1:i=id
  ·rw[if_pos e1]at r1;simp at r1;exact hown b c r1
  ·rw[if_neg e1]at r1 h1;exact S.own i o' b c h1 l1 r1
 mutH:=fun i cs b c j h1 r1=>by
  rw[z6o f]at h1;unfold upd at r1
  by_cases e1:i=id
  ·rw[if_pos e1]at r1 h1;simp at r1 h1;exact hmut cs b c h1 r1 j
  ·rw[if_neg e1]at r1 h1;exact S.mutH i cs b c j h1 r1
 hb:=S.hb
 hB:=S.hB
def SR.kill(S:SR CL φ B ρ H hp os)(k:Nat):SR CL φ B ρ H hp (os.set k .dead):=by
 have get:∀(i:Nat) o,(os.set k .dead)[i]? = some o->o.live=true->os[i]? = some o:=by
  intro i o h hl;rw[bw]at h;split at h
  ·split at h
   ·simp at h;subst h;simp[Obj.live]at hl
   ·simp at h
  ·exact h
 exact {
  dom:=fun i o h hl=>S.dom i o (get i o h hl) hl
  lt:=fun i b h=>by simpa using S.lt i b h
  inj:=fun i i' o o' b c c' h l h' l' r r'=>S.inj i i' o o' b c c' (get i o h l) l (get i' o' h' l') l' r r'
  own:=fun i o b c h l r=>S.own i o b c (get i o h l) l r
  mutH:=fun i cs b c o h r=>S.mutH i cs b c o (get i _ h rfl) r
  hb:=S.hb
  hB:=S.hB }
end
end Dv
namespace Dv
open Go (Value Program World Act Oper Operand Code)
def Old(ρ : Rho)(b:Nat):Prop:=∃(k:Nat) (c:Nat),ρ k=some (.blk b c)
def rbS{ρ : Rho}{n:Nat}:∀(k:Nat) b c,ρ k=some (.blk b c)->Old ρ b\/n<=b:=fun k _ c h=>.inl ⟨k,c,h⟩
def hnS{H:HS}{ρ : Rho}{n:Nat}:∀ b o,H b o->H b o\/Old ρ b\/n<=b:=fun _ _ h=>.inl h
def rbU{ρ : Rho}{id n b0 cap:Nat}(h0:Old ρ b0\/n<=b0):∀(k:Nat) b c,upd ρ id (.blk b0 cap) k=some (.blk b c)->Old ρ b\/n<=b:=fun k b c h=>by
 unfold upd at h;split at h
 ·simp at h;obtain⟨rfl,_⟩:=h;exact h0
 ·exact .inl ⟨k,c,h⟩
def rbV{ρ : Rho}{id n:Nat}:∀(k:Nat) b c,upd ρ id .virt k=some (.blk b c)->Old ρ b\/n<=b:=fun k b c h=>by
 unfold upd at h;split at h
 ·simp at h
 ·exact .inl ⟨k,c,h⟩
structure y4m(CL:y21)(φ : Phi)(B:Nat)(ρ : Rho)(H:HS)(hp:y1x)(os:List Obj)(ρ':Rho)(H':HS)(hp':y1x)(os':List Obj):Prop where
 ext:Ext ρ ρ' H H' hp hp'
 sr:SR CL φ B ρ' H' hp' os'
 size:hp.size<=hp'.size
 frame:∀ b,b<hp.size->(∀(id:Nat) o c,os[id]? = some o->o.live=true -> ρ id ≠ some (.blk b c))->hp'[b]? = hp[b]?
 hnew:∀ b o,H' b o->H b o\/B<=b
 fz:y4n hp hp'
 rn:∀(k:Nat) bk,ρ' k=some bk -> ρ k=some bk \/ ∃ o:Obj,os'[k]? = some o/\o.live=true
 rb:∀(k:Nat) b c,ρ' k=some (.blk b c)->Old ρ b\/hp.size<=b
 hn:∀ b o,H' b o->H b o\/Old ρ b\/hp.size<=b
section
variable{P:Program}{E:Env}{CL:y21}{φ : Phi}{τ : Phi}{B:Nat}{ρ ρ' ρ'':Rho}{H H' H'':HS}{hp hp' hp'':y1x}{os os' os'':List Obj}{w:World}
def y4m.refl(S:SR CL φ B ρ H hp os):y4m CL φ B ρ H hp os ρ H hp os:=
 ⟨Ext.refl _ _ _,S,aj _,fun _ _ _=>rfl,fun _ _ h=>.inl h,y4n.refl _,fun _ _ h=>.inl h,rbS,hnS⟩
def z5w(H:HS)(hp:y1x)(o:eI):y8t H H hp (hp.push o):=
 ⟨by simp,fun b hb=>by rw[cA];simp[fZ hb],fun _ _ h=>h,fun _ _ h=>.inl h⟩
def z4z(hp:y1x)(o:eI):(hp.push o)[hp.size]? = some o:=by simp
def z4i(S:SR CL φ B ρ H hp os){id:Nat}(f:y4g ρ os id){arr:Array Value}{el:Nat}{cs:List D}(h:yv φ ρ H hp arr.toList cs)(ha:∀ d,d ∈ cs->d.atom=true) :
  y4m CL φ B ρ H hp os (upd ρ id (.blk hp.size arr.size)) H (hp.push (.cells arr el (0,0))) (y2e os id (.cells cs)):=by
 have g:=z5w H hp (.cells arr el (0,0));have S1:=S.grew g;have x:=(g.ext ρ S.hb).trans (f.ext (.blk hp.size arr.size) H (hp.push (.cells arr el (0,0))));refine⟨x,S1.add f ?_ ?_ ?_ ?_,g.size,fun b hb _=>g.old b hb,fun _ _ h=>.inl h,y4n.push _ (by intro arr el fr h;cases h;rfl),z97 f rfl,rbU (.inr (aj _)),hnS⟩
 ·refine⟨_,_,rfl,arr,el,z4z _ _,rfl,by have:=h.1;simp at this;omega,fun j v d hv hd=>?_,ha⟩
  exact(h.2 j v d (by simpa using hv) hd).mono x
 ·intro b c e;simp at e;obtain⟨rfl,rfl⟩:=e;exact⟨S.hB,by simp⟩
 ·intro b c e i o' c' h1 l1 r1;simp at e;obtain⟨rfl,rfl⟩:=e;exact absurd (S.own i o' _ c' h1 l1 r1).2 (eh _)
 ·intro cs' b c _ e j hh;simp at e;obtain⟨rfl,rfl⟩:=e;exact absurd (S.hb _ _ hh) (eh _)
def y5c(H:HS)(b0 n:Nat):HS:=fun b o=>H b o\/(b=b0/\o<n)
def z78{arr:Array Value}{el:Nat}(j:Nat):cellOf (hp.push (.cells arr el (0,0))) hp.size j=arr[j]?:=by unfold cellOf;rw[z4z]
def z81(H:HS)(hp:y1x)(o:eI)(n:Nat):y8t H (y5c H hp.size n) hp (hp.push o):=
 ⟨by simp,fun b hb=>by rw[cA];simp[fZ hb],fun _ _ h=>.inl h,fun b o h=>by
  rcases h with h | ⟨rfl,_⟩
  ·exact .inl h
  ·exact .inr ⟨aj _,by simp⟩⟩
def zkv(S:SR CL φ B ρ H hp os){arr:Array Value}{el:Nat}{els:List D}{su:Nat}(h:yv φ ρ H hp arr.toList (yr els))(hu:∀ x,x ∈ els->x.cellsL.length=su/\x.storable=true) :
  y4m CL φ B ρ H hp os ρ (y5c H hp.size arr.size) (hp.push (.cells arr el (0,0))) os /\
   Rep φ ρ (y5c H hp.size arr.size) (hp.push (.cells arr el (0,0))) (.slice (some ⟨hp.size,0,none⟩) els.length els.length) (.imm .exact els):=by
 have g:=z81 H hp (.cells arr el (0,0)) arr.size;have x:=g.ext ρ S.hb;refine⟨⟨x,S.grew g,g.size,fun b hb _=>g.old b hb,fun b o hh=>?_,y4n.push _ (by intro arr el fr h;cases h;rfl),fun _ _ h=>.inl h,rbS,fun b o hh=>hh.elim .inl fun e=>.inr (.inr (dG e.1.symm))⟩,?_⟩
 ·rcases hh with hh | ⟨rfl,_⟩
  ·exact .inl hh
  ·exact .inr S.hB
 ·refine .imm .exact els _ els.length hp.size 0 su (fun j=>arr.toList.getD j bu) hu (aj _) (fun _=>rfl) (fun k hk=>by cases hk) (fun _=>rfl) (fun j hj=>?_) (fun j d hd=>?_)
  ·rw[<- h.1]at hj;simp at hj;refine⟨.inr ⟨rfl,by omega⟩,?_⟩
   rw[bM,z78];simp[hj]
  ·obtain⟨v,hv,hr⟩:=h.get hd;simp only[af,hv,aX];exact hr.mono x
def z1m(x:D)(els:List D):yr (x::els)=x.cellsL++yr els:=rfl
def z24{a b:List D}:∀{off:Nat} {vs:List D},off+vs.length<=a.length->setCells (a++b) off vs=setCells a off vs++b
 |off,[],_=>rfl
 |off,v::vs,h=>by
  simp only[ar]at h;simp only[setCells];rw[List.set_append_left _ _ (by omega)]
  exact z24 (by simp;omega)
def z15{a b:List D}:∀{off:Nat} {vs:List D},setCells (a++b) (a.length+off) vs=a++setCells b off vs
 |off,[]=>rfl
 |off,v::vs=>by
  simp only[setCells];rw[et _ _ (by omega),Nat.add_sub_cancel_left,dq]
  exact z15
def zy:∀{a vs:List D},a.length=vs.length->setCells a 0 vs=vs
 |a,vs,h=>by
  have key:∀(pre a vs:List D),a.length=vs.length->setCells (pre++a) pre.length vs=pre++vs:=by
   intro pre a vs
   induction vs generalizing pre a with
   |nil=>intro h;cases a <;> simp_all [setCells]
   |cons v vs ih=>
    intro h
    match a,h with
    |x::a,h=>
     simp only[setCells];rw[et _ _ (aj _),Nat.sub_self];have:=ih (pre++[v]) a (by simpa using h)
     simpa using this
  simpa using key [] a vs h
def zlu{sz:Nat}:∀{els:List D} {i:Nat} {d:D},(∀ x,x ∈ els->x.cellsL.length=sz)->d.cellsL.length=sz->i<els.length->yr (els.set i d)=setCells (yr els) (i*sz) d.cellsL
 |x::els,0,d,hu,hd,_=>by
  have hx:=hu x (by simp)
  simp only[List.set_cons_zero,z1m,fB];rw[z24 (by omega),zy (by omega)]
 |x::els,i+1,d,hu,hd,hi=>by
  have hx:=hu x (by simp)
  simp only[i6,z1m];rw[zlu (fun y hy=>hu y (cj _ hy)) hd (by simpa using hi)]
  rw[show(i+1)*sz=x.cellsL.length+i*sz from by rw[hx,br];omega,z15]
def zbp{sz:Nat}:∀{ds:List (Nat × D)} {els r:List D},(∀ x,x ∈ els->x.cellsL.length=sz/\x.storable=true)->y7c sz els ds=some r ->
  y6p (fun i=>some (i*sz,sz)) (yr els) ds=some (yr r)/\r.length=els.length /\ ∀ x,x ∈ r->x.cellsL.length=sz/\x.storable=true
 |[],els,r,hu,h=>by simp[y7c]at h;subst h;exact⟨rfl,rfl,hu⟩
 |(i,d)::ds,els,r,hu,h=>by
  simp only[y7c]at h;split at h
  ·rename_i hc;have hu':∀ x,x ∈ els.set i d->x.cellsL.length=sz/\x.storable=true:=by
    intro x hx;rcases ft hx with hx | rfl
    ·exact hu x hx
    ·exact⟨hc.2.1,hc.1⟩
   obtain⟨h1,h2,h3⟩:=zbp hu' h;rw[zlu (fun x hx=>(hu x hx).1) hc.2.1 hc.2.2]at h1
   refine⟨?_,by simpa using h2,h3⟩
   have hlen:=zr (fun x hx=>(hu x hx).1)
   have hle:i*sz+sz<=els.length*sz:=by have:=bE sz hc.2.2;rw[Nat.succ_mul]at this;exact this
   simp only[y6p];rw[if_pos ⟨hc.1,hc.2.1,by rw[hlen];exact hle⟩]
   exact h1
  ·simp at h
def zeq{ag:Bool}{cs:List D}{z:D}(h:ym ag cs=some z)(ha:∀ d,d ∈ cs->d.atom=true):z.cellsL=cs/\z.storable=true:=by
 cases ag with
 |true=>simp[ym]at h;subst h;exact⟨rfl,by simpa[D.storable]using ha⟩
 |false=>
  match cs,h with
  |[c],h=>
   simp[ym]at h;subst h;have:=ha c (by simp)
   cases c <;> simp[D.atom]at this <;> exact⟨rfl,rfl⟩
  |[],h=>simp[ym]at h
  |_::_::_,h=>simp[ym]at h
def z47{z:D}{sz:Nat}(hz:z.cellsL.length=sz):∀(n j:Nat),j<n*sz->(yr (ah n z))[j]? = z.cellsL[j % sz]?
 | 0,j,h=>by simp at h
 |n+1,j,h=>by
  rw[List.replicate_succ,z1m];rcases cn j sz with hj | hj
  ·rw[aD (by omega),Nat.mod_eq_of_lt hj]
  ·rw[aH (by omega),hz,z47 hz n (j - sz) (by rw[br]at h;omega)]
   congr 1;rw[Nat.mod_eq_sub_mod hj]
def z7b{zv:Array Value}{z:D}{sz n:Nat}(hz:yv φ ρ H hp zv.toList z.cellsL)(hsz:z.cellsL.length=sz) :
  yv φ ρ H hp ((dZ (n*sz)).map (zv[· % zv.size]!)).toList (yr (ah n z)):=by
 have h1:zv.size=sz:=by rw[<- hsz,<- hz.1];simp
 have hfl:(yr (ah n z)).length=n*sz:=by rw[zr (su:=sz) (fun x hx=>by rw[gH hx];exact hsz)];simp
 refine⟨by simp[hfl],fun j v d hv hd=>?_⟩
 have hj:j<n*sz:=by rw[<- hfl];exact(ae.1 hd).1
 rw[z47 hsz n j hj]at hd;simp[hj]at hv;have hm:j % sz<sz:=Nat.mod_lt _ (by rcases eu sz with h | h; (· subst h;omega);exact h)
 refine hz.2 (j % sz) v d ?_ hd;rw[<- hv,h1];simp[h1,hm]
end
end Dv
namespace Dv
open Go (Value Program World Act Oper Operand Code)
section
variable{P:Program}{E:Env}{CL:y21}{φ : Phi}{τ : Phi}{B:Nat}{ρ : Rho}{H:HS}{os:List Obj}{w:World}
def y42(CL:y21)(φ : Phi)(B:Nat)(ρ : Rho)(H:HS)(os:List Obj)(w:World)(r:iw Value)(d:D)(os':List Obj):Prop:=
 ∃ v w' ρ' H',r=.ok v w'/\(y4m CL φ B ρ H w.heap os ρ' H' w'.heap os'/\y1v w w')/\Rep φ ρ' H' w'.heap v d
def y42.of_value{r:iw Value}{d:D}(S:SR CL φ B ρ H w.heap os)(h:∃ v,r=.ok v w/\Rep φ ρ H w.heap v d):y42 CL φ B ρ H os w r d os:=by obtain⟨v,h1,h2⟩:=h;exact⟨v,w,ρ,H,h1,⟨y4m.refl S,y1v.refl _⟩,h2⟩
def z1q{el:Nat}{cells:Array Value}:(Go.newRow el cells).run P w=.ok ⟨w.heap.size,0,none⟩ { w with heap:=w.heap.push (.cells cells el) }:=by simp[Go.newRow]
def zuv{t c id:Nat}(T:TOk P E τ t c)(S:SR CL φ B ρ H w.heap os)(f:y4g ρ os id)(ha:(E.ty c).zero.all D.atom=true)(hz:(E.ty c).zero.length=(E.ty c).size)(h0:(E.ty c).size ≠ 0) :
  y42 CL φ B ρ H os w ((na t true (.tuple #[])).run P w) (.loc id 0) (y2e os id (.cells (E.ty c).zero)):=by
 obtain⟨z,e1,e2,_⟩:=T.zeroV (w:=w) (φ:=φ) (ρ:=ρ) (H:=H) hz h0;have hp:=z4i S f (el:=t) e2 (by simpa using ha)
 refine⟨.pointer (some ⟨w.heap.size,0,none⟩),{ w with heap:=w.heap.push (.cells z.cells t) },_,_,?_,⟨hp,rfl,rfl,rfl,aj _⟩,.loc _ z.cells.size _ _ (by simp[upd])⟩
 simp[na,e1,nF,z1q]
def z2s{d:D}(h:d.storable=true):∀ x,x ∈ d.cellsL->x.atom=true:=by cases d <;> first | (simpa[D.storable,D.cellsL]using h) | (simp[D.storable,D.atom]at h)
def yfr{t id:Nat}{vx:Value}{x:D}(S:SR CL φ B ρ H w.heap os)(f:y4g ρ os id)(hx:Rep φ ρ H w.heap vx x)(hs:x.storable=true) :
  y42 CL φ B ρ H os w ((jy t vx).run P w) (.loc id 0) (y2e os id (.cells x.cellsL)):=by
 have hp:=z4i S f (el:=t) (hx.cells hs) (z2s hs);refine⟨.pointer (some ⟨w.heap.size,0,none⟩),{ w with heap:=w.heap.push (.cells vx.cells t) },_,_,?_,⟨hp,rfl,rfl,rfl,aj _⟩,.loc _ vx.cells.size _ _ (by simp[upd])⟩
 simp[jy,nF,z1q]
def zwk{t:Nat}{vx:Value}{x:D}(S:SR CL φ B ρ H w.heap os)(hx:Rep φ ρ H w.heap vx x)(hs:x.storable=true) :
  y42 CL φ B ρ H os w ((jy t vx).run P w) (.iptr x.cellsL) os:=by
 have hc:=hx.cells hs;have g:=z81 H w.heap (.cells vx.cells t (0,0)) vx.cells.size;have e:=g.ext ρ S.hb;refine⟨.pointer (some ⟨w.heap.size,0,none⟩),{ w with heap:=w.heap.push (.cells vx.cells t) },ρ,y5c H w.heap.size vx.cells.size,?_,⟨⟨e,S.grew g,g.size,fun b hb _=>g.old b hb,fun b o hh=>?_,trivial,fun _ _ h=>.inl h,rbS,fun b o hh=>hh.elim .inl fun e=>.inr (.inr (dG e.1.symm))⟩,rfl,rfl,rfl,aj _⟩,?_⟩
 ·simp[jy,nF,z1q]
 ·rcases hh with hh | ⟨rfl,_⟩
  ·exact .inl hh
  ·exact .inr S.hB
 ·refine .iptr w.heap.size 0 _ (fun j=>vx.cells.toList.getD j bu) (fun j hj=>?_) (fun j d hd=>?_)
  ·rw[<- hc.1]at hj;simp at hj;refine⟨.inr ⟨rfl,by omega⟩,?_⟩
   rw[bM];show cellOf (w.heap.push (.cells vx.cells t (0,0))) w.heap.size j=_
   rw[z78];simp[hj]
  ·obtain⟨v,hv,hr⟩:=hc.get hd;simp only[af,hv,aX];exact hr.mono e
def z1r{z:D}{sz n:Nat}(h1:z.cellsL.length=sz)(h2:z.storable=true):∀ x,x ∈ ah n z->x.cellsL.length=sz/\x.storable=true:=
 fun x hx=>by rw[gH hx];exact⟨h1,h2⟩
def z1t{els:List D}(h:∀ x,x ∈ els->x.storable=true):∀ d,d ∈ yr els->d.atom=true:=by intro d hd;simp only[yr,bB]at hd;obtain⟨x,hx,hd⟩:=hd;exact z2s (h x hx) d hd
def zp3(TA:y3k P E τ){t c e id len:Nat}{mu:Bool}{ps:List (Nat × Value)}{ds:List (Nat × D)}{z:D}{els:List D}(T:TOk P E τ t c)(hk:(E.ty c).k=.slice e)(S:SR CL φ B ρ H w.heap os)(f:y4g ρ os id)
  (hp:ygd φ ρ H w.heap ps ds) (hz:y28 E e=some z) (hl:len*(E.ty e).size<=16777216) (hf:y7c (E.ty e).size (ah len z) ds=some els) :
  (mu=true/\len ≠ 0->y42 CL φ B ρ H os w ((gu t len ps.toArray).run P w) (.sl id 0 len (E.ty e).size (E.ty e).ag true) (y2e os id (.cells (yr els)))) /\
  y42 CL φ B ρ H os w ((gu t len ps.toArray).run P w) (.imm .exact els) os:=by
 obtain⟨e',hu,he'⟩:=T.slice hk;have Te:=TA _ _ he';obtain⟨zv,e1,e2,_,e4,e5,e6⟩:=z2x (w:=w) (φ:=φ) (ρ:=ρ) (H:=H) Te hz;obtain⟨h1,h2,h3⟩:=zbp (z1r e4 e5) hf;have hzr:=z7b (n:=len) e2 e4;obtain⟨arr',a1,a2⟩:=za0 hzr hp h1;have hlen:els.length=len:=by simpa using h2
 have hsz:arr'.size=len*(E.ty e).size:=by
  have:=a2.1;rw[zr (fun x hx=>(h3 x hx).1),hlen]at this
  simpa using this
 have hrun:(gu t len ps.toArray).run P w=.ok (.slice (some ⟨w.heap.size,0,none⟩) len len) { w with heap:=w.heap.push (.cells arr' e') }:=by
  unfold gu;simp only[ax,run_underlying hu,au,Te.size];have hnot : ¬ len*(E.ty e).size > 2 ^ 24:=by omega
  simp only[if_neg hnot,ax,iX,aP,au]
  by_cases h0:len*(E.ty e).size=0
  ·-- nothing is laid
   have hl0:len=0:=by rcases jH.1 h0 with h | h;exact h;exact absurd h e6
   subst hl0;have hd:ds=[]\/ds ≠ []:=by cases ds <;> simp
   have ha:(dZ (0*(E.ty e).size)).map (zv.cells[· % zv.cells.size]!) = #[]:=by simp
   rw[ha]at a1;have hr0:∀ g:Nat->Value,(dZ 0).map g = #[]:=fun g=>by simp[dZ]
   simp[h0,hr0,a1,z1q]
  ·simp only[if_neg h0,e1,au];simp[a1,z1q]
 constructor
 ·rintro⟨_,h0⟩;have hp:=z4i S f (el:=e') a2 (z1t fun x hx=>(h3 x hx).2)
  exact⟨_,_,_,_,hrun,⟨hp,rfl,rfl,rfl,aj _⟩,.sl _ _ _ _ _ _ w.heap.size arr'.size len _ (by simp[upd]) (aj _) (fun _=>rfl) (fun _=>⟨rfl,rfl,hsz⟩)⟩
 ·obtain⟨hp,hr⟩:=zkv S (el:=e') a2 h3;rw[hlen]at hr;exact⟨_,_,_,_,hrun,⟨hp,rfl,rfl,rfl,aj _⟩,hr⟩
def zj1(TA:y3k P E τ){t c e id:Nat}{kl kc:bj}{l:Int}{mu:Bool}{z:D}(T:TOk P E τ t c)(hk:(E.ty c).k=.slice e)(S:SR CL φ B ρ H w.heap os)(f:y4g ρ os id)
  (hz:y28 E e=some z) (h0:0<=l) (hb:l*((E.ty e).bytes+1)<=yg) :
  (mu=true->y42 CL φ B ρ H os w ((ew t (.int kl l) (.int kc l)).run P w) (.sl id 0 l.toNat (E.ty e).size (E.ty e).ag true) (y2e os id (.cells (yr (ah l.toNat z))))) /\
  y42 CL φ B ρ H os w ((ew t (.int kl l) (.int kc l)).run P w) (.imm .exact (ah l.toNat z)) os:=by
 obtain⟨e',hu,he'⟩:=T.slice hk;have Te:=TA _ _ he';obtain⟨zv,e1,e2,_,e4,e5,e6⟩:=z2x (w:=w) (φ:=φ) (ρ:=ρ) (H:=H) Te hz;obtain⟨n,rfl⟩:=gU h0;obtain⟨inf,hi,hsz,hby,_⟩:=Te.info;have hzr:=z7b (n:=n) e2 e4;have hsize:((dZ (n*(E.ty e).size)).map (zv.cells[· % zv.cells.size]!)).size=n*(E.ty e).size:=by simp
 have hnn:(n:Int)<=yg:=by
  have h1:(n:Int)*1<=(n:Int)*((E.ty e).bytes+1):=cV (by omega) (by omega)
  omega
 have hbb:(E.ty e).bytes*(n:Int)<=yg:=by
  have h1:(n:Int)*(E.ty e).bytes<=(n:Int)*((E.ty e).bytes+1):=cV (by omega) (by omega)
  rw[oP];omega
 have hwrap:aJ.wrap (n:Int)=n:=by have hm:(yg:Int)=17592186044416:=rfl;rw[hm]at hnn;exact gX _ (by omega)
 have hrun:(ew t (.int kl n) (.int kc n)).run P w=.ok (.slice (some ⟨w.heap.size,0,none⟩) n n) { w with heap:=w.heap.push (.cells ((dZ (n*(E.ty e).size)).map (zv.cells[· % zv.cells.size]!)) e') }:=by
  have hm:(yg:Int)=17592186044416:=rfl;rw[hm]at hbb hnn;unfold ew;simp only[ax,run_underlying hu,au,Go.asInt,eZ,aP,iW,z1n hi,hwrap,hby];have hc : ¬ (((decide ((n:Int)<0) || decide ((((E.ty e).bytes:Nat):Int)*(n:Int) > 2 ^ 48)) || decide ((n:Int)<0) || decide ((n:Int) > (n:Int)))=true):=by simp;omega
  simp only[if_neg hc,ax,ke,au,Te.size,bT,iX,aP]
  by_cases hn0:n*(E.ty e).size=0
  ·have hr0:∀ g:Nat->Value,(dZ 0).map g = #[]:=fun g=>by simp[dZ]
   have hn:n=0:=by rcases jH.1 hn0 with h | h;exact h;exact absurd h e6
   subst hn;simp[hr0,z1q]
  ·simp[if_neg hn0,e1,z1q]
 rw[bT];constructor
 ·intro _;have hp:=z4i S f (el:=e') hzr (z1t fun x hx=>(z1r e4 e5 x hx).2)
  exact⟨_,_,_,_,hrun,⟨hp,rfl,rfl,rfl,aj _⟩,.sl _ _ _ _ _ _ w.heap.size _ n _ (by simp[upd];rfl) (aj _) (fun _=>rfl) (fun _=>⟨rfl,rfl,by simp⟩)⟩
 ·obtain⟨hp,hr⟩:=zkv S (el:=e') hzr (z1r e4 e5);simp only[List.length_replicate]at hr;exact⟨_,_,_,_,hrun,⟨hp,rfl,rfl,rfl,aj _⟩,hr⟩
end
end Dv
namespace Dv
open Go (Value Program World Act Oper Operand Code)
section
variable{P:Program}{E:Env}{CL:y21}{φ : Phi}{τ : Phi}{B:Nat}{ρ : Rho}{H:HS}{os:List Obj}{w:World}
def zrc{t id:Nat}(S:SR CL φ B ρ H w.heap os)(f:y4g ρ os id):y42 CL φ B ρ H os w ((ml t none).run P w) (.map (some id)) (y2e os id (.map [])):=by
 have g:=z5w H w.heap (.map #[] 0);have S1:=S.grew g;have x:=(g.ext ρ S.hb).trans (f.ext (.blk w.heap.size 0) H (w.heap.push (.map #[] 0)));refine⟨.map (some w.heap.size),{ w with heap:=w.heap.push (.map #[] 0) },upd ρ id (.blk w.heap.size 0),H,by simp[ml],⟨⟨x,S1.add f ?_ ?_ ?_ ?_,g.size,fun b hb _=>g.old b hb,fun _ _ h=>.inl h,y4n.push _ (by intro arr el fr h;cases h),z97 f rfl,rbU (.inr (aj _)),hnS⟩,rfl,rfl,rfl,aj _⟩,.map _ 0 _ (by simp[upd])⟩
 ·exact⟨_,_,rfl,#[],0,z4z _ _,rfl,fun j e p he=>by simp at he,by simp,by simp⟩
 ·intro b c e;simp at e;obtain⟨rfl,rfl⟩:=e;exact⟨S.hB,by simp⟩
 ·intro b c e i o' c' h1 l1 r1;simp at e;obtain⟨rfl,rfl⟩:=e;exact absurd (S.own i o' _ c' h1 l1 r1).2 (eh _)
 ·intro cs' b c e;simp at e
def z8y{sz:Nat}{ag:Bool}:∀{n:Nat} {cs els:List D},(∀ d,d ∈ cs->d.atom=true)->y31 sz ag n cs=some els->els.length=n/\yr els=cs.take (n*sz)/\n*sz<=cs.length /\ ∀ x,x ∈ els->x.cellsL.length=sz/\x.storable=true
 | 0,cs,els,_,h=>by simp[y31]at h;subst h;simp[yr]
 |n+1,cs,els,ha,h=>by
  simp only[y31]at h;cases h1:y2d cs 0 sz with
  |none=>simp[h1]at h
  |some c=>cases h2:ym ag c with
   |none=>simp[h1,h2]at h
   |some d=>cases h3:y31 sz ag n (cs.drop sz)with
    |none=>simp[h1,h2,h3]at h
    |some r=>
     simp[h1,h2,h3]at h;subst h;obtain⟨e1,e2⟩:=z3f h1;obtain⟨i1,i2,i3,i4⟩:=z8y (fun d hd=>ha d (bY hd)) h3
     have hle:sz<=cs.length:=by
      cases sz with
      |zero=>omega
      |succ m=>have:=(e2 m (by omega)).2;omega
     have hc:c=cs.take sz:=by
      apply cZ;intro j;rw[aZ];split
      ·rename_i hj;rw[(e2 j hj).1];simp
      ·rename_i hj;rw[aU (by omega)]
     obtain⟨o1,o2⟩:=zeq h2 (fun x hx=>ha x (by rw[hc]at hx;exact dM hx))
     refine⟨by simp[i1],?_,?_,?_⟩
     ·rw[z1m,o1,i2,hc,show(n+1)*sz=sz+n*sz from by rw[br];omega,List.take_add]
     ·rw[er]at i3;rw[br];omega
     ·intro x hx;rcases aA.1 hx with rfl | hx
      ·exact⟨by rw[o1,hc];simp;omega,o2⟩
      ·exact i4 x hx
def z2p{sz:Nat}{ag:Bool}{vy:Value}{y:D}{new:List D}(S:SR CL φ B ρ H w.heap os)(hy:Rep φ ρ H w.heap vy y)(h:y1b os sz ag y=some new) :
  ∃ a cap vl,vy=.slice a new.length cap/\yv φ ρ H w.heap vl (yr new)/\(∀ x,x ∈ new->x.cellsL.length=sz/\x.storable=true) /\
   (∀ n ≤ new.length,∀ w1:World,w1.heap=w.heap->(aS sz n vy).run P w1=.ok (vl.take (n*sz)).toArray w1):=by
 unfold y1b at h;split at h
 ·rename_i sp els;split at h
  ·rename_i hall;simp at h;subst h;have hu:∀ x,x ∈ els->x.cellsL.length=sz/\x.storable=true:=fun x hx=>by have:=ay.1 hall x hx;simp at this;exact⟨this.2,this.1⟩
   obtain⟨a,cap,b,off,su,rfl,hcap,ha,hun,vl,hr,hc⟩:=z7z hy;have hlen:vl.length=els.length*sz:=by rw[hr.1,zr (fun x hx=>(hu x hx).1)]
   have key:∀ n ≤ els.length,∀ w1:World,w1.heap=w.heap->(aS sz n (.slice a els.length cap)).run P w1=.ok (vl.take (n*sz)).toArray w1:=by
    intro n hn w1 he;have hns:n*sz<=vl.length:=by rw[hlen];exact bE _ hn
    by_cases hne:els=[]
    ·subst hne;have hn0:n=0:=by simpa using hn
     subst hn0;cases a with
     |none=>simp[aS]
     |some a=>simp[aS,iA,fA]
    ·rw[ha hne];simp only[aS];exact z37 (by simp;omega) (fun j v hv=>by
      rw[aZ]at hv;split at hv
      ·rw[he];exact(hc j v hv).2
      ·simp at hv)
   exact⟨a,cap,vl,rfl,hr,hu,key⟩
  ·simp at h
 ·rename_i id off len sz' ag' gr;split at h
  ·rename_i hsz;subst hsz;split at h
   ·rename_i cs hrow;cases hy with
    |sl _ _ _ _ _ _ b c cap a hid hl ha hc=>
     have R:=S.row hid hrow;obtain⟨arr,el,r1,r2,r3,r4,r5⟩:=R;obtain⟨c1,c2,c3,c4⟩:=z8y (fun d hd=>r5 d (bY hd)) h
     have C:=(S.row hid hrow).cells;obtain⟨vl0,v1,v2⟩:=C;have hlen:((vl0.drop off).take (len*sz)).length=len*sz:=by rw[er]at c3;rw[bc,er,v1.1];omega
     have key:∀ n ≤ len,∀ w1:World,w1.heap=w.heap->(aS sz n (.slice a len cap)).run P w1=.ok (((vl0.drop off).take (len*sz)).take (n*sz)).toArray w1:=by
      intro n hn w1 he;have hns:n*sz<=len*sz:=bE _ hn
      by_cases h0:len=0
      ·subst h0;have hn0:n=0:=by simpa using hn
       subst hn0;cases a with
       |none=>simp[aS]
       |some a=>simp[aS,iA,fA]
      ·rw[ha h0];simp only[aS];exact z37 (by rw[bc,hlen];omega) (fun j v hv=>by
        rw[aZ]at hv;split at hv
        ·rw[aZ]at hv;split at hv
         ·rw[cw]at hv;have:=v2 _ v hv;rw[bM]at this;rw[he];exact this
         ·simp at hv
        ·simp at hv)
     rw[c1];refine⟨a,cap,(vl0.drop off).take (len*sz),rfl,?_,c4,key⟩;rw[c2];exact(v1.drop off).take _
   ·simp at h
  ·simp at h
 ·simp at h
def zb0(need cap:Nat)(h:cap<need):fN need cap<=4*need+1024:=by
 unfold fN;split
 ·omega
 ·split
  ·omega
  ·have key:∀(r c:Nat),c<=4*need+1024->lO need r c<=4*need+1024:=by
    intro r
    induction r with
    |zero=>intro c h;exact h
    |succ r ih=>
     intro c h;unfold lO;split
     ·exact h
     ·exact ih _ (by omega)
   exact key 4 cap (by omega)
end
end Dv
namespace Dv
open Go (Value Program World Act Oper Operand Code)
section
variable{P:Program}{E:Env}{CL:y21}{φ : Phi}{τ : Phi}{B:Nat}{ρ : Rho}{H:HS}{os:List Obj}{w:World}
def z1u{cs:List Value}:∀{off:Nat} {vs:List Value},(y7i cs off vs).length=cs.length
 |off,[]=>rfl
 |off,v::vs=>by simp only[y7i];rw[z1u];simp
def z1v{cs:List Value}:∀{off:Nat} {vs:List Value} {j:Nat},(j<off\/off+vs.length<=j)->(y7i cs off vs)[j]? = cs[j]?
 |off,[],j,_=>rfl
 |off,v::vs,j,h=>by simp only[ar]at h;simp only[y7i];rw[z1v (by omega),bo (by omega)]
def z3l{cs:List Value}:∀{off:Nat} {vs:List Value} {j:Nat},off+vs.length<=cs.length->j<vs.length->(y7i cs off vs)[off+j]? = vs[j]?
 |off,v::vs,0,h,_=>by
  simp only[ar]at h;simp only[y7i,dY];rw[z1v (by omega),List.getElem?_set_self (by omega)]
  rfl
 |off,v::vs,j+1,h,hj=>by
  simp only[ar]at h hj;simp only[y7i];have:=z3l (cs:=cs.set off v) (off:=off+1) (vs:=vs) (j:=j) (by simp;omega) (by omega)
  rw[show off+(j+1)=off+1+j from by omega,this]
  rfl
structure yaa(w w':World)(b:Nat)(arr':Array Value)(el:Nat):Prop where
 at_:w'.heap[b]? = some (.cells arr' el (0,0))
 other:∀ b',b' ≠ b->w'.heap[b']? = w.heap[b']?
 size:w'.heap.size=w.heap.size
 still:y1v w w'
def zei{b off el:Nat}{arr:Array Value}{v:Value}(hb:w.heap[b]? = some (.cells arr el (0,0)))(ho:off<arr.size)(hv:v.oneCell'=true) :
  ∃ w',(Go.store ⟨b,off,none⟩ v).run P w=.ok () w'/\yaa w w' b (arr.setIfInBounds off v) el:=by
 refine⟨w.setCell ⟨b,off,none⟩ v,?_,?_⟩
 ·rw[Go.run_store _ _ _ _ _ hv,cell?_eq];have h1:cellOf w.heap b off=some arr[off]:=by simp[cellOf,hb,ho]
  have h2:w.frozen? ⟨b,off,none⟩=false:=by simp[World.frozen?,hb]
  rw[h1];simp[h2]
 ·have hlt:=z26 hb;refine⟨?_,fun b' hne=>?_,by simp[World.setCell],rfl,rfl,rfl,aj _⟩
  ·simp only[World.setCell];rw[cC];simp[hb]
  ·simp only[World.setCell];rw[cC];simp[dF hne]
def z2t{b el:Nat}:∀(vs:List Value) (off i:Nat) (arr:Array Value) (w:World),w.heap[b]? = some (.cells arr el (0,0))->off+i+vs.length<=arr.size->(∀ v,v ∈ vs->v.oneCell'=true) ->
  ∃ w',(ei ⟨b,off,none⟩ vs i).run P w=.ok () w'/\yaa w w' b (y7i arr.toList (off+i) vs).toArray el
 |[],off,i,arr,w,hb,_,_=>⟨w,by simp[ei],by simpa[y7i]using hb,fun _ _=>rfl,rfl,y1v.refl _⟩
 |v::vs,off,i,arr,w,hb,hl,hv=>by
  simp only[ar]at hl;obtain⟨w1,h1,h2⟩:=zei (P:=P) (w:=w) (off:=off+i) hb (by omega) (hv v (by simp))
  obtain⟨w2,h3,h4⟩:=z2t vs off (i+1) (arr.setIfInBounds (off+i) v) w1 h2.at_ (by simp;omega) (fun u hu=>hv u (by simp[hu]))
  refine⟨w2,?_,?_,fun b' hne=>(h4.other b' hne).trans (h2.other b' hne),h4.size.trans h2.size,h2.still.trans h4.still⟩
  ·simp only[ei,ax,z1p,h1,au,h3]
  ·rw[h4.at_];simp[y7i,dq]
def y4m.of_kill{ρ':Rho}{H':HS}{hp hp':y1x}{os':List Obj}{k:Nat}(h:y4m CL φ B ρ H hp (os.set k .dead) ρ' H' hp' os'):y4m CL φ B ρ H hp os ρ' H' hp' os':=
 ⟨h.ext,h.sr,h.size,fun b hb hn=>h.frame b hb (fun id o c ho hl=>by
  rw[bw]at ho;split at ho
  ·split at ho
   ·simp at ho;subst ho;simp[Obj.live]at hl
   ·simp at ho
  ·exact hn id o c ho hl),h.hnew,h.fz,h.rn,h.rb,h.hn⟩
def y4g.kill{id k:Nat}(f:y4g ρ os id):y4g ρ (os.set k .dead) id:=by
 refine⟨f.rho,?_⟩;rcases f.place with h | h
 ·left;simpa using h
 ·by_cases e:k=id
  ·subst e;right;have:=(ae.1 h).1;simp[this]
  ·right;rw[bo e];exact h
def zku{w1:World}(hw:w1.heap=w.heap)(S:SR CL φ B ρ H w.heap os){id:Nat}(f:y4g ρ os id){arr:Array Value}{el cap su:Nat}{els:List D}(hr:yv φ ρ H w.heap (arr.toList.take (yr els).length) (yr els))(hsz:arr.size=cap*su)
  (hu:∀ x,x ∈ els->x.cellsL.length=su/\x.storable=true) (hle:els.length<=cap) :
  ∃ ρ' H',y4m CL φ B ρ H w.heap os ρ' H' (w1.heap.push (.cells arr el (0,0))) (y2e os id (.tok (els.length*su) su)) /\
   Rep φ ρ' H' (w1.heap.push (.cells arr el (0,0))) (.slice (some ⟨w.heap.size,0,none⟩) els.length cap) (.imm (.tok id) els):=by
 rw[hw];have hfl:(yr els).length=els.length*su:=zr fun x hx=>(hu x hx).1
 have hfa:(yr els).length<=arr.size:=by rw[hfl,hsz];exact bE _ hle
 have g:=z81 H w.heap (.cells arr el (0,0)) (yr els).length;have S1:=S.grew g;have x1:=g.ext ρ S.hb;have x:=x1.trans (f.ext (.blk w.heap.size cap) (y5c H w.heap.size (yr els).length) (w.heap.push (.cells arr el (0,0))));refine⟨upd ρ id (.blk w.heap.size cap),y5c H w.heap.size (yr els).length,⟨x,S1.add f ?_ ?_ ?_ ?_,g.size,fun b hb _=>g.old b hb,fun b o hh=>?_,y4n.push _ (by intro arr el fr h;cases h;rfl),z97 f rfl,rbU (.inr (aj _)),fun b o hh=>hh.elim .inl fun e=>.inr (.inr (dG e.1.symm))⟩,?_⟩
 ·refine .inr ⟨_,_,rfl,arr,el,z4z _ _,hsz,by rw[<- hfl];exact hfa,fun o ho hh=>?_⟩
  rcases hh with hh | ⟨_,hh⟩
  ·exact absurd (S.hb _ _ hh) (eh _)
  ·omega
 ·intro b c e;simp at e;obtain⟨rfl,rfl⟩:=e;exact⟨S.hB,by simp⟩
 ·intro b c e i o' c' h1 l1 r1;simp at e;obtain⟨rfl,rfl⟩:=e;exact absurd (S.own i o' _ c' h1 l1 r1).2 (eh _)
 ·intro cs' b c e;simp at e
 ·rcases hh with hh | ⟨rfl,_⟩
  ·exact .inl hh
  ·exact .inr S.hB
 ·refine .imm (.tok id) els _ cap w.heap.size 0 su (fun j=>arr.toList.getD j bu) hu hle (fun h=>by cases h) (fun k hk=>?_) (fun _=>rfl) (fun j hj=>⟨.inr ⟨rfl,by omega⟩,?_⟩) (fun j d hd=>?_)
  ·simp at hk;subst hk;exact .inl ⟨_,by simp[upd],rfl⟩
  ·rw[bM,z78];have:j<arr.size:=by omega
   simp[this]
  ·obtain⟨v,hv,hrr⟩:=hr.get hd;rw[aZ]at hv;split at hv
   ·simp only[af,hv,aX];exact hrr.mono x
   ·simp at hv
end
end Dv
namespace Dv
open Go (Value Program World Act Oper Operand Code)
section
variable{P:Program}{E:Env}{CL:y21}{φ : Phi}{τ : Phi}{B:Nat}{ρ : Rho}{H:HS}{os:List Obj}{w:World}
def zvo{t2:Nat}{e2':Nat}(h:P.underlying t2=some (.slice e2')) :
  ((do pure ((<- kM t2) matches .int _):fO Bool)).run P w=.ok false w:=by
 simp[run_underlying h]
def yac(P:Program)(t2:Nat):Prop:=∃ ty,P.underlying t2=some ty/\(match ty with | .int _=>true | _=>false)=false
def yba(P:Program)(v:Value)(n:Nat):Prop:=∀ w:World,(fF v).run P w=.ok n w
def z2n{t2 e2':Nat}(h:P.underlying t2=some (.slice e2')):yac P t2:=⟨_,h,rfl⟩
def zr7{t2:Nat}(h:P.underlying t2=some .string):yac P t2:=⟨_,h,rfl⟩
def z2r{a:Option cF}{n cap:Nat}:yba P (.slice a n cap) n:=fun _=>by simp[fF]
def z1w{t t2 ty e' sz sLen sCap n:Nat}{base:Option cF}{vy:Value}{vln:List Value}{w':World}
  (hu:P.underlying t=some (.slice e')) (hu2:yac P t2) (hl2:yba P vy n) (hsz:(gF e').run P w=.ok sz w)
  (hn:(aS sz n vy).run P w=.ok vln.toArray w) (hfit:sLen+n<=sCap)
  (hst:(match base with | some a=>ei (a.add (sLen*sz)) vln | none=>pure ():fO Unit).run P w=.ok () w') :
  (bW #[t,t2] ty #[.slice base sLen sCap,vy]).run P w=.ok (.slice base (sLen+n) sCap) w':=by
 unfold bW;simp only[ca,cu,df];obtain⟨ty2,hu3,hz⟩:=hu2;cases ty2 <;> first | (cases hz;done) | skip
 all_goals (
  simp only[ax,run_underlying hu,run_underlying hu3,au,hsz,aP,hl2 w,kf,if_true,if_pos hfit,aT,if_false,hn];cases base with
  |none=>simp at hst;subst hst;simp
  |some a=>simp only[ax,hst,au,aP])
def z5j{t t2 ty e' sz by' sLen sCap n:Nat}{base:Option cF}{vy:Value}{vlo vln:List Value}{zv:Value}{inf:ma}
  (hu:P.underlying t=some (.slice e')) (hu2:yac P t2) (hl2:yba P vy n) (hsz:(gF e').run P w=.ok sz w) (hi:P.info? e'=some inf) (hby:inf.bytes=by')
  (hz:∀ w1:World,(dt e').run P w1=.ok zv w1) (hgrow:sCap<sLen+n)
  (hb1:(sLen+n)*(by'+1)<=17592186044416) (hb2:by'<=65536) (ho':∀ w1:World,w1.heap=w.heap->(aS sz sLen (.slice base sLen sCap)).run P w1=.ok vlo.toArray w1)
  (hn':∀ w1:World,w1.heap=w.heap->(aS sz n vy).run P w1=.ok vln.toArray w1) :
  ∃(newCap:Nat) (w1:World),(w1.heap=w.heap/\y1v w w1)/\sLen+n<=newCap/\(bW #[t,t2] ty #[.slice base sLen sCap,vy]).run P w =
   .ok (.slice (some ⟨w.heap.size,0,none⟩) (sLen+n) newCap) { w1 with heap:=w1.heap.push (.cells (vlo.toArray++vln.toArray++cm zv.cells (newCap - (sLen+n))) e') }:=by
 let q:Go.Question:=.appendCap (sLen+n) sCap e'
 refine⟨q.cut (w.tape w.drawn q),{ w with drawn:=w.drawn+1 },⟨rfl,rfl,rfl,rfl,fa _⟩,Nat.le_add_right _ _,?_⟩;unfold bW;have hnf : ¬ (sLen+n<=sCap):=by omega
 have h1:sLen+n<=17592186044416:=by
  have:(sLen+n)*1<=(sLen+n)*(by'+1):=kT _ (by omega)
  omega
 have hmax : ¬ (((sLen+n:Nat):Int) > aJ.max/\(false=true\/by'=0)):=by
  rintro⟨hh,_⟩;have:aJ.max=9223372036854775807:=by decide
  rw[this]at hh;omega
 have hnx : ¬ (fN (sLen+n) sCap*by' > 2 ^ 48):=by
  have hle:=zb0 (sLen+n) sCap hgrow;have h2:fN (sLen+n) sCap*by'<=(4*(sLen+n)+1024)*by':=bE _ hle
  have h3:(sLen+n)*by'<=17592186044416:=aM (kT _ (fa _)) hb1
  rw[br,Nat.mul_assoc]at h2;omega
 simp only[ca,cu,df];obtain⟨ty2,hu3,hz0⟩:=hu2;cases ty2 <;> first | (cases hz0;done) | skip
 all_goals (
  simp only[ax,run_underlying hu,run_underlying hu3,au,hsz,aP,hl2 w,kf,if_true,if_neg hnf,aT,if_false,z1n hi,hby];rw[if_neg (by simpa using hmax)]
  simp only[ax,iX,aP,z1n hi,hby,if_neg hnx,au];have hforced:(rt (sLen+n) sCap e').forced=false:=rfl;simp only[nZ,hforced,aT,if_false,au,ke];rw[ho' { w with drawn:=w.drawn+1 } rfl];simp only[au,ax];rw[hn' { w with drawn:=w.drawn+1 } rfl];simp only[au,ax,hz,z1q,aP]
  rfl)
end
end Dv
namespace Dv
open Go (Value Program World Act Oper Operand Code)
section
variable{P:Program}{E:Env}{CL:y21}{φ : Phi}{τ : Phi}{B:Nat}{ρ : Rho}{H:HS}{os:List Obj}{w:World}
def zdi{sz:Nat}{els:List D}(h:y2k sz els=true):∀ x,x ∈ els->x.cellsL.length=sz/\x.storable=true:=fun x hx=>by have:=ay.1 h x hx;simp at this;exact⟨this.2,this.1⟩
def zdg{sz:Nat}{ag:Bool}{sp:yt}{els:List D}(h:y2k sz els=true):y1b os sz ag (.imm sp els)=some els:=by simp only[y1b];simp only[y2k]at h;rw[if_pos h]
def zlh{t t2 ty e' e:Nat}{base:Option cF}{sCap:Nat}{x:D}{vy:Value}{vln:List Value}{els new:List D}(S:SR CL φ B ρ H w.heap os)(Te:TOk P E τ e' e)
  (hu:P.underlying t=some (.slice e')) (hu2:yac P t2) (hl2:yba P vy new.length) (hx:Rep φ ρ H w.heap (.slice base els.length sCap) x)
  (lx:y1b os (E.ty e).size (E.ty e).ag x=some els) (n2:yv φ ρ H w.heap vln (yr new)) (n3:∀ x,x ∈ new->x.cellsL.length=(E.ty e).size/\x.storable=true)
  (hn':∀ w1:World,w1.heap=w.heap->(aS (E.ty e).size new.length vy).run P w1=.ok vln.toArray w1) (hgrow:sCap<els.length+new.length)
  (hb1:(els.length+new.length)*((E.ty e).bytes+1)<=yg) (hb2:(E.ty e).bytes<=65536) (hz:(y28 E e).isSome=true) :
  ∃(arr:Array Value) (newCap:Nat) (w1:World),(w1.heap=w.heap/\y1v w w1)/\els.length+new.length<=newCap/\arr.size=newCap*(E.ty e).size /\
   yv φ ρ H w.heap (arr.toList.take (yr (els++new)).length) (yr (els++new)) /\
   (bW #[t,t2] ty #[.slice base els.length sCap,vy]).run P w =
    .ok (.slice (some ⟨w.heap.size,0,none⟩) (els.length+new.length) newCap) { w1 with heap:=w1.heap.push (.cells arr e') }:=by
 obtain⟨z,hzz⟩:=gI.1 hz;obtain⟨inf,hi,hsz,hby,_⟩:=Te.info;obtain⟨_,_,vlo,eo,o2,o3,o4⟩:=z2p (P:=P) S hx lx;obtain⟨zv,e1,e2,_,e4,_⟩:=z2x (w:=w) (φ:=φ) (ρ:=ρ) (H:=H) Te hzz;have hz':∀ w1:World,(dt e').run P w1=.ok zv w1:=by
  intro w1;have h1:(dt e').run P w=.ok zv w:=e1;unfold dt at h1 ⊢;simp only[ax,z1n hi,au]at h1 ⊢;cases hzero:inf.zero with
  |none=>simp[hzero]at h1
  |some q=>simp[hzero]at h1 ⊢;exact h1
 have lo:vlo.length=els.length*(E.ty e).size:=by rw[o2.1,zr fun x hx=>(o3 x hx).1]
 have ln:vln.length=new.length*(E.ty e).size:=by rw[n2.1,zr fun x hx=>(n3 x hx).1]
 have ho':∀ w1:World,w1.heap=w.heap->(aS (E.ty e).size els.length (.slice base els.length sCap)).run P w1=.ok vlo.toArray w1:=fun w1 he=>by rw[o4 _ (aj _) w1 he,<- lo,bh]
 obtain⟨newCap,w1,he,hle,hrun⟩:=z5j (ty:=ty) (base:=base) (sCap:=sCap) hu hu2 hl2 Te.size hi hby hz' hgrow hb1 hb2 ho' hn';have hzs:zv.cells.size=(E.ty e).size:=by have:=e2.1;rw[e4]at this;simpa using this
 have hfl:(yr (els++new)).length=(els.length+new.length)*(E.ty e).size:=by rw[z1z,ao,<- o2.1,<- n2.1,lo,ln,br]
 refine⟨vlo.toArray++vln.toArray++cm zv.cells (newCap - (els.length+new.length)),newCap,w1,he,hle,?_,?_,hrun⟩
 ·simp only[gY,bQ,cm,nb,mo,lo,ln,hzs];rw[<- br,<- br];congr 1;omega
 ·have:(vlo.toArray++vln.toArray++cm zv.cells (newCap - (els.length+new.length))).toList.take (yr (els++new)).length=vlo++vln:=by simp only[cB,bi];rw[<- bi,bN (by rw[hfl];simp[lo,ln,br]),bd (by rw[hfl];simp[lo,ln,br])]
  rw[this,z1z];exact o2.append n2
end
end Dv
namespace Dv
open Go (Value Program World Act Oper Operand Code)
section
variable{P:Program}{E:Env}{CL:y21}{φ : Phi}{τ : Phi}{B:Nat}{ρ : Rho}{H:HS}{os:List Obj}{w:World}
def SR.dead_rho(S:SR CL φ B ρ H w.heap os){id:Nat}(f:y4g ρ os id){v:Value}{d:D}(hv:Rep φ ρ H w.heap v d)(bk:Bk):Rep φ (upd ρ id bk) H w.heap v d:=
 hv.mono (f.ext bk H w.heap)
def zau(S:SR CL φ B ρ H w.heap os){id:Nat}(f:y4g ρ os id)(used sz:Nat):y4m CL φ B ρ H w.heap os (upd ρ id .virt) H w.heap (y2e os id (.tok used sz)):=
 ⟨f.ext .virt H w.heap,S.add f (.inl rfl) (fun b c e=>by cases e) (fun b c e=>by cases e) (fun cs b c e=>by cases e),aj _,fun _ _ _=>rfl,fun _ _ h=>.inl h,y4n.refl _,z97 f rfl,rbV,hnS⟩
def zn7(S:SR CL φ B ρ H w.heap os){id k b cap used sz:Nat}(f:y4g ρ os id)(hk:os[k]? = some (.tok used sz))(hr : ρ k=some (.blk b cap)) :
  y4m CL φ B ρ H w.heap os (upd ρ id (.blk b cap)) H w.heap (y2e (os.set k .dead) id (.tok used sz)):=by
 obtain⟨bk,h1,h2⟩:=S.dom k _ hk rfl;rw[hr]at h1;simp at h1;subst h1;rcases h2 with h2 | ⟨b',cap',e,hT⟩
 ·cases h2
 simp at e;obtain⟨rfl,rfl⟩:=e;have own:=S.own k _ b cap hk rfl hr;refine y4m.of_kill (k:=k) ⟨f.ext _ H w.heap,(S.kill k).add f.kill (.inr ⟨b,cap,rfl,hT⟩) (fun b c e=>?_) (fun b c e i o' c' h1 l1 r1=>?_) (fun cs b c e=>by cases e),aj _,fun _ _ _=>rfl,fun _ _ h=>.inl h,y4n.refl _,z97 f.kill rfl,rbU (.inl ⟨k,cap,hr⟩),hnS⟩
 ·simp at e;obtain⟨rfl,rfl⟩:=e;exact own
 ·simp at e;obtain⟨rfl,rfl⟩:=e;rw[bw]at h1;split at h1
  ·split at h1
   ·simp at h1;subst h1;simp[Obj.live]at l1
   ·simp at h1
  ·rename_i hne;exact hne (S.inj k i _ o' b cap c' hk rfl h1 l1 hr r1)
def z5v{hp:y1x}{v:Value}{sp:yt}{els:List D}(h:Rep φ ρ H hp v (.imm sp els)):∃ a cap,v=.slice a els.length cap/\els.length<=cap/\(sp=.exact->cap=els.length) /\
  (∀ k,sp=.tok k->(∃ b',ρ k=some (.blk b' cap)/\a=some ⟨b',0,none⟩)\/(ρ k=some .virt/\cap=els.length)):=by
 cases h with
 |imm _ _ a cap b off su vs hu hcap hex htok ha hH hr=>exact⟨a,cap,rfl,hcap,hex,htok⟩
def z6g{hp:y1x}{v:Value}{sp sp':yt}{els:List D}{a:Option cF}{cap:Nat}(hv:v=.slice a els.length cap)(h:Rep φ ρ H hp v (.imm sp els))(hex:sp'=.exact->cap=els.length)
  (htok:∀ k,sp'=.tok k->(∃ b',ρ k=some (.blk b' cap)/\a=some ⟨b',0,none⟩)\/(ρ k=some .virt/\cap=els.length)):Rep φ ρ H hp v (.imm sp' els):=by
 cases h with
 |imm _ _ a' cap' b off su vs hu hcap hex' htok' ha hH hr=>simp at hv;obtain⟨rfl,rfl⟩:=hv;exact .imm sp' els a' cap' b off su vs hu hcap hex htok ha hH hr
def z5f{hp:y1x}{vl:List Value}{ds:List D}(h:yv φ ρ H hp vl ds)(ha:∀ d,d ∈ ds->d.atom=true):∀ v,v ∈ vl->v.oneCell'=true:=by intro v hv;obtain⟨j,hj,e⟩:=dD hv;have hj':j<ds.length:=h.1 ▸ hj;exact(h.2 j v ds[j] (by rw[ac hj,e]) (ac hj')).one (ha _ (av hj')) |>.1
def zgq{w':World}(S:SR CL φ B ρ H w.heap os){id k b cap sz:Nat}(f:y4g ρ os id){els new:List D}{vln:List Value}{arr:Array Value}{el:Nat}
  (hk:os[k]? = some (.tok (els.length*sz) sz)) (hr : ρ k=some (.blk b cap)) (hb:w.heap[b]? = some (.cells arr el (0,0))) (hsz:arr.size=cap*sz) (y1l:∀ o,els.length*sz<=o -> ¬ H b o)
  (hle:els.length+new.length<=cap) (hn:yv φ ρ H w.heap vln (yr new)) (hnu:∀ x,x ∈ new->x.cellsL.length=sz/\x.storable=true) (hxu:∀ x,x ∈ els->x.cellsL.length=sz/\x.storable=true)
  (hx:Rep φ ρ H w.heap (.slice (some ⟨b,0,none⟩) els.length cap) (.imm (.tok k) els))
  (hw:yaa w w' b (y7i arr.toList (els.length*sz) vln).toArray el) :
  ∃ ρ' H',y4m CL φ B ρ H w.heap os ρ' H' w'.heap (y2e (os.set k .dead) id (.tok ((els.length+new.length)*sz) sz)) /\
   Rep φ ρ' H' w'.heap (.slice (some ⟨b,0,none⟩) (els.length+new.length) cap) (.imm (.tok id) (els++new)):=by
 have own:=S.own k _ b cap hk rfl hr;have lx:(yr els).length=els.length*sz:=zr fun x hx=>(hxu x hx).1
 have ln:(yr new).length=new.length*sz:=zr fun x hx=>(hnu x hx).1
 have hmul:els.length*sz+new.length*sz<=cap*sz:=by rw[<- br];exact bE _ hle
 have hlv:vln.length=new.length*sz:=by rw[hn.1,ln]
 -- the new marks
 let H':HS:=fun b' o=>H b' o\/(b'=b/\els.length*sz<=o/\o<(els.length+new.length)*sz)
 have keep:∀ b' o,H b' o->cellOf w'.heap b' o=cellOf w.heap b' o:=by
  intro b' o hh;unfold cellOf
  by_cases e:b'=b
  ·subst e;rw[hw.at_,hb];have ho:o<els.length*sz:=js fun h=>y1l o h hh
   simp only[ca];rw[z1v (.inl ho)];simp
  ·rw[hw.other b' e]
 have x1:Ext ρ ρ H H' w.heap w'.heap:=⟨fun _ _ h=>h,fun _ _ h=>.inl h,keep⟩
 -- the others stand
 have S1:SR CL φ B ρ H' w'.heap (os.set k .dead):=by
  have S0:=S.kill k;have hne:∀(i:Nat) o c,(os.set k .dead)[i]? = some o->o.live=true -> ρ i ≠ some (.blk b c):=by
   intro i o c h1 l1 r1;rw[bw]at h1;split at h1
   ·split at h1
    ·simp at h1;subst h1;simp[Obj.live]at l1
    ·simp at h1
   ·rename_i hne;exact hne (S.inj k i _ o b cap c hk rfl h1 l1 hr r1)
  exact {
   dom:=fun i o h1 l1=>by
    obtain⟨bk,r1,h2⟩:=S0.dom i o h1 l1;refine⟨bk,r1,h2.mono x1 (fun b' c e=>hw.other b' (fun e'=>hne i o c h1 l1 (by rw[r1,e,e']))) (fun b' c u s e _ j _ hh=>?_)⟩
    rcases hh with hh | ⟨rfl,_⟩
    ·exact hh
    ·exact absurd (by rw[r1,e]) (hne i o c h1 l1)
   lt:=S0.lt
   inj:=S0.inj
   own:=fun i o b' c h1 l1 r1=>by rw[hw.size];exact S0.own i o b' c h1 l1 r1
   mutH:=fun i cs b' c o h1 r1 hh=>by
    rcases hh with hh | ⟨rfl,_⟩
    ·exact S0.mutH i cs b' c o h1 r1 hh
    ·exact hne i _ c h1 rfl r1
   hb:=S.hb.ext x1 fun b' o hh=>by
    rw[hw.size];rcases hh with hh | ⟨rfl,_⟩
    ·exact S.hb b' o hh
    ·exact own.2
   hB:=by rw[hw.size];exact S.hB }
 have x2:=f.kill (k:=k) |>.ext (.blk b cap) H' w'.heap;have hadd:(els++new).length=els.length+new.length:=by simp
 have x3:=x1.trans x2;have hS2:SR CL φ B (upd ρ id (.blk b cap)) H' w'.heap (y2e (os.set k .dead) id (.tok ((els.length+new.length)*sz) sz)):=by
  refine S1.add f.kill ?_ ?_ ?_ (fun cs b c e=>by cases e)
  ·refine .inr ⟨b,cap,rfl,_,el,hw.at_,by simp[z1u,hsz],by simp[z1u,hsz];rw[br];exact hmul,fun o ho hh=>?_⟩
   rcases hh with hh | ⟨_,_,hh⟩
   ·exact y1l o (by rw[br]at ho;omega) hh
   ·omega
  ·intro b' c e;simp at e;obtain⟨rfl,rfl⟩:=e;rw[hw.size];exact own
  ·intro b' c e i o' c' h1 l1 r1;simp at e;obtain⟨rfl,rfl⟩:=e;rw[bw]at h1;split at h1
   ·split at h1
    ·simp at h1;subst h1;simp[Obj.live]at l1
    ·simp at h1
   ·rename_i hne;exact hne (S.inj k i _ o' b cap c' hk rfl h1 l1 hr r1)
 refine⟨upd ρ id (.blk b cap),H',⟨x3,hS2,by rw[hw.size];exact aj _,fun b' hb' hn'=>?_,fun b' o hh=>?_,y4n.at hw.at_ (by intro arr el fr h;cases h;rfl) hw.other,z97 f.kill rfl,rbU (.inl ⟨k,cap,hr⟩),fun b' o hh=>hh.elim .inl fun e=>.inr (.inl ⟨k,cap,by rw[e.1];exact hr⟩)⟩,?_⟩
 ·refine hw.other b' (fun e=>?_)
  subst e;exact hn' k _ cap hk rfl hr
 ·rcases hh with hh | ⟨rfl,_⟩
  ·exact .inl hh
  ·exact .inr own.1
 ·have y5c:∀ j,j<(yr els).length->∃ v,H b j/\arr[j]? = some v /\ ∀ d,(yr els)[j]? = some d->Rep φ ρ H w.heap v d:=by
   intro j hj;obtain⟨a,cap',b',off,su,e,_,ha,_,vl,hrl,hcl⟩:=z7z hx;have hne:els ≠ []:=by rintro rfl;simp[yr]at hj
   simp at e;have:=ha hne;rw[<- e.1]at this;simp at this;obtain⟨rfl,rfl⟩:=this;obtain⟨d,hd⟩:∃ d,(yr els)[j]? = some d:=⟨_,ac hj⟩;obtain⟨v,hv,hrr⟩:=hrl.get hd;have:=hcl j v hv;rw[bM]at this;refine⟨v,this.1,?_,fun d' hd'=>by rw[hd]at hd';simp at hd';subst hd';exact hrr⟩
   have h2:=this.2;simp only[cellOf,hb]at h2;exact h2
  rw[<- hadd];refine .imm (.tok id) (els++new) _ cap b 0 sz (fun j=>(y7i arr.toList (els.length*sz) vln).getD j bu) (fun x hx'=>?_) (by rw[hadd];exact hle) (fun h=>by cases h) (fun k' hk'=>?_) (fun _=>rfl) (fun j hj=>?_) (fun j d hd=>?_)
  ·rcases aB.1 hx' with h | h
   ·exact hxu x h
   ·exact hnu x h
  ·simp at hk';subst hk';exact .inl ⟨b,by simp[upd],rfl⟩
  ·rw[z1z,ao,lx,ln]at hj;have hja:j<arr.size:=by rw[hsz];omega
   rw[bM];constructor
   ·by_cases h1:j<els.length*sz
    ·obtain⟨v,h2,_⟩:=y5c j (by rw[lx];exact h1)
     exact .inl h2
    ·exact .inr ⟨rfl,by omega,by rw[br];exact hj⟩
   ·have hjl:j<(y7i arr.toList (els.length*sz) vln).length:=by rw[z1u];simpa using hja
    simp only[cellOf,hw.at_,ca,af,ac hjl,aX]
  ·rw[z1z]at hd
   by_cases h1:j<(yr els).length
   ·rw[aD h1]at hd;obtain⟨v,_,h3,h4⟩:=y5c j h1;rw[af,z1v (.inl (by rw[<- lx];exact h1))]
    simp[h3];exact(h4 d hd).mono x3
   ·have h1:(yr els).length<=j:=by omega
    rw[aH h1]at hd;obtain⟨v,h3,h4⟩:=hn.get hd;have hjv:j - (yr els).length<vln.length:=(ae.1 h3).1;have h5:=z3l (cs:=arr.toList) (off:=els.length*sz) (vs:=vln) (j:=j - (yr els).length) (by simp[hsz,hlv];omega) hjv
    rw[show els.length*sz+(j - (yr els).length)=j from by rw[<- lx];omega]at h5
    rw[af,h5,h3];exact h4.mono x3
def zc5(TA:y3k P E τ){t t2 ty id e e':Nat}{vx vy:Value}{sp:yt}{els new:List D}{vln:List Value}{ef:Ef}(S:SR CL φ B ρ H w.heap os)(f:y4g ρ os id)
  (hu:P.underlying t=some (.slice e')) (Te:TOk P E τ e' e) (hu2:yac P t2) (hl2:yba P vy new.length)
  (hn:yv φ ρ H w.heap vln (yr new)) (hnu:∀ x,x ∈ new->x.cellsL.length=(E.ty e).size/\x.storable=true)
  (hrd:∀ w1:World,w1.heap=w.heap->(aS (E.ty e).size new.length vy).run P w1=.ok vln.toArray w1)
  (hx:Rep φ ρ H w.heap vx (.imm sp els)) (h:y2x E os id e sp els new=some ef) :
  y42 CL φ B ρ H os w ((bW #[t,t2] ty #[vx,vy]).run P w) ef.d (yk os id ef):=by
 unfold y2x at h;split at h
 ·rename_i hc;obtain⟨hb1,hb2,hz,hfit⟩:=hc;have hxu:=zdi hfit;obtain⟨a,cap,rfl,hcap,hex,htok⟩:=z5v hx;have lx:(yr els).length=els.length*(E.ty e).size:=zr fun x hx=>(hxu x hx).1
  have ln:(yr new).length=new.length*(E.ty e).size:=zr fun x hx=>(hnu x hx).1
  have hlv:vln.length=new.length*(E.ty e).size:=by rw[hn.1,ln]
  have hn1:(aS (E.ty e).size new.length (vy)).run P w=.ok vln.toArray w:=by exact hrd w rfl
  have hadd:(els++new).length=els.length+new.length:=by simp
  have hunif:∀ x,x ∈ els++new->x.cellsL.length=(E.ty e).size/\x.storable=true:=fun x hx'=>by
   rcases aB.1 hx' with h | h
   ·exact hxu x h
   ·exact hnu x h
  -- a new array
  have grows:∀(os0:List Obj),cap<els.length+new.length->SR CL φ B ρ H w.heap os0->y4g ρ os0 id ->
    (∀ ρ' H' hp' os',y4m CL φ B ρ H w.heap os0 ρ' H' hp' os'->y4m CL φ B ρ H w.heap os ρ' H' hp' os') ->
    y42 CL φ B ρ H os w ((bW #[t,t2] ty #[.slice a els.length cap,vy]).run P w) (.imm (.tok id) (els++new)) (y2e os0 id (.tok ((els.length+new.length)*(E.ty e).size) (E.ty e).size)):=by
   intro os0 hg S0 f0 back;obtain⟨arr,newCap,w1,⟨he,hsl⟩,hle,hsz,hra,hrun⟩:=zlh (ty:=ty) S Te hu hu2 hl2 hx (zdg hfit) hn hnu hrd hg hb1 hb2 hz;obtain⟨ρ',H',hp,hr⟩:=zku he S0 f0 (el:=e') hra hsz hunif (by rw[hadd];exact hle)
   rw[hadd]at hp hr;exact⟨_,_,ρ',H',hrun,⟨back _ _ _ _ hp,hsl.os,hsl.tape,hsl.out,hsl.dr⟩,hr⟩
  -- nothing to append
  have same:new=[]->(bW #[t,t2] ty #[.slice a els.length cap,vy]).run P w=.ok (.slice a (els.length+new.length) cap) w:=by
   intro h0;subst h0;have:vln=[]:=by simpa using hlv
   subst this;exact z1w hu hu2 hl2 Te.size hn1 (by simpa using hcap) (by cases a <;> simp[ei])
  split at h
  ·-- exactly full
   simp at h;subst h;have hcl:=hex rfl
   by_cases h0:new=[]
   ·subst h0;simp only[bG,aY,dY,yk]at same ⊢;refine⟨_,w,upd ρ id .virt,H,same trivial,⟨zau S f _ _,y1v.refl _⟩,?_⟩;refine z6g rfl (S.dead_rho f hx .virt) (fun h=>by cases h) (fun k hk'=>?_)
    simp at hk';subst hk';exact .inr ⟨by simp[upd],hcl⟩
   ·have hpos:0<new.length:=gv.2 h0;exact grows os (by omega) S f (fun _ _ _ _ h=>h)
  ·rename_i k;split at h
   ·rename_i used sz hos;split at h
    ·rename_i hus;obtain⟨rfl,rfl⟩:=hus;simp at h;subst h;simp only[yk];obtain⟨bk,hrk,hrel⟩:=S.dom k _ hos rfl
     by_cases h0:new=[]
     ·subst h0;simp only[bG,aY,dY]at same ⊢;rcases htok k rfl with⟨b,hb,rfl⟩ | ⟨hb,hcl⟩
      ·refine⟨_,w,upd ρ id (.blk b cap),H,same trivial,⟨zn7 S f hos hb,y1v.refl _⟩,?_⟩;refine z6g rfl (S.dead_rho f hx _) (fun h=>by cases h) (fun k' hk'=>?_)
       simp at hk';subst hk';exact .inl ⟨b,by simp[upd],rfl⟩
      ·refine⟨_,w,upd ρ id .virt,H,same trivial,⟨?_,y1v.refl _⟩,?_⟩
       ·have:=zau (w:=w) (S.kill k) f.kill (els.length*(E.ty e).size) (E.ty e).size;exact this.of_kill
       ·refine z6g rfl (S.dead_rho f hx .virt) (fun h=>by cases h) (fun k' hk'=>?_)
        simp at hk';subst hk';exact .inr ⟨by simp[upd],hcl⟩
     ·have hpos:0<new.length:=gv.2 h0
      by_cases hg:cap<els.length+new.length
      ·exact grows (os.set k .dead) hg (S.kill k) f.kill (fun _ _ _ _ h=>h.of_kill)
      ·-- there is room
       rcases htok k rfl with⟨b,hb,rfl⟩ | ⟨hb,hcl⟩
       ·rw[hrk]at hb;simp at hb;subst hb;rcases hrel with hrel | ⟨b',cap',e1,arr,el,a1,a2',a3,a4⟩
        ·cases hrel
        simp at e1;obtain⟨rfl,rfl⟩:=e1;have hsum:els.length*(E.ty e).size+new.length*(E.ty e).size<=cap*(E.ty e).size:=by rw[<- br];exact bE _ (by omega)
        obtain⟨w',s1,s2⟩:=z2t (P:=P) (b:=b) (el:=el) vln (els.length*(E.ty e).size) 0 arr w a1 (by rw[a2',hlv];simpa using hsum) (z5f hn (z1t fun x hx'=>(hnu x hx').2))
        have hrun:=z1w (ty:=ty) (sLen:=els.length) (n:=new.length) (sCap:=cap) (base:=some ⟨b,0,none⟩) (w':=w') hu hu2 hl2 Te.size hn1 (by omega) (by simp only[z1p,bM];exact s1)
        obtain⟨ρ',H',hp,hr⟩:=zgq (id:=id) (k:=k) S f hos hrk a1 a2' a4 (by omega) hn hnu hxu hx s2
        exact⟨_,w',ρ',H',hrun,⟨hp,s2.still⟩,hr⟩
       ·omega
    ·simp at h
   ·simp at h
  ·simp at h
 ·simp at h
def zu3{s:ByteArray}{ρ : Rho}{H:HS}{hp:y1x}:yv φ ρ H hp (s.data.toList.map fun b=>Value.int .u8 b.toNat) (yr (s.data.toList.map yd)):=by
 have e:∀ l:List UInt8,yr (l.map yd)=l.map yd:=fun l=>by
  induction l with
  |nil=>rfl
  |cons x r ih=>rw[al,z1m,ih];rfl
 rw[e];refine⟨by simp,fun j v d hv hd=>?_⟩
 rw[ch]at hv hd;cases hb:s.data.toList[j]? with
 |none=>rw[hb]at hv;simp at hv
 |some b=>rw[hb]at hv hd;simp only[aq,aa]at hv hd;subst hv hd;exact .int _ _
def zk5(TA:y3k P E τ){t c t2 c2 ty id:Nat}{vx vy:Value}{x y:D}{ef:Ef}(T:TOk P E τ t c)(T2:TOk P E τ t2 c2)(S:SR CL φ B ρ H w.heap os)(f:y4g ρ os id)
  (hx:Rep φ ρ H w.heap vx x) (hy:Rep φ ρ H w.heap vy y) (h:y3a E os id c c2 x y=some ef) :
  y42 CL φ B ρ H os w ((bW #[t,t2] ty #[vx,vy]).run P w) ef.d (yk os id ef):=by
 unfold y3a at h;split at h
 ·rename_i e e2 sp els hk hk2;obtain⟨e',hu,he'⟩:=T.slice hk;obtain⟨e2',hu2,_⟩:=T2.slice hk2;split at h
  ·rename_i new hnew;obtain⟨a2,cap2,vln,rfl,hn,hnu,hrd⟩:=z2p (P:=P) S hy hnew;have ln:(yr new).length=new.length*(E.ty e).size:=zr fun x hx=>(hnu x hx).1
   have hlv:vln.length=new.length*(E.ty e).size:=by rw[hn.1,ln]
   exact zc5 TA S f hu (TA _ _ he') (z2n hu2) z2r hn hnu (fun w1 he=>by rw[hrd _ (aj _) w1 he,<- hlv,bh]) hx h
  ·simp at h
 ·rename_i e sp els hk hk2;obtain⟨e',hu,he'⟩:=T.slice hk;have hu2:=T2.und;rw[hk2]at hu2;split at h
  ·rename_i s;split at h
   ·rename_i hc;obtain⟨s0,rfl,rfl⟩:=hy.strv;refine zc5 TA S f hu (TA _ _ he') (zr7 hu2) (fun w1=>by simp[fF]) zu3 (fun x hx'=>?_) (fun w1 he=>?_) hx h
    ·obtain⟨b,_,rfl⟩:=aL.1 hx';exact⟨hc.1,rfl⟩
    ·simp[aS];exact Array.toList_inj.1 (by simp)
   ·simp at h
  ·simp at h
 ·simp at h
end
end Dv
namespace Dv
open Go (Value Program World Act Oper Operand Code)
section
variable{P:Program}{E:Env}{CL:y21}{φ : Phi}{τ : Phi}{B:Nat}{ρ : Rho}{H:HS}{os:List Obj}{w:World}
def SR.free(S:SR CL φ B ρ H w.heap os):y4g ρ os os.length:=
 ⟨by cases h : ρ os.length with
   |none=>rfl
   |some bk=>exact absurd (S.lt _ _ h) (eh _),.inl rfl⟩
def zav(S:SR CL φ B ρ H w.heap os){id:Nat}(f:y4g ρ os id){arr:Array Value}{el:Nat}{cs:List D}(h:yv φ ρ H w.heap (arr.toList.take cs.length) cs)(hle:cs.length<=arr.size)(ha:∀ d,d ∈ cs->d.atom=true) :
  y4m CL φ B ρ H w.heap os (upd ρ id (.blk w.heap.size arr.size)) H (w.heap.push (.cells arr el (0,0))) (y2e os id (.cells cs)):=by
 have g:=z5w H w.heap (.cells arr el (0,0));have S1:=S.grew g;have x:=(g.ext ρ S.hb).trans (f.ext (.blk w.heap.size arr.size) H (w.heap.push (.cells arr el (0,0))));refine⟨x,S1.add f ?_ ?_ ?_ ?_,g.size,fun b hb _=>g.old b hb,fun _ _ h=>.inl h,y4n.push _ (by intro arr el fr h;cases h;rfl),z97 f rfl,rbU (.inr (aj _)),hnS⟩
 ·refine⟨_,_,rfl,arr,el,z4z _ _,rfl,hle,fun j v d hv hd=>?_,ha⟩
  have hj:j<cs.length:=(ae.1 hd).1;exact(h.2 j v d (by rw[aZ,if_pos hj];simpa using hv) hd).mono x
 ·intro b c e;simp at e;obtain⟨rfl,rfl⟩:=e;exact⟨S.hB,by simp⟩
 ·intro b c e i o' c' h1 l1 r1;simp at e;obtain⟨rfl,rfl⟩:=e;exact absurd (S.own i o' _ c' h1 l1 r1).2 (eh _)
 ·intro cs' b c _ e j hh;simp at e;obtain⟨rfl,rfl⟩:=e;exact absurd (S.hb _ _ hh) (eh _)
def SR.write(S:SR CL φ B ρ H w.heap os){w':World}{k b c el:Nat}{cs cs':List D}{arr':Array Value}(hk:os[k]? = some (.cells cs))(hr : ρ k=some (.blk b c))(hw:yaa w w' b arr' el)(hsz:arr'.size=c)
  (hle:cs'.length<=arr'.size) (hrep:∀(j:Nat) (v:Value) (d:D),arr'[j]? = some v->cs'[j]? = some d->Rep φ ρ H w.heap v d) (hat:∀ d,d ∈ cs'->d.atom=true) :
  y4m CL φ B ρ H w.heap os ρ H w'.heap (os.set k (.cells cs')):=by
 have own:=S.own k _ b c hk rfl hr;have hlt:=(ae.1 hk).1;have x:Ext ρ ρ H H w.heap w'.heap:=⟨fun _ _ h=>h,fun _ _ h=>h,fun b' o hh=>by
  unfold cellOf;rw[hw.other b' (fun e=>S.mutH k cs b c o hk hr (e ▸ hh))]⟩
 have get:∀(i:Nat) o,(os.set k (.cells cs'))[i]? = some o->(i=k/\o=.cells cs')\/(i ≠ k/\os[i]? = some o):=by
  intro i o h;rw[bw]at h;split at h
  ·rename_i e;subst e;simp[hlt]at h;exact .inl ⟨rfl,h.symm⟩
  ·rename_i e;exact .inr ⟨fun e'=>e e'.symm,h⟩
 have hne:∀(i:Nat) o c',i ≠ k->os[i]? = some o->o.live=true -> ρ i ≠ some (.blk b c'):=fun i o c' hi h l r=>hi (S.inj i k o _ b c' c h l hk rfl r hr)
 refine⟨x,?_,by rw[hw.size];exact aj _,fun b' _ hn=>hw.other b' (fun e=>?_),fun _ _ h=>.inl h,y4n.at hw.at_ (by intro arr el fr h;cases h;rfl) hw.other,fun _ _ h=>.inl h,rbS,hnS⟩
 ·exact {
   dom:=fun i o h l=>by
    rcases get i o h with⟨rfl,rfl⟩ | ⟨hi,h⟩
    ·exact⟨_,hr,_,_,rfl,arr',el,hw.at_,hsz,hle,fun j v d hv hd=>(hrep j v d hv hd).mono x,hat⟩
    ·obtain⟨bk,r,h2⟩:=S.dom i o h l;exact⟨bk,r,h2.mono x (fun b' c' e=>hw.other b' (fun e'=>hne i o c' hi h l (by rw[r,e,e']))) (fun _ _ _ _ _ _ _ _ hh=>hh)⟩
   lt:=fun i bk h=>by simpa using S.lt i bk h
   inj:=fun i i' o o' b1 c1 c2 h l h' l' r r'=>by
    rcases get i o h with⟨e,e1⟩ | ⟨hi,g⟩ <;> rcases get i' o' h' with⟨e',e2⟩ | ⟨hi',g'⟩
    ·rw[e,e']
    ·rw[e]at r ⊢;exact S.inj k i' _ o' b1 c1 c2 hk rfl g' l' r r'
    ·rw[e']at r' ⊢;exact S.inj i k o _ b1 c1 c2 g l hk rfl r r'
    ·exact S.inj i i' o o' b1 c1 c2 g l g' l' r r'
   own:=fun i o b1 c1 h l r=>by
    rw[hw.size];rcases get i o h with⟨rfl,rfl⟩ | ⟨hi,h⟩
    ·exact S.own i _ b1 c1 hk rfl r
    ·exact S.own i o b1 c1 h l r
   mutH:=fun i cs1 b1 c1 o h r=>by
    rcases get i _ h with⟨rfl,h⟩ | ⟨hi,h⟩
    ·exact S.mutH i cs b1 c1 o hk r
    ·exact S.mutH i cs1 b1 c1 o h r
   hb:=S.hb.ext x fun b1 o h=>by rw[hw.size];exact S.hb b1 o h
   hB:=by rw[hw.size];exact S.hB }
 ·subst e;exact hn k _ c hk rfl hr
def z6p{cs:List D}:∀{off:Nat} {vs:List D},(∀ d,d ∈ cs->d.atom=true)->(∀ d,d ∈ vs->d.atom=true)->∀ d,d ∈ setCells cs off vs->d.atom=true
 |off,[],h,_=>h
 |off,v::vs,h,h'=>by
  simp only[setCells];exact z6p (fun d hd=>by
   rcases ft hd with hd | rfl
   ·exact h d hd
   ·exact h' d (by simp)) (fun d hd=>h' d (by simp[hd]))
def z6t(S:SR CL φ B ρ H w.heap os){k b c off:Nat}{cs ds:List D}{vs:List Value}(hk:os[k]? = some (.cells cs))(hr : ρ k=some (.blk b c))(hv:yv φ ρ H w.heap vs ds)(hat:∀ d,d ∈ ds->d.atom=true)(hle:off+ds.length<=cs.length) :
  ∃ w',(ei ⟨b,off,none⟩ vs).run P w=.ok () w'/\(y4m CL φ B ρ H w.heap os ρ H w'.heap (os.set k (.cells (setCells cs off ds)))/\y1v w w'):=by
 obtain⟨arr,el,r1,r2,r3,r4,r5⟩:=S.row hr (by simp[y14,hk]:y14 os k=some cs)
 have hlv:vs.length=ds.length:=hv.1;obtain⟨w',s1,s2⟩:=z2t (P:=P) (b:=b) (el:=el) vs off 0 arr w r1 (by omega) (z5f hv hat)
 refine⟨w',s1,S.write hk hr s2 (by simp[z1u,r2]) (by simp[z1u,z3m];omega) (fun j v d h1 h2=>?_) (z6p r5 hat),s2.still⟩
 have h0:yv φ ρ H w.heap (arr.toList.take cs.length) cs:=⟨by simp;omega,fun j v d hv hd=>by
  rw[aZ]at hv;split at hv
  ·exact r4 j v d (by simpa using hv) hd
  ·simp at hv⟩
 have h3:=h0.setCells off hv;have hj:j<cs.length:=by have:=(ae.1 h2).1;rwa [z3m]at this
 refine h3.2 j v d ?_ h2
 -- the written prefix is the prefix of the written
 have h4:(y7i (arr.toList.take cs.length) off vs)[j]? = (y7i arr.toList off vs)[j]?:=by
  by_cases ho:off<=j/\j<off+vs.length
  ·have e1:=z3l (cs:=arr.toList.take cs.length) (off:=off) (vs:=vs) (j:=j - off) (by simp;omega) (by omega)
   have e2:=z3l (cs:=arr.toList) (off:=off) (vs:=vs) (j:=j - off) (by simp;omega) (by omega)
   rw[show off+(j - off)=j from by omega]at e1 e2
   rw[e1,e2]
  ·rw[z1v (by omega),z1v (by omega),aZ,if_pos hj]
 rw[h4];simpa using h1
def zq7{t c:Nat}{va vx:Value}{a x:D}{os':List Obj}(T:TOk P E τ t c)(S:SR CL φ B ρ H w.heap os)(ha:Rep φ ρ H w.heap va a)(hx:Rep φ ρ H w.heap vx x)(h:y4e E os c a x=some os') :
  ∃ w',(mq t va vx).run P w=.ok () w'/\(y4m CL φ B ρ H w.heap os ρ H w'.heap os'/\y1v w w'):=by
 unfold y4e at h;split at h
 ·rename_i id off;split at h
  ·rename_i cs hos;split at h
   ·rename_i hc;simp at h;subst h;cases ha with
    |loc b cc _ _ hid=>
     have hcl:=hx.cells hc.1;obtain⟨w',h1,h2⟩:=z6t (P:=P) (off:=off) S hos hid hcl (z2s hc.1) (by rw[hc.2.1];exact hc.2.2)
     refine⟨w',?_,h2⟩;unfold mq Go.storeVar;have hs:vx.cells.size=(E.ty c).size:=by have:=hcl.1;rw[hc.2.1]at this;simpa using this
     simp only[dA,ax,aP,au,T.size,hs];simpa using h1
   ·simp at h
  ·simp at h
 ·simp at h
def zc4(TA:y3k P E τ){t c t2 c2 ty id:Nat}{vx vy:Value}{x y:D}{ef:Ef}(T:TOk P E τ t c)(T2:TOk P E τ t2 c2)(S:SR CL φ B ρ H w.heap os)(f:y4g ρ os id)
  (hx:Rep φ ρ H w.heap vx x) (hy:Rep φ ρ H w.heap vy y) (h:y1q E os id c c2 x y=some ef) :
  y42 CL φ B ρ H os w ((bW #[t,t2] ty #[vx,vy]).run P w) ef.d (yk os id ef):=by
 unfold y1q at h;split at h
 ·rename_i e e2 els hk hk2;obtain⟨e',hu,he'⟩:=T.slice hk;obtain⟨e2',hu2,_⟩:=T2.slice hk2;have Te:=TA _ _ he';split at h
  ·rename_i new hnew;obtain⟨a,cap,rfl,hcap,hex,_⟩:=z5v hx;obtain⟨a2,cap2,vln,rfl,hn,hnu,hrd⟩:=z2p (P:=P) S hy hnew;have ln:(yr new).length=new.length*(E.ty e).size:=zr fun x hx=>(hnu x hx).1
   have hlv:vln.length=new.length*(E.ty e).size:=by rw[hn.1,ln]
   have hrd':∀ w1:World,w1.heap=w.heap->(aS (E.ty e).size new.length (.slice a2 new.length cap2)).run P w1=.ok vln.toArray w1:=fun w1 he=>by rw[hrd _ (aj _) w1 he,<- hlv,bh]
   have hn1:=hrd' w rfl;split at h
   ·rename_i h0;simp at h;subst h;have h0':new=[]:=bF.1 h0;subst h0';have hv0:vln=[]:=by simpa using hlv
    subst hv0;have:=z1w (ty:=ty) (sLen:=els.length) (n:=0) (sCap:=cap) (base:=a) (w':=w) hu (z2n hu2) z2r Te.size hn1 (by omega) (by cases a <;> simp[ei])
    exact⟨_,w,ρ,H,this,⟨y4m.refl S,y1v.refl _⟩,hx⟩
   ·rename_i h0;split at h
    ·rename_i hc;obtain⟨hb1,hb2,hz,hfit⟩:=hc;simp at h;subst h;simp only[yk];have hcl:=hex rfl;obtain⟨arr,newCap,w1,⟨he,hsl⟩,hle,hsz,hra,hrun⟩:=zlh (ty:=ty) S Te hu (z2n hu2) z2r hx (zdg hfit) hn hnu hrd' (by omega) hb1 hb2 hz
     have hxu:=zdi hfit;have lx:(yr els).length=els.length*(E.ty e).size:=zr fun x hx=>(hxu x hx).1
     have hfl:(yr els++yr new).length=(els.length+new.length)*(E.ty e).size:=by rw[ao,lx,ln,br]
     rw[z1z]at hra;have hp:=zav S f (el:=e') hra (by rw[hfl,hsz];exact bE _ hle) (fun d hd=>by
      rcases aB.1 hd with hd | hd
      ·exact z1t (fun x hx=>(hxu x hx).2) d hd
      ·exact z1t (fun x hx=>(hnu x hx).2) d hd)
     rw[<- he]at hp;refine⟨_,_,_,_,hrun,⟨by rw[he]at hp ⊢;exact hp,hsl.os,hsl.tape,hsl.out,hsl.dr⟩,.sl _ _ _ _ _ _ w.heap.size arr.size newCap _ (by simp[upd]) hle (fun _=>rfl) (fun _=>⟨rfl,rfl,hsz⟩)⟩
    ·simp at h
  ·simp at h
 ·simp at h
end
end Dv
namespace Dv
open Go (Value Program World Act Oper Operand Code)
section
variable{P:Program}{E:Env}{CL:y21}{φ : Phi}{τ : Phi}{B:Nat}{ρ : Rho}{H:HS}{os:List Obj}{w:World}
def SR.wrote_free(S:SR CL φ B ρ H w.heap os){w':World}{b el:Nat}{arr':Array Value}(hw:yaa w w' b arr' el)(hno:∀(i:Nat) o c,os[i]? = some o->o.live=true -> ρ i ≠ some (.blk b c))(hH:∀ o,¬ H b o) :
  SR CL φ B ρ H w'.heap os/\Ext ρ ρ H H w.heap w'.heap:=by
 have x:Ext ρ ρ H H w.heap w'.heap:=⟨fun _ _ h=>h,fun _ _ h=>h,fun b' o hh=>by
  unfold cellOf;rw[hw.other b' (fun e=>hH o (e ▸ hh))]⟩
 exact⟨{
  dom:=fun i o h l=>by obtain⟨bk,r,h2⟩:=S.dom i o h l;exact⟨bk,r,h2.mono x (fun b' c' e=>hw.other b' (fun e'=>hno i o c' h l (by rw[r,e,e']))) (fun _ _ _ _ _ _ _ _ hh=>hh)⟩
  lt:=S.lt
  inj:=S.inj
  own:=fun i o b1 c1 h l r=>by rw[hw.size];exact S.own i o b1 c1 h l r
  mutH:=S.mutH
  hb:=S.hb.ext x fun b1 o h=>by rw[hw.size];exact S.hb b1 o h
  hB:=by rw[hw.size];exact S.hB },x⟩
def zwm{t t2 ty e' e2' e n m:Nat}{base a2:Option cF}{sCap cap2:Nat}{xs ys:List D}{vlo vln:List Value}(Te:TOk P E τ e' e)
  (hu:P.underlying t=some (.slice e')) (hu2:P.underlying t2=some (.slice e2')) (o2:yv φ ρ H w.heap vlo xs) (n2:yv φ ρ H w.heap vln ys)
  (ho':∀ w1:World,w1.heap=w.heap->(aS (E.ty e).size n (.slice base n sCap)).run P w1=.ok vlo.toArray w1)
  (hn':∀ w1:World,w1.heap=w.heap->(aS (E.ty e).size m (.slice a2 m cap2)).run P w1=.ok vln.toArray w1)
  (lo:vlo.length=n*(E.ty e).size) (ln:vln.length=m*(E.ty e).size) (hgrow:sCap<n+m)
  (hb1:(n+m)*((E.ty e).bytes+1)<=yg) (hb2:(E.ty e).bytes<=65536) (hz:(y28 E e).isSome=true) :
  ∃(arr:Array Value) (newCap:Nat) (w1:World),(w1.heap=w.heap/\y1v w w1)/\n+m<=newCap/\arr.size=newCap*(E.ty e).size/\yv φ ρ H w.heap (arr.toList.take (xs++ys).length) (xs++ys) /\
   (bW #[t,t2] ty #[.slice base n sCap,.slice a2 m cap2]).run P w=.ok (.slice (some ⟨w.heap.size,0,none⟩) (n+m) newCap) { w1 with heap:=w1.heap.push (.cells arr e') }:=by
 obtain⟨z,hzz⟩:=gI.1 hz;obtain⟨inf,hi,hsz,hby,_⟩:=Te.info;obtain⟨zv,e1,e2,_,e4,_⟩:=z2x (w:=w) (φ:=φ) (ρ:=ρ) (H:=H) Te hzz;have hz':∀ w1:World,(dt e').run P w1=.ok zv w1:=by
  intro w1;have h1:(dt e').run P w=.ok zv w:=e1;unfold dt at h1 ⊢;simp only[ax,z1n hi,au]at h1 ⊢;cases hzero:inf.zero with
  |none=>simp[hzero]at h1
  |some q=>simp[hzero]at h1 ⊢;exact h1
 obtain⟨newCap,w1,he,hle,hrun⟩:=z5j (ty:=ty) (base:=base) (sCap:=sCap) hu (z2n hu2) z2r Te.size hi hby hz' hgrow hb1 hb2 ho' hn';have hzs:zv.cells.size=(E.ty e).size:=by have:=e2.1;rw[e4]at this;simpa using this
 have hfl:(xs++ys).length=(n+m)*(E.ty e).size:=by rw[ao,<- o2.1,<- n2.1,lo,ln,br]
 refine⟨vlo.toArray++vln.toArray++cm zv.cells (newCap - (n+m)),newCap,w1,he,hle,?_,?_,hrun⟩
 ·simp only[gY,bQ,cm,nb,mo,lo,ln,hzs];rw[<- br,<- br];congr 1;omega
 ·have:(vlo.toArray++vln.toArray++cm zv.cells (newCap - (n+m))).toList.take (xs++ys).length=vlo++vln:=by simp only[cB,bi];rw[<- bi,bN (by rw[hfl];simp[lo,ln,br]),bd (by rw[hfl];simp[lo,ln,br])]
  rw[this];exact o2.append n2
def zmg(o:Obj):y2e os os.length o=os++[o]:=by simp[y2e]
def zk6(TA:y3k P E τ){t c t2 c2 ty:Nat}{vx vy:Value}{x y d:D}{os':List Obj}(T:TOk P E τ t c)(T2:TOk P E τ t2 c2)(S:SR CL φ B ρ H w.heap os)
  (hx:Rep φ ρ H w.heap vx x) (hy:Rep φ ρ H w.heap vy y) (h:y3b E os c c2 x y=some (d,os')) :
  y42 CL φ B ρ H os w ((bW #[t,t2] ty #[vx,vy]).run P w) d os':=by
 unfold y3b at h;split at h
 ·rename_i e e2 k len sz ag hk hk2;obtain⟨e',hu,he'⟩:=T.slice hk;obtain⟨e2',hu2,_⟩:=T2.slice hk2;have Te:=TA _ _ he';split at h
  ·rename_i new hnew;obtain⟨a2,cap2,vln,rfl,hn,hnu,hrd⟩:=z2p (P:=P) S hy hnew;have ln:(yr new).length=new.length*(E.ty e).size:=zr fun x hx=>(hnu x hx).1
   have hlv:vln.length=new.length*(E.ty e).size:=by rw[hn.1,ln]
   have hn':∀ w1:World,w1.heap=w.heap->(aS (E.ty e).size new.length (.slice a2 new.length cap2)).run P w1=.ok vln.toArray w1:=fun w1 he=>by rw[hrd _ (aj _) w1 he,<- hlv,bh]
   split at h
   ·rename_i cs hos;have hx0:=hx;cases hx with
    |sl _ _ _ _ _ _ b cc cap a hid hl ha hc=>
     obtain⟨_,rfl,hcap⟩:=hc rfl;split at h
     ·rename_i h0;simp at h;obtain⟨rfl,rfl⟩:=h;have h0':new=[]:=bF.1 h0;subst h0';have hv0:vln=[]:=by simpa using hlv
      subst hv0;have:=z1w (ty:=ty) (sLen:=len) (n:=0) (sCap:=cap) (base:=some ⟨b,0,none⟩) (w':=w) hu (z2n hu2) z2r Te.size (hn' w rfl) (by omega) (by simp[ei])
      exact⟨_,w,ρ,H,this,⟨y4m.refl S,y1v.refl _⟩,hx0⟩
     ·rename_i h0;have core:∀ cs0:List D,(len+new.length)*((E.ty e).bytes+1)<=yg->(E.ty e).bytes<=65536->(y28 E e).isSome=true->sz=(E.ty e).size->cs0.length=len*sz->cs0.length<=cs.length->(∀ j,j<cs0.length->cs0[j]? = cs[j]?) ->
        y42 CL φ B ρ H os w ((bW #[t,t2] ty #[.slice (some ⟨b,0,none⟩) len cap,.slice a2 new.length cap2]).run P w) (.sl os.length 0 (len+new.length) (E.ty e).size (E.ty e).ag true) (os.set k .dead++[.cells (cs0++yr new)]):=by
       intro cs0 hb1 hb2 hz hsz hcs hle0 hat0;subst hsz;obtain⟨arr,el,r1,r2,r3',r4',r5'⟩:=S.row hid (by simp[y14,hos]:y14 os k=some cs)
       have r3:cs0.length<=arr.size:=aM hle0 r3';have r4:∀(j:Nat) (v:Value) (d:D),arr[j]? = some v->cs0[j]? = some d->Rep φ ρ H w.heap v d:=fun j v d hv hd=>r4' j v d hv (by rw[<- hat0 j (ae.1 hd).1];exact hd)
       have r5:∀ d,d ∈ cs0->d.atom=true:=fun d hd=>by obtain⟨j,hj⟩:=List.mem_iff_getElem?.1 hd;rw[hat0 j (ae.1 hj).1]at hj;exact r5' d (bA hj)
       have f:=S.free;have hS0:=S.kill k;have f0:y4g ρ (os.set k .dead) os.length:=f.kill;have hno:∀(i:Nat) o c',(os.set k .dead)[i]? = some o->o.live=true -> ρ i ≠ some (.blk b c'):=by
        intro i o c' h1 l1 r;rw[bw]at h1;split at h1
        ·split at h1
         ·simp at h1;subst h1;simp[Obj.live]at l1
         ·simp at h1
        ·rename_i hne;exact hne (S.inj k i _ o b cc c' hos rfl h1 l1 hid r)
       have hHb:∀ o,¬ H b o:=fun o=>S.mutH k cs b cc o hos hid
       have hrow0:yv φ ρ H w.heap (arr.toList.take cs0.length) cs0:=⟨by simp;omega,fun j v d hv hd=>by
        rw[aZ]at hv;split at hv
        ·exact r4 j v d (by simpa using hv) hd
        ·simp at hv⟩
       have hat:∀ d,d ∈ cs0++yr new->d.atom=true:=fun d hd=>by
        rcases aB.1 hd with hd | hd
        ·exact r5 d hd
        ·exact z1t (fun x hx=>(hnu x hx).2) d hd
       have hlen2:(cs0++yr new).length=(len+new.length)*(E.ty e).size:=by rw[ao,hcs,ln,br]
       by_cases hg:cap<len+new.length
       ·-- a new array
        have ho':∀ w1:World,w1.heap=w.heap->(aS (E.ty e).size len (.slice (some ⟨b,0,none⟩) len cap)).run P w1=.ok (arr.toList.take cs0.length).toArray w1:=by
         intro w1 he;simp only[aS];refine z37 (by rw[bc,<- hcs];simp;omega) (fun j v hv=>?_)
         rw[aZ]at hv;split at hv
         ·rw[he];simp[cellOf,r1];simpa using hv
         ·simp at hv
        obtain⟨arr2,newCap,w1,⟨he,hsl⟩,hle,hsz,hra,hrun⟩:=zwm (ty:=ty) (a2:=a2) (cap2:=cap2) Te hu hu2 hrow0 hn ho' hn' (by rw[hrow0.1,hcs]) hlv hg hb1 hb2 hz
        have hp:=zav hS0 f0 (el:=e') hra (by rw[hlen2,hsz];exact bE _ hle) hat
        have hp2:=hp.of_kill;rw[show y2e (os.set k .dead) os.length (.cells (cs0++yr new))=os.set k .dead++[.cells (cs0++yr new)]from by simp[y2e]]at hp2
        exact⟨_,_,_,_,hrun,⟨by rw[he];exact hp2,hsl.os,hsl.tape,hsl.out,hsl.dr⟩,.sl _ _ _ _ _ _ w.heap.size arr2.size newCap _ (by simp[upd]) hle (fun _=>rfl) (fun _=>⟨rfl,rfl,hsz⟩)⟩
       ·-- in the room behind it
        have hroom:len*(E.ty e).size+vln.length<=arr.size:=by rw[r2,hcap,hlv,<- br];exact bE _ (by omega)
        obtain⟨w',s1,s2⟩:=z2t (P:=P) (b:=b) (el:=el) vln (len*(E.ty e).size) 0 arr w r1 hroom (z5f hn (z1t fun x hx'=>(hnu x hx').2))
        have hrun:=z1w (ty:=ty) (sLen:=len) (n:=new.length) (sCap:=cap) (base:=some ⟨b,0,none⟩) (w':=w') hu (z2n hu2) z2r Te.size (hn' w rfl) (by omega) (by simp only[z1p,bM];exact s1)
        obtain⟨S1,x1⟩:=hS0.wrote_free s2 hno hHb;have own:=S.own k _ b cc hos rfl hid;have f1:y4g ρ (os.set k .dead) os.length:=f0;have x2:=f1.ext (.blk b cc) H w'.heap;have S2:=S1.add f1 (o:=.cells (cs0++yr new)) (bk:=.blk b cc) ⟨b,cc,rfl,_,el,s2.at_,by simp[z1u,r2],by simp only[bQ,z1u,cW];rw[hlen2,r2,hcap];exact bE _ (by omega),fun j v d hv hd=>?_,hat⟩
         (fun b' c' e=>by simp at e;obtain⟨rfl,rfl⟩:=e;rw[s2.size];exact own) (fun b' c' e i o' c2 h1 l1 r=>by simp at e;obtain⟨rfl,rfl⟩:=e;exact hno i o' c2 h1 l1 r)
         (fun cs2 b' c' _ e j=>by simp at e;obtain⟨rfl,rfl⟩:=e;exact hHb j)
        ·rw[show y2e (os.set k .dead) os.length (.cells (cs0++yr new))=os.set k .dead++[.cells (cs0++yr new)]from by simp[y2e]]at S2
         refine⟨_,w',upd ρ os.length (.blk b cc),H,hrun,⟨⟨x1.trans x2,S2,by rw[s2.size];exact aj _,fun b' hb' hn2=>s2.other b' (fun e=>?_),fun _ _ h=>.inl h,y4n.at s2.at_ (by intro arr el fr h;cases h;rfl) s2.other,fun i bk h=>by have:=z97 f1 (o:=.cells (cs0++yr new)) rfl i bk h;rwa [show y2e (os.set k .dead) os.length (.cells (cs0++yr new))=os.set k .dead++[.cells (cs0++yr new)]from by simp[y2e]]at this,rbU (.inl ⟨k,cc,hid⟩),hnS⟩,s2.still⟩,.sl _ _ _ _ _ _ b cc cap _ (by simp[upd]) (by omega) (fun _=>rfl) (fun _=>⟨rfl,rfl,hcap⟩)⟩
         subst e;exact hn2 k _ cc hos rfl hid
        ·-- what the row holds
         have hj:=(ae.1 hd).1;refine Rep.mono (x1.trans x2) ?_
         by_cases hjc:j<cs0.length
         ·rw[aD hjc]at hd;simp only[ca]at hv;rw[z1v (.inl (by rw[<- hcs];exact hjc))]at hv
          exact r4 j v d (by simpa using hv) hd
         ·have hjc:cs0.length<=j:=by omega
          rw[aH hjc]at hd;simp only[ca,dY]at hv;have hjv:j - cs0.length<vln.length:=by rw[hn.1];exact(ae.1 hd).1
          have h5:=z3l (cs:=arr.toList) (off:=len*(E.ty e).size) (vs:=vln) (j:=j - cs0.length) (by simpa using hroom) hjv
          rw[<- hcs,show cs0.length+(j - cs0.length)=j from by omega,hcs]at h5
          rw[h5]at hv;exact hn.2 _ v d hv (by rw[<- hcs];exact hd)
      split at h
      ·rename_i hcond;obtain⟨hb1,hb2,hz,hsz,hcs⟩:=hcond;simp at h;obtain⟨rfl,rfl⟩:=h;exact core cs hb1 hb2 hz hsz hcs (aj _) (fun _ _=>rfl)
      ·split at h
       ·rename_i hcond;obtain⟨hb1,hb2,hz,hsz,hcs⟩:=hcond;simp at h;obtain⟨rfl,rfl⟩:=h;exact core (cs.take (len*sz)) hb1 hb2 hz hsz (by rw[bc];omega) (by rw[bc];omega) (fun j hj=>by rw[aZ,if_pos (by rw[bc]at hj;omega)])
       ·simp at h
   ·simp at h
  ·simp at h
 ·rename_i e e2 els hk hk2
  -- as the making form
  have hM:∀ ef,y1q E os os.length c c2 (.imm .exact els) y=some ef->y42 CL φ B ρ H os w ((bW #[t,t2] ty #[vx,vy]).run P w) ef.d (yk os os.length ef):=
   fun ef hef=>zc4 TA T T2 S S.free hx hy hef
  unfold y1q at hM;simp only[hk,hk2]at hM;split at h
  ·rename_i new hnew;simp only[hnew]at hM;split at h
   ·rename_i h0;simp at h;obtain⟨rfl,rfl⟩:=h;have:=hM ⟨.imm .exact els,none,none⟩ (by rw[if_pos h0])
    simpa[yk]using this
   ·rename_i h0;rw[if_neg h0]at hM;split at h
    ·rename_i hc;rw[if_pos hc]at hM;simp at h;obtain⟨rfl,rfl⟩:=h;have:=hM _ rfl;simpa[yk,zmg]using this
    ·simp at h
  ·simp at h
 ·simp at h
end
end Dv
namespace Dv
open Go (Value Program World Act Oper Operand Code)
section
variable{P:Program}{E:Env}{CL:y21}{φ : Phi}{τ : Phi}{B:Nat}{ρ : Rho}{H:HS}{os:List Obj}{w:World}
def zxu(TA:y3k P E τ){t c t2 c2 ty:Nat}{vx vy:Value}{x y d:D}{os':List Obj}(T:TOk P E τ t c)(S:SR CL φ B ρ H w.heap os)
  (hx:Rep φ ρ H w.heap vx x) (hy:Rep φ ρ H w.heap vy y) (h:y7d E os c c2 x y=some (d,os')) :
  y42 CL φ B ρ H os w ((ik #[t,t2] ty #[vx,vy]).run P w) d os':=by
 unfold y7d at h;split at h
 ·rename_i e e2 id off len sz ag gr hk hk2;obtain⟨e',hu,he'⟩:=T.slice hk;have Te:=TA _ _ he';split at h
  ·rename_i cs new hos hnew;split at h
   ·rename_i hc;obtain⟨rfl,hle⟩:=hc;simp at h;obtain⟨rfl,rfl⟩:=h;obtain⟨a2,cap2,vln,rfl,hn,hnu,hrd⟩:=z2p (P:=P) S hy hnew;cases hx with
    |sl _ _ _ _ _ _ b cc cap a hid hl ha hc=>
     have hm:dw new.length len<=new.length:=Nat.min_le_left _ _;have hm2:dw new.length len<=len:=Nat.min_le_right _ _;have hmu:∀ x,x ∈ new.take (dw new.length len)->x.cellsL.length=(E.ty e).size/\x.storable=true:=fun x hx=>hnu x (dM hx)
     have hfl:(yr (new.take (dw new.length len))).length=dw new.length len*(E.ty e).size:=by rw[zr fun x hx=>(hmu x hx).1,bc,Nat.min_eq_left hm]
     have hr:yv φ ρ H w.heap (vln.take (dw new.length len*(E.ty e).size)) (yr (new.take (dw new.length len))):=by
      have h1:=hn.take (dw new.length len*(E.ty e).size);have h2:(yr new).take (dw new.length len*(E.ty e).size)=yr (new.take (dw new.length len)):=by
       have:yr new=yr (new.take (dw new.length len))++yr (new.drop (dw new.length len)):=by rw[<- z1z,bV]
       rw[this,bN (by rw[hfl];exact aj _),bd (by rw[hfl];exact aj _)]
      rwa [h2]at h1
     have hrun0:=hrd _ hm w rfl;have hle2:off+(yr (new.take (dw new.length len))).length<=cs.length:=by rw[hfl];have:=bE (E.ty e).size hm2;omega
     by_cases h0:len=0
     ·-- nothing is copied
      subst h0;have hz:dw new.length 0=0:=ld _;have hset:os.set id (.cells (setCells cs off (yr (new.take (dw new.length 0)))))=os:=by
       rw[hz];simp[yr,setCells];apply cZ;intro i;rw[bw];split
       ·rename_i e1;subst e1;have:=(ae.1 hos).1;simp[this];exact((ae.1 hos).2).symm
       ·rfl
      refine⟨.int .i64 ((dw new.length 0:Nat):Int),w,ρ,H,?_,⟨by rw[hset];exact y4m.refl S,y1v.refl _⟩,.int _ _⟩
      unfold ik;simp only[ca,cu,df];rw[hz]at hrun0 ⊢;simp only[ax,run_underlying hu,au,fF,aP,Te.size];simp only[show dw new.length 0=0 from ld _]
      rw[hrun0];cases a <;> simp[ei,ju]
     ·obtain⟨w',s1,s2⟩:=z6t (P:=P) S hos hid hr (z1t fun x hx=>(hmu x hx).2) hle2
      refine⟨.int .i64 ((dw new.length len:Nat):Int),w',ρ,H,?_,s2,.int _ _⟩;unfold ik;rw[ha h0];simp only[ca,cu,df];simp only[ax,run_underlying hu,au,fF,aP,Te.size,hrun0,s1];simp[ju]
   ·simp at h
  ·simp at h
 ·rename_i e e2 sp hk hk2;obtain⟨e',hu,he'⟩:=T.slice hk;have Te:=TA _ _ he';split at h
  case h_2=>simp at h
  rename_i new hnew;simp at h;obtain⟨rfl,rfl⟩:=h;obtain⟨a,cap,rfl,_⟩:=z5v hx;obtain⟨a2,cap2,vln,rfl,hn,hnu,hrd⟩:=z2p (P:=P) S hy hnew;obtain⟨n2,hn2⟩:∃ n2,n2=new.length:=⟨_,rfl⟩;rw[<- hn2];refine⟨.int .i64 0,w,ρ,H,?_,⟨y4m.refl S,y1v.refl _⟩,.int _ _⟩;unfold ik;simp only[ca,cu,df];simp only[ax,run_underlying hu,au,fF,aP,Te.size];simp only[aY,show dw n2 0=0 from ld _]
  cases a <;> cases a2 <;> simp[aS,iA,fA,ei,ju]
 ·simp at h
def z1a{hp:y1x}{b o:Nat}(h:∀ a el fr,hp[b]? ≠ some (.cells a el fr)):cellOf hp b o=none:=by
 unfold cellOf;split
 ·rename_i hh;exact absurd hh (h _ _ _)
 ·rfl
structure y7n(w w':World)(b:Nat)(o:eI):Prop where
 at_:w'.heap[b]? = some o
 other:∀ b',b' ≠ b->w'.heap[b']? = w.heap[b']?
 size:w'.heap.size=w.heap.size
 still:y1v w w'
def SR.writeO(S:SR CL φ B ρ H w.heap os){w':World}{k b c:Nat}{o1:eI}{ob ob':Obj}(hk:os[k]? = some ob)(hl:ob.live=true)(hr : ρ k=some (.blk b c))(hw:y7n w w' b o1)
  (y5c:∀ a el fr,w.heap[b]? ≠ some (.cells a el fr)) (hnew:∀ a el fr,o1 ≠ .cells a el fr) (hob:y6x CL φ ρ H w'.heap (.blk b c) ob') (hnc:∀ cs,ob' ≠ .cells cs) :
  y4m CL φ B ρ H w.heap os ρ H w'.heap (os.set k ob'):=by
 have own:=S.own k _ b c hk hl hr;have hlt:=(ae.1 hk).1;have x:Ext ρ ρ H H w.heap w'.heap:=⟨fun _ _ h=>h,fun _ _ h=>h,fun b' o hh=>by
  by_cases e:b'=b
  ·subst e;rw[z1a y5c,z1a (by rw[hw.at_];intro a el fr h;simp at h;exact hnew _ _ _ h)]
  ·unfold cellOf;rw[hw.other b' e]⟩
 have get:∀(i:Nat) o,(os.set k ob')[i]? = some o->(i=k/\o=ob')\/(i ≠ k/\os[i]? = some o):=by
  intro i o h;rw[bw]at h;split at h
  ·rename_i e;subst e;simp[hlt]at h;exact .inl ⟨rfl,h.symm⟩
  ·rename_i e;exact .inr ⟨fun e'=>e e'.symm,h⟩
 have hne:∀(i:Nat) o c',i ≠ k->os[i]? = some o->o.live=true -> ρ i ≠ some (.blk b c'):=fun i o c' hi h l r=>hi (S.inj i k o _ b c' c h l hk hl r hr)
 refine⟨x,?_,by rw[hw.size];exact aj _,fun b' _ hn=>hw.other b' (fun e=>?_),fun _ _ h=>.inl h,y4n.at hw.at_ (by intro arr el fr h;exact absurd h (hnew _ _ _)) hw.other,fun _ _ h=>.inl h,rbS,hnS⟩
 ·exact {
   dom:=fun i o h l=>by
    rcases get i o h with⟨rfl,rfl⟩ | ⟨hi,h⟩
    ·exact⟨_,hr,hob⟩
    ·obtain⟨bk,r,h2⟩:=S.dom i o h l;exact⟨bk,r,h2.mono x (fun b' c' e=>hw.other b' (fun e'=>hne i o c' hi h l (by rw[r,e,e']))) (fun _ _ _ _ _ _ _ _ hh=>hh)⟩
   lt:=fun i bk h=>by simpa using S.lt i bk h
   inj:=fun i i' o o' b1 c1 c2 h l h' l' r r'=>by
    rcases get i o h with⟨e,e1⟩ | ⟨hi,g⟩ <;> rcases get i' o' h' with⟨e',e2⟩ | ⟨hi',g'⟩
    ·rw[e,e']
    ·rw[e]at r ⊢;exact S.inj k i' _ o' b1 c1 c2 hk hl g' l' r r'
    ·rw[e']at r' ⊢;exact S.inj i k o _ b1 c1 c2 g l hk hl r r'
    ·exact S.inj i i' o o' b1 c1 c2 g l g' l' r r'
   own:=fun i o b1 c1 h l r=>by
    rw[hw.size];rcases get i o h with⟨rfl,rfl⟩ | ⟨hi,h⟩
    ·exact S.own i _ b1 c1 hk hl r
    ·exact S.own i o b1 c1 h l r
   mutH:=fun i cs1 b1 c1 o h r=>by
    rcases get i _ h with⟨_,h⟩ | ⟨hi,h⟩
    ·exact absurd h.symm (hnc _)
    ·exact S.mutH i cs1 b1 c1 o h r
   hb:=S.hb.ext x fun b1 o h=>by rw[hw.size];exact S.hb b1 o h
   hB:=by rw[hw.size];exact S.hB }
 ·subst e;exact hn k _ c hk hl hr
def z2c{b:Nat}{o o':eI}(hb:w.heap[b]? = some o)(hnc:∀ a el fr,o ≠ .cells a el fr):∃ w',(Go.setObj b o').run P w=.ok () w'/\y7n w w' b o':=by
 have hlt:=z26 hb;refine⟨{ w with heap:=w.heap.setIfInBounds b o' },?_,by simp[hlt],fun b' hne=>by simp[Array.getElem?_setIfInBounds,dF hne],by simp,rfl,rfl,rfl,aj _⟩
 unfold Go.setObj;simp only[e8,hb]
def z52{k v:D}:∀{es es':List (D × D)},y1n k v es=some es'->∃ r,y17 k es=some r/\(match y1o k es 0 with
  |some i=>es'=es.set i (k,v)/\i<es.length/\r.isSome=true
  |none=>es'=es++[(k,v)]/\r=none):=by
 have key:∀(es es':List (D × D)) (n:Nat),y1n k v es=some es'->∃ r,y17 k es=some r/\(match y1o k es n with
  |some i=>n<=i/\es'=es.set (i - n) (k,v)/\i - n<es.length/\r.isSome=true
  |none=>es'=es++[(k,v)]/\r=none):=by
  intro es
  induction es with
  |nil=>intro es' n h;simp[y1n]at h;subst h;exact⟨none,rfl,rfl,rfl⟩
  |cons e es ih=>
   intro es' n h;simp only[y1n]at h;cases hb:k.eqb e.1 with
   |none=>simp[hb]at h
   |some b=>cases b with
    |true=>simp[hb]at h;subst h;exact⟨some e.2,by simp[y17,hb],by simp[y1o,hb]⟩
    |false=>
     simp[hb]at h;obtain⟨es1,h1,rfl⟩:=h;obtain⟨r,h2,h3⟩:=ih es1 (n+1) h1;refine⟨r,by simp[y17,hb,h2],?_⟩
     simp only[y1o,hb];cases hi:y1o k es (n+1)with
     |none=>simp only[hi]at h3 ⊢;rw[h3.1];exact⟨rfl,h3.2⟩
     |some i=>
      simp only[hi]at h3 ⊢;obtain⟨h4,h5,h6,h7⟩:=h3;refine⟨by omega,?_,by simp;omega,h7⟩
      rw[h5,show i - n=(i - (n+1))+1 from by omega,i6]
 intro es es' h;obtain⟨r,h1,h2⟩:=key es es' 0 h;refine⟨r,h1,?_⟩;cases hi:y1o k es 0 with
 |none=>simp only[hi]at h2 ⊢;exact h2
 |some i=>simp only[hi]at h2 ⊢;simpa using h2.2
end
end Dv
namespace Dv
open Go (Value Program World Act Oper Operand Code)
section
variable{P:Program}{E:Env}{CL:y21}{φ : Phi}{τ : Phi}{B:Nat}{ρ : Rho}{H:HS}{os:List Obj}{w:World}
def zc2{a b:D}(h:y2a a b=some true):a=b:=by
 unfold y2a at h;split at h
 ·simp at h;rw[h]
 ·split at h
  ·rename_i e;simp at h;rw[e,h]
  ·simp at h
 ·simp at h;rw[h]
 ·simp at h
def zly:∀{xs ys:List D},eqL xs ys=some true->xs=ys
 |[],[],_=>rfl
 |[],_::_,h=>by simp[eqL]at h
 |_::_,[],h=>by simp[eqL]at h
 |x::xs,y::ys,h=>by
  simp only[eqL]at h;cases e1:y2a x y with
  |none=>simp[e1]at h
  |some p=>cases e2:eqL xs ys with
   |none=>simp[e1,e2]at h
   |some q=>simp[e1,e2]at h;obtain⟨rfl,rfl⟩:=h;rw[zc2 e1,zly e2]
def zxe{k d:D}(h:k.eqb d=some true):k=d:=by
 unfold D.eqb at h;split at h
 ·rw[zly h]
 ·exact zc2 h
def z2o{k:D}:∀{es:List (D × D)} {n i:Nat},y1o k es n=some i->n<=i /\ ∃ p,es[i - n]? = some p/\p.1=k
 |[],n,i,h=>by simp[y1o]at h
 |e::es,n,i,h=>by
  simp only[y1o]at h;split at h
  ·rename_i hb;simp at h;subst h;exact⟨aj _,e,by simp,(zxe hb).symm⟩
  ·obtain⟨h1,p,h2,h3⟩:=z2o h;exact⟨by omega,p,by rw[show i - n=(i - (n+1))+1 from by omega];simpa using h2,h3⟩
def y7e.push{hp:y1x}{me:List bC}{es:List (D × D)}{e:bC}{p:D × D}(h:y7e φ ρ H hp me es)(he:Rep φ ρ H hp e.key p.1/\Rep φ ρ H hp e.val p.2):y7e φ ρ H hp (me++[e]) (es++[p]):=by
 refine⟨by simp[h.1],fun j e' p' h1 h2=>?_⟩
 by_cases hj:j<me.length
 ·rw[aD hj]at h1;rw[aD (h.1 ▸ hj)]at h2;exact h.2 j e' p' h1 h2
 ·have hj:me.length<=j:=by omega
  rw[aH hj]at h1;rw[aH (h.1 ▸ hj),<- h.1]at h2;cases hk:j - me.length with
  |zero=>rw[hk]at h1 h2;simp at h1 h2;rw[<- h1,<- h2];exact he
  |succ n=>rw[hk]at h1;simp at h1
def y7e.mapAt{hp:y1x}{b:Nat}{me:Array bC}{clock:Nat}{es:List (D × D)}(hb:hp[b]? = some (.map me clock))(h:y7e φ ρ H hp me.toList es)(hs:y3s me clock):y81 φ ρ H hp b es:=
 ⟨me,clock,hb,by simpa using h.1,fun j e p he hp'=>h.2 j e p (by simpa using he) hp',hs⟩
def y3s.push{me:Array bC}{clock:Nat}{k v:Value}(h:y3s me clock):y3s (me.push { key:=k,val:=v,born:=clock }) (clock+1):=by
 refine⟨fun x hx=>?_,?_⟩
 ·simp only[lP,aB,bz]at hx;rcases hx with hx | rfl
  ·have:=h.1 x hx;omega
  ·exact Nat.lt_succ_self _
 ·simp only[lP,List.map_append,al,List.map_nil];rw[List.nodup_append];refine⟨h.2,by simp,fun a ha b hb e=>?_⟩
  obtain⟨x,hx,rfl⟩:=aL.1 ha;simp only[bz]at hb;have:=h.1 x hx;omega
def y3s.modify{me:Array bC}{clock i:Nat}{f:bC->bC}(hf:∀ e,(f e).born=e.born)(h:y3s me clock):y3s (me.modify i f) clock:=by
 have e:(me.modify i f).toList.map (·.born)=me.toList.map (·.born):=by
  refine cZ fun j=>?_
  simp only[ch,fh,cC];split
  ·cases me[j]? with
   |none=>rfl
   |some x=>simp[hf]
  ·rfl
 refine⟨fun x hx=>?_,by rw[e];exact h.2⟩
 have:x.born ∈ (me.modify i f).toList.map (·.born):=aL.2 ⟨x,hx,rfl⟩;rw[e]at this;obtain⟨y,hy,e2⟩:=aL.1 this;have:=h.1 y hy;omega
def y7e.mono{ρ':Rho}{H':HS}{hp hp':y1x}(x:Ext ρ ρ' H H' hp hp'){me:List bC}{es:List (D × D)}(h:y7e φ ρ H hp me es):y7e φ ρ' H' hp' me es:=
 ⟨h.1,fun j e p he hp'=>⟨(h.2 j e p he hp').1.mono x,(h.2 j e p he hp').2.mono x⟩⟩
def z96(a b:Value):∃ v w',(kg a b).run P w=.ok v w'/\(v=a\/v=b)/\(w'.heap=w.heap/\y1v w w'):=by
 unfold kg
 by_cases h:Go.Instr.sameBits 10000 a b=true
 ·exact⟨b,w,by simp[h],.inr rfl,rfl,y1v.refl _⟩
 ·simp only[if_neg h,ax,nZ,ux];refine⟨_,_,rfl,?_,rfl,rfl,rfl,rfl,fa _⟩;split
  ·exact .inr rfl
  ·exact .inl rfl
def znj(TA:y3k P E τ){t c:Nat}{vm vk vv:Value}{m k v:D}{os':List Obj}(T:TOk P E τ t c)(S:SR CL φ B ρ H w.heap os)(hm:Rep φ ρ H w.heap vm m)(hk:Rep φ ρ H w.heap vk k)(hv:Rep φ ρ H w.heap vv v)
  (h:y39 E os c m k v=some os'):∃ w',(i9 t vm vk vv).run P w=.ok () w'/\(y4m CL φ B ρ H w.heap os ρ H w'.heap os'/\y1v w w'):=by
 unfold y39 at h;split at h
 ·rename_i kt e id hkk;have hu:=T.und;rw[hkk]at hu;obtain⟨k',e',hu,hk',he'⟩:=hu;split at h
  ·rename_i hc;split at h
   ·rename_i es hos;cases hm with
    |map b cc _ hid=>
     obtain⟨me,clock,h1,h2,hst⟩:=(S.mapAt hid hos).list;cases hp:y1n k v es with
     |none=>simp[hp]at h
     |some es1=>
      simp[hp]at h;subst h;obtain⟨r,hf,hs⟩:=z52 hp;obtain⟨x,f1,f2,f3⟩:=z71 (TA _ _ hk') hk hc.1 h2 hf;have hck:=z61 (w:=w) (TA _ _ hk') hk hc.1 false;have hg:(fc b).run P w=.ok (.map me clock) w:=by simp[fc,e8,h1]
      have hnc:∀ a el fr,(Go.Obj.map me clock) ≠ .cells a el fr:=fun _ _ _ h=>by cases h
      -- what is behind the write
      have fin:∀(w1 w2:World) (me':Array bC) (clock':Nat),(w1.heap=w.heap/\y1v w w1)->y7n w1 w2 b (.map me' clock')->y7e φ ρ H w.heap me'.toList es1->y3s me' clock' ->
        (y4m CL φ B ρ H w.heap os ρ H w2.heap (os.set id (.map es1))/\y1v w w2):=by
       intro w1 w2 me' clock' ⟨hw1,hsl⟩ hw2 hr hst2;have hw:y7n w w2 b (.map me' clock'):=⟨hw2.at_,fun b' hb'=>by rw[hw2.other b' hb',hw1],by rw[hw2.size,hw1],hsl.trans hw2.still⟩
       have x:Ext ρ ρ H H w.heap w2.heap:=⟨fun _ _ h=>h,fun _ _ h=>h,fun b' o _=>by
        by_cases e:b'=b
        ·subst e;rw[z1a (hp:=w.heap) (by rw[h1];intro a el fr h;cases h),z1a (by rw[hw.at_];intro a el fr h;cases h)]
        ·unfold cellOf;rw[hw.other b' e]⟩
       refine⟨?_,hw.still⟩;exact S.writeO hos rfl hid hw (by rw[h1];intro a el fr h;cases h) (fun _ _ _ h=>by cases h) ⟨b,cc,rfl,(hr.mono x).mapAt hw.at_ hst2⟩ (fun _ h=>by cases h)
      cases hi:y1o k es 0 with
      |none=>
       rw[hi]at f2 hs;simp only at hs;obtain⟨rfl,rfl⟩:=hs;have hx:x=none:=by cases x <;> simp_all
       subst hx;obtain⟨w2,s1,s2⟩:=z2c (P:=P) (o':=.map (me.push { key:=vk,val:=vv,born:=clock }) (clock+1)) h1 hnc;refine⟨w2,?_,fin w w2 _ _ ⟨rfl,y1v.refl _⟩ s2 (by simpa using h2.push (e:={ key:=vk,val:=vv,born:=clock }) (p:=(k,v)) ⟨hk,hv⟩) hst.push⟩
       unfold i9;simp only[ax,run_underlying hu,au,hg,hck,f1,s1]
      |some i=>
       rw[hi]at f2 hs;simp only at hs;obtain⟨rfl,hlt,_⟩:=hs;obtain⟨p,rfl⟩:∃ p,x=some p:=by cases x <;> simp_all
       obtain⟨pi,pv⟩:=p;simp at f2;subst f2;obtain⟨_,q,hq,hqk⟩:=z2o hi;rw[Nat.sub_zero]at hq;have hlm:pi<me.size:=by have:=h2.1;simp at this;omega
       obtain⟨kv,w1,k1,k2,k3⟩:=z96 (P:=P) (w:=w) (((me[pi]?).map (·.key)).getD vk) vk;have hkr:Rep φ ρ H w.heap kv k:=by
        rcases k2 with rfl | rfl
        ·have:=(h2.2 pi me[pi] q (by simp[hlm]) hq).1
         rw[hqk]at this;simpa[hlm]using this
        ·exact hk
       have h1':w1.heap[b]? = some (.map me clock):=by rw[k3.1,h1]
       obtain⟨w2,s1,s2⟩:=z2c (P:=P) (w:=w1) (o':=.map (me.modify pi fun e=>{ e with key:=kv,val:=vv }) clock) h1' hnc
       refine⟨w2,?_,fin w1 w2 _ _ k3 s2 ?_ (hst.modify fun _=>rfl)⟩
       ·unfold i9;simp only[ax,run_underlying hu,au,hg,hck,f1,k1,s1]
       ·refine⟨by simp;simpa using h2.1,fun j e p he hp=>?_⟩
        simp only[fh,cC]at he;rw[bw]at hp
        by_cases hj:pi=j
        ·subst hj;simp[hlm]at he;simp[hlt]at hp;rw[<- he,<- hp];exact⟨hkr,hv⟩
        ·rw[if_neg hj]at he hp;exact h2.2 j e p (by simpa using he) hp
   ·simp at h
  ·simp at h
 ·simp at h
def zgr(S:SR CL φ B ρ H w.heap os)(id:Nat):∃ H',y4m CL φ B ρ H w.heap os ρ H' w.heap (y2g os id):=by
 unfold y2g;split
 ·rename_i cs hos;obtain⟨bk,hr,b,c,rfl,hrow⟩:=S.dom id _ hos rfl;have hlt:=(ae.1 hos).1;have own:=S.own id _ b c hos rfl hr;have x:Ext ρ ρ H (y5c H b cs.length) w.heap w.heap:=⟨fun _ _ h=>h,fun _ _ h=>.inl h,fun _ _ _=>rfl⟩
  have get:∀(i:Nat) o,(os.set id (.frozen cs))[i]? = some o->(i=id/\o=.frozen cs)\/(i ≠ id/\os[i]? = some o):=by
   intro i o h;rw[bw]at h;split at h
   ·rename_i e;subst e;simp[hlt]at h;exact .inl ⟨rfl,h.symm⟩
   ·rename_i e;exact .inr ⟨fun e'=>e e'.symm,h⟩
  have hne:∀(i:Nat) o c',i ≠ id->os[i]? = some o->o.live=true -> ρ i ≠ some (.blk b c'):=fun i o c' hi h l r=>hi (S.inj i id o _ b c' c h l hos rfl r hr)
  refine⟨y5c H b cs.length,x,?_,aj _,fun _ _ _=>rfl,fun b' o hh=>?_,y4n.refl _,fun _ _ h=>.inl h,rbS,fun b' o hh=>hh.elim .inl fun e=>.inr (.inl ⟨id,c,by rw[e.1];exact hr⟩)⟩
  ·exact {
    dom:=fun i o h l=>by
     rcases get i o h with⟨rfl,rfl⟩ | ⟨hi,h⟩
     ·exact⟨_,hr,b,c,rfl,hrow.mono x rfl,fun j hj=>.inr ⟨rfl,hj⟩⟩
     ·obtain⟨bk,r,h2⟩:=S.dom i o h l;refine⟨bk,r,h2.mono x (fun _ _ _=>rfl) (fun b' c' u s e _ j _ hh=>?_)⟩
      rcases hh with hh | ⟨rfl,_⟩
      ·exact hh
      ·exact absurd (by rw[r,e]) (hne i o c' hi h l)
    lt:=fun i bk h=>by simpa using S.lt i bk h
    inj:=fun i i' o o' b1 c1 c2 h l h' l' r r'=>by
     rcases get i o h with⟨e,e1⟩ | ⟨hi,g⟩ <;> rcases get i' o' h' with⟨e',e2⟩ | ⟨hi',g'⟩
     ·rw[e,e']
     ·rw[e]at r ⊢;exact S.inj id i' _ o' b1 c1 c2 hos rfl g' l' r r'
     ·rw[e']at r' ⊢;exact S.inj i id o _ b1 c1 c2 g l hos rfl r r'
     ·exact S.inj i i' o o' b1 c1 c2 g l g' l' r r'
    own:=fun i o b1 c1 h l r=>by
     rcases get i o h with⟨rfl,rfl⟩ | ⟨hi,h⟩
     ·exact S.own i _ b1 c1 hos rfl r
     ·exact S.own i o b1 c1 h l r
    mutH:=fun i cs1 b1 c1 o h r hh=>by
     rcases get i _ h with⟨_,h⟩ | ⟨hi,h⟩
     ·cases h
     ·rcases hh with hh | ⟨rfl,_⟩
      ·exact S.mutH i cs1 b1 c1 o h r hh
      ·exact hne i _ c1 hi h rfl r
    hb:=S.hb.ext x fun b1 o h=>by
     rcases h with h | ⟨rfl,_⟩
     ·exact S.hb b1 o h
     ·exact own.2
    hB:=S.hB }
  ·rcases hh with hh | ⟨rfl,_⟩
   ·exact .inl hh
   ·exact .inr own.1
 ·exact⟨H,y4m.refl S⟩
end
end Dv
namespace Dv
open Go (Value Program World Act Oper Operand Code)
section
variable{P:Program}{E:Env}{CL:y21}{φ : Phi}{τ : Phi}{B:Nat}{ρ : Rho}{H:HS}{os:List Obj}{w:World}
def zm8{e' e:Nat}(Te:TOk P E τ e' e)(h:y6l E e=true):P.underlying e'=some (.int .u8):=by
 unfold y6l at h;split at h
 ·rename_i hk;have:=Te.und;rw[hk]at this;exact this
 ·simp at h
def zdt{hp:y1x}:∀{vs:List Value} {els:List D} {b:List UInt8},yv φ ρ H hp vs (yr els)->y4b els=some b ->
  ∃ ns:List Int,vs=ns.map (Value.int .u8) /\ ∀ s0:ByteArray,(ns.foldl (fun r n=>r.push (cv n.toNat)) s0).data.toList=s0.data.toList++b
 |vs,[],b,hr,h=>by
  simp[y4b]at h;subst h;have:vs=[]:=by have:=hr.1;simpa[yr]using this
  subst this;exact⟨[],rfl,fun s0=>by simp⟩
 |vs,d::els,b,hr,h=>by
  unfold y4b at h;split at h
  ·rename_i heq;simp at heq
  ·rename_i n r heq;simp only[bZ]at heq;obtain⟨rfl,rfl⟩:=heq;split at h
   ·rename_i s hs;simp only[aa]at h;subst h
    match vs,hr with
    |v::vs,hr=>
     rw[show yr (D.int .u8 n::els)=.int .u8 n::yr els from rfl]at hr
     obtain⟨h1,h2⟩:=hr.of_cons;obtain rfl:=h1.intv;obtain⟨ns,rfl,e2⟩:=zdt h2 hs;exact⟨n::ns,rfl,fun s0=>by rw[bS,e2];simp[ByteArray.push]⟩
    |[],hr=>have:=hr.1;simp[yr,D.cellsL]at this
   ·simp at h
  ·simp at h
def zdu:∀{els:List D} {b:List UInt8},y4b els=some b->els.all (fun d=>d.storable && d.cellsL.length == 1)=true
 |[],b,h=>rfl
 |d::els,b,h=>by
  unfold y4b at h;split at h
  ·rename_i heq;simp at heq
  ·rename_i n r heq;simp only[bZ]at heq;obtain⟨rfl,rfl⟩:=heq;split at h
   ·rename_i s hs;rw[cG,zdu hs];rfl
   ·simp at h
  ·simp at h
def yfy{t c t2 c2:Nat}{vx:Value}{x d:D}(T:TOk P E τ t c)(T2:TOk P E τ t2 c2)(TA:y3k P E τ)(S:SR CL φ B ρ H w.heap os)(hx:Rep φ ρ H w.heap vx x)(h:ygq E c c2 x=some d) :
  ∃ v,(kH t t2 vx).run P w=.ok v w/\Rep φ ρ H w.heap v d:=by
 unfold ygq at h;split at h
 case h_2=>simp at h
 rename_i e sp els hk hk2;obtain⟨e',hu,he'⟩:=T.slice hk;have hu2:=T2.und;rw[hk2]at hu2;split at h
 case isFalse=>simp at h
 rename_i hb;have hbu:=zm8 (TA _ _ he') hb;simp only[ab]at h;obtain⟨b,hbo,rfl⟩:=h;have hels:y1b os 1 false (.imm sp els)=some els:=by simp only[y1b];rw[if_pos (zdu hbo)]
 obtain⟨a,cap,vl,rfl,hr,hu1,hrd⟩:=z2p (P:=P) S hx hels;have hlen:vl.length=els.length:=by have e:=hr.1;rw[zr (su:=1) fun y hy=>(hu1 y hy).1,cN]at e;exact e
 have h1:=hrd _ (aj _) w rfl;rw[cN,<- hlen,bh]at h1;obtain⟨ns,rfl,e1⟩:=zdt hr hbo;have e2:=e1 jI;refine⟨.string (ns.foldl (fun r n=>r.push (cv n.toNat)) jI),?_,?_⟩
 ·rw[Go.run_convert_bytes_string w t t2 e' a _ cap hu hbu hu2];cases a with
  |none=>
   simp only[aS,aP]at h1;have h0:ns=[]:=by
    have h2:=congrArg (fun r:iw (Array Value)=>match r with | .ok v _=>v.size | _=>0) h1
    simp at h2;exact List.eq_nil_of_length_eq_zero h2.symm
   subst h0;simp[Go.Conv.bytesToString]
  |some a=>simp only[aS,cN,hlen]at h1;exact Go.run_bytesToString w a _ cap ns h1
 ·have:=Rep.str (φ:=φ) (ρ:=ρ) (H:=H) (hp:=w.heap) (ns.foldl (fun r n=>r.push (cv n.toNat)) jI)
  rw[e2]at this;simpa using this
def z8q:∀(l:List UInt8),yr (l.map yd)=l.map yd
 |[]=>rfl
 |x::r=>by rw[al,z1m,z8q r];rfl
def zcf{hp:y1x}{arr:Array Value}{el:Nat}{fr:Nat × Nat}(j:Nat):cellOf (hp.push (.cells arr el fr)) hp.size j=arr[j]?:=by unfold cellOf;rw[z4z]
def ydw(TA:y3k P E τ){t c t2 c2:Nat}{vx:Value}{x d:D}(T:TOk P E τ t c)(T2:TOk P E τ t2 c2)(S:SR CL φ B ρ H w.heap os)(hx:Rep φ ρ H w.heap vx x)(h:ygk E c c2 x=some d) :
  y42 CL φ B ρ H os w ((kH t t2 vx).run P w) d os:=by
 unfold ygk at h;split at h
 case h_2=>simp at h
 rename_i e b hk hk2;obtain⟨e',hu2,he'⟩:=T2.slice hk2;have hu:=T.und;rw[hk]at hu;split at h
 case isFalse=>simp at h
 rename_i hb;have hbu:=zm8 (TA _ _ he') hb;simp only[aa]at h;subst h;obtain⟨s,rfl,rfl⟩:=hx.strv;have hrun:=Go.run_bytes_of_string w t t2 e' s hu hu2 hbu;obtain⟨arr,harr⟩:∃ arr,Go.bytesRow s (mb w s.size 0 e')=arr:=⟨_,rfl⟩;obtain⟨cap,hcap⟩:∃ cap,mb w s.size 0 e'=cap:=⟨_,rfl⟩;rw[harr,hcap]at hrun;have hsz0:s.data.toList.length=s.size:=by rw[cW];rfl
 have hle:s.data.toList.length<=cap:=by have:=Go.grownCap_ge w s.size 0 e';rw[hcap,<- hsz0]at this;omega
 have g:=z81 H w.heap (.cells arr e' (arr.size,arr.size+1)) arr.size;have x1:=g.ext ρ S.hb;have harr0:∀ j,j<s.data.toList.length->arr[j]? = some (.int .u8 ((s.data.toList[j]?.getD 0).toNat:Int)):=fun j hj=>by
  have hj':j<s.data.size:=by simpa using hj
  have e:s.data.toList[j]? = some s.data[j]:=by rw[fh,bX hj']
  rw[<- harr,Go.bytesRow_at s _ j hj',e]
  rfl
 have hsz:s.data.toList.length<=arr.size:=by
  rcases eu s.data.toList.length with h0 | h0
  ·omega
  ·have:=harr0 (s.data.toList.length - 1) (by omega)
   have:=(aI.1 this).1;omega
 have hp:y4m CL φ B ρ H w.heap os ρ (y5c H w.heap.size arr.size) (w.heap.push (.cells arr e' (arr.size,arr.size+1))) os:=
  ⟨x1,S.grew g,g.size,fun b hb _=>g.old b hb,fun b o hh=>by
   rcases hh with hh | ⟨rfl,_⟩
   ·exact .inl hh
   ·exact .inr S.hB,trivial,fun _ _ h=>.inl h,rbS,fun b o hh=>hh.elim .inl fun e=>.inr (.inr (dG e.1.symm))⟩
 refine⟨_,_,ρ,y5c H w.heap.size arr.size,hrun,⟨hp,rfl,rfl,rfl,fa _⟩,?_⟩;have hsl:s.size=(s.data.toList.map yd).length:=by rw[aF,hsz0]
 rw[hsl];have hmem:∀ x,x ∈ s.data.toList.map yd->x.cellsL.length=1/\x.storable=true:=fun x hx'=>by obtain⟨b,_,rfl⟩:=aL.1 hx';exact⟨rfl,rfl⟩
 refine .imm .none _ _ cap w.heap.size 0 1 (fun j=>.int .u8 ((s.data.toList[j]?.getD 0).toNat:Int)) hmem (by simpa using hle) (fun h=>by cases h) (fun k hk=>by cases hk) (fun _=>rfl) (fun j hj=>?_) (fun j d hd=>?_)
 ·rw[z8q,aF]at hj;refine⟨.inr ⟨rfl,by omega⟩,?_⟩
  rw[bM];show cellOf (w.heap.push (.cells arr e' (arr.size,arr.size+1))) w.heap.size j=_
  rw[zcf];exact harr0 j hj
 ·rw[z8q,ch]at hd;cases hb2:s.data.toList[j]? with
  |none=>rw[hb2]at hd;simp at hd
  |some b=>rw[hb2]at hd;simp only[aq,aa]at hd;subst hd;simp only[aX];exact .int _ _
def zrd(TA:y3k P E τ){t c:Nat}{vl vc:Value}{l m d:D}{os':List Obj}(T:TOk P E τ t c)(S:SR CL φ B ρ H w.heap os)(hl:Rep φ ρ H w.heap vl l)(hm:Rep φ ρ H w.heap vc m)
  (h:y67 E os c l m=some (d,os')):y42 CL φ B ρ H os w ((ew t vl vc).run P w) d os':=by
 unfold y67 at h;split at h
 case h_2=>simp at h
 rename_i e kl l kc m hk;obtain⟨e',hu,he'⟩:=T.slice hk;have Te:=TA _ _ he';obtain rfl:=hl.intv;obtain rfl:=hm.intv;split at h
 case h_2=>simp at h
 rename_i z hz;split at h
 case isFalse=>simp at h
 rename_i hc;obtain⟨h0,hlm,hb⟩:=hc;simp only[aa,aw]at h;obtain⟨rfl,rfl⟩:=h;obtain⟨zv,e1,e2,_,e4,e5,e6⟩:=z2x (w:=w) (φ:=φ) (ρ:=ρ) (H:=H) Te hz;obtain⟨a,rfl⟩:=gU h0;obtain⟨n,rfl⟩:=gU (Int.le_trans h0 hlm);have han:a<=n:=by omega
 obtain⟨inf,hi,hsz,hby,_⟩:=Te.info;have hzr:=z7b (n:=n) e2 e4;have hnn:(n:Int)<=yg:=by
  have h1:(n:Int)*1<=(n:Int)*((E.ty e).bytes+1):=cV (by omega) (by omega)
  omega
 have hbb:(E.ty e).bytes*(n:Int)<=yg:=by
  have h1:(n:Int)*(E.ty e).bytes<=(n:Int)*((E.ty e).bytes+1):=cV (by omega) (by omega)
  rw[oP];omega
 have hm:(yg:Int)=17592186044416:=rfl;rw[hm]at hnn hbb;have hwn:aJ.wrap (n:Int)=n:=gX _ (by omega)
 have hwa:aJ.wrap (a:Int)=a:=gX _ (by omega)
 have hrun:(ew t (.int kl a) (.int kc n)).run P w=.ok (.slice (some ⟨w.heap.size,0,none⟩) a n) { w with heap:=w.heap.push (.cells ((dZ (n*(E.ty e).size)).map (zv.cells[· % zv.cells.size]!)) e') }:=by
  unfold ew;simp only[ax,run_underlying hu,au,Go.asInt,eZ,aP,iW,z1n hi,hwn,hwa,hby];have hc : ¬ (((decide ((n:Int)<0) || decide ((((E.ty e).bytes:Nat):Int)*(n:Int) > 2 ^ 48)) || decide ((a:Int)<0) || decide ((a:Int) > (n:Int)))=true):=by simp;omega
  simp only[if_neg hc,ax,ke,au,Te.size,bT,iX,aP]
  by_cases hn0:n*(E.ty e).size=0
  ·have hr0:∀ g:Nat->Value,(dZ 0).map g = #[]:=fun g=>by simp[dZ]
   have hn:n=0:=by rcases jH.1 hn0 with h | h;exact h;exact absurd h e6
   subst hn;simp[hr0,z1q]
  ·simp[if_neg hn0,e1,z1q]
 rw[bT,bT];have f:=S.free;have hp:=z4i S f (el:=e') hzr (z1t fun x hx=>(z1r e4 e5 x hx).2)
 rw[show y2e os os.length (.cells (yr (ah n z)))=os++[.cells (yr (ah n z))]from by simp[y2e]]at hp
 exact⟨_,_,_,_,hrun,⟨hp,rfl,rfl,rfl,aj _⟩,.sl _ _ _ _ _ _ w.heap.size _ n _ (by simp[upd];rfl) han (fun _=>rfl) (fun _=>⟨rfl,rfl,by simp⟩)⟩
def zim(_TA:y3k P E τ){t c:Nat}{vx vh:Value}{x m d:D}(T:TOk P E τ t c)(S:SR CL φ B ρ H w.heap os)(hx:Rep φ ρ H w.heap vx x)(hm:Rep φ ρ H w.heap vh m)
  (h:y3e E os c x m=some (d,os)):∃ v,(eW t vx none (some vh) none).run P w=.ok v w/\Rep φ ρ H w.heap v d:=by
 unfold y3e at h;split at h
 case h_2=>simp at h
 rename_i e id len sz ag k m hk;obtain⟨e',hu,he'⟩:=T.slice hk;have Te:=_TA _ _ he';obtain rfl:=hm.intv;split at h
 case h_2=>simp at h
 rename_i cs hos;split at h
 case isFalse=>simp at h
 rename_i hc;obtain⟨h0,h1,h2,h3⟩:=hc;simp only[aa,aw,and_true]at h;subst h;cases hx with
 |sl _ _ _ _ _ _ b cc cap a hid hl ha hcc=>
  obtain⟨_,rfl,rfl⟩:=hcc rfl;obtain⟨arr,el,r1,r2,r3,r4,r5⟩:=S.row hid (by simp[y14,hos]:y14 os id=some cs)
  have hle:m.toNat<=cap:=by
   have:m.toNat*sz<=cap*sz:=by rw[r2]at r3;omega
   exact Nat.le_of_mul_le_mul_right this (by omega)
  have hmc:m<=(cap:Int):=by omega
  refine⟨.slice (some ⟨b,0,none⟩) m.toNat cap,?_,.sl id 0 m.toNat sz ag true b _ cap _ hid hle (fun _=>rfl) (fun _=>⟨rfl,rfl,rfl⟩)⟩
  unfold eW;simp[run_underlying hu,jZ,fq,dT,eZ,h0,hmc,Te.size,z1p]
def yfo(TA:y3k P E τ){t c ty:Nat}{vx:Value}{x d:D}{os':List Obj}(T:TOk P E τ t c)(S:SR CL φ B ρ H w.heap os)(hx:Rep φ ρ H w.heap vx x)
  (h:yc9 E os c x=some (d,os')):y42 CL φ B ρ H os w ((jm #[t] ty #[vx]).run P w) d os':=by
 unfold yc9 at h;split at h
 case h_2=>simp at h
 rename_i e id off len sz ag gr hk;obtain⟨e',hu,he'⟩:=T.slice hk;have Te:=TA _ _ he';split at h
 case h_2=>simp at h
 rename_i cs z hos hz;split at h
 case isFalse=>simp at h
 rename_i hc;obtain⟨rfl,hle⟩:=hc;simp only[aa,aw]at h;obtain⟨rfl,rfl⟩:=h;obtain⟨zv,e1,e2,_,e4,e5,e6⟩:=z2x (w:=w) (φ:=φ) (ρ:=ρ) (H:=H) Te hz;cases hx with
 |sl _ _ _ _ _ _ b cc cap a hid hl ha hcc=>
  have hzs:zv.cells.size=(E.ty e).size:=by have:=e2.1;rw[e4]at this;simpa using this
  have hzr:=z7b (n:=len) e2 e4;have hzc:cm zv.cells len=(dZ (len*(E.ty e).size)).map (zv.cells[· % zv.cells.size]!):=by unfold cm;rw[hzs]
  rw[<- hzc]at hzr;have hfl:(yr (ah len z)).length=len*(E.ty e).size:=by rw[zr fun x hx=>(z1r e4 e5 x hx).1];simp
  obtain⟨w',s1,s2⟩:=z6t (P:=P) (off:=off) S hos hid hzr (z1t fun x hx=>(z1r e4 e5 x hx).2) (by rw[hfl];exact hle)
  by_cases h0:len=0
  ·subst h0;have hset:os.set id (.cells (setCells cs off (yr (ah 0 z))))=os:=by
    simp[yr,setCells];apply cZ;intro i;rw[bw];split
    ·rename_i e1;subst e1;have:=(ae.1 hos).1;simp[this];exact((ae.1 hos).2).symm
    ·rfl
   refine⟨bu,w,ρ,H,?_,⟨by rw[hset];exact y4m.refl S,y1v.refl _⟩,.u0⟩
   unfold jm;simp only[ca,cu];simp only[ax,run_underlying hu,au];cases a <;> simp[bu]
  ·refine⟨bu,w',ρ,H,?_,s2,.u0⟩;unfold jm;rw[ha h0];simp only[ca,cu];simp only[ax,run_underlying hu,au];obtain⟨n,rfl⟩:∃ n,len=n+1:=⟨len - 1,by omega⟩
   simp only[ax,e1,au,s1];simp[bu]
end
end Dv
namespace Dv
open Go (Value Program World Act Oper Operand Code)
def y25(os os':List Obj)(K:Nat->Prop):Prop:=∀(i:Nat) o,K i->os'[i]? = some o->o.live=true->∃ o':Obj,os[i]? = some o'/\o'.live=true
def y25.refl{os:List Obj}{K:Nat->Prop}:y25 os os K:=fun _ o _ h hl=>⟨o,h,hl⟩
def y25.trans{os os' os'':List Obj}{K:Nat->Prop}(h:y25 os os' K)(h':y25 os' os'' K):y25 os os'' K:=fun i o hi h1 h2=>by obtain⟨o',h3,h4⟩:=h' i o hi h1 h2;exact h i o' hi h3 h4
def y25.set{os:List Obj}{K:Nat->Prop}{k:Nat}{ob ob':Obj}(hk:os[k]? = some ob)(hl:ob.live=true):y25 os (os.set k ob') K:=fun i o _ h h'=>by
 rw[bw]at h;split at h
 ·rename_i e;subst e;exact⟨ob,hk,hl⟩
 ·exact⟨o,h,h'⟩
def y25.kill{os:List Obj}{K:Nat->Prop}(k:Nat):y25 os (os.set k .dead) K:=fun i o _ h h'=>by
 rw[bw]at h;split at h
 ·split at h
  ·simp at h;subst h;simp[Obj.live]at h'
  ·simp at h
 ·exact⟨o,h,h'⟩
def y25.add{ρ : Rho}{os:List Obj}{K:Nat->Prop}{id:Nat}{ob:Obj}(f:y4g ρ os id)(hne:∀ i,K i->i ≠ id):y25 os (y2e os id ob) K:=fun i o hi h h'=>by rw[z6o f,if_neg (hne i hi)]at h;exact⟨o,h,h'⟩
def y25.push{os:List Obj}{K:Nat->Prop}{ob:Obj}(hK:∀ i,K i->i<os.length):y25 os (os++[ob]) K:=fun i o hi h h'=>by rw[aD (hK i hi)]at h;exact⟨o,h,h'⟩
structure y1a(CL:y21)(φ : Phi)(B:Nat)(K:Nat->Prop)(ρ : Rho)(H:HS)(w:World)(ρ':Rho)(H':HS)(w':World)(os':List Obj):Prop where
 ext:Ext ρ ρ' H H' w.heap w'.heap
 sr:SR CL φ B ρ' H' w'.heap os'
 size:w.heap.size<=w'.heap.size
 frB:∀ b,b<B->w'.heap[b]? = w.heap[b]?
 frD:∀(b:Nat) ds,w.heap[b]? = some (.deferred ds)->w'.heap[b]? = some (.deferred ds)
 hnew:∀ b o,H' b o->H b o\/B<=b
 vac:∀ i,K i -> ρ i=none -> ρ' i=none
 fz:y4n w.heap w'.heap
 still:y1v w w'
 frame:∀ b,b<w.heap.size -> ¬ Old ρ b->w'.heap[b]? = w.heap[b]?
 rb:∀(k:Nat) b c,ρ' k=some (.blk b c)->Old ρ b\/w.heap.size<=b
 hn:∀ b o,H' b o->H b o\/Old ρ b\/w.heap.size<=b
section
variable{CL:y21}{φ : Phi}{B:Nat}{K:Nat->Prop}{ρ ρ' ρ'':Rho}{H H' H'':HS}{hp hp' hp'':y1x}{os os' os'':List Obj}
def y1a.trans{w w' w'':World}(h:y1a CL φ B K ρ H w ρ' H' w' os')(h':y1a CL φ B K ρ' H' w' ρ'' H'' w'' os''):y1a CL φ B K ρ H w ρ'' H'' w'' os'':=
 ⟨h.ext.trans h'.ext,h'.sr,aM h.size h'.size,fun b hb=>(h'.frB b hb).trans (h.frB b hb),fun b ds hd=>h'.frD b ds (h.frD b ds hd),fun b o hh=>by
  rcases h'.hnew b o hh with hh | hh
  ·exact h.hnew b o hh
  ·exact .inr hh,fun i hi hn=>h'.vac i hi (h.vac i hi hn),h.fz.trans h'.fz,h.still.trans h'.still,
  fun b hb ho=>(h'.frame b (aW hb h.size) (fun⟨k,c,hk⟩=>(h.rb k b c hk).elim ho (fun hle=>absurd hle (Nat.not_le.2 hb)))).trans (h.frame b hb ho),
  fun k b c hk=>(h'.rb k b c hk).elim (fun⟨k0,c0,h0⟩=>h.rb k0 b c0 h0) (fun hle=>.inr (aM h.size hle)),
  fun b o hh=>(h'.hn b o hh).elim (h.hn b o) (fun hh=>hh.elim (fun⟨k0,c0,h0⟩=>.inr (h.rb k0 b c0 h0)) (fun hle=>.inr (.inr (aM h.size hle))))⟩
def y1a.refl{w:World}(S:SR CL φ B ρ H w.heap os):y1a CL φ B K ρ H w ρ H w os:=
 ⟨Ext.refl _ _ _,S,aj _,fun _ _=>rfl,fun _ _ h=>h,fun _ _ h=>.inl h,fun _ _ h=>h,y4n.refl _,y1v.refl _,fun _ _ _=>rfl,rbS,hnS⟩
def y4m.toT{w w':World}(S:SR CL φ B ρ H w.heap os)(hK:y25 os os' K)(h:y4m CL φ B ρ H w.heap os ρ' H' w'.heap os')(hst:y1v w w'):y1a CL φ B K ρ H w ρ' H' w' os':=by
 refine⟨h.ext,h.sr,h.size,fun b hb=>h.frame b (aW hb S.hB) (fun id o c ho hl r=>by have:=(S.own id o b c ho hl r).1;omega),fun b ds hd=>?_,h.hnew,fun i hi hn=>?_,h.fz,hst,fun b hb ho=>h.frame b hb (fun id o c _ _ r=>ho ⟨id,c,r⟩),h.rb,h.hn⟩
 rotate_left
 ·cases hr : ρ' i with
  |none=>rfl
  |some bk=>
   rcases h.rn i bk hr with h1 | ⟨o,h1,h2⟩
   ·rw[hn]at h1;cases h1
   ·obtain⟨o',h3,h4⟩:=hK i o hi h1 h2;obtain⟨bk',h5,_⟩:=S.dom i o' h3 h4;rw[hn]at h5;cases h5
 rw[<- hd];refine h.frame b (z26 hd) (fun id o c ho hl r=>?_)
 obtain⟨bk,r',h2⟩:=S.dom id o ho hl;rw[r]at r';simp at r';subst r';cases o with
 |dead=>simp[Obj.live]at hl
 |cells cs=>obtain⟨_,_,e,arr,el,h3,_⟩:=h2;simp at e;obtain⟨rfl,rfl⟩:=e;rw[hd]at h3;cases h3
 |frozen cs=>obtain⟨_,_,e,⟨arr,el,h3,_⟩,_⟩:=h2;simp at e;obtain⟨rfl,rfl⟩:=e;rw[hd]at h3;cases h3
 |tok u s=>
  rcases h2 with h2 | ⟨_,_,e,arr,el,h3,_⟩
  ·cases h2
  ·simp at e;obtain⟨rfl,rfl⟩:=e;rw[hd]at h3;cases h3
 |map es=>obtain⟨_,_,e,me,cl,h3,_⟩:=h2;simp at e;obtain⟨rfl,rfl⟩:=e;rw[hd]at h3;cases h3
 |loop busy y22 ps asg body pend=>obtain⟨_,_,e,L,h3,_⟩:=h2;simp at e;obtain⟨rfl,rfl⟩:=e;rw[hd]at h3;cases h3
def zlf:∀{n m:Nat} {d:D} {id:Nat},m<=n->id ∈ ids os m d->id ∈ ids os n d
 |n,0,d,id,_,h=>by simp[ids]at h
 | 0,m+1,d,id,hm,_=>by omega
 |n+1,m+1,d,id,hm,h=>by
  have hm':m<=n:=by omega
  have go:∀(l:List D),id ∈ l.flatMap (ids os m)->id ∈ l.flatMap (ids os n):=fun l hl=>by simp only[bB]at hl ⊢;obtain⟨x,h1,h2⟩:=hl;exact⟨x,h1,zlf hm' h2⟩
  cases d <;> simp only[ids]at h ⊢ <;> try exact h
  ·rcases aA.1 h with h | h
   ·exact aA.2 (.inl h)
   ·refine aA.2 (.inr ?_);split at h
    ·exact go _ h
    ·simp at h
  ·exact go _ h
  ·exact go _ h
  ·rcases aA.1 h with h | h
   ·exact aA.2 (.inl h)
   ·refine aA.2 (.inr ?_);split at h
    ·exact go _ h
    ·simp at h
  ·exact go _ h
  ·exact go _ h
  ·exact go _ h
def z2v{w:World}:∀(l:List Nat) {H:HS} {os:List Obj},SR CL φ B ρ H w.heap os->∃ H',y1a CL φ B K ρ H w ρ H' w (y11 os l) /\ ∀ id cs b c,id ∈ l->os[id]? = some (.cells cs) -> ρ id=some (.blk b c)->∀ j,j<cs.length->H' b j
 |[],H,os,S=>⟨H,y1a.refl S,fun id cs b c h=>by simp at h⟩
 |i::l,H,os,S=>by
  -- y2g with what it marks
  have one:∃ H1,y1a CL φ B K ρ H w ρ H1 w (y2g os i)/\(∀ cs b c,os[i]? = some (.cells cs) -> ρ i=some (.blk b c)->∀ j,j<cs.length->H1 b j):=by
   obtain⟨H1,h1⟩:=zgr (w:=w) S i;refine⟨H1,y4m.toT S (by unfold y2g;split; (· rename_i ho;exact .set ho rfl);exact .refl) h1 (y1v.refl _),fun cs b c ho hr j hj=>?_⟩
   have hlt:=(ae.1 ho).1;have hf:(y2g os i)[i]? = some (.frozen cs):=by unfold y2g;rw[ho];simp[hlt]
   obtain⟨bk,r,b',c',e,_,hH⟩:=h1.sr.dom i _ hf rfl;rw[hr]at r;simp at r;subst r;simp at e;obtain⟨rfl,rfl⟩:=e;exact hH j hj
  obtain⟨H1,p1,m1⟩:=one;obtain⟨H2,p2,m2⟩:=z2v l p1.sr;refine⟨H2,p1.trans p2,fun id cs b c hid ho hr j hj=>?_⟩
  by_cases e:id=i
  ·subst e;exact p2.ext.hs _ _ (m1 cs b c ho hr j hj)
  ·rcases aA.1 hid with h | h
   ·exact absurd h e
   ·refine m2 id cs b c h ?_ hr j hj;unfold y2g;split
    ·rw[bo (dF e)];exact ho
    ·exact ho
def z1l{f:D->Option D}:∀{l r:List D},y1k f l=some r->r.length=l.length /\ ∀(j:Nat) x y,l[j]? = some x->r[j]? = some y->f x=some y
 |[],r,h=>by simp[y1k]at h;subst h;exact⟨rfl,fun j x y h=>by simp at h⟩
 |d::l,r,h=>by
  simp only[y1k]at h;cases e1:f d with
  |none=>simp[e1]at h
  |some d'=>cases e2:y1k f l with
   |none=>simp[e1,e2]at h
   |some r'=>
    simp[e1,e2]at h;subst h;obtain⟨h1,h2⟩:=z1l e2;refine⟨by simp[h1],fun j x y hx hy=>?_⟩
    cases j with
    |zero=>simp at hx hy;subst hx;subst hy;exact e1
    |succ j=>exact h2 j x y (by simpa using hx) (by simpa using hy)
def zll{n:Nat}{d d':D}(h:frz os n d=some d')(ha:d.atom=true):d'.atom=true:=by
 cases n with
 |zero=>simp[frz]at h
 |succ n=>
  cases d <;> simp only[frz,D.atom,reduceCtorEq,aa,ab,aT]at h ha <;> try contradiction
  all_goals first
   |(subst h;rfl)
   |(obtain⟨_,_,rfl⟩:=h;rfl)
   |skip
  ·-- loc
   split at h
   ·simp at h;obtain⟨_,_,rfl⟩:=h;rfl
   ·simp at h
  ·split at h
   ·split at h
    ·simp at h;obtain⟨_,_,rfl⟩:=h;rfl
    ·simp at h
   ·simp at h
  ·rename_i id;cases id with
   |none=>simp at h;subst h;rfl
   |some i=>simp at h
def ztx{n:Nat}{e e':D}(h:frz os n e=some e')(hs:e.storable=true):e'.cellsL.length=e.cellsL.length/\e'.storable=true /\
  ∀(j:Nat) c c',e.cellsL[j]? = some c->e'.cellsL[j]? = some c'->∃ m,m<=n/\frz os m c=some c' /\ ∀ id,id ∈ ids os m c->id ∈ ids os n e:=by
 by_cases hag:∃ cs,e=.agg cs
 ·obtain⟨cs,rfl⟩:=hag;cases n with
  |zero=>simp[frz]at h
  |succ n=>
   simp only[frz,ab]at h;obtain⟨r,hr,rfl⟩:=h;obtain⟨h1,h2⟩:=z1l hr;refine⟨h1,?_,fun j c c' hc hc'=>⟨n,fa _,h2 j c c' hc hc',fun id hid=>?_⟩⟩
   ·simp only[D.storable,ay]at hs ⊢;intro x hx;obtain⟨j,hj,rfl⟩:=dD hx;have hj':j<cs.length:=by rw[<- h1];exact hj
    exact zll (h2 j cs[j] r[j] (ac hj') (ac hj)) (hs _ (av hj'))
   ·simp only[ids,bB];exact⟨c,by have:=bA hc;exact this,hid⟩
 ·have hat:e.atom=true:=by cases e <;> first | exact hs | exact absurd ⟨_,rfl⟩ hag
  have hat':=zll h hat;have c1:e.cellsL=[e]:=by cases e <;> first | rfl | exact absurd ⟨_,rfl⟩ hag
  have c2:e'.cellsL=[e']:=by cases e' <;> first | rfl | (simp[D.atom]at hat')
  refine⟨by rw[c1,c2];rfl,?_,fun j c c' hc hc'=>?_⟩
  ·cases e' <;> first | exact hat' | (simp[D.atom]at hat')
  ·rw[c1]at hc;rw[c2]at hc';cases j with
   |zero=>simp at hc hc';subst hc;subst hc';exact⟨n,aj _,h,fun _ h=>h⟩
   |succ j=>simp at hc
def zf6{n:Nat}:∀{els els':List D},y1k (frz os n) els=some els'->(∀ x,x ∈ els->x.storable=true)->(yr els').length=(yr els).length /\
  (∀(j:Nat) c c',(yr els)[j]? = some c->(yr els')[j]? = some c'->∃ m,m<=n/\frz os m c=some c' /\ ∀ id,id ∈ ids os m c->id ∈ els.flatMap (ids os n)) /\
  ∀ su,(∀ x,x ∈ els->x.cellsL.length=su)->∀ x,x ∈ els'->x.cellsL.length=su/\x.storable=true
 |[],els',h,_=>by simp[y1k]at h;subst h;exact⟨rfl,fun j c c' h=>by simp[yr]at h,fun _ _ x h=>by simp at h⟩
 |e::els,els',h,hs=>by
  simp only[y1k]at h;cases e1:frz os n e with
  |none=>simp[e1]at h
  |some d'=>cases e2:y1k (frz os n) els with
   |none=>simp[e1,e2]at h
   |some r'=>
    simp[e1,e2]at h;subst h;obtain⟨h1,h2,h3⟩:=zf6 e2 (fun x hx=>hs x (by simp[hx]))
    obtain⟨g1,g2,g3⟩:=ztx e1 (hs e (by simp))
    refine⟨by simp only[z1m,ao,h1,g1],fun j c c' hc hc'=>?_,fun su hu x hx=>?_⟩
    ·rw[z1m]at hc hc'
     by_cases hj:j<e.cellsL.length
     ·rw[aD hj]at hc;rw[aD (by omega)]at hc'
      obtain⟨m,m1,m2,m3⟩:=g3 j c c' hc hc';exact⟨m,m1,m2,fun id hid=>by simp only[bm,aB];exact .inl (m3 id hid)⟩
     ·rw[aH (by omega)]at hc
      rw[aH (by omega),g1]at hc'
      obtain⟨m,m1,m2,m3⟩:=h2 _ c c' hc hc';exact⟨m,m1,m2,fun id hid=>by simp only[bm,aB];exact .inr (m3 id hid)⟩
    ·rcases aA.1 hx with rfl | hx
     ·exact⟨by rw[g1];exact hu e (by simp),g2⟩
     ·exact h3 su (fun y hy=>hu y (by simp[hy])) x hx
def zf3(hrow:∀(id b c:Nat) cs,ρ id=some (.blk b c)->y14 os id=some cs->y5o φ ρ H hp b c cs)(hHH:∀ b o,H b o->H' b o):∀(n:Nat) {v:Value} {d d':D},Rep φ ρ H hp v d->frz os n d=some d' ->
  (∀ id,id ∈ ids os n d->∀ cs b c,y14 os id=some cs -> ρ id=some (.blk b c)->∀ j,j<cs.length->H' b j)->Rep φ ρ' H' hp v d':=by
 intro n
 induction n using Nat.strongRecOn with
 |_ n ih=>
 intro v d d' hv h hk;cases n with
 |zero=>simp[frz]at h
 |succ n=>
  have ih':∀ m,m<=n->∀{v:Value} {d d':D},Rep φ ρ H hp v d->frz os m d=some d'->(∀ id,id ∈ ids os m d->∀ cs b c,y14 os id=some cs -> ρ id=some (.blk b c)->∀ j,j<cs.length->H' b j)->Rep φ ρ' H' hp v d':=
   fun m hm=>ih m (by omega)
  cases hv with
  |undef=>simp[frz]at h
  |bool b=>simp[frz]at h;subst h;exact .bool b
  |int k x=>simp[frz]at h;subst h;exact .int k x
  |str s=>simp[frz]at h;subst h;exact .str s
  |nilp=>simp[frz]at h;subst h;exact .nilp
  |nilfn=>simp[frz]at h;subst h;exact .nilfn
  |mapn=>simp[frz]at h;subst h;exact .mapn
  |bfn f f' v d hf hr=>simp[frz]at h
  |map b c id hid=>simp[frz]at h
  |yld b c id hid=>simp[frz]at h
  |loc b c id off hid=>
   simp only[frz]at h;split at h
   ·rename_i cs hr;simp only[ab]at h;obtain⟨r,h1,rfl⟩:=h;obtain⟨g1,g2⟩:=z1l h1;obtain⟨arr,el,r1,r2,r3,r4,r5⟩:=hrow id b c cs hid hr;have hK:=hk id (by simp[ids]) cs b c hr hid
    have hlen:r.length=cs.length - off:=by rw[g1];simp
    refine .iptr b off r (fun j=>arr.toList.getD (off+j) bu) (fun j hj=>⟨hK _ (by omega),?_⟩) (fun j d1 hd=>?_)
    ·have:off+j<arr.size:=by omega
     simp[cellOf,r1,this]
    ·have hj:j<r.length:=(ae.1 hd).1;have hja:off+j<arr.size:=by omega
     have hjc:off+j<cs.length:=by omega
     have hc:(cs.drop off)[j]? = some cs[off+j]:=by rw[cw,ac hjc]
     have hf:=g2 j _ d1 hc hd;have hr0:=r4 (off+j) arr[off+j] cs[off+j] (by simp[hja]) (ac hjc)
     have:arr.toList.getD (off+j) bu=arr[off+j]:=by simp[af,hja]
     rw[this];refine ih' n (aj _) hr0 hf (fun id' hid'=>hk id' ?_)
     simp only[ids,aA,hr,bB];exact .inr ⟨_,bA hc,hid'⟩
   ·simp at h
  |iptr b off cells vs hH hr=>
   simp only[frz,ab]at h;obtain⟨r,h1,rfl⟩:=h;obtain⟨g1,g2⟩:=z1l h1;refine .iptr b off r vs (fun j hj=>⟨hHH _ _ (hH j (by omega)).1,(hH j (by omega)).2⟩) (fun j d1 hd=>?_)
   have hj:j<cells.length:=by rw[<- g1];exact(ae.1 hd).1
   have hc:=ac hj;refine ih' n (aj _) (hr j _ hc) (g2 j _ d1 hc hd) (fun id' hid'=>hk id' ?_)
   simp only[ids,bB];exact⟨_,bA hc,hid'⟩
  |imm sp els a cap b off su vs hu hcap hex htok ha hH hr=>
   simp only[frz,ab]at h;obtain⟨r,h1,rfl⟩:=h;obtain⟨g1,g2⟩:=z1l h1;obtain⟨f1,f2,f3⟩:=zf6 h1 (fun x hx=>(hu x hx).2)
   rw[<- g1];refine .imm .none r a cap b off su vs (f3 su (fun x hx=>(hu x hx).1)) (by omega) (fun h=>by cases h) (fun k h=>by cases h) (fun hne=>ha (fun e=>hne (by subst e;simpa using g1))) (fun j hj=>⟨hHH _ _ (hH j (by omega)).1,(hH j (by omega)).2⟩) (fun j d1 hd=>?_)
   have hj:j<(yr els).length:=by rw[<- f1];exact(ae.1 hd).1
   have hc:=ac hj;obtain⟨m,m1,m2,m3⟩:=f2 j _ d1 hc hd;exact ih' m m1 (hr j _ hc) m2 (fun id' hid'=>hk id' (by simp only[ids];exact m3 id' hid'))
  |sl id off len sz ag gr b c cap a hid hl ha hc=>
   simp only[frz]at h;split at h
   ·rename_i cs hrow';split at h
    ·rename_i els hch;simp only[ab]at h;obtain⟨r,h1,rfl⟩:=h;obtain⟨arr,el,r1,r2,r3,r4,r5⟩:=hrow id b c cs hid hrow';obtain⟨c1,c2,c3,c4⟩:=z8y (fun d hd=>r5 d (bY hd)) hch
     obtain⟨g1,g2⟩:=z1l h1;obtain⟨f1,f2,f3⟩:=zf6 h1 (fun x hx=>(c4 x hx).2)
     have hK:=hk id (by simp[ids]) cs b c hrow' hid
     rw[er]at c3;have hfl:(yr els).length=len*sz:=by rw[c2];simp;omega
     have hrl:r.length=len:=by rw[g1,c1]
     have hcell:∀ j,j<len*sz->(yr els)[j]? = some (cs[off+j]?.getD .undef)/\off+j<cs.length:=by
      intro j hj;have:off+j<cs.length:=by omega
      rw[c2,aZ,if_pos hj,cw,ac this];simp[this]
     rw[<- hrl];refine .imm .none r a cap b off sz (fun j=>arr.toList.getD (off+j) bu) (f3 sz (fun x hx=>(c4 x hx).1)) (by omega) (fun h=>by cases h) (fun k h=>by cases h) (fun hne=>ha (fun e=>hne (bF.1 (by omega)))) (fun j hj=>?_) (fun j d1 hd=>?_)
     ·rw[f1,hfl]at hj;have h2:=(hcell j hj).2;refine⟨hK _ h2,?_⟩;have:off+j<arr.size:=by omega
      simp[cellOf,r1,this]
     ·have hj:j<len*sz:=by rw[<- hfl,<- f1];exact(ae.1 hd).1
      obtain⟨e1,h2⟩:=hcell j hj;have e2:(yr els)[j]? = some cs[off+j]:=by rw[e1];simp[h2]
      obtain⟨m,m1,m2,m3⟩:=f2 j _ d1 e2 hd;have hja:off+j<arr.size:=by omega
      have hr0:=r4 (off+j) arr[off+j] cs[off+j] (by simp[hja]) (ac h2)
      have:arr.toList.getD (off+j) bu=arr[off+j]:=by simp[af,hja]
      rw[this];refine ih' m m1 hr0 m2 (fun id' hid'=>?_)
      refine hk id' ?_;simp only[ids,hrow',aA,bB];refine .inr ⟨cs[off+j],?_,zlf m1 hid'⟩;refine bA (i:=j) ?_;rw[aZ,if_pos hj,cw,ac h2]
    ·simp at h
   ·simp at h
  |fn f f' cvs caps hf hs hr=>
   simp only[frz,ab]at h;obtain⟨r,h1,rfl⟩:=h;obtain⟨g1,g2⟩:=z1l h1;refine .fn f f' cvs r hf (by omega) (fun j v1 d1 hv1 hd=>?_)
   have hj:j<caps.length:=by rw[<- g1];exact(ae.1 hd).1
   have hc:=ac hj;refine ih' n (aj _) (hr j v1 _ hv1 hc) (g2 j _ d1 hc hd) (fun id' hid'=>hk id' ?_)
   simp only[ids,bB];exact⟨_,bA hc,hid'⟩
  |agg vs cs hs hr=>
   simp only[frz,ab]at h;obtain⟨r,h1,rfl⟩:=h;obtain⟨g1,g2⟩:=z1l h1;refine .agg vs r (by omega) (fun j v1 d1 hv1 hd=>?_)
   have hj:j<cs.length:=by rw[<- g1];exact(ae.1 hd).1
   have hc:=ac hj;refine ih' n (aj _) (hr j v1 _ hv1 hc) (g2 j _ d1 hc hd) (fun id' hid'=>hk id' ?_)
   simp only[ids,bB];exact⟨_,bA hc,hid'⟩
  |tup vs cs hs hr=>
   simp only[frz,ab]at h;obtain⟨r,h1,rfl⟩:=h;obtain⟨g1,g2⟩:=z1l h1;refine .tup vs r (by omega) (fun j v1 d1 hv1 hd=>?_)
   have hj:j<cs.length:=by rw[<- g1];exact(ae.1 hd).1
   have hc:=ac hj;refine ih' n (aj _) (hr j v1 _ hv1 hc) (g2 j _ d1 hc hd) (fun id' hid'=>hk id' ?_)
   simp only[ids,bB];exact⟨_,bA hc,hid'⟩
def zlp(hrow:∀(id b c:Nat) cs,ρ id=some (.blk b c)->y14 os id=some cs->y5o φ ρ H hp b c cs)(hHH:∀ b o,H b o->H' b o)(n:Nat){v:Value}{d d':D}(hv:Rep φ ρ H hp v d)(h:ybf os n d=some d')
  (hk:∀ id,id ∈ ids os n d->∀ cs b c,y14 os id=some cs -> ρ id=some (.blk b c)->∀ j,j<cs.length->H' b j):Rep φ ρ' H' hp v d':=by
 unfold ybf at h;split at h
 ·rename_i n els;simp only[ab]at h;obtain⟨r,h1,rfl⟩:=h;have h2:frz os (n+1) (.imm .exact els)=some (.imm .none r):=by simp only[frz,h1,aq]
  have h3:Rep φ ρ' H' hp v (.imm .none r):=zf3 hrow hHH (n+1) hv h2 hk;obtain⟨g1,_⟩:=z1l h1;obtain⟨cap,a,e,hc⟩:∃ cap a,v=.slice a els.length cap/\cap=els.length:=by
   cases hv with
   |imm _ _ a cap b off su vs hu hcap hex htok ha hH hr=>exact⟨cap,a,rfl,hex rfl⟩
  subst e;rw[<- g1]at h3 hc;generalize hl:r.length=m at h3;cases h3 with
  |imm _ _ _ _ b off su vs hu hcap hex htok ha hH hr=>rw[<- g1];exact .imm .exact r a cap b off su vs hu hcap (fun _=>hc) (fun k h=>by cases h) ha hH hr
 ·exact zf3 hrow hHH n hv h hk
def zwz(hrow:∀(id b c:Nat) cs,ρ id=some (.blk b c)->y14 os id=some cs->y5o φ ρ H hp b c cs)(hHH:∀ b o,H b o->H' b o)(n:Nat){v:Value}{d d':D}(hv:Rep φ ρ H hp v d)(h:yc4 os n d=some d')
  (hk:∀ id,id ∈ ids os n d->∀ cs b c,y14 os id=some cs -> ρ id=some (.blk b c)->∀ j,j<cs.length->H' b j):Rep φ ρ' H' hp v d':=by
 unfold yc4 at h;split at h
 ·rename_i n cs;simp only[ab]at h;obtain⟨r,h1,rfl⟩:=h;obtain⟨g1,g2⟩:=z1l h1;cases hv with
  |tup vs _ hs hr=>
   refine .tup vs r (by omega) (fun j v1 d1 hv1 hd=>?_)
   have hj:j<cs.length:=by rw[<- g1];exact(ae.1 hd).1
   have hc:=ac hj;refine zlp hrow hHH n (hr j v1 _ hv1 hc) (g2 j _ d1 hc hd) (fun id' hid'=>hk id' ?_)
   simp only[ids,bB];exact⟨_,bA hc,hid'⟩
 ·exact zlp hrow hHH n hv h hk
def zx2(hrow:∀(id b c:Nat) cs,ρ id=some (.blk b c)->y14 os id=some cs->y5o φ ρ H hp b c cs)(hHH:∀ b o,H b o->H' b o)(k:Bool){v:Value}{d d':D}(hv:Rep φ ρ H hp v d)(h:ybe k os d=some d')
  (hk:∀ id,id ∈ ids os depth d->∀ cs b c,y14 os id=some cs -> ρ id=some (.blk b c)->∀ j,j<cs.length->H' b j):Rep φ ρ' H' hp v d':=by
 cases k with
 |true=>exact zwz hrow hHH depth hv h hk
 |false=>exact zf3 hrow hHH depth hv h hk
end
end Dv
namespace Dv
open Go (Value Program World Act Oper Operand Code)
def yc(F:Phi):Operand->Option Opd
 |.tmp t=>some (.t t)
 |.const (.agg cs)=>(y2j cs.toList).map fun ds=>.c (.agg ds)
 |.const v=>(y40 v).map .c
 |.func f=>(F f).map .f
 |.global g=>(glTab.lookup g).map fun cs=>.c (.iptr (cs.map fun p=>.int p.1 p.2))
def y2t(F:Phi):List Operand->Option (List Opd)
 |[]=>some []
 |x::xs=>match yc F x,y2t F xs with
  |some y,some ys=>some (y::ys)
  |_,_=>none
def y5j(F:Phi):List (Nat × Operand)->Option (List (Nat × Opd))
 |[]=>some []
 |(i,x)::xs=>match yc F x,y5j F xs with
  |some y,some ys=>some ((i,y)::ys)
  |_,_=>none
def y3m(F:Phi):Option Operand->Option (Option Opd)
 |none=>some none
 |some x=>(yc F x).map some
def o1{α β : Type}(a:Option α)(f : α -> β):Option β:=a.map f
def o2{α β γ : Type}(a:Option α)(b:Option β)(f : α -> β -> γ):Option γ:=match a,b with | some a,some b=>some (f a b) | _,_=>none
def o3{α β γ δ : Type}(a:Option α)(b:Option β)(c:Option γ)(f : α -> β -> γ -> δ):Option δ:=match a,b,c with | some a,some b,some c=>some (f a b c) | _,_,_=>none
def o4{α β γ δ ε : Type}(a:Option α)(b:Option β)(c:Option γ)(d:Option δ)(f : α -> β -> γ -> δ -> ε):Option ε:=match a,b,c,d with | some a,some b,some c,some d=>some (f a b c d) | _,_,_,_=>none
def y93(T F:Phi):Go.Op->Option DOp
 |.move x=>o1 (yc F x) .move
 |.assign x=>o1 (yc F x) .assign
 |.pick c a b=>o3 (yc F c) (yc F a) (yc F b) .pick
 |.alloc t=>o1 (T t) .alloc
 |.box t x=>o2 (T t) (yc F x) .box
 |.build t parts=>o2 (T t) (y5j F parts.toList) .build
 |.buildSlice t len parts=>o2 (T t) (y5j F parts.toList) fun t ps=>.bslice false t len ps
 |.load t a=>o2 (T t) (yc F a) .load
 |.store t a x=>o3 (T t) (yc F a) (yc F x) .store
 |.binOp op t x y _=>o3 (T t) (yc F x) (yc F y) (.bin op)
 |.unOp op _ x=>o1 (yc F x) (.un op)
 |.convert s d x=>o3 (T s) (T d) (yc F x) .conv
 |.makeFunc (.func f) first caps=>if first.size=0 then o2 (F f) (y2t F caps.toList) .mkfn else
   (match first.toList,caps.toList with
   |[x],[]=>o2 (F f) (yc F x) .mkbfn
   |_,_=>none)
 |.makeMap t none=>o1 (T t) .mkmap
 |.makeSlice t l c=>o3 (T t) (yc F l) (yc F c) (.mkslice false)
 |.slice t x lo hi mx=>if mx.isSome=true/\hi.isSome=false then none else
   (match T t,yc F x,y3m F lo,y3m F hi,y3m F mx with
   |some t,some x,some lo,some hi,some mx=>some (.slice t x lo hi mx)
   |_,_,_,_,_=>none)
 |.fieldAddr t x f=>o2 (T t) (yc F x) fun t x=>.faddr t x f
 |.field t x f=>o2 (T t) (yc F x) fun t x=>.field t x f
 |.indexAddr t x i=>o3 (T t) (yc F x) (yc F i) .iaddr
 |.index t x i=>o3 (T t) (yc F x) (yc F i) .index
 |.lookup t m k ok=>o3 (T t) (yc F m) (yc F k) fun t m k=>.lookup t m k ok
 |.mapUpdate t m k v=>o4 (T t) (yc F m) (yc F k) (yc F v) .mapset
 |.extract x i=>o1 (yc F x) fun x=>.extract x i
 |.nilCheck x=>o1 (yc F x) fun x=>.nilc x
 |.call { callee:=.value f,args,argTypes:=_ }=>o2 (yc F f) (y2t F args.toList) (.call 0)
 |.call { callee:=.builtin .append,args,argTypes }=>(match args.toList,argTypes.toList with
  |[x,y],[t,t2]=>o4 (T t) (T t2) (yc F x) (yc F y) (.append 0)
  |_,_=>none)
 |.call { callee:=.builtin .len,args,argTypes }=>(match args.toList,argTypes.toList with
  |[x],[t]=>o2 (T t) (yc F x) .len
  |_,_=>none)
 |.call { callee:=.builtin .max,args,argTypes:=_ }=>o1 (y2t F args.toList) .maxi
 |.call { callee:=.builtin .min,args,argTypes:=_ }=>o1 (y2t F args.toList) .mini
 |.call { callee:=.builtin .copy,args,argTypes }=>(match args.toList,argTypes.toList with
  |[x,y],[t,t2]=>o4 (T t) (T t2) (yc F x) (yc F y) .copy
  |_,_=>none)
 |.call { callee:=.builtin .clear,args,argTypes }=>(match args.toList,argTypes.toList with
  |[x],[t]=>o2 (T t) (yc F x) .clr
  |_,_=>none)
 |_=>none
def yx:DOp->DOp
 |.bslice _ t len ps=>.bslice false t len ps
 |.mkslice _ t l c=>.mkslice false t l c
 |.append _ t t2 x y=>.append 0 t t2 x y
 |.call md f as=>.call (if md<5 then 0 else md) f as
 |.b2s s d x=>.conv s d x
 |.s2b s d x=>.conv s d x
 |.mkcap t l c=>.mkslice false t l c
 |.reslice t x h=>.slice t x none (some h) none
 |.ibox t x=>.box t x
 |.mkcall f as=>.call 0 f as
 |.iload t a=>.load t a
 |op=>op
def y57(ops:List Oper):Option (Nat × Bool)->Option (Option (Nat × Bool))
 |none=>some none
 |some (j,b)=>(match ops[j]? with
  |some o=>(match o.dst with
   |some d=>some (some (d,b))
   |none=>none)
  |none=>none)
def y3c(T F:Phi)(all:List Oper):List Oper->Option (List y1g)
 |[]=>some []
 |o::os=>(match y93 T F o.op,y57 all o.guard,y3c T F all os with
  |some op,some gd,some r=>some (⟨o.dst,op,gd⟩::r)
  |_,_,_=>none)
def y1e:List y1g->List y1g
 |[]=>[]
 |o::os=>⟨o.dst,yx o.op,o.gd⟩::y1e os
abbrev yb1:DC:=.cond (.c .undef) .skip .skip
structure yai where
 t:Nat
 t':Nat
 mt:Nat
 kt:Nat
 vt:Nat
 dE:Nat
 dX:Nat
 oE:Oper
 oX:Oper
 oS:Oper
def y3x(q:yai):List y1g:=
 [⟨some q.dX,.move (.c (.bool true)),none⟩,⟨some q.dE,.pick (.t q.dX) (.c (.bool true)) (.c (.bool true)),none⟩,⟨some q.dX,.pick (.t q.dE) (.c .undef) (.c .undef),none⟩,⟨some q.dE,.move (.c .undef),none⟩,
  ⟨none,.mapset q.t' (.t q.mt) (.t q.kt) (.t q.vt),none⟩]
def y3f:List Oper->Option (List Oper × Oper × Oper × Oper)
 |[a,b,c]=>some ([],a,b,c)
 |x::r=>(match y3f r with
  |some (l,p)=>some (x::l,p)
  |none=>none)
 |[]=>none
def y8o(t':Nat)(oE oX oS:Oper):Option yai:=
 match oE.op,oE.dst,oX.op,oX.dst,oS.op with
 |.mapEntry t (.tmp mt) (.tmp kt),some dE,.extract (.tmp dE') 1,some dX,.entryStore t2 (.tmp mt2) (.tmp dX') (.tmp vt)=>if dE=dE'/\dX=dX'/\t=t2/\mt=mt2/\oE.guard.isNone=true/\oX.guard.isNone=true/\oS.guard.isNone=true/\oS.dst.isNone=true then some ⟨t,t',mt,kt,vt,dE,dX,oE,oX,oS⟩else none
 |_,_,_,_,_=>none
def asgT(T:Phi)(oE:Oper):Option Nat:=
 match oE.op with
 |.mapEntry t _ _=>T t
 |_=>none
def y9r(T F:Phi)(ops:List Oper):Option (List y1g):=
 match y3f ops with
 |some (pre,oE,oX,oS)=>(match y3c T F ops pre,asgT T oE with
  |some p,some t'=>(match y8o t' oE oX oS with
   |some q=>some (p++y3x q)
   |none=>none)
  |_,_=>none)
 |none=>none
def y2y(T F:Phi):Code->Option DC
 |.skip=>some .skip
 |.region _ ops dr=>some (match y3c T F ops.toList ops.toList with
  |some ds=>.region dr [] ds
  |none=>if dr=true then(match y9r T F ops.toList with
   |some ds=>.region false [] ds
   |none=>yb1)else yb1)
 |.seq a b=>o2 (y2y T F a) (y2y T F b) .seq
 |.cond c a b=>o3 (yc F c) (y2y T F a) (y2y T F b) .cond
 |.block id a=>o1 (y2y T F a) (.block id)
 |.loop a=>o1 (y2y T F a) .loop
 |.rangeFunc f ps asg body=>o3 (yc F f) (y2y T F asg) (y2y T F body) fun f a b=>.rfunc f ps.toList a b
 |.exit id=>some (.exit id)
 |.ret=>some .ret
 |_=>none
def y2m:DC->DC
 |.region dr _ ops=>.region dr [] (y1e ops)
 |.seq a b=>.seq (y2m a) (y2m b)
 |.cond c a b=>.cond c (y2m a) (y2m b)
 |.block id a=>.block id (y2m a)
 |.loop a=>.loop (y2m a)
 |.rfunc f ps asg body=>.rfunc f ps (y2m asg) (y2m body)
 |c=>c
section
variable{P:Program}{E:Env}{CL:y21}{F:Phi}{T:Phi}{B:Nat}{ρ : Rho}{H:HS}{os:List Obj}{w:World}{a:Act}{sl:List D}
def z2w{t:Nat}(hs:yv F ρ H w.heap a.tmps.toList sl):Rep F ρ H w.heap (a.eval (.tmp t)) (yq sl (.t t)):=by
 simp only[Act.eval,yq]
 by_cases ht:t<sl.length
 ·obtain⟨v,hv,hr⟩:=hs.get (ac ht);have h1:a.tmps.getD t bu=v:=by
   have:a.tmps[t]? = some v:=by simpa using hv
   simp[az,this]
  rw[h1,af,ac ht];exact hr
 ·have ht':sl.length<=t:=Nat.le_of_not_lt ht;have h0:a.tmps.size=sl.length:=by simpa using hs.1
  have h1:a.tmps[t]? = none:=Array.getElem?_eq_none (by rw[h0];exact ht')
  have h2:sl[t]? = none:=aU ht';rw[az,h1,af,h2];exact .u0
def zf(hB:HB H w.heap){x:Operand}{y:Opd}(hs:yv F ρ H w.heap a.tmps.toList sl)(h:yc F x=some y):Rep F ρ H w.heap (a.eval x) (yq sl y):=by
 unfold yc at h;split at h
 ·rename_i t;simp at h;subst h;exact z2w hs
 ·rename_i cs;simp only[ab]at h;obtain⟨ds,h1,rfl⟩:=h;have:=(z51 (φ:=F) (ρ:=ρ) (H:=H) (hp:=w.heap) h1).agg;simpa[Act.eval,yq]using this
 ·simp only[ab]at h;obtain⟨d,h1,rfl⟩:=h;exact z9c h1
 ·simp only[ab]at h;obtain⟨f',h1,rfl⟩:=h;exact .fn _ f' #[] [] h1 rfl (fun j v d hv=>by simp at hv)
 ·rename_i g;simp only[ab]at h;obtain⟨cs,h1,rfl⟩:=h;simp only[Act.eval,yq];refine .iptr g 0 _ (fun j=>.int (cs[j]?.getD (.i64,0)).1 (cs[j]?.getD (.i64,0)).2) (fun j hj=>?_) (fun j d hd=>?_)
  ·have hj':j<cs.length:=by simpa using hj
   have e:=hB.gl g cs h1 j (cs[j]).1 (cs[j]).2 (by simp[hj'])
   rw[bM];simpa[hj']using e
  ·rw[ch]at hd;cases hc:cs[j]? with
   |none=>rw[hc]at hd;simp at hd
   |some p=>rw[hc]at hd;simp only[aq,aa]at hd;subst hd;exact .int _ _
def z4m(hB:HB H w.heap){xs:List Operand}{ys:List Opd}(hs:yv F ρ H w.heap a.tmps.toList sl)(h:y2t F xs=some ys):yv F ρ H w.heap (xs.map a.eval) (ys.map (yq sl)):=by
 induction xs generalizing ys with
 |nil=>simp[y2t]at h;subst h;exact .nil
 |cons x xs ih=>
  simp only[y2t]at h;cases h1:yc F x with
  |none=>simp[h1]at h
  |some y=>cases h2:y2t F xs with
   |none=>simp[h1,h2]at h
   |some ys'=>simp[h1,h2]at h;subst h;exact .cons (zf hB hs h1) (ih h2)
def zhj(hB:HB H w.heap){xs:List (Nat × Operand)}{ys:List (Nat × Opd)}(hs:yv F ρ H w.heap a.tmps.toList sl)(h:y5j F xs=some ys):ygd F ρ H w.heap (xs.map fun p=>(p.1,a.eval p.2)) (ys.map fun p=>(p.1,yq sl p.2)):=by
 induction xs generalizing ys with
 |nil=>simp[y5j]at h;subst h;exact⟨rfl,.nil⟩
 |cons x xs ih=>
  obtain⟨i,x⟩:=x;simp only[y5j]at h;cases h1:yc F x with
  |none=>simp[h1]at h
  |some y=>cases h2:y5j F xs with
   |none=>simp[h1,h2]at h
   |some ys'=>simp[h1,h2]at h;subst h;obtain⟨e1,e2⟩:=ih h2;exact⟨by simp only[al,e1],by simp only[al];exact .cons (zf hB hs h1) e2⟩
def zbr(hB:HB H w.heap){x:Option Operand}{y:Option Opd}(hs:yv F ρ H w.heap a.tmps.toList sl)(h:y3m F x=some y):yge F ρ H w.heap (x.map a.eval) (y.map (yq sl)):=by
 cases x with
 |none=>simp[y3m]at h;subst h;trivial
 |some x=>simp only[y3m,ab]at h;obtain⟨z,h1,rfl⟩:=h;exact zf hB hs h1
end
end Dv
