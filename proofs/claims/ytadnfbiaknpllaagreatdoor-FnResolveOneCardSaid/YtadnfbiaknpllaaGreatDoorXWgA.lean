/-
  A VALUE-LEVEL READING OF THE LOADED CODE: abstract values, objects, operations, and a function 'execC' that runs a body on them. Nothing here speaks of one program: the program is a parameter. The proofs that what it yields is what the machine does are in the texts that follow.
-/
import Derived.WalkKit
import Derived.KernelRfl
import Derived.Orders
import Derived.Lib.Strings
import Derived.Laws.BytesArg
import Derived.Laws.StructEq
universe u v
theorem ar{α:Type u}{a:α}:(some a).isSome=true:=rfl
theorem an{α:Type u}{a b:α}:(some a).getD b=a:=rfl
abbrev aw := @Option.some.injEq
abbrev ak := @Bool.and_self
theorem ad{α:Sort u}(a b:α):(bif true then a else b)=a:=rfl
abbrev aG := @List.length_append
theorem aE{α:Type u}{a:α}{as:List α}:(a::as).length=as.length+1:=rfl
theorem al{α:Sort u}(a b:α):(bif false then a else b)=b:=rfl
theorem aL{α:Type u}:([]:List α).length=0:=rfl
abbrev bu := @Bool.and_eq_true
abbrev aP := @Prod.mk.injEq
abbrev cF := @List.getElem?_eq_some_iff
abbrev cJ := @List.getElem?_eq_getElem
theorem bG(n:Nat):(n:Int).toNat=n:=rfl
abbrev bp := @Bool.not_false
abbrev bj := @Bool.true_and
abbrev bX := @decide_eq_true_eq
abbrev bh := @Bool.true_or
abbrev cn := @beq_self_eq_true
abbrev cO := @beq_eq_false_iff_ne
abbrev bQ := @Bool.and_true
abbrev ct := @decide_eq_false
abbrev bV := @Bool.not_true
abbrev dX := @List.getElem?_append_left
abbrev cK := @Bool.false_and
abbrev cM := @decide_eq_true
abbrev eZ := @List.getElem?_append_right
abbrev de := @List.getElem_mem
abbrev df := @List.mem_append
abbrev cq := @Nat.le_refl
abbrev fa := @decide_eq_false_iff_not
abbrev cU := @Nat.lt_or_ge
abbrev gp := @List.getD_eq_getElem?_getD
abbrev fA := @Option.map_eq_some_iff
abbrev ej := @List.mem_singleton
abbrev cN := @Nat.zero_le
abbrev cL := @beq_iff_eq
abbrev fj := @List.getElem?_take
abbrev dz := @Nat.zero_add
abbrev gq := @Nat.mul_le_mul_right
abbrev bf := @if_pos
abbrev bg := @if_neg
abbrev fb := @Bool.not_eq_true'
abbrev fN := @List.append_assoc
abbrev fO := @List.all_eq_true
theorem fB{α:Type u}(as:List α):[]++as=as:=rfl
abbrev eQ := @List.length_map
abbrev d4 := @Bool.or_true
abbrev kz := @Array.getElem?_eq_some_iff
abbrev iO := @List.mem_of_getElem?
abbrev eR := @List.map_cons
abbrev fe := @List.mem_cons
abbrev ka := @Int.eq_ofNat_of_zero_le
abbrev mE := @List.eq_nil_of_length_eq_zero
abbrev gu := @Bool.or_eq_true
abbrev eE := @Nat.add_mul
abbrev eG := @decide_true
abbrev jm := @List.getElem?_drop
abbrev kA := @List.getElem?_eq_none
abbrev ie := @Option.some.inj
abbrev fP := @Int.ofNat_lt
abbrev ig := @List.drop_zero
abbrev mF := @List.getElem?_replicate
abbrev ou := @Array.getD_eq_getD_getElem?
abbrev jG := @List.getElem?_map
abbrev lj := @Bool.or_eq_false_iff
abbrev kB := @Bool.false_eq_true
abbrev kC := @Nat.lt_of_lt_of_le
abbrev pG := @Array.getElem?_setIfInBounds
abbrev kD := @List.getElem?_set
abbrev ll := @of_decide_eq_true
abbrev iy := @Nat.one_mul
theorem iP{α:Type u}{β:Type v}(a:α)(f:α->β):Option.map f (some a)=some (f a):=rfl
abbrev mG := @decide_eq_decide
abbrev qS := @Array.getElem?_eq_none
abbrev kE := @Nat.add_assoc
abbrev kb := @Bool.or_self
abbrev ln := @Bool.false_or
abbrev pH := @Nat.eq_zero_or_pos
abbrev nb := @Bool.eq_iff_iff
abbrev ov := @List.length_take
abbrev lP := @Bool.or_false
abbrev qT := @List.getElem_of_mem
abbrev pI := @List.size_toArray
abbrev lQ := @Nat.le_trans
abbrev gV := @congrArg
abbrev xb := @Array.getElem?_eq_getElem
abbrev xc := @List.pairwise_iff_getElem
abbrev uW := @Array.replicate_succ
abbrev nc := @decide_false
abbrev uX := @List.append_toArray
abbrev lR := @bne_iff_ne
abbrev sQ := @Bool.not_eq_true
abbrev sR := @List.not_mem_nil
abbrev uY := @Bool.false_ne_true
abbrev xd := @List.contains_eq_mem
abbrev uZ := @List.ext_getElem?
abbrev sS := @List.append_nil
abbrev u0 := @List.push_toArray
abbrev zM := @List.take_of_length_le
abbrev zN := @Nat.eq_of_beq_eq_true
theorem ow{α:Type u}{a:α}{as bs:List α}:(a::as)++bs=a::(as++bs):=rfl
abbrev lS := @if_false
abbrev xe := @List.drop_length
abbrev qU := @Nat.mul_one
abbrev Du := @Array.getElem?_replicate
abbrev xf := @Nat.not_lt_zero
abbrev qV := @decide_not
abbrev xg := @List.drop_drop
abbrev xh := @Nat.testBit_or
abbrev Dv := @List.length_replicate
abbrev IF := @List.take_append_of_le_length
abbrev Dw := @List.mem_cons_of_mem
abbrev zO := @List.map_append
abbrev xi := @Nat.add_comm
abbrev xj := @List.getElem_map
abbrev Dx := @if_true
abbrev pJ := @Ne.symm
abbrev pK := @Nat.zero_mul
abbrev zP := @List.length_set
abbrev Dy := @getElem!_pos
abbrev zQ := @or_false
theorem sU{α:Type u}{a:α}{l:List α}{f:α->Bool}:(a::l).all f=(f a&&l.all f):=rfl
abbrev nf := @List.take_add_one
abbrev IG := @Nat.sub_self
abbrev Dz := @Nat.mul_comm
abbrev DC := @List.take_length
abbrev IH := @List.nodup_cons
namespace Go.V
open Go
structure di where
 U:Type
 El:U->Type
 kF:DecidableEq U
 sz:U->Nat
 zero:(c:U)->El c
inductive AV (K:di) where
 |any
 |int (k:IntKind) (n:Int)
 |bool (b:Bool)
 |str (s:List UInt8)
 |dD
 |dt
 |mp
 |fn (f:Nat) (caps:List (AV K))
 |ptr (h off:Nat)
 |sl (h:Nat)
 |ep (h st i off:Nat)
 |ax (c:K.U) (l:List (K.El c))
 |rp (c:K.U) (x:K.El c) (off:Nat)
 |agg (l:List (AV K))
 |bA (l:List (AV K))
 |opt (g:Nat) (want:Bool) (v:AV K)
 |np (h:Nat)
 |vw (h st lo hi:Nat)
inductive Ob (K:di) where
 |dead
 |box (cells:List (AV K))
 |arr (c:K.U) (l:List (K.El c))
 |gW (c:K.U) (l:List (K.El c))
 |tree (c:K.U) (l:List (K.El c))
 |opn (c:K.U) (l:List (K.El c)) (i off:Nat) (cs:List (AV K))
structure Base where
 inv:(Nat->Prop)->World->Prop
 mono:∀{S S':Nat->Prop}{w w':World},(∀b,S b->S' b)->(∀b,S b->w'.heap[b]?=w.heap[b]?)->inv S w->inv S' w'
def Base.OA:Base:=⟨fun _ _=>True,fun _ _ h=>h⟩
structure bC (K:di) where
 cells:(c:K.U)->K.El c->List (AV K)
 dec:(c:K.U)->List (AV K)->Option (K.El c×Bool)
 byte:(c:K.U)->Option ((K.El c->UInt8)×(UInt8->K.El c))
 find:List (AV K)->Option K.U
 base:Base:=Base.OA
 qW:Option TypeId:=none
 pL:K.U->Option TypeId:=fun _=>none
variable {K :di}
def AV.cC:AV K->List (AV K)
 |.agg l=>l
 |v=>[v]
def AV.known:AV K->Bool
 |.any|.opt ..=>false
 |_=>true
def AV.jH:AV K->Bool
 |.opt ..=>true
 |_=>false
def AV.one:AV K->Bool
 |.any|.opt .. |.agg _|.bA _|.vw ..=>false
 |_=>true
structure St (K:di) where
 tm:List (AV K)
 H:List (Ob K)
 ok:Bool
inductive Ex where
 |normal
 |exit (id:Nat)
 |ret
def Ex.ox:Ex->Exit
 |.normal=>.normal
 |.exit id=>.exit id
 |.ret=>.ret
structure bM (K:di) where
 n:Nat
 ins:List Nat
 outs:List Nat
 run:{R:Type}->List (AV K)->List (Ob K)->(Ex->List (AV K)->List (Ob K)->Option R)->Option R
inductive Mode where
 |plain|jo|jI|pass|aX|fresh
 deriving DecidableEq
def IJ{R:Type}(a b:Option R):Option R:=match a with
 |none=>b
 |some r=>some r
theorem adn{R:Type}{a b:Option R}{r:R}(h:IJ a b=some r):a=some r\/b=some r:=by
 cases a with
 |none=>exact .inr h
 |some x=>exact .inl h
structure Cx (K:di) where
 P:Program
 D:bC K
 ty:TypeId->Option K.U
 call:FuncId->List (AV K)->List (Ob K)->Option (AV K×List (Ob K)×Bool)
 mode:FuncId->Mode
 loop:Nat->Option (bM K)
 oy:TypeId->List (Option K.U)
 cut:Bool:=false
 xk:List (List (Option K.U)):=[]
 OB:List Bool:=[]
 mv:Bool:=false
 deep:K.U->Bool:=fun _=>false
 opn:Bool:=false
 vws:Bool:=false
 vtl:Bool:=false
 lz:Bool:=false
 alt:Bool->FuncId->List (AV K)->List (Ob K)->Option (AV K×List (Ob K)×Bool):=fun _ _ _ _=>none
 qX:Bool->FuncId->Mode:=fun _=>mode
 zR:{R:Type}->Option R->Option R->Option R:=fun a b=>IJ a b
 gs:List (Nat×Bool):=[]
def known(cx:Cx K)(g:Nat):Option Bool:=(cx.gs.find? fun p=>p.1==g).map (·.2)
mutual
def lT:Value->Option (AV K)
 |.bool b=>some (.bool b)
 |.int k n=>some (.int k n)
 |.string s=>some (.str s.data.toList)
 |.pointer none=>some .dD
 |.slice none 0 0=>some .dt
 |.map none=>some .mp
 |.agg cs=>(zS cs.toList).map .agg
 |_=>none
def zS:List Value->Option (List (AV K))
 |[]=>some []
 |v::r=>match lT v,zS r with
  |some x,some l=>some (x::l)
  |_,_=>none
end
def covers(tm:List (AV K)):Nat->Nat×Bool->Nat×Bool->Bool
 |0,g,t=>g.1==t.1&&g.2==t.2
 |n+1,g,t=>(g.1==t.1&&g.2==t.2)||(match tm[g.1]? with
  |some (.opt g1 w1 _)=>covers tm n (g1,w1) t
  |_=>false)
def dT(tm:List (AV K))(gs:List (Nat×Bool)):Operand->AV K
 |.tmp t=>match tm[t]? with
   |some (.opt g w v)=>if gs.any (fun p=>covers tm 6 p (g,w))then v else .any
   |some v=>v
   |none=>.any
 |.const v=>(lT v).getD .any
 |.global _=>.any
 |.func f=>.fn f []
def xl(tm:List (AV K)):Nat->Nat×Bool->Option Bool
 |0,_=>none
 |n+1,(g,w)=>match tm[g]? with
  |some (.bool b)=>some (b==w)
  |some (.opt g1 w1 (.bool b))=>(xl tm n (g1,w1)).map fun e=>e&&(b==w)
  |_=>none
mutual
def merge(b:Bool):AV K->AV K->AV K
 |.int k m,.int k' n=>if k=k' then .int k (cond b m n)else .any
 |.bool m,.bool n=>.bool (cond b m n)
 |.str m,.str n=>.str (cond b m n)
 |.ax c l,.ax c' l'=>match K.kF c c' with
   |.isTrue h=>.ax c' (cond b (h ▸ l) l')
   |.isFalse _=>.any
 |.agg l,.agg l'=>if l.length=l'.length then .agg (merges b l l')else .any
 |.dt,.dt=>.dt
 |.dD,.dD=>.dD
 |_,_=>.any
def merges(b:Bool):List (AV K)->List (AV K)->List (AV K)
 |x::r,y::s=>merge b x y::merges b r s
 |_,_=>[]
end
def oz(op:BinOp)(k:IntKind)(x y:Int):Int:=
 let a:=BitVec.ofInt k.bits x
 let b:=BitVec.ofInt k.bits y
 k.wrap ((match op with
   |.and=>(a&&& b)|.or=>(a|||b)|.xor=>(a^^^b)|_=>(a&&& ~~~b)).toNat)
def OC(k:IntKind)(x y:Int):Int:=k.wrap (x*2^(min y.toNat k.bits))
def IK(k:IntKind)(x y:Int):Int:=x.fdiv (2^(min y.toNat k.bits))
def au(a b:List UInt8):Bool:=decide (a.length+b.length<=4611686018427387904)
def zT(a b:List UInt8):Bool:=Op.bytesLess a b
def IL(op:BinOp)(k:IntKind)(a b:Int):Option (AV K×Bool):=
 match op with
 |.add=>some (.int k (k.wrap (a+b)),true)
 |.sub=>some (.int k (k.wrap (a-b)),true)
 |.mul=>some (.int k (k.wrap (a*b)),true)
 |.quo=>some (.int k (k.wrap (a.tdiv b)),b !=0)
 |.rem=>some (.int k (a.tmod b),b !=0)
 |.and|.or|.xor|.andNot=>some (.int k (oz op k a b),true)
 |.eql=>some (.bool (a==b),true)
 |.neq=>some (.bool (a !=b),true)
 |.lss=>some (.bool (decide (a<b)),true)
 |.leq=>some (.bool (decide (a<=b)),true)
 |.gtr=>some (.bool (decide (b<a)),true)
 |.geq=>some (.bool (decide (b<=a)),true)
 |.shl|.shr=>none
def IM(op:BinOp)(a b:List UInt8):Option (AV K×Bool):=
 match op with
 |.add=>some (.str (a++b),au a b)
 |.eql=>some (.bool (a==b),true)
 |.neq=>some (.bool (!(a==b)),true)
 |.lss=>some (.bool (zT a b),true)
 |.leq=>some (.bool (zT a b||a==b),true)
 |.gtr=>some (.bool (!(zT a b||a==b)),true)
 |.geq=>some (.bool (!zT a b),true)
 |_=>none
def OD(P:Program)(t:TypeId):Bool:=P.underlying t matches some .string
def IN(P:Program)(t:TypeId):Bool:=P.underlying t matches some .bool
def IP(op:UnOp):AV K->Option (AV K×Bool)
 |.bool b=>match op with
   |.not=>some (.bool (!b),true)
   |_=>none
 |.int k n=>match op with
   |.neg=>some (.int k (k.wrap (0-n)),true)
   |.xor=>some (.int k (oz .xor k (if k.signed then -1 else k.max) n),true)
   |_=>none
 |_=>none
def fC(P:Program)(t:TypeId):Option Nat:=(P.info? t).map (·.size)
def IQ(P:Program)(t:TypeId):Option Bool:=
 match P.underlying t with
 |some (.struct _)|some (.array _ _)=>some true
 |some _=>some false
 |none=>none
def DD(P:Program)(t:TypeId)(f:Nat):Option Field:=
 match P.underlying t with
 |some (.struct fs)=>fs[f]?
 |_=>none
def elemOf?(P:Program)(t:TypeId):Option TypeId:=
 match P.underlying t with
 |some (.slice e)=>some e
 |_=>none
def zeroOf(P:Program)(t:TypeId):Option (AV K):=
 match P.info? t with
 |some i=>match i.zero with
  |some v=>lT v
  |none=>none
 |none=>none
def zU(P:Program)(t:TypeId):Option IntKind:=
 match P.underlying t with
 |some (.int k)=>some k
 |_=>none
def oC(P:Program)(t:TypeId)(cs:List (AV K))(off:Nat):Option (AV K):=
 match IQ P t,fC P t with
 |some true,some n=>if off+n<=cs.length then some (.agg ((cs.drop off).take n))else none
 |some false,some _=>cs[off]?
 |_,_=>none
def zV(P:Program)(rec:TypeId->AV K->AV K->Option Bool)(xs ys:List (AV K)):List Field->Option Bool
 |[]=>some true
 |f::fs=>if f.name= "_" then none else
  match oC P f.type xs f.offset,oC P f.type ys f.offset with
  |some a,some b=>match rec f.type a b,zV P rec xs ys fs with
   |some p,some q=>some (p&&q)
   |_,_=>none
  |_,_=>none
def xm(P:Program):Nat->TypeId->AV K->AV K->Option Bool
 |0,_,_,_=>none
 |n+1,t,.int k a,.int k' b=>if k=k' then(match P.underlying t with
  |some (.int _)=>some (a==b)
  |_=>none)else none
 |n+1,t,.bool a,.bool b=>(match P.underlying t with
  |some .bool=>some (a==b)
  |_=>none)
 |n+1,t,.str a,.str b=>(match P.underlying t with
  |some .string=>some (a==b)
  |_=>none)
 |n+1,t,.agg xs,.agg ys=>(match P.underlying t with
  |some (.struct fs)=>if P.stoodInHeld t then none else zV P (xm P n) xs ys fs.toList
  |_=>none)
 |_+1,_,_,_=>none
def IS(P:Program)(t:TypeId):Bool:=P.underlying t matches some (.pointer _)
def xn(P:Program)(op:BinOp)(t:TypeId)(e:Bool):Option (AV K×Bool):=if IS P t then(match op with
 |.eql=>some (.bool e,true)
 |.neq=>some (.bool (!e),true)
 |_=>none)else none
def IT(P:Program)(op:BinOp)(t:TypeId):AV K->AV K->Option (AV K×Bool)
 |.int k a,.int k' b=>match op with
   |.shl=>some (.int k (OC k a b),decide (0<=b))
   |.shr=>some (.int k (IK k a b),decide (0<=b))
   |_=>if k=k' then IL op k a b else none
 |.bool a,.bool b=>if IN P t then(match op with
   |.eql=>some (.bool (a==b),true)
   |.neq=>some (.bool (!(a==b)),true)
   |_=>none)else none
 |.str a,.str b=>IM op a b
 |.agg a,.agg b=>match op with
   |.eql=>if P.eqGuardType P.depth t then none else(xm P 6 t (.agg a) (.agg b)).map fun e=>(.bool e,true)
   |.neq=>if P.eqGuardType P.depth t then none else(xm P 6 t (.agg a) (.agg b)).map fun e=>(.bool (!e),true)
   |_=>none
 |.dD,.dD=>xn P op t true
 |.ptr _ _,.dD=>xn P op t false
 |.rp _ _ _,.dD=>xn P op t false
 |.ep _ _ _ _,.dD=>xn P op t false
 |_,_=>none
def inB(n:Int)(len:Nat):Bool:=decide (0<=n)&&decide (n<len)
def bN(lo hi:Int)(len:Nat):Bool:=decide (0<=lo)&&(decide (lo<=hi)&&decide (hi<=len))
mutual
def AV.closed:AV K->Bool
 |.int .. |.bool _|.str _|.dD|.dt|.mp|.ax .. |.rp .. |.any=>true
 |.ptr .. |.sl _|.ep .. |.opt .. |.np _|.vw ..=>false
 |.fn _ l|.agg l|.bA l=>ij l
def ij:List (AV K)->Bool
 |[]=>true
 |v::r=>v.closed&&ij r
end
def u4(H:List (Ob K)):AV K->AV K
 |.sl h=>match H[h]? with
   |some (.arr c l)=>.ax c l
   |some (.gW c l)=>.ax c l
   |some (.tree c l)=>.ax c l
   |_=>.any
 |v=>v
mutual
def jo(D:bC K)(H:List (Ob K)):AV K->AV K
 |.sl h=>match H[h]? with
   |some (.arr c l)=>.ax c l
   |some (.gW c l)=>.ax c l
   |some (.tree c l)=>.ax c l
   |_=>.any
 |.ptr h off=>match H[h]? with
   |some (.box cs)=>match D.find (cs.map (u4 H))with
    |some c=>match D.dec c (cs.map (u4 H))with
     |some (x,true)=>.rp c x off
     |_=>.any
    |none=>.any
   |_=>.any
 |.vw h st lo hi=>match H[h]? with
   |some (.arr c l)=>if st=K.sz c then .ax c ((l.take hi).drop lo)else .any
   |some (.tree c l)=>if st=K.sz c then .ax c ((l.take hi).drop lo)else .any
   |_=>.any
 |.fn g l=>.fn g (mH D H l)
 |.agg l=>.agg (mH D H l)
 |.bA l=>.bA (mH D H l)
 |v=>v
def mH(D:bC K)(H:List (Ob K)):List (AV K)->List (AV K)
 |[]=>[]
 |v::r=>jo D H v::mH D H r
end
def elems(H:List (Ob K))(c:K.U):AV K->Option (List (K.El c))
 |.dt=>some []
 |.ax c' l=>match K.kF c' c with
   |.isTrue h=>some (h ▸ l)
   |.isFalse _=>none
 |.sl h=>match H[h]? with
   |some (.arr c' l)=>match K.kF c' c with
    |.isTrue h=>some (h ▸ l)
    |.isFalse _=>none
   |_=>none
 |_=>none
def setCells(cs:List (AV K))(off:Nat):List (AV K)->List (AV K)
 |[]=>cs
 |v::r=>setCells (cs.set off v) (off+1) r
mutual
def hands:AV K->List Nat
 |.ptr h _|.sl h|.ep h _ _ _|.np h|.vw h _ _ _=>[h]
 |.agg l|.bA l|.fn _ l=>cz l
 |_=>[]
def cz:List (AV K)->List Nat
 |[]=>[]
 |v::r=>hands v++cz r
end
def u6(H:List (Ob K))(h:Nat):List (Ob K):=
 match H[h]? with
 |some (.arr c l)=>H.set h (.gW c l)
 |some (.tree c l)=>H.set h (.gW c l)
 |_=>H
def jq(H:List (Ob K)):List Nat->List (Ob K)
 |[]=>H
 |h::r=>jq (u6 H h) r
mutual
def eK(H:List (Ob K)):AV K->AV K
 |.sl h=>match H[h]? with
   |some (.gW c l)=>.ax c l
   |_=>.sl h
 |.vw h st lo hi=>match H[h]? with
   |some (.gW c l)=>if st=K.sz c then .ax c ((l.take hi).drop lo)else .vw h st lo hi
   |_=>.vw h st lo hi
 |.agg l=>.agg (pM H l)
 |.bA l=>.bA (pM H l)
 |v=>v
def pM(H:List (Ob K)):List (AV K)->List (AV K)
 |[]=>[]
 |v::r=>eK H v::pM H r
end
def thaw(dp:K.U->Bool)(H:List (Ob K)):List (Option K.U)->List (AV K)->List (AV K)×List (Ob K)
 |some c::cs,.dt::r=>match thaw dp (H++[cond (dp c) (.tree c []) (.arr c [])]) cs r with
  |(l,H')=>(.sl H.length::l,H')
 |_::cs,v::r=>match thaw dp H cs r with
  |(l,H')=>(v::l,H')
 |[],l=>(l,H)
 |_,[]=>([],H)
def fQ(dp:K.U->Bool)(H:List (Ob K)):List (List (Option K.U))->List (AV K)->List (AV K)×List (Ob K)
 |cs::css,.agg l::r=>match thaw dp H cs l with
  |(l',H1)=>match fQ dp H1 css r with
   |(s,H2)=>(.agg l'::s,H2)
 |cs::css,v::r=>match thaw dp H cs [v]with
  |(l',H1)=>match fQ dp H1 css r with
   |(s,H2)=>(l'.headD v::s,H2)
 |[],l=>(l,H)
 |_,[]=>([],H)
def lp:List (AV K)->Bool
 |.np _::_=>true
 |_=>false
def zW(b:Bool)(h:Nat):List (AV K)->List (AV K)
 |.dD::r=>cond b (.np h) .dD::r
 |l=>l
mutual
def jc:AV K->Bool
 |.ax .. |.rp ..=>true
 |.agg l|.bA l|.fn _ l=>jJ l
 |_=>false
def jJ:List (AV K)->Bool
 |[]=>false
 |v::r=>jc v||jJ r
end
def DF(P:Program)(D:bC K)(H:List (Ob K))(t:TypeId):AV K->Option (AV K)
 |.ptr h off=>match H[h]? with
   |some (.box cs)=>oC P t cs off
   |_=>none
 |.rp c x off=>oC P t (D.cells c x) off
 |.ep h st i off=>match H[h]? with
   |some (.arr c l)=>if st=K.sz c then oC P t (D.cells c (l.getD i (K.zero c))) off else none
   |some (.tree c l)=>if st=K.sz c then(match oC P t (D.cells c (l.getD i (K.zero c))) off with
     |some v=>if jc v then none else some v
     |none=>none)else none
   |_=>none
 |_=>none
def IU(_P:Program)(_H:List (Ob K))(_t:TypeId):AV K->Option (AV K×Bool):=fun _=>none
def IV(P:Program)(s:TypeId)(f:Nat)(x:AV K):Option (AV K):=
 match DD P s f with
 |some fd=>match fC P fd.type with
  |some (_+1)=>match x with
   |.ptr h off=>some (.ptr h (off+fd.offset))
   |.rp c x off=>some (.rp c x (off+fd.offset))
   |.ep h st i off=>some (.ep h st i (off+fd.offset))
   |_=>none
  |_=>none
 |none=>none
def IW(P:Program)(H:List (Ob K))(t:TypeId)(x i:AV K):Option (AV K×Bool):=
 match elemOf? P t,i with
 |some e,.int _ n=>match x with
  |.ax c l=>if fC P e=some (K.sz c)then some (.rp c (l.getD n.toNat (K.zero c)) 0,inB n l.length)else none
  |.sl h=>match H[h]? with
    |some (.arr c l)=>if fC P e=some (K.sz c)then some (.ep h (K.sz c) n.toNat 0,inB n l.length)else none
    |some (.tree c l)=>if fC P e=some (K.sz c)then some (.ep h (K.sz c) n.toNat 0,inB n l.length)else none
    |_=>none
  |_=>none
 |_,_=>none
def oD(d:Int):Option (AV K)->Option Int
 |none=>some d
 |some (.int _ n)=>some n
 |some _=>none
def IX(P:Program)(t:TypeId)(x:AV K)(lo hi:Option (AV K)):Option (AV K×Bool):=
 match P.underlying t,x with
 |some .string,.str s=>match oD 0 lo,oD s.length hi with
  |some l,some h=>some (.str ((s.take h.toNat).drop l.toNat),bN l h s.length)
  |_,_=>none
 |some (.slice e),.ax c s=>if fC P e=some (K.sz c)then match oD 0 lo,oD s.length hi with
  |some l,some h=>some (.ax c ((s.take h.toNat).drop l.toNat),bN l h s.length)
  |_,_=>none else none
 |_,_=>none
def IY(_P:Program)(_H:List (Ob K))(_t:TypeId)(_x:AV K)(_lo _hi:Option (AV K)):Option (AV K×Bool):=none
def u7(cx:Cx K)(ev:Operand->AV K)(H:List (Ob K)):Op->Option (AV K×Bool)
 |.move x|.assign x=>some (ev x,true)
 |.binOp op t x y _=>IT cx.P op t (ev x) (ev y)
 |.unOp op _ x=>IP op (ev x)
 |.convert src dst x=>match cx.P.underlying src,cx.P.underlying dst,ev x with
   |some _,some (.int k),.int _ n=>some (.int k (k.wrap n),true)
   |some _,some .string,.str s=>some (.str s,true)
   |some (.slice e),some .string,x=>match cx.P.underlying e,cx.ty e with
    |some (.int .u8),some c=>match cx.D.byte c,elems H c x with
     |some (f,_),some l=>some (.str (l.map f),true)
     |_,_=>none
    |_,_=>none
   |_,_,_=>none
 |.extract t i=>match ev t with
   |.bA l=>(l[i]?).map fun v=>(v,true)
   |_=>none
 |.fieldAddr s x f=>(IV cx.P s f (ev x)).map fun v=>(v,true)
 |.field s x f=>match DD cx.P s f,ev x with
   |some fd,.agg cs=>(oC cx.P fd.type cs fd.offset).map fun v=>(v,true)
   |_,_=>none
 |.load t p=>match DF cx.P cx.D H t (ev p)with
   |some v=>some (v,true)
   |none=>IU cx.P H t (ev p)
 |.indexAddr t x i=>IW cx.P H t (ev x) (ev i)
 |.index t x i=>match cx.P.underlying t,ev x,ev i with
   |some .string,.str s,.int _ n=>some (.int .u8 ((s.getD n.toNat 0).toNat:Int),inB n s.length)
   |_,_,_=>none
 |.slice t x lo hi none=>match IX cx.P t (ev x) (lo.map ev) (hi.map ev)with
   |some r=>some r
   |none=>if cx.vws&&cond cx.vtl hi.isNone (hi.isSome|| !cx.cut)then IY cx.P H t (ev x) (lo.map ev) (hi.map ev)else none
 |.nilCheck x=>match ev x with
   |.ptr h o=>some (.ptr h o,true)
   |.rp c x o=>some (.rp c x o,true)
   |.ep h s i o=>some (.ep h s i o,true)
   |_=>none
 |.makeFunc (.func f) first caps=>if first.isEmpty then some (.fn f (caps.toList.map ev),true)else none
 |.call {callee:=.builtin .len,args,argTypes}=>match args.toList,argTypes.toList with
   |[x],[t]=>match cx.P.underlying t,ev x with
     |some .string,.str s=>some (.int .i64 (s.length:Int),true)
     |some (.slice _),.dt=>some (.int .i64 0,true)
     |some (.slice _),.ax _ l=>some (.int .i64 (l.length:Int),true)
     |some (.slice _),.vw _ _ a b=>some (.int .i64 ((b-a:Nat):Int),true)
     |some (.slice _),.sl h=>match H[h]? with
      |some (.arr _ l)=>some (.int .i64 (l.length:Int),true)
      |some (.tree _ l)=>some (.int .i64 (l.length:Int),true)
      |_=>none
     |_,_=>none
   |_,_=>none
 |.call {callee:=.builtin .min,args, ..}=>match args.toList with
   |[x,y]=>match ev x,ev y with
     |.int k a,.int k' b=>if k=k' then some (.int k (cond (decide (b<a)) b a),true)else none
     |_,_=>none
   |_=>none
 |.call {callee:=.builtin .max,args, ..}=>match args.toList with
   |[x,y]=>match ev x,ev y with
     |.int k a,.int k' b=>if k=k' then some (.int k (cond (decide (a<b)) b a),true)else none
     |_,_=>none
   |_=>none
 |_=>none
def OE(D:bC K)(c:K.U)(e:TypeId):Bool:=match D.pL c with
 |none=>true
 |some t=>t==e
def qY(cx:Cx K)(e:TypeId):Option K.U:=match cx.ty e with
 |some c=>if OE cx.D c e then some c else none
 |none=>none
def room(e:TypeId)(P:Program):Bool:=match P.info? e with
 |some i=>decide (i.bytes<=4096)
 |none=>false
def pN(D:bC K)(c:K.U):List (AV K)->Option (List (K.El c)×Bool)
 |[]=>some ([],true)
 |v::r=>match D.dec c v.cC,pN D c r with
  |some (x,b),some (l,b')=>some (x::l,b&&b')
  |_,_=>none
def inOrder(ev:Operand->AV K):Nat->List (Nat×Operand)->Option (List (AV K))
 |_,[]=>some []
 |n,(i,x)::r=>if i=n then(inOrder ev (n+1) r).map (ev x::·)else none
def placesOf(P:Program)(t:TypeId):Option (List (Nat×Nat)):=
 match P.underlying t with
 |some (.struct fs)=>fs.toList.mapM (fun f=>(P.info? f.type).map fun i=>(f.offset,i.size))
 |_=>none
def xo(places:List (Nat×Nat))(ev:Operand->AV K)(cs:List (AV K)):List (Nat×Operand)->Option (List (AV K))
 |[]=>some cs
 |(i,x)::r=>match places[i]? with
  |some (off,n)=>if(ev x).known=true/\(ev x).cC.length=n/\off+n<=cs.length then xo places ev (setCells cs off (ev x).cC) r else none
  |none=>none
def oG(P:Program)(t:TypeId):Bool:=match P.info? t with
 |some i=>match i.zero with
  |some v=>v.cells.size==i.size
  |none=>false
 |none=>false
def source(D:bC K)(H:List (Ob K))(c:K.U):AV K->Option (List (K.El c))
 |.str s=>match D.byte c with
   |some (_,g)=>some (s.map g)
   |none=>none
 |v=>elems H c v
def DG(cx:Cx K)(H:List (Ob K))(sT:TypeId)(s x:AV K):Option (AV K×List (Ob K)×Bool×List Nat):=
 match elemOf? cx.P sT with
 |none=>none
 |some e=>match qY cx e with
  |none=>none
  |some c=>if fC cx.P e=some (K.sz c)/\room e cx.P=true/\oG cx.P e=true then
    match source cx.D H c x with
    |none=>none
    |some m=>match s with
     |.dt=>some (.sl H.length,H++[.arr c m],decide (m.length<=1073741824),[])
     |.sl h=>match x with
       |.sl h'=>if h=h' then none else match elems H c (.sl h)with
         |some l=>some (.sl H.length,H.set h .dead++[.arr c (l++m)],decide (l.length+m.length<=1073741824),[h])
         |none=>none
       |_=>match elems H c (.sl h)with
        |some l=>some (.sl H.length,H.set h .dead++[.arr c (l++m)],decide (l.length+m.length<=1073741824),[h])
        |none=>none
     |_=>none
   else none
def zX(_cx:Cx K)(_H:List (Ob K))(_sT:TypeId)(_s _x:AV K):Option (AV K×List (Ob K)×Bool×List Nat):=none
def qZ(ev:Operand->AV K):Op->List Nat
 |.buildSlice _ _ parts=>cz (parts.toList.map fun p=>ev p.2)
 |.store _ p x=>match ev p with
   |.ep ..=>hands (ev x)
   |_=>[]
 |.slice _ x _ _ _=>match ev x with
   |.sl h=>[h]
   |_=>[]
 |_=>[]
def OF(P:Program)(t:TypeId):Bool:=match P.info? t with
 |some i=>(match i.zero with
  |some .nilFunc=>true
  |_=>false)
 |none=>false
def va(cx:Cx K)(ev:Operand->AV K)(H:List (Ob K)):Op->Option (AV K×List (Ob K)×Bool×List Nat)
 |.box t x=>if(ev x).known then match thaw cx.deep H (cx.oy t) (ev x).cC with
     |(cs,H1)=>if lp cs then none else some (.ptr H1.length 0,H1++[.box cs],true,[])else none
 |.alloc t=>match(zeroOf cx.P t:Option (AV K))with
   |some z=>if z.known then match thaw cx.deep H (cx.oy t) z.cC with
    |(cs,H1)=>if lp cs then none else some (.ptr H1.length 0,H1++[.box (zW (cx.D.qW==some t) H1.length cs)],true,[])else none
   |none=>if OF cx.P t then some (.ptr H.length 0,H++[.box [.any]],true,[])else none
 |.build t parts=>match placesOf cx.P t,(zeroOf cx.P t:Option (AV K))with
   |some ps,some z=>if z.known then(xo ps ev z.cC parts.toList).map fun cs=>(.agg cs,H,true,[])else none
   |_,_=>none
 |.store t p x=>match fC cx.P t with
   |some n=>if(ev x).cC.length=n/\(ev x).cC.all AV.one=true then match ev p with
    |.ptr h off=>match H[h]? with
      |some (.box cs)=>if off+n<=cs.length then match thaw cx.deep H (cx.oy t) (ev x).cC with
       |(xs,H1)=>if lp (setCells cs off xs)&& !lp cs then none else some (.any,H1.set h (.box (setCells cs off xs)),true,[h])else none
      |_=>none
    |.ep h st i off=>match H[h]? with
      |some (.arr c l)=>if st=K.sz c/\ij (ev x).cC=true/\off+n<=K.sz c then
        match cx.D.dec c (setCells (cx.D.cells c (l.getD i (K.zero c))) off (ev x).cC)with
        |some (y,b)=>some (.any,H.set h (.arr c (l.set i y)),b,[h])
        |none=>none
       else none
      |_=>none
    |_=>none else none
   |none=>none
 |.makeSlice t len cap=>match elemOf? cx.P t with
   |none=>none
   |some e=>match qY cx e,(zeroOf cx.P e:Option (AV K)),ev len,ev cap with
    |some c,some z,.int _ n,.int _ m=>if fC cx.P e=some (K.sz c)/\room e cx.P=true/\ij z.cC=true/\z.known=true then
      match cx.D.dec c z.cC with
      |some (y,b)=>some (.sl H.length,H++[.arr c (List.replicate n.toNat y)],b&&(decide (0<=n)&&(decide (n<=m)&&decide (m<=1073741824))),[])
      |none=>none
     else none
    |_,_,_,_=>none
 |.buildSlice t len parts=>match elemOf? cx.P t with
   |none=>none
   |some e=>match qY cx e,inOrder ev 0 parts.toList with
    |some c,some l=>if fC cx.P e=some (K.sz c)/\oG cx.P e=true/\l.length=len/\len<=4096/\K.sz c<=4096/\l.all (fun v=>ij v.cC&&(v.known&&decide (v.cC.length=K.sz c)))=true then
      match pN cx.D c l with
      |some (y,b)=>some (.sl H.length,H++[.arr c y],b,[])
      |none=>none
     else none
    |_,_=>none
 |.convert src dst x=>match cx.P.underlying src,elemOf? cx.P dst,ev x with
   |some .string,some e,.str s=>match cx.P.underlying e,qY cx e with
    |some (.int .u8),some c=>match cx.D.byte c with
     |some (_,g)=>if fC cx.P e=some (K.sz c)then some (.sl H.length,H++[.arr c (s.map g)],decide (s.length<=1073741824),[])else none
     |none=>none
    |_,_=>none
   |some (.slice _),some e,.sl h=>match cx.P.underlying e,H[h]? with
    |some (.int .u8),some (.arr c l)=>if src=dst/\(cx.D.pL c).isSome=true then some (.sl h,H,decide (1<=l.length),[])else none
    |_,_=>none
   |_,_,_=>none
 |.makeMap _ none=>some (.mp,H++[.dead],true,[])
 |.call {callee:=.builtin .append,args,argTypes}=>match args.toList,argTypes.toList with
   |[s,x],[sT,xT]=>if(cx.P.underlying xT).isNone then none else if(zU cx.P xT).isSome then zX cx H sT (ev s) (ev x)else DG cx H sT (ev s) (ev x)
   |_,_=>none
 |_=>none
mutual
def rf:AV K->Bool
 |.sl _|.ptr .. |.ep .. |.np _|.vw ..=>true
 |.agg l|.bA l|.fn _ l=>vc l
 |_=>false
def vc:List (AV K)->Bool
 |[]=>false
 |v::r=>rf v||vc r
end
mutual
def fJ(f:Nat->Option Nat):AV K->Option (AV K)
 |.ptr h o=>(f h).map (.ptr · o)
 |.sl h=>(f h).map .sl
 |.np h=>(f h).map .np
 |.ep h s i o=>(f h).map (.ep · s i o)
 |.vw h s a b=>(f h).map (.vw · s a b)
 |.fn g l=>(jK f l).map (.fn g)
 |.agg l=>(jK f l).map .agg
 |.bA l=>(jK f l).map .bA
 |.opt ..=>none
 |v=>some v
def jK(f:Nat->Option Nat):List (AV K)->Option (List (AV K))
 |[]=>some []
 |v::r=>match fJ f v,jK f r with
  |some x,some l=>some (x::l)
  |_,_=>none
end
def ren(m:List Nat):AV K->Option (AV K):=fJ fun h=>m.idxOf? h
def OG(m:List Nat):List (AV K)->Option (List (AV K)):=jK fun h=>m.idxOf? h
def back(m:List Nat):AV K->Option (AV K):=fJ fun h=>m[h]?
def adq(m:List Nat):List (AV K)->Option (List (AV K)):=jK fun h=>m[h]?
def lq(f:Nat->Option Nat):Ob K->Option (Ob K)
 |.box cs=>(jK f cs).map .box
 |.opn ..=>none
 |o=>some o
def DI(m:List Nat):Ob K->Option (Ob K):=lq fun h=>m.idxOf? h
def vd(m:List Nat):Ob K->Option (Ob K):=lq fun h=>m[h]?
def ng(f:Ob K->Option (Ob K)):List (Ob K)->Option (List (Ob K))
 |[]=>some []
 |o::r=>match f o,ng f r with
  |some x,some l=>some (x::l)
  |_,_=>none
def reach(H:List (Ob K)):Nat->List Nat->List Nat->List Nat
 |0,_,acc=>acc
 |_,[],acc=>acc
 |n+1,h::r,acc=>if acc.contains h then reach H n r acc else
   reach H n (r++(match H[h]? with|some (.box cs)=>cz cs|_=>[])) (acc++[h])
def ve(H:List (Ob K)):List Nat->Bool
 |[]=>true
 |h::m=>decide (h<H.length)&&(!m.contains h&&ve H m)
def jL:List (Ob K)->List Nat->List (Ob K)->List (Ob K)
 |H,h::m,o::r=>jL (H.set h o) m r
 |H,_,_=>H
def OH(D:bC K):Ob K->Bool
 |.arr c _=> !jJ (D.cells c (K.zero c))
 |.tree ..=>true
 |_=>false
def lU(cx:Cx K)(m:Mode)(H:List (Ob K))(f:FuncId)(args:List (AV K)):Option (AV K×List (Ob K)×Bool×List Nat):=
 match m with
 |.plain=>if ij (mH cx.D H args)then match cx.call f (mH cx.D H args) []with
     |some (r,[],c)=>if r.closed&&(!jc r|| !vc args)then some (r,H,c,[])else none
     |_=>none else none
 |.jo=>if ij (mH cx.D H args)&& !vc args then match cx.call f (mH cx.D H args) []with
     |some (r,Hn,c)=>match back ((List.range Hn.length).map (H.length+·)) r,ng (vd ((List.range Hn.length).map (H.length+·))) Hn with
      |some r',some vf=>some (r',H++vf,c,[])
      |_,_=>none
     |none=>none else none
 |.fresh=>if ij (mH cx.D H args)then match cx.call f (mH cx.D H args) []with
     |some (r,Hn,c)=>if !jc r&&Hn.all (OH cx.D)then match back ((List.range Hn.length).map (H.length+·)) r,ng (vd ((List.range Hn.length).map (H.length+·))) Hn with
      |some r',some vf=>some (r',H++vf,c,[])
      |_,_=>none else none
     |none=>none else none
 |.jI|.aX=>none
 |.pass=>if !ve H (reach H 64 (cz args) [])then none else match OG (reach H 64 (cz args) []) args,ng (DI (reach H 64 (cz args) [])) ((reach H 64 (cz args) []).map fun h=>H.getD h .dead)with
     |some args',some Hi=>match cx.call f args' Hi with
      |some (r,Ho,c)=>
       match back (reach H 64 (cz args) []++(List.range (Ho.length-Hi.length)).map (H.length+·)) r,ng (vd (reach H 64 (cz args) []++(List.range (Ho.length-Hi.length)).map (H.length+·))) Ho with
       |some r',some iz=>if Hi.length<=Ho.length then some (r',jL H (reach H 64 (cz args) []) (iz.take Hi.length)++iz.drop Hi.length,c,reach H 64 (cz args) [])else none
       |_,_=>none
      |none=>none
     |_,_=>none
def vg(cx:Cx K)(m:Mode)(H:List (Ob K))(f:FuncId)(args:List (AV K)):Option (AV K×List (Ob K)×Bool×List Nat):=
 lU cx m (jq H (cz args)) f (pM (jq H (cz args)) args)
def rh(q:Bool)(cx:Cx K)(H:List (Ob K))(f:FuncId)(args:List (AV K)):Option (AV K×List (Ob K)×Bool×List Nat):=
 match cx.mode f with
 |.plain=>lU cx .plain H f args
 |.jI=>match lU cx .plain H f args with
   |some r=>some r
   |none=>if q then none else vg cx .plain H f args
 |.jo=>if q then none else vg cx .jo H f args
 |.pass=>if q then none else lU cx .pass H f args
 |.aX=>if q then none else vg cx .pass H f args
 |.fresh=>if q then none else match lU cx .jo H f args with
   |some r=>some r
   |none=>match lU cx .fresh H f args with
    |some r=>some r
    |none=>vg cx .jo H f args
def ni:List Nat->Bool
 |[]=>true
 |x::r=> !r.contains x&&ni r
def DJ(D:bC K)(H:List (Ob K)):AV K->Option (AV K)
 |.sl h=>match H[h]? with
   |some (.arr c l)=>if jJ (D.cells c (K.zero c))then none else some (.ax c l)
   |some (.tree c l)=>some (.ax c l)
   |_=>none
 |.dt=>some .dt
 |.int k n=>some (.int k n)
 |.bool b=>some (.bool b)
 |.str s=>some (.str s)
 |.dD=>some .dD
 |_=>none
def oH(D:bC K)(H:List (Ob K)):List (AV K)->Option (List (AV K))
 |[]=>some []
 |v::r=>match DJ D H v,oH D H r with
  |some x,some l=>some (x::l)
  |_,_=>none
def xp(D:bC K)(H:List (Ob K)):List (AV K)->Option (List (AV K))
 |[]=>some []
 |v::r=>match oH D H v.cC,xp D H r with
  |some cs,some l=>some (.agg cs::l)
  |_,_=>none
def gv(H:List (Ob K)):List Nat->List (Ob K)
 |[]=>H
 |h::r=>gv (H.set h .dead) r
def ri(H:List (Ob K))(c:K.U):AV K->Option (List (K.El c)×List Nat)
 |.dt=>some ([],[])
 |.sl h=>match H[h]? with
   |some (.tree c' l)=>match K.kF c' c with
    |.isTrue e=>some (e ▸ l,[h])
    |.isFalse _=>none
   |_=>none
 |_=>none
def xq(cx:Cx K)(ev:Operand->AV K)(H:List (Ob K)):Op->Option (AV K×List (Ob K)×Bool×List Nat)
 |.makeSlice t len cap=>match elemOf? cx.P t with
   |none=>none
   |some e=>match qY cx e,(zeroOf cx.P e:Option (AV K)),ev len,ev cap with
    |some c,some z,.int _ n,.int _ m=>if cx.deep c=true/\fC cx.P e=some (K.sz c)/\room e cx.P=true/\z.known=true then
      match oH cx.D [] z.cC with
      |some zs=>match cx.D.dec c zs with
       |some (y,b)=>some (.sl H.length,H++[.tree c (List.replicate n.toNat y)],b&&(decide (0<=n)&&(decide (n<=m)&&decide (m<=1073741824))),[])
       |none=>none
      |none=>none
     else none
    |_,_,_,_=>none
 |.buildSlice t len parts=>match elemOf? cx.P t with
   |none=>none
   |some e=>match qY cx e,inOrder ev 0 parts.toList with
    |some c,some l=>if cx.deep c=true/\fC cx.P e=some (K.sz c)/\oG cx.P e=true/\l.length=len/\len<=4096/\K.sz c<=4096/\l.all (fun v=>v.known&&decide (v.cC.length=K.sz c))=true/\ni (cz l)=true then
      match xp cx.D H l with
      |some l'=>match pN cx.D c l' with
       |some (y,b)=>some (.sl H.length,gv H (cz l)++[.tree c y],b,cz l)
       |none=>none
      |none=>none
     else none
    |_,_=>none
 |.store t p x=>match ev p,fC cx.P t with
   |.ep h st i off,some n=>match H[h]? with
     |some (.tree c l)=>if st=K.sz c/\off+n<=K.sz c/\(ev x).cC.length=n/\(ev x).cC.all AV.one=true/\ni (h::cz (ev x).cC)=true then
       match oH cx.D H (ev x).cC with
       |some xs=>match cx.D.dec c (setCells (cx.D.cells c (l.getD i (K.zero c))) off xs)with
        |some (y,b)=>some (.any,(gv H (h::cz (ev x).cC)).set h (.tree c (l.set i y)),b,h::cz (ev x).cC)
        |none=>none
       |none=>none
      else none
     |_=>none
   |_,_=>none
 |.call {callee:=.builtin .append,args,argTypes}=>match args.toList,argTypes.toList with
   |[s,x],[sT,xT]=>if(zU cx.P xT).isSome||(cx.P.underlying xT).isNone then none else match elemOf? cx.P sT with
     |none=>none
     |some e=>match qY cx e with
      |none=>none
      |some c=>if cx.deep c=true/\fC cx.P e=some (K.sz c)/\room e cx.P=true/\oG cx.P e=true then
        match ri H c (ev s),ri H c (ev x)with
        |some (l,hs),some (m,hs')=>if ni (hs++hs')then some (.sl H.length,gv H (hs++hs')++[.tree c (l++m)],decide (l.length+m.length<=1073741824),hs++hs')else none
        |_,_=>none
       else none
   |_,_=>none
 |_=>none
def xr(_cx:Cx K)(_ev:Operand->AV K)(_H:List (Ob K)):Op->Option (AV K×List (Ob K)×Bool×List Nat):=fun _=>none
def IZ:List (Ob K)->Option Nat
 |[]=>none
 |.opn ..::_=>some 0
 |_::r=>(IZ r).map (· +1)
def shut(_D:bC K)(H:List (Ob K)):Option (List (Ob K)×Bool×List Nat):=
 match IZ H with
 |none=>some (H,true,[])
 |some _=>none
def xt(q:Bool)(cx:Cx K)(H:List (Ob K))(f:FuncId)(args:List (AV K)):Option (AV K×List (Ob K)×Bool×List Nat):=
 if cx.opn&& !cx.lz&& !q then match rh q cx H f args with
  |some (r,H1,c,t)=>match shut cx.D H1 with
   |some (H2,b,t2)=>some (r,H2,c&&b,t++t2)
   |none=>none
  |none=>none
 else rh q cx H f args
def guardOf(ops:List Oper)(o:Oper):Option (Option (Nat×Bool)):=
 match o.guard with
 |none=>some none
 |some (j,w)=>match ops[j]? with
  |some g=>match g.dst with
   |some t=>some (some (t,w))
   |none=>none
  |none=>none
def vh(st:St K)(wr:List Nat)(dst:Option Nat)(v:AV K)(H:List (Ob K))(ok:Bool):Option (St K×List Nat):=
 match dst with
 |none=>some (⟨st.tm,H,ok⟩,wr)
 |some d=>if wr.contains d||decide (st.tm.length<=d)then none else some (⟨st.tm.set d v,H,ok⟩,d::wr)
def xu(cx:Cx K)(ev:Operand->AV K)(H:List (Ob K))(op:Op):Option (AV K×List (Ob K)×Bool×List Nat):=
 match xq cx (fun x=>eK H (ev x)) H op with
 |some r=>some r
 |none=>match qZ ev op with
 |[]=>va cx (fun x=>eK H (ev x)) H op
 |hs=>match u7 cx (fun x=>eK (jq H hs) (ev x)) (jq H hs) op with
  |some (v,c)=>some (v,jq H hs,c,[])
  |none=>va cx (fun x=>eK (jq H hs) (ev x)) (jq H hs) op
def I0:Operand->Bool
 |.const (.slice none 0 0)=>true
 |_=>false
def jr(cx:Cx K):Op->Bool
 |.assign x=> !I0 x
 |.slice t ..=>OD cx.P t
 |.load t _=> !cx.opn||(cx.lz&&(cx.oy t).all Option.isNone)
 |.makeFunc .. |.move _|.pick .. |.binOp .. |.unOp .. |.extract .. |.field .. |.fieldAddr .. |.indexAddr .. |.index .. |.nilCheck _=>true
 |.convert _ dst _=>(elemOf? cx.P dst).isNone
 |.call {callee:=.builtin .len, ..}|.call {callee:=.builtin .min, ..}|.call {callee:=.builtin .max, ..}=>true
 |.call {callee:=.value (.func f), ..}=>cx.mode f== .plain&&(!cx.opn||cx.lz)
 |_=>false
def cutV(_cx:Cx K)(_ev:Operand->AV K)(_H:List (Ob K)):Op->Option (AV K×List (Ob K)×Bool×List Nat):=fun _=>none
def zY(cx:Cx K)(ev:Operand->AV K)(H:List (Ob K)):Op->Option (AV K×List (Ob K)×Bool×List Nat)
 |.buildSlice t len parts=>match elemOf? cx.P t with
   |none=>none
   |some e=>match cx.ty e,inOrder ev 0 parts.toList with
    |some c,some l=>if fC cx.P e=some (K.sz c)/\oG cx.P e=true/\l.length=len/\len<=4096/\K.sz c<=4096/\l.all (fun v=>ij v.cC&&(v.known&&decide (v.cC.length=K.sz c)))=true then
      match pN cx.D c l with
      |some (y,b)=>some (.ax c y,H,b,[])
      |none=>none
     else none
    |_,_=>none
 |_=>none
def lV(q:Bool)(cx:Cx K)(tm:List (AV K))(gs:List (Nat×Bool))(H:List (Ob K))(T:TypeId):Op->Option (AV K×List (Ob K)×Bool×List Nat)
 |.pick c x y=>match c,dT tm gs c with
   |.tmp t,.bool b=>match known cx t with
     |some b0=>some (cond b0 (dT tm gs x) (dT tm gs y),H,b==b0,[])
     |none=>some (merge b (dT tm ((t,true)::gs) x) (dT tm ((t,false)::gs) y),H,true,[])
   |.const _,.bool b=>some (merge b (dT tm gs x) (dT tm gs y),H,true,[])
   |_,_=>none
 |.call {callee:=.value f,args, ..}=>match dT tm gs f with
   |.fn g caps=>xt q cx H g (args.toList.map (fun x=>eK H (dT tm gs x))++caps)
   |_=>none
 |.assign x=>if !q&&I0 x then match elemOf? cx.P T with
     |some e=>match cx.ty e with
      |some c=>some (.sl H.length,H++[cond (cx.deep c) (.tree c []) (.arr c [])],true,[])
      |none=>some (dT tm gs x,H,true,[])
     |none=>some (dT tm gs x,H,true,[])
   else some (eK H (dT tm gs x),H,true,[])
 |op=>match u7 cx (fun x=>eK H (dT tm gs x)) H op with
  |some (v,c)=>some (v,H,c,[])
  |none=>if q then zY cx (fun x=>eK H (dT tm gs x)) H op else if jr cx op then none else match xr cx (dT tm gs) H op with
   |some r=>some r
   |none=>match cutV cx (dT tm gs) H op with
   |some r=>some r
   |none=>xu cx (dT tm gs) H op
def oI(cx:Cx K):Op->Bool
 |.assign _=>true
 |.slice t ..=> !cx.cut||OD cx.P t
 |.call {callee:=.value (.func f), ..}=>cx.mode f== .plain||cx.mode f== .jI
 |op=>jr cx op
def adr(cx:Cx K):Op->Bool
 |.buildSlice ..=>true
 |op=>oI cx op
def jd(q:Bool)(cx:Cx K)(ops:List Oper)(tm:List (AV K))(H:List (Ob K))(wr:List Nat)(o:Oper):Option (AV K×List (Ob K)×Bool):=
 match guardOf ops o with
 |none=>none
 |some none=>match lV q cx tm [] H o.type o.op with
  |some (v,H',c,_)=>if v.jH then none else some (v,H',c)
  |none=>none
 |some (some (g,w))=>match known cx g with
  |some b0=>match tm[g]? with
   |some (.bool b)=>if b0=w then match lV q cx tm [] H o.type o.op with
     |some (v,H',c,_)=>if v.jH then none else some (v,H',c&&(b==b0))
     |none=>none
    else some (.any,H,b==b0)
   |_=>none
  |none=>match xl tm 6 (g,w)with
   |none=>none
   |some b=>if adr cx o.op&&wr.contains g then match lV true cx tm [(g,w)] H o.type o.op with
     |some (v,_,c,_)=>some (.opt g w v,H,c|| !b)
     |none=>none else none
def vi(cx:Cx K)(ops:List Oper)(st:St K)(wr:List Nat)(o:Oper):Option (St K×List Nat):=
 match jd false cx ops st.tm st.H wr o with
 |some (v,H',c)=>vh st wr o.dst v H' (c&&st.ok)
 |none=>none
def lW(cx:Cx K)(ops:List Oper):List Oper->St K->List Nat->Option (St K×List Nat)
 |[],st,wr=>some (st,wr)
 |o::r,st,wr=>match vi cx ops st wr o with
  |some (st',wr')=>lW cx ops r st' wr'
  |none=>none
def jM(tm:List (AV K)):List Nat->List (AV K)
 |[]=>tm
 |d::r=>match tm[d]? with
  |some (.opt ..)=>jM (tm.set d .any) r
  |_=>jM tm r
def iQ:List Oper->List Nat->List Nat
 |[],acc=>acc
 |o::r,acc=>iQ r (acc++[o.after.toList.foldl (fun s e=>s|||2^e.on|||acc.getD e.on 0) 0])
def eS(bits:Nat):List Oper->Nat->List (AV K)->List (AV K)
 |[],_,tm=>tm
 |o::r,i,tm=>eS bits r (i+1) (match o.dst with
  |some d=>if bits.testBit i then tm else tm.set d .any
  |none=>tm)
def zZ(i:Nat):Nat->List Nat->Nat
 |_,[]=>0
 |k,b::r=>(cond (b.testBit i) (2^k) 0)|||zZ i (k+1) r
def fk(bs:List Nat)(i:Nat):Nat:=bs.getD i 0|||zZ i 0 bs
def nj(cx:Cx K)(ops:List Oper)(bs:List Nat):List Oper->Nat->St K->List Nat->Option (St K×List Nat)
 |[],_,st,wr=>some (st,wr)
 |o::r,i,st,wr=>match jd true cx ops (eS (fk bs i) ops 0 st.tm) st.H wr o with
  |some (v,_,c)=>match vh st wr o.dst v st.H (c&&st.ok)with
   |some (st',wr')=>nj cx ops bs r (i+1) st' wr'
   |none=>none
  |none=>none
def kG:List Oper->Nat->Bool
 |[],_=>true
 |o::r,i=>(o.after.toList.all fun e=>decide (e.on<i)&&Region.binds .any e)&&kG r (i+1)
def je(bits:Nat):Nat->List (Ob K)->List (Ob K)
 |_,[]=>[]
 |i,o::r=>(if bits.testBit i then .dead else o)::je bits (i+1) r
def lr(bits:Nat):Nat->List (Ob K)->List (Ob K)->List (Ob K)
 |i,o::r,o'::r'=>(if bits.testBit i then o else o')::lr bits (i+1) r r'
 |_,[],r'=>r'
 |_,_::_,[]=>[]
mutual
def AV.upto(n:Nat):AV K->Bool
 |.ptr h _|.sl h|.ep h _ _ _|.np h|.vw h _ _ _=>decide (h<n)
 |.fn _ l|.agg l|.bA l=>pO n l
 |.opt _ _ v=>v.upto n
 |_=>true
def pO(n:Nat):List (AV K)->Bool
 |[]=>true
 |v::r=>v.upto n&&pO n r
end
def Ob.upto(n:Nat):Ob K->Bool
 |.box cs=>pO n cs
 |.opn _ _ _ _ cs=>pO n cs
 |_=>true
def nk(ev:Operand->AV K)(op:Op):List Nat:=
 qZ ev op++(match op with
  |.store _ p _=>hands (ev p)
  |.convert _ _ x=>hands (ev x)
  |.call {callee:=.builtin .append,args, ..}=>(match args.toList with
    |s::x::_=>hands (ev s)++hands (ev x)
    |[s]=>hands (ev s)
    |[]=>[])
  |.call {callee:=.builtin .clear,args, ..}=>(match args.toList with
    |s::_=>hands (ev s)
    |[]=>[])
  |.call {callee:=.builtin .copy,args, ..}=>(match args.toList with
    |s::_=>hands (ev s)
    |[]=>[])
  |_=>[])
def sV(cx:Cx K):Op->Bool
 |.box .. |.alloc _|.build .. |.store .. |.makeSlice .. |.buildSlice .. |.convert .. |.slice ..=>true
 |.call {callee:=.builtin .append, ..}=>true
 |.call {callee:=.value (.func f), ..}=>(cx.mode f== .fresh||(cx.mode f== .pass||cx.mode f== .aX))&&(!cx.opn||cx.lz)
 |.load ..=>cx.opn&&cx.lz
 |_=>false
def I1(ev:Operand->AV K):Op->List Nat
 |.call {callee:=.value _,args, ..}=>cz (args.toList.map ev)
 |_=>[]
def xw(cx:Cx K)(H:List (Ob K))(ev:Operand->AV K):Op->List Nat
 |.call {callee:=.value (.func f),args, ..}=>(match cx.mode f with
   |.pass=>reach H 64 (cz (args.toList.map fun y=>eK H (ev y))) []
   |.aX=>cz (args.toList.map fun y=>eK H (ev y))++reach (jq H (cz (args.toList.map fun y=>eK H (ev y)))) 64 (cz (pM (jq H (cz (args.toList.map fun y=>eK H (ev y)))) (args.toList.map fun y=>eK H (ev y)))) []
   |_=>[])
 |_=>[]
def bitsOf:List Nat->Nat
 |[]=>0
 |h::r=>2^h|||bitsOf r
def xx(cx:Cx K)(ops:List Oper)(tm:List (AV K))(H:List (Ob K))(wr:List Nat)(o:Oper):Option (AV K×List (Ob K)×Bool):=
 if oI cx o.op then jd true cx ops tm H wr o else if sV cx o.op then jd false cx ops tm H wr o else none
def pP(cx:Cx K)(tm:List (AV K))(H:List (Ob K))(op:Op):List Nat:=if oI cx op then[]else match op with
 |.load t p=>(match u7 cx (fun x=>eK H (dT tm [] x)) H (.load t p)with
   |some _=>[]
   |none=>hands (dT tm [] p))
 |op=>(nk (dT tm []) op++I1 (dT tm []) op)++xw cx H (dT tm []) op
def xy(A:Nat):Nat->List Nat->Nat
 |_,[]=>0
 |k,b::r=>(if A.testBit k then 0 else b)|||xy A (k+1) r
def DK(A:Nat)(T:List Nat):Nat->List (Nat×Nat)->Bool
 |_,[]=>true
 |i,(m,n)::r=>(A.testBit i||T.all fun h=>decide (n<=h)||m.testBit h)&&DK A T (i+1) r
def ads:Op->Option (List Operand)
 |.slice _ x _ _ _=>some [x]
 |.move _=>some []
 |.load _ p=>some [p]
 |.fieldAddr ..=>some []
 |.indexAddr _ x _=>some [x]
 |.nilCheck _=>some []
 |.store _ p x=>some [p,x]
 |.binOp ..=>some []
 |.unOp ..=>some []
 |.build _ parts=>some (parts.toList.map (·.2))
 |.extract x _=>some [x]
 |.assign x=>some [x]
 |_=>none
def OI(tm:List (AV K))(n:Nat)(op:Op):Nat:=
 match ads op with
 |none=>0
 |some l=>bitsOf ((List.range n).filter fun h=> !(cz (l.map (dT tm []))).contains h)
def rj(bs ws:List Nat)(i:Nat)(tm:List (AV K))(n:Nat)(op:Op):Nat:=xy (bs.getD i 0) 0 ws|||OI tm n op
def rk(cx:Cx K)(ops:List Oper)(bs:List Nat):List Oper->Nat->St K->List Nat->List (Nat×Nat)->List Nat->Option (St K×List Nat)
 |[],_,st,wr,_,_=>some (st,wr)
 |o::r,i,st,wr,ms,ws=>
  if pO st.H.length (eS (fk bs i) ops 0 st.tm)&&(je (rj bs ws i (eS (fk bs i) ops 0 st.tm) st.H.length o.op) 0 st.H).all (Ob.upto st.H.length)then
   match xx cx ops (eS (fk bs i) ops 0 st.tm) (je (rj bs ws i (eS (fk bs i) ops 0 st.tm) st.H.length o.op) 0 st.H) wr o with
   |none=>none
   |some (v,H',c)=>
    if(DK (bs.getD i 0) (pP cx (eS (fk bs i) ops 0 st.tm) (je (rj bs ws i (eS (fk bs i) ops 0 st.tm) st.H.length o.op) 0 st.H) o.op) 0 ms&&(pP cx (eS (fk bs i) ops 0 st.tm) (je (rj bs ws i (eS (fk bs i) ops 0 st.tm) st.H.length o.op) 0 st.H) o.op).all fun h=> !(rj bs ws i (eS (fk bs i) ops 0 st.tm) st.H.length o.op).testBit h&&decide (h<st.H.length))&&decide (st.H.length<=H'.length)then
     match vh st wr o.dst v (lr (rj bs ws i (eS (fk bs i) ops 0 st.tm) st.H.length o.op) 0 st.H H') (c&&st.ok)with
     |some (st',wr')=>rk cx ops bs r (i+1) st' wr' (ms++[(rj bs ws i (eS (fk bs i) ops 0 st.tm) st.H.length o.op,st.H.length)])
       (ws++[bitsOf (pP cx (eS (fk bs i) ops 0 st.tm) (je (rj bs ws i (eS (fk bs i) ops 0 st.tm) st.H.length o.op) 0 st.H) o.op++List.range' st.H.length (H'.length-st.H.length))])
     |none=>none
    else none
  else none
def pQ(cx:Cx K)(ops:List Oper)(st:St K):Option (St K):=
 if(ops.all fun o=>oI cx o.op)&&kG ops 0 then match nj cx ops (iQ ops []) ops 0 st []with
     |some (st',wr)=>some ⟨jM st'.tm wr,st'.H,st'.ok⟩
     |none=>none
  else if kG ops 0 then match rk cx ops (iQ ops []) ops 0 st [] [] []with
   |some (st',wr)=>some ⟨jM st'.tm wr,st'.H,st'.ok⟩
   |none=>none
  else none
def Aa(π:List Nat)(n:Nat):Bool:=decide (π.length=n)&&(π.all (fun i=>decide (i<n))&&((List.range n).all (fun i=>π.contains i)&&ni π))
def vj(π:List Nat)(n:Nat)(o:Oper):Oper:=
 {o with after:=(o.after.filter (Region.binds .any)).map (fun e=>{e with on:=(π.idxOf? e.on).getD n}),guard:=o.guard.map fun g=>((π.idxOf? g.1).getD n,g.2)}
def permuted(π:List Nat)(ops:List Oper):List Oper:=π.map fun i=>match ops[i]? with
 |some o=>vj π ops.length o
 |none=>{dst:=none,op:=.move (.const .nilIface),type:=0,pos:= "",after:= #[],guard:=none}
def OJ(cx:Cx K)(ops:List Oper)(bs:List Nat):List Nat:=
 match(List.range ops.length).foldl (fun acc i=>match ops[i]? with
  |some o=>if sV cx o.op&&(!oI cx o.op&& !acc.contains i)then acc++((List.range ops.length).filter fun j=>(bs.getD i 0).testBit j&& !acc.contains j)++[i]else acc
  |none=>acc) []with
 |acc=>acc++(List.range ops.length).filter fun j=> !acc.contains j
def Ab(cx:Cx K)(ops:List Oper)(π:List Nat)(st:St K):Option (St K):=
 if Aa π ops.length then pQ cx (permuted π ops) st else none
def I2(cx:Cx K)(ops:List Oper)(st:St K):Option (St K):=
 if kG ops 0 then match pQ cx ops st with
  |some r=>some r
  |none=>Ab cx ops (OJ cx ops (iQ ops [])) st
 else match Ab cx ops (List.range ops.length) st with
  |some r=>some r
  |none=>Ab cx ops (OJ cx ops (iQ (permuted (List.range ops.length) ops) [])) st
def jf(cx:Cx K)(ops:List Oper)(draw:Bool)(st:St K):Option (St K):=
 if draw then I2 cx ops st
 else match lW cx ops ops st []with
  |some (st',wr)=>some ⟨jM st'.tm wr,st'.H,st'.ok⟩
  |none=>none
def writes:Code->List Nat
 |.region _ ops _=>ops.toList.filterMap (·.dst)
 |.seq a b=>writes a++writes b
 |.cond _ a b=>writes a++writes b
 |.block _ c=>writes c
 |.loop c=>writes c
 |.scope c=>writes c
 |.rangeFunc _ ps a c=>ps.toList++writes a++writes c
 |_=>[]
def simple(cx:Cx K):Code->Bool
 |.skip=>true
 |.region _ ops _=>ops.toList.all fun o=>jr cx o.op
 |.seq a b=>simple cx a&&simple cx b
 |.cond _ a b=>simple cx a&&simple cx b
 |_=>false
def jN(b:Bool)(wr:List Nat):Nat->List (AV K)->List (AV K)->List (AV K)->List (AV K)
 |n,v::r,x::s,y::t=>(if wr.contains n then merge b x y else v)::jN b wr (n+1) r s t
 |_,_,_,_=>[]
def eH(tm:List (AV K)):List Nat->List (AV K)->List (AV K)
 |d::r,v::s=>eH (tm.set d v) r s
 |_,_=>tm
def keyOf:Code->Nat
 |.region id _ _=>id
 |.seq a _=>keyOf a
 |.cond _ a _=>keyOf a
 |.block _ c=>keyOf c
 |.loop c=>keyOf c
 |_=>0
def inLoop(H:List (Ob K))(vals:List (AV K)):Option (List Nat×List (AV K)×List (Ob K)):=
 if ve H (reach H 64 (cz vals) [])then match OG (reach H 64 (cz vals) []) vals,ng (DI (reach H 64 (cz vals) [])) ((reach H 64 (cz vals) []).map fun h=>H.getD h .dead)with
  |some lu,some Hi=>some (reach H 64 (cz vals) [],lu,Hi)
  |_,_=>none
 else none
def ik(m:List Nat)(n k:Nat):List Nat:=m++(List.range (k-m.length)).map (n+·)
def DL(L:bM K)(m:List Nat)(st:St K)(vs:List (AV K))(Ho:List (Ob K)):Option (St K):=
 match adq (ik m st.H.length Ho.length) vs,ng (vd (ik m st.H.length Ho.length)) Ho with
 |some vs',some iz=>if m.length<=Ho.length then some ⟨eH (List.replicate L.n .any) L.outs vs',jL st.H m (iz.take m.length)++iz.drop m.length,st.ok⟩else none
 |_,_=>none
def I3(ops:List Oper):List Nat:=(ops.filterMap fun o=>match guardOf ops o with
 |some (some (g,_))=>some g
 |_=>none).eraseDups
def Ac(cx:Cx K)(ops:List Oper)(draw:Bool)(st:St K):List Nat->Option (Bool×St K×St K)
 |[]=>none
 |t::r=>match jf {cx with gs:=[(t,true)]} ops draw st,jf {cx with gs:=[(t,false)]} ops draw st with
  |some s1,some s2=>match s1.tm.getD t .any with
   |.bool b=>some (b,s1,s2)
   |_=>Ac cx ops draw st r
  |_,_=>Ac cx ops draw st r
inductive iC (K:di) where
 |no
 |leaf (s:St K)
 |node (b:Bool) (x y:iC K)
 |two (x y:St K)
def iC.go(cx:Cx K):iC K->{R:Type}->(St K->Option R)->Option R
 |.no,_,_=>none
 |.leaf s,_,k=>k s
 |.node b x y,_,k=>cond b (x.go cx k) (y.go cx k)
 |.two x y,_,k=>cx.zR (k x) (k y)
def vk(cx:Cx K)(ops:List Oper):List Oper->St K->List Nat->St K×List Oper
 |[],st,_=>(st,[])
 |o::r,st,wr=>match vi cx ops st wr o with
  |some (st',wr')=>vk cx ops r st' wr'
  |none=>(st,o::r)
def DN(cx:Cx K)(st:St K):List Nat->Option (Nat×Bool)
 |[]=>none
 |t::r=>match known cx t with
  |some _=>DN cx st r
  |none=>match st.tm[t]? with
   |some (.bool b)=>some (t,b)
   |_=>DN cx st r
def OK(st:St K):List Oper->Bool
 |[]=>false
 |o::_=>match o.op with
  |.nilCheck (.tmp t)=>match st.tm[t]? with
    |some .dD=>true
    |some (.opt _ _ .dD)=>true
    |_=>false
  |_=>false
def Ad(cx:Cx K)(ops:List Oper)(draw:Bool)(st:St K):Nat->List (Nat×Bool)->Option (iC K)
 |0,_=>none
 |n+1,gs=>match jf {cx with gs:=gs} ops draw st with
  |some s=>some (.leaf s)
  |none=>match jf {cx with call:=cx.alt true,mode:=cx.qX true,gs:=gs} ops draw st,jf {cx with call:=cx.alt false,mode:=cx.qX false,gs:=gs} ops draw st with
   |some s1,some s2=>some (.two s1 s2)
   |_,_=>match DN {cx with gs:=gs} (vk {cx with gs:=gs} ops ops st []).1 (I3 ops)with
    |some (t,b)=>match Ad cx ops draw st n ((t,true)::gs),Ad cx ops draw st n ((t,false)::gs)with
     |some x,some y=>some (.node b x y)
     |_,_=>none
    |none=>if OK (vk {cx with gs:=gs} ops ops st []).1 (vk {cx with gs:=gs} ops ops st []).2 then some .no else none
def Ae(cx:Cx K)(ops:List Oper)(draw:Bool)(st:St K):Nat->List (Nat×Bool)->Option (iC K)
 |0,_=>none
 |n+1,gs=>match jf {cx with gs:=gs} ops draw st with
  |some s=>some (.leaf s)
  |none=>match DN {cx with gs:=gs} (vk {cx with gs:=gs} ops ops st []).1 (I3 ops)with
   |some (t,b)=>match Ae cx ops draw st n ((t,true)::gs),Ae cx ops draw st n ((t,false)::gs)with
    |some x,some y=>some (.node b x y)
    |_,_=>none
   |none=>if OK (vk {cx with gs:=gs} ops ops st []).1 (vk {cx with gs:=gs} ops ops st []).2 then some .no else none
def iC.DO:iC K->{R:Type}->(St K->Option R)->Option R
 |.leaf s,_,k=>k s
 |.node b x y,_,k=>cond b (x.DO k) (y.DO k)
 |_,_,_=>none
def xz:Ex->St K->Option (St K)
 |.normal,st=>some st
 |_,_=>none
def fZ(cx:Cx K):Code->{R:Type}->St K->(Ex->St K->Option R)->Option R
 |.skip,_,st,k=>k .normal st
 |.region _ ops draw,_,st,k=>match jf cx ops.toList draw st with
   |some st'=>k .normal st'
   |none=>match Ac cx ops.toList draw st (I3 ops.toList)with
    |some (b,s1,s2)=>cond b (k .normal s1) (k .normal s2)
    |none=>if(ops.toList.all fun o=>jr cx o.op)=true then match Ae cx ops.toList draw st 4 []with
      |some T=>T.DO (k .normal)
      |none=>none
     else match jf {cx with call:=cx.alt true,mode:=cx.qX true} ops.toList draw st,jf {cx with call:=cx.alt false,mode:=cx.qX false} ops.toList draw st with
     |some s1,some s2=>cx.zR (k .normal s1) (k .normal s2)
     |_,_=>match Ad cx ops.toList draw st 4 []with
      |some T=>T.go cx (k .normal)
      |none=>none
 |.seq a b,_,st,k=>fZ cx a st fun e s=>match e with
   |.normal=>fZ cx b s k
   |e=>k e s
 |.cond c a b,_,st,k=>match dT st.tm [] c with
   |.bool t=>if simple cx a&&simple cx b then
       match fZ cx a st xz,fZ cx b st xz with
       |some sa,some sb=>k .normal ⟨jN t (writes a++writes b) 0 st.tm sa.tm sb.tm,st.H,(sa.ok|| !t)&&(sb.ok||t)⟩
       |_,_=>none
     else cond t (fZ cx a st k) (fZ cx b st k)
   |_=>none
 |.block id c,_,st,k=>fZ cx c st fun e s=>match e with
   |.exit i=>if i=id then k .normal s else k (.exit i) s
   |e=>k e s
 |.loop c,_,st,k=>match cx.loop (keyOf c)with
   |some L=>if st.tm.length=L.n then match inLoop st.H (L.ins.map fun t=>st.tm.getD t .any)with
     |some (m,vals,Hi)=>L.run vals Hi fun e vs Ho=>match DL L m st vs Ho with
      |some st'=>k e st'
      |none=>none
     |none=>none else none
   |none=>none
 |.exit id,_,st,k=>k (.exit id) st
 |.ret,_,st,k=>k .ret st
 |_,_,_,_=>none
def sW(cx:Cx K)(st:St K):List ResultVar->Option (List (AV K))
 |[]=>some []
 |.tmp t::r=>match sW cx st r with
   |some l=>some (st.tm.getD t .any::l)
   |none=>none
 |.cell a t::r=>match DF cx.P cx.D st.H t (st.tm.getD a .any),sW cx st r with
   |some v,some l=>some (v::l)
   |_,_=>none
def resV(cx:Cx K)(fn:Func)(st:St K):Option (AV K):=
 match sW cx st fn.results.toList with
 |some [v]=>some (eK st.H v)
 |some l=>some (.bA (pM st.H l))
 |none=>none
def vl{α β:Type}(f:α->Option β):List α->Option (List β)
 |[]=>some []
 |x::r=>match f x,vl f r with
  |some y,some l=>some (y::l)
  |_,_=>none
def sX(src:List (Option Nat))(h:Nat):Option Nat:=src.idxOf? (some h)
def sY(n0 n:Nat):Nat->List (Option Nat)->Bool
 |_,[]=>true
 |i,none::r=>decide (i<n0)&&sY n0 n (i+1) r
 |i,some h::r=>decide (h<n)&&((decide (n0<=i)||decide (h=i))&&(!r.contains (some h)&&sY n0 n (i+1) r))
def vm(src:List (Option Nat))(H:List (Ob K)):Option Nat->Option (Ob K)
 |none=>some .dead
 |some h=>match H[h]? with
  |some o=>lq (sX src) o
  |none=>none
def rl(n0:Nat)(src:List (Option Nat))(keep:List Nat)(st:St K):Option (St K):=
 if sY n0 st.H.length 0 src&&decide (n0<=src.length)then
  match jK (sX src) (keep.map fun t=>st.tm.getD t .any),vl (vm src st.H) src with
  |some vs,some H=>some ⟨eH (List.replicate st.tm.length .any) keep vs,H,st.ok⟩
  |_,_=>none
 else none
def vo(n0:Nat)(keep:List Nat)(st:St K):Option (St K):=
 rl n0 ((reach st.H 64 (List.range n0++cz (keep.map fun t=>st.tm.getD t .any)) []).map some) keep st
def sZ(cx:Cx K)(s:St K):Option (Bool×St K):=match IZ s.H with
 |none=>some (true,s)
 |some _=>match shut cx.D s.H with
  |some (H',b,_)=>some (b,⟨s.tm,H',s.ok⟩)
  |none=>none
def DR(cx:Cx K)(n0:Nat)(keep outs:List Nat)(body:Code)(st:St K):Option (St K⊕Ex×St K):=
 fZ cx body st fun e s=>cond s.ok (match e with
  |.normal=>match sZ cx s with
    |some (b,s1)=>cond b (match vo n0 keep s1 with
     |some s'=>some (.inl s')
     |none=>none) none
    |none=>none
  |e=>match sZ cx s with
   |some (b,s1)=>cond b (match vo n0 outs s1 with
    |some s'=>some (.inr (e,s'))
    |none=>none) none
   |none=>none) none
def I4(n0:Nat)(src:List (Option Nat))(v:AV K)(H:List (Ob K)):Option (AV K×List (Ob K)):=
 if sY n0 H.length 0 src&&decide (n0<=src.length)then
  match fJ (sX src) v,vl (vm src H) src with
  |some v',some H'=>some (v',H')
  |_,_=>none
 else none
def pack(n0:Nat)(v:AV K)(H:List (Ob K)):Option (AV K×List (Ob K)):=
 I4 n0 ((reach H 64 (List.range n0++hands v) []).map some) v H
def I5(H:List (Ob K))(h:Nat):Bool:=match H[h]? with
 |some (.arr ..)=>false
 |some (.gW ..)=>false
 |some (.tree ..)=>false
 |_=>true
def adt(n0:Nat)(v:AV K)(H:List (Ob K)):List (Option Nat):=
 ((List.range n0).map fun h=>cond (I5 H h) (some h) none)++((reach H 64 ((List.range n0).filter (I5 H)++hands v) []).filter fun h=> !(decide (h<n0)&&I5 H h)).map some
def DT(mv:Bool)(n0:Nat)(v:AV K)(H:List (Ob K)):Option (AV K×List (Ob K)):=
 I4 n0 (cond mv (adt n0 v H) ((reach H 64 (List.range n0++hands v) []).map some)) v H
def adu(cx:Cx K)(fn:Func)(n0:Nat)(e:Ex)(st:St K):Option (AV K×List (Ob K)):=
 match e with
 |.exit _=>none
 |_=>match resV cx fn st with
  |some v=>cond st.ok (pack n0 v st.H) none
  |none=>none
def arA(cx:Cx K)(fn:Func)(args:List (AV K))(H:List (Ob K)):Option (AV K×List (Ob K)):=
 match fn.body with
 |some c=>fZ cx c ⟨args++List.replicate (fn.ntmps-args.length) .any,H,true⟩ (adu cx fn H.length)
 |none=>none
end Go.V
namespace Go.V
open Go
variable {K :di}
def iR(w:World)(b k:Nat)(vs:List Value):Prop:=∀j v,vs[j]?=some v->w.cell? ⟨b,k+j,none⟩=some v
inductive Rep (D:bC K) (ρ:List Value) (S:Nat->Prop) (w:World):AV K->Value->Prop
 |any (v:Value):Rep D ρ S w .any v
 |int (k:IntKind) (n:Int):Rep D ρ S w (.int k n) (.int k n)
 |bool (b:Bool):Rep D ρ S w (.bool b) (.bool b)
 |str (s:List UInt8):Rep D ρ S w (.str s) (.string ⟨s.toArray⟩)
 |dD:Rep D ρ S w .dD (.pointer none)
 |lx {h:Nat}:Rep D ρ S w (.np h) (.pointer none)
 |np {h b:Nat} (hp:ρ[h]?=some (.pointer (some ⟨b,0,none⟩))):Rep D ρ S w (.np h) (.pointer (some ⟨b,0,none⟩))
 |dt:Rep D ρ S w .dt (.slice none 0 0)
 |mp (r:Option Nat):Rep D ρ S w .mp (.map r)
 |fn {f:Nat} {caps:List (AV K)} {vs:List Value} (hl:caps.length=vs.length) (hr:∀(i:Nat) v x,caps[i]?=some v->vs[i]?=some x->Rep D ρ S w v x):
   Rep D ρ S w (.fn f caps) (.func (.func f) #[] vs.toArray)
 |ptr {h off b:Nat} (hp:ρ[h]?=some (.pointer (some ⟨b,0,none⟩))):Rep D ρ S w (.ptr h off) (.pointer (some ⟨b,off,none⟩))
 |sl {h:Nat} {a:Option Addr} {n c:Nat} (hp:ρ[h]?=some (.slice a n c)):Rep D ρ S w (.sl h) (.slice a n c)
 |ep {h st i off b o n c:Nat} (hp:ρ[h]?=some (.slice (some ⟨b,o,none⟩) n c)) (hi:i<n):Rep D ρ S w (.ep h st i off) (.pointer (some ⟨b,o+i*st+off,none⟩))
 |vw {h st lo hi n c c':Nat} {a a':Option Addr} (hp:ρ[h]?=some (.slice a n c)) (h1:lo<=hi) (h2:hi<=n) (ha:hi-lo=0\/∃b o,a=some ⟨b,o,none⟩/\a'=some ⟨b,o+lo*st,none⟩/\hi-lo<=c'):Rep D ρ S w (.vw h st lo hi) (.slice a' (hi-lo) c')
 |fm {c:K.U} (a:Option Addr) (cap:Nat):Rep D ρ S w (.ax c []) (.slice a 0 cap)
 |ax {c:K.U} {l:List (K.El c)} {b o cap:Nat} (val:Nat->List Value) (hS:S b) (hcap:l.length<=cap)
   (hl:∀i x,l[i]?=some x->(val i).length=(D.cells c x).length)
   (hc:∀i,i<l.length->iR w b (o+i*K.sz c) (val i))
   (hr:∀i x,l[i]?=some x->∀(j:Nat) v y,(D.cells c x)[j]?=some v->(val i)[j]?=some y->Rep D ρ S w v y):
   Rep D ρ S w (.ax c l) (.slice (some ⟨b,o,none⟩) l.length cap)
 |rp {c:K.U} {x:K.El c} {b o off:Nat} (vs:List Value) (hS:S b) (hl:vs.length=(D.cells c x).length) (hc:iR w b o vs)
   (hr:∀(j:Nat) v y,(D.cells c x)[j]?=some v->vs[j]?=some y->Rep D ρ S w v y):
   Rep D ρ S w (.rp c x off) (.pointer (some ⟨b,o+off,none⟩))
 |agg {l:List (AV K)} {vs:List Value} (hl:l.length=vs.length) (hr:∀(i:Nat) v x,l[i]?=some v->vs[i]?=some x->Rep D ρ S w v x):
   Rep D ρ S w (.agg l) (.agg vs.toArray)
 |bA {l:List (AV K)} {vs:List Value} (hl:l.length=vs.length) (hr:∀(i:Nat) v x,l[i]?=some v->vs[i]?=some x->Rep D ρ S w v x):
   Rep D ρ S w (.bA l) (.tuple vs.toArray)
def bc(D:bC K)(ρ:List Value)(S:Nat->Prop)(w:World)(l:List (AV K))(vs:List Value):Prop:=
 l.length=vs.length/\∀(i:Nat) v x,l[i]?=some v->vs[i]?=some x->Rep D ρ S w v x
section
variable {D :bC K}{ρ ρ':List Value}{S S':Nat->Prop}{w w':World}
theorem bc.nil:bc D ρ S w [] []:=⟨rfl,fun i v x h=>by simp at h⟩
theorem bc.cons{v:AV K}{x:Value}{l:List (AV K)}{vs:List Value}(h:Rep D ρ S w v x)(t:bc D ρ S w l vs):bc D ρ S w (v::l) (x::vs):=
 ⟨by simp[t.1],fun i u y hu hy=>by
   cases i with
   |zero=>simp at hu hy;subst hu;subst hy;exact h
   |succ i=>exact t.2 i u y (by simpa using hu) (by simpa using hy)⟩
theorem bc.head{v:AV K}{x:Value}{l:List (AV K)}{vs:List Value}(h:bc D ρ S w (v::l) (x::vs)):Rep D ρ S w v x:=h.2 0 v x rfl rfl
theorem bc.tail{v:AV K}{x:Value}{l:List (AV K)}{vs:List Value}(h:bc D ρ S w (v::l) (x::vs)):bc D ρ S w l vs:=
 ⟨by simpa using h.1,fun i u y hu hy=>h.2 (i+1) u y (by simpa using hu) (by simpa using hy)⟩
theorem bc.gz{v:AV K}{l:List (AV K)}{vs:List Value}(h:bc D ρ S w (v::l) vs):∃x r,vs=x::r/\Rep D ρ S w v x/\bc D ρ S w l r:=by
 cases vs with
 |nil=>simp[bc]at h
 |cons x r=>exact⟨x,r,rfl,h.head,h.tail⟩
theorem bc.oJ{vs:List Value}(h:bc D ρ S w [] vs):vs=[]:=by
 have:=h.1;simp at this;exact mE this.symm
theorem bc.append{l m:List (AV K)}{vs us:List Value}(h:bc D ρ S w l vs)(k:bc D ρ S w m us):bc D ρ S w (l++m) (vs++us):=by
 refine⟨by simp[h.1,k.1],fun i v x hv hx=>?_⟩;by_cases hi:i<l.length
 ·rw[dX hi]at hv;rw[dX (by rw[<-h.1];exact hi)]at hx;exact h.2 i v x hv hx
 ·rw[eZ (by omega)]at hv;rw[eZ (by rw[<-h.1];omega)]at hx;exact k.2 (i-l.length) v x hv (by rw[h.1];exact hx)
theorem bc.drop{l:List (AV K)}{vs:List Value}(h:bc D ρ S w l vs)(n:Nat):bc D ρ S w (l.drop n) (vs.drop n):=
 ⟨by simp[h.1],fun i v x hv hx=>h.2 (n+i) v x (by simpa using hv) (by simpa using hx)⟩
theorem bc.take{l:List (AV K)}{vs:List Value}(h:bc D ρ S w l vs)(n:Nat):bc D ρ S w (l.take n) (vs.take n):=
 ⟨by simp[h.1],fun i v x hv hx=>by
   simp only[fj]at hv hx;split at hv
   ·rename_i hi;rw[bf hi]at hx;exact h.2 i v x hv hx
   ·simp at hv⟩
theorem bc.get{l:List (AV K)}{vs:List Value}(h:bc D ρ S w l vs){i:Nat}{v:AV K}(hv:l[i]?=some v):∃x,vs[i]?=some x/\Rep D ρ S w v x:=by
 have hi:i<vs.length:=by rw[<-h.1];exact(cF.1 hv).1
 exact⟨vs[i],cJ hi,h.2 i v _ hv (cJ hi)⟩
theorem bc.set{l:List (AV K)}{vs:List Value}(h:bc D ρ S w l vs){n:Nat}{v:AV K}{x:Value}(hv:Rep D ρ S w v x):bc D ρ S w (l.set n v) (vs.set n x):=by
 refine⟨by simp[h.1],fun i u y hu hy=>?_⟩;rw[kD]at hu hy;by_cases hn:n=i
 ·subst hn;simp only[Dx]at hu hy;split at hu
  ·rename_i hl;rw[bf (by rw[<-h.1];exact hl)]at hy;simp at hu hy;subst hu;subst hy;exact hv
  ·simp at hu
 ·rw[bg hn]at hu hy;exact h.2 i u y hu hy
theorem cell?_of_heap{a:Addr}(h:w'.heap[a.block]?=w.heap[a.block]?):w'.cell? a=w.cell? a:=by simp[World.cell?,h]
theorem iR.keep{b k:Nat}{vs:List Value}(h:iR w b k vs)(hb:w'.heap[b]?=w.heap[b]?):iR w' b k vs:=fun j v hv=>by
 rw[cell?_of_heap (w:=w) (a:=⟨b,k+j,none⟩) hb];exact h j v hv
theorem Rep.mono(hS:∀b,S b->S' b)(hw:∀b,S b->w'.heap[b]?=w.heap[b]?)(hρ:∀(h:Nat) r,ρ[h]?=some r->ρ'[h]?=some r){v:AV K}{x:Value}
 (h:Rep D ρ S w v x):Rep D ρ' S' w' v x:=by
 induction h with
 |any v=>exact .any v
 |int k n=>exact .int k n
 |bool b=>exact .bool b
 |str s=>exact .str s
 |dD=>exact .dD
 |dt=>exact .dt
 |mp r=>exact .mp r
 |fn hl _ ih=>exact .fn hl ih
 |lx=>exact .lx
 |np hp=>exact .np (hρ _ _ hp)
 |ptr hp=>exact .ptr (hρ _ _ hp)
 |sl hp=>exact .sl (hρ _ _ hp)
 |ep hp hi=>exact .ep (hρ _ _ hp) hi
 |vw hp h1 h2 ha=>exact .vw (hρ _ _ hp) h1 h2 ha
 |fm a cap=>exact .fm a cap
 |ax val h1 h2 h3 h4 _ ih=>exact .ax val (hS _ h1) h2 h3 (fun i hi=>(h4 i hi).keep (hw _ h1)) ih
 |rp vs h1 h2 h3 _ ih=>exact .rp vs (hS _ h1) h2 (h3.keep (hw _ h1)) ih
 |agg hl _ ih=>exact .agg hl ih
 |bA hl _ ih=>exact .bA hl ih
theorem bc.mono(hS:∀b,S b->S' b)(hw:∀b,S b->w'.heap[b]?=w.heap[b]?)(hρ:∀(h:Nat) r,ρ[h]?=some r->ρ'[h]?=some r){l:List (AV K)}{vs:List Value}
 (h:bc D ρ S w l vs):bc D ρ' S' w' l vs:=⟨h.1,fun i v x hv hx=>(h.2 i v x hv hx).mono hS hw hρ⟩
def AV.pR:AV K->Bool
 |.ax ..=>true
 |_=>false
structure bT (D:bC K):Prop where
 len:∀c x,(D.cells c x).length=K.sz c
 closed:∀c x,ij (D.cells c x)=true
 one:∀c x,(D.cells c x).all AV.one=true
 dec:∀c l x,D.dec c l=some (x,true)->∀ρ S w vs,bc D ρ S w l vs->bc D ρ S w (D.cells c x) vs
 byte:∀c f g,D.byte c=some (f,g)->(∀x,D.cells c x=[.int .u8 ((f x).toNat:Int)])/\∀b,f (g b)=b
 flat:∀c x,jJ (D.cells c x)=jJ (D.cells c (K.zero c))
 kinds:∀c x (j:Nat) v,(D.cells c x)[j]?=some v->v≠.dt/\(v.pR=false->jc v=false)
 DU:∀c l x,D.dec c l=some (x,true)->l.length=K.sz c/\∀(j:Nat) v v',l[j]?=some v->(D.cells c x)[j]?=some v'->v'=v\/(v=.dt/\∃c',v'=.ax c' [])
theorem vp{l:List (AV K)}(h:ij l=true){i:Nat}{v:AV K}(hv:l[i]?=some v):v.closed=true:=by
 induction l generalizing i with
 |nil=>simp at hv
 |cons u r ih=>
  simp only[ij,bu]at h;cases i with
  |zero=>simp at hv;subst hv;exact h.1
  |succ i=>exact ih h.2 (by simpa using hv)
theorem Rep.closed(hD:bT D){v:AV K}{x:Value}(h:Rep D ρ S w v x)(hv:v.closed=true):Rep D ρ' S w v x:=by
 induction h with
 |any v=>exact .any v
 |int k n=>exact .int k n
 |bool b=>exact .bool b
 |str s=>exact .str s
 |dD=>exact .dD
 |dt=>exact .dt
 |mp r=>exact .mp r
 |fn hl _ ih=>exact .fn hl fun i u y hu hy=>ih i u y hu hy (vp (by simpa [AV.closed]using hv) hu)
 |lx=>simp[AV.closed]at hv
 |np hp=>simp[AV.closed]at hv
 |ptr hp=>simp[AV.closed]at hv
 |sl hp=>simp[AV.closed]at hv
 |ep hp hi=>simp[AV.closed]at hv
 |vw hp h1 h2 ha=>simp[AV.closed]at hv
 |fm a cap=>exact .fm a cap
 |ax val h1 h2 h3 h4 _ ih=>exact .ax val h1 h2 h3 h4 fun i x hx j v y hv hy=>ih i x hx j v y hv hy (vp (hD.closed _ _) hv)
 |rp vs h1 h2 h3 _ ih=>exact .rp vs h1 h2 h3 fun j v y hv hy=>ih j v y hv hy (vp (hD.closed _ _) hv)
 |agg hl _ ih=>exact .agg hl fun i u y hu hy=>ih i u y hu hy (vp (by simpa [AV.closed]using hv) hu)
 |bA hl _ ih=>exact .bA hl fun i u y hu hy=>ih i u y hu hy (vp (by simpa [AV.closed]using hv) hu)
theorem bc.closed(hD:bT D){l:List (AV K)}{vs:List Value}(h:bc D ρ S w l vs)(hv:ij l=true):bc D ρ' S w l vs:=
 ⟨h.1,fun i v x hi hx=>(h.2 i v x hi hx).closed hD (vp hv hi)⟩
end
def ly:Value->Option Nat
 |.pointer (some a)=>some a.block
 |.slice (some a) _ _=>some a.block
 |_=>none
def dc(vs:Array Value)(k n:Nat):List Value:=(vs.toList.drop k).take n
def I6(D:bC K)(cs:List (AV K))(T:TypeId):Prop:=lp cs=true->D.qW=some T
def lA(D:bC K)(c:K.U)(T:TypeId)(o:Nat):Prop:=∀t,D.pL c=some t->T=t/\o=0
abbrev ta(D:bC K)(c:K.U)(T:TypeId)(o:Nat)(fr:Nat×Nat):Prop:=lA D c T o/\fr.1<=fr.2
inductive dU (D:bC K) (w:World):(c:K.U)->List (K.El c)->Value->Nat->Prop
 |here {c:K.U} {l:List (K.El c)} {b o n cap:Nat}:dU D w c l (.slice (some ⟨b,o,none⟩) n cap) b
 |kid {c:K.U} {l:List (K.El c)} {b o n cap i j k:Nat} {x:K.El c} {c':K.U} {l':List (K.El c')} {y:Value} (hx:l[i]?=some x) (hj:(D.cells c x)[j]?=some (.ax c' l'))
   (hy:w.cell? ⟨b,o+i*K.sz c+j,none⟩=some y) (hk:dU D w c' l' y k):dU D w c l (.slice (some ⟨b,o,none⟩) n cap) k
inductive Tree (D:bC K) (w:World):(c:K.U)->List (K.El c)->Value->Prop
 |nil {c:K.U}:Tree D w c [] (.slice none 0 0)
 |mk {c:K.U} {l:List (K.El c)} {b o cap:Nat} {vs:Array Value} {T:TypeId} {fr:Nat×Nat} (hb:w.heap[b]?=some (.cells vs T fr)) (hcap:l.length<=cap/\ta D c T o fr) (hsz:o+cap*K.sz c<=vs.size)
   (hfr:∀k,o<=k->k<o+cap*K.sz c->¬(fr.1<=k/\k<fr.2))
   (hlen:∀i x,l[i]?=some x->(D.cells c x).length=(dc vs (o+i*K.sz c) (K.sz c)).length)
   (ke:∀i x,l[i]?=some x->∀(j:Nat) v y,(D.cells c x)[j]?=some v->(dc vs (o+i*K.sz c) (K.sz c))[j]?=some y->v.pR=false->jc v=false/\Rep D [] (fun _=>False) w v y)
   (cr:∀i x,l[i]?=some x->∀(j:Nat) c' l' y,(D.cells c x)[j]?=some (.ax c' l')->(dc vs (o+i*K.sz c) (K.sz c))[j]?=some y->Tree D w c' l' y)
   (hself:∀i x,l[i]?=some x->∀(j:Nat) c' l' y,(D.cells c x)[j]?=some (.ax c' l')->(dc vs (o+i*K.sz c) (K.sz c))[j]?=some y->¬dU D w c' l' y b)
   (hdis:∀i x,l[i]?=some x->∀(j:Nat) c' l' y,(D.cells c x)[j]?=some (.ax c' l')->(dc vs (o+i*K.sz c) (K.sz c))[j]?=some y->
     ∀i2 x2,l[i2]?=some x2->∀(j2:Nat) c2 l2 y2,(D.cells c x2)[j2]?=some (.ax c2 l2)->(dc vs (o+i2*K.sz c) (K.sz c))[j2]?=some y2->∀k,dU D w c' l' y k->dU D w c2 l2 y2 k->i=i2/\j=j2):
   Tree D w c l (.slice (some ⟨b,o,none⟩) l.length cap)
def Af(i off n i' j':Nat):Prop:=i'=i/\off<=j'/\j'<off+n
def mI(D:bC K)(w:World)(c:K.U)(l:List (K.El c))(i off n:Nat)(r:Value)(k:Nat):Prop:=
 ∃b o m cap,r=.slice (some ⟨b,o,none⟩) m cap/\(k=b\/∃(i' j':Nat)(x:K.El c)(c':K.U)(l':List (K.El c'))(y:Value),¬Af i off n i' j'/\l[i']?=some x/\(D.cells c x)[j']?=some (.ax c' l')/\w.cell? ⟨b,o+i'*K.sz c+j',none⟩=some y/\dU D w c' l' y k)
def pS(D:bC K)(ρ:List Value)(S:Nat->Prop)(w:World)(c:K.U)(l:List (K.El c))(i off:Nat)(cs:List (AV K))(r:Value):Prop:=
 ∃(b o cap:Nat)(vs:Array Value)(T:TypeId)(fr:Nat×Nat),r=.slice (some ⟨b,o,none⟩) l.length cap/\w.heap[b]?=some (.cells vs T fr)/\(l.length<=cap/\ta D c T o fr)/\o+cap*K.sz c<=vs.size/\
  (∀k,o<=k->k<o+cap*K.sz c->¬(fr.1<=k/\k<fr.2))/\i<l.length/\off+cs.length<=K.sz c/\
  (∀(i':Nat) x,l[i']?=some x->∀(j':Nat) v u,¬Af i off cs.length i' j'->(D.cells c x)[j']?=some v->w.cell? ⟨b,o+i'*K.sz c+j',none⟩=some u->
    (v.pR=false->jc v=false/\Rep D [] (fun _=>False) w v u)/\∀(c':K.U)(l':List (K.El c')),v=.ax c' l'->Tree D w c' l' u/\¬dU D w c' l' u b)/\
  (∀(i1 j1 i2 j2:Nat) x1 x2 (c1:K.U) (l1:List (K.El c1)) (c2:K.U) (l2:List (K.El c2)) u1 u2 k,¬Af i off cs.length i1 j1->¬Af i off cs.length i2 j2->l[i1]?=some x1->l[i2]?=some x2->(D.cells c x1)[j1]?=some (.ax c1 l1)->(D.cells c x2)[j2]?=some (.ax c2 l2)->
    w.cell? ⟨b,o+i1*K.sz c+j1,none⟩=some u1->w.cell? ⟨b,o+i2*K.sz c+j2,none⟩=some u2->dU D w c1 l1 u1 k->dU D w c2 l2 u2 k->i1=i2/\j1=j2)/\
  ∀(j:Nat) v,cs[j]?=some v->∃u,w.cell? ⟨b,o+i*K.sz c+off+j,none⟩=some u/\Rep D ρ S w v u
def cG(D:bC K)(w:World):Ob K->Value->Nat->Prop
 |.tree c l,r,b=>dU D w c l r b
 |.opn c l i off cs,r,b=>mI D w c l i off cs.length r b
 |_,r,b=>ly r=some b
def Ob.live:Ob K->Bool
 |.dead|.gW ..=>false
 |_=>true
def gX(D:bC K)(ρ:List Value)(S:Nat->Prop)(w:World):Ob K->Value->Prop
 |.dead,_=>True
 |.gW c l,r=>Rep D ρ S w (.ax c l) r
 |.box cs,r=>∃b vs T,r=.pointer (some ⟨b,0,none⟩)/\w.heap[b]?=some (.cells vs T (0,0))/\bc D ρ S w cs vs.toList/\I6 D cs T
 |.arr c l,r=>(r=.slice none 0 0/\l=[])\/∃b o cap vs T fr,r=.slice (some ⟨b,o,none⟩) l.length cap/\w.heap[b]?=some (.cells vs T fr)/\(l.length<=cap/\ta D c T o fr)/\o+cap*K.sz c<=vs.size/\
     (∀k,o<=k->k<o+cap*K.sz c->¬(fr.1<=k/\k<fr.2))/\∀i x,l[i]?=some x->bc D ρ S w (D.cells c x) (dc vs (o+i*K.sz c) (K.sz c))
 |.tree c l,r=>Tree D w c l r
 |.opn c l i off cs,r=>pS D ρ S w c l i off cs r
def Own(D:bC K)(w:World)(ρ:List Value)(H:List (Ob K))(b:Nat):Prop:=∃(h:Nat)(o:Ob K)(r:Value),H[h]?=some o/\o.live=true/\ρ[h]?=some r/\cG D w o r b
structure aM (D:bC K) (ρ:List Value) (S:Nat->Prop) (w:World) (H:List (Ob K)):Prop where
 len:ρ.length=H.length
 ob:∀(h:Nat) o r,H[h]?=some o->ρ[h]?=some r->gX D ρ S w o r
 ff:∀(h h':Nat) o o' r r' b,H[h]?=some o->o.live=true->ρ[h]?=some r->cG D w o r b->H[h']?=some o'->o'.live=true->ρ[h']?=some r'->cG D w o' r' b->h=h'
 lt:∀b,Own D w ρ H b->b<w.heap.size/\¬S b
 slt:∀b,S b->b<w.heap.size
 base:D.base.inv S w
structure Step (D:bC K) (n0:Nat) (ρ:List Value) (S:Nat->Prop) (H:List (Ob K)) (w:World) (ρ':List Value) (S':Nat->Prop) (H':List (Ob K)) (w':World):Prop where
 os:w'.os=w.os
 tape:w'.tape=w.tape
 output:w'.output=w.output
 size:w.heap.size<=w'.heap.size
 old:∀b,b<w.heap.size->¬Own D w ρ H b->w'.heap[b]?=w.heap[b]?
 own:∀b,Own D w' ρ' H' b->Own D w ρ H b\/w.heap.size<=b
 s1:∀b,S b->S' b
 s2:∀b,S' b->S b\/Own D w ρ H b\/w.heap.size<=b
 pre:∀h,h<n0->ρ'[h]?=ρ[h]?
section
variable {D :bC K}{n0:Nat}{ρ ρ' OL:List Value}{S S' OM:Nat->Prop}{w w' w'':World}{H H' pT:List (Ob K)}
theorem Step.refl:Step D n0 ρ S H w ρ S H w:=⟨rfl,rfl,rfl,cq _,fun _ _ _=>rfl,fun _ h=>.inl h,fun _ h=>h,fun _ h=>.inl h,fun _ _=>rfl⟩
theorem Step.trans(a:Step D n0 ρ S H w ρ' S' H' w')(b:Step D n0 ρ' S' H' w' OL OM pT w''):Step D n0 ρ S H w OL OM pT w'':={
 os:=b.os.trans a.os
 tape:=b.tape.trans a.tape
 output:=b.output.trans a.output
 size:=lQ a.size b.size
 old:=fun k hk ho=>by
  rw[b.old k (kC hk a.size) (fun h=>by rcases a.own k h with h|h;exact ho h;omega),a.old k hk ho]
 own:=fun k h=>by
  rcases b.own k h with h|h
  ·exact a.own k h
  ·exact .inr (lQ a.size h)
 s1:=fun k h=>b.s1 k (a.s1 k h)
 s2:=fun k h=>by
  rcases b.s2 k h with h|h|h
  ·exact a.s2 k h
  ·rcases a.own k h with h|h
   ·exact .inr (.inl h)
   ·exact .inr (.inr h)
  ·exact .inr (.inr (lQ a.size h))
 pre:=fun h hh=>(b.pre h hh).trans (a.pre h hh)}
theorem Step.weaken{m:Nat}(a:Step D n0 ρ S H w ρ' S' H' w')(h:m<=n0):Step D m ρ S H w ρ' S' H' w':=
 ⟨a.os,a.tape,a.output,a.size,a.old,a.own,a.s1,a.s2,fun k hk=>a.pre k (kC hk h)⟩
theorem Step.Ag(hs:aM D ρ S w H)(a:Step D n0 ρ S H w ρ' S' H' w'):∀b,S b->w'.heap[b]?=w.heap[b]?:=
 fun b hb=>a.old b (hs.slt b hb) fun h=>(hs.lt b h).2 hb
theorem Step.rep(hs:aM D ρ S w H)(a:Step D n0 ρ S H w ρ' S' H' w')(hρ:∀(h:Nat) r,ρ[h]?=some r->ρ'[h]?=some r){v:AV K}{x:Value}(h:Rep D ρ S w v x):Rep D ρ' S' w' v x:=
 h.mono a.s1 (a.Ag hs) hρ
end
end Go.V
set_option linter.unusedVariables false
namespace Go.V
open Go
variable {K :di}{D:bC K}{ρ ρ':List Value}{S S':Nat->Prop}{w w':World}{H H':List (Ob K)}
theorem seg_cell{b p n j:Nat}{vs:Array Value}{T:TypeId}{fr:Nat×Nat}{y:Value}(hb:w.heap[b]?=some (.cells vs T fr))(hy:(dc vs p n)[j]?=some y):w.cell? ⟨b,p+j,none⟩=some y:=by
 simp only[dc,fj,jm]at hy;split at hy
 ·simp[World.cell?,hb];simpa using hy
 ·cases hy
theorem ON{b p n:Nat}{vs:Array Value}{T:TypeId}{fr:Nat×Nat}(hb:w.heap[b]?=some (.cells vs T fr)):iR w b p (dc vs p n):=fun j y hy=>seg_cell hb hy
theorem dU.old{c:K.U}{l:List (K.El c)}{r:Value}{k:Nat}(h:dU D w' c l r k):(∀k,dU D w c l r k->w'.heap[k]?=w.heap[k]?)->dU D w c l r k:=by
 induction h with
 |here=>exact fun _=>.here
 |kid hx hj hy hk ih=>
  intro hw;have hy':=hy;rw[cell?_of_heap (w:=w) (hw _ .here)]at hy';exact .kid hx hj hy' (ih fun k hk=>hw k (.kid hx hj hy' hk))
theorem dU.new{c:K.U}{l:List (K.El c)}{r:Value}{k:Nat}(h:dU D w c l r k):(∀k,dU D w c l r k->w'.heap[k]?=w.heap[k]?)->dU D w' c l r k:=by
 induction h with
 |here=>exact fun _=>.here
 |kid hx hj hy hk ih=>
  intro hw;exact .kid hx hj (by rw[cell?_of_heap (w:=w) (hw _ .here)];exact hy) (ih fun k hk=>hw k (.kid hx hj hy hk))
theorem I7{v:AV K}(h:v.pR=true):∃c l,v=.ax c l:=by
 cases v<;>first|exact⟨_,_,rfl⟩|cases h
theorem Tree.mono{c:K.U}{l:List (K.El c)}{r:Value}(h:Tree D w c l r):(∀k,dU D w c l r k->w'.heap[k]?=w.heap[k]?)->Tree D w' c l r:=by
 induction h with
 |nil=>exact fun _=>.nil
 | @mk c l b o cap vs T fr hb hcap hsz hfr hlen ke cr hself hdis ih=>
   intro hw;have hk:∀(i:Nat)(x:K.El c),l[i]?=some x->∀(j:Nat)(c':K.U)(l':List (K.El c'))(y:Value),(D.cells c x)[j]?=some (.ax c' l')->(dc vs (o+i*K.sz c) (K.sz c))[j]?=some y->∀k,dU D w c' l' y k->w'.heap[k]?=w.heap[k]?:=fun i x hx j c' l' y hj hy k hk=>hw k (.kid hx hj (seg_cell hb hy) hk)
   refine .mk (by rw[hw _ .here];exact hb) hcap hsz hfr hlen (fun i x hx j v y hv hy hd=>⟨(ke i x hx j v y hv hy hd).1,(ke i x hx j v y hv hy hd).2.mono (fun _ h=>h) (fun _ h=>h.elim) (fun _ _ h=>h)⟩)
    (fun i x hx j c' l' y hj hy=>ih i x hx j c' l' y hj hy (hk i x hx j c' l' y hj hy)) (fun i x hx j c' l' y hj hy hf=>hself i x hx j c' l' y hj hy (hf.old (hk i x hx j c' l' y hj hy)))
    (fun i x hx j c' l' y hj hy i2 x2 hx2 j2 c2 l2 y2 hj2 hy2 k h1 h2=>hdis i x hx j c' l' y hj hy i2 x2 hx2 j2 c2 l2 y2 hj2 hy2 k (h1.old (hk i x hx j c' l' y hj hy)) (h2.old (hk i2 x2 hx2 j2 c2 l2 y2 hj2 hy2)))
theorem Tree.lt{c:K.U}{l:List (K.El c)}{r:Value}{k:Nat}(h:Tree D w c l r):dU D w c l r k->k<w.heap.size:=by
 induction h with
 |nil=>intro hf;cases hf
 |mk hb hcap hsz hfr hlen ke cr hself hdis ih=>
  intro hf;cases hf with
  |here=>exact(kz.1 hb).1
  |kid hx hj hy hk=>
   have hj':=(cF.1 hj).1;rw[hlen _ _ hx]at hj';have hs:=cJ hj';have hc:=seg_cell hb hs;rw[hc]at hy;cases hy;exact ih _ _ hx _ _ _ _ hj hs hk
theorem Tree.rep{c:K.U}{l:List (K.El c)}{r:Value}(h:Tree D w c l r):(∀k,dU D w c l r k->S k)->Rep D ρ S w (.ax c l) r:=by
 induction h with
 |nil=>exact fun _=>.fm _ _
 |mk hb hcap hsz hfr hlen ke cr hself hdis ih=>
  intro hS;refine .ax (fun i=>dc _ (_+i*K.sz _) (K.sz _)) (hS _ .here) hcap.1 (fun i x hx=>(hlen i x hx).symm) (fun i _=>ON hb) (fun i x hx j v y hv hy=>?_);cases hd:v.pR
  ·exact(ke i x hx j v y hv hy hd).2.mono (fun _ h=>h.elim) (fun _ h=>h.elim) (fun _ _ h=>by simp at h)
  ·obtain⟨c',l',rfl⟩:=I7 hd;exact ih i x hx j c' l' y hv hy fun k hk=>hS k (.kid hx hv (seg_cell hb hy) hk)
theorem OO{c:K.U}{l:List (K.El c)}{r:Value}(h:Tree D w c l r):∃a cp,r=.slice a l.length cp:=by
 cases h with
 |nil=>exact⟨_,_,rfl⟩
 |mk=>exact⟨_,_,rfl⟩
theorem mI.old{c:K.U}{l:List (K.El c)}{i off n:Nat}{r:Value}{k:Nat}(h:mI D w' c l i off n r k)(hw:∀k,mI D w c l i off n r k->w'.heap[k]?=w.heap[k]?):mI D w c l i off n r k:=by
 obtain⟨b,o,m,cap,rfl,h|⟨i',j',x,c',l',y,h1,h2,h3,h4,h5⟩⟩:=h
 ·exact⟨b,o,m,cap,rfl,.inl h⟩
 ·rw[cell?_of_heap (w:=w) (hw b ⟨b,o,m,cap,rfl,.inl rfl⟩)]at h4;exact⟨b,o,m,cap,rfl,.inr ⟨i',j',x,c',l',y,h1,h2,h3,h4,h5.old fun k hk=>hw k ⟨b,o,m,cap,rfl,.inr ⟨i',j',x,c',l',y,h1,h2,h3,h4,hk⟩⟩⟩⟩
theorem mI.new{c:K.U}{l:List (K.El c)}{i off n:Nat}{r:Value}{k:Nat}(h:mI D w c l i off n r k)(hw:∀k,mI D w c l i off n r k->w'.heap[k]?=w.heap[k]?):mI D w' c l i off n r k:=by
 obtain⟨b,o,m,cap,rfl,h|⟨i',j',x,c',l',y,h1,h2,h3,h4,h5⟩⟩:=h
 ·exact⟨b,o,m,cap,rfl,.inl h⟩
 ·exact⟨b,o,m,cap,rfl,.inr ⟨i',j',x,c',l',y,h1,h2,h3,by rw[cell?_of_heap (w:=w) (hw b ⟨b,o,m,cap,rfl,.inl rfl⟩)];exact h4,h5.new fun k hk=>hw k ⟨b,o,m,cap,rfl,.inr ⟨i',j',x,c',l',y,h1,h2,h3,h4,hk⟩⟩⟩⟩
theorem pS.keep{c:K.U}{l:List (K.El c)}{i off:Nat}{cs:List (AV K)}{r:Value}(hR:∀(j:Nat) v u,cs[j]?=some v->Rep D ρ S w v u->Rep D ρ' S' w' v u)
 (hb:∀k,mI D w c l i off cs.length r k->w'.heap[k]?=w.heap[k]?) (h:pS D ρ S w c l i off cs r):pS D ρ' S' w' c l i off cs r:=by
 obtain⟨b,o,cap,vs,T,fr,rfl,h1,h2,h3,h4,h5,h6,h7,h8,h9⟩:=h;have hbb:w'.heap[b]?=w.heap[b]?:=hb b ⟨b,o,_,cap,rfl,.inl rfl⟩;have hcell:∀k,w'.cell? ⟨b,k,none⟩=w.cell? ⟨b,k,none⟩:=fun k=>cell?_of_heap hbb
 have hk:∀(i' j':Nat)(x:K.El c)(c':K.U)(l':List (K.El c'))(y:Value),¬Af i off cs.length i' j'->l[i']?=some x->(D.cells c x)[j']?=some (.ax c' l')->w.cell? ⟨b,o+i'*K.sz c+j',none⟩=some y->∀k,dU D w c' l' y k->w'.heap[k]?=w.heap[k]?:=
  fun i' j' x c' l' y g1 g2 g3 g4 k hk=>hb k ⟨b,o,_,cap,rfl,.inr ⟨i',j',x,c',l',y,g1,g2,g3,g4,hk⟩⟩
 refine⟨b,o,cap,vs,T,fr,rfl,by rw[hbb];exact h1,h2,h3,h4,h5,h6,fun i' x hx j' v u hh hv hu=>?_,fun i1 j1 i2 j2 x1 x2 c1 l1 c2 l2 u1 u2 k a1 a2 a3 a4 a5 a6 a7 a8 a9 a10=>?_,fun j v hv=>?_⟩
 ·rw[hcell]at hu;obtain⟨g1,g2⟩:=h7 i' x hx j' v u hh hv hu;refine⟨fun e=>⟨(g1 e).1,(g1 e).2.mono (fun _ h=>h) (fun _ h=>h.elim) (fun _ _ h=>h)⟩,fun c' l' e=>?_⟩;obtain⟨k1,k2⟩:=g2 c' l' e;subst e;have hk':=hk i' j' x c' l' u hh hx hv hu;exact⟨k1.mono hk',fun hf=>k2 (hf.old hk')⟩
 ·rw[hcell]at a7 a8;exact h8 i1 j1 i2 j2 x1 x2 c1 l1 c2 l2 u1 u2 k a1 a2 a3 a4 a5 a6 a7 a8 (a9.old (hk _ _ _ _ _ _ a1 a3 a5 a7)) (a10.old (hk _ _ _ _ _ _ a2 a4 a6 a8))
 ·obtain⟨u,g1,g2⟩:=h9 j v hv;exact⟨u,by rw[hcell];exact g1,hR j v u hv g2⟩
theorem pS.mono{c:K.U}{l:List (K.El c)}{i off:Nat}{cs:List (AV K)}{r:Value}(hS:∀b,S b->S' b)(hw:∀b,S b->w'.heap[b]?=w.heap[b]?)(hρ:∀(h:Nat) r,ρ[h]?=some r->ρ'[h]?=some r)
 (hb:∀k,mI D w c l i off cs.length r k->w'.heap[k]?=w.heap[k]?) (h:pS D ρ S w c l i off cs r):pS D ρ' S' w' c l i off cs r:=
 h.keep (fun _ _ _ _ hr=>hr.mono hS hw hρ) hb
theorem cG.old{o:Ob K}{r:Value}{k:Nat}(h:cG D w' o r k)(hw:∀k,cG D w o r k->w'.heap[k]?=w.heap[k]?):cG D w o r k:=by
 cases o<;>first|exact h|exact dU.old h hw|exact mI.old h hw
theorem cG.new{o:Ob K}{r:Value}{k:Nat}(h:cG D w o r k)(hw:∀k,cG D w o r k->w'.heap[k]?=w.heap[k]?):cG D w' o r k:=by
 cases o<;>first|exact h|exact dU.new h hw|exact mI.new h hw
end Go.V
namespace Go.V
open Go
variable {K :di}{D:bC K}{n0:Nat}{ρ ρ':List Value}{S S':Nat->Prop}{w w':World}{H H':List (Ob K)}
theorem gX.mono(hS:∀b,S b->S' b)(hw:∀b,S b->w'.heap[b]?=w.heap[b]?)(hρ:∀(h:Nat) r,ρ[h]?=some r->ρ'[h]?=some r){o:Ob K}{r:Value}
 (hb:∀b,o.live=true->cG D w o r b->w'.heap[b]?=w.heap[b]?) (h:gX D ρ S w o r):gX D ρ' S' w' o r:=by
 cases o with
 |dead=>trivial
 |gW c l=>exact Rep.mono hS hw hρ h
 |box cs=>
  obtain⟨b,vs,T,rfl,h1,h2,h3⟩:=h;exact⟨b,vs,T,rfl,by rw[hb b rfl rfl];exact h1,h2.mono hS hw hρ,h3⟩
 |arr c l=>
  rcases h with h|⟨b,o,cap,vs,T,fr,rfl,h1,h2,h3,h4,h5⟩
  ·exact .inl h
  ·exact .inr ⟨b,o,cap,vs,T,fr,rfl,by rw[hb b rfl rfl];exact h1,h2,h3,h4,fun i x hx=>(h5 i x hx).mono hS hw hρ⟩
 |tree c l=>exact Tree.mono h fun k hk=>hb k rfl hk
 |opn c l i off cs=>exact pS.mono hS hw hρ (fun k hk=>hb k rfl hk) h
theorem Own.adv{h:Nat}{o:Ob K}{r:Value}{b:Nat}(h1:H[h]?=some o)(h2:o.live=true)(h3:ρ[h]?=some r)(h4:cG D w o r b):Own D w ρ H b:=⟨h,o,r,h1,h2,h3,h4⟩
theorem Own.old{b:Nat}(h:Own D w' ρ H b)(ho:∀b,Own D w ρ H b->w'.heap[b]?=w.heap[b]?):Own D w ρ H b:=by
 obtain⟨k,o,r,h1,h2,h3,h4⟩:=h;exact⟨k,o,r,h1,h2,h3,h4.old fun q hq=>ho q ⟨k,o,r,h1,h2,h3,hq⟩⟩
theorem Own.new{b:Nat}(h:Own D w ρ H b)(ho:∀b,Own D w ρ H b->w'.heap[b]?=w.heap[b]?):Own D w' ρ H b:=by
 obtain⟨k,o,r,h1,h2,h3,h4⟩:=h;exact⟨k,o,r,h1,h2,h3,h4.new fun q hq=>ho q ⟨k,o,r,h1,h2,h3,hq⟩⟩
theorem fD{α:Type}{l:List α}{h k:Nat}{o x:α}(hx:(l.set h o)[k]?=some x):(k=h/\x=o/\h<l.length)\/(k≠h/\l[k]?=some x):=by
 rw[kD]at hx;by_cases hk:h=k
 ·subst hk;simp only[Dx]at hx;split at hx
  ·rename_i hl;simp at hx;exact .inl ⟨rfl,hx.symm,hl⟩
  ·simp at hx
 ·rw[bg hk]at hx;exact .inr ⟨pJ hk,hx⟩
theorem xA{h b:Nat}(hb:Own D w ρ (H.set h .dead) b):Own D w ρ H b:=by
 obtain⟨k,o,r,h1,h2,h3,h4⟩:=hb;rcases fD h1 with⟨-,rfl,-⟩|⟨-,h1⟩
 ·cases h2
 ·exact⟨k,o,r,h1,h2,h3,h4⟩
theorem aM.kill(hs:aM D ρ S w H)(h:Nat):aM D ρ S w (H.set h .dead):={
 len:=by simp[hs.len]
 ob:=fun k o r h1 h2=>by
  rcases fD h1 with⟨-,rfl,-⟩|⟨-,h1⟩
  ·trivial
  ·exact hs.ob k o r h1 h2
 ff:=fun k k' o o' r r' b h1 h2 h3 h4 g1 g2 g3 g4=>by
  rcases fD h1 with⟨-,rfl,-⟩|⟨-,h1⟩
  ·cases h2
  ·rcases fD g1 with⟨-,rfl,-⟩|⟨-,g1⟩
   ·cases g2
   ·exact hs.ff k k' o o' r r' b h1 h2 h3 h4 g1 g2 g3 g4
 lt:=fun b hb=>hs.lt b (xA hb)
 slt:=hs.slt
 base:=hs.base}
theorem I8(hs:aM D ρ S w H){h:Nat}{o:Ob K}{r:Value}{b:Nat}(h1:H[h]?=some o)(h2:o.live=true)(h3:ρ[h]?=some r)(h4:cG D w o r b):¬Own D w ρ (H.set h .dead) b:=by
 rintro ⟨k,o',r',g1,g2,g3,g4⟩
 rcases fD g1 with⟨-,rfl,-⟩|⟨hk,g1⟩
 ·cases g2
 ·exact hk (hs.ff k h o' o r' r b g1 g2 g3 g4 h1 h2 h3 h4)
theorem aM.world(hs:aM D ρ S w H)(hsz:w.heap.size<=w'.heap.size)(ho:∀b,Own D w ρ H b->w'.heap[b]?=w.heap[b]?)(hS:∀b,S b->w'.heap[b]?=w.heap[b]?):aM D ρ S w' H:={
 len:=hs.len
 ob:=fun k o r h1 h2=>(hs.ob k o r h1 h2).mono (fun _ h=>h) hS (fun _ _ h=>h) (fun b hl hb=>ho b ⟨k,o,r,h1,hl,h2,hb⟩)
 ff:=fun k k' o o' r r' b h1 h2 h3 h4 g1 g2 g3 g4=>hs.ff k k' o o' r r' b h1 h2 h3 (h4.old fun q hq=>ho q ⟨k,o,r,h1,h2,h3,hq⟩) g1 g2 g3 (g4.old fun q hq=>ho q ⟨k',o',r',g1,g2,g3,hq⟩)
 lt:=fun b hb=>⟨kC (hs.lt b (hb.old ho)).1 hsz,(hs.lt b (hb.old ho)).2⟩
 slt:=fun b hb=>kC (hs.slt b hb) hsz
 base:=D.base.mono (fun _ h=>h) hS hs.base}
theorem rm{α:Type}{l:List α}{x y:α}{k:Nat}(h:(l++[x])[k]?=some y):l[k]?=some y\/(k=l.length/\y=x):=by
 by_cases hk:k<l.length
 ·rw[dX hk]at h;exact .inl h
 ·rw[eZ (by omega)]at h;have:k-l.length=0:=by
   rcases pH (k-l.length)with h0|h0
   ·exact h0
   ·rw[kA (by simp;omega)]at h;cases h
  rw[this]at h;simp at h;exact .inr ⟨by omega,h.symm⟩
theorem vq{l m:List Value}{k:Nat}{y:Value}(h:l[k]?=some y):(l++m)[k]?=some y:=by
 rw[dX (cF.1 h).1];exact h
theorem DV{r:Value}{o:Ob K}{b:Nat}(hl:ρ.length=H.length)(h:Own D w (ρ++[r]) (H++[o]) b):Own D w ρ H b\/(o.live=true/\cG D w o r b):=by
 obtain⟨k,o',r',h1,h2,h3,h4⟩:=h;rcases rm h1 with h1|⟨rfl,rfl⟩
 ·rcases rm h3 with h3|⟨rfl,rfl⟩
  ·exact .inl ⟨k,o',r',h1,h2,h3,h4⟩
  ·have:=(cF.1 h1).1;omega
 ·rcases rm h3 with h3|⟨_,rfl⟩
  ·have:=(cF.1 h3).1;omega
  ·exact .inr ⟨h2,h4⟩
theorem aM.push(hs:aM D ρ S w H){o:Ob K}{r:Value}(ho:gX D (ρ++[r]) S w o r)(hb:∀b,o.live=true->cG D w o r b->b<w.heap.size/\¬S b/\¬Own D w ρ H b):
 aM D (ρ++[r]) S w (H++[o]):={
 len:=by simp[hs.len]
 ob:=fun k o' r' h1 h2=>by
  rcases rm h1 with h1|⟨rfl,rfl⟩
  ·rcases rm h2 with h2|⟨rfl,rfl⟩
   ·exact(hs.ob k o' r' h1 h2).mono (fun _ h=>h) (fun _ _=>rfl) (fun _ _ h=>vq h) (fun _ _ _=>rfl)
   ·have:=(cF.1 h1).1;have:=hs.len;omega
  ·rcases rm h2 with h2|⟨_,rfl⟩
   ·have:=(cF.1 h2).1;have:=hs.len;omega
   ·exact ho
 ff:=fun k k' o1 o2 r1 r2 b h1 h2 h3 h4 g1 g2 g3 g4=>by
  have hl:=hs.len;have key:∀{k:Nat}{o1:Ob K}{r1:Value},(H++[o])[k]?=some o1->(ρ++[r])[k]?=some r1->(H[k]?=some o1/\ρ[k]?=some r1)\/(k=H.length/\o1=o/\r1=r):=fun{k o1 r1} a b=>by
   rcases rm a with a|⟨rfl,rfl⟩
   ·rcases rm b with b|⟨hk,_⟩
    ·exact .inl ⟨a,b⟩
    ·have:=(cF.1 a).1;omega
   ·rcases rm b with b|⟨_,rfl⟩
    ·have:=(cF.1 b).1;omega
    ·exact .inr ⟨rfl,rfl,rfl⟩
  rcases key h1 h3 with⟨a1,a3⟩|⟨a0,a1,a2⟩
  ·rcases key g1 g3 with⟨c1,c3⟩|⟨c0,c1,c2⟩
   ·exact hs.ff k k' o1 o2 r1 r2 b a1 h2 a3 h4 c1 g2 c3 g4
   ·subst c1;subst c2;exact absurd ⟨k,o1,r1,a1,h2,a3,h4⟩ (hb b g2 g4).2.2
  ·rcases key g1 g3 with⟨c1,c3⟩|⟨c0,c1,c2⟩
   ·subst a1;subst a2;exact absurd ⟨k',o2,r2,c1,g2,c3,g4⟩ (hb b h2 h4).2.2
   ·omega
 lt:=fun b h=>by
  rcases DV hs.len h with h|⟨hl,h⟩
  ·exact hs.lt b h
  ·exact⟨(hb b hl h).1,(hb b hl h).2.1⟩
 slt:=hs.slt
 base:=hs.base}
theorem aM.OP(hs:aM D ρ S w H){h:Nat}{o:Ob K}{r:Value}(h0:H[h]?=some .dead)(hr:ρ[h]?=some r)(ho:gX D ρ S w o r)(hb:∀b,cG D w o r b->b<w.heap.size/\¬S b/\¬Own D w ρ H b):
 aM D ρ S w (H.set h o):={
 len:=by simp[hs.len]
 ob:=fun k o' r' h1 h2=>by
  rcases fD h1 with⟨rfl,rfl,-⟩|⟨hk,h1⟩
  ·rw[hr]at h2;simp at h2;subst h2;exact ho
  ·exact hs.ob k o' r' h1 h2
 ff:=fun k k' o1 o2 r1 r2 b h1 h2 h3 h4 g1 g2 g3 g4=>by
  rcases fD h1 with⟨rfl,rfl,-⟩|⟨hk,h1⟩
  ·rcases fD g1 with⟨rfl,rfl,-⟩|⟨hk',g1⟩
   ·rfl
   ·rw[hr]at h3;simp at h3;subst h3;exact absurd ⟨k',o2,r2,g1,g2,g3,g4⟩ (hb b h4).2.2
  ·rcases fD g1 with⟨rfl,rfl,-⟩|⟨hk',g1⟩
   ·rw[hr]at g3;simp at g3;subst g3;exact absurd (Own.adv (H:=H) ‹_› h2 h3 h4) (hb b g4).2.2
   ·exact hs.ff k k' o1 o2 r1 r2 b h1 h2 h3 h4 g1 g2 g3 g4
 lt:=fun b ⟨k,o',r',h1,h2,h3,h4⟩=>by
  rcases fD h1 with⟨rfl,rfl,-⟩|⟨hk,h1⟩
  ·rw[hr]at h3;simp at h3;subst h3;exact⟨(hb b h4).1,(hb b h4).2.1⟩
  ·exact hs.lt b ⟨k,o',r',h1,h2,h3,h4⟩
 slt:=hs.slt
 base:=hs.base}
theorem aM.turn(hs:aM D ρ S w H){h b:Nat}{o o':Ob K}{r:Value}(h1:H[h]?=some o)(h2:o.live=true)(h3:ρ[h]?=some r)(h4:cG D w o r b)
 (hsz:w'.heap.size=w.heap.size) (hw:∀k,k≠b->w'.heap[k]?=w.heap[k]?) (hf:∀k,cG D w' o' r k->cG D w o r k) (ho:gX D ρ S w' o' r):aM D ρ S w' (H.set h o'):=by
 have hk:=hs.kill h;have hno:∀q,cG D w o r q->¬Own D w ρ (H.set h .dead) q:=fun q hq=>I8 hs h1 h2 h3 hq
 have hlt:∀q,cG D w o r q->q<w.heap.size/\¬S q:=fun q hq=>hs.lt q ⟨h,o,r,h1,h2,h3,hq⟩
 have hkeep:∀k,Own D w ρ (H.set h .dead) k->w'.heap[k]?=w.heap[k]?:=fun k hk'=>hw k (fun e=>by subst e;exact hno _ h4 hk')
 have hw1:aM D ρ S w' (H.set h .dead):=hk.world (by omega) hkeep (fun k hk'=>hw k (fun e=>by subst e;exact(hlt _ h4).2 hk'));have:=hw1.OP (h:=h) (o:=o') (r:=r) (by rw[kD];simp[(cF.1 h1).1]) h3 ho (fun k hk'=>by
  have hk2:=hf k hk';exact⟨by have:=(hlt k hk2).1;omega,(hlt k hk2).2,fun hO=>hno k hk2 (hO.old hkeep)⟩)
 simpa using this
theorem adw(hs:aM D ρ S w H){h b:Nat}{o o':Ob K}{r:Value}(h1:H[h]?=some o)(h2:o.live=true)(h3:ρ[h]?=some r)(h4:cG D w o r b)
 (hw:∀k,k≠b->w'.heap[k]?=w.heap[k]?) (hf:∀k,cG D w' o' r k->cG D w o r k) {q:Nat} (hb:Own D w' ρ (H.set h o') q):Own D w ρ H q:=by
 obtain⟨k,o1,r1,g1,g2,g3,g4⟩:=hb;rcases fD g1 with⟨rfl,rfl,-⟩|⟨hk,g1⟩
 ·rw[h3]at g3;simp at g3;subst g3;exact⟨k,o,r,h1,h2,h3,hf q g4⟩
 ·exact⟨k,o1,r1,g1,g2,g3,g4.old fun q hq=>hw q fun e=>by subst e;exact hk (hs.ff k h o1 o r1 r q g1 g2 g3 hq h1 h2 h3 h4)⟩
theorem Step.turn(hs:aM D ρ S w H){h b:Nat}{o o':Ob K}{r:Value}(h1:H[h]?=some o)(h2:o.live=true)(h3:ρ[h]?=some r)(h4:cG D w o r b)
 (hsz:w'.heap.size=w.heap.size) (hw:∀k,k≠b->w'.heap[k]?=w.heap[k]?) (hf:∀k,cG D w' o' r k->cG D w o r k) (e1:w'.os=w.os) (e2:w'.tape=w.tape) (e3:w'.output=w.output):Step D n0 ρ S H w ρ S (H.set h o') w':=
 ⟨e1,e2,e3,by omega,fun k hk hno=>hw k (fun e=>by subst e;exact hno ⟨h,o,r,h1,h2,h3,h4⟩),fun k hk=>.inl (adw hs h1 h2 h3 h4 hw hf hk),fun _ h=>h,fun _ h=>.inl h,fun _ _=>rfl⟩
theorem aM.new(hs:aM D ρ S w H){o:Ob K}{r:Value}(hsz:w.heap.size<=w'.heap.size)(hw:∀k,k<w.heap.size->w'.heap[k]?=w.heap[k]?)(ho:gX D (ρ++[r]) S w' o r)
 (hb:∀b,cG D w' o r b->w.heap.size<=b/\b<w'.heap.size):aM D (ρ++[r]) S w' (H++[o]):=by
 have hk:∀b,Own D w ρ H b->w'.heap[b]?=w.heap[b]?:=fun b h=>hw b (hs.lt b h).1
 have h1:aM D ρ S w' H:=hs.world hsz hk (fun b h=>hw b (hs.slt b h));exact h1.push ho fun b _ h=>⟨(hb b h).2,fun hS=>by have:=hs.slt b hS;have:=(hb b h).1;omega,fun hO=>by have:=(hs.lt b (hO.old hk)).1;have:=(hb b h).1;omega⟩
theorem Step.new(hs:aM D ρ S w H){o:Ob K}{r:Value}(hsz:w.heap.size<=w'.heap.size)(hw:∀k,k<w.heap.size->w'.heap[k]?=w.heap[k]?)
 (hb:∀b,cG D w' o r b->w.heap.size<=b) (e1:w'.os=w.os) (e2:w'.tape=w.tape) (e3:w'.output=w.output):Step D H.length ρ S H w (ρ++[r]) S (H++[o]) w':=
 ⟨e1,e2,e3,hsz,fun k hk _=>hw k hk,fun k hk=>by
   rcases DV hs.len hk with h|⟨-,h⟩
   ·exact .inl (h.old fun b h=>hw b (hs.lt b h).1)
   ·exact .inr (hb k h),fun _ h=>h,fun _ h=>.inl h,fun k hk=>by rw[dX (by rw[hs.len];exact hk)]⟩
theorem Ah(hs:aM D ρ S w H){h:Nat}{c:K.U}{l:List (K.El c)}(ho:H[h]?=some (.arr c l)){X:Value}(hp:ρ[h]?=some X):(X=.slice none 0 0/\l=[])\/∃b o cap vs T fr,X=.slice (some ⟨b,o,none⟩) l.length cap/\w.heap[b]?=some (.cells vs T fr)/\(l.length<=cap/\ta D c T o fr)/\o+cap*K.sz c<=vs.size/\
 (∀k,o<=k->k<o+cap*K.sz c->¬(fr.1<=k/\k<fr.2))/\∀i x,l[i]?=some x->bc D ρ S w (D.cells c x) (dc vs (o+i*K.sz c) (K.sz c)):=hs.ob h _ _ ho hp
theorem OQ(hs:aM D ρ S w H){h:Nat}{o:Ob K}{X:Value}{c:K.U}{l:List (K.El c)}(ho:H[h]?=some o)(hl:o.live=true)(hp:ρ[h]?=some X)
 (hr:Rep D ρ (fun b=>S b\/cG D w o X b) w (.ax c l) X):aM D ρ (fun b=>S b\/cG D w o X b) w (H.set h (.gW c l))/\Step D n0 ρ S H w ρ (fun b=>S b\/cG D w o X b) (H.set h (.gW c l)) w:=by
 have hlen:=hs.len;have hno:∀b,cG D w o X b->¬Own D w ρ (H.set h .dead) b:=fun b hb=>I8 hs ho hl hp hb
 have adx:∀b,Own D w ρ (H.set h (.gW c l)) b->Own D w ρ (H.set h .dead) b:=fun b ⟨k,o,r,g1,g2,g3,g4⟩=>by
  rcases fD g1 with⟨-,rfl,-⟩|⟨hne,g1⟩
  ·cases g2
  ·exact⟨k,o,r,by rw[kD,bg (pJ hne)];exact g1,g2,g3,g4⟩
 refine⟨⟨by simpa using hlen,fun k o' r h1 h2=>?_,fun k k' o o' r r' b h1 h2 h3 h4 g1 g2 g3 g4=>?_,fun b hb=>?_,fun b hb=>?_,D.base.mono (fun _ h=>.inl h) (fun _ _=>rfl) hs.base⟩,?_⟩
 ·rcases fD h1 with⟨rfl,rfl,-⟩|⟨-,h1⟩
  ·rw[hp]at h2;simp at h2;subst h2;exact hr
  ·exact(hs.ob k o' r h1 h2).mono (fun _ h=>.inl h) (fun _ _=>rfl) (fun _ _ h=>h) (fun _ _ _=>rfl)
 ·rcases fD h1 with⟨-,rfl,-⟩|⟨-,h1⟩
  ·cases h2
  ·rcases fD g1 with⟨-,rfl,-⟩|⟨-,g1⟩
   ·cases g2
   ·exact hs.ff k k' o o' r r' b h1 h2 h3 h4 g1 g2 g3 g4
 ·have h1:=adx b hb;have:=hs.lt b (xA h1);exact⟨this.1,fun hS=>hS.elim this.2 fun h2=>hno b h2 h1⟩
 ·rcases hb with hb|hb
  ·exact hs.slt b hb
  ·exact(hs.lt b ⟨h,_,_,ho,hl,hp,hb⟩).1
 ·refine⟨rfl,rfl,rfl,cq _,fun _ _ _=>rfl,fun b ⟨k,o,r,g1,g2,g3,g4⟩=>?_,fun _ h=>.inl h,fun b hb=>?_,fun _ _=>rfl⟩
  ·rcases fD g1 with⟨-,rfl,-⟩|⟨-,g1⟩
   ·cases g2
   ·exact .inl ⟨k,o,r,g1,g2,g3,g4⟩
  ·rcases hb with hb|hb
   ·exact .inl hb
   ·exact .inr (.inl ⟨h,_,_,ho,hl,hp,hb⟩)
theorem ady(hs:aM D ρ S w H)(h:Nat):∃S',aM D ρ S' w (u6 H h)/\Step D n0 ρ S H w ρ S' (u6 H h) w/\(u6 H h).length=H.length:=by
 have hlen:=hs.len;unfold u6;split
 ·rename_i c l ho;have hlt:h<H.length:=(cF.1 ho).1;have hp:ρ[h]?=some ρ[h]:=cJ (by omega);generalize ρ[h]=X at hp;have hr:Rep D ρ (fun b=>S b\/cG D w (.arr c l) X b) w (.ax c l) X:=by
   rcases Ah hs ho hp with⟨e,rfl⟩|⟨b,o,cap,vs,T,fr,e,hblk,⟨hcap,fE⟩,hsz,hfr,hall⟩
   ·rw[e];exact .fm _ _
   ·rw[e];refine .ax (fun i=>dc vs (o+i*K.sz c) (K.sz c)) (.inr rfl) hcap (fun i x hx=>(hall i x hx).1.symm) (fun i _=>ON hblk) (fun i x hx j v y hv hy=>?_);exact((hall i x hx).2 j v y hv hy).mono (fun _ h=>.inl h) (fun _ _=>rfl) (fun _ _ h=>h)
  obtain⟨h1,h2⟩:=OQ (n0:=n0) hs ho rfl hp hr;exact⟨_,h1,h2,by simp⟩
 ·rename_i c l ho;have hlt:h<H.length:=(cF.1 ho).1;have hp:ρ[h]?=some ρ[h]:=cJ (by omega);generalize ρ[h]=X at hp;have hT:Tree D w c l X:=hs.ob h _ _ ho hp;obtain⟨h1,h2⟩:=OQ (n0:=n0) hs ho rfl hp (hT.rep fun k hk=>.inr hk);exact⟨_,h1,h2,by simp⟩
 ·exact⟨S,hs,Step.refl,rfl⟩
theorem DW:∀(l:List Nat){S:Nat->Prop}{H:List (Ob K)},aM D ρ S w H->∃S',aM D ρ S' w (jq H l)/\Step D n0 ρ S H w ρ S' (jq H l) w/\(jq H l).length=H.length
 |[],S,H,hs=>⟨S,hs,Step.refl,rfl⟩
 |h::r,S,H,hs=>by
  obtain⟨S1,h1,h2,h3⟩:=ady (n0:=n0) hs h;obtain⟨S2,g1,g2,g3⟩:=DW r h1;exact⟨S2,g1,h2.trans g2,by simp only[jq];rw[g3,h3]⟩
theorem adz{c:K.U}{l:List (K.El c)}{a a':Option Addr}{n cp lo hi c':Nat}(h:Rep D ρ S w (.ax c l) (.slice a n cp))(h1:lo<=hi)(h2:hi<=n)(ha:hi-lo=0\/∃b o,a=some ⟨b,o,none⟩/\a'=some ⟨b,o+lo*K.sz c,none⟩/\hi-lo<=c'):
 Rep D ρ S w (.ax c ((l.take hi).drop lo)) (.slice a' (hi-lo) c'):=by
 rcases ha with h0|⟨b,o,rfl,rfl,hc⟩
 ·have:(l.take hi).drop lo=[]:=mE (by simp;omega);rw[this,h0];exact .fm _ _
 ·by_cases h0:hi-lo=0
  ·have:(l.take hi).drop lo=[]:=mE (by simp;omega);rw[this,h0];exact .fm _ _
  ·cases h with
   |fm=>omega
   |ax val hS hcap hl' hca hr=>
    have hlen:((l.take hi).drop lo).length=hi-lo:=by simp;omega
    have hget:∀i x,((l.take hi).drop lo)[i]?=some x->l[lo+i]?=some x:=fun i x hi=>by
     simp only[jm,fj]at hi;split at hi
     ·exact hi
     ·simp at hi
    rw[<-hlen];exact .ax (fun i=>val (lo+i)) hS (by rw[hlen];omega) (fun i x hi=>hl' _ _ (hget i x hi))
     (fun i hi=>by
       have:=hca (lo+i) (by rw[hlen]at hi;omega)
       rwa [eE,<-kE]at this)
     (fun i x hi=>hr _ _ (hget i x hi))
mutual
theorem pV(hs:aM D ρ S w H):∀(x:AV K)(v:Value),Rep D ρ S w x v->Rep D ρ S w (eK H x) v
 |.sl h,v,hx=>by
   simp only[eK];split
   ·rename_i c l ho;cases hx with
    |sl hp=>exact hs.ob h _ _ ho hp
   ·exact hx
 |.vw h st lo hi,v,hx=>by
   cases hx with
   |vw hp h1 h2 ha=>
    simp only[eK];split
    ·rename_i c l ho;split
     ·rename_i hst;subst hst;exact adz (hs.ob h _ _ ho hp) h1 h2 ha
     ·exact .vw hp h1 h2 ha
    ·exact .vw hp h1 h2 ha
 |.agg l,v,hx=>by
   cases hx with
   |agg hl hr=>
    have:=Ai hs l _ ⟨hl,hr⟩;exact .agg this.1 this.2
 |.bA l,v,hx=>by
   cases hx with
   |bA hl hr=>
    have:=Ai hs l _ ⟨hl,hr⟩;exact .bA this.1 this.2
 |.any,v,hx|.int _ _,v,hx|.bool _,v,hx|.str _,v,hx|.dD,v,hx|.dt,v,hx|.mp,v,hx|.fn _ _,v,hx|.ptr _ _,v,hx|.ep _ _ _ _,v,hx|.ax _ _,v,hx|.rp _ _ _,v,hx|.np _,v,hx|.opt _ _ _,v,hx=>by simpa only[eK]using hx
theorem Ai(hs:aM D ρ S w H):∀(l:List (AV K))(vs:List Value),bc D ρ S w l vs->bc D ρ S w (pM H l) vs
 |[],vs,h=>by rw[h.oJ];exact .nil
 |x::r,vs,h=>by
  obtain⟨u,t,rfl,h1,h2⟩:=h.gz;exact .cons (pV hs x u h1) (Ai hs r t h2)
end
def oK(b:Bool)(c:K.U):Ob K:=cond b (.tree c []) (.arr c [])
theorem OR(hs:aM D ρ S w H)(c:K.U)(b:Bool):aM D (ρ++[.slice none 0 0]) S w (H++[oK b c])/\Step D H.length ρ S H w (ρ++[.slice none 0 0]) S (H++[oK b c]) w:=by
 have hf:∀k,¬cG D w (oK b c:Ob K) (.slice none 0 0) k:=fun k h=>by
  cases b
  ·change ly (.slice none 0 0)=some k at h;simp[ly]at h
  ·change dU D w c [] (.slice none 0 0) k at h;cases h
 have ho:gX D (ρ++[.slice none 0 0]) S w (oK b c) (.slice none 0 0):=by
  cases b
  ·exact .inl ⟨rfl,rfl⟩
  ·exact Tree.nil
 exact⟨hs.push ho (fun k _ h=>(hf k h).elim),Step.new hs (cq _) (fun _ _=>rfl) (fun k h=>(hf k h).elim) rfl rfl rfl⟩
def xB(D:bC K)(S:Nat->Prop)(w:World)(H:List (Ob K))(ρ vs:List Value)(p:List (AV K)×List (Ob K)):Prop:=
 ∃ρ',aM D ρ' S w p.2/\bc D ρ' S w p.1 vs/\Step D H.length ρ S H w ρ' S p.2 w/\(∀(h:Nat) r,ρ[h]?=some r->ρ'[h]?=some r)/\H.length<=p.2.length/\(∀(h:Nat) o,H[h]?=some o->p.2[h]?=some o)
theorem vu(dp:K.U->Bool):∀(cs:List (Option K.U))(l:List (AV K))(H:List (Ob K))(ρ:List Value)(vs:List Value),aM D ρ S w H->bc D ρ S w l vs->xB D S w H ρ vs (thaw dp H cs l)
 |[],l,H,ρ,vs,hs,hr=>⟨ρ,by simpa [thaw]using hs,by simpa [thaw]using hr,by simpa [thaw]using Step.refl,fun _ _ h=>h,by simp[thaw],fun _ _ h=>by simpa [thaw]using h⟩
 |some c::cs,[],H,ρ,vs,hs,hr=>⟨ρ,by simpa [thaw]using hs,by simpa [thaw]using hr,by simpa [thaw]using Step.refl,fun _ _ h=>h,by simp[thaw],fun _ _ h=>by simpa [thaw]using h⟩
 |none::cs,[],H,ρ,vs,hs,hr=>⟨ρ,by simpa [thaw]using hs,by simpa [thaw]using hr,by simpa [thaw]using Step.refl,fun _ _ h=>h,by simp[thaw],fun _ _ h=>by simpa [thaw]using h⟩
 |oc::cs,v::r,H,ρ,vs,hs,hr=>by
  obtain⟨u,t,rfl,h1,h2⟩:=hr.gz;have keep:thaw dp H (oc::cs) (v::r)=(v::(thaw dp H cs r).1,(thaw dp H cs r).2)->xB D S w H ρ (u::t) (thaw dp H (oc::cs) (v::r)):=fun e=>by
   obtain⟨ρ',g1,g2,g3,g4,g5,g6⟩:=vu dp cs r H ρ t hs h2;rw[e];exact⟨ρ',g1,.cons (h1.mono (fun _ h=>h) (fun _ _=>rfl) g4) g2,g3,g4,g5,g6⟩
  cases oc with
  |none=>exact keep (by cases v<;>rfl)
  |some c=>
   cases v with
   |dt=>
    obtain⟨n1,n2⟩:=OR hs c (dp c);have hpre:∀(h:Nat) r,ρ[h]?=some r->(ρ++[.slice none 0 0])[h]?=some r:=fun _ _ h=>vq h
    obtain⟨ρ',g1,g2,g3,g4,g5,g6⟩:=vu dp cs r (H++[oK (dp c) c]) _ t n1 (h2.mono (fun _ h=>h) (fun _ _=>rfl) hpre);have e:thaw dp H (some c::cs) (.dt::r)=(.sl H.length::(thaw dp (H++[oK (dp c) c]) cs r).1,(thaw dp (H++[oK (dp c) c]) cs r).2):=rfl;rw[e];have hu:u=.slice none 0 0:=by cases h1;rfl
    refine⟨ρ',g1,.cons ?_ g2,n2.trans (g3.weaken (by simp)),fun h r hr=>g4 h r (hpre h r hr),by have g5:=g5;simp at g5;exact Nat.le_of_succ_le g5,fun h o ho=>g6 h o ?_⟩
    ·rw[hu];exact .sl (g4 _ _ (by rw[eZ (by rw[hs.len];exact cq _)];simp[hs.len]))
    ·rw[dX (cF.1 ho).1];exact ho
   |_=>exact keep rfl
end Go.V
namespace Go.V
open Go
variable {K :di}{D:bC K}{ρ:List Value}{S:Nat->Prop}{w:World}
theorem gY{k:IntKind}{n:Int}{X:Value}(h:Rep D ρ S w (.int k n) X):X=.int k n:=by cases h;rfl
theorem lB{b:Bool}{X:Value}(h:Rep D ρ S w (.bool b) X):X=.bool b:=by cases h;rfl
theorem iS{s:List UInt8}{X:Value}(h:Rep D ρ S w (.str s) X):X=.string ⟨s.toArray⟩:=by cases h;rfl
theorem OS{c:K.U}{x:K.El c}{off:Nat}{X:Value}(h:Rep D ρ S w (.rp c x off) X):∃b o vs,X=.pointer (some ⟨b,o+off,none⟩)/\vs.length=(D.cells c x).length/\iR w b o vs/\
 ∀(j:Nat) v y,(D.cells c x)[j]?=some v->vs[j]?=some y->Rep D ρ S w v y:=by
 cases h with|rp vs hS hl hc hr=>exact⟨_,_,vs,rfl,hl,hc,hr⟩
theorem tc{h off:Nat}{X:Value}(hp:Rep D ρ S w (.ptr h off) X):∃b,X=.pointer (some ⟨b,off,none⟩)/\ρ[h]?=some (.pointer (some ⟨b,0,none⟩)):=by
 cases hp with|ptr hp=>exact⟨_,rfl,hp⟩
theorem mJ{h:Nat}{X:Value}(hp:Rep D ρ S w (.sl h) X):ρ[h]?=some X/\∃a n c,X=.slice a n c:=by
 cases hp with|sl hp=>exact⟨hp,_,_,_,rfl⟩
theorem vv{h st i off:Nat}{X:Value}(hp:Rep D ρ S w (.ep h st i off) X):∃b o n c,X=.pointer (some ⟨b,o+i*st+off,none⟩)/\ρ[h]?=some (.slice (some ⟨b,o,none⟩) n c)/\i<n:=by
 cases hp with|ep hp hi=>exact⟨_,_,_,_,rfl,hp,hi⟩
theorem xC{H:List (Ob K)}(hs:aM D ρ S w H){h:Nat}{c:K.U}{l:List (K.El c)}{X:Value}(ho:H[h]?=some (.arr c l))(hp:ρ[h]?=some X):
 (X=.slice none 0 0/\l=[])\/∃b o cap vs T fr,X=.slice (some ⟨b,o,none⟩) l.length cap/\w.heap[b]?=some (.cells vs T fr)/\(l.length<=cap/\ta D c T o fr)/\o+cap*K.sz c<=vs.size/\
   (∀k,o<=k->k<o+cap*K.sz c->¬(fr.1<=k/\k<fr.2))/\∀i x,l[i]?=some x->bc D ρ S w (D.cells c x) (dc vs (o+i*K.sz c) (K.sz c)):=hs.ob _ _ _ ho hp
theorem getD_some{α:Type}{l:List α}{i:Nat}(d:α)(h:i<l.length):l[i]?=some (l.getD i d):=by simp[List.getD,h]
theorem OT(s:List UInt8):(ByteArray.mk s.toArray).toList=s:=by rw[ByteArray.toList_eq]
theorem Aj(s:List UInt8):(ByteArray.mk s.toArray).size=s.length:=by simp[ByteArray.size]
theorem adA(s t:List UInt8):(ByteArray.mk s.toArray)++(ByteArray.mk t.toArray)=⟨(s++t).toArray⟩:=by
 apply ByteArray.ext;simp
theorem adB{P:Program}{op:BinOp}{t:TypeId}{a b:List UInt8}{v:AV K}{c:Bool}(h:IM op a b=some (v,c))(hc:c=true):
 ∃u,(binOp op t (.string ⟨a.toArray⟩) (.string ⟨b.toArray⟩)).run P w=.ok u w/\Rep D ρ S w v u:=by
 cases op<;>simp only[IM]at h<;>first
  |(cases h;done)
  |(simp only[aw,aP]at h;obtain⟨rfl,rfl⟩:=h)
 case add=>
  refine⟨.string ⟨(a++b).toArray⟩,?_,.str _⟩;have hc':a.length+b.length<=4611686018427387904:=by simpa [au]using hc
  simp only[binOp,Op.stringOp,Aj];rw[bg (by simp[IntKind.max,IntKind.signed,IntKind.bits];omega)];simp[adA]
 all_goals
  refine⟨_,?_,.bool _⟩;simp[binOp,Op.stringOp,zT]
theorem adC{P:Program}{op:BinOp}{t:TypeId}{k:IntKind}{a b:Int}{v:AV K}{c:Bool}(h:IL op k a b=some (v,c))(hc:c=true):
 ∃u,(binOp op t (.int k a) (.int k b)).run P w=.ok u w/\Rep D ρ S w v u:=by
 cases op<;>simp only[IL]at h<;>first
  |(cases h;done)
  |(simp only[aw,aP]at h;obtain⟨rfl,rfl⟩:=h)
 case quo=>
  refine⟨_,?_,.int _ _⟩;have hb:b≠0:=by simpa using hc
  simp[binOp,Op.intDiv,hb]
 case rem=>
  refine⟨_,?_,.int _ _⟩;have hb:b≠0:=by simpa using hc
  simp[binOp,Op.intDiv,hb]
 case and=>exact⟨_,by simp[binOp,Op.intBits,oz],.int _ _⟩
 case or=>exact⟨_,by simp[binOp,Op.intBits,oz],.int _ _⟩
 case xor=>exact⟨_,by simp[binOp,Op.intBits,oz],.int _ _⟩
 case andNot=>exact⟨_,by simp[binOp,Op.intBits,oz],.int _ _⟩
 all_goals first
  |(refine⟨_,?_,.int _ _⟩;simp[binOp,Op.intArith];done)
  |(refine⟨_,?_,.bool _⟩;simp[binOp,Op.intCmp];done)
theorem OU{P:Program}{t:TypeId}(h:IN P t=true)(a b:Bool):(Op.equal t (.bool a) (.bool b)).run P w=.ok (a==b) w:=by
 have hu:P.underlying t=some .bool:=by
  unfold IN at h;split at h
  ·assumption
  ·cases h
 show(Op.equalIn (9999+1) t (.bool a) (.bool b)).run P w=_
 rw[Op.equalIn];simp[underlying,hu,program,Sem.run]
theorem I9{P:Program}{op:BinOp}{t:TypeId}{x y:Operand}{X Y:Value}(h:(∃k n,X=.int k n)\/(∃b,X=.bool b)\/(∃s,X=.string s)):
 (eqGuard op t x y X Y).run P w=.ok () w:=by
 rcases h with⟨k,n,rfl⟩|⟨b,rfl⟩|⟨s,rfl⟩<;>simp[eqGuard]
theorem DX{P:Program}{t:TypeId}{g:Bool}(h:IQ P t=some g):(isAgg t).run P w=.ok g w:=by
 unfold IQ at h;split at h<;>first|(cases h;done)|skip
 ·rename_i d hu;simp only[aw]at h;subst h;simp[isAgg,underlying,hu]
 ·rename_i d e hu;simp only[aw]at h;subst h;simp[isAgg,underlying,hu]
 ·rename_i d h1 h2 hu;simp only[aw]at h;subst h;have:(underlying t).run P w=.ok d w:=by simp[underlying,hu]
  simp only[isAgg,Sem.run_bind,this,Result.andThen_ok];cases d<;>first|rfl|(exact absurd rfl (h1 _))|(exact absurd rfl (h2 _ _))
theorem rn{P:Program}{t:TypeId}{n:Nat}(h:fC P t=some n):(sizeOf t).run P w=.ok n w:=by
 unfold fC at h;cases hi:P.info? t with
 |none=>simp[hi]at h
 |some i=>simp[hi]at h;simp[sizeOf,typeInfo,hi,h]
theorem Ja{P:Program}{t:TypeId}{cs:List (AV K)}{vs:Array Value}{off:Nat}{v:AV K}(h:oC P t cs off=some v)(hr:bc D ρ S w cs vs.toList):
 ∃u,(part t vs off).run P w=.ok u w/\Rep D ρ S w v u:=by
 unfold oC at h;split at h
 ·rename_i n hg hn;split at h
  ·rename_i hle;simp only[aw]at h;subst h;have hr':=(hr.drop off).take n;refine⟨.agg ((vs.toList.drop off).take n).toArray,?_,.agg hr'.1 hr'.2⟩;simp only[part,Sem.run_bind,DX hg,Result.andThen_ok,Dx,rn hn,Sem.run_pure];congr 2;apply Array.toList_inj.1;simp[List.extract]
  ·cases h
 ·rename_i n hg hn;obtain⟨x,hx,hrep⟩:=hr.get h;refine⟨x,?_,hrep⟩;have hx':vs[off]?=some x:=by simpa using hx
  simp only[part,Sem.run_bind,DX hg,Result.andThen_ok,kB,lS,hx',Sem.run_pure]
 ·cases h
theorem DY{l:List (AV K)}{X:Value}(h:Rep D ρ S w (.agg l) X):∃vs:Array Value,X=.agg vs/\bc D ρ S w l vs.toList:=by
 cases h with|agg hl hr=>exact⟨_,rfl,by simpa using⟨hl,hr⟩⟩
theorem OV{P:Program}{d:Nat}{rec:TypeId->AV K->AV K->Option Bool}
 (hrec:∀t x y e X Y,rec t x y=some e->Rep D ρ S w x X->Rep D ρ S w y Y->(Op.equalIn d t X Y).run P w=.ok e w)
 {xs ys:List (AV K)} {vs us:Array Value} (hx:bc D ρ S w xs vs.toList) (hy:bc D ρ S w ys us.toList):
 ∀(fs:List Field)(e:Bool),zV P rec xs ys fs=some e->(Op.eqFields d vs us fs).run P w=.ok e w
 |[],e,h=>by simp only[zV,aw]at h;subst h;simp[Op.eqFields]
 |f::fs,e,h=>by
  unfold zV at h;split at h
  ·cases h
  ·rename_i hn;split at h
   ·rename_i a b ha hb;split at h
    ·rename_i p q hp hq;simp only[aw]at h;subst h;obtain⟨u,hu,hru⟩:=Ja (P:=P) ha hx;obtain⟨u',hu',adE⟩:=Ja (P:=P) hb hy;have h3:=hrec _ _ _ _ _ _ hp hru adE;have h4:=OV hrec hx hy fs q hq;simp only[Op.eqFields,ne_eq,hn,not_false_eq_true,Dx,Sem.run_bind,hu,hu',h3,Result.andThen_ok];cases p
     ·simp
     ·simpa using h4
    ·cases h
   ·cases h
theorem adF{P:Program}{t:TypeId}{fs:Array Field}{d:Nat}{vs us:Array Value}(hu:P.underlying t=some (.struct fs))(hst:P.stoodInHeld t=false):
 (Op.equalIn (d+1) t (.agg vs) (.agg us)).run P w=(Op.eqFields d vs us fs.toList).run P w:=by
 have hf:P.fieldsOf t=fs:=by simp[Program.fieldsOf,hu]
 rw[run_equalIn_struct w d t vs us (by rw[hf];exact hu) hst,hf]
theorem Jb{P:Program}(k:Nat):∀(n:Nat)(t:TypeId)(x y:AV K)(e:Bool)(X Y:Value),xm P n t x y=some e->Rep D ρ S w x X->Rep D ρ S w y Y->(Op.equalIn (n+k) t X Y).run P w=.ok e w
 |0,t,x,y,e,X,Y,h,hx,hy=>by simp[xm]at h
 |n+1,t,x,y,e,X,Y,h,hx,hy=>by
  rw[show n+1+k=(n+k)+1 by omega];unfold xm at h;split at h
  ·cases h
  ·rename_i heq;cases heq;split at h
   ·rename_i hk;subst hk;split at h
    ·rename_i hu;simp only[aw]at h;subst h;cases gY hx;cases gY hy;exact run_equalIn_int w _ _ _ _ _ _ hu
    ·cases h
   ·cases h
  ·rename_i heq;cases heq;split at h
   ·rename_i hu;simp only[aw]at h;subst h;cases lB hx;cases lB hy;exact run_equalIn_bool' w _ _ _ _ hu
   ·cases h
  ·rename_i heq;cases heq;split at h
   ·rename_i hu;simp only[aw]at h;subst h;cases iS hx;cases iS hy;rw[run_equalIn_string w _ _ _ _ hu,OT,OT]
   ·cases h
  ·rename_i heq;cases heq;obtain⟨vs,rfl,hvs⟩:=DY hx;obtain⟨us,rfl,hus⟩:=DY hy;split at h
   ·rename_i fs hu;split at h
    ·cases h
    ·rename_i hst;rw[adF hu (by simpa using hst)];exact OV (fun t x y e X Y=>Jb k n t x y e X Y) hvs hus fs.toList e h
   ·cases h
  ·cases h
theorem OW{P:Program}{t:TypeId}(h:IS P t=true)(a:Option Addr):(Op.equal t (.pointer a) (.pointer none)).run P w=.ok a.isNone w:=by
 obtain⟨e,hu⟩:∃e,P.underlying t=some (.pointer e):=by
  unfold IS at h;split at h
  ·rename_i e hu;exact⟨e,hu⟩
  ·cases h
 show(Op.equalIn (9999+1) t (.pointer a) (.pointer none)).run P w=_
 rw[Op.equalIn];cases a<;>simp[underlying,hu,program,Sem.run]
theorem DZ{P:Program}{op:BinOp}{t:TypeId}{ex ey:Operand}{a:Option Addr}{v:AV K}{c:Bool}
 (h:xn P op t a.isNone=some (v,c)):∃u,(do eqGuard op t ex ey (.pointer a) (.pointer none);binOp op t (.pointer a) (.pointer none):Sem Value).run P w=.ok u w/\Rep D ρ S w v u:=by
 unfold xn at h;have hg:(eqGuard op t ex ey (.pointer a) (.pointer none)).run P w=.ok () w:=by simp[eqGuard]
 rw[Sem.run_bind,hg,Result.andThen_ok];split at h
 ·rename_i hp;split at h
  ·simp only[aw,aP]at h;obtain⟨rfl,rfl⟩:=h;exact⟨_,by simp[binOp,OW hp],.bool _⟩
  ·simp only[aw,aP]at h;obtain⟨rfl,rfl⟩:=h;exact⟨_,by simp[binOp,OW hp],.bool _⟩
  ·cases h
 ·cases h
theorem adG{P:Program}{op:BinOp}{t:TypeId}{x y:AV K}{ex ey:Operand}{X Y:Value}{v:AV K}{c:Bool}
 (h:IT P op t x y=some (v,c)) (hc:c=true) (hx:Rep D ρ S w x X) (hy:Rep D ρ S w y Y):
 ∃u,(do eqGuard op t ex ey X Y;binOp op t X Y:Sem Value).run P w=.ok u w/\Rep D ρ S w v u:=by
 unfold IT at h;split at h
 ·rename_i k a k' b;obtain rfl:=gY hx;obtain rfl:=gY hy;rw[Sem.run_bind,I9 (.inl ⟨_,_,rfl⟩),Result.andThen_ok];split at h
  ·simp only[aw,aP]at h;obtain⟨rfl,rfl⟩:=h;have hb:¬b<0:=by simp at hc;omega
   exact⟨_,by simp[binOp,Op.shift,hb,OC],.int _ _⟩
  ·simp only[aw,aP]at h;obtain⟨rfl,rfl⟩:=h;have hb:¬b<0:=by simp at hc;omega
   exact⟨_,by simp[binOp,Op.shift,hb,IK],.int _ _⟩
  ·split at h
   ·rename_i hk;subst hk;exact adC h hc
   ·cases h
 ·rename_i a b;obtain rfl:=lB hx;obtain rfl:=lB hy;rw[Sem.run_bind,I9 (.inr (.inl ⟨_,rfl⟩)),Result.andThen_ok];split at h
  ·rename_i hb;split at h
   ·simp only[aw,aP]at h;obtain⟨rfl,rfl⟩:=h;exact⟨_,by simp[binOp,OU hb],.bool _⟩
   ·simp only[aw,aP]at h;obtain⟨rfl,rfl⟩:=h;exact⟨_,by simp[binOp,OU hb],.bool _⟩
   ·cases h
  ·cases h
 ·rename_i a b;obtain rfl:=iS hx;obtain rfl:=iS hy;rw[Sem.run_bind,I9 (.inr (.inr ⟨_,rfl⟩)),Result.andThen_ok];exact adB h hc
 ·rename_i a b;obtain⟨vs,rfl,hvs⟩:=DY hx;obtain⟨us,rfl,hus⟩:=DY hy;split at h
  ·split at h
   ·cases h
   ·rename_i hg;simp only[fA,aP]at h;obtain⟨e,he,rfl,rfl⟩:=h;have:=Jb 9994 6 t _ _ e _ _ he hx hy;refine⟨.bool e,?_,.bool _⟩;rw[Sem.run_bind,run_eqGuard_agg w _ t ex ey vs us (by simpa using hg),Result.andThen_ok,run_eql_struct,this];rfl
  ·split at h
   ·cases h
   ·rename_i hg;simp only[fA,aP]at h;obtain⟨e,he,rfl,rfl⟩:=h;have:=Jb 9994 6 t _ _ e _ _ he hx hy;refine⟨.bool (!e),?_,.bool _⟩;rw[Sem.run_bind,run_eqGuard_agg w _ t ex ey vs us (by simpa using hg),Result.andThen_ok,run_neq_struct,this];rfl
  ·cases h
 ·cases hx;cases hy;exact DZ (a:=none) h
 ·cases hx;cases hy;exact DZ (a:=some _) h
 ·cases hx;cases hy;exact DZ (a:=some _) h
 ·cases hx;cases hy;exact DZ (a:=some _) h
 ·cases h
theorem adH{P:Program}{op:UnOp}{x:AV K}{X:Value}{v:AV K}{c:Bool}(h:IP op x=some (v,c))(hx:Rep D ρ S w x X):
 ∃u,(Op.unary op X).run P w=.ok u w/\Rep D ρ S w v u:=by
 unfold IP at h;split at h
 ·obtain rfl:=lB hx;split at h
  ·simp only[aw,aP]at h;obtain⟨rfl,rfl⟩:=h;exact⟨_,by simp[Op.unary],.bool _⟩
  ·cases h
 ·obtain rfl:=gY hx;split at h
  ·simp only[aw,aP]at h;obtain⟨rfl,rfl⟩:=h;exact⟨_,by simp[Op.unary,Op.intArith],.int _ _⟩
  ·simp only[aw,aP]at h;obtain⟨rfl,rfl⟩:=h;exact⟨_,by simp[Op.unary,Op.intBits,oz],.int _ _⟩
  ·cases h
 ·cases h
mutual
theorem xE:∀(v:Value)(x:AV K),lT v=some x->Rep D ρ S w x v
 |.bool b,x,h=>by simp[lT]at h;subst h;exact .bool b
 |.int k n,x,h=>by simp[lT]at h;subst h;exact .int k n
 |.string s,x,h=>by simp[lT]at h;subst h;have:=Rep.str (D:=D) (ρ:=ρ) (S:=S) (w:=w) s.data.toList;simpa using this
 |.pointer none,x,h=>by simp[lT]at h;subst h;exact .dD
 |.slice none 0 0,x,h=>by simp[lT]at h;subst h;exact .dt
 |.map none,x,h=>by simp[lT]at h;subst h;exact .mp _
 |.agg ⟨cs⟩,x,h=>by
   simp only[lT,fA]at h;obtain⟨l,hl,rfl⟩:=h;have:=OX cs l hl;exact .agg this.1 this.2
 |.pointer (some _),x,h|.slice (some _) _ _,x,h|.slice none (_+1) _,x,h|.slice none 0 (_+1),x,h|.float _ _,x,h|.complex _ _ _,x,h|.map (some _),x,h|.chan _,x,h|.func _ _ _,x,h
 |.nilFunc,x,h|.iface _ _,x,h|.nilIface,x,h|.tuple _,x,h=>by simp[lT]at h
theorem OX:∀(vs:List Value)(l:List (AV K)),zS vs=some l->bc D ρ S w l vs
 |[],l,h=>by simp[zS]at h;subst h;exact .nil
 |v::r,l,h=>by
  simp only[zS]at h;split at h
  ·rename_i x m hx hm;simp at h;subst h;exact .cons (xE v x hx) (OX r m hm)
  ·cases h
end
@[simp] theorem add_plain (b k i:Nat):(⟨b,k,none⟩:Addr).add i=⟨b,k+i,none⟩:=by
  unfold Addr.add;split
  ·rename_i h;subst h;rfl
  ·rfl
theorem OY{P:Program}{b k:Nat}:∀(vs:List Value)(i:Nat)(acc:Array Value),iR w b (k+i) vs->
 (loadCellsFrom ⟨b,k,none⟩ i vs.length acc).run P w=.ok (acc++vs.toArray) w
 |[],i,acc,_=>by simp[loadCellsFrom]
 |v::r,i,acc,h=>by
  have h0:w.cell? ⟨b,k+i,none⟩=some v:=by simpa using h 0 v rfl
  have ih:=OY (P:=P) (b:=b) (k:=k) r (i+1) (acc.push v) (fun j x hx=>by have:=h (j+1) x (by simpa using hx);rw[show k+(i+1)+j=k+i+(j+1) by omega];exact this);simp only[aE,loadCellsFrom,Sem.run_bind,run_load,add_plain,h0];rw[Result.andThen_ok,ih];simp
theorem D1{P:Program}{b k:Nat}{vs:List Value}(h:iR w b k vs):(loadCells ⟨b,k,none⟩ vs.length).run P w=.ok vs.toArray w:=by
 have:=OY (P:=P) vs 0 #[] (k:=k) (by simpa using h);simpa [loadCells]using this
theorem iR.dc{b k:Nat}{vs:List Value}(h:iR w b k vs)(off n:Nat):iR w b (k+off) ((vs.drop off).take n):=fun j v hv=>by
 simp only[fj]at hv;split at hv
 ·rw[kE];exact h (off+j) v (by simpa using hv)
 ·simp at hv
theorem D2{P:Program}{t:TypeId}{cs:List (AV K)}{vs:List Value}{b o off:Nat}{v:AV K}(h:oC P t cs off=some v)(hc:iR w b o vs)(hr:bc D ρ S w cs vs):
 ∃u,(loadVar t ⟨b,o+off,none⟩).run P w=.ok u w/\Rep D ρ S w v u:=by
 unfold oC at h;split at h
 ·rename_i n hg hn;split at h
  ·rename_i hle;simp only[aw]at h;subst h;have hr':=(hr.drop off).take n;have hlen:((vs.drop off).take n).length=n:=by simp;rw[<-hr.1];omega
   have:=D1 (P:=P) (hc.dc off n);rw[hlen]at this;refine⟨.agg ((vs.drop off).take n).toArray,?_,.agg hr'.1 hr'.2⟩;simp[loadVar,DX hg,rn hn,this]
  ·cases h
 ·rename_i n hg hn;obtain⟨x,hx,hrep⟩:=hr.get h;refine⟨x,?_,hrep⟩;have:=hc off x hx;simp[loadVar,DX hg,this]
 ·cases h
theorem xF{b:Nat}{vs:Array Value}{T:TypeId}{fr:Nat×Nat}(h:w.heap[b]?=some (.cells vs T fr))(k n:Nat):iR w b k (dc vs k n):=fun j v hv=>by
 simp only[dc,fj]at hv;split at hv
 ·simp only[jm]at hv;simp[World.cell?,h];simpa using hv
 ·simp at hv
theorem adI(vs:Array Value):dc vs 0 vs.size=vs.toList:=by simp only[dc,ig];rw[zM (by simp)]
mutual
theorem Jc{S':Nat->Prop}{w':World}:∀(x:AV K)(v:Value),jc x=false->Rep D ρ S w x v->Rep D ρ S' w' x v
 |.any,v,_,h=>.any _
 |.int _ _,v,_,h=>by rw[gY h];exact .int _ _
 |.bool _,v,_,h=>by rw[lB h];exact .bool _
 |.str _,v,_,h=>by rw[iS h];exact .str _
 |.dD,v,_,h=>by cases h;exact .dD
 |.dt,v,_,h=>by cases h;exact .dt
 |.mp,v,_,h=>by cases h;exact .mp _
 |.ptr _ _,v,_,h=>by cases h with|ptr hp=>exact .ptr hp
 |.np _,v,_,h=>by
   cases h with
   |lx=>exact .lx
   |np hp=>exact .np hp
 |.sl _,v,_,h=>by cases h with|sl hp=>exact .sl hp
 |.ep _ _ _ _,v,_,h=>by cases h with|ep hp hi=>exact .ep hp hi
 |.vw _ _ _ _,v,_,h=>by cases h with|vw hp h1 h2 ha=>exact .vw hp h1 h2 ha
 |.opt _ _ _,v,_,h=>by cases h
 |.fn f l,v,hr,h=>by
   cases h with
   |fn hl hh=>
    have:=Ak (S':=S') (w':=w') l _ (by simpa [jc]using hr) ⟨hl,hh⟩;exact .fn this.1 this.2
 |.agg l,v,hr,h=>by
   cases h with
   |agg hl hh=>
    have:=Ak (S':=S') (w':=w') l _ (by simpa [jc]using hr) ⟨hl,hh⟩;exact .agg this.1 this.2
 |.bA l,v,hr,h=>by
   cases h with
   |bA hl hh=>
    have:=Ak (S':=S') (w':=w') l _ (by simpa [jc]using hr) ⟨hl,hh⟩;exact .bA this.1 this.2
 |.ax _ _,v,hr,_|.rp _ _ _,v,hr,_=>by simp[jc]at hr
theorem Ak{S':Nat->Prop}{w':World}:∀(l:List (AV K))(vs:List Value),jJ l=false->bc D ρ S w l vs->bc D ρ S' w' l vs
 |[],vs,_,h=>by rw[h.oJ];exact .nil
 |x::r,vs,hr,h=>by
  simp only[jJ,lj]at hr;obtain⟨u,t,rfl,h1,h2⟩:=h.gz;exact .cons (Jc x u hr.1 h1) (Ak r t hr.2 h2)
end
theorem OZ{P:Program}{H:List (Ob K)}(hD:bT D)(hs:aM D ρ S w H){t:TypeId}{p v:AV K}{X:Value}(h:DF P D H t p=some v)(hp:Rep D ρ S w p X):
 ∃u,(Instr.loadAt t X).run P w=.ok u w/\Rep D ρ S w v u:=by
 unfold DF at h;split at h
 ·rename_i hh off;split at h
  ·rename_i cs hob;obtain⟨b,rfl,hb⟩:=tc hp;obtain⟨b',vs,T,e,hblk,D3,-⟩:=hs.ob _ _ _ hob hb;simp only[Value.pointer.injEq,aw,Addr.mk.injEq]at e;obtain⟨rfl,-,-⟩:=e;obtain⟨u,hu,hr⟩:=D2 (o:=0) (b:=b) h (by have:=xF hblk 0 vs.size;rwa [adI]at this) D3;exact⟨u,by simpa [Instr.loadAt,Instr.sureAddr]using hu,hr⟩
  ·cases h
 ·rename_i c x off;obtain⟨b,o,vs,rfl,hl,hc,hr⟩:=OS hp;obtain⟨u,hu,hr⟩:=D2 (o:=o) (b:=b) h hc ⟨hl.symm,hr⟩;exact⟨u,by simpa [Instr.loadAt,Instr.sureAddr]using hu,hr⟩
 ·rename_i hh st i off;split at h
  ·rename_i c l hob;split at h
   ·rename_i hst;subst hst;obtain⟨b,o,n,cp,rfl,hb,hi⟩:=vv hp;rcases xC hs hob hb with⟨e,-⟩|⟨b',o',cap,vs,T,fr,e,hblk,⟨hcap,fE⟩,hsz,hfr,hall⟩
    ·cases e
    ·simp only[Value.slice.injEq,aw,Addr.mk.injEq]at e;obtain⟨⟨rfl,rfl,-⟩,rfl,rfl⟩:=e;have hx:=hall i _ (getD_some (K.zero c) hi);obtain⟨u,hu,hr⟩:=D2 (o:=o+i*K.sz c) (b:=b) h (xF hblk _ _) hx;exact⟨u,by simpa [Instr.loadAt,Instr.sureAddr]using hu,hr⟩
   ·cases h
  ·rename_i c l hob;split at h
   ·rename_i hst;subst hst;split at h
    ·rename_i v' htk;split at h
     ·cases h
     ·rename_i hnr;simp only[aw]at h;subst h;obtain⟨b,o,n,cp,rfl,hb,hi⟩:=vv hp;have hT:Tree D w c l (.slice (some ⟨b,o,none⟩) n cp):=hs.ob _ _ _ hob hb;have hR:Rep D ρ (fun k=>S k\/dU D w c l (.slice (some ⟨b,o,none⟩) n cp) k) w (.ax c l) (.slice (some ⟨b,o,none⟩) n cp):=hT.rep fun k hk=>.inr hk
      cases hR with
      |fm a cap=>omega
      |ax val hS hcap hl hca hr=>
       have hg:=getD_some (K.zero c) hi;obtain⟨u,hu,hr'⟩:=D2 (o:=o+i*K.sz c) (b:=b) htk (hca i hi) ⟨(hl i _ hg).symm,hr i _ hg⟩;exact⟨u,by simpa [Instr.loadAt,Instr.sureAddr]using hu,Jc v' u (by simpa using hnr) hr'⟩
    ·cases h
   ·cases h
  ·cases h
 ·cases h
theorem adJ{P:Program}{H:List (Ob K)}(hD:bT D)(hs:aM D ρ S w H){t:TypeId}{p v:AV K}{X:Value}(h:IU P H t p=some (v,true))(hp:Rep D ρ S w p X):
 ∃u,(Instr.loadAt t X).run P w=.ok u w/\Rep D ρ S w v u:=by unfold IU at h;cases h
theorem fV{P:Program}{t:TypeId}{d:TypeDesc}(h:P.underlying t=some d):(underlying t).run P w=.ok d w:=by simp[underlying,h]
theorem adK{P:Program}{s:TypeId}{f:Nat}{x v:AV K}{X:Value}(h:IV P s f x=some v)(hx:Rep D ρ S w x X):
 ∃u,(Instr.fieldAt s X f).run P w=.ok u w/\Rep D ρ S w v u:=by
 unfold IV at h;split at h
 ·rename_i fd hf;unfold DD at hf;split at hf
  ·rename_i fs hu;split at h
   ·rename_i n hn;have key:∀a:Addr,a.spot=none->(Instr.fieldAt s (.pointer (some a)) f).run P w=.ok (.pointer (some (a.add fd.offset))) w:=fun a ha=>by
     simp[Instr.fieldAt,fV hu,hf,Instr.sureAddr,fieldPlace,rn hn]
    split at h
    ·simp only[aw]at h;subst h;obtain⟨b,rfl,hb⟩:=tc hx;exact⟨_,key _ rfl,by rw[add_plain];exact .ptr hb⟩
    ·simp only[aw]at h;subst h;cases hx with
     |rp vs hS hl hc hr=>exact⟨_,key _ rfl,by rw[add_plain,kE];exact .rp vs hS hl hc hr⟩
    ·simp only[aw]at h;subst h;obtain⟨b,o,n,cp,rfl,hb,hi⟩:=vv hx;exact⟨_,key _ rfl,by rw[add_plain,kE];exact .ep hb hi⟩
    ·cases h
   ·cases h
  ·cases hf
 ·cases h
theorem Am{n:Int}{len:Nat}(h:inB n len=true):0<=n/\n<len/\n.toNat<len:=by
 simp[inB]at h;omega
theorem adL{P:Program}{H:List (Ob K)}(hD:bT D)(hs:aM D ρ S w H){t:TypeId}{x i v:AV K}{c:Bool}{X I:Value}(h:IW P H t x i=some (v,c))(hc:c=true)
 (hx:Rep D ρ S w x X) (hi:Rep D ρ S w i I):∃u,(Instr.indexAt t X I).run P w=.ok u w/\Rep D ρ S w v u:=by
 unfold IW at h;split at h
 ·rename_i e k n he;obtain rfl:=gY hi;unfold elemOf? at he;split at he
  ·rename_i e' hu;simp only[aw]at he;subst he;have key:∀(a:Addr)(len cap sz:Nat),fC P e'=some sz->inB n len=true->(Instr.indexAt t (.slice (some a) len cap) (.int k n)).run P w=.ok (.pointer (some (a.add (n.toNat*sz)))) w:=fun a len cap sz hsz hb=>by
    obtain⟨h1,h2,-⟩:=Am hb;simp[Instr.indexAt,asIntOf,fV hu,rn hsz,h1,h2]
   split at h
   ·rename_i cc l;split at h
    ·rename_i hsz;simp only[aw,aP]at h;obtain⟨rfl,rfl⟩:=h;obtain⟨-,-,hlt⟩:=Am hc;cases hx with
     |fm a cap=>simp at hlt
     |ax val hS hcap hl hca hr=>
      have hg:=getD_some (K.zero cc) hlt;exact⟨_,key _ _ _ _ hsz hc,by rw[add_plain];exact .rp (off:=0) (val n.toNat) hS (hl _ _ hg) (hca _ hlt) (hr _ _ hg)⟩
    ·cases h
   ·rename_i hh;split at h
    ·rename_i cc l hob;split at h
     ·rename_i hsz;simp only[aw,aP]at h;obtain⟨rfl,rfl⟩:=h;obtain⟨-,-,hlt⟩:=Am hc;obtain⟨hb,-⟩:=mJ hx;rcases xC hs hob hb with⟨rfl,rfl⟩|⟨b,o,cap,vs,T,fr,rfl,hblk,⟨hcap,fE⟩,hsz',hfr,hall⟩
      ·simp at hlt
      ·exact⟨_,key _ _ _ _ hsz hc,by rw[add_plain];exact .ep (off:=0) hb hlt⟩
     ·cases h
    ·rename_i cc l hob;split at h
     ·rename_i hsz;simp only[aw,aP]at h;obtain⟨rfl,rfl⟩:=h;obtain⟨-,-,hlt⟩:=Am hc;obtain⟨hb,-⟩:=mJ hx;have hT:Tree D w cc l X:=hs.ob _ _ _ hob hb;cases hT with
      |nil=>simp at hlt
      |mk=>exact⟨_,key _ _ _ _ hsz hc,by rw[add_plain];exact .ep (off:=0) hb hlt⟩
     ·cases h
    ·cases h
   ·cases h
  ·cases he
 ·cases h
theorem O0{lo hi:Int}{len:Nat}(h:bN lo hi len=true):0<=lo/\lo<=hi/\hi<=len:=by
 simp[bN]at h;omega
inductive rq (D:bC K) (ρ:List Value) (S:Nat->Prop) (w:World):Option (AV K)->Option Value->Prop
 |none:rq D ρ S w none none
 |some {x:AV K} {X:Value} (h:Rep D ρ S w x X):rq D ρ S w (some x) (some X)
theorem D4{P:Program}{k:IntKind}{n:Int}{y:Nat}{code:BoundsCode}(h:0<=n)(h':n<=y):(Instr.sliceBound (.int k n) y code).run P w=.ok n.toNat w:=by
 simp[Instr.sliceBound,asIntOf,h,h']
theorem Jd{d:Int}{x:AV K}{n:Int}{X:Value}(h:oD d (some x)=some n)(hx:Rep D ρ S w x X):∃k,X=.int k n:=by
 cases x<;>simp[oD]at h;subst h;exact⟨_,gY hx⟩
theorem Je{P:Program}{isS:Bool}{len cap:Nat}{lo hi:Option (AV K)}{LO HI:Option Value}{l h:Int}
 (hl:oD 0 lo=some l) (hh:oD len hi=some h) (hlo:rq D ρ S w lo LO) (hhi:rq D ρ S w hi HI) (h1:0<=l) (h2:l<=h) (h3:h<=len) (hcap:len<=cap):
 (Instr.sliceBounds isS len cap LO HI none).run P w=.ok (l.toNat,h.toNat,cap) w:=by
 have e0:(l:Int)<=(h.toNat:Nat):=by omega
 have e1:h<=(cap:Nat):=by omega
 cases hlo with
 |none=>
  simp[oD]at hl;subst hl;cases hhi with
  |none=>simp[oD]at hh;subst hh;simp[Instr.sliceBounds]
  |some hx=>
   obtain⟨k,rfl⟩:=Jd hh hx;simp[Instr.sliceBounds,D4 (by omega:0<=h) e1]
 |some hy=>
  obtain⟨k',rfl⟩:=Jd hl hy;cases hhi with
  |none=>
   simp[oD]at hh;subst hh;have:=D4 (P:=P) (w:=w) (k:=k') (code:=.sliceB) h1 (by omega:l<=(len:Nat));simp[Instr.sliceBounds,this]
  |some hx=>
   obtain⟨k,rfl⟩:=Jd hh hx;simp[Instr.sliceBounds,D4 (by omega:0<=h) e1,D4 h1 e0]
theorem O1(s:List UInt8)(a b:Nat):(ByteArray.mk s.toArray).extract a b=⟨((s.take b).drop a).toArray⟩:=by
 rw[Lib.extract_eq];simp[List.drop_take]
theorem O2{c:K.U}{l:List (K.El c)}{a a':Option Addr}{n cp lo hi c':Nat}(h:Rep D ρ S w (.ax c l) (.slice a n cp))(h1:lo<=hi)(h2:hi<=n)(ha:hi-lo=0\/∃b o,a=some ⟨b,o,none⟩/\a'=some ⟨b,o+lo*K.sz c,none⟩/\hi-lo<=c'):
 Rep D ρ S w (.ax c ((l.take hi).drop lo)) (.slice a' (hi-lo) c'):=by
 rcases ha with h0|⟨b,o,rfl,rfl,hc⟩
 ·have:(l.take hi).drop lo=[]:=mE (by simp;omega);rw[this,h0];exact .fm _ _
 ·by_cases h0:hi-lo=0
  ·have:(l.take hi).drop lo=[]:=mE (by simp;omega);rw[this,h0];exact .fm _ _
  ·cases h with
   |fm=>omega
   |ax val hS hcap hl' hca hr=>
    have hlen:((l.take hi).drop lo).length=hi-lo:=by simp;omega
    have hget:∀i x,((l.take hi).drop lo)[i]?=some x->l[lo+i]?=some x:=fun i x hi=>by
     simp only[jm,fj]at hi;split at hi
     ·exact hi
     ·simp at hi
    rw[<-hlen];exact .ax (fun i=>val (lo+i)) hS (by rw[hlen];omega) (fun i x hi=>hl' _ _ (hget i x hi))
     (fun i hi=>by
       have:=hca (lo+i) (by rw[hlen]at hi;omega)
       rwa [eE,<-kE]at this)
     (fun i x hi=>hr _ _ (hget i x hi))
theorem adM{P:Program}{H:List (Ob K)}(hs:aM D ρ S w H){t:TypeId}{x v:AV K}{lo hi:Option (AV K)}{c:Bool}{X:Value}{LO HI:Option Value}
 (h:IY P H t x lo hi=some (v,c)) (hc:c=true) (hx:Rep D ρ S w x X) (hlo:rq D ρ S w lo LO) (hhi:rq D ρ S w hi HI):
 ∃u,(Instr.sliceAt t X LO HI none).run P w=.ok u w/\Rep D ρ S w v u:=by unfold IY at h;cases h
theorem adN{P:Program}{H:List (Ob K)}(hD:bT D)(hs:aM D ρ S w H){t:TypeId}{x v:AV K}{lo hi:Option (AV K)}{c:Bool}{X:Value}{LO HI:Option Value}
 (h:IX P t x lo hi=some (v,c)) (hc:c=true) (hx:Rep D ρ S w x X) (hlo:rq D ρ S w lo LO) (hhi:rq D ρ S w hi HI):
 ∃u,(Instr.sliceAt t X LO HI none).run P w=.ok u w/\Rep D ρ S w v u:=by
 unfold IX at h;split at h
 ·rename_i s hu;obtain rfl:=iS hx;split at h
  ·rename_i l hh' hl hh;simp only[aw,aP]at h;obtain⟨rfl,rfl⟩:=h;obtain⟨h1,h2,h3⟩:=O0 hc;refine⟨_,?_,.str _⟩;have:=Je (P:=P) (isS:=false) (len:=s.length) (cap:=s.length) hl hh hlo hhi h1 h2 h3 (cq _);simp[Instr.sliceAt,Instr.slice,fV hu,Aj,this,O1]
  ·cases h
 ·rename_i e cc s hu;split at h
  ·rename_i hsz;split at h
   ·rename_i l hh' hl hh;simp only[aw,aP]at h;obtain⟨rfl,rfl⟩:=h;obtain⟨h1,h2,h3⟩:=O0 hc;have hlen:((s.take hh'.toNat).drop l.toNat).length=hh'.toNat-l.toNat:=by simp;omega
    cases hx with
    |fm a cap=>
     have:=Je (P:=P) (isS:=true) (len:=0) (cap:=cap) hl hh hlo hhi h1 h2 h3 (cN _);refine⟨_,by simp[Instr.sliceAt,Instr.slice,fV hu,rn hsz,this];rfl,?_⟩;have:hh'.toNat-l.toNat=0:=by simp at h3;omega
     simp only[List.take_nil,List.drop_nil];rw[this];exact .fm _ _
    |ax val hS hcap hl' hca hr=>
     rename_i b o cap;have hb:=Je (P:=P) (isS:=true) (len:=s.length) (cap:=cap) hl hh hlo hhi h1 h2 h3 hcap;refine⟨.slice (if cap=l.toNat then some ⟨b,o,none⟩else some ⟨b,o+l.toNat*K.sz cc,none⟩) (hh'.toNat-l.toNat) (cap-l.toNat),?_,?_⟩
     ·simp[Instr.sliceAt,Instr.slice,fV hu,rn hsz,hb]
     ·rw[<-hlen];by_cases h0:(s.take hh'.toNat).drop l.toNat=[]
      ·rw[h0];exact .fm _ _
      ·have hne:0<hh'.toNat-l.toNat:=by rw[<-hlen];exact List.length_pos_iff.2 h0
       rw[bg (by omega)];have hget:∀i x,((s.take hh'.toNat).drop l.toNat)[i]?=some x->s[l.toNat+i]?=some x:=fun i x hi=>by
        simp only[jm,fj]at hi;split at hi
        ·exact hi
        ·simp at hi
       exact .ax (fun i=>val (l.toNat+i)) hS (by rw[hlen];omega) (fun i x hi=>hl' _ _ (hget i x hi))
        (fun i hi=>by
          have:=hca (l.toNat+i) (by rw[hlen]at hi;omega)
          rwa [eE,<-kE]at this)
        (fun i x hi=>hr _ _ (hget i x hi))
   ·cases h
  ·cases h
 ·cases h
def SliceAt(D:bC K)(ρ:List Value)(S:Nat->Prop)(w:World)(c:K.U)(l:List (K.El c))(X:Value):Prop:=
 ∃a cap,X=.slice a l.length cap/\(l≠[]->∃b o,a=some ⟨b,o,none⟩/\∀i x,l[i]?=some x->∃vs,vs.length=K.sz c/\iR w b (o+i*K.sz c) vs/\bc D ρ S w (D.cells c x) vs)
theorem O3(hD:bT D){c:K.U}{l:List (K.El c)}{X:Value}(h:Rep D ρ S w (.ax c l) X):SliceAt D ρ S w c l X:=by
 cases h with
 |fm a cap=>exact⟨a,cap,rfl,fun h=>absurd rfl h⟩
 |ax val hS hcap hl hc hr=>
  exact⟨_,_,rfl,fun _=>⟨_,_,rfl,fun i x hx=>⟨val i,by rw[hl i x hx,hD.len],hc i (cF.1 hx).1,(hl i x hx).symm,hr i x hx⟩⟩⟩
theorem O4(hD:bT D){H:List (Ob K)}(hs:aM D ρ S w H){h:Nat}{c:K.U}{l:List (K.El c)}{X:Value}(ho:H[h]?=some (.arr c l))(hp:ρ[h]?=some X):SliceAt D ρ S w c l X:=by
 rcases xC hs ho hp with⟨rfl,rfl⟩|⟨b,o,cap,vs,T,fr,rfl,hblk,⟨hcap,fE⟩,hsz,hfr,hall⟩
 ·exact⟨none,0,rfl,fun h=>absurd rfl h⟩
 ·refine⟨_,_,rfl,fun _=>⟨b,o,rfl,fun i x hx=>⟨dc vs (o+i*K.sz c) (K.sz c),?_,xF hblk _ _,hall i x hx⟩⟩⟩;rw[<-(hall i x hx).1,hD.len]
theorem O5(hD:bT D){H:List (Ob K)}(hs:aM D ρ S w H){c:K.U}{x:AV K}{l:List (K.El c)}{X:Value}(h:elems H c x=some l)(hx:Rep D ρ S w x X):SliceAt D ρ S w c l X:=by
 unfold elems at h;split at h
 ·simp only[aw]at h;subst h;cases hx;exact⟨none,0,rfl,fun h=>absurd rfl h⟩
 ·rename_i c' l';cases hd:K.kF c' c with
  |isFalse hn=>simp[hd]at h
  |isTrue he=>subst he;simp[hd]at h;subst h;exact O3 hD hx
 ·rename_i hh;split at h
  ·rename_i c' l' hob;cases hd:K.kF c' c with
   |isFalse hn=>simp[hd]at h
   |isTrue he=>subst he;simp[hd]at h;subst h;exact O4 hD hs hob (mJ hx).1
  ·cases h
 ·cases h
theorem O6{P:Program}{t ty e:TypeId}(ht:P.underlying t=some (.slice e)){c:K.U}{l:List (K.El c)}{X:Value}(h:SliceAt D ρ S w c l X):
 (Builtin.len_ #[t] ty #[X]).run P w=.ok (.int .i64 (l.length:Int)) w:=by
 obtain⟨a,cap,rfl,-⟩:=h;simp[Builtin.len_,fV ht,goInt]
theorem bytes_at(hD:bT D){c:K.U}{f:K.El c->UInt8}{g:UInt8->K.El c}(hb:D.byte c=some (f,g)){l:List (K.El c)}{a:Option Addr}{n cap:Nat}(h:SliceAt D ρ S w c l (.slice a n cap))(hne:l≠[]):
 n=l.length/\∃b o,a=some ⟨b,o,none⟩/\∀i,i<l.length->w.cell? ⟨b,o+i,none⟩=some (.int .u8 (((l.map f).map fun b=>(b.toNat:Int)).getD i 0)):=by
 obtain⟨a',cap',e,h⟩:=h;simp only[Value.slice.injEq]at e;obtain⟨rfl,rfl,rfl⟩:=e;obtain⟨b,o,rfl,h2⟩:=h hne;refine⟨rfl,b,o,rfl,fun i hi=>?_⟩;obtain⟨vs,hlen,hc,hr⟩:=h2 i l[i] (cJ hi);have h1:K.sz c=1:=by rw[<-hD.len c l[i],(hD.byte c f g hb).1];rfl
 rw[h1,qU]at hc;rw[(hD.byte c f g hb).1]at hr;obtain⟨x,r,rfl,hx,-⟩:=hr.gz;have:=hc 0 x rfl;rw[Nat.add_zero]at this;rw[this,gY hx];simp[List.getD,hi]
theorem adO{P:Program}(hD:bT D){src dst e:TypeId}(h1:P.underlying src=some (.slice e))(h2:P.underlying dst=some .string)(h3:P.underlying e=some (.int .u8))
 {c:K.U} {f:K.El c->UInt8} {g:UInt8->K.El c} (hb:D.byte c=some (f,g)) {l:List (K.El c)} {X:Value} (h:SliceAt D ρ S w c l X):
 (convert src dst X).run P w=.ok (.string ⟨(l.map f).toArray⟩) w:=by
 obtain⟨a,cap,rfl,h'⟩:=h;by_cases hne:l=[]
 ·subst hne;cases a with
  |none=>rw[Go.run_convert_bytes_nil w src e h1 h3 _ _ dst h2];rfl
  |some a=>rw[run_convert_bytes_string w src dst e _ _ _ h1 h3 h2];simp[Conv.bytesToString,loadCells,loadCellsFrom,ByteArray.empty,ByteArray.emptyWithCapacity];rfl
 ·obtain⟨-,b,o,rfl,hc⟩:=bytes_at hD hb ⟨a,cap,rfl,h'⟩ hne;rw[run_convert_bytes_arg w src e h1 h3 b o l.length cap ((l.map f).map fun b=>(b.toNat:Int)) (by simp) hc dst h2];congr 2;apply ByteArray.ext;simp[strOfNums,List.map_map]
theorem O7{P:Program}{k:IntKind}{a b:Int}{ats:Array TypeId}{ty:TypeId}:
 (Builtin.min_ ats ty #[.int k a,.int k b]).run P w=.ok (.int k (cond (decide (b<a)) b a)) w/\(Builtin.max_ ats ty #[.int k a,.int k b]).run P w=.ok (.int k (cond (decide (a<b)) b a)) w:=by
 constructor
 ·simp[Builtin.min_,Builtin.min2,List.foldlM]
 ·simp[Builtin.max_,Builtin.max2,List.foldlM]
theorem O8{ev:Operand->AV K}{ρe:Operand->Value}(h:∀x,Rep D ρ S w (ev x) (ρe x))(l:List Operand):bc D ρ S w (l.map ev) (l.map ρe):=
 ⟨by simp,fun i v x hv hx=>by
   simp only[jG,fA]at hv hx;obtain⟨o,ho,rfl⟩:=hv;obtain⟨o',ho',rfl⟩:=hx;rw[ho]at ho';simp at ho';subst ho';exact h o⟩
theorem D5{ev:Operand->AV K}{ρe:Operand->Value}(h:∀x,Rep D ρ S w (ev x) (ρe x))(o:Option Operand):rq D ρ S w (o.map ev) (o.map ρe):=by
 cases o with
 |none=>exact .none
 |some x=>exact .some (h x)
theorem lC{α:Type}{P:Program}{x:Sem α}{f:α->Next}{a:α}(h:x.run P w=.ok a w):(do pure (f (<-x)):Sem Next).run P w=.ok (f a) w:=by simp[h]
end Go.V
namespace Go.V
open Go
variable {K :di}{ρ:List Value}{S:Nat->Prop}{w:World}
theorem O9{cx:Cx K}{H:List (Ob K)}(hD:bT cx.D)(hs:aM cx.D ρ S w H){ev:Operand->AV K}{ρe:Operand->Value}(hev:∀x,Rep cx.D ρ S w (ev x) (ρe x)){o:Oper}{v:AV K}{c:Bool}
 (h:u7 cx ev H o.op=some (v,c)) (hc:c=true):∃u,(execOp ρe o).run cx.P w=.ok (.value u) w/\Rep cx.D ρ S w v u:=by
 unfold u7 at h;unfold execOp;split at h
 all_goals first|(cases h;done)|(rename_i hop;rw[hop];dsimp only)
 ·
  simp only[aw,aP]at h;obtain⟨rfl,rfl⟩:=h;exact⟨_,rfl,hev _⟩
 ·simp only[aw,aP]at h;obtain⟨rfl,rfl⟩:=h;exact⟨_,rfl,hev _⟩
 ·
  obtain⟨u,hu,hr⟩:=adG h hc (hev _) (hev _);exact⟨u,lC (f:=.value) hu,hr⟩
 ·
  obtain⟨u,hu,hr⟩:=adH (P:=cx.P) h (hev _);exact⟨u,lC (f:=.value) hu,hr⟩
 ·
  rename_i src dst x;have hx:=hev x;split at h
  ·rename_i d k k' n hsrc hd he;rw[he]at hx;simp only[aw,aP]at h;obtain⟨rfl,rfl⟩:=h;rw[gY hx];refine⟨_,lC (f:=.value) (a:=.int k (k.wrap n)) ?_,.int _ _⟩;simp[convert,fV hd,fV hsrc,Conv.intToInt]
  ·rename_i d s hsrc hd he;rw[he]at hx;simp only[aw,aP]at h;obtain⟨rfl,rfl⟩:=h;rw[iS hx];refine⟨_,lC (f:=.value) (a:=.string ⟨s.toArray⟩) ?_,.str _⟩;simp[convert,fV hd,fV hsrc]
  ·rename_i e h1 h2 hns;split at h
   ·rename_i cc h3 hty;split at h
    ·rename_i f g l hb hl;simp only[aw,aP]at h;obtain⟨rfl,rfl⟩:=h;exact⟨_,lC (f:=.value) (adO hD h1 h2 h3 hb (O5 hD hs hl hx)),.str _⟩
    ·cases h
   ·cases h
  ·cases h
 ·
  rename_i t i;have hx:=hev t;split at h
  ·rename_i l he;rw[he]at hx;simp only[fA,aP]at h;obtain⟨y,hy,rfl,rfl⟩:=h;generalize ρe t=X at hx⊢;cases hx with
   |bA hl hr=>
    rename_i vs;have hi:i<vs.length:=by rw[<-hl];exact(cF.1 hy).1
    refine⟨vs[i],lC (f:=.value) ?_,hr i y _ hy (cJ hi)⟩;simp[Instr.extract,hi]
  ·cases h
 ·
  rename_i s x f;simp only[fA,aP]at h;obtain⟨y,hy,rfl,rfl⟩:=h;obtain⟨u,hu,hr⟩:=adK hy (hev x);exact⟨u,lC (f:=.value) hu,hr⟩
 ·
  rename_i s x f;split at h
  ·rename_i fd cs hf he;simp only[fA,aP]at h;obtain⟨y,hy,rfl,rfl⟩:=h;have hx:=hev x;rw[he]at hx;generalize ρe x=X at hx⊢;cases hx with
   |agg hl hr=>
    rename_i vs;obtain⟨u,hu,hr'⟩:=Ja (P:=cx.P) (vs:=vs.toArray) hy ⟨by simpa using hl,by simpa using hr⟩;refine⟨u,lC (f:=.value) ?_,hr'⟩;unfold DD at hf;split at hf
    ·rename_i fs hu';simp[Instr.field,fV hu',hf,asAgg,hu]
    ·cases hf
  ·cases h
 ·
  rename_i t p;split at h
  ·rename_i y hy;simp only[aw,aP]at h;obtain⟨rfl,rfl⟩:=h;obtain⟨u,hu,hr⟩:=OZ hD hs hy (hev p);exact⟨u,lC (f:=.value) hu,hr⟩
  ·subst hc;obtain⟨u,hu,hr⟩:=adJ hD hs h (hev p);exact⟨u,lC (f:=.value) hu,hr⟩
 ·
  rename_i t x i;obtain⟨u,hu,hr⟩:=adL hD hs h hc (hev x) (hev i);exact⟨u,lC (f:=.value) hu,hr⟩
 ·
  rename_i t x i;have hx:=hev x;have hi:=hev i;split at h
  ·rename_i s k n hu he hi';rw[he]at hx;rw[hi']at hi;simp only[aw,aP]at h;obtain⟨rfl,rfl⟩:=h;rw[iS hx,gY hi];obtain⟨h1,h2,h3⟩:=Am hc;refine⟨_,lC (f:=.value) (a:=.int .u8 ((s.getD n.toNat 0).toNat:Int)) ?_,.int _ _⟩;have hg:(ByteArray.mk s.toArray)[n.toNat]?=some (s.getD n.toNat 0):=by
    rw[getElem?_pos (c:=ByteArray.mk s.toArray) (i:=n.toNat) (h:=by simpa [ByteArray.size]using h3)];simp[List.getD,h3,ByteArray.getElem_eq_getElem_data]
   simp[Instr.index,asIntOf,fV hu,h1,hg]
  ·cases h
 ·
  rename_i t x lo hi;split at h
  ·rename_i r hr0;simp only[aw]at h;subst h;obtain⟨u,hu,hr⟩:=adN hD hs hr0 hc (hev x) (D5 hev lo) (D5 hev hi);exact⟨u,lC (f:=.value) hu,hr⟩
  ·split at h
   ·obtain⟨u,hu,hr⟩:=adM hs h hc (hev x) (D5 hev lo) (D5 hev hi);exact⟨u,lC (f:=.value) hu,hr⟩
   ·cases h
 ·
  rename_i x;have hx:=hev x;split at h
  ·rename_i hh o he;simp only[aw,aP]at h;obtain⟨rfl,rfl⟩:=h;rw[he]at hx;obtain⟨b,e,hb⟩:=tc hx;rw[e];exact⟨_,rfl,.ptr hb⟩
  ·rename_i c' y o he;simp only[aw,aP]at h;obtain⟨rfl,rfl⟩:=h;rw[he]at hx;obtain⟨b,o',vs,e,-⟩:=OS hx;rw[e]at hx⊢;exact⟨_,rfl,hx⟩
  ·rename_i hh s i o he;simp only[aw,aP]at h;obtain⟨rfl,rfl⟩:=h;rw[he]at hx;obtain⟨b,o',n,cp,e,hb,hi⟩:=vv hx;rw[e]at hx⊢;exact⟨_,rfl,hx⟩
  ·cases h
 ·
  rename_i f first caps
  split at h
  ·rename_i hf;simp only[aw,aP]at h;obtain⟨rfl,rfl⟩:=h;have h0:first= #[]:=by simpa using hf
   subst h0;have:=O8 hev caps.toList;refine⟨_,lC (f:=.value) (a:=.func (.func f) #[] (caps.toList.map ρe).toArray) ?_,.fn this.1 this.2⟩;simp[Instr.makeFunc];cases caps;simp
  ·cases h
 ·
  rename_i args argTypes;split at h
  ·rename_i x t hx ht;have hxx:=hev x;have ea:args= #[x]:=by rw[<-Array.toArray_toList (xs:=args),hx]
   have et:argTypes= #[t]:=by rw[<-Array.toArray_toList (xs:=argTypes),ht]
   subst ea;subst et;have key:∀(n:Nat),(Builtin.len_ #[t] o.type #[ρe x]).run cx.P w=.ok (.int .i64 (n:Int)) w->
    ((do let d<-resolve ρe {callee:=.builtin .len,args:= #[x],argTypes:= #[t]} o.type;invoke d.target d.args:Sem Next)).run cx.P w=.ok (.value (.int .i64 (n:Int))) w:=fun n hn=>by
    simp[resolve,invoke,builtin,hn]
   split at h
   ·rename_i s hu he;rw[he]at hxx;simp only[aw,aP]at h;obtain⟨rfl,rfl⟩:=h;exact⟨_,key _ (by rw[iS hxx];simp[Builtin.len_,fV hu,goInt,Aj]),.int _ _⟩
   ·rename_i e hu he;rw[he]at hxx;simp only[aw,aP]at h;obtain⟨rfl,rfl⟩:=h;refine⟨_,key 0 ?_,.int _ _⟩;generalize ρe x=X at hxx⊢;cases hxx;simp[Builtin.len_,fV hu,goInt]
   ·rename_i e c' l hu he;rw[he]at hxx;simp only[aw,aP]at h;obtain⟨rfl,rfl⟩:=h;exact⟨_,key _ (O6 hu (O3 hD hxx)),.int _ _⟩
   ·rename_i e v1 v2 v3 v4 hu he;rw[he]at hxx;simp only[aw,aP]at h;obtain⟨rfl,rfl⟩:=h;refine⟨_,key (v4-v3) ?_,.int _ _⟩;generalize ρe x=X at hxx⊢;cases hxx;simp[Builtin.len_,fV hu,goInt]
   ·rename_i e hh hu he;rw[he]at hxx;split at h
    ·rename_i c' l hob;simp only[aw,aP]at h;obtain⟨rfl,rfl⟩:=h;exact⟨_,key _ (O6 hu (O4 hD hs hob (mJ hxx).1)),.int _ _⟩
    ·rename_i c' l hob;simp only[aw,aP]at h;obtain⟨rfl,rfl⟩:=h;have hT:Tree cx.D w c' l (ρe x):=hs.ob _ _ _ hob (mJ hxx).1;obtain⟨a,cp,e⟩:=OO hT;exact⟨_,key _ (by rw[e];simp[Builtin.len_,fV hu,goInt]),.int _ _⟩
    ·cases h
   ·cases h
  ·cases h
 all_goals
  rename_i args argTypes;split at h
  ·rename_i x y hxy;have hxx:=hev x;have Jf:=hev y;have ea:args= #[x,y]:=by rw[<-Array.toArray_toList (xs:=args),hxy]
   subst ea;split at h
   ·rename_i k a k' b he1 he2;rw[he1]at hxx;rw[he2]at Jf;split at h
    ·rename_i hk;subst hk;simp only[aw,aP]at h;obtain⟨rfl,rfl⟩:=h
     first
      |(refine⟨_,?_,.int _ _⟩;simp[resolve,invoke,builtin,gY hxx,gY Jf,O7.1];done)
      |(refine⟨_,?_,.int _ _⟩;simp[resolve,invoke,builtin,gY hxx,gY Jf,O7.2];done)
    ·cases h
   ·cases h
  ·cases h
end Go.V
