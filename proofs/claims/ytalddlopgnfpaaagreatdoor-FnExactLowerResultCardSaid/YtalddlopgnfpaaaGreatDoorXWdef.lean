/-
  A VALUE-LEVEL READING OF THE LOADED CODE: abstract values, objects, operations, and a function 'execC' that runs a body on them. Nothing here speaks of one program: the program is a parameter. The proofs that what it yields is what the machine does are in the texts that follow.
-/
import Derived.WalkKit
import Derived.KernelRfl
import Derived.Orders
universe u v
abbrev ar := @Option.some.injEq
abbrev bq := @List.getElem?_eq_some_iff
theorem aU{α:Type u}{a:α}:(some a).isSome=true:=rfl
theorem aS{α:Type u}{a b:α}:(some a).getD b=a:=rfl
abbrev aE := @Prod.mk.injEq
abbrev aW := @Bool.and_eq_true
abbrev aP := @Bool.and_true
abbrev bY := @List.getElem?_eq_getElem
abbrev bm := @decide_eq_true_eq
abbrev aY := @decide_eq_true
theorem aA{α:Sort u}(a b:α):(bif true then a else b)=a:=rfl
abbrev ak := @if_neg
abbrev cI := @List.getElem?_append_left
abbrev bC := @List.getElem_mem
theorem cN(n:Nat):(n:Int).toNat=n:=rfl
abbrev bL := @List.getElem?_append_right
theorem aR{α:Sort u}(a b:α):(bif false then a else b)=b:=rfl
abbrev av := @if_pos
theorem bQ{α:Type u}{a:α}{as:List α}:(a::as).length=as.length+1:=rfl
abbrev bU := @decide_eq_false
abbrev bj := @Nat.le_refl
abbrev bI := @Bool.true_and
abbrev cL := @List.length_append
abbrev cR := @List.getElem?_take
abbrev dr := @Nat.mul_le_mul_right
abbrev dR := @Option.map_eq_some_iff
abbrev cr := @decide_true
abbrev gR := @Bool.true_or
abbrev cK := @List.getD_eq_getElem?_getD
theorem dm{α:Type u}:([]:List α).length=0:=rfl
abbrev iU := @List.eq_nil_of_length_eq_zero
abbrev cO := @Int.ofNat_lt
abbrev cQ := @Nat.lt_or_ge
abbrev eF := @List.getElem?_drop
abbrev dK := @List.mem_append
abbrev iv := @Array.getElem?_eq_some_iff
abbrev fa := @List.mem_cons_self
abbrev hJ := @List.getElem?_replicate
abbrev gj := @List.length_replicate
abbrev cT := @Nat.add_mul
abbrev cU := @Nat.zero_le
abbrev gX := @List.mem_of_getElem?
abbrev gQ := @List.mem_cons_of_mem
abbrev eB := @Nat.not_lt_zero
abbrev dz := @Nat.zero_add
abbrev ej := @List.drop_zero
abbrev fg := @List.all_eq_true
abbrev dW := @List.mem_cons
abbrev fe := @Option.some.inj
abbrev gd := @List.getElem?_map
abbrev gp := @List.getElem?_set
abbrev gA := @decide_eq_decide
abbrev ib := @Bool.not_eq_true'
abbrev gU := @List.drop_length
abbrev fb := @List.map_cons
abbrev iw := @List.append_assoc
abbrev m8 := @Array.getD_eq_getD_getElem?
abbrev lC := @decide_eq_false_iff_not
abbrev jj := @Nat.eq_zero_or_pos
abbrev fE := @Bool.and_self
abbrev lI := @List.drop_of_length_le
abbrev oV := @Array.getElem?_setIfInBounds
abbrev eG := @Nat.one_mul
abbrev iV := @List.length_take
abbrev j9 := @Bool.false_eq_true
abbrev kF := @beq_eq_false_iff_ne
abbrev fD := @Nat.le_trans
abbrev iW := @Bool.or_eq_true
abbrev gJ := @Nat.add_assoc
abbrev kD := @Int.eq_ofNat_of_zero_le
abbrev iy := @Nat.lt_of_lt_of_le
abbrev mV := @Bool.not_true
abbrev hU := @Bool.or_self
abbrev qb := @List.getElem?_eq_none
theorem jB{α:Type u}(as:List α):[]++as=as:=rfl
abbrev oK := @List.getElem_of_mem
abbrev mc := @beq_self_eq_true
abbrev mU := @List.ext_getElem?
abbrev eN := @if_false
abbrev ma := @List.append_nil
abbrev me := @List.length_set
abbrev oC := @List.size_toArray
abbrev kJ := @Bool.or_true
abbrev uI := @List.take_of_length_le
abbrev uA := @Array.getElem?_eq_none
abbrev mY := @Bool.false_and
abbrev x8 := @Array.getElem?_eq_getElem
abbrev qf := @List.take_append_of_le_length
abbrev An := @Array.replicate_succ
abbrev uC := @Bool.or_false
abbrev m5 := @congrArg
abbrev gI := @List.append_toArray
abbrev uE := @Nat.lt_succ_self
abbrev kK := @beq_iff_eq
abbrev uU := @List.mem_singleton
abbrev mO := @List.mem_map
abbrev uX := @Bool.false_ne_true
abbrev mQ := @Nat.zero_mul
abbrev mh := @Nat.mul_one
abbrev Aw := @List.pairwise_iff_getElem
abbrev ye := @List.contains_eq_mem
abbrev gv := @if_true
abbrev su := @Bool.eq_iff_iff
abbrev uD := @List.push_toArray
abbrev oL := @Nat.sub_self
abbrev uJ := @List.take_length
abbrev uQ := @Bool.not_eq_true
abbrev AA := @Nat.eq_of_beq_eq_true
theorem lE{α:Type u}{β:Type v}(a:α)(f:α->β):Option.map f (some a)=some (f a):=rfl
abbrev uS := @Bool.not_false
abbrev uG := @List.drop_drop
abbrev kC := @or_false
abbrev oN := @decide_not
abbrev Ft := @Array.getElem?_replicate
abbrev uM := @Bool.false_or
abbrev qg := @bne_iff_ne
abbrev xN := @List.mem_range
abbrev yA := @Nat.testBit_or
abbrev uF := @Nat.add_comm
abbrev uR := @decide_false
abbrev uT := @Nat.mul_comm
abbrev uY := @getElem!_pos
abbrev EX := @Bool.or_eq_false_iff
abbrev AB := @List.nodup_cons
abbrev Et := @Bool.eq_false_iff
abbrev Jr := @List.not_all_eq_any_not
abbrev oW := @Ne.symm
abbrev pV := @Iff.rfl
theorem r6{α:Type u}{a:α}{as bs:List α}:(a::as)++bs=a::(as++bs):=rfl
abbrev Jt := @List.take_add_one
abbrev IL := @of_decide_eq_true
abbrev IY := @List.not_mem_nil
abbrev qp := @not_or
namespace Go.V
open Go
structure cJ where
 U:Type
 El:U->Type
 jq:DecidableEq U
 sz:U->Nat
 zero:(c:U)->El c
inductive AV (K:cJ) where
 |any
 |int (k:IntKind) (n:Int)
 |bool (b:Bool)
 |str (s:List UInt8)
 |da
 |cD
 |fn (f:Nat) (caps:List (AV K))
 |ptr (h off:Nat)
 |sl (h:Nat)
 |ep (h st i off:Nat)
 |an (c:K.U) (l:List (K.El c))
 |rp (c:K.U) (x:K.El c) (off:Nat)
 |agg (l:List (AV K))
 |aX (l:List (AV K))
 |opt (g:Nat) (want:Bool) (v:AV K)
 |np (h:Nat)
 |vw (h st lo hi:Nat)
inductive Ob (K:cJ) where
 |dead
 |box (cells:List (AV K))
 |arr (c:K.U) (l:List (K.El c))
 |fJ (c:K.U) (l:List (K.El c))
 |tree (c:K.U) (l:List (K.El c))
 |opn (c:K.U) (l:List (K.El c)) (i off:Nat) (cs:List (AV K))
structure Base where
 inv:(Nat->Prop)->World->Prop
 mono:∀{S S':Nat->Prop}{w w':World},(∀b,S b->S' b)->(∀b,S b->w'.heap[b]?=w.heap[b]?)->inv S w->inv S' w'
def Base.XY:Base:=⟨fun _ _=>True,fun _ _ h=>h⟩
structure ba (K:cJ) where
 cells:(c:K.U)->K.El c->List (AV K)
 dec:(c:K.U)->List (AV K)->Option (K.El c×Bool)
 byte:(c:K.U)->Option ((K.El c->UInt8)×(UInt8->K.El c))
 find:List (AV K)->Option K.U
 base:Base:=Base.XY
 qw:Option TypeId:=none
 mn:K.U->Option TypeId:=fun _=>none
variable {K :cJ}
def AV.bo:AV K->List (AV K)
 |.agg l=>l
 |v=>[v]
def AV.known:AV K->Bool
 |.any|.opt ..=>false
 |_=>true
def AV.i9:AV K->Bool
 |.opt ..=>true
 |_=>false
def AV.one:AV K->Bool
 |.any|.opt .. |.agg _|.aX _|.vw ..=>false
 |_=>true
structure St (K:cJ) where
 tm:List (AV K)
 H:List (Ob K)
 ok:Bool
inductive Ex where
 |normal
 |exit (id:Nat)
 |ret
def Ex.ni:Ex->Exit
 |.normal=>.normal
 |.exit id=>.exit id
 |.ret=>.ret
structure bJ (K:cJ) where
 n:Nat
 ins:List Nat
 outs:List Nat
 run:{R:Type}->List (AV K)->List (Ob K)->(Ex->List (AV K)->List (Ob K)->Option R)->Option R
inductive Mode where
 |plain|ir|dI|pass|cX|fresh
 deriving DecidableEq
def xC{R:Type}(a b:Option R):Option R:=match a with
 |none=>b
 |some r=>some r
theorem Yl{R:Type}{a b:Option R}{r:R}(h:xC a b=some r):a=some r\/b=some r:=by
 cases a with
 |none=>exact .inr h
 |some x=>exact .inl h
structure Cx (K:cJ) where
 P:Program
 D:ba K
 ty:TypeId->Option K.U
 call:FuncId->List (AV K)->List (Ob K)->Option (AV K×List (Ob K)×Bool)
 mode:FuncId->Mode
 loop:Nat->Option (bJ K)
 lV:TypeId->List (Option K.U)
 cut:Bool:=false
 fK:List (List (Option K.U)):=[]
 Ym:List Bool:=[]
 mv:Bool:=false
 deep:K.U->Bool:=fun _=>false
 opn:Bool:=false
 Ic:Bool:=false
 vtl:Bool:=false
 lz:Bool:=false
 alt:Bool->FuncId->List (AV K)->List (Ob K)->Option (AV K×List (Ob K)×Bool):=fun _ _ _ _=>none
 Fv:Bool->FuncId->Mode:=fun _=>mode
 E5:{R:Type}->Option R->Option R->Option R:=fun a b=>xC a b
 gs:Option (Nat×Bool):=none
def known(cx:Cx K)(g:Nat):Option Bool:=match cx.gs with
 |some (t,b)=>if t=g then some b else none
 |none=>none
mutual
def lK:Value->Option (AV K)
 |.bool b=>some (.bool b)
 |.int k n=>some (.int k n)
 |.string s=>some (.str s.data.toList)
 |.pointer none=>some .da
 |.slice none 0 0=>some .cD
 |.agg cs=>(AQ cs.toList).map .agg
 |_=>none
def AQ:List Value->Option (List (AV K))
 |[]=>some []
 |v::r=>match lK v,AQ r with
  |some x,some l=>some (x::l)
  |_,_=>none
end
def covers(tm:List (AV K)):Nat->Nat×Bool->Nat×Bool->Bool
 |0,g,t=>g.1==t.1&&g.2==t.2
 |n+1,g,t=>(g.1==t.1&&g.2==t.2)||(match tm[g.1]? with
  |some (.opt g1 w1 _)=>covers tm n (g1,w1) t
  |_=>false)
def c9(tm:List (AV K))(gs:List (Nat×Bool)):Operand->AV K
 |.tmp t=>match tm[t]? with
   |some (.opt g w v)=>if gs.any (fun p=>covers tm 6 p (g,w))then v else .any
   |some v=>v
   |none=>.any
 |.const v=>(lK v).getD .any
 |.global _=>.any
 |.func f=>.fn f []
def x9(tm:List (AV K)):Nat->Nat×Bool->Option Bool
 |0,_=>none
 |n+1,(g,w)=>match tm[g]? with
  |some (.bool b)=>some (b==w)
  |some (.opt g1 w1 (.bool b))=>(x9 tm n (g1,w1)).map fun e=>e&&(b==w)
  |_=>none
mutual
def merge(b:Bool):AV K->AV K->AV K
 |.int k m,.int k' n=>if k=k' then .int k (cond b m n)else .any
 |.bool m,.bool n=>.bool (cond b m n)
 |.str m,.str n=>.str (cond b m n)
 |.an c l,.an c' l'=>match K.jq c c' with
   |.isTrue h=>.an c' (cond b (h ▸ l) l')
   |.isFalse _=>.any
 |.agg l,.agg l'=>if l.length=l'.length then .agg (merges b l l')else .any
 |.cD,.cD=>.cD
 |.da,.da=>.da
 |_,_=>.any
def merges(b:Bool):List (AV K)->List (AV K)->List (AV K)
 |x::r,y::s=>merge b x y::merges b r s
 |_,_=>[]
end
def dQ(op:BinOp)(k:IntKind)(x y:Int):Int:=
 let a:=BitVec.ofInt k.bits x
 let b:=BitVec.ofInt k.bits y
 k.wrap ((match op with
   |.and=>(a&&& b)|.or=>(a|||b)|.xor=>(a^^^b)|_=>(a&&& ~~~b)).toNat)
def lr(k:IntKind)(x y:Int):Int:=k.wrap (x*2^(min y.toNat k.bits))
def fX(k:IntKind)(x y:Int):Int:=x.fdiv (2^(min y.toNat k.bits))
def eA(a b:List UInt8):Bool:=decide (a.length+b.length<=4611686018427387904)
def AS(a b:List UInt8):Bool:=Op.bytesLess a b
def K0(op:BinOp)(k:IntKind)(a b:Int):Option (AV K×Bool):=
 match op with
 |.add=>some (.int k (k.wrap (a+b)),true)
 |.sub=>some (.int k (k.wrap (a-b)),true)
 |.mul=>some (.int k (k.wrap (a*b)),true)
 |.quo=>some (.int k (k.wrap (a.tdiv b)),b !=0)
 |.rem=>some (.int k (a.tmod b),b !=0)
 |.and|.or|.xor|.andNot=>some (.int k (dQ op k a b),true)
 |.eql=>some (.bool (a==b),true)
 |.neq=>some (.bool (a !=b),true)
 |.lss=>some (.bool (decide (a<b)),true)
 |.leq=>some (.bool (decide (a<=b)),true)
 |.gtr=>some (.bool (decide (b<a)),true)
 |.geq=>some (.bool (decide (b<=a)),true)
 |.shl|.shr=>none
def K1(op:BinOp)(a b:List UInt8):Option (AV K×Bool):=
 match op with
 |.add=>some (.str (a++b),eA a b)
 |.eql=>some (.bool (a==b),true)
 |.neq=>some (.bool (!(a==b)),true)
 |.lss=>some (.bool (AS a b),true)
 |.leq=>some (.bool (AS a b||a==b),true)
 |.gtr=>some (.bool (!(AS a b||a==b)),true)
 |.geq=>some (.bool (!AS a b),true)
 |_=>none
def Yn(P:Program)(t:TypeId):Bool:=P.underlying t matches some .string
def K2(P:Program)(t:TypeId):Bool:=P.underlying t matches some .bool
def K3(op:UnOp):AV K->Option (AV K×Bool)
 |.bool b=>match op with
   |.not=>some (.bool (!b),true)
   |_=>none
 |.int k n=>match op with
   |.neg=>some (.int k (k.wrap (0-n)),true)
   |.xor=>some (.int k (dQ .xor k (if k.signed then -1 else k.max) n),true)
   |_=>none
 |_=>none
def cP(P:Program)(t:TypeId):Option Nat:=(P.info? t).map (·.size)
def Fz(P:Program)(t:TypeId):Option Bool:=
 match P.underlying t with
 |some (.struct _)|some (.array _ _)=>some true
 |some _=>some false
 |none=>none
def Yo(P:Program)(t:TypeId)(f:Nat):Option Field:=
 match P.underlying t with
 |some (.struct fs)=>fs[f]?
 |_=>none
def elemOf?(P:Program)(t:TypeId):Option TypeId:=
 match P.underlying t with
 |some (.slice e)=>some e
 |_=>none
def zeroOf(P:Program)(t:TypeId):Option (AV K):=
 match P.info? t with
 |some i=>match i.zero with
  |some v=>lK v
  |none=>none
 |none=>none
def yv(P:Program)(t:TypeId):Option IntKind:=
 match P.underlying t with
 |some (.int k)=>some k
 |_=>none
def lP(P:Program)(t:TypeId)(cs:List (AV K))(off:Nat):Option (AV K):=
 match Fz P t,cP P t with
 |some true,some n=>if off+n<=cs.length then some (.agg ((cs.drop off).take n))else none
 |some false,some _=>cs[off]?
 |_,_=>none
def AT(P:Program)(rec:TypeId->AV K->AV K->Option Bool)(xs ys:List (AV K)):List Field->Option Bool
 |[]=>some true
 |f::fs=>if f.name= "_" then none else
  match lP P f.type xs f.offset,lP P f.type ys f.offset with
  |some a,some b=>match rec f.type a b,AT P rec xs ys fs with
   |some p,some q=>some (p&&q)
   |_,_=>none
  |_,_=>none
def yB(P:Program):Nat->TypeId->AV K->AV K->Option Bool
 |0,_,_,_=>none
 |n+1,t,.int k a,.int k' b=>if k=k' then(match P.underlying t with
  |some (.int _)=>some (a==b)
  |_=>none)else none
 |n+1,t,.bool a,.bool b=>(match P.underlying t with
  |some .bool=>some (a==b)
  |_=>none)
 |n+1,t,.str a,.str b=>(match P.underlying t with
  |some .string=>some (a==b)
  |_=>none)
 |n+1,t,.agg xs,.agg ys=>(match P.underlying t with
  |some (.struct fs)=>if P.stoodInHeld t then none else AT P (yB P n) xs ys fs.toList
  |_=>none)
 |_+1,_,_,_=>none
def K4(P:Program)(op:BinOp)(t:TypeId):AV K->AV K->Option (AV K×Bool)
 |.int k a,.int k' b=>match op with
   |.shl=>some (.int k (lr k a b),decide (0<=b))
   |.shr=>some (.int k (fX k a b),decide (0<=b))
   |_=>if k=k' then K0 op k a b else none
 |.bool a,.bool b=>if K2 P t then(match op with
   |.eql=>some (.bool (a==b),true)
   |.neq=>some (.bool (!(a==b)),true)
   |_=>none)else none
 |.str a,.str b=>K1 op a b
 |.agg a,.agg b=>match op with
   |.eql=>if P.eqGuardType P.depth t then none else(yB P 6 t (.agg a) (.agg b)).map fun e=>(.bool e,true)
   |.neq=>if P.eqGuardType P.depth t then none else(yB P 6 t (.agg a) (.agg b)).map fun e=>(.bool (!e),true)
   |_=>none
 |_,_=>none
def inB(n:Int)(len:Nat):Bool:=decide (0<=n)&&decide (n<len)
def bK(lo hi:Int)(len:Nat):Bool:=decide (0<=lo)&&(decide (lo<=hi)&&decide (hi<=len))
mutual
def AV.closed:AV K->Bool
 |.int .. |.bool _|.str _|.da|.cD|.an .. |.rp .. |.any=>true
 |.ptr .. |.sl _|.ep .. |.opt .. |.np _|.vw ..=>false
 |.fn _ l|.agg l|.aX l=>fS l
def fS:List (AV K)->Bool
 |[]=>true
 |v::r=>v.closed&&fS r
end
def uZ(H:List (Ob K)):AV K->AV K
 |.sl h=>match H[h]? with
   |some (.arr c l)=>.an c l
   |some (.fJ c l)=>.an c l
   |some (.tree c l)=>.an c l
   |_=>.any
 |v=>v
mutual
def ir(D:ba K)(H:List (Ob K)):AV K->AV K
 |.sl h=>match H[h]? with
   |some (.arr c l)=>.an c l
   |some (.fJ c l)=>.an c l
   |some (.tree c l)=>.an c l
   |_=>.any
 |.ptr h off=>match H[h]? with
   |some (.box cs)=>match D.find (cs.map (uZ H))with
    |some c=>match D.dec c (cs.map (uZ H))with
     |some (x,true)=>.rp c x off
     |_=>.any
    |none=>.any
   |_=>.any
 |.vw h st lo hi=>match H[h]? with
   |some (.arr c l)=>if st=K.sz c then .an c ((l.take hi).drop lo)else .any
   |some (.tree c l)=>if st=K.sz c then .an c ((l.take hi).drop lo)else .any
   |_=>.any
 |.fn g l=>.fn g (lL D H l)
 |.agg l=>.agg (lL D H l)
 |.aX l=>.aX (lL D H l)
 |v=>v
def lL(D:ba K)(H:List (Ob K)):List (AV K)->List (AV K)
 |[]=>[]
 |v::r=>ir D H v::lL D H r
end
def elems(H:List (Ob K))(c:K.U):AV K->Option (List (K.El c))
 |.cD=>some []
 |.an c' l=>match K.jq c' c with
   |.isTrue h=>some (h ▸ l)
   |.isFalse _=>none
 |.sl h=>match H[h]? with
   |some (.arr c' l)=>match K.jq c' c with
    |.isTrue h=>some (h ▸ l)
    |.isFalse _=>none
   |_=>none
 |_=>none
def setCells(cs:List (AV K))(off:Nat):List (AV K)->List (AV K)
 |[]=>cs
 |v::r=>setCells (cs.set off v) (off+1) r
mutual
def hands:AV K->List Nat
 |.ptr h _|.sl h|.ep h _ _ _|.np h|.vw h _ _ _=>[h]
 |.agg l|.aX l|.fn _ l=>bu l
 |_=>[]
def bu:List (AV K)->List Nat
 |[]=>[]
 |v::r=>hands v++bu r
end
def vh(H:List (Ob K))(h:Nat):List (Ob K):=
 match H[h]? with
 |some (.arr c l)=>H.set h (.fJ c l)
 |some (.tree c l)=>H.set h (.fJ c l)
 |_=>H
def iD(H:List (Ob K)):List Nat->List (Ob K)
 |[]=>H
 |h::r=>iD (vh H h) r
mutual
def dD(H:List (Ob K)):AV K->AV K
 |.sl h=>match H[h]? with
   |some (.fJ c l)=>.an c l
   |_=>.sl h
 |.vw h st lo hi=>match H[h]? with
   |some (.fJ c l)=>if st=K.sz c then .an c ((l.take hi).drop lo)else .vw h st lo hi
   |_=>.vw h st lo hi
 |.agg l=>.agg (oY H l)
 |.aX l=>.aX (oY H l)
 |v=>v
def oY(H:List (Ob K)):List (AV K)->List (AV K)
 |[]=>[]
 |v::r=>dD H v::oY H r
end
def thaw(dp:K.U->Bool)(H:List (Ob K)):List (Option K.U)->List (AV K)->List (AV K)×List (Ob K)
 |some c::cs,.cD::r=>match thaw dp (H++[cond (dp c) (.tree c []) (.arr c [])]) cs r with
  |(l,H')=>(.sl H.length::l,H')
 |_::cs,v::r=>match thaw dp H cs r with
  |(l,H')=>(v::l,H')
 |[],l=>(l,H)
 |_,[]=>([],H)
def eH(dp:K.U->Bool)(H:List (Ob K)):List (List (Option K.U))->List (AV K)->List (AV K)×List (Ob K)
 |cs::css,.agg l::r=>match thaw dp H cs l with
  |(l',H1)=>match eH dp H1 css r with
   |(s,H2)=>(.agg l'::s,H2)
 |cs::css,v::r=>match thaw dp H cs [v]with
  |(l',H1)=>match eH dp H1 css r with
   |(s,H2)=>(l'.headD v::s,H2)
 |[],l=>(l,H)
 |_,[]=>([],H)
def kQ:List (AV K)->Bool
 |.np _::_=>true
 |_=>false
def AU(b:Bool)(h:Nat):List (AV K)->List (AV K)
 |.da::r=>cond b (.np h) .da::r
 |l=>l
mutual
def ig:AV K->Bool
 |.an .. |.rp ..=>true
 |.agg l|.aX l|.fn _ l=>dw l
 |_=>false
def dw:List (AV K)->Bool
 |[]=>false
 |v::r=>ig v||dw r
end
def FA(P:Program)(D:ba K)(H:List (Ob K))(t:TypeId):AV K->Option (AV K)
 |.ptr h off=>match H[h]? with
   |some (.box cs)=>lP P t cs off
   |_=>none
 |.rp c x off=>lP P t (D.cells c x) off
 |.ep h st i off=>match H[h]? with
   |some (.arr c l)=>if st=K.sz c then lP P t (D.cells c (l.getD i (K.zero c))) off else none
   |some (.tree c l)=>if st=K.sz c then(match lP P t (D.cells c (l.getD i (K.zero c))) off with
     |some v=>if ig v then none else some v
     |none=>none)else none
   |_=>none
 |_=>none
def K5(P:Program)(H:List (Ob K))(t:TypeId):AV K->Option (AV K×Bool)
 |.ep h st i off=>match H[h]? with
   |some (.opn c l i' off' cs)=>if st=K.sz c/\off'<=off then(match lP P t (List.replicate off' .any++cs) off with
    |some v=>some (v,decide (i=i'))
    |none=>none)else none
   |_=>none
 |_=>none
def K6(P:Program)(s:TypeId)(f:Nat)(x:AV K):Option (AV K):=
 match Yo P s f with
 |some fd=>match cP P fd.type with
  |some (_+1)=>match x with
   |.ptr h off=>some (.ptr h (off+fd.offset))
   |.rp c x off=>some (.rp c x (off+fd.offset))
   |.ep h st i off=>some (.ep h st i (off+fd.offset))
   |_=>none
  |_=>none
 |none=>none
def K7(P:Program)(H:List (Ob K))(t:TypeId)(x i:AV K):Option (AV K×Bool):=
 match elemOf? P t,i with
 |some e,.int _ n=>match x with
  |.an c l=>if cP P e=some (K.sz c)then some (.rp c (l.getD n.toNat (K.zero c)) 0,inB n l.length)else none
  |.sl h=>match H[h]? with
    |some (.arr c l)=>if cP P e=some (K.sz c)then some (.ep h (K.sz c) n.toNat 0,inB n l.length)else none
    |some (.tree c l)=>if cP P e=some (K.sz c)then some (.ep h (K.sz c) n.toNat 0,inB n l.length)else none
    |_=>none
  |_=>none
 |_,_=>none
def jt(d:Int):Option (AV K)->Option Int
 |none=>some d
 |some (.int _ n)=>some n
 |some _=>none
def K8(P:Program)(t:TypeId)(x:AV K)(lo hi:Option (AV K)):Option (AV K×Bool):=
 match P.underlying t,x with
 |some .string,.str s=>match jt 0 lo,jt s.length hi with
  |some l,some h=>some (.str ((s.take h.toNat).drop l.toNat),bK l h s.length)
  |_,_=>none
 |some (.slice e),.an c s=>if cP P e=some (K.sz c)then match jt 0 lo,jt s.length hi with
  |some l,some h=>some (.an c ((s.take h.toNat).drop l.toNat),bK l h s.length)
  |_,_=>none else none
 |_,_=>none
def K9(P:Program)(H:List (Ob K))(t:TypeId)(x:AV K)(lo hi:Option (AV K)):Option (AV K×Bool):=
 match elemOf? P t,x with
 |some e,.sl h=>match H[h]? with
  |some (.arr c l)=>if cP P e=some (K.sz c)then match jt 0 lo,jt l.length hi with
   |some a,some b=>some (.vw h (K.sz c) a.toNat b.toNat,bK a b l.length)
   |_,_=>none else none
  |some (.tree c l)=>if cP P e=some (K.sz c)then match jt 0 lo,jt l.length hi with
   |some a,some b=>some (.vw h (K.sz c) a.toNat b.toNat,bK a b l.length)
   |_,_=>none else none
  |_=>none
 |_,_=>none
def vi(cx:Cx K)(ev:Operand->AV K)(H:List (Ob K)):Op->Option (AV K×Bool)
 |.move x|.assign x=>some (ev x,true)
 |.binOp op t x y _=>K4 cx.P op t (ev x) (ev y)
 |.unOp op _ x=>K3 op (ev x)
 |.convert src dst x=>match cx.P.underlying src,cx.P.underlying dst,ev x with
   |some _,some (.int k),.int _ n=>some (.int k (k.wrap n),true)
   |some _,some .string,.str s=>some (.str s,true)
   |some (.slice e),some .string,x=>match cx.P.underlying e,cx.ty e with
    |some (.int .u8),some c=>match cx.D.byte c,elems H c x with
     |some (f,_),some l=>some (.str (l.map f),true)
     |_,_=>none
    |_,_=>none
   |_,_,_=>none
 |.extract t i=>match ev t with
   |.aX l=>(l[i]?).map fun v=>(v,true)
   |_=>none
 |.fieldAddr s x f=>(K6 cx.P s f (ev x)).map fun v=>(v,true)
 |.load t p=>match FA cx.P cx.D H t (ev p)with
   |some v=>some (v,true)
   |none=>K5 cx.P H t (ev p)
 |.indexAddr t x i=>K7 cx.P H t (ev x) (ev i)
 |.index t x i=>match cx.P.underlying t,ev x,ev i with
   |some .string,.str s,.int _ n=>some (.int .u8 ((s.getD n.toNat 0).toNat:Int),inB n s.length)
   |_,_,_=>none
 |.slice t x lo hi none=>match K8 cx.P t (ev x) (lo.map ev) (hi.map ev)with
   |some r=>some r
   |none=>if cx.Ic&&cond cx.vtl hi.isNone (hi.isSome|| !cx.cut)then K9 cx.P H t (ev x) (lo.map ev) (hi.map ev)else none
 |.nilCheck x=>match ev x with
   |.ptr h o=>some (.ptr h o,true)
   |.rp c x o=>some (.rp c x o,true)
   |.ep h s i o=>some (.ep h s i o,true)
   |_=>none
 |.makeFunc (.func f) first caps=>if first.isEmpty then some (.fn f (caps.toList.map ev),true)else none
 |.call {callee:=.builtin .len,args,argTypes}=>match args.toList,argTypes.toList with
   |[x],[t]=>match cx.P.underlying t,ev x with
     |some .string,.str s=>some (.int .i64 (s.length:Int),true)
     |some (.slice _),.cD=>some (.int .i64 0,true)
     |some (.slice _),.an _ l=>some (.int .i64 (l.length:Int),true)
     |some (.slice _),.vw _ _ a b=>some (.int .i64 ((b-a:Nat):Int),true)
     |some (.slice _),.sl h=>match H[h]? with
      |some (.arr _ l)=>some (.int .i64 (l.length:Int),true)
      |some (.tree _ l)=>some (.int .i64 (l.length:Int),true)
      |_=>none
     |_,_=>none
   |_,_=>none
 |.call {callee:=.builtin .min,args, ..}=>match args.toList with
   |[x,y]=>match ev x,ev y with
     |.int k a,.int k' b=>if k=k' then some (.int k (cond (decide (b<a)) b a),true)else none
     |_,_=>none
   |_=>none
 |.call {callee:=.builtin .max,args, ..}=>match args.toList with
   |[x,y]=>match ev x,ev y with
     |.int k a,.int k' b=>if k=k' then some (.int k (cond (decide (a<b)) b a),true)else none
     |_,_=>none
   |_=>none
 |_=>none
def Yp(D:ba K)(c:K.U)(e:TypeId):Bool:=match D.mn c with
 |none=>true
 |some t=>t==e
def oZ(cx:Cx K)(e:TypeId):Option K.U:=match cx.ty e with
 |some c=>if Yp cx.D c e then some c else none
 |none=>none
def room(e:TypeId)(P:Program):Bool:=match P.info? e with
 |some i=>decide (i.bytes<=4096)
 |none=>false
def oS(D:ba K)(c:K.U):List (AV K)->Option (List (K.El c)×Bool)
 |[]=>some ([],true)
 |v::r=>match D.dec c v.bo,oS D c r with
  |some (x,b),some (l,b')=>some (x::l,b&&b')
  |_,_=>none
def inOrder(ev:Operand->AV K):Nat->List (Nat×Operand)->Option (List (AV K))
 |_,[]=>some []
 |n,(i,x)::r=>if i=n then(inOrder ev (n+1) r).map (ev x::·)else none
def placesOf(P:Program)(t:TypeId):Option (List (Nat×Nat)):=
 match P.underlying t with
 |some (.struct fs)=>fs.toList.mapM (fun f=>(P.info? f.type).map fun i=>(f.offset,i.size))
 |_=>none
def yC(places:List (Nat×Nat))(ev:Operand->AV K)(cs:List (AV K)):List (Nat×Operand)->Option (List (AV K))
 |[]=>some cs
 |(i,x)::r=>match places[i]? with
  |some (off,n)=>if(ev x).known=true/\(ev x).bo.length=n/\off+n<=cs.length then yC places ev (setCells cs off (ev x).bo) r else none
  |none=>none
def nc(P:Program)(t:TypeId):Bool:=match P.info? t with
 |some i=>match i.zero with
  |some v=>v.cells.size==i.size
  |none=>false
 |none=>false
def source(D:ba K)(H:List (Ob K))(c:K.U):AV K->Option (List (K.El c))
 |.str s=>match D.byte c with
   |some (_,g)=>some (s.map g)
   |none=>none
 |v=>elems H c v
def FB(cx:Cx K)(H:List (Ob K))(sT:TypeId)(s x:AV K):Option (AV K×List (Ob K)×Bool×List Nat):=
 match elemOf? cx.P sT with
 |none=>none
 |some e=>match oZ cx e with
  |none=>none
  |some c=>if cP cx.P e=some (K.sz c)/\room e cx.P=true/\nc cx.P e=true then
    match source cx.D H c x with
    |none=>none
    |some m=>match s with
     |.cD=>some (.sl H.length,H++[.arr c m],decide (m.length<=1073741824),[])
     |.sl h=>match x with
       |.sl h'=>if h=h' then none else match elems H c (.sl h)with
         |some l=>some (.sl H.length,H.set h .dead++[.arr c (l++m)],decide (l.length+m.length<=1073741824),[h])
         |none=>none
       |_=>match elems H c (.sl h)with
        |some l=>some (.sl H.length,H.set h .dead++[.arr c (l++m)],decide (l.length+m.length<=1073741824),[h])
        |none=>none
     |_=>none
   else none
def AW(cx:Cx K)(H:List (Ob K))(sT:TypeId)(s x:AV K):Option (AV K×List (Ob K)×Bool×List Nat):=
 match elemOf? cx.P sT,x with
 |some e,.int _ n=>match oZ cx e,(zeroOf cx.P e:Option (AV K))with
  |some c,some z=>if cP cx.P e=some (K.sz c)/\room e cx.P=true/\0<K.sz c/\z.known=true/\z.bo.all AV.one=true then
    match cx.D.dec c z.bo,s with
    |some (y,b),.sl h=>match elems H c (.sl h)with
     |some l=>some (.sl H.length,H.set h .dead++[.arr c (l++List.replicate n.toNat y)],b&&(decide (0<=n)&&decide (l.length+n.toNat<=1073741824)),[h])
     |none=>none
    |_,_=>none
   else none
  |_,_=>none
 |_,_=>none
def kU(ev:Operand->AV K):Op->List Nat
 |.buildSlice _ _ parts=>bu (parts.toList.map fun p=>ev p.2)
 |.store _ p x=>match ev p with
   |.ep ..=>hands (ev x)
   |_=>[]
 |.slice _ x _ _ _=>match ev x with
   |.sl h=>[h]
   |_=>[]
 |_=>[]
def vj(cx:Cx K)(ev:Operand->AV K)(H:List (Ob K)):Op->Option (AV K×List (Ob K)×Bool×List Nat)
 |.box t x=>if(ev x).known then match thaw cx.deep H (cx.lV t) (ev x).bo with
     |(cs,H1)=>if kQ cs then none else some (.ptr H1.length 0,H1++[.box cs],true,[])else none
 |.alloc t=>match(zeroOf cx.P t:Option (AV K))with
   |some z=>if z.known then match thaw cx.deep H (cx.lV t) z.bo with
    |(cs,H1)=>if kQ cs then none else some (.ptr H1.length 0,H1++[.box (AU (cx.D.qw==some t) H1.length cs)],true,[])else none
   |none=>none
 |.build t parts=>match placesOf cx.P t,(zeroOf cx.P t:Option (AV K))with
   |some ps,some z=>if z.known then(yC ps ev z.bo parts.toList).map fun cs=>(.agg cs,H,true,[])else none
   |_,_=>none
 |.store t p x=>match cP cx.P t with
   |some n=>if(ev x).bo.length=n/\(ev x).bo.all AV.one=true then match ev p with
    |.ptr h off=>match H[h]? with
      |some (.box cs)=>if off+n<=cs.length then match thaw cx.deep H (cx.lV t) (ev x).bo with
       |(xs,H1)=>if kQ (setCells cs off xs)&& !kQ cs then none else some (.any,H1.set h (.box (setCells cs off xs)),true,[h])else none
      |_=>none
    |.ep h st i off=>match H[h]? with
      |some (.arr c l)=>if st=K.sz c/\fS (ev x).bo=true/\off+n<=K.sz c then
        match cx.D.dec c (setCells (cx.D.cells c (l.getD i (K.zero c))) off (ev x).bo)with
        |some (y,b)=>some (.any,H.set h (.arr c (l.set i y)),b,[h])
        |none=>none
       else none
      |_=>none
    |_=>none else none
   |none=>none
 |.makeSlice t len cap=>match elemOf? cx.P t with
   |none=>none
   |some e=>match oZ cx e,(zeroOf cx.P e:Option (AV K)),ev len,ev cap with
    |some c,some z,.int _ n,.int _ m=>if cP cx.P e=some (K.sz c)/\room e cx.P=true/\fS z.bo=true/\z.known=true then
      match cx.D.dec c z.bo with
      |some (y,b)=>some (.sl H.length,H++[.arr c (List.replicate n.toNat y)],b&&(decide (0<=n)&&(decide (n<=m)&&decide (m<=1073741824))),[])
      |none=>none
     else none
    |_,_,_,_=>none
 |.buildSlice t len parts=>match elemOf? cx.P t with
   |none=>none
   |some e=>match oZ cx e,inOrder ev 0 parts.toList with
    |some c,some l=>if cP cx.P e=some (K.sz c)/\nc cx.P e=true/\l.length=len/\len<=4096/\K.sz c<=4096/\l.all (fun v=>fS v.bo&&(v.known&&decide (v.bo.length=K.sz c)))=true then
      match oS cx.D c l with
      |some (y,b)=>some (.sl H.length,H++[.arr c y],b,[])
      |none=>none
     else none
    |_,_=>none
 |.convert src dst x=>match cx.P.underlying src,elemOf? cx.P dst,ev x with
   |some .string,some e,.str s=>match cx.P.underlying e,oZ cx e with
    |some (.int .u8),some c=>match cx.D.byte c with
     |some (_,g)=>if cP cx.P e=some (K.sz c)then some (.sl H.length,H++[.arr c (s.map g)],decide (s.length<=1073741824),[])else none
     |none=>none
    |_,_=>none
   |_,_,_=>none
 |.call {callee:=.builtin .append,args,argTypes}=>match args.toList,argTypes.toList with
   |[s,x],[sT,xT]=>if(cx.P.underlying xT).isNone then none else if(yv cx.P xT).isSome then AW cx H sT (ev s) (ev x)else FB cx H sT (ev s) (ev x)
   |_,_=>none
 |.call {callee:=.builtin .clear,args,argTypes}=>match args.toList,argTypes.toList with
   |[x],[T]=>match ev x,elemOf? cx.P T with
     |.vw h st lo hi,some e=>match H[h]?,(zeroOf cx.P e:Option (AV K))with
       |some (.arr c l),some z=>if st=K.sz c/\cP cx.P e=some (K.sz c)/\z.bo.all AV.one=true then match cx.D.dec c z.bo with
         |some (y,b)=>some (.any,H.set h (.arr c (l.take lo++List.replicate (hi-lo) y++l.drop hi)),b&&decide (hi<=l.length),[h])
         |none=>none
        else none
       |_,_=>none
     |_,_=>none
   |_,_=>none
 |.call {callee:=.builtin .copy,args,argTypes}=>match args.toList,argTypes.toList with
   |[x,y],[T,_]=>match ev x,ev y,elemOf? cx.P T with
     |.vw h st lo hi,.str s,some e=>match H[h]? with
       |some (.arr c l)=>match cx.D.byte c with
        |some (_,g)=>if st=K.sz c/\cP cx.P e=some (K.sz c)then some (.int .i64 (s.length:Int),H.set h (.arr c (l.take lo++s.map g++l.drop (lo+s.length))),decide (hi<=l.length)&&decide (s.length<=hi-lo),[h])else none
        |none=>none
       |_=>none
     |_,_,_=>none
   |_,_=>none
 |_=>none
mutual
def qq:AV K->Bool
 |.sl _|.ptr .. |.ep .. |.np _|.vw ..=>true
 |.agg l|.aX l|.fn _ l=>u4 l
 |_=>false
def u4:List (AV K)->Bool
 |[]=>false
 |v::r=>qq v||u4 r
end
mutual
def eE(f:Nat->Option Nat):AV K->Option (AV K)
 |.ptr h o=>(f h).map (.ptr · o)
 |.sl h=>(f h).map .sl
 |.np h=>(f h).map .np
 |.ep h s i o=>(f h).map (.ep · s i o)
 |.vw h s a b=>(f h).map (.vw · s a b)
 |.fn g l=>(i6 f l).map (.fn g)
 |.agg l=>(i6 f l).map .agg
 |.aX l=>(i6 f l).map .aX
 |.opt ..=>none
 |v=>some v
def i6(f:Nat->Option Nat):List (AV K)->Option (List (AV K))
 |[]=>some []
 |v::r=>match eE f v,i6 f r with
  |some x,some l=>some (x::l)
  |_,_=>none
end
def ren(m:List Nat):AV K->Option (AV K):=eE fun h=>m.idxOf? h
def Yq(m:List Nat):List (AV K)->Option (List (AV K)):=i6 fun h=>m.idxOf? h
def back(m:List Nat):AV K->Option (AV K):=eE fun h=>m[h]?
def alk(m:List Nat):List (AV K)->Option (List (AV K)):=i6 fun h=>m[h]?
def ke(f:Nat->Option Nat):Ob K->Option (Ob K)
 |.box cs=>(i6 f cs).map .box
 |.opn ..=>none
 |o=>some o
def E4(m:List Nat):Ob K->Option (Ob K):=ke fun h=>m.idxOf? h
def u6(m:List Nat):Ob K->Option (Ob K):=ke fun h=>m[h]?
def ml(f:Ob K->Option (Ob K)):List (Ob K)->Option (List (Ob K))
 |[]=>some []
 |o::r=>match f o,ml f r with
  |some x,some l=>some (x::l)
  |_,_=>none
def reach(H:List (Ob K)):Nat->List Nat->List Nat->List Nat
 |0,_,acc=>acc
 |_,[],acc=>acc
 |n+1,h::r,acc=>if acc.contains h then reach H n r acc else
   reach H n (r++(match H[h]? with|some (.box cs)=>bu cs|_=>[])) (acc++[h])
def u5(H:List (Ob K)):List Nat->Bool
 |[]=>true
 |h::m=>decide (h<H.length)&&(!m.contains h&&u5 H m)
def i7:List (Ob K)->List Nat->List (Ob K)->List (Ob K)
 |H,h::m,o::r=>i7 (H.set h o) m r
 |H,_,_=>H
def XV(D:ba K):Ob K->Bool
 |.arr c _=> !dw (D.cells c (K.zero c))
 |.tree ..=>true
 |_=>false
def kR(cx:Cx K)(m:Mode)(H:List (Ob K))(f:FuncId)(args:List (AV K)):Option (AV K×List (Ob K)×Bool×List Nat):=
 match m with
 |.plain=>if fS (lL cx.D H args)then match cx.call f (lL cx.D H args) []with
     |some (r,[],c)=>if r.closed&&(!ig r|| !u4 args)then some (r,H,c,[])else none
     |_=>none else none
 |.ir=>if fS (lL cx.D H args)&& !u4 args then match cx.call f (lL cx.D H args) []with
     |some (r,Hn,c)=>match back ((List.range Hn.length).map (H.length+·)) r,ml (u6 ((List.range Hn.length).map (H.length+·))) Hn with
      |some r',some u7=>some (r',H++u7,c,[])
      |_,_=>none
     |none=>none else none
 |.fresh=>if fS (lL cx.D H args)then match cx.call f (lL cx.D H args) []with
     |some (r,Hn,c)=>if !ig r&&Hn.all (XV cx.D)then match back ((List.range Hn.length).map (H.length+·)) r,ml (u6 ((List.range Hn.length).map (H.length+·))) Hn with
      |some r',some u7=>some (r',H++u7,c,[])
      |_,_=>none else none
     |none=>none else none
 |.dI|.cX=>none
 |.pass=>if !u5 H (reach H 64 (bu args) [])then none else match Yq (reach H 64 (bu args) []) args,ml (E4 (reach H 64 (bu args) [])) ((reach H 64 (bu args) []).map fun h=>H.getD h .dead)with
     |some args',some Hi=>match cx.call f args' Hi with
      |some (r,Ho,c)=>
       match back (reach H 64 (bu args) []++(List.range (Ho.length-Hi.length)).map (H.length+·)) r,ml (u6 (reach H 64 (bu args) []++(List.range (Ho.length-Hi.length)).map (H.length+·))) Ho with
       |some r',some gB=>if Hi.length<=Ho.length then some (r',i7 H (reach H 64 (bu args) []) (gB.take Hi.length)++gB.drop Hi.length,c,reach H 64 (bu args) [])else none
       |_,_=>none
      |none=>none
     |_,_=>none
def u9(cx:Cx K)(m:Mode)(H:List (Ob K))(f:FuncId)(args:List (AV K)):Option (AV K×List (Ob K)×Bool×List Nat):=
 kR cx m (iD H (bu args)) f (oY (iD H (bu args)) args)
def qu(q:Bool)(cx:Cx K)(H:List (Ob K))(f:FuncId)(args:List (AV K)):Option (AV K×List (Ob K)×Bool×List Nat):=
 match cx.mode f with
 |.plain=>kR cx .plain H f args
 |.dI=>match kR cx .plain H f args with
   |some r=>some r
   |none=>if q then none else u9 cx .plain H f args
 |.ir=>if q then none else u9 cx .ir H f args
 |.pass=>if q then none else kR cx .pass H f args
 |.cX=>if q then none else u9 cx .pass H f args
 |.fresh=>if q then none else match kR cx .ir H f args with
   |some r=>some r
   |none=>match kR cx .fresh H f args with
    |some r=>some r
    |none=>u9 cx .ir H f args
def kf:List Nat->Bool
 |[]=>true
 |x::r=> !r.contains x&&kf r
def Fe(D:ba K)(H:List (Ob K)):AV K->Option (AV K)
 |.sl h=>match H[h]? with
   |some (.arr c l)=>if dw (D.cells c (K.zero c))then none else some (.an c l)
   |some (.tree c l)=>some (.an c l)
   |_=>none
 |.cD=>some .cD
 |.int k n=>some (.int k n)
 |.bool b=>some (.bool b)
 |.str s=>some (.str s)
 |.da=>some .da
 |_=>none
def kS(D:ba K)(H:List (Ob K)):List (AV K)->Option (List (AV K))
 |[]=>some []
 |v::r=>match Fe D H v,kS D H r with
  |some x,some l=>some (x::l)
  |_,_=>none
def yo(D:ba K)(H:List (Ob K)):List (AV K)->Option (List (AV K))
 |[]=>some []
 |v::r=>match kS D H v.bo,yo D H r with
  |some cs,some l=>some (.agg cs::l)
  |_,_=>none
def en(H:List (Ob K)):List Nat->List (Ob K)
 |[]=>H
 |h::r=>en (H.set h .dead) r
def qz(H:List (Ob K))(c:K.U):AV K->Option (List (K.El c)×List Nat)
 |.cD=>some ([],[])
 |.sl h=>match H[h]? with
   |some (.tree c' l)=>match K.jq c' c with
    |.isTrue e=>some (e ▸ l,[h])
    |.isFalse _=>none
   |_=>none
 |_=>none
def yu(cx:Cx K)(ev:Operand->AV K)(H:List (Ob K)):Op->Option (AV K×List (Ob K)×Bool×List Nat)
 |.makeSlice t len cap=>match elemOf? cx.P t with
   |none=>none
   |some e=>match oZ cx e,(zeroOf cx.P e:Option (AV K)),ev len,ev cap with
    |some c,some z,.int _ n,.int _ m=>if cx.deep c=true/\cP cx.P e=some (K.sz c)/\room e cx.P=true/\z.known=true then
      match kS cx.D [] z.bo with
      |some zs=>match cx.D.dec c zs with
       |some (y,b)=>some (.sl H.length,H++[.tree c (List.replicate n.toNat y)],b&&(decide (0<=n)&&(decide (n<=m)&&decide (m<=1073741824))),[])
       |none=>none
      |none=>none
     else none
    |_,_,_,_=>none
 |.buildSlice t len parts=>match elemOf? cx.P t with
   |none=>none
   |some e=>match oZ cx e,inOrder ev 0 parts.toList with
    |some c,some l=>if cx.deep c=true/\cP cx.P e=some (K.sz c)/\nc cx.P e=true/\l.length=len/\len<=4096/\K.sz c<=4096/\l.all (fun v=>v.known&&decide (v.bo.length=K.sz c))=true/\kf (bu l)=true then
      match yo cx.D H l with
      |some l'=>match oS cx.D c l' with
       |some (y,b)=>some (.sl H.length,en H (bu l)++[.tree c y],b,bu l)
       |none=>none
      |none=>none
     else none
    |_,_=>none
 |.store t p x=>match ev p,cP cx.P t with
   |.ep h st i off,some n=>match H[h]? with
     |some (.tree c l)=>if st=K.sz c/\off+n<=K.sz c/\(ev x).bo.length=n/\(ev x).bo.all AV.one=true/\kf (h::bu (ev x).bo)=true then
       match kS cx.D H (ev x).bo with
       |some xs=>match cx.D.dec c (setCells (cx.D.cells c (l.getD i (K.zero c))) off xs)with
        |some (y,b)=>some (.any,(en H (h::bu (ev x).bo)).set h (.tree c (l.set i y)),b,h::bu (ev x).bo)
        |none=>none
       |none=>none
      else none
     |some (.opn c l i' off' cs)=>if st=K.sz c/\off=off'/\n=cs.length/\(ev x).bo.length=n/\(ev x).bo.all AV.one=true/\kf (h::bu (ev x).bo)=true then
       match kS cx.D H (ev x).bo with
       |some xs=>match cx.D.dec c (setCells (cx.D.cells c (l.getD i (K.zero c))) off xs)with
        |some (y,b)=>some (.any,(en H (h::bu (ev x).bo)).set h (.tree c (l.set i y)),b&&decide (i=i'),h::bu (ev x).bo)
        |none=>none
       |none=>none
      else none
     |_=>none
   |_,_=>none
 |.call {callee:=.builtin .append,args,argTypes}=>match args.toList,argTypes.toList with
   |[s,x],[sT,xT]=>if(yv cx.P xT).isSome||(cx.P.underlying xT).isNone then none else match elemOf? cx.P sT with
     |none=>none
     |some e=>match oZ cx e with
      |none=>none
      |some c=>if cx.deep c=true/\cP cx.P e=some (K.sz c)/\room e cx.P=true/\nc cx.P e=true then
        match qz H c (ev s),qz H c (ev x)with
        |some (l,hs),some (m,hs')=>if kf (hs++hs')then some (.sl H.length,en H (hs++hs')++[.tree c (l++m)],decide (l.length+m.length<=1073741824),hs++hs')else none
        |_,_=>none
       else none
   |_,_=>none
 |_=>none
def sK(D:ba K)(dp:K.U->Bool):Nat->List (AV K)->Option (List (AV K)×List (Ob K))
 |_,[]=>some ([],[])
 |n,.an c l::r=>if dp c|| !dw (D.cells c (K.zero c))then match sK D dp (n+1) r with
    |some (cs,os)=>some (.sl n::cs,cond (dp c) (.tree c l) (.arr c l)::os)
    |none=>none
  else none
 |n,v::r=>match sK D dp n r with
    |some (cs,os)=>some (v::cs,os)
    |none=>none
def yx(cx:Cx K)(ev:Operand->AV K)(H:List (Ob K)):Op->Option (AV K×List (Ob K)×Bool×List Nat)
 |.load t p=>if cx.opn then match ev p,Fz cx.P t,cP cx.P t with
     |.ep h st i off,some ag,some n=>match H[h]? with
       |some (.tree c l)=>if st=K.sz c/\off+n<=K.sz c/\0<n then match sK cx.D cx.deep H.length (((cx.D.cells c (l.getD i (K.zero c))).drop off).take n)with
         |some (cs,os)=>some (cond ag (.agg cs) (cs.getD 0 .any),H.set h (.opn c l i off cs)++os,true,[h])
         |none=>none
        else none
       |_=>none
     |_,_,_=>none
   else none
 |_=>none
def La:List (Ob K)->Option Nat
 |[]=>none
 |.opn ..::_=>some 0
 |_::r=>(La r).map (· +1)
def shut(D:ba K)(H:List (Ob K)):Option (List (Ob K)×Bool×List Nat):=
 match La H with
 |none=>some (H,true,[])
 |some h=>match H[h]? with
  |some (.opn c l i off cs)=>if kf (h::bu cs)=true then match kS D H cs with
    |some xs=>match D.dec c (setCells (D.cells c (l.getD i (K.zero c))) off xs)with
     |some (y,b)=>some ((en H (h::bu cs)).set h (.tree c (l.set i y)),b,h::bu cs)
     |none=>none
    |none=>none
   else none
  |_=>none
def yz(q:Bool)(cx:Cx K)(H:List (Ob K))(f:FuncId)(args:List (AV K)):Option (AV K×List (Ob K)×Bool×List Nat):=
 if cx.opn&& !cx.lz&& !q then match qu q cx H f args with
  |some (r,H1,c,t)=>match shut cx.D H1 with
   |some (H2,b,t2)=>some (r,H2,c&&b,t++t2)
   |none=>none
  |none=>none
 else qu q cx H f args
def guardOf(ops:List Oper)(o:Oper):Option (Option (Nat×Bool)):=
 match o.guard with
 |none=>some none
 |some (j,w)=>match ops[j]? with
  |some g=>match g.dst with
   |some t=>some (some (t,w))
   |none=>none
  |none=>none
def vk(st:St K)(wr:List Nat)(dst:Option Nat)(v:AV K)(H:List (Ob K))(ok:Bool):Option (St K×List Nat):=
 match dst with
 |none=>some (⟨st.tm,H,ok⟩,wr)
 |some d=>if wr.contains d||decide (st.tm.length<=d)then none else some (⟨st.tm.set d v,H,ok⟩,d::wr)
def yw(cx:Cx K)(ev:Operand->AV K)(H:List (Ob K))(op:Op):Option (AV K×List (Ob K)×Bool×List Nat):=
 match yu cx (fun x=>dD H (ev x)) H op with
 |some r=>some r
 |none=>match kU ev op with
 |[]=>vj cx (fun x=>dD H (ev x)) H op
 |hs=>match vi cx (fun x=>dD (iD H hs) (ev x)) (iD H hs) op with
  |some (v,c)=>some (v,iD H hs,c,[])
  |none=>vj cx (fun x=>dD (iD H hs) (ev x)) (iD H hs) op
def Lc:Operand->Bool
 |.const (.slice none 0 0)=>true
 |_=>false
def iE(cx:Cx K):Op->Bool
 |.assign x=> !Lc x
 |.slice t ..=>Yn cx.P t
 |.load t _=> !cx.opn||(cx.lz&&(cx.lV t).all Option.isNone)
 |.makeFunc .. |.move _|.pick .. |.binOp .. |.unOp .. |.extract .. |.fieldAddr .. |.indexAddr .. |.index .. |.nilCheck _=>true
 |.convert _ dst _=>(elemOf? cx.P dst).isNone
 |.call {callee:=.builtin .len, ..}|.call {callee:=.builtin .min, ..}|.call {callee:=.builtin .max, ..}=>true
 |.call {callee:=.value (.func f), ..}=>cx.mode f== .plain&&(!cx.opn||cx.lz)
 |_=>false
def cutV(cx:Cx K)(ev:Operand->AV K)(H:List (Ob K)):Op->Option (AV K×List (Ob K)×Bool×List Nat)
 |.slice t x none (some y) none=>if cx.cut then match ev x,ev y,elemOf? cx.P t with
   |.sl h,.int _ n,some e=>match H[h]? with
     |some (.arr c l)=>if cP cx.P e=some (K.sz c)then some (.sl H.length,H.set h .dead++[.arr c (l.take n.toNat)],bK 0 n l.length,[h])else none
     |some (.tree c l)=>if cP cx.P e=some (K.sz c)then some (.sl H.length,H.set h .dead++[.tree c (l.take n.toNat)],bK 0 n l.length,[h])else none
     |_=>none
   |_,_,_=>none else none
 |.slice t x (some y) none none=>if cx.cut then match ev x,ev y,elemOf? cx.P t with
   |.sl h,.int _ n,some e=>match H[h]? with
     |some (.arr c l)=>if cP cx.P e=some (K.sz c)/\cx.D.mn c=none then some (.sl H.length,H.set h .dead++[.arr c (l.drop n.toNat)],bK n l.length l.length,[h])else none
     |some (.tree c l)=>if cP cx.P e=some (K.sz c)/\cx.D.mn c=none then some (.sl H.length,H.set h .dead++[.tree c (l.drop n.toNat)],bK n l.length l.length,[h])else none
     |_=>none
   |_,_,_=>none else none
 |_=>none
def AX(cx:Cx K)(ev:Operand->AV K)(H:List (Ob K)):Op->Option (AV K×List (Ob K)×Bool×List Nat)
 |.buildSlice t len parts=>match elemOf? cx.P t with
   |none=>none
   |some e=>match cx.ty e,inOrder ev 0 parts.toList with
    |some c,some l=>if cP cx.P e=some (K.sz c)/\nc cx.P e=true/\l.length=len/\len<=4096/\K.sz c<=4096/\l.all (fun v=>fS v.bo&&(v.known&&decide (v.bo.length=K.sz c)))=true then
      match oS cx.D c l with
      |some (y,b)=>some (.an c y,H,b,[])
      |none=>none
     else none
    |_,_=>none
 |_=>none
def kV(q:Bool)(cx:Cx K)(tm:List (AV K))(gs:List (Nat×Bool))(H:List (Ob K))(T:TypeId):Op->Option (AV K×List (Ob K)×Bool×List Nat)
 |.pick c x y=>match c,c9 tm gs c with
   |.tmp t,.bool b=>match known cx t with
     |some b0=>some (cond b0 (c9 tm gs x) (c9 tm gs y),H,b==b0,[])
     |none=>some (merge b (c9 tm ((t,true)::gs) x) (c9 tm ((t,false)::gs) y),H,true,[])
   |.const _,.bool b=>some (merge b (c9 tm gs x) (c9 tm gs y),H,true,[])
   |_,_=>none
 |.call {callee:=.value f,args, ..}=>match c9 tm gs f with
   |.fn g caps=>yz q cx H g (args.toList.map (fun x=>dD H (c9 tm gs x))++caps)
   |_=>none
 |.assign x=>if !q&&Lc x then match elemOf? cx.P T with
     |some e=>match cx.ty e with
      |some c=>some (.sl H.length,H++[cond (cx.deep c) (.tree c []) (.arr c [])],true,[])
      |none=>some (c9 tm gs x,H,true,[])
     |none=>some (c9 tm gs x,H,true,[])
   else some (dD H (c9 tm gs x),H,true,[])
 |op=>match vi cx (fun x=>dD H (c9 tm gs x)) H op with
  |some (v,c)=>some (v,H,c,[])
  |none=>if q then AX cx (fun x=>dD H (c9 tm gs x)) H op else if iE cx op then none else match yx cx (c9 tm gs) H op with
   |some r=>some r
   |none=>match cutV cx (c9 tm gs) H op with
   |some r=>some r
   |none=>yw cx (c9 tm gs) H op
def nj(cx:Cx K):Op->Bool
 |.assign _=>true
 |.slice t ..=> !cx.cut||Yn cx.P t
 |.call {callee:=.value (.func f), ..}=>cx.mode f== .plain||cx.mode f== .dI
 |op=>iE cx op
def alm(cx:Cx K):Op->Bool
 |.buildSlice ..=>true
 |op=>nj cx op
def ij(q:Bool)(cx:Cx K)(ops:List Oper)(tm:List (AV K))(H:List (Ob K))(wr:List Nat)(o:Oper):Option (AV K×List (Ob K)×Bool):=
 match guardOf ops o with
 |none=>none
 |some none=>match kV q cx tm [] H o.type o.op with
  |some (v,H',c,_)=>if v.i9 then none else some (v,H',c)
  |none=>none
 |some (some (g,w))=>match known cx g with
  |some b0=>match tm[g]? with
   |some (.bool b)=>if b0=w then match kV q cx tm [] H o.type o.op with
     |some (v,H',c,_)=>if v.i9 then none else some (v,H',c&&(b==b0))
     |none=>none
    else some (.any,H,b==b0)
   |_=>none
  |none=>match x9 tm 6 (g,w)with
   |none=>none
   |some b=>if alm cx o.op&&wr.contains g then match kV true cx tm [(g,w)] H o.type o.op with
     |some (v,_,c,_)=>some (.opt g w v,H,c|| !b)
     |none=>none else none
def yD(cx:Cx K)(ops:List Oper)(st:St K)(wr:List Nat)(o:Oper):Option (St K×List Nat):=
 match ij false cx ops st.tm st.H wr o with
 |some (v,H',c)=>vk st wr o.dst v H' (c&&st.ok)
 |none=>none
def kW(cx:Cx K)(ops:List Oper):List Oper->St K->List Nat->Option (St K×List Nat)
 |[],st,wr=>some (st,wr)
 |o::r,st,wr=>match yD cx ops st wr o with
  |some (st',wr')=>kW cx ops r st' wr'
  |none=>none
def ja(tm:List (AV K)):List Nat->List (AV K)
 |[]=>tm
 |d::r=>match tm[d]? with
  |some (.opt ..)=>ja (tm.set d .any) r
  |_=>ja tm r
def gY:List Oper->List Nat->List Nat
 |[],acc=>acc
 |o::r,acc=>gY r (acc++[o.after.toList.foldl (fun s e=>s|||2^e.on|||acc.getD e.on 0) 0])
def dN(bits:Nat):List Oper->Nat->List (AV K)->List (AV K)
 |[],_,tm=>tm
 |o::r,i,tm=>dN bits r (i+1) (match o.dst with
  |some d=>if bits.testBit i then tm else tm.set d .any
  |none=>tm)
def AY(i:Nat):Nat->List Nat->Nat
 |_,[]=>0
 |k,b::r=>(cond (b.testBit i) (2^k) 0)|||AY i (k+1) r
def eg(bs:List Nat)(i:Nat):Nat:=bs.getD i 0|||AY i 0 bs
def mo(cx:Cx K)(ops:List Oper)(bs:List Nat):List Oper->Nat->St K->List Nat->Option (St K×List Nat)
 |[],_,st,wr=>some (st,wr)
 |o::r,i,st,wr=>match ij true cx ops (dN (eg bs i) ops 0 st.tm) st.H wr o with
  |some (v,_,c)=>match vk st wr o.dst v st.H (c&&st.ok)with
   |some (st',wr')=>mo cx ops bs r (i+1) st' wr'
   |none=>none
  |none=>none
def jM:List Oper->Nat->Bool
 |[],_=>true
 |o::r,i=>(o.after.toList.all fun e=>decide (e.on<i)&&Region.binds .any e)&&jM r (i+1)
def ik(bits:Nat):Nat->List (Ob K)->List (Ob K)
 |_,[]=>[]
 |i,o::r=>(if bits.testBit i then .dead else o)::ik bits (i+1) r
def ki(bits:Nat):Nat->List (Ob K)->List (Ob K)->List (Ob K)
 |i,o::r,o'::r'=>(if bits.testBit i then o else o')::ki bits (i+1) r r'
 |_,[],r'=>r'
 |_,_::_,[]=>[]
mutual
def AV.upto(n:Nat):AV K->Bool
 |.ptr h _|.sl h|.ep h _ _ _|.np h|.vw h _ _ _=>decide (h<n)
 |.fn _ l|.agg l|.aX l=>o8 n l
 |.opt _ _ v=>v.upto n
 |_=>true
def o8(n:Nat):List (AV K)->Bool
 |[]=>true
 |v::r=>v.upto n&&o8 n r
end
def Ob.upto(n:Nat):Ob K->Bool
 |.box cs=>o8 n cs
 |.opn _ _ _ _ cs=>o8 n cs
 |_=>true
def jb(ev:Operand->AV K)(op:Op):List Nat:=
 kU ev op++(match op with
  |.store _ p _=>hands (ev p)
  |.call {callee:=.builtin .append,args, ..}=>(match args.toList with
    |s::x::_=>hands (ev s)++hands (ev x)
    |[s]=>hands (ev s)
    |[]=>[])
  |.call {callee:=.builtin .clear,args, ..}=>(match args.toList with
    |s::_=>hands (ev s)
    |[]=>[])
  |.call {callee:=.builtin .copy,args, ..}=>(match args.toList with
    |s::_=>hands (ev s)
    |[]=>[])
  |_=>[])
def sL(cx:Cx K):Op->Bool
 |.box .. |.alloc _|.build .. |.store .. |.makeSlice .. |.buildSlice .. |.convert .. |.slice ..=>true
 |.call {callee:=.builtin .append, ..}=>true
 |.call {callee:=.value (.func f), ..}=>(cx.mode f== .fresh||(cx.mode f== .pass||cx.mode f== .cX))&&(!cx.opn||cx.lz)
 |.load ..=>cx.opn&&cx.lz
 |_=>false
def Ld(ev:Operand->AV K):Op->List Nat
 |.call {callee:=.value _,args, ..}=>bu (args.toList.map ev)
 |_=>[]
def yE(cx:Cx K)(H:List (Ob K))(ev:Operand->AV K):Op->List Nat
 |.call {callee:=.value (.func f),args, ..}=>(match cx.mode f with
   |.pass=>reach H 64 (bu (args.toList.map fun y=>dD H (ev y))) []
   |.cX=>bu (args.toList.map fun y=>dD H (ev y))++reach (iD H (bu (args.toList.map fun y=>dD H (ev y)))) 64 (bu (oY (iD H (bu (args.toList.map fun y=>dD H (ev y)))) (args.toList.map fun y=>dD H (ev y)))) []
   |_=>[])
 |_=>[]
def bitsOf:List Nat->Nat
 |[]=>0
 |h::r=>2^h|||bitsOf r
def yF(cx:Cx K)(ops:List Oper)(tm:List (AV K))(H:List (Ob K))(wr:List Nat)(o:Oper):Option (AV K×List (Ob K)×Bool):=
 if nj cx o.op then ij true cx ops tm H wr o else if sL cx o.op then ij false cx ops tm H wr o else none
def o9(cx:Cx K)(tm:List (AV K))(H:List (Ob K))(op:Op):List Nat:=if nj cx op then[]else match op with
 |.load t p=>(match vi cx (fun x=>dD H (c9 tm [] x)) H (.load t p)with
   |some _=>[]
   |none=>hands (c9 tm [] p))
 |op=>(jb (c9 tm []) op++Ld (c9 tm []) op)++yE cx H (c9 tm []) op
def yG(A:Nat):Nat->List Nat->Nat
 |_,[]=>0
 |k,b::r=>(if A.testBit k then 0 else b)|||yG A (k+1) r
def FC(A:Nat)(T:List Nat):Nat->List (Nat×Nat)->Bool
 |_,[]=>true
 |i,(m,n)::r=>(A.testBit i||T.all fun h=>decide (n<=h)||m.testBit h)&&FC A T (i+1) r
def aln:Op->Option (List Operand)
 |.slice _ x _ _ _=>some [x]
 |.move _=>some []
 |.load _ p=>some [p]
 |.fieldAddr ..=>some []
 |.indexAddr _ x _=>some [x]
 |.nilCheck _=>some []
 |.store _ p x=>some [p,x]
 |.binOp ..=>some []
 |.unOp ..=>some []
 |_=>none
def Yr(tm:List (AV K))(n:Nat)(op:Op):Nat:=
 match aln op with
 |none=>0
 |some l=>bitsOf ((List.range n).filter fun h=> !(bu (l.map (c9 tm []))).contains h)
def qD(bs ws:List Nat)(i:Nat)(tm:List (AV K))(n:Nat)(op:Op):Nat:=yG (bs.getD i 0) 0 ws|||Yr tm n op
def qE(cx:Cx K)(ops:List Oper)(bs:List Nat):List Oper->Nat->St K->List Nat->List (Nat×Nat)->List Nat->Option (St K×List Nat)
 |[],_,st,wr,_,_=>some (st,wr)
 |o::r,i,st,wr,ms,ws=>
  if o8 st.H.length (dN (eg bs i) ops 0 st.tm)&&(ik (qD bs ws i (dN (eg bs i) ops 0 st.tm) st.H.length o.op) 0 st.H).all (Ob.upto st.H.length)then
   match yF cx ops (dN (eg bs i) ops 0 st.tm) (ik (qD bs ws i (dN (eg bs i) ops 0 st.tm) st.H.length o.op) 0 st.H) wr o with
   |none=>none
   |some (v,H',c)=>
    if(FC (bs.getD i 0) (o9 cx (dN (eg bs i) ops 0 st.tm) (ik (qD bs ws i (dN (eg bs i) ops 0 st.tm) st.H.length o.op) 0 st.H) o.op) 0 ms&&(o9 cx (dN (eg bs i) ops 0 st.tm) (ik (qD bs ws i (dN (eg bs i) ops 0 st.tm) st.H.length o.op) 0 st.H) o.op).all fun h=> !(qD bs ws i (dN (eg bs i) ops 0 st.tm) st.H.length o.op).testBit h&&decide (h<st.H.length))&&decide (st.H.length<=H'.length)then
     match vk st wr o.dst v (ki (qD bs ws i (dN (eg bs i) ops 0 st.tm) st.H.length o.op) 0 st.H H') (c&&st.ok)with
     |some (st',wr')=>qE cx ops bs r (i+1) st' wr' (ms++[(qD bs ws i (dN (eg bs i) ops 0 st.tm) st.H.length o.op,st.H.length)])
       (ws++[bitsOf (o9 cx (dN (eg bs i) ops 0 st.tm) (ik (qD bs ws i (dN (eg bs i) ops 0 st.tm) st.H.length o.op) 0 st.H) o.op++List.range' st.H.length (H'.length-st.H.length))])
     |none=>none
    else none
  else none
def pd(cx:Cx K)(ops:List Oper)(st:St K):Option (St K):=
 if(ops.all fun o=>nj cx o.op)&&jM ops 0 then match mo cx ops (gY ops []) ops 0 st []with
     |some (st',wr)=>some ⟨ja st'.tm wr,st'.H,st'.ok⟩
     |none=>none
  else if jM ops 0 then match qE cx ops (gY ops []) ops 0 st [] [] []with
   |some (st',wr)=>some ⟨ja st'.tm wr,st'.H,st'.ok⟩
   |none=>none
  else none
def AZ(π:List Nat)(n:Nat):Bool:=decide (π.length=n)&&(π.all (fun i=>decide (i<n))&&((List.range n).all (fun i=>π.contains i)&&kf π))
def vl(π:List Nat)(n:Nat)(o:Oper):Oper:=
 {o with after:=(o.after.filter (Region.binds .any)).map (fun e=>{e with on:=(π.idxOf? e.on).getD n}),guard:=o.guard.map fun g=>((π.idxOf? g.1).getD n,g.2)}
def permuted(π:List Nat)(ops:List Oper):List Oper:=π.map fun i=>match ops[i]? with
 |some o=>vl π ops.length o
 |none=>{dst:=none,op:=.move (.const .nilIface),type:=0,pos:= "",after:= #[],guard:=none}
def Ys(cx:Cx K)(ops:List Oper)(bs:List Nat):List Nat:=
 match(List.range ops.length).foldl (fun acc i=>match ops[i]? with
  |some o=>if sL cx o.op&&(!nj cx o.op&& !acc.contains i)then acc++((List.range ops.length).filter fun j=>(bs.getD i 0).testBit j&& !acc.contains j)++[i]else acc
  |none=>acc) []with
 |acc=>acc++(List.range ops.length).filter fun j=> !acc.contains j
def A0(cx:Cx K)(ops:List Oper)(π:List Nat)(st:St K):Option (St K):=
 if AZ π ops.length then pd cx (permuted π ops) st else none
def Le(cx:Cx K)(ops:List Oper)(st:St K):Option (St K):=
 if jM ops 0 then match pd cx ops st with
  |some r=>some r
  |none=>A0 cx ops (Ys cx ops (gY ops [])) st
 else match A0 cx ops (List.range ops.length) st with
  |some r=>some r
  |none=>A0 cx ops (Ys cx ops (gY (permuted (List.range ops.length) ops) [])) st
def lQ(cx:Cx K)(ops:List Oper)(draw:Bool)(st:St K):Option (St K):=
 if draw then Le cx ops st
 else match kW cx ops ops st []with
  |some (st',wr)=>some ⟨ja st'.tm wr,st'.H,st'.ok⟩
  |none=>none
def writes:Code->List Nat
 |.region _ ops _=>ops.toList.filterMap (·.dst)
 |.seq a b=>writes a++writes b
 |.cond _ a b=>writes a++writes b
 |.block _ c=>writes c
 |.loop c=>writes c
 |.scope c=>writes c
 |.rangeFunc _ ps a c=>ps.toList++writes a++writes c
 |_=>[]
def simple(cx:Cx K):Code->Bool
 |.skip=>true
 |.region _ ops _=>ops.toList.all fun o=>iE cx o.op
 |.seq a b=>simple cx a&&simple cx b
 |.cond _ a b=>simple cx a&&simple cx b
 |_=>false
def jc(b:Bool)(wr:List Nat):Nat->List (AV K)->List (AV K)->List (AV K)->List (AV K)
 |n,v::r,x::s,y::t=>(if wr.contains n then merge b x y else v)::jc b wr (n+1) r s t
 |_,_,_,_=>[]
def dE(tm:List (AV K)):List Nat->List (AV K)->List (AV K)
 |d::r,v::s=>dE (tm.set d v) r s
 |_,_=>tm
def keyOf:Code->Nat
 |.region id _ _=>id
 |.seq a _=>keyOf a
 |.cond _ a _=>keyOf a
 |.block _ c=>keyOf c
 |.loop c=>keyOf c
 |_=>0
def inLoop(H:List (Ob K))(vals:List (AV K)):Option (List Nat×List (AV K)×List (Ob K)):=
 if u5 H (reach H 64 (bu vals) [])then match Yq (reach H 64 (bu vals) []) vals,ml (E4 (reach H 64 (bu vals) [])) ((reach H 64 (bu vals) []).map fun h=>H.getD h .dead)with
  |some kj,some Hi=>some (reach H 64 (bu vals) [],kj,Hi)
  |_,_=>none
 else none
def fU(m:List Nat)(n k:Nat):List Nat:=m++(List.range (k-m.length)).map (n+·)
def FD(L:bJ K)(m:List Nat)(st:St K)(vs:List (AV K))(Ho:List (Ob K)):Option (St K):=
 match alk (fU m st.H.length Ho.length) vs,ml (u6 (fU m st.H.length Ho.length)) Ho with
 |some vs',some gB=>if m.length<=Ho.length then some ⟨dE (List.replicate L.n .any) L.outs vs',i7 st.H m (gB.take m.length)++gB.drop m.length,st.ok⟩else none
 |_,_=>none
def alo(ops:List Oper):List Nat:=(ops.filterMap fun o=>match guardOf ops o with
 |some (some (g,_))=>some g
 |_=>none).eraseDups
def A4(cx:Cx K)(ops:List Oper)(draw:Bool)(st:St K):List Nat->Option (Bool×St K×St K)
 |[]=>none
 |t::r=>match lQ {cx with gs:=some (t,true)} ops draw st,lQ {cx with gs:=some (t,false)} ops draw st with
  |some s1,some s2=>match s1.tm.getD t .any with
   |.bool b=>some (b,s1,s2)
   |_=>A4 cx ops draw st r
  |_,_=>A4 cx ops draw st r
def yH:Ex->St K->Option (St K)
 |.normal,st=>some st
 |_,_=>none
def fw(cx:Cx K):Code->{R:Type}->St K->(Ex->St K->Option R)->Option R
 |.skip,_,st,k=>k .normal st
 |.region _ ops draw,_,st,k=>match lQ cx ops.toList draw st with
   |some st'=>k .normal st'
   |none=>match A4 cx ops.toList draw st (alo ops.toList)with
    |some (b,s1,s2)=>cond b (k .normal s1) (k .normal s2)
    |none=>if(ops.toList.all fun o=>iE cx o.op)=true then none else match lQ {cx with call:=cx.alt true,mode:=cx.Fv true} ops.toList draw st,lQ {cx with call:=cx.alt false,mode:=cx.Fv false} ops.toList draw st with
     |some s1,some s2=>cx.E5 (k .normal s1) (k .normal s2)
     |_,_=>none
 |.seq a b,_,st,k=>fw cx a st fun e s=>match e with
   |.normal=>fw cx b s k
   |e=>k e s
 |.cond c a b,_,st,k=>match c9 st.tm [] c with
   |.bool t=>if simple cx a&&simple cx b then
       match fw cx a st yH,fw cx b st yH with
       |some sa,some sb=>k .normal ⟨jc t (writes a++writes b) 0 st.tm sa.tm sb.tm,st.H,(sa.ok|| !t)&&(sb.ok||t)⟩
       |_,_=>none
     else cond t (fw cx a st k) (fw cx b st k)
   |_=>none
 |.block id c,_,st,k=>fw cx c st fun e s=>match e with
   |.exit i=>if i=id then k .normal s else k (.exit i) s
   |e=>k e s
 |.loop c,_,st,k=>match cx.loop (keyOf c)with
   |some L=>if st.tm.length=L.n then match inLoop st.H (L.ins.map fun t=>st.tm.getD t .any)with
     |some (m,vals,Hi)=>L.run vals Hi fun e vs Ho=>match FD L m st vs Ho with
      |some st'=>k e st'
      |none=>none
     |none=>none else none
   |none=>none
 |.exit id,_,st,k=>k (.exit id) st
 |.ret,_,st,k=>k .ret st
 |_,_,_,_=>none
def sM(cx:Cx K)(st:St K):List ResultVar->Option (List (AV K))
 |[]=>some []
 |.tmp t::r=>match sM cx st r with
   |some l=>some (st.tm.getD t .any::l)
   |none=>none
 |.cell a t::r=>match FA cx.P cx.D st.H t (st.tm.getD a .any),sM cx st r with
   |some v,some l=>some (v::l)
   |_,_=>none
def resV(cx:Cx K)(fn:Func)(st:St K):Option (AV K):=
 match sM cx st fn.results.toList with
 |some [v]=>some (dD st.H v)
 |some l=>some (.aX (oY st.H l))
 |none=>none
def vm{α β:Type}(f:α->Option β):List α->Option (List β)
 |[]=>some []
 |x::r=>match f x,vm f r with
  |some y,some l=>some (y::l)
  |_,_=>none
def sN(src:List (Option Nat))(h:Nat):Option Nat:=src.idxOf? (some h)
def sO(n0 n:Nat):Nat->List (Option Nat)->Bool
 |_,[]=>true
 |i,none::r=>decide (i<n0)&&sO n0 n (i+1) r
 |i,some h::r=>decide (h<n)&&((decide (n0<=i)||decide (h=i))&&(!r.contains (some h)&&sO n0 n (i+1) r))
def vn(src:List (Option Nat))(H:List (Ob K)):Option Nat->Option (Ob K)
 |none=>some .dead
 |some h=>match H[h]? with
  |some o=>ke (sN src) o
  |none=>none
def qF(n0:Nat)(src:List (Option Nat))(keep:List Nat)(st:St K):Option (St K):=
 if sO n0 st.H.length 0 src&&decide (n0<=src.length)then
  match i6 (sN src) (keep.map fun t=>st.tm.getD t .any),vm (vn src st.H) src with
  |some vs,some H=>some ⟨dE (List.replicate st.tm.length .any) keep vs,H,st.ok⟩
  |_,_=>none
 else none
def vo(n0:Nat)(keep:List Nat)(st:St K):Option (St K):=
 qF n0 ((reach st.H 64 (List.range n0++bu (keep.map fun t=>st.tm.getD t .any)) []).map some) keep st
def sP(cx:Cx K)(s:St K):Option (Bool×St K):=match La s.H with
 |none=>some (true,s)
 |some _=>match shut cx.D s.H with
  |some (H',b,_)=>some (b,⟨s.tm,H',s.ok⟩)
  |none=>none
def FG(cx:Cx K)(n0:Nat)(keep outs:List Nat)(body:Code)(st:St K):Option (St K⊕Ex×St K):=
 fw cx body st fun e s=>cond s.ok (match e with
  |.normal=>match sP cx s with
    |some (b,s1)=>cond b (match vo n0 keep s1 with
     |some s'=>some (.inl s')
     |none=>none) none
    |none=>none
  |e=>match sP cx s with
   |some (b,s1)=>cond b (match vo n0 outs s1 with
    |some s'=>some (.inr (e,s'))
    |none=>none) none
   |none=>none) none
def Lh(n0:Nat)(src:List (Option Nat))(v:AV K)(H:List (Ob K)):Option (AV K×List (Ob K)):=
 if sO n0 H.length 0 src&&decide (n0<=src.length)then
  match eE (sN src) v,vm (vn src H) src with
  |some v',some H'=>some (v',H')
  |_,_=>none
 else none
def pack(n0:Nat)(v:AV K)(H:List (Ob K)):Option (AV K×List (Ob K)):=
 Lh n0 ((reach H 64 (List.range n0++hands v) []).map some) v H
def Lj(H:List (Ob K))(h:Nat):Bool:=match H[h]? with
 |some (.arr ..)=>false
 |some (.fJ ..)=>false
 |some (.tree ..)=>false
 |_=>true
def alp(n0:Nat)(v:AV K)(H:List (Ob K)):List (Option Nat):=
 ((List.range n0).map fun h=>cond (Lj H h) (some h) none)++((reach H 64 ((List.range n0).filter (Lj H)++hands v) []).filter fun h=> !(decide (h<n0)&&Lj H h)).map some
def FH(mv:Bool)(n0:Nat)(v:AV K)(H:List (Ob K)):Option (AV K×List (Ob K)):=
 Lh n0 (cond mv (alp n0 v H) ((reach H 64 (List.range n0++hands v) []).map some)) v H
def alq(cx:Cx K)(fn:Func)(n0:Nat)(e:Ex)(st:St K):Option (AV K×List (Ob K)):=
 match e with
 |.exit _=>none
 |_=>match resV cx fn st with
  |some v=>cond st.ok (pack n0 v st.H) none
  |none=>none
def anL(cx:Cx K)(fn:Func)(args:List (AV K))(H:List (Ob K)):Option (AV K×List (Ob K)):=
 match fn.body with
 |some c=>fw cx c ⟨args++List.replicate (fn.ntmps-args.length) .any,H,true⟩ (alq cx fn H.length)
 |none=>none
end Go.V
