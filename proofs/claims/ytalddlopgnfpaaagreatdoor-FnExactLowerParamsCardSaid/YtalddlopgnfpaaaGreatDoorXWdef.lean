/-
  A VALUE-LEVEL READING OF THE LOADED CODE: abstract values, objects, operations, and a function 'execC' that runs a body on them. Nothing here speaks of one program: the program is a parameter. The proofs that what it yields is what the machine does are in the texts that follow.
-/
import Derived.WalkKit
import Derived.KernelRfl
import Derived.Orders
universe u v
abbrev ar := @Option.some.injEq
abbrev bo := @List.getElem?_eq_some_iff
theorem aU{α:Type u}{a:α}:(some a).isSome=true:=rfl
theorem aQ{α:Type u}{a b:α}:(some a).getD b=a:=rfl
abbrev aH := @Prod.mk.injEq
abbrev aO := @Bool.and_true
abbrev aZ := @Bool.and_eq_true
abbrev bZ := @List.getElem?_eq_getElem
abbrev bh := @decide_eq_true_eq
abbrev aY := @decide_eq_true
theorem aA{α:Sort u}(a b:α):(bif true then a else b)=a:=rfl
abbrev bn := @List.getElem_mem
abbrev an := @if_neg
abbrev cH := @List.getElem?_append_left
theorem bL(n:Nat):(n:Int).toNat=n:=rfl
abbrev cM := @List.getElem?_append_right
theorem aT{α:Sort u}(a b:α):(bif false then a else b)=b:=rfl
abbrev bU := @decide_eq_false
abbrev av := @if_pos
theorem bX{α:Type u}{a:α}{as:List α}:(a::as).length=as.length+1:=rfl
abbrev bM := @Bool.true_and
abbrev bg := @Nat.le_refl
abbrev cI := @List.length_append
abbrev cP := @List.getElem?_take
abbrev dt := @Nat.mul_le_mul_right
abbrev dS := @Option.map_eq_some_iff
abbrev cn := @decide_true
abbrev cD := @Bool.true_or
abbrev g9 := @List.getD_eq_getElem?_getD
abbrev cJ := @Int.ofNat_lt
theorem dn{α:Type u}:([]:List α).length=0:=rfl
abbrev ek := @List.mem_cons_self
abbrev iZ := @List.eq_nil_of_length_eq_zero
abbrev cO := @Nat.lt_or_ge
abbrev eI := @List.getElem?_drop
abbrev dM := @List.mem_append
abbrev iH := @Array.getElem?_eq_some_iff
abbrev fL := @List.mem_cons_of_mem
abbrev il := @List.getElem?_replicate
abbrev gw := @List.length_replicate
abbrev cR := @Nat.add_mul
abbrev cU := @Nat.zero_le
abbrev en := @Nat.not_lt_zero
abbrev eP := @List.all_eq_true
abbrev hQ := @List.mem_of_getElem?
abbrev dD := @Nat.zero_add
abbrev ej := @List.drop_zero
abbrev dY := @List.mem_cons
abbrev ft := @Option.some.inj
abbrev gq := @List.getElem?_map
abbrev gC := @List.getElem?_set
abbrev gK := @decide_eq_decide
abbrev iv := @Bool.not_eq_true'
abbrev hC := @List.drop_length
abbrev fm := @List.map_cons
abbrev iI := @List.append_assoc
abbrev eS := @Nat.le_trans
abbrev nc := @Array.getD_eq_getD_getElem?
abbrev lE := @decide_eq_false_iff_not
abbrev jq := @Nat.eq_zero_or_pos
abbrev fF := @Bool.and_self
abbrev lM := @List.drop_of_length_le
abbrev pg := @Array.getElem?_setIfInBounds
abbrev eJ := @Nat.one_mul
abbrev i3 := @List.length_take
abbrev ki := @Bool.false_eq_true
abbrev gz := @Bool.not_true
abbrev kK := @beq_eq_false_iff_ne
abbrev i5 := @Bool.or_eq_true
abbrev gX := @Nat.add_assoc
abbrev mW := @Int.eq_ofNat_of_zero_le
abbrev kH := @Nat.lt_of_lt_of_le
abbrev m3 := @List.getElem?_eq_none
abbrev ip := @Bool.or_self
abbrev lH := @beq_self_eq_true
theorem jF{α:Type u}(as:List α):[]++as=as:=rfl
abbrev oQ := @List.getElem_of_mem
abbrev mZ := @List.ext_getElem?
abbrev fa := @if_false
abbrev mb := @List.append_nil
abbrev mg := @List.length_set
abbrev oG := @List.size_toArray
abbrev kN := @Bool.or_true
abbrev ve := @List.take_of_length_le
abbrev uY := @Array.getElem?_eq_none
abbrev yF := @Array.getElem?_eq_getElem
abbrev A7 := @List.take_append_of_le_length
abbrev u3 := @Array.replicate_succ
abbrev m8 := @Bool.or_false
abbrev gW := @congrArg
abbrev oP := @Bool.false_and
abbrev u5 := @List.append_toArray
abbrev fQ := @if_true
abbrev sG := @Nat.lt_succ_self
abbrev kO := @beq_iff_eq
abbrev vq := @List.mem_singleton
abbrev mU := @List.mem_map
abbrev vv := @Bool.false_ne_true
abbrev mX := @Nat.zero_mul
abbrev mj := @Nat.mul_one
abbrev qy := @Bool.not_false
abbrev Bg := @List.pairwise_iff_getElem
abbrev yL := @List.contains_eq_mem
abbrev sV := @Bool.eq_iff_iff
abbrev u4 := @List.push_toArray
abbrev oR := @Nat.sub_self
abbrev vf := @List.take_length
abbrev vn := @Bool.not_eq_true
abbrev Bj := @Nat.eq_of_beq_eq_true
theorem lG{α:Type u}{β:Type v}(a:α)(f:α->β):Option.map f (some a)=some (f a):=rfl
abbrev sN := @Bool.false_or
abbrev u7 := @List.drop_drop
abbrev kG := @or_false
abbrev oK := @bne_iff_ne
abbrev oY := @decide_not
abbrev Ge := @Array.getElem?_replicate
abbrev yt := @List.mem_range
abbrev zd := @Nat.testBit_or
abbrev u6 := @Nat.add_comm
abbrev vo := @decide_false
abbrev vp := @Nat.mul_comm
abbrev vx := @getElem!_pos
abbrev FI := @Bool.or_eq_false_iff
abbrev Bl := @List.nodup_cons
abbrev E4 := @Bool.eq_false_iff
abbrev Kz := @List.not_all_eq_any_not
abbrev pj := @Ne.symm
abbrev qm := @Iff.rfl
theorem sC{α:Type u}{a:α}{as bs:List α}:(a::as)++bs=a::(as++bs):=rfl
abbrev KB := @List.take_add_one
abbrev JD := @of_decide_eq_true
abbrev JL := @List.not_mem_nil
abbrev KX := @List.length_map
abbrev qD := @not_or
namespace Go.V
open Go
structure cE where
 U:Type
 El:U->Type
 ju:DecidableEq U
 sz:U->Nat
 zero:(c:U)->El c
inductive AV (K:cE) where
 |any
 |int (k:IntKind) (n:Int)
 |bool (b:Bool)
 |str (s:List UInt8)
 |cL
 |cB
 |fn (f:Nat) (caps:List (AV K))
 |ptr (h off:Nat)
 |sl (h:Nat)
 |ep (h st i off:Nat)
 |aj (c:K.U) (l:List (K.El c))
 |rp (c:K.U) (x:K.El c) (off:Nat)
 |agg (l:List (AV K))
 |aV (l:List (AV K))
 |opt (g:Nat) (want:Bool) (v:AV K)
 |np (h:Nat)
 |vw (h st lo hi:Nat)
inductive Ob (K:cE) where
 |dead
 |box (cells:List (AV K))
 |arr (c:K.U) (l:List (K.El c))
 |fR (c:K.U) (l:List (K.El c))
 |tree (c:K.U) (l:List (K.El c))
 |opn (c:K.U) (l:List (K.El c)) (i off:Nat) (cs:List (AV K))
structure Base where
 inv:(Nat->Prop)->World->Prop
 mono:∀{S S':Nat->Prop}{w w':World},(∀b,S b->S' b)->(∀b,S b->w'.heap[b]?=w.heap[b]?)->inv S w->inv S' w'
def Base.Zx:Base:=⟨fun _ _=>True,fun _ _ h=>h⟩
structure bc (K:cE) where
 cells:(c:K.U)->K.El c->List (AV K)
 dec:(c:K.U)->List (AV K)->Option (K.El c×Bool)
 byte:(c:K.U)->Option ((K.El c->UInt8)×(UInt8->K.El c))
 find:List (AV K)->Option K.U
 base:Base:=Base.Zx
 qI:Option TypeId:=none
 mq:K.U->Option TypeId:=fun _=>none
variable {K :cE}
def AV.bm:AV K->List (AV K)
 |.agg l=>l
 |v=>[v]
def AV.known:AV K->Bool
 |.any|.opt ..=>false
 |_=>true
def AV.jh:AV K->Bool
 |.opt ..=>true
 |_=>false
def AV.one:AV K->Bool
 |.any|.opt .. |.agg _|.aV _|.vw ..=>false
 |_=>true
structure St (K:cE) where
 tm:List (AV K)
 H:List (Ob K)
 ok:Bool
inductive Ex where
 |normal
 |exit (id:Nat)
 |ret
def Ex.nk:Ex->Exit
 |.normal=>.normal
 |.exit id=>.exit id
 |.ret=>.ret
structure bA (K:cE) where
 n:Nat
 ins:List Nat
 outs:List Nat
 run:{R:Type}->List (AV K)->List (Ob K)->(Ex->List (AV K)->List (Ob K)->Option R)->Option R
inductive Mode where
 |plain|iF|dA|pass|cT|fresh
 deriving DecidableEq
def sy{R:Type}(a b:Option R):Option R:=match a with
 |none=>b
 |some r=>some r
theorem ZU{R:Type}{a b:Option R}{r:R}(h:sy a b=some r):a=some r\/b=some r:=by
 cases a with
 |none=>exact .inr h
 |some x=>exact .inl h
structure Cx (K:cE) where
 P:Program
 D:bc K
 ty:TypeId->Option K.U
 call:FuncId->List (AV K)->List (Ob K)->Option (AV K×List (Ob K)×Bool)
 mode:FuncId->Mode
 loop:Nat->Option (bA K)
 lY:TypeId->List (Option K.U)
 cut:Bool:=false
 fq:List (List (Option K.U)):=[]
 ZV:List Bool:=[]
 mv:Bool:=false
 deep:K.U->Bool:=fun _=>false
 opn:Bool:=false
 IK:Bool:=false
 vtl:Bool:=false
 lz:Bool:=false
 alt:Bool->FuncId->List (AV K)->List (Ob K)->Option (AV K×List (Ob K)×Bool):=fun _ _ _ _=>none
 qP:Bool->FuncId->Mode:=fun _=>mode
 yM:{R:Type}->Option R->Option R->Option R:=fun a b=>sy a b
 gs:List (Nat×Bool):=[]
def known(cx:Cx K)(g:Nat):Option Bool:=(cx.gs.find? fun p=>p.1==g).map (·.2)
mutual
def lO:Value->Option (AV K)
 |.bool b=>some (.bool b)
 |.int k n=>some (.int k n)
 |.string s=>some (.str s.data.toList)
 |.pointer none=>some .cL
 |.slice none 0 0=>some .cB
 |.agg cs=>(BC cs.toList).map .agg
 |_=>none
def BC:List Value->Option (List (AV K))
 |[]=>some []
 |v::r=>match lO v,BC r with
  |some x,some l=>some (x::l)
  |_,_=>none
end
def covers(tm:List (AV K)):Nat->Nat×Bool->Nat×Bool->Bool
 |0,g,t=>g.1==t.1&&g.2==t.2
 |n+1,g,t=>(g.1==t.1&&g.2==t.2)||(match tm[g.1]? with
  |some (.opt g1 w1 _)=>covers tm n (g1,w1) t
  |_=>false)
def da(tm:List (AV K))(gs:List (Nat×Bool)):Operand->AV K
 |.tmp t=>match tm[t]? with
   |some (.opt g w v)=>if gs.any (fun p=>covers tm 6 p (g,w))then v else .any
   |some v=>v
   |none=>.any
 |.const v=>(lO v).getD .any
 |.global _=>.any
 |.func f=>.fn f []
def yG(tm:List (AV K)):Nat->Nat×Bool->Option Bool
 |0,_=>none
 |n+1,(g,w)=>match tm[g]? with
  |some (.bool b)=>some (b==w)
  |some (.opt g1 w1 (.bool b))=>(yG tm n (g1,w1)).map fun e=>e&&(b==w)
  |_=>none
mutual
def merge(b:Bool):AV K->AV K->AV K
 |.int k m,.int k' n=>if k=k' then .int k (cond b m n)else .any
 |.bool m,.bool n=>.bool (cond b m n)
 |.str m,.str n=>.str (cond b m n)
 |.aj c l,.aj c' l'=>match K.ju c c' with
   |.isTrue h=>.aj c' (cond b (h ▸ l) l')
   |.isFalse _=>.any
 |.agg l,.agg l'=>if l.length=l'.length then .agg (merges b l l')else .any
 |.cB,.cB=>.cB
 |.cL,.cL=>.cL
 |_,_=>.any
def merges(b:Bool):List (AV K)->List (AV K)->List (AV K)
 |x::r,y::s=>merge b x y::merges b r s
 |_,_=>[]
end
def dX(op:BinOp)(k:IntKind)(x y:Int):Int:=
 let a:=BitVec.ofInt k.bits x
 let b:=BitVec.ofInt k.bits y
 k.wrap ((match op with
   |.and=>(a&&& b)|.or=>(a|||b)|.xor=>(a^^^b)|_=>(a&&& ~~~b)).toNat)
def lv(k:IntKind)(x y:Int):Int:=k.wrap (x*2^(min y.toNat k.bits))
def gi(k:IntKind)(x y:Int):Int:=x.fdiv (2^(min y.toNat k.bits))
def eE(a b:List UInt8):Bool:=decide (a.length+b.length<=4611686018427387904)
def BD(a b:List UInt8):Bool:=Op.bytesLess a b
def Me(op:BinOp)(k:IntKind)(a b:Int):Option (AV K×Bool):=
 match op with
 |.add=>some (.int k (k.wrap (a+b)),true)
 |.sub=>some (.int k (k.wrap (a-b)),true)
 |.mul=>some (.int k (k.wrap (a*b)),true)
 |.quo=>some (.int k (k.wrap (a.tdiv b)),b !=0)
 |.rem=>some (.int k (a.tmod b),b !=0)
 |.and|.or|.xor|.andNot=>some (.int k (dX op k a b),true)
 |.eql=>some (.bool (a==b),true)
 |.neq=>some (.bool (a !=b),true)
 |.lss=>some (.bool (decide (a<b)),true)
 |.leq=>some (.bool (decide (a<=b)),true)
 |.gtr=>some (.bool (decide (b<a)),true)
 |.geq=>some (.bool (decide (b<=a)),true)
 |.shl|.shr=>none
def MA(op:BinOp)(a b:List UInt8):Option (AV K×Bool):=
 match op with
 |.add=>some (.str (a++b),eE a b)
 |.eql=>some (.bool (a==b),true)
 |.neq=>some (.bool (!(a==b)),true)
 |.lss=>some (.bool (BD a b),true)
 |.leq=>some (.bool (BD a b||a==b),true)
 |.gtr=>some (.bool (!(BD a b||a==b)),true)
 |.geq=>some (.bool (!BD a b),true)
 |_=>none
def ZW(P:Program)(t:TypeId):Bool:=P.underlying t matches some .string
def MB(P:Program)(t:TypeId):Bool:=P.underlying t matches some .bool
def MC(op:UnOp):AV K->Option (AV K×Bool)
 |.bool b=>match op with
   |.not=>some (.bool (!b),true)
   |_=>none
 |.int k n=>match op with
   |.neg=>some (.int k (k.wrap (0-n)),true)
   |.xor=>some (.int k (dX .xor k (if k.signed then -1 else k.max) n),true)
   |_=>none
 |_=>none
def cN(P:Program)(t:TypeId):Option Nat:=(P.info? t).map (·.size)
def Gf(P:Program)(t:TypeId):Option Bool:=
 match P.underlying t with
 |some (.struct _)|some (.array _ _)=>some true
 |some _=>some false
 |none=>none
def ZX(P:Program)(t:TypeId)(f:Nat):Option Field:=
 match P.underlying t with
 |some (.struct fs)=>fs[f]?
 |_=>none
def elemOf?(P:Program)(t:TypeId):Option TypeId:=
 match P.underlying t with
 |some (.slice e)=>some e
 |_=>none
def zeroOf(P:Program)(t:TypeId):Option (AV K):=
 match P.info? t with
 |some i=>match i.zero with
  |some v=>lO v
  |none=>none
 |none=>none
def y7(P:Program)(t:TypeId):Option IntKind:=
 match P.underlying t with
 |some (.int k)=>some k
 |_=>none
def lT(P:Program)(t:TypeId)(cs:List (AV K))(off:Nat):Option (AV K):=
 match Gf P t,cN P t with
 |some true,some n=>if off+n<=cs.length then some (.agg ((cs.drop off).take n))else none
 |some false,some _=>cs[off]?
 |_,_=>none
def BE(P:Program)(rec:TypeId->AV K->AV K->Option Bool)(xs ys:List (AV K)):List Field->Option Bool
 |[]=>some true
 |f::fs=>if f.name= "_" then none else
  match lT P f.type xs f.offset,lT P f.type ys f.offset with
  |some a,some b=>match rec f.type a b,BE P rec xs ys fs with
   |some p,some q=>some (p&&q)
   |_,_=>none
  |_,_=>none
def ze(P:Program):Nat->TypeId->AV K->AV K->Option Bool
 |0,_,_,_=>none
 |n+1,t,.int k a,.int k' b=>if k=k' then(match P.underlying t with
  |some (.int _)=>some (a==b)
  |_=>none)else none
 |n+1,t,.bool a,.bool b=>(match P.underlying t with
  |some .bool=>some (a==b)
  |_=>none)
 |n+1,t,.str a,.str b=>(match P.underlying t with
  |some .string=>some (a==b)
  |_=>none)
 |n+1,t,.agg xs,.agg ys=>(match P.underlying t with
  |some (.struct fs)=>if P.stoodInHeld t then none else BE P (ze P n) xs ys fs.toList
  |_=>none)
 |_+1,_,_,_=>none
def MD(P:Program)(t:TypeId):Bool:=P.underlying t matches some (.pointer _)
def zf(P:Program)(op:BinOp)(t:TypeId)(e:Bool):Option (AV K×Bool):=if MD P t then(match op with
 |.eql=>some (.bool e,true)
 |.neq=>some (.bool (!e),true)
 |_=>none)else none
def ME(P:Program)(op:BinOp)(t:TypeId):AV K->AV K->Option (AV K×Bool)
 |.int k a,.int k' b=>match op with
   |.shl=>some (.int k (lv k a b),decide (0<=b))
   |.shr=>some (.int k (gi k a b),decide (0<=b))
   |_=>if k=k' then Me op k a b else none
 |.bool a,.bool b=>if MB P t then(match op with
   |.eql=>some (.bool (a==b),true)
   |.neq=>some (.bool (!(a==b)),true)
   |_=>none)else none
 |.str a,.str b=>MA op a b
 |.agg a,.agg b=>match op with
   |.eql=>if P.eqGuardType P.depth t then none else(ze P 6 t (.agg a) (.agg b)).map fun e=>(.bool e,true)
   |.neq=>if P.eqGuardType P.depth t then none else(ze P 6 t (.agg a) (.agg b)).map fun e=>(.bool (!e),true)
   |_=>none
 |.cL,.cL=>zf P op t true
 |.ptr _ _,.cL=>zf P op t false
 |.rp _ _ _,.cL=>zf P op t false
 |.ep _ _ _ _,.cL=>zf P op t false
 |_,_=>none
def inB(n:Int)(len:Nat):Bool:=decide (0<=n)&&decide (n<len)
def bV(lo hi:Int)(len:Nat):Bool:=decide (0<=lo)&&(decide (lo<=hi)&&decide (hi<=len))
mutual
def AV.closed:AV K->Bool
 |.int .. |.bool _|.str _|.cL|.cB|.aj .. |.rp .. |.any=>true
 |.ptr .. |.sl _|.ep .. |.opt .. |.np _|.vw ..=>false
 |.fn _ l|.agg l|.aV l=>f0 l
def f0:List (AV K)->Bool
 |[]=>true
 |v::r=>v.closed&&f0 r
end
def vy(H:List (Ob K)):AV K->AV K
 |.sl h=>match H[h]? with
   |some (.arr c l)=>.aj c l
   |some (.fR c l)=>.aj c l
   |some (.tree c l)=>.aj c l
   |_=>.any
 |v=>v
mutual
def iF(D:bc K)(H:List (Ob K)):AV K->AV K
 |.sl h=>match H[h]? with
   |some (.arr c l)=>.aj c l
   |some (.fR c l)=>.aj c l
   |some (.tree c l)=>.aj c l
   |_=>.any
 |.ptr h off=>match H[h]? with
   |some (.box cs)=>match D.find (cs.map (vy H))with
    |some c=>match D.dec c (cs.map (vy H))with
     |some (x,true)=>.rp c x off
     |_=>.any
    |none=>.any
   |_=>.any
 |.vw h st lo hi=>match H[h]? with
   |some (.arr c l)=>if st=K.sz c then .aj c ((l.take hi).drop lo)else .any
   |some (.tree c l)=>if st=K.sz c then .aj c ((l.take hi).drop lo)else .any
   |_=>.any
 |.fn g l=>.fn g (lP D H l)
 |.agg l=>.agg (lP D H l)
 |.aV l=>.aV (lP D H l)
 |v=>v
def lP(D:bc K)(H:List (Ob K)):List (AV K)->List (AV K)
 |[]=>[]
 |v::r=>iF D H v::lP D H r
end
def elems(H:List (Ob K))(c:K.U):AV K->Option (List (K.El c))
 |.cB=>some []
 |.aj c' l=>match K.ju c' c with
   |.isTrue h=>some (h ▸ l)
   |.isFalse _=>none
 |.sl h=>match H[h]? with
   |some (.arr c' l)=>match K.ju c' c with
    |.isTrue h=>some (h ▸ l)
    |.isFalse _=>none
   |_=>none
 |_=>none
def setCells(cs:List (AV K))(off:Nat):List (AV K)->List (AV K)
 |[]=>cs
 |v::r=>setCells (cs.set off v) (off+1) r
mutual
def hands:AV K->List Nat
 |.ptr h _|.sl h|.ep h _ _ _|.np h|.vw h _ _ _=>[h]
 |.agg l|.aV l|.fn _ l=>bp l
 |_=>[]
def bp:List (AV K)->List Nat
 |[]=>[]
 |v::r=>hands v++bp r
end
def vK(H:List (Ob K))(h:Nat):List (Ob K):=
 match H[h]? with
 |some (.arr c l)=>H.set h (.fR c l)
 |some (.tree c l)=>H.set h (.fR c l)
 |_=>H
def iK(H:List (Ob K)):List Nat->List (Ob K)
 |[]=>H
 |h::r=>iK (vK H h) r
mutual
def dH(H:List (Ob K)):AV K->AV K
 |.sl h=>match H[h]? with
   |some (.fR c l)=>.aj c l
   |_=>.sl h
 |.vw h st lo hi=>match H[h]? with
   |some (.fR c l)=>if st=K.sz c then .aj c ((l.take hi).drop lo)else .vw h st lo hi
   |_=>.vw h st lo hi
 |.agg l=>.agg (pn H l)
 |.aV l=>.aV (pn H l)
 |v=>v
def pn(H:List (Ob K)):List (AV K)->List (AV K)
 |[]=>[]
 |v::r=>dH H v::pn H r
end
def thaw(dp:K.U->Bool)(H:List (Ob K)):List (Option K.U)->List (AV K)->List (AV K)×List (Ob K)
 |some c::cs,.cB::r=>match thaw dp (H++[cond (dp c) (.tree c []) (.arr c [])]) cs r with
  |(l,H')=>(.sl H.length::l,H')
 |_::cs,v::r=>match thaw dp H cs r with
  |(l,H')=>(v::l,H')
 |[],l=>(l,H)
 |_,[]=>([],H)
def eK(dp:K.U->Bool)(H:List (Ob K)):List (List (Option K.U))->List (AV K)->List (AV K)×List (Ob K)
 |cs::css,.agg l::r=>match thaw dp H cs l with
  |(l',H1)=>match eK dp H1 css r with
   |(s,H2)=>(.agg l'::s,H2)
 |cs::css,v::r=>match thaw dp H cs [v]with
  |(l',H1)=>match eK dp H1 css r with
   |(s,H2)=>(l'.headD v::s,H2)
 |[],l=>(l,H)
 |_,[]=>([],H)
def kU:List (AV K)->Bool
 |.np _::_=>true
 |_=>false
def BF(b:Bool)(h:Nat):List (AV K)->List (AV K)
 |.cL::r=>cond b (.np h) .cL::r
 |l=>l
mutual
def iy:AV K->Bool
 |.aj .. |.rp ..=>true
 |.agg l|.aV l|.fn _ l=>dy l
 |_=>false
def dy:List (AV K)->Bool
 |[]=>false
 |v::r=>iy v||dy r
end
def Gg(P:Program)(D:bc K)(H:List (Ob K))(t:TypeId):AV K->Option (AV K)
 |.ptr h off=>match H[h]? with
   |some (.box cs)=>lT P t cs off
   |_=>none
 |.rp c x off=>lT P t (D.cells c x) off
 |.ep h st i off=>match H[h]? with
   |some (.arr c l)=>if st=K.sz c then lT P t (D.cells c (l.getD i (K.zero c))) off else none
   |some (.tree c l)=>if st=K.sz c then(match lT P t (D.cells c (l.getD i (K.zero c))) off with
     |some v=>if iy v then none else some v
     |none=>none)else none
   |_=>none
 |_=>none
def MF(P:Program)(H:List (Ob K))(t:TypeId):AV K->Option (AV K×Bool)
 |.ep h st i off=>match H[h]? with
   |some (.opn c l i' off' cs)=>if st=K.sz c/\off'<=off then(match lT P t (List.replicate off' .any++cs) off with
    |some v=>some (v,decide (i=i'))
    |none=>none)else none
   |_=>none
 |_=>none
def MG(P:Program)(s:TypeId)(f:Nat)(x:AV K):Option (AV K):=
 match ZX P s f with
 |some fd=>match cN P fd.type with
  |some (_+1)=>match x with
   |.ptr h off=>some (.ptr h (off+fd.offset))
   |.rp c x off=>some (.rp c x (off+fd.offset))
   |.ep h st i off=>some (.ep h st i (off+fd.offset))
   |_=>none
  |_=>none
 |none=>none
def MH(P:Program)(H:List (Ob K))(t:TypeId)(x i:AV K):Option (AV K×Bool):=
 match elemOf? P t,i with
 |some e,.int _ n=>match x with
  |.aj c l=>if cN P e=some (K.sz c)then some (.rp c (l.getD n.toNat (K.zero c)) 0,inB n l.length)else none
  |.sl h=>match H[h]? with
    |some (.arr c l)=>if cN P e=some (K.sz c)then some (.ep h (K.sz c) n.toNat 0,inB n l.length)else none
    |some (.tree c l)=>if cN P e=some (K.sz c)then some (.ep h (K.sz c) n.toNat 0,inB n l.length)else none
    |_=>none
  |_=>none
 |_,_=>none
def jx(d:Int):Option (AV K)->Option Int
 |none=>some d
 |some (.int _ n)=>some n
 |some _=>none
def MI(P:Program)(t:TypeId)(x:AV K)(lo hi:Option (AV K)):Option (AV K×Bool):=
 match P.underlying t,x with
 |some .string,.str s=>match jx 0 lo,jx s.length hi with
  |some l,some h=>some (.str ((s.take h.toNat).drop l.toNat),bV l h s.length)
  |_,_=>none
 |some (.slice e),.aj c s=>if cN P e=some (K.sz c)then match jx 0 lo,jx s.length hi with
  |some l,some h=>some (.aj c ((s.take h.toNat).drop l.toNat),bV l h s.length)
  |_,_=>none else none
 |_,_=>none
def MJ(P:Program)(H:List (Ob K))(t:TypeId)(x:AV K)(lo hi:Option (AV K)):Option (AV K×Bool):=
 match elemOf? P t,x with
 |some e,.sl h=>match H[h]? with
  |some (.arr c l)=>if cN P e=some (K.sz c)then match jx 0 lo,jx l.length hi with
   |some a,some b=>some (.vw h (K.sz c) a.toNat b.toNat,bV a b l.length)
   |_,_=>none else none
  |some (.tree c l)=>if cN P e=some (K.sz c)then match jx 0 lo,jx l.length hi with
   |some a,some b=>some (.vw h (K.sz c) a.toNat b.toNat,bV a b l.length)
   |_,_=>none else none
  |_=>none
 |_,_=>none
def vL(cx:Cx K)(ev:Operand->AV K)(H:List (Ob K)):Op->Option (AV K×Bool)
 |.move x|.assign x=>some (ev x,true)
 |.binOp op t x y _=>ME cx.P op t (ev x) (ev y)
 |.unOp op _ x=>MC op (ev x)
 |.convert src dst x=>match cx.P.underlying src,cx.P.underlying dst,ev x with
   |some _,some (.int k),.int _ n=>some (.int k (k.wrap n),true)
   |some _,some .string,.str s=>some (.str s,true)
   |some (.slice e),some .string,x=>match cx.P.underlying e,cx.ty e with
    |some (.int .u8),some c=>match cx.D.byte c,elems H c x with
     |some (f,_),some l=>some (.str (l.map f),true)
     |_,_=>none
    |_,_=>none
   |_,_,_=>none
 |.extract t i=>match ev t with
   |.aV l=>(l[i]?).map fun v=>(v,true)
   |_=>none
 |.fieldAddr s x f=>(MG cx.P s f (ev x)).map fun v=>(v,true)
 |.load t p=>match Gg cx.P cx.D H t (ev p)with
   |some v=>some (v,true)
   |none=>MF cx.P H t (ev p)
 |.indexAddr t x i=>MH cx.P H t (ev x) (ev i)
 |.index t x i=>match cx.P.underlying t,ev x,ev i with
   |some .string,.str s,.int _ n=>some (.int .u8 ((s.getD n.toNat 0).toNat:Int),inB n s.length)
   |_,_,_=>none
 |.slice t x lo hi none=>match MI cx.P t (ev x) (lo.map ev) (hi.map ev)with
   |some r=>some r
   |none=>if cx.IK&&cond cx.vtl hi.isNone (hi.isSome|| !cx.cut)then MJ cx.P H t (ev x) (lo.map ev) (hi.map ev)else none
 |.nilCheck x=>match ev x with
   |.ptr h o=>some (.ptr h o,true)
   |.rp c x o=>some (.rp c x o,true)
   |.ep h s i o=>some (.ep h s i o,true)
   |_=>none
 |.makeFunc (.func f) first caps=>if first.isEmpty then some (.fn f (caps.toList.map ev),true)else none
 |.call {callee:=.builtin .len,args,argTypes}=>match args.toList,argTypes.toList with
   |[x],[t]=>match cx.P.underlying t,ev x with
     |some .string,.str s=>some (.int .i64 (s.length:Int),true)
     |some (.slice _),.cB=>some (.int .i64 0,true)
     |some (.slice _),.aj _ l=>some (.int .i64 (l.length:Int),true)
     |some (.slice _),.vw _ _ a b=>some (.int .i64 ((b-a:Nat):Int),true)
     |some (.slice _),.sl h=>match H[h]? with
      |some (.arr _ l)=>some (.int .i64 (l.length:Int),true)
      |some (.tree _ l)=>some (.int .i64 (l.length:Int),true)
      |_=>none
     |_,_=>none
   |_,_=>none
 |.call {callee:=.builtin .min,args, ..}=>match args.toList with
   |[x,y]=>match ev x,ev y with
     |.int k a,.int k' b=>if k=k' then some (.int k (cond (decide (b<a)) b a),true)else none
     |_,_=>none
   |_=>none
 |.call {callee:=.builtin .max,args, ..}=>match args.toList with
   |[x,y]=>match ev x,ev y with
     |.int k a,.int k' b=>if k=k' then some (.int k (cond (decide (a<b)) b a),true)else none
     |_,_=>none
   |_=>none
 |_=>none
def ZY(D:bc K)(c:K.U)(e:TypeId):Bool:=match D.mq c with
 |none=>true
 |some t=>t==e
def po(cx:Cx K)(e:TypeId):Option K.U:=match cx.ty e with
 |some c=>if ZY cx.D c e then some c else none
 |none=>none
def room(e:TypeId)(P:Program):Bool:=match P.info? e with
 |some i=>decide (i.bytes<=4096)
 |none=>false
def pe(D:bc K)(c:K.U):List (AV K)->Option (List (K.El c)×Bool)
 |[]=>some ([],true)
 |v::r=>match D.dec c v.bm,pe D c r with
  |some (x,b),some (l,b')=>some (x::l,b&&b')
  |_,_=>none
def inOrder(ev:Operand->AV K):Nat->List (Nat×Operand)->Option (List (AV K))
 |_,[]=>some []
 |n,(i,x)::r=>if i=n then(inOrder ev (n+1) r).map (ev x::·)else none
def placesOf(P:Program)(t:TypeId):Option (List (Nat×Nat)):=
 match P.underlying t with
 |some (.struct fs)=>fs.toList.mapM (fun f=>(P.info? f.type).map fun i=>(f.offset,i.size))
 |_=>none
def zg(places:List (Nat×Nat))(ev:Operand->AV K)(cs:List (AV K)):List (Nat×Operand)->Option (List (AV K))
 |[]=>some cs
 |(i,x)::r=>match places[i]? with
  |some (off,n)=>if(ev x).known=true/\(ev x).bm.length=n/\off+n<=cs.length then zg places ev (setCells cs off (ev x).bm) r else none
  |none=>none
def ng(P:Program)(t:TypeId):Bool:=match P.info? t with
 |some i=>match i.zero with
  |some v=>v.cells.size==i.size
  |none=>false
 |none=>false
def source(D:bc K)(H:List (Ob K))(c:K.U):AV K->Option (List (K.El c))
 |.str s=>match D.byte c with
   |some (_,g)=>some (s.map g)
   |none=>none
 |v=>elems H c v
def Gh(cx:Cx K)(H:List (Ob K))(sT:TypeId)(s x:AV K):Option (AV K×List (Ob K)×Bool×List Nat):=
 match elemOf? cx.P sT with
 |none=>none
 |some e=>match po cx e with
  |none=>none
  |some c=>if cN cx.P e=some (K.sz c)/\room e cx.P=true/\ng cx.P e=true then
    match source cx.D H c x with
    |none=>none
    |some m=>match s with
     |.cB=>some (.sl H.length,H++[.arr c m],decide (m.length<=1073741824),[])
     |.sl h=>match x with
       |.sl h'=>if h=h' then none else match elems H c (.sl h)with
         |some l=>some (.sl H.length,H.set h .dead++[.arr c (l++m)],decide (l.length+m.length<=1073741824),[h])
         |none=>none
       |_=>match elems H c (.sl h)with
        |some l=>some (.sl H.length,H.set h .dead++[.arr c (l++m)],decide (l.length+m.length<=1073741824),[h])
        |none=>none
     |_=>none
   else none
def BG(cx:Cx K)(H:List (Ob K))(sT:TypeId)(s x:AV K):Option (AV K×List (Ob K)×Bool×List Nat):=
 match elemOf? cx.P sT,x with
 |some e,.int _ n=>match po cx e,(zeroOf cx.P e:Option (AV K))with
  |some c,some z=>if cN cx.P e=some (K.sz c)/\room e cx.P=true/\0<K.sz c/\z.known=true/\z.bm.all AV.one=true then
    match cx.D.dec c z.bm,s with
    |some (y,b),.sl h=>match elems H c (.sl h)with
     |some l=>some (.sl H.length,H.set h .dead++[.arr c (l++List.replicate n.toNat y)],b&&(decide (0<=n)&&decide (l.length+n.toNat<=1073741824)),[h])
     |none=>none
    |_,_=>none
   else none
  |_,_=>none
 |_,_=>none
def kX(ev:Operand->AV K):Op->List Nat
 |.buildSlice _ _ parts=>bp (parts.toList.map fun p=>ev p.2)
 |.store _ p x=>match ev p with
   |.ep ..=>hands (ev x)
   |_=>[]
 |.slice _ x _ _ _=>match ev x with
   |.sl h=>[h]
   |_=>[]
 |_=>[]
def vM(cx:Cx K)(ev:Operand->AV K)(H:List (Ob K)):Op->Option (AV K×List (Ob K)×Bool×List Nat)
 |.box t x=>if(ev x).known then match thaw cx.deep H (cx.lY t) (ev x).bm with
     |(cs,H1)=>if kU cs then none else some (.ptr H1.length 0,H1++[.box cs],true,[])else none
 |.alloc t=>match(zeroOf cx.P t:Option (AV K))with
   |some z=>if z.known then match thaw cx.deep H (cx.lY t) z.bm with
    |(cs,H1)=>if kU cs then none else some (.ptr H1.length 0,H1++[.box (BF (cx.D.qI==some t) H1.length cs)],true,[])else none
   |none=>none
 |.build t parts=>match placesOf cx.P t,(zeroOf cx.P t:Option (AV K))with
   |some ps,some z=>if z.known then(zg ps ev z.bm parts.toList).map fun cs=>(.agg cs,H,true,[])else none
   |_,_=>none
 |.store t p x=>match cN cx.P t with
   |some n=>if(ev x).bm.length=n/\(ev x).bm.all AV.one=true then match ev p with
    |.ptr h off=>match H[h]? with
      |some (.box cs)=>if off+n<=cs.length then match thaw cx.deep H (cx.lY t) (ev x).bm with
       |(xs,H1)=>if kU (setCells cs off xs)&& !kU cs then none else some (.any,H1.set h (.box (setCells cs off xs)),true,[h])else none
      |_=>none
    |.ep h st i off=>match H[h]? with
      |some (.arr c l)=>if st=K.sz c/\f0 (ev x).bm=true/\off+n<=K.sz c then
        match cx.D.dec c (setCells (cx.D.cells c (l.getD i (K.zero c))) off (ev x).bm)with
        |some (y,b)=>some (.any,H.set h (.arr c (l.set i y)),b,[h])
        |none=>none
       else none
      |_=>none
    |_=>none else none
   |none=>none
 |.makeSlice t len cap=>match elemOf? cx.P t with
   |none=>none
   |some e=>match po cx e,(zeroOf cx.P e:Option (AV K)),ev len,ev cap with
    |some c,some z,.int _ n,.int _ m=>if cN cx.P e=some (K.sz c)/\room e cx.P=true/\f0 z.bm=true/\z.known=true then
      match cx.D.dec c z.bm with
      |some (y,b)=>some (.sl H.length,H++[.arr c (List.replicate n.toNat y)],b&&(decide (0<=n)&&(decide (n<=m)&&decide (m<=1073741824))),[])
      |none=>none
     else none
    |_,_,_,_=>none
 |.buildSlice t len parts=>match elemOf? cx.P t with
   |none=>none
   |some e=>match po cx e,inOrder ev 0 parts.toList with
    |some c,some l=>if cN cx.P e=some (K.sz c)/\ng cx.P e=true/\l.length=len/\len<=4096/\K.sz c<=4096/\l.all (fun v=>f0 v.bm&&(v.known&&decide (v.bm.length=K.sz c)))=true then
      match pe cx.D c l with
      |some (y,b)=>some (.sl H.length,H++[.arr c y],b,[])
      |none=>none
     else none
    |_,_=>none
 |.convert src dst x=>match cx.P.underlying src,elemOf? cx.P dst,ev x with
   |some .string,some e,.str s=>match cx.P.underlying e,po cx e with
    |some (.int .u8),some c=>match cx.D.byte c with
     |some (_,g)=>if cN cx.P e=some (K.sz c)then some (.sl H.length,H++[.arr c (s.map g)],decide (s.length<=1073741824),[])else none
     |none=>none
    |_,_=>none
   |_,_,_=>none
 |.call {callee:=.builtin .append,args,argTypes}=>match args.toList,argTypes.toList with
   |[s,x],[sT,xT]=>if(cx.P.underlying xT).isNone then none else if(y7 cx.P xT).isSome then BG cx H sT (ev s) (ev x)else Gh cx H sT (ev s) (ev x)
   |_,_=>none
 |.call {callee:=.builtin .clear,args,argTypes}=>match args.toList,argTypes.toList with
   |[x],[T]=>match ev x,elemOf? cx.P T with
     |.vw h st lo hi,some e=>match H[h]?,(zeroOf cx.P e:Option (AV K))with
       |some (.arr c l),some z=>if st=K.sz c/\cN cx.P e=some (K.sz c)/\z.bm.all AV.one=true then match cx.D.dec c z.bm with
         |some (y,b)=>some (.any,H.set h (.arr c (l.take lo++List.replicate (hi-lo) y++l.drop hi)),b&&decide (hi<=l.length),[h])
         |none=>none
        else none
       |_,_=>none
     |_,_=>none
   |_,_=>none
 |.call {callee:=.builtin .copy,args,argTypes}=>match args.toList,argTypes.toList with
   |[x,y],[T,_]=>match ev x,ev y,elemOf? cx.P T with
     |.vw h st lo hi,.str s,some e=>match H[h]? with
       |some (.arr c l)=>match cx.D.byte c with
        |some (_,g)=>if st=K.sz c/\cN cx.P e=some (K.sz c)then some (.int .i64 (s.length:Int),H.set h (.arr c (l.take lo++s.map g++l.drop (lo+s.length))),decide (hi<=l.length)&&decide (s.length<=hi-lo),[h])else none
        |none=>none
       |_=>none
     |_,_,_=>none
   |_,_=>none
 |_=>none
mutual
def qE:AV K->Bool
 |.sl _|.ptr .. |.ep .. |.np _|.vw ..=>true
 |.agg l|.aV l|.fn _ l=>vA l
 |_=>false
def vA:List (AV K)->Bool
 |[]=>false
 |v::r=>qE v||vA r
end
mutual
def eH(f:Nat->Option Nat):AV K->Option (AV K)
 |.ptr h o=>(f h).map (.ptr · o)
 |.sl h=>(f h).map .sl
 |.np h=>(f h).map .np
 |.ep h s i o=>(f h).map (.ep · s i o)
 |.vw h s a b=>(f h).map (.vw · s a b)
 |.fn g l=>(jf f l).map (.fn g)
 |.agg l=>(jf f l).map .agg
 |.aV l=>(jf f l).map .aV
 |.opt ..=>none
 |v=>some v
def jf(f:Nat->Option Nat):List (AV K)->Option (List (AV K))
 |[]=>some []
 |v::r=>match eH f v,jf f r with
  |some x,some l=>some (x::l)
  |_,_=>none
end
def ren(m:List Nat):AV K->Option (AV K):=eH fun h=>m.idxOf? h
def ZZ(m:List Nat):List (AV K)->Option (List (AV K)):=jf fun h=>m.idxOf? h
def back(m:List Nat):AV K->Option (AV K):=eH fun h=>m[h]?
def anJ(m:List Nat):List (AV K)->Option (List (AV K)):=jf fun h=>m[h]?
def kn(f:Nat->Option Nat):Ob K->Option (Ob K)
 |.box cs=>(jf f cs).map .box
 |.opn ..=>none
 |o=>some o
def FR(m:List Nat):Ob K->Option (Ob K):=kn fun h=>m.idxOf? h
def vC(m:List Nat):Ob K->Option (Ob K):=kn fun h=>m[h]?
def mo(f:Ob K->Option (Ob K)):List (Ob K)->Option (List (Ob K))
 |[]=>some []
 |o::r=>match f o,mo f r with
  |some x,some l=>some (x::l)
  |_,_=>none
def reach(H:List (Ob K)):Nat->List Nat->List Nat->List Nat
 |0,_,acc=>acc
 |_,[],acc=>acc
 |n+1,h::r,acc=>if acc.contains h then reach H n r acc else
   reach H n (r++(match H[h]? with|some (.box cs)=>bp cs|_=>[])) (acc++[h])
def vB(H:List (Ob K)):List Nat->Bool
 |[]=>true
 |h::m=>decide (h<H.length)&&(!m.contains h&&vB H m)
def jg:List (Ob K)->List Nat->List (Ob K)->List (Ob K)
 |H,h::m,o::r=>jg (H.set h o) m r
 |H,_,_=>H
def Zu(D:bc K):Ob K->Bool
 |.arr c _=> !dy (D.cells c (K.zero c))
 |.tree ..=>true
 |_=>false
def kV(cx:Cx K)(m:Mode)(H:List (Ob K))(f:FuncId)(args:List (AV K)):Option (AV K×List (Ob K)×Bool×List Nat):=
 match m with
 |.plain=>if f0 (lP cx.D H args)then match cx.call f (lP cx.D H args) []with
     |some (r,[],c)=>if r.closed&&(!iy r|| !vA args)then some (r,H,c,[])else none
     |_=>none else none
 |.iF=>if f0 (lP cx.D H args)&& !vA args then match cx.call f (lP cx.D H args) []with
     |some (r,Hn,c)=>match back ((List.range Hn.length).map (H.length+·)) r,mo (vC ((List.range Hn.length).map (H.length+·))) Hn with
      |some r',some vD=>some (r',H++vD,c,[])
      |_,_=>none
     |none=>none else none
 |.fresh=>if f0 (lP cx.D H args)then match cx.call f (lP cx.D H args) []with
     |some (r,Hn,c)=>if !iy r&&Hn.all (Zu cx.D)then match back ((List.range Hn.length).map (H.length+·)) r,mo (vC ((List.range Hn.length).map (H.length+·))) Hn with
      |some r',some vD=>some (r',H++vD,c,[])
      |_,_=>none else none
     |none=>none else none
 |.dA|.cT=>none
 |.pass=>if !vB H (reach H 64 (bp args) [])then none else match ZZ (reach H 64 (bp args) []) args,mo (FR (reach H 64 (bp args) [])) ((reach H 64 (bp args) []).map fun h=>H.getD h .dead)with
     |some args',some Hi=>match cx.call f args' Hi with
      |some (r,Ho,c)=>
       match back (reach H 64 (bp args) []++(List.range (Ho.length-Hi.length)).map (H.length+·)) r,mo (vC (reach H 64 (bp args) []++(List.range (Ho.length-Hi.length)).map (H.length+·))) Ho with
       |some r',some gP=>if Hi.length<=Ho.length then some (r',jg H (reach H 64 (bp args) []) (gP.take Hi.length)++gP.drop Hi.length,c,reach H 64 (bp args) [])else none
       |_,_=>none
      |none=>none
     |_,_=>none
def vE(cx:Cx K)(m:Mode)(H:List (Ob K))(f:FuncId)(args:List (AV K)):Option (AV K×List (Ob K)×Bool×List Nat):=
 kV cx m (iK H (bp args)) f (pn (iK H (bp args)) args)
def qH(q:Bool)(cx:Cx K)(H:List (Ob K))(f:FuncId)(args:List (AV K)):Option (AV K×List (Ob K)×Bool×List Nat):=
 match cx.mode f with
 |.plain=>kV cx .plain H f args
 |.dA=>match kV cx .plain H f args with
   |some r=>some r
   |none=>if q then none else vE cx .plain H f args
 |.iF=>if q then none else vE cx .iF H f args
 |.pass=>if q then none else kV cx .pass H f args
 |.cT=>if q then none else vE cx .pass H f args
 |.fresh=>if q then none else match kV cx .iF H f args with
   |some r=>some r
   |none=>match kV cx .fresh H f args with
    |some r=>some r
    |none=>vE cx .iF H f args
def ko:List Nat->Bool
 |[]=>true
 |x::r=> !r.contains x&&ko r
def FZ(D:bc K)(H:List (Ob K)):AV K->Option (AV K)
 |.sl h=>match H[h]? with
   |some (.arr c l)=>if dy (D.cells c (K.zero c))then none else some (.aj c l)
   |some (.tree c l)=>some (.aj c l)
   |_=>none
 |.cB=>some .cB
 |.int k n=>some (.int k n)
 |.bool b=>some (.bool b)
 |.str s=>some (.str s)
 |.cL=>some .cL
 |_=>none
def kW(D:bc K)(H:List (Ob K)):List (AV K)->Option (List (AV K))
 |[]=>some []
 |v::r=>match FZ D H v,kW D H r with
  |some x,some l=>some (x::l)
  |_,_=>none
def yW(D:bc K)(H:List (Ob K)):List (AV K)->Option (List (AV K))
 |[]=>some []
 |v::r=>match kW D H v.bm,yW D H r with
  |some cs,some l=>some (.agg cs::l)
  |_,_=>none
def eu(H:List (Ob K)):List Nat->List (Ob K)
 |[]=>H
 |h::r=>eu (H.set h .dead) r
def qL(H:List (Ob K))(c:K.U):AV K->Option (List (K.El c)×List Nat)
 |.cB=>some ([],[])
 |.sl h=>match H[h]? with
   |some (.tree c' l)=>match K.ju c' c with
    |.isTrue e=>some (e ▸ l,[h])
    |.isFalse _=>none
   |_=>none
 |_=>none
def y4(cx:Cx K)(ev:Operand->AV K)(H:List (Ob K)):Op->Option (AV K×List (Ob K)×Bool×List Nat)
 |.makeSlice t len cap=>match elemOf? cx.P t with
   |none=>none
   |some e=>match po cx e,(zeroOf cx.P e:Option (AV K)),ev len,ev cap with
    |some c,some z,.int _ n,.int _ m=>if cx.deep c=true/\cN cx.P e=some (K.sz c)/\room e cx.P=true/\z.known=true then
      match kW cx.D [] z.bm with
      |some zs=>match cx.D.dec c zs with
       |some (y,b)=>some (.sl H.length,H++[.tree c (List.replicate n.toNat y)],b&&(decide (0<=n)&&(decide (n<=m)&&decide (m<=1073741824))),[])
       |none=>none
      |none=>none
     else none
    |_,_,_,_=>none
 |.buildSlice t len parts=>match elemOf? cx.P t with
   |none=>none
   |some e=>match po cx e,inOrder ev 0 parts.toList with
    |some c,some l=>if cx.deep c=true/\cN cx.P e=some (K.sz c)/\ng cx.P e=true/\l.length=len/\len<=4096/\K.sz c<=4096/\l.all (fun v=>v.known&&decide (v.bm.length=K.sz c))=true/\ko (bp l)=true then
      match yW cx.D H l with
      |some l'=>match pe cx.D c l' with
       |some (y,b)=>some (.sl H.length,eu H (bp l)++[.tree c y],b,bp l)
       |none=>none
      |none=>none
     else none
    |_,_=>none
 |.store t p x=>match ev p,cN cx.P t with
   |.ep h st i off,some n=>match H[h]? with
     |some (.tree c l)=>if st=K.sz c/\off+n<=K.sz c/\(ev x).bm.length=n/\(ev x).bm.all AV.one=true/\ko (h::bp (ev x).bm)=true then
       match kW cx.D H (ev x).bm with
       |some xs=>match cx.D.dec c (setCells (cx.D.cells c (l.getD i (K.zero c))) off xs)with
        |some (y,b)=>some (.any,(eu H (h::bp (ev x).bm)).set h (.tree c (l.set i y)),b,h::bp (ev x).bm)
        |none=>none
       |none=>none
      else none
     |some (.opn c l i' off' cs)=>if st=K.sz c/\off=off'/\n=cs.length/\(ev x).bm.length=n/\(ev x).bm.all AV.one=true/\ko (h::bp (ev x).bm)=true then
       match kW cx.D H (ev x).bm with
       |some xs=>match cx.D.dec c (setCells (cx.D.cells c (l.getD i (K.zero c))) off xs)with
        |some (y,b)=>some (.any,(eu H (h::bp (ev x).bm)).set h (.tree c (l.set i y)),b&&decide (i=i'),h::bp (ev x).bm)
        |none=>none
       |none=>none
      else none
     |_=>none
   |_,_=>none
 |.call {callee:=.builtin .append,args,argTypes}=>match args.toList,argTypes.toList with
   |[s,x],[sT,xT]=>if(y7 cx.P xT).isSome||(cx.P.underlying xT).isNone then none else match elemOf? cx.P sT with
     |none=>none
     |some e=>match po cx e with
      |none=>none
      |some c=>if cx.deep c=true/\cN cx.P e=some (K.sz c)/\room e cx.P=true/\ng cx.P e=true then
        match qL H c (ev s),qL H c (ev x)with
        |some (l,hs),some (m,hs')=>if ko (hs++hs')then some (.sl H.length,eu H (hs++hs')++[.tree c (l++m)],decide (l.length+m.length<=1073741824),hs++hs')else none
        |_,_=>none
       else none
   |_,_=>none
 |_=>none
def tf(D:bc K)(dp:K.U->Bool):Nat->List (AV K)->Option (List (AV K)×List (Ob K))
 |_,[]=>some ([],[])
 |n,.aj c l::r=>if dp c|| !dy (D.cells c (K.zero c))then match tf D dp (n+1) r with
    |some (cs,os)=>some (.sl n::cs,cond (dp c) (.tree c l) (.arr c l)::os)
    |none=>none
  else none
 |n,v::r=>match tf D dp n r with
    |some (cs,os)=>some (v::cs,os)
    |none=>none
def za(cx:Cx K)(ev:Operand->AV K)(H:List (Ob K)):Op->Option (AV K×List (Ob K)×Bool×List Nat)
 |.load t p=>if cx.opn then match ev p,Gf cx.P t,cN cx.P t with
     |.ep h st i off,some ag,some n=>match H[h]? with
       |some (.tree c l)=>if st=K.sz c/\off+n<=K.sz c/\0<n then match tf cx.D cx.deep H.length (((cx.D.cells c (l.getD i (K.zero c))).drop off).take n)with
         |some (cs,os)=>some (cond ag (.agg cs) (cs.getD 0 .any),H.set h (.opn c l i off cs)++os,true,[h])
         |none=>none
        else none
       |_=>none
     |_,_,_=>none
   else none
 |_=>none
def MK:List (Ob K)->Option Nat
 |[]=>none
 |.opn ..::_=>some 0
 |_::r=>(MK r).map (· +1)
def shut(D:bc K)(H:List (Ob K)):Option (List (Ob K)×Bool×List Nat):=
 match MK H with
 |none=>some (H,true,[])
 |some h=>match H[h]? with
  |some (.opn c l i off cs)=>if ko (h::bp cs)=true then match kW D H cs with
    |some xs=>match D.dec c (setCells (D.cells c (l.getD i (K.zero c))) off xs)with
     |some (y,b)=>some ((eu H (h::bp cs)).set h (.tree c (l.set i y)),b,h::bp cs)
     |none=>none
    |none=>none
   else none
  |_=>none
def zc(q:Bool)(cx:Cx K)(H:List (Ob K))(f:FuncId)(args:List (AV K)):Option (AV K×List (Ob K)×Bool×List Nat):=
 if cx.opn&& !cx.lz&& !q then match qH q cx H f args with
  |some (r,H1,c,t)=>match shut cx.D H1 with
   |some (H2,b,t2)=>some (r,H2,c&&b,t++t2)
   |none=>none
  |none=>none
 else qH q cx H f args
def guardOf(ops:List Oper)(o:Oper):Option (Option (Nat×Bool)):=
 match o.guard with
 |none=>some none
 |some (j,w)=>match ops[j]? with
  |some g=>match g.dst with
   |some t=>some (some (t,w))
   |none=>none
  |none=>none
def vN(st:St K)(wr:List Nat)(dst:Option Nat)(v:AV K)(H:List (Ob K))(ok:Bool):Option (St K×List Nat):=
 match dst with
 |none=>some (⟨st.tm,H,ok⟩,wr)
 |some d=>if wr.contains d||decide (st.tm.length<=d)then none else some (⟨st.tm.set d v,H,ok⟩,d::wr)
def y9(cx:Cx K)(ev:Operand->AV K)(H:List (Ob K))(op:Op):Option (AV K×List (Ob K)×Bool×List Nat):=
 match y4 cx (fun x=>dH H (ev x)) H op with
 |some r=>some r
 |none=>match kX ev op with
 |[]=>vM cx (fun x=>dH H (ev x)) H op
 |hs=>match vL cx (fun x=>dH (iK H hs) (ev x)) (iK H hs) op with
  |some (v,c)=>some (v,iK H hs,c,[])
  |none=>vM cx (fun x=>dH (iK H hs) (ev x)) (iK H hs) op
def ML:Operand->Bool
 |.const (.slice none 0 0)=>true
 |_=>false
def iL(cx:Cx K):Op->Bool
 |.assign x=> !ML x
 |.slice t ..=>ZW cx.P t
 |.load t _=> !cx.opn||(cx.lz&&(cx.lY t).all Option.isNone)
 |.makeFunc .. |.move _|.pick .. |.binOp .. |.unOp .. |.extract .. |.fieldAddr .. |.indexAddr .. |.index .. |.nilCheck _=>true
 |.convert _ dst _=>(elemOf? cx.P dst).isNone
 |.call {callee:=.builtin .len, ..}|.call {callee:=.builtin .min, ..}|.call {callee:=.builtin .max, ..}=>true
 |.call {callee:=.value (.func f), ..}=>cx.mode f== .plain&&(!cx.opn||cx.lz)
 |_=>false
def cutV(cx:Cx K)(ev:Operand->AV K)(H:List (Ob K)):Op->Option (AV K×List (Ob K)×Bool×List Nat)
 |.slice t x none (some y) none=>if cx.cut then match ev x,ev y,elemOf? cx.P t with
   |.sl h,.int _ n,some e=>match H[h]? with
     |some (.arr c l)=>if cN cx.P e=some (K.sz c)then some (.sl H.length,H.set h .dead++[.arr c (l.take n.toNat)],bV 0 n l.length,[h])else none
     |some (.tree c l)=>if cN cx.P e=some (K.sz c)then some (.sl H.length,H.set h .dead++[.tree c (l.take n.toNat)],bV 0 n l.length,[h])else none
     |_=>none
   |_,_,_=>none else none
 |.slice t x (some y) none none=>if cx.cut then match ev x,ev y,elemOf? cx.P t with
   |.sl h,.int _ n,some e=>match H[h]? with
     |some (.arr c l)=>if cN cx.P e=some (K.sz c)/\cx.D.mq c=none then some (.sl H.length,H.set h .dead++[.arr c (l.drop n.toNat)],bV n l.length l.length,[h])else none
     |some (.tree c l)=>if cN cx.P e=some (K.sz c)/\cx.D.mq c=none then some (.sl H.length,H.set h .dead++[.tree c (l.drop n.toNat)],bV n l.length l.length,[h])else none
     |_=>none
   |_,_,_=>none else none
 |_=>none
def BH(cx:Cx K)(ev:Operand->AV K)(H:List (Ob K)):Op->Option (AV K×List (Ob K)×Bool×List Nat)
 |.buildSlice t len parts=>match elemOf? cx.P t with
   |none=>none
   |some e=>match cx.ty e,inOrder ev 0 parts.toList with
    |some c,some l=>if cN cx.P e=some (K.sz c)/\ng cx.P e=true/\l.length=len/\len<=4096/\K.sz c<=4096/\l.all (fun v=>f0 v.bm&&(v.known&&decide (v.bm.length=K.sz c)))=true then
      match pe cx.D c l with
      |some (y,b)=>some (.aj c y,H,b,[])
      |none=>none
     else none
    |_,_=>none
 |_=>none
def kY(q:Bool)(cx:Cx K)(tm:List (AV K))(gs:List (Nat×Bool))(H:List (Ob K))(T:TypeId):Op->Option (AV K×List (Ob K)×Bool×List Nat)
 |.pick c x y=>match c,da tm gs c with
   |.tmp t,.bool b=>match known cx t with
     |some b0=>some (cond b0 (da tm gs x) (da tm gs y),H,b==b0,[])
     |none=>some (merge b (da tm ((t,true)::gs) x) (da tm ((t,false)::gs) y),H,true,[])
   |.const _,.bool b=>some (merge b (da tm gs x) (da tm gs y),H,true,[])
   |_,_=>none
 |.call {callee:=.value f,args, ..}=>match da tm gs f with
   |.fn g caps=>zc q cx H g (args.toList.map (fun x=>dH H (da tm gs x))++caps)
   |_=>none
 |.assign x=>if !q&&ML x then match elemOf? cx.P T with
     |some e=>match cx.ty e with
      |some c=>some (.sl H.length,H++[cond (cx.deep c) (.tree c []) (.arr c [])],true,[])
      |none=>some (da tm gs x,H,true,[])
     |none=>some (da tm gs x,H,true,[])
   else some (dH H (da tm gs x),H,true,[])
 |op=>match vL cx (fun x=>dH H (da tm gs x)) H op with
  |some (v,c)=>some (v,H,c,[])
  |none=>if q then BH cx (fun x=>dH H (da tm gs x)) H op else if iL cx op then none else match za cx (da tm gs) H op with
   |some r=>some r
   |none=>match cutV cx (da tm gs) H op with
   |some r=>some r
   |none=>y9 cx (da tm gs) H op
def nq(cx:Cx K):Op->Bool
 |.assign _=>true
 |.slice t ..=> !cx.cut||ZW cx.P t
 |.call {callee:=.value (.func f), ..}=>cx.mode f== .plain||cx.mode f== .dA
 |op=>iL cx op
def anK(cx:Cx K):Op->Bool
 |.buildSlice ..=>true
 |op=>nq cx op
def iz(q:Bool)(cx:Cx K)(ops:List Oper)(tm:List (AV K))(H:List (Ob K))(wr:List Nat)(o:Oper):Option (AV K×List (Ob K)×Bool):=
 match guardOf ops o with
 |none=>none
 |some none=>match kY q cx tm [] H o.type o.op with
  |some (v,H',c,_)=>if v.jh then none else some (v,H',c)
  |none=>none
 |some (some (g,w))=>match known cx g with
  |some b0=>match tm[g]? with
   |some (.bool b)=>if b0=w then match kY q cx tm [] H o.type o.op with
     |some (v,H',c,_)=>if v.jh then none else some (v,H',c&&(b==b0))
     |none=>none
    else some (.any,H,b==b0)
   |_=>none
  |none=>match yG tm 6 (g,w)with
   |none=>none
   |some b=>if anK cx o.op&&wr.contains g then match kY true cx tm [(g,w)] H o.type o.op with
     |some (v,_,c,_)=>some (.opt g w v,H,c|| !b)
     |none=>none else none
def vO(cx:Cx K)(ops:List Oper)(st:St K)(wr:List Nat)(o:Oper):Option (St K×List Nat):=
 match iz false cx ops st.tm st.H wr o with
 |some (v,H',c)=>vN st wr o.dst v H' (c&&st.ok)
 |none=>none
def kZ(cx:Cx K)(ops:List Oper):List Oper->St K->List Nat->Option (St K×List Nat)
 |[],st,wr=>some (st,wr)
 |o::r,st,wr=>match vO cx ops st wr o with
  |some (st',wr')=>kZ cx ops r st' wr'
  |none=>none
def ji(tm:List (AV K)):List Nat->List (AV K)
 |[]=>tm
 |d::r=>match tm[d]? with
  |some (.opt ..)=>ji (tm.set d .any) r
  |_=>ji tm r
def hU:List Oper->List Nat->List Nat
 |[],acc=>acc
 |o::r,acc=>hU r (acc++[o.after.toList.foldl (fun s e=>s|||2^e.on|||acc.getD e.on 0) 0])
def dQ(bits:Nat):List Oper->Nat->List (AV K)->List (AV K)
 |[],_,tm=>tm
 |o::r,i,tm=>dQ bits r (i+1) (match o.dst with
  |some d=>if bits.testBit i then tm else tm.set d .any
  |none=>tm)
def BI(i:Nat):Nat->List Nat->Nat
 |_,[]=>0
 |k,b::r=>(cond (b.testBit i) (2^k) 0)|||BI i (k+1) r
def eg(bs:List Nat)(i:Nat):Nat:=bs.getD i 0|||BI i 0 bs
def mr(cx:Cx K)(ops:List Oper)(bs:List Nat):List Oper->Nat->St K->List Nat->Option (St K×List Nat)
 |[],_,st,wr=>some (st,wr)
 |o::r,i,st,wr=>match iz true cx ops (dQ (eg bs i) ops 0 st.tm) st.H wr o with
  |some (v,_,c)=>match vN st wr o.dst v st.H (c&&st.ok)with
   |some (st',wr')=>mr cx ops bs r (i+1) st' wr'
   |none=>none
  |none=>none
def jS:List Oper->Nat->Bool
 |[],_=>true
 |o::r,i=>(o.after.toList.all fun e=>decide (e.on<i)&&Region.binds .any e)&&jS r (i+1)
def iC(bits:Nat):Nat->List (Ob K)->List (Ob K)
 |_,[]=>[]
 |i,o::r=>(if bits.testBit i then .dead else o)::iC bits (i+1) r
def kr(bits:Nat):Nat->List (Ob K)->List (Ob K)->List (Ob K)
 |i,o::r,o'::r'=>(if bits.testBit i then o else o')::kr bits (i+1) r r'
 |_,[],r'=>r'
 |_,_::_,[]=>[]
mutual
def AV.upto(n:Nat):AV K->Bool
 |.ptr h _|.sl h|.ep h _ _ _|.np h|.vw h _ _ _=>decide (h<n)
 |.fn _ l|.agg l|.aV l=>pq n l
 |.opt _ _ v=>v.upto n
 |_=>true
def pq(n:Nat):List (AV K)->Bool
 |[]=>true
 |v::r=>v.upto n&&pq n r
end
def Ob.upto(n:Nat):Ob K->Bool
 |.box cs=>pq n cs
 |.opn _ _ _ _ cs=>pq n cs
 |_=>true
def jj(ev:Operand->AV K)(op:Op):List Nat:=
 kX ev op++(match op with
  |.store _ p _=>hands (ev p)
  |.call {callee:=.builtin .append,args, ..}=>(match args.toList with
    |s::x::_=>hands (ev s)++hands (ev x)
    |[s]=>hands (ev s)
    |[]=>[])
  |.call {callee:=.builtin .clear,args, ..}=>(match args.toList with
    |s::_=>hands (ev s)
    |[]=>[])
  |.call {callee:=.builtin .copy,args, ..}=>(match args.toList with
    |s::_=>hands (ev s)
    |[]=>[])
  |_=>[])
def tg(cx:Cx K):Op->Bool
 |.box .. |.alloc _|.build .. |.store .. |.makeSlice .. |.buildSlice .. |.convert .. |.slice ..=>true
 |.call {callee:=.builtin .append, ..}=>true
 |.call {callee:=.value (.func f), ..}=>(cx.mode f== .fresh||(cx.mode f== .pass||cx.mode f== .cT))&&(!cx.opn||cx.lz)
 |.load ..=>cx.opn&&cx.lz
 |_=>false
def MM(ev:Operand->AV K):Op->List Nat
 |.call {callee:=.value _,args, ..}=>bp (args.toList.map ev)
 |_=>[]
def zh(cx:Cx K)(H:List (Ob K))(ev:Operand->AV K):Op->List Nat
 |.call {callee:=.value (.func f),args, ..}=>(match cx.mode f with
   |.pass=>reach H 64 (bp (args.toList.map fun y=>dH H (ev y))) []
   |.cT=>bp (args.toList.map fun y=>dH H (ev y))++reach (iK H (bp (args.toList.map fun y=>dH H (ev y)))) 64 (bp (pn (iK H (bp (args.toList.map fun y=>dH H (ev y)))) (args.toList.map fun y=>dH H (ev y)))) []
   |_=>[])
 |_=>[]
def bitsOf:List Nat->Nat
 |[]=>0
 |h::r=>2^h|||bitsOf r
def zi(cx:Cx K)(ops:List Oper)(tm:List (AV K))(H:List (Ob K))(wr:List Nat)(o:Oper):Option (AV K×List (Ob K)×Bool):=
 if nq cx o.op then iz true cx ops tm H wr o else if tg cx o.op then iz false cx ops tm H wr o else none
def pr(cx:Cx K)(tm:List (AV K))(H:List (Ob K))(op:Op):List Nat:=if nq cx op then[]else match op with
 |.load t p=>(match vL cx (fun x=>dH H (da tm [] x)) H (.load t p)with
   |some _=>[]
   |none=>hands (da tm [] p))
 |op=>(jj (da tm []) op++MM (da tm []) op)++zh cx H (da tm []) op
def zj(A:Nat):Nat->List Nat->Nat
 |_,[]=>0
 |k,b::r=>(if A.testBit k then 0 else b)|||zj A (k+1) r
def Gi(A:Nat)(T:List Nat):Nat->List (Nat×Nat)->Bool
 |_,[]=>true
 |i,(m,n)::r=>(A.testBit i||T.all fun h=>decide (n<=h)||m.testBit h)&&Gi A T (i+1) r
def anL:Op->Option (List Operand)
 |.slice _ x _ _ _=>some [x]
 |.move _=>some []
 |.load _ p=>some [p]
 |.fieldAddr ..=>some []
 |.indexAddr _ x _=>some [x]
 |.nilCheck _=>some []
 |.store _ p x=>some [p,x]
 |.binOp ..=>some []
 |.unOp ..=>some []
 |_=>none
def Z0(tm:List (AV K))(n:Nat)(op:Op):Nat:=
 match anL op with
 |none=>0
 |some l=>bitsOf ((List.range n).filter fun h=> !(bp (l.map (da tm []))).contains h)
def qQ(bs ws:List Nat)(i:Nat)(tm:List (AV K))(n:Nat)(op:Op):Nat:=zj (bs.getD i 0) 0 ws|||Z0 tm n op
def qR(cx:Cx K)(ops:List Oper)(bs:List Nat):List Oper->Nat->St K->List Nat->List (Nat×Nat)->List Nat->Option (St K×List Nat)
 |[],_,st,wr,_,_=>some (st,wr)
 |o::r,i,st,wr,ms,ws=>
  if pq st.H.length (dQ (eg bs i) ops 0 st.tm)&&(iC (qQ bs ws i (dQ (eg bs i) ops 0 st.tm) st.H.length o.op) 0 st.H).all (Ob.upto st.H.length)then
   match zi cx ops (dQ (eg bs i) ops 0 st.tm) (iC (qQ bs ws i (dQ (eg bs i) ops 0 st.tm) st.H.length o.op) 0 st.H) wr o with
   |none=>none
   |some (v,H',c)=>
    if(Gi (bs.getD i 0) (pr cx (dQ (eg bs i) ops 0 st.tm) (iC (qQ bs ws i (dQ (eg bs i) ops 0 st.tm) st.H.length o.op) 0 st.H) o.op) 0 ms&&(pr cx (dQ (eg bs i) ops 0 st.tm) (iC (qQ bs ws i (dQ (eg bs i) ops 0 st.tm) st.H.length o.op) 0 st.H) o.op).all fun h=> !(qQ bs ws i (dQ (eg bs i) ops 0 st.tm) st.H.length o.op).testBit h&&decide (h<st.H.length))&&decide (st.H.length<=H'.length)then
     match vN st wr o.dst v (kr (qQ bs ws i (dQ (eg bs i) ops 0 st.tm) st.H.length o.op) 0 st.H H') (c&&st.ok)with
     |some (st',wr')=>qR cx ops bs r (i+1) st' wr' (ms++[(qQ bs ws i (dQ (eg bs i) ops 0 st.tm) st.H.length o.op,st.H.length)])
       (ws++[bitsOf (pr cx (dQ (eg bs i) ops 0 st.tm) (iC (qQ bs ws i (dQ (eg bs i) ops 0 st.tm) st.H.length o.op) 0 st.H) o.op++List.range' st.H.length (H'.length-st.H.length))])
     |none=>none
    else none
  else none
def pt(cx:Cx K)(ops:List Oper)(st:St K):Option (St K):=
 if(ops.all fun o=>nq cx o.op)&&jS ops 0 then match mr cx ops (hU ops []) ops 0 st []with
     |some (st',wr)=>some ⟨ji st'.tm wr,st'.H,st'.ok⟩
     |none=>none
  else if jS ops 0 then match qR cx ops (hU ops []) ops 0 st [] [] []with
   |some (st',wr)=>some ⟨ji st'.tm wr,st'.H,st'.ok⟩
   |none=>none
  else none
def BJ(π:List Nat)(n:Nat):Bool:=decide (π.length=n)&&(π.all (fun i=>decide (i<n))&&((List.range n).all (fun i=>π.contains i)&&ko π))
def vP(π:List Nat)(n:Nat)(o:Oper):Oper:=
 {o with after:=(o.after.filter (Region.binds .any)).map (fun e=>{e with on:=(π.idxOf? e.on).getD n}),guard:=o.guard.map fun g=>((π.idxOf? g.1).getD n,g.2)}
def permuted(π:List Nat)(ops:List Oper):List Oper:=π.map fun i=>match ops[i]? with
 |some o=>vP π ops.length o
 |none=>{dst:=none,op:=.move (.const .nilIface),type:=0,pos:= "",after:= #[],guard:=none}
def Z1(cx:Cx K)(ops:List Oper)(bs:List Nat):List Nat:=
 match(List.range ops.length).foldl (fun acc i=>match ops[i]? with
  |some o=>if tg cx o.op&&(!nq cx o.op&& !acc.contains i)then acc++((List.range ops.length).filter fun j=>(bs.getD i 0).testBit j&& !acc.contains j)++[i]else acc
  |none=>acc) []with
 |acc=>acc++(List.range ops.length).filter fun j=> !acc.contains j
def BK(cx:Cx K)(ops:List Oper)(π:List Nat)(st:St K):Option (St K):=
 if BJ π ops.length then pt cx (permuted π ops) st else none
def MN(cx:Cx K)(ops:List Oper)(st:St K):Option (St K):=
 if jS ops 0 then match pt cx ops st with
  |some r=>some r
  |none=>BK cx ops (Z1 cx ops (hU ops [])) st
 else match BK cx ops (List.range ops.length) st with
  |some r=>some r
  |none=>BK cx ops (Z1 cx ops (hU (permuted (List.range ops.length) ops) [])) st
def jk(cx:Cx K)(ops:List Oper)(draw:Bool)(st:St K):Option (St K):=
 if draw then MN cx ops st
 else match kZ cx ops ops st []with
  |some (st',wr)=>some ⟨ji st'.tm wr,st'.H,st'.ok⟩
  |none=>none
def writes:Code->List Nat
 |.region _ ops _=>ops.toList.filterMap (·.dst)
 |.seq a b=>writes a++writes b
 |.cond _ a b=>writes a++writes b
 |.block _ c=>writes c
 |.loop c=>writes c
 |.scope c=>writes c
 |.rangeFunc _ ps a c=>ps.toList++writes a++writes c
 |_=>[]
def simple(cx:Cx K):Code->Bool
 |.skip=>true
 |.region _ ops _=>ops.toList.all fun o=>iL cx o.op
 |.seq a b=>simple cx a&&simple cx b
 |.cond _ a b=>simple cx a&&simple cx b
 |_=>false
def jl(b:Bool)(wr:List Nat):Nat->List (AV K)->List (AV K)->List (AV K)->List (AV K)
 |n,v::r,x::s,y::t=>(if wr.contains n then merge b x y else v)::jl b wr (n+1) r s t
 |_,_,_,_=>[]
def dI(tm:List (AV K)):List Nat->List (AV K)->List (AV K)
 |d::r,v::s=>dI (tm.set d v) r s
 |_,_=>tm
def keyOf:Code->Nat
 |.region id _ _=>id
 |.seq a _=>keyOf a
 |.cond _ a _=>keyOf a
 |.block _ c=>keyOf c
 |.loop c=>keyOf c
 |_=>0
def inLoop(H:List (Ob K))(vals:List (AV K)):Option (List Nat×List (AV K)×List (Ob K)):=
 if vB H (reach H 64 (bp vals) [])then match ZZ (reach H 64 (bp vals) []) vals,mo (FR (reach H 64 (bp vals) [])) ((reach H 64 (bp vals) []).map fun h=>H.getD h .dead)with
  |some ku,some Hi=>some (reach H 64 (bp vals) [],ku,Hi)
  |_,_=>none
 else none
def ga(m:List Nat)(n k:Nat):List Nat:=m++(List.range (k-m.length)).map (n+·)
def Gj(L:bA K)(m:List Nat)(st:St K)(vs:List (AV K))(Ho:List (Ob K)):Option (St K):=
 match anJ (ga m st.H.length Ho.length) vs,mo (vC (ga m st.H.length Ho.length)) Ho with
 |some vs',some gP=>if m.length<=Ho.length then some ⟨dI (List.replicate L.n .any) L.outs vs',jg st.H m (gP.take m.length)++gP.drop m.length,st.ok⟩else none
 |_,_=>none
def Z2(ops:List Oper):List Nat:=(ops.filterMap fun o=>match guardOf ops o with
 |some (some (g,_))=>some g
 |_=>none).eraseDups
def BL(cx:Cx K)(ops:List Oper)(draw:Bool)(st:St K):List Nat->Option (Bool×St K×St K)
 |[]=>none
 |t::r=>match jk {cx with gs:=[(t,true)]} ops draw st,jk {cx with gs:=[(t,false)]} ops draw st with
  |some s1,some s2=>match s1.tm.getD t .any with
   |.bool b=>some (b,s1,s2)
   |_=>BL cx ops draw st r
  |_,_=>BL cx ops draw st r
inductive mw (K:cE) where
 |no
 |leaf (s:St K)
 |node (b:Bool) (x y:mw K)
 |two (x y:St K)
def mw.go(cx:Cx K):mw K->{R:Type}->(St K->Option R)->Option R
 |.no,_,_=>none
 |.leaf s,_,k=>k s
 |.node b x y,_,k=>cond b (x.go cx k) (y.go cx k)
 |.two x y,_,k=>cx.yM (k x) (k y)
def Gk(cx:Cx K)(ops:List Oper):List Oper->St K->List Nat->St K×List Oper
 |[],st,_=>(st,[])
 |o::r,st,wr=>match vO cx ops st wr o with
  |some (st',wr')=>Gk cx ops r st' wr'
  |none=>(st,o::r)
def MO(cx:Cx K)(st:St K):List Nat->Option (Nat×Bool)
 |[]=>none
 |t::r=>match known cx t with
  |some _=>MO cx st r
  |none=>match st.tm[t]? with
   |some (.bool b)=>some (t,b)
   |_=>MO cx st r
def anM(st:St K):List Oper->Bool
 |[]=>false
 |o::_=>match o.op with
  |.nilCheck (.tmp t)=>match st.tm[t]? with
    |some .cL=>true
    |some (.opt _ _ .cL)=>true
    |_=>false
  |_=>false
def BM(cx:Cx K)(ops:List Oper)(draw:Bool)(st:St K):Nat->List (Nat×Bool)->Option (mw K)
 |0,_=>none
 |n+1,gs=>match jk {cx with gs:=gs} ops draw st with
  |some s=>some (.leaf s)
  |none=>match jk {cx with call:=cx.alt true,mode:=cx.qP true,gs:=gs} ops draw st,jk {cx with call:=cx.alt false,mode:=cx.qP false,gs:=gs} ops draw st with
   |some s1,some s2=>some (.two s1 s2)
   |_,_=>match MO {cx with gs:=gs} (Gk {cx with gs:=gs} ops ops st []).1 (Z2 ops)with
    |some (t,b)=>match BM cx ops draw st n ((t,true)::gs),BM cx ops draw st n ((t,false)::gs)with
     |some x,some y=>some (.node b x y)
     |_,_=>none
    |none=>if anM (Gk {cx with gs:=gs} ops ops st []).1 (Gk {cx with gs:=gs} ops ops st []).2 then some .no else none
def zk:Ex->St K->Option (St K)
 |.normal,st=>some st
 |_,_=>none
def fD(cx:Cx K):Code->{R:Type}->St K->(Ex->St K->Option R)->Option R
 |.skip,_,st,k=>k .normal st
 |.region _ ops draw,_,st,k=>match jk cx ops.toList draw st with
   |some st'=>k .normal st'
   |none=>match BL cx ops.toList draw st (Z2 ops.toList)with
    |some (b,s1,s2)=>cond b (k .normal s1) (k .normal s2)
    |none=>if(ops.toList.all fun o=>iL cx o.op)=true then none else match jk {cx with call:=cx.alt true,mode:=cx.qP true} ops.toList draw st,jk {cx with call:=cx.alt false,mode:=cx.qP false} ops.toList draw st with
     |some s1,some s2=>cx.yM (k .normal s1) (k .normal s2)
     |_,_=>match BM cx ops.toList draw st 4 []with
      |some T=>T.go cx (k .normal)
      |none=>none
 |.seq a b,_,st,k=>fD cx a st fun e s=>match e with
   |.normal=>fD cx b s k
   |e=>k e s
 |.cond c a b,_,st,k=>match da st.tm [] c with
   |.bool t=>if simple cx a&&simple cx b then
       match fD cx a st zk,fD cx b st zk with
       |some sa,some sb=>k .normal ⟨jl t (writes a++writes b) 0 st.tm sa.tm sb.tm,st.H,(sa.ok|| !t)&&(sb.ok||t)⟩
       |_,_=>none
     else cond t (fD cx a st k) (fD cx b st k)
   |_=>none
 |.block id c,_,st,k=>fD cx c st fun e s=>match e with
   |.exit i=>if i=id then k .normal s else k (.exit i) s
   |e=>k e s
 |.loop c,_,st,k=>match cx.loop (keyOf c)with
   |some L=>if st.tm.length=L.n then match inLoop st.H (L.ins.map fun t=>st.tm.getD t .any)with
     |some (m,vals,Hi)=>L.run vals Hi fun e vs Ho=>match Gj L m st vs Ho with
      |some st'=>k e st'
      |none=>none
     |none=>none else none
   |none=>none
 |.exit id,_,st,k=>k (.exit id) st
 |.ret,_,st,k=>k .ret st
 |_,_,_,_=>none
def ti(cx:Cx K)(st:St K):List ResultVar->Option (List (AV K))
 |[]=>some []
 |.tmp t::r=>match ti cx st r with
   |some l=>some (st.tm.getD t .any::l)
   |none=>none
 |.cell a t::r=>match Gg cx.P cx.D st.H t (st.tm.getD a .any),ti cx st r with
   |some v,some l=>some (v::l)
   |_,_=>none
def resV(cx:Cx K)(fn:Func)(st:St K):Option (AV K):=
 match ti cx st fn.results.toList with
 |some [v]=>some (dH st.H v)
 |some l=>some (.aV (pn st.H l))
 |none=>none
def vQ{α β:Type}(f:α->Option β):List α->Option (List β)
 |[]=>some []
 |x::r=>match f x,vQ f r with
  |some y,some l=>some (y::l)
  |_,_=>none
def tj(src:List (Option Nat))(h:Nat):Option Nat:=src.idxOf? (some h)
def tn(n0 n:Nat):Nat->List (Option Nat)->Bool
 |_,[]=>true
 |i,none::r=>decide (i<n0)&&tn n0 n (i+1) r
 |i,some h::r=>decide (h<n)&&((decide (n0<=i)||decide (h=i))&&(!r.contains (some h)&&tn n0 n (i+1) r))
def vR(src:List (Option Nat))(H:List (Ob K)):Option Nat->Option (Ob K)
 |none=>some .dead
 |some h=>match H[h]? with
  |some o=>kn (tj src) o
  |none=>none
def qS(n0:Nat)(src:List (Option Nat))(keep:List Nat)(st:St K):Option (St K):=
 if tn n0 st.H.length 0 src&&decide (n0<=src.length)then
  match jf (tj src) (keep.map fun t=>st.tm.getD t .any),vQ (vR src st.H) src with
  |some vs,some H=>some ⟨dI (List.replicate st.tm.length .any) keep vs,H,st.ok⟩
  |_,_=>none
 else none
def vS(n0:Nat)(keep:List Nat)(st:St K):Option (St K):=
 qS n0 ((reach st.H 64 (List.range n0++bp (keep.map fun t=>st.tm.getD t .any)) []).map some) keep st
def tp(cx:Cx K)(s:St K):Option (Bool×St K):=match MK s.H with
 |none=>some (true,s)
 |some _=>match shut cx.D s.H with
  |some (H',b,_)=>some (b,⟨s.tm,H',s.ok⟩)
  |none=>none
def Gl(cx:Cx K)(n0:Nat)(keep outs:List Nat)(body:Code)(st:St K):Option (St K⊕Ex×St K):=
 fD cx body st fun e s=>cond s.ok (match e with
  |.normal=>match tp cx s with
    |some (b,s1)=>cond b (match vS n0 keep s1 with
     |some s'=>some (.inl s')
     |none=>none) none
    |none=>none
  |e=>match tp cx s with
   |some (b,s1)=>cond b (match vS n0 outs s1 with
    |some s'=>some (.inr (e,s'))
    |none=>none) none
   |none=>none) none
def MP(n0:Nat)(src:List (Option Nat))(v:AV K)(H:List (Ob K)):Option (AV K×List (Ob K)):=
 if tn n0 H.length 0 src&&decide (n0<=src.length)then
  match eH (tj src) v,vQ (vR src H) src with
  |some v',some H'=>some (v',H')
  |_,_=>none
 else none
def pack(n0:Nat)(v:AV K)(H:List (Ob K)):Option (AV K×List (Ob K)):=
 MP n0 ((reach H 64 (List.range n0++hands v) []).map some) v H
def MQ(H:List (Ob K))(h:Nat):Bool:=match H[h]? with
 |some (.arr ..)=>false
 |some (.fR ..)=>false
 |some (.tree ..)=>false
 |_=>true
def anN(n0:Nat)(v:AV K)(H:List (Ob K)):List (Option Nat):=
 ((List.range n0).map fun h=>cond (MQ H h) (some h) none)++((reach H 64 ((List.range n0).filter (MQ H)++hands v) []).filter fun h=> !(decide (h<n0)&&MQ H h)).map some
def Gm(mv:Bool)(n0:Nat)(v:AV K)(H:List (Ob K)):Option (AV K×List (Ob K)):=
 MP n0 (cond mv (anN n0 v H) ((reach H 64 (List.range n0++hands v) []).map some)) v H
def anO(cx:Cx K)(fn:Func)(n0:Nat)(e:Ex)(st:St K):Option (AV K×List (Ob K)):=
 match e with
 |.exit _=>none
 |_=>match resV cx fn st with
  |some v=>cond st.ok (pack n0 v st.H) none
  |none=>none
def ap3(cx:Cx K)(fn:Func)(args:List (AV K))(H:List (Ob K)):Option (AV K×List (Ob K)):=
 match fn.body with
 |some c=>fD cx c ⟨args++List.replicate (fn.ntmps-args.length) .any,H,true⟩ (anO cx fn H.length)
 |none=>none
end Go.V
