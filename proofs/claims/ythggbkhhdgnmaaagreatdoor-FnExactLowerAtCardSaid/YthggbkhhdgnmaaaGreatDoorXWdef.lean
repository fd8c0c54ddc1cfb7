/-
  A VALUE-LEVEL READING OF THE LOADED CODE: abstract values, objects, operations, and a function 'execC' that runs a body on them. Nothing here speaks of one program: the program is a parameter. The proofs that what it yields is what the machine does are in the texts that follow.
-/
import Derived.WalkKit
import Derived.KernelRfl
import Derived.Orders
universe u v
abbrev aA := @Option.some.injEq
theorem bf{α:Type u}{a:α}:(some a).isSome=true:=rfl
theorem aZ{α:Type u}{a b:α}:(some a).getD b=a:=rfl
theorem bn(n:Nat):(n:Int).toNat=n:=rfl
abbrev bu := @decide_eq_true_eq
abbrev cy := @List.getElem?_eq_some_iff
abbrev aS := @Bool.and_true
abbrev cw := @List.getElem?_eq_getElem
abbrev aV := @Prod.mk.injEq
abbrev bJ := @Bool.and_eq_true
theorem aG{α:Sort u}(a b:α):(bif true then a else b)=a:=rfl
abbrev bK := @List.getElem_mem
abbrev bj := @Bool.true_and
abbrev bD := @decide_true
abbrev dC := @List.getElem?_append_left
abbrev dH := @List.getElem?_append_right
abbrev dK := @List.getD_eq_getElem?_getD
theorem cD{α:Type u}{a:α}{as:List α}:(a::as).length=as.length+1:=rfl
abbrev ax := @if_neg
abbrev bU := @Int.ofNat_lt
abbrev aF := @if_pos
theorem bM{α:Sort u}(a b:α):(bif false then a else b)=b:=rfl
abbrev cC := @Bool.true_or
abbrev cr := @Nat.le_refl
abbrev ew := @decide_eq_false_iff_not
theorem dj{α:Type u}:([]:List α).length=0:=rfl
abbrev cJ := @Nat.lt_or_ge
abbrev dW := @List.getElem?_take
abbrev dy := @List.mem_append
abbrev fi := @Option.map_eq_some_iff
abbrev cN := @Nat.le_trans
abbrev db := @Bool.and_self
abbrev ek := @List.length_append
abbrev eI := @beq_eq_false_iff_ne
abbrev eZ := @Nat.mul_le_mul_right
abbrev ee := @List.all_eq_true
abbrev cU := @Nat.zero_le
abbrev dY := @List.length_map
abbrev dE := @Bool.not_true
abbrev eM := @Bool.or_eq_true
abbrev fk := @Bool.not_eq_true'
abbrev fl := @decide_eq_decide
abbrev gV := @List.mem_of_getElem?
abbrev dN := @Nat.zero_add
abbrev dx := @beq_iff_eq
abbrev gB := @List.getElem?_drop
abbrev jL := @Array.getElem?_eq_some_iff
abbrev eH := @List.mem_cons
abbrev gn := @List.getElem?_map
abbrev gu := @List.getElem?_set
abbrev gJ := @Bool.false_eq_true
abbrev dS := @Nat.add_mul
abbrev jT := @List.getElem?_replicate
abbrev gj := @Bool.eq_iff_iff
abbrev mq := @List.eq_nil_of_length_eq_zero
abbrev gG := @List.drop_length
abbrev fW := @List.drop_zero
abbrev iw := @List.length_take
abbrev nD := @Array.getD_eq_getD_getElem?
abbrev gm := @Bool.false_or
abbrev ig := @Option.some.inj
abbrev im := @List.length_set
abbrev lS := @List.drop_of_length_le
abbrev pE := @Array.getElem?_setIfInBounds
abbrev kd := @Nat.lt_of_lt_of_le
abbrev kg := @Nat.eq_zero_or_pos
abbrev f8 := @Nat.one_mul
abbrev kj := @Bool.eq_false_iff
abbrev jy := @Nat.not_lt_zero
abbrev kK := @List.take_add_one
abbrev ns := @List.getElem?_eq_none
abbrev jt := @decide_eq_true
abbrev jZ := @List.getElem_of_mem
abbrev ny := @Nat.add_assoc
abbrev jo := @List.map_cons
abbrev js := @beq_self_eq_true
abbrev ly := @decide_eq_false
abbrev pw := @List.mem_cons_of_mem
abbrev mO := @List.append_assoc
abbrev iu := @bne_iff_ne
abbrev wC := @List.pairwise_iff_getElem
abbrev eX := @List.size_toArray
abbrev pt := @if_true
abbrev mg := @Bool.not_false
abbrev wu := @List.not_all_eq_any_not
abbrev qD := @List.mem_cons_self
abbrev kG := @List.mem_map
abbrev gw := @if_false
abbrev wQ := @Array.getElem?_eq_none
abbrev mf := @Bool.or_false
abbrev zj := @Array.getElem?_eq_getElem
abbrev wZ := @List.length_replicate
abbrev wx := @Array.replicate_succ
abbrev tu := @List.ext_getElem?
abbrev pP := @List.map_append
abbrev wA := @List.append_toArray
abbrev iy := @congrArg
abbrev wO := @Bool.false_ne_true
abbrev zf := @List.contains_eq_mem
abbrev yI := @Bool.or_eq_false_iff
abbrev lR := @decide_not
abbrev qZ := @List.nodup_cons
abbrev wy := @List.push_toArray
abbrev nQ := @Nat.sub_self
abbrev nX := @decide_false
theorem oh{α:Type u}(as:List α):[]++as=as:=rfl
abbrev uk := @List.take_length
abbrev K0 := @List.take_append_of_le_length
abbrev rf := @Bool.false_and
abbrev yN := @List.mem_singleton
abbrev Ez := @Nat.eq_of_beq_eq_true
abbrev pO := @Bool.or_true
theorem mM{α:Type u}{a:α}{as bs:List α}:(a::as)++bs=a::(as++bs):=rfl
abbrev je := @Iff.rfl
abbrev wL := @List.mem_range
abbrev yY := @Bool.not_eq_true
abbrev ti := @Nat.le_of_lt
abbrev K1 := @Array.getElem?_replicate
abbrev JY := @Int.eq_ofNat_of_zero_le
abbrev Kr := @List.take_of_length_le
abbrev tC := @Nat.mul_one
abbrev zG := @Nat.testBit_or
abbrev wq := @Bool.or_self
abbrev wG := @Bool.not_not
theorem kD{α:Type u}{a:α}{l:List α}{f:α->Bool}:(a::l).all f=(f a&&l.all f):=rfl
abbrev D7 := @Nat.lt_succ_self
abbrev Ab := @List.getElem_map
abbrev Kq := @of_decide_eq_true
abbrev nw := @Ne.symm
abbrev JV := @List.not_mem_nil
abbrev EO := @Nat.add_comm
abbrev Eo := @List.map_map
abbrev Ks := @List.append_nil
abbrev EM := @Nat.zero_mul
abbrev EA := @getElem!_pos
theorem px{α:Type u}{β:Type v}(a:α)(f:α->β):Option.map f (some a)=some (f a):=rfl
abbrev Fj := @List.drop_drop
abbrev wk := @true_and
abbrev KP := @Nat.mul_comm
abbrev Fh := @List.all_map
abbrev Eb := @or_false
namespace Go.V
open Go
structure dt where
 U:Type
 El:U->Type
 jP:DecidableEq U
 sz:U->Nat
 zero:(c:U)->El c
inductive AV (K:dt) where
 |any
 |int (k:IntKind) (n:Int)
 |bool (b:Bool)
 |str (s:List UInt8)
 |dJ
 |dk
 |fn (f:Nat) (caps:List (AV K))
 |ptr (h off:Nat)
 |sl (h:Nat)
 |ep (h st i off:Nat)
 |ah (c:K.U) (l:List (K.El c))
 |rp (c:K.U) (x:K.El c) (off:Nat)
 |agg (l:List (AV K))
 |bT (l:List (AV K))
 |opt (g:Nat) (want:Bool) (v:AV K)
 |np (h:Nat)
 |vw (h st lo hi:Nat)
inductive Ob (K:dt) where
 |dead
 |box (cells:List (AV K))
 |arr (c:K.U) (l:List (K.El c))
 |hZ (c:K.U) (l:List (K.El c))
 |tree (c:K.U) (l:List (K.El c))
 |opn (c:K.U) (l:List (K.El c)) (i off:Nat) (cs:List (AV K))
structure Base where
 inv:(Nat->Prop)->World->Prop
 mono:∀{S S':Nat->Prop}{w w':World},(∀b,S b->S' b)->(∀b,S b->w'.heap[b]?=w.heap[b]?)->inv S w->inv S' w'
def Base.ajA:Base:=⟨fun _ _=>True,fun _ _ h=>h⟩
structure bN (K:dt) where
 cells:(c:K.U)->K.El c->List (AV K)
 dec:(c:K.U)->List (AV K)->Option (K.El c×Bool)
 byte:(c:K.U)->Option ((K.El c->UInt8)×(UInt8->K.El c))
 find:List (AV K)->Option K.U
 base:Base:=Base.ajA
 qJ:Option TypeId:=none
 mF:K.U->Option TypeId:=fun _=>none
variable{K :dt}
def AV.cq:AV K->List (AV K)
 |.agg l=>l
 |v=>[v]
def AV.known:AV K->Bool
 |.any|.opt ..=>false
 |_=>true
def AV.jj:AV K->Bool
 |.opt ..=>true
 |_=>false
def AV.one:AV K->Bool
 |.any|.opt .. |.agg _|.bT _|.vw ..=>false
 |_=>true
structure St (K:dt) where
 tm:List (AV K)
 H:List (Ob K)
 ok:Bool
inductive Ex where
 |normal
 |exit (id:Nat)
 |ret
def Ex.nI:Ex->Exit
 |.normal=>.normal
 |.exit id=>.exit id
 |.ret=>.ret
structure bo (K:dt) where
 n:Nat
 ins:List Nat
 outs:List Nat
 run:{R:Type}->List (AV K)->List (Ob K)->(Ex->List (AV K)->List (Ob K)->Option R)->Option R
inductive Mode where
 |plain|iG|ez|pass|m6|fresh
 deriving DecidableEq
def P7{R:Type}(a b:Option R):Option R:=match a with
 |none=>b
 |some r=>some r
theorem aA6{R:Type}{a b:Option R}{r:R}(h:P7 a b=some r):a=some r\/b=some r:=by
 cases a with
 |none=>exact .inr h
 |some x=>exact .inl h
structure Cx (K:dt) where
 P:Program
 D:bN K
 ty:TypeId->Option K.U
 call:FuncId->List (AV K)->List (Ob K)->Option (AV K×List (Ob K)×Bool)
 mode:FuncId->Mode
 loop:Nat->Option (bo K)
 m5:TypeId->List (Option K.U)
 cut:Bool:=false
 eJ:List (List (Option K.U)):=[]
 I1:List Bool:=[]
 mv:Bool:=false
 deep:K.U->Bool:=fun _=>false
 opn:Bool:=false
 vws:Bool:=false
 lz:Bool:=false
 alt:Bool->FuncId->List (AV K)->List (Ob K)->Option (AV K×List (Ob K)×Bool):=fun _ _ _ _=>none
 K2:Bool->FuncId->Mode:=fun _=>mode
 PE:{R:Type}->Option R->Option R->Option R:=fun a b=>P7 a b
 gs:Option (Nat×Bool):=none
def known(cx:Cx K)(g:Nat):Option Bool:=match cx.gs with
 |some (t,b)=>if t=g then some b else none
 |none=>none
mutual
def lU:Value->Option (AV K)
 |.bool b=>some (.bool b)
 |.int k n=>some (.int k n)
 |.string s=>some (.str s.data.toList)
 |.pointer none=>some .dJ
 |.slice none 0 0=>some .dk
 |.agg cs=>(EP cs.toList).map .agg
 |_=>none
def EP:List Value->Option (List (AV K))
 |[]=>some []
 |v::r=>match lU v,EP r with
  |some x,some l=>some (x::l)
  |_,_=>none
end
def covers(tm:List (AV K)):Nat->Nat×Bool->Nat×Bool->Bool
 |0,g,t=>g.1==t.1&&g.2==t.2
 |n+1,g,t=>(g.1==t.1&&g.2==t.2)||(match tm[g.1]? with
  |some (.opt g1 w1 _)=>covers tm n (g1,w1) t
  |_=>false)
def dM(tm:List (AV K))(gs:List (Nat×Bool)):Operand->AV K
 |.tmp t=>match tm[t]? with
   |some (.opt g w v)=>if gs.any (fun p=>covers tm 6 p (g,w))then v else .any
   |some v=>v
   |none=>.any
 |.const v=>(lU v).getD .any
 |.global _=>.any
 |.func f=>.fn f []
def zk(tm:List (AV K)):Nat->Nat×Bool->Option Bool
 |0,_=>none
 |n+1,(g,w)=>match tm[g]? with
  |some (.bool b)=>some (b==w)
  |some (.opt g1 w1 (.bool b))=>(zk tm n (g1,w1)).map fun e=>e&&(b==w)
  |_=>none
mutual
def merge(b:Bool):AV K->AV K->AV K
 |.int k m,.int k' n=>if k=k' then .int k (cond b m n)else .any
 |.bool m,.bool n=>.bool (cond b m n)
 |.str m,.str n=>.str (cond b m n)
 |.ah c l,.ah c' l'=>match K.jP c c' with
   |.isTrue h=>.ah c' (cond b (h ▸ l) l')
   |.isFalse _=>.any
 |.agg l,.agg l'=>if l.length=l'.length then .agg (merges b l l')else .any
 |.dk,.dk=>.dk
 |.dJ,.dJ=>.dJ
 |_,_=>.any
def merges(b:Bool):List (AV K)->List (AV K)->List (AV K)
 |x::r,y::s=>merge b x y::merges b r s
 |_,_=>[]
end
def xb(op:BinOp)(k:IntKind)(x y:Int):Int:=
 let a:=BitVec.ofInt k.bits x
 let b:=BitVec.ofInt k.bits y
 k.wrap ((match op with
   |.and=>(a&&& b)|.or=>(a|||b)|.xor=>(a^^^b)|_=>(a&&& ~~~b)).toNat)
def ajY(k:IntKind)(x y:Int):Int:=k.wrap (x*2^(min y.toNat k.bits))
def ajZ(k:IntKind)(x y:Int):Int:=x.fdiv (2^(min y.toNat k.bits))
def ka(a b:List UInt8):Bool:=decide (a.length+b.length<=4611686018427387904)
def dF(a b:List UInt8):Bool:=Op.bytesLess a b
def P8(op:BinOp)(k:IntKind)(a b:Int):Option (AV K×Bool):=
 match op with
 |.add=>some (.int k (k.wrap (a+b)),true)
 |.sub=>some (.int k (k.wrap (a-b)),true)
 |.mul=>some (.int k (k.wrap (a*b)),true)
 |.quo=>some (.int k (k.wrap (a.tdiv b)),b !=0)
 |.rem=>some (.int k (a.tmod b),b !=0)
 |.and|.or|.xor|.andNot=>some (.int k (xb op k a b),true)
 |.eql=>some (.bool (a==b),true)
 |.neq=>some (.bool (a !=b),true)
 |.lss=>some (.bool (decide (a<b)),true)
 |.leq=>some (.bool (decide (a<=b)),true)
 |.gtr=>some (.bool (decide (b<a)),true)
 |.geq=>some (.bool (decide (b<=a)),true)
 |.shl|.shr=>none
def P9(op:BinOp)(a b:List UInt8):Option (AV K×Bool):=
 match op with
 |.add=>some (.str (a++b),ka a b)
 |.eql=>some (.bool (a==b),true)
 |.neq=>some (.bool (!(a==b)),true)
 |.lss=>some (.bool (dF a b),true)
 |.leq=>some (.bool (dF a b||a==b),true)
 |.gtr=>some (.bool (!(dF a b||a==b)),true)
 |.geq=>some (.bool (!dF a b),true)
 |_=>none
def aj0(P:Program)(t:TypeId):Bool:=P.underlying t matches some .string
def Qa(P:Program)(t:TypeId):Bool:=P.underlying t matches some .bool
def Qb(op:UnOp):AV K->Option (AV K×Bool)
 |.bool b=>match op with
   |.not=>some (.bool (!b),true)
   |_=>none
 |.int k n=>match op with
   |.neg=>some (.int k (k.wrap (0-n)),true)
   |.xor=>some (.int k (xb .xor k (if k.signed then -1 else k.max) n),true)
   |_=>none
 |_=>none
def dL(P:Program)(t:TypeId):Option Nat:=(P.info? t).map (·.size)
def K3(P:Program)(t:TypeId):Option Bool:=
 match P.underlying t with
 |some (.struct _)|some (.array _ _)=>some true
 |some _=>some false
 |none=>none
def aj1(P:Program)(t:TypeId)(f:Nat):Option Field:=
 match P.underlying t with
 |some (.struct fs)=>fs[f]?
 |_=>none
def elemOf?(P:Program)(t:TypeId):Option TypeId:=
 match P.underlying t with
 |some (.slice e)=>some e
 |_=>none
def zeroOf(P:Program)(t:TypeId):Option (AV K):=
 match P.info? t with
 |some i=>match i.zero with
  |some v=>lU v
  |none=>none
 |none=>none
def KZ(P:Program)(t:TypeId):Option IntKind:=
 match P.underlying t with
 |some (.int k)=>some k
 |_=>none
def l7(P:Program)(t:TypeId)(cs:List (AV K))(off:Nat):Option (AV K):=
 match K3 P t,dL P t with
 |some true,some n=>if off+n<=cs.length then some (.agg ((cs.drop off).take n))else none
 |some false,some _=>cs[off]?
 |_,_=>none
def ER(P:Program)(rec:TypeId->AV K->AV K->Option Bool)(xs ys:List (AV K)):List Field->Option Bool
 |[]=>some true
 |f::fs=>if f.name= "_" then none else
  match l7 P f.type xs f.offset,l7 P f.type ys f.offset with
  |some a,some b=>match rec f.type a b,ER P rec xs ys fs with
   |some p,some q=>some (p&&q)
   |_,_=>none
  |_,_=>none
def zH(P:Program):Nat->TypeId->AV K->AV K->Option Bool
 |0,_,_,_=>none
 |n+1,t,.int k a,.int k' b=>if k=k' then(match P.underlying t with
  |some (.int _)=>some (a==b)
  |_=>none)else none
 |n+1,t,.bool a,.bool b=>(match P.underlying t with
  |some .bool=>some (a==b)
  |_=>none)
 |n+1,t,.str a,.str b=>(match P.underlying t with
  |some .string=>some (a==b)
  |_=>none)
 |n+1,t,.agg xs,.agg ys=>(match P.underlying t with
  |some (.struct fs)=>if P.stoodInHeld t then none else ER P (zH P n) xs ys fs.toList
  |_=>none)
 |_+1,_,_,_=>none
def Qc(P:Program)(op:BinOp)(t:TypeId):AV K->AV K->Option (AV K×Bool)
 |.int k a,.int k' b=>match op with
   |.shl=>some (.int k (ajY k a b),decide (0<=b))
   |.shr=>some (.int k (ajZ k a b),decide (0<=b))
   |_=>if k=k' then P8 op k a b else none
 |.bool a,.bool b=>if Qa P t then(match op with
   |.eql=>some (.bool (a==b),true)
   |.neq=>some (.bool (!(a==b)),true)
   |_=>none)else none
 |.str a,.str b=>P9 op a b
 |.agg a,.agg b=>match op with
   |.eql=>if P.eqGuardType P.depth t then none else(zH P 6 t (.agg a) (.agg b)).map fun e=>(.bool e,true)
   |.neq=>if P.eqGuardType P.depth t then none else(zH P 6 t (.agg a) (.agg b)).map fun e=>(.bool (!e),true)
   |_=>none
 |_,_=>none
def inB(n:Int)(len:Nat):Bool:=decide (0<=n)&&decide (n<len)
def cA(lo hi:Int)(len:Nat):Bool:=decide (0<=lo)&&(decide (lo<=hi)&&decide (hi<=len))
mutual
def AV.closed:AV K->Bool
 |.int .. |.bool _|.str _|.dJ|.dk|.ah .. |.rp .. |.any=>true
 |.ptr .. |.sl _|.ep .. |.opt .. |.np _|.vw ..=>false
 |.fn _ l|.agg l|.bT l=>gY l
def gY:List (AV K)->Bool
 |[]=>true
 |v::r=>v.closed&&gY r
end
def wW(H:List (Ob K)):AV K->AV K
 |.sl h=>match H[h]? with
   |some (.arr c l)=>.ah c l
   |some (.hZ c l)=>.ah c l
   |some (.tree c l)=>.ah c l
   |_=>.any
 |v=>v
mutual
def iG(D:bN K)(H:List (Ob K)):AV K->AV K
 |.sl h=>match H[h]? with
   |some (.arr c l)=>.ah c l
   |some (.hZ c l)=>.ah c l
   |some (.tree c l)=>.ah c l
   |_=>.any
 |.ptr h off=>match H[h]? with
   |some (.box cs)=>match D.find (cs.map (wW H))with
    |some c=>match D.dec c (cs.map (wW H))with
     |some (x,true)=>.rp c x off
     |_=>.any
    |none=>.any
   |_=>.any
 |.vw h st lo hi=>match H[h]? with
   |some (.arr c l)=>if st=K.sz c then .ah c ((l.take hi).drop lo)else .any
   |some (.tree c l)=>if st=K.sz c then .ah c ((l.take hi).drop lo)else .any
   |_=>.any
 |.fn g l=>.fn g (lV D H l)
 |.agg l=>.agg (lV D H l)
 |.bT l=>.bT (lV D H l)
 |v=>v
def lV(D:bN K)(H:List (Ob K)):List (AV K)->List (AV K)
 |[]=>[]
 |v::r=>iG D H v::lV D H r
end
def elems(H:List (Ob K))(c:K.U):AV K->Option (List (K.El c))
 |.dk=>some []
 |.ah c' l=>match K.jP c' c with
   |.isTrue h=>some (h ▸ l)
   |.isFalse _=>none
 |.sl h=>match H[h]? with
   |some (.arr c' l)=>match K.jP c' c with
    |.isTrue h=>some (h ▸ l)
    |.isFalse _=>none
   |_=>none
 |_=>none
def setCells(cs:List (AV K))(off:Nat):List (AV K)->List (AV K)
 |[]=>cs
 |v::r=>setCells (cs.set off v) (off+1) r
mutual
def hands:AV K->List Nat
 |.ptr h _|.sl h|.ep h _ _ _|.np h|.vw h _ _ _=>[h]
 |.agg l|.bT l|.fn _ l=>cn l
 |_=>[]
def cn:List (AV K)->List Nat
 |[]=>[]
 |v::r=>hands v++cn r
end
def xc(H:List (Ob K))(h:Nat):List (Ob K):=
 match H[h]? with
 |some (.arr c l)=>H.set h (.hZ c l)
 |some (.tree c l)=>H.set h (.hZ c l)
 |_=>H
def iQ(H:List (Ob K)):List Nat->List (Ob K)
 |[]=>H
 |h::r=>iQ (xc H h) r
mutual
def eG(H:List (Ob K)):AV K->AV K
 |.sl h=>match H[h]? with
   |some (.hZ c l)=>.ah c l
   |_=>.sl h
 |.agg l=>.agg (pF H l)
 |.bT l=>.bT (pF H l)
 |v=>v
def pF(H:List (Ob K)):List (AV K)->List (AV K)
 |[]=>[]
 |v::r=>eG H v::pF H r
end
def thaw(dp:K.U->Bool)(H:List (Ob K)):List (Option K.U)->List (AV K)->List (AV K)×List (Ob K)
 |some c::cs,.dk::r=>match thaw dp (H++[cond (dp c) (.tree c []) (.arr c [])]) cs r with
  |(l,H')=>(.sl H.length::l,H')
 |_::cs,v::r=>match thaw dp H cs r with
  |(l,H')=>(v::l,H')
 |[],l=>(l,H)
 |_,[]=>([],H)
def fy(dp:K.U->Bool)(H:List (Ob K)):List (List (Option K.U))->List (AV K)->List (AV K)×List (Ob K)
 |cs::css,.agg l::r=>match thaw dp H cs l with
  |(l',H1)=>match fy dp H1 css r with
   |(s,H2)=>(.agg l'::s,H2)
 |cs::css,v::r=>match thaw dp H cs [v]with
  |(l',H1)=>match fy dp H1 css r with
   |(s,H2)=>(l'.headD v::s,H2)
 |[],l=>(l,H)
 |_,[]=>([],H)
def k7:List (AV K)->Bool
 |.np _::_=>true
 |_=>false
def ES(b:Bool)(h:Nat):List (AV K)->List (AV K)
 |.dJ::r=>cond b (.np h) .dJ::r
 |l=>l
mutual
def iF:AV K->Bool
 |.ah .. |.rp ..=>true
 |.agg l|.bT l|.fn _ l=>cQ l
 |_=>false
def cQ:List (AV K)->Bool
 |[]=>false
 |v::r=>iF v||cQ r
end
def K4(P:Program)(D:bN K)(H:List (Ob K))(t:TypeId):AV K->Option (AV K)
 |.ptr h off=>match H[h]? with
   |some (.box cs)=>l7 P t cs off
   |_=>none
 |.rp c x off=>l7 P t (D.cells c x) off
 |.ep h st i off=>match H[h]? with
   |some (.arr c l)=>if st=K.sz c then l7 P t (D.cells c (l.getD i (K.zero c))) off else none
   |some (.tree c l)=>if st=K.sz c then(match l7 P t (D.cells c (l.getD i (K.zero c))) off with
     |some v=>if iF v then none else some v
     |none=>none)else none
   |_=>none
 |_=>none
def Qd(P:Program)(H:List (Ob K))(t:TypeId):AV K->Option (AV K×Bool)
 |.ep h st i off=>match H[h]? with
   |some (.opn c l i' off' cs)=>if st=K.sz c/\off'<=off then(match l7 P t (List.replicate off' .any++cs) off with
    |some v=>some (v,decide (i=i'))
    |none=>none)else none
   |_=>none
 |_=>none
def Qe(P:Program)(s:TypeId)(f:Nat)(x:AV K):Option (AV K):=
 match aj1 P s f with
 |some fd=>match dL P fd.type with
  |some (_+1)=>match x with
   |.ptr h off=>some (.ptr h (off+fd.offset))
   |.rp c x off=>some (.rp c x (off+fd.offset))
   |.ep h st i off=>some (.ep h st i (off+fd.offset))
   |_=>none
  |_=>none
 |none=>none
def Qf(P:Program)(H:List (Ob K))(t:TypeId)(x i:AV K):Option (AV K×Bool):=
 match elemOf? P t,i with
 |some e,.int _ n=>match x with
  |.ah c l=>if dL P e=some (K.sz c)then some (.rp c (l.getD n.toNat (K.zero c)) 0,inB n l.length)else none
  |.sl h=>match H[h]? with
    |some (.arr c l)=>if dL P e=some (K.sz c)then some (.ep h (K.sz c) n.toNat 0,inB n l.length)else none
    |some (.tree c l)=>if dL P e=some (K.sz c)then some (.ep h (K.sz c) n.toNat 0,inB n l.length)else none
    |_=>none
  |_=>none
 |_,_=>none
def jB(d:Int):Option (AV K)->Option Int
 |none=>some d
 |some (.int _ n)=>some n
 |some _=>none
def Qg(P:Program)(t:TypeId)(x:AV K)(lo hi:Option (AV K)):Option (AV K×Bool):=
 match P.underlying t,x with
 |some .string,.str s=>match jB 0 lo,jB s.length hi with
  |some l,some h=>some (.str ((s.take h.toNat).drop l.toNat),cA l h s.length)
  |_,_=>none
 |some (.slice e),.ah c s=>if dL P e=some (K.sz c)then match jB 0 lo,jB s.length hi with
  |some l,some h=>some (.ah c ((s.take h.toNat).drop l.toNat),cA l h s.length)
  |_,_=>none else none
 |_,_=>none
def Qh(P:Program)(H:List (Ob K))(t:TypeId)(x:AV K)(lo hi:Option (AV K)):Option (AV K×Bool):=
 match elemOf? P t,x with
 |some e,.sl h=>match H[h]? with
  |some (.arr c l)=>if dL P e=some (K.sz c)then match jB 0 lo,jB l.length hi with
   |some a,some b=>some (.vw h (K.sz c) a.toNat b.toNat,cA a b l.length)
   |_,_=>none else none
  |some (.tree c l)=>if dL P e=some (K.sz c)then match jB 0 lo,jB l.length hi with
   |some a,some b=>some (.vw h (K.sz c) a.toNat b.toNat,cA a b l.length)
   |_,_=>none else none
  |_=>none
 |_,_=>none
def xd(cx:Cx K)(ev:Operand->AV K)(H:List (Ob K)):Op->Option (AV K×Bool)
 |.move x|.assign x=>some (ev x,true)
 |.binOp op t x y _=>Qc cx.P op t (ev x) (ev y)
 |.unOp op _ x=>Qb op (ev x)
 |.convert src dst x=>match cx.P.underlying src,cx.P.underlying dst,ev x with
   |some _,some (.int k),.int _ n=>some (.int k (k.wrap n),true)
   |some _,some .string,.str s=>some (.str s,true)
   |some (.slice e),some .string,x=>match cx.P.underlying e,cx.ty e with
    |some (.int .u8),some c=>match cx.D.byte c,elems H c x with
     |some (f,_),some l=>some (.str (l.map f),true)
     |_,_=>none
    |_,_=>none
   |_,_,_=>none
 |.extract t i=>match ev t with
   |.bT l=>(l[i]?).map fun v=>(v,true)
   |_=>none
 |.fieldAddr s x f=>(Qe cx.P s f (ev x)).map fun v=>(v,true)
 |.load t p=>match K4 cx.P cx.D H t (ev p)with
   |some v=>some (v,true)
   |none=>Qd cx.P H t (ev p)
 |.indexAddr t x i=>Qf cx.P H t (ev x) (ev i)
 |.index t x i=>match cx.P.underlying t,ev x,ev i with
   |some .string,.str s,.int _ n=>some (.int .u8 ((s.getD n.toNat 0).toNat:Int),inB n s.length)
   |_,_,_=>none
 |.slice t x lo hi none=>match Qg cx.P t (ev x) (lo.map ev) (hi.map ev)with
   |some r=>some r
   |none=>if cx.vws&&(hi.isSome|| !cx.cut)then Qh cx.P H t (ev x) (lo.map ev) (hi.map ev)else none
 |.nilCheck x=>match ev x with
   |.ptr h o=>some (.ptr h o,true)
   |.rp c x o=>some (.rp c x o,true)
   |.ep h s i o=>some (.ep h s i o,true)
   |_=>none
 |.makeFunc (.func f) first caps=>if first.isEmpty then some (.fn f (caps.toList.map ev),true)else none
 |.call {callee:=.builtin .len,args,argTypes}=>match args.toList,argTypes.toList with
   |[x],[t]=>match cx.P.underlying t,ev x with
     |some .string,.str s=>some (.int .i64 (s.length:Int),true)
     |some (.slice _),.dk=>some (.int .i64 0,true)
     |some (.slice _),.ah _ l=>some (.int .i64 (l.length:Int),true)
     |some (.slice _),.vw _ _ a b=>some (.int .i64 ((b-a:Nat):Int),true)
     |some (.slice _),.sl h=>match H[h]? with
      |some (.arr _ l)=>some (.int .i64 (l.length:Int),true)
      |some (.tree _ l)=>some (.int .i64 (l.length:Int),true)
      |_=>none
     |_,_=>none
   |_,_=>none
 |.call {callee:=.builtin .min,args, ..}=>match args.toList with
   |[x,y]=>match ev x,ev y with
     |.int k a,.int k' b=>if k=k' then some (.int k (cond (decide (b<a)) b a),true)else none
     |_,_=>none
   |_=>none
 |.call {callee:=.builtin .max,args, ..}=>match args.toList with
   |[x,y]=>match ev x,ev y with
     |.int k a,.int k' b=>if k=k' then some (.int k (cond (decide (a<b)) b a),true)else none
     |_,_=>none
   |_=>none
 |_=>none
def aj2(D:bN K)(c:K.U)(e:TypeId):Bool:=match D.mF c with
 |none=>true
 |some t=>t==e
def qQ(cx:Cx K)(e:TypeId):Option K.U:=match cx.ty e with
 |some c=>if aj2 cx.D c e then some c else none
 |none=>none
def room(e:TypeId)(P:Program):Bool:=match P.info? e with
 |some i=>decide (i.bytes<=4096)
 |none=>false
def pC(D:bN K)(c:K.U):List (AV K)->Option (List (K.El c)×Bool)
 |[]=>some ([],true)
 |v::r=>match D.dec c v.cq,pC D c r with
  |some (x,b),some (l,b')=>some (x::l,b&&b')
  |_,_=>none
def inOrder(ev:Operand->AV K):Nat->List (Nat×Operand)->Option (List (AV K))
 |_,[]=>some []
 |n,(i,x)::r=>if i=n then(inOrder ev (n+1) r).map (ev x::·)else none
def placesOf(P:Program)(t:TypeId):Option (List (Nat×Nat)):=
 match P.underlying t with
 |some (.struct fs)=>fs.toList.mapM (fun f=>(P.info? f.type).map fun i=>(f.offset,i.size))
 |_=>none
def zI(places:List (Nat×Nat))(ev:Operand->AV K)(cs:List (AV K)):List (Nat×Operand)->Option (List (AV K))
 |[]=>some cs
 |(i,x)::r=>match places[i]? with
  |some (off,n)=>if(ev x).known=true/\(ev x).cq.length=n/\off+n<=cs.length then zI places ev (setCells cs off (ev x).cq) r else none
  |none=>none
def nF(P:Program)(t:TypeId):Bool:=match P.info? t with
 |some i=>match i.zero with
  |some v=>v.cells.size==i.size
  |none=>false
 |none=>false
def source(D:bN K)(H:List (Ob K))(c:K.U):AV K->Option (List (K.El c))
 |.str s=>match D.byte c with
   |some (_,g)=>some (s.map g)
   |none=>none
 |v=>elems H c v
def K5(cx:Cx K)(H:List (Ob K))(sT:TypeId)(s x:AV K):Option (AV K×List (Ob K)×Bool×List Nat):=
 match elemOf? cx.P sT with
 |none=>none
 |some e=>match qQ cx e with
  |none=>none
  |some c=>if dL cx.P e=some (K.sz c)/\room e cx.P=true/\nF cx.P e=true then
    match source cx.D H c x with
    |none=>none
    |some m=>match s with
     |.dk=>some (.sl H.length,H++[.arr c m],decide (m.length<=1073741824),[])
     |.sl h=>match x with
       |.sl h'=>if h=h' then none else match elems H c (.sl h)with
         |some l=>some (.sl H.length,H.set h .dead++[.arr c (l++m)],decide (l.length+m.length<=1073741824),[h])
         |none=>none
       |_=>match elems H c (.sl h)with
        |some l=>some (.sl H.length,H.set h .dead++[.arr c (l++m)],decide (l.length+m.length<=1073741824),[h])
        |none=>none
     |_=>none
   else none
def lp(ev:Operand->AV K):Op->List Nat
 |.buildSlice _ _ parts=>cn (parts.toList.map fun p=>ev p.2)
 |.store _ p x=>match ev p with
   |.ep ..=>hands (ev x)
   |_=>[]
 |.slice _ x _ _ _=>match ev x with
   |.sl h=>[h]
   |_=>[]
 |_=>[]
def xe(cx:Cx K)(ev:Operand->AV K)(H:List (Ob K)):Op->Option (AV K×List (Ob K)×Bool×List Nat)
 |.box t x=>if(ev x).known then match thaw cx.deep H (cx.m5 t) (ev x).cq with
     |(cs,H1)=>if k7 cs then none else some (.ptr H1.length 0,H1++[.box cs],true,[])else none
 |.alloc t=>match(zeroOf cx.P t:Option (AV K))with
   |some z=>if z.known then match thaw cx.deep H (cx.m5 t) z.cq with
    |(cs,H1)=>if k7 cs then none else some (.ptr H1.length 0,H1++[.box (ES (cx.D.qJ==some t) H1.length cs)],true,[])else none
   |none=>none
 |.build t parts=>match placesOf cx.P t,(zeroOf cx.P t:Option (AV K))with
   |some ps,some z=>if z.known then(zI ps ev z.cq parts.toList).map fun cs=>(.agg cs,H,true,[])else none
   |_,_=>none
 |.store t p x=>match dL cx.P t with
   |some n=>if(ev x).cq.length=n/\(ev x).cq.all AV.one=true then match ev p with
    |.ptr h off=>match H[h]? with
      |some (.box cs)=>if off+n<=cs.length then match thaw cx.deep H (cx.m5 t) (ev x).cq with
       |(xs,H1)=>if k7 (setCells cs off xs)&& !k7 cs then none else some (.any,H1.set h (.box (setCells cs off xs)),true,[h])else none
      |_=>none
    |.ep h st i off=>match H[h]? with
      |some (.arr c l)=>if st=K.sz c/\gY (ev x).cq=true/\off+n<=K.sz c then
        match cx.D.dec c (setCells (cx.D.cells c (l.getD i (K.zero c))) off (ev x).cq)with
        |some (y,b)=>some (.any,H.set h (.arr c (l.set i y)),b,[h])
        |none=>none
       else none
      |_=>none
    |_=>none else none
   |none=>none
 |.makeSlice t len cap=>match elemOf? cx.P t with
   |none=>none
   |some e=>match qQ cx e,(zeroOf cx.P e:Option (AV K)),ev len,ev cap with
    |some c,some z,.int _ n,.int _ m=>if dL cx.P e=some (K.sz c)/\room e cx.P=true/\gY z.cq=true/\z.known=true then
      match cx.D.dec c z.cq with
      |some (y,b)=>some (.sl H.length,H++[.arr c (List.replicate n.toNat y)],b&&(decide (0<=n)&&(decide (n<=m)&&decide (m<=1073741824))),[])
      |none=>none
     else none
    |_,_,_,_=>none
 |.buildSlice t len parts=>match elemOf? cx.P t with
   |none=>none
   |some e=>match qQ cx e,inOrder ev 0 parts.toList with
    |some c,some l=>if dL cx.P e=some (K.sz c)/\nF cx.P e=true/\l.length=len/\len<=4096/\K.sz c<=4096/\l.all (fun v=>gY v.cq&&(v.known&&decide (v.cq.length=K.sz c)))=true then
      match pC cx.D c l with
      |some (y,b)=>some (.sl H.length,H++[.arr c y],b,[])
      |none=>none
     else none
    |_,_=>none
 |.convert src dst x=>match cx.P.underlying src,elemOf? cx.P dst,ev x with
   |some .string,some e,.str s=>match cx.P.underlying e,qQ cx e with
    |some (.int .u8),some c=>match cx.D.byte c with
     |some (_,g)=>if dL cx.P e=some (K.sz c)then some (.sl H.length,H++[.arr c (s.map g)],decide (s.length<=1073741824),[])else none
     |none=>none
    |_,_=>none
   |_,_,_=>none
 |.call {callee:=.builtin .append,args,argTypes}=>match args.toList,argTypes.toList with
   |[s,x],[sT,xT]=>if(KZ cx.P xT).isSome||(cx.P.underlying xT).isNone then none else K5 cx H sT (ev s) (ev x)
   |_,_=>none
 |_=>none
mutual
def qI:AV K->Bool
 |.sl _|.ptr .. |.ep .. |.np _|.vw ..=>true
 |.agg l|.bT l|.fn _ l=>wT l
 |_=>false
def wT:List (AV K)->Bool
 |[]=>false
 |v::r=>qI v||wT r
end
mutual
def fx(f:Nat->Option Nat):AV K->Option (AV K)
 |.ptr h o=>(f h).map (.ptr · o)
 |.sl h=>(f h).map .sl
 |.np h=>(f h).map .np
 |.ep h s i o=>(f h).map (.ep · s i o)
 |.vw h s a b=>(f h).map (.vw · s a b)
 |.fn g l=>(jh f l).map (.fn g)
 |.agg l=>(jh f l).map .agg
 |.bT l=>(jh f l).map .bT
 |.opt ..=>none
 |v=>some v
def jh(f:Nat->Option Nat):List (AV K)->Option (List (AV K))
 |[]=>some []
 |v::r=>match fx f v,jh f r with
  |some x,some l=>some (x::l)
  |_,_=>none
end
def ren(m:List Nat):AV K->Option (AV K):=fx fun h=>m.idxOf? h
def aj3(m:List Nat):List (AV K)->Option (List (AV K)):=jh fun h=>m.idxOf? h
def back(m:List Nat):AV K->Option (AV K):=fx fun h=>m[h]?
def aA8(m:List Nat):List (AV K)->Option (List (AV K)):=jh fun h=>m[h]?
def ku(f:Nat->Option Nat):Ob K->Option (Ob K)
 |.box cs=>(jh f cs).map .box
 |.opn ..=>none
 |o=>some o
def Ky(m:List Nat):Ob K->Option (Ob K):=ku fun h=>m.idxOf? h
def wS(m:List Nat):Ob K->Option (Ob K):=ku fun h=>m[h]?
def mE(f:Ob K->Option (Ob K)):List (Ob K)->Option (List (Ob K))
 |[]=>some []
 |o::r=>match f o,mE f r with
  |some x,some l=>some (x::l)
  |_,_=>none
def reach(H:List (Ob K)):Nat->List Nat->List Nat->List Nat
 |0,_,acc=>acc
 |_,[],acc=>acc
 |n+1,h::r,acc=>if acc.contains h then reach H n r acc else
   reach H n (r++(match H[h]? with|some (.box cs)=>cn cs|_=>[])) (acc++[h])
def wR(H:List (Ob K)):List Nat->Bool
 |[]=>true
 |h::m=>decide (h<H.length)&&(!m.contains h&&wR H m)
def ji:List (Ob K)->List Nat->List (Ob K)->List (Ob K)
 |H,h::m,o::r=>ji (H.set h o) m r
 |H,_,_=>H
def ajn(D:bN K):Ob K->Bool
 |.arr c _=> !cQ (D.cells c (K.zero c))
 |.tree ..=>true
 |_=>false
def k9(cx:Cx K)(m:Mode)(H:List (Ob K))(f:FuncId)(args:List (AV K)):Option (AV K×List (Ob K)×Bool×List Nat):=
 match m with
 |.plain=>if gY (lV cx.D H args)then match cx.call f (lV cx.D H args) []with
     |some (r,[],c)=>if r.closed&&(!iF r|| !wT args)then some (r,H,c,[])else none
     |_=>none else none
 |.iG=>if gY (lV cx.D H args)&& !wT args then match cx.call f (lV cx.D H args) []with
     |some (r,Hn,c)=>match back ((List.range Hn.length).map (H.length+·)) r,mE (wS ((List.range Hn.length).map (H.length+·))) Hn with
      |some r',some wU=>some (r',H++wU,c,[])
      |_,_=>none
     |none=>none else none
 |.fresh=>if gY (lV cx.D H args)then match cx.call f (lV cx.D H args) []with
     |some (r,Hn,c)=>if !iF r&&Hn.all (ajn cx.D)then match back ((List.range Hn.length).map (H.length+·)) r,mE (wS ((List.range Hn.length).map (H.length+·))) Hn with
      |some r',some wU=>some (r',H++wU,c,[])
      |_,_=>none else none
     |none=>none else none
 |.ez|.m6=>none
 |.pass=>if !wR H (reach H 64 (cn args) [])then none else match aj3 (reach H 64 (cn args) []) args,mE (Ky (reach H 64 (cn args) [])) ((reach H 64 (cn args) []).map fun h=>H.getD h .dead)with
     |some args',some Hi=>match cx.call f args' Hi with
      |some (r,Ho,c)=>
       match back (reach H 64 (cn args) []++(List.range (Ho.length-Hi.length)).map (H.length+·)) r,mE (wS (reach H 64 (cn args) []++(List.range (Ho.length-Hi.length)).map (H.length+·))) Ho with
       |some r',some ia=>if Hi.length<=Ho.length then some (r',ji H (reach H 64 (cn args) []) (ia.take Hi.length)++ia.drop Hi.length,c,reach H 64 (cn args) [])else none
       |_,_=>none
      |none=>none
     |_,_=>none
def wV(cx:Cx K)(m:Mode)(H:List (Ob K))(f:FuncId)(args:List (AV K)):Option (AV K×List (Ob K)×Bool×List Nat):=
 k9 cx m (iQ H (cn args)) f (pF (iQ H (cn args)) args)
def qH(q:Bool)(cx:Cx K)(H:List (Ob K))(f:FuncId)(args:List (AV K)):Option (AV K×List (Ob K)×Bool×List Nat):=
 match cx.mode f with
 |.plain=>k9 cx .plain H f args
 |.ez=>match k9 cx .plain H f args with
   |some r=>some r
   |none=>if q then none else wV cx .plain H f args
 |.iG=>if q then none else wV cx .iG H f args
 |.pass=>if q then none else k9 cx .pass H f args
 |.m6=>if q then none else wV cx .pass H f args
 |.fresh=>if q then none else match k9 cx .iG H f args with
   |some r=>some r
   |none=>match k9 cx .fresh H f args with
    |some r=>some r
    |none=>wV cx .iG H f args
def ky:List Nat->Bool
 |[]=>true
 |x::r=> !r.contains x&&ky r
def KH(D:bN K)(H:List (Ob K)):AV K->Option (AV K)
 |.sl h=>match H[h]? with
   |some (.arr c l)=>if cQ (D.cells c (K.zero c))then none else some (.ah c l)
   |some (.tree c l)=>some (.ah c l)
   |_=>none
 |.dk=>some .dk
 |.int k n=>some (.int k n)
 |.bool b=>some (.bool b)
 |.str s=>some (.str s)
 |.dJ=>some .dJ
 |_=>none
def lh(D:bN K)(H:List (Ob K)):List (AV K)->Option (List (AV K))
 |[]=>some []
 |v::r=>match KH D H v,lh D H r with
  |some x,some l=>some (x::l)
  |_,_=>none
def zu(D:bN K)(H:List (Ob K)):List (AV K)->Option (List (AV K))
 |[]=>some []
 |v::r=>match lh D H v.cq,zu D H r with
  |some cs,some l=>some (.agg cs::l)
  |_,_=>none
def fj(H:List (Ob K)):List Nat->List (Ob K)
 |[]=>H
 |h::r=>fj (H.set h .dead) r
def qN(H:List (Ob K))(c:K.U):AV K->Option (List (K.El c)×List Nat)
 |.dk=>some ([],[])
 |.sl h=>match H[h]? with
   |some (.tree c' l)=>match K.jP c' c with
    |.isTrue e=>some (e ▸ l,[h])
    |.isFalse _=>none
   |_=>none
 |_=>none
def zA(cx:Cx K)(ev:Operand->AV K)(H:List (Ob K)):Op->Option (AV K×List (Ob K)×Bool×List Nat)
 |.makeSlice t len cap=>match elemOf? cx.P t with
   |none=>none
   |some e=>match qQ cx e,(zeroOf cx.P e:Option (AV K)),ev len,ev cap with
    |some c,some z,.int _ n,.int _ m=>if cx.deep c=true/\dL cx.P e=some (K.sz c)/\room e cx.P=true/\z.known=true then
      match lh cx.D [] z.cq with
      |some zs=>match cx.D.dec c zs with
       |some (y,b)=>some (.sl H.length,H++[.tree c (List.replicate n.toNat y)],b&&(decide (0<=n)&&(decide (n<=m)&&decide (m<=1073741824))),[])
       |none=>none
      |none=>none
     else none
    |_,_,_,_=>none
 |.buildSlice t len parts=>match elemOf? cx.P t with
   |none=>none
   |some e=>match qQ cx e,inOrder ev 0 parts.toList with
    |some c,some l=>if cx.deep c=true/\dL cx.P e=some (K.sz c)/\nF cx.P e=true/\l.length=len/\len<=4096/\K.sz c<=4096/\l.all (fun v=>v.known&&decide (v.cq.length=K.sz c))=true/\ky (cn l)=true then
      match zu cx.D H l with
      |some l'=>match pC cx.D c l' with
       |some (y,b)=>some (.sl H.length,fj H (cn l)++[.tree c y],b,cn l)
       |none=>none
      |none=>none
     else none
    |_,_=>none
 |.store t p x=>match ev p,dL cx.P t with
   |.ep h st i off,some n=>match H[h]? with
     |some (.tree c l)=>if st=K.sz c/\off+n<=K.sz c/\(ev x).cq.length=n/\(ev x).cq.all AV.one=true/\ky (h::cn (ev x).cq)=true then
       match lh cx.D H (ev x).cq with
       |some xs=>match cx.D.dec c (setCells (cx.D.cells c (l.getD i (K.zero c))) off xs)with
        |some (y,b)=>some (.any,(fj H (h::cn (ev x).cq)).set h (.tree c (l.set i y)),b,h::cn (ev x).cq)
        |none=>none
       |none=>none
      else none
     |some (.opn c l i' off' cs)=>if st=K.sz c/\off=off'/\n=cs.length/\(ev x).cq.length=n/\(ev x).cq.all AV.one=true/\ky (h::cn (ev x).cq)=true then
       match lh cx.D H (ev x).cq with
       |some xs=>match cx.D.dec c (setCells (cx.D.cells c (l.getD i (K.zero c))) off xs)with
        |some (y,b)=>some (.any,(fj H (h::cn (ev x).cq)).set h (.tree c (l.set i y)),b&&decide (i=i'),h::cn (ev x).cq)
        |none=>none
       |none=>none
      else none
     |_=>none
   |_,_=>none
 |.call {callee:=.builtin .append,args,argTypes}=>match args.toList,argTypes.toList with
   |[s,x],[sT,xT]=>if(KZ cx.P xT).isSome||(cx.P.underlying xT).isNone then none else match elemOf? cx.P sT with
     |none=>none
     |some e=>match qQ cx e with
      |none=>none
      |some c=>if cx.deep c=true/\dL cx.P e=some (K.sz c)/\room e cx.P=true/\nF cx.P e=true then
        match qN H c (ev s),qN H c (ev x)with
        |some (l,hs),some (m,hs')=>if ky (hs++hs')then some (.sl H.length,fj H (hs++hs')++[.tree c (l++m)],decide (l.length+m.length<=1073741824),hs++hs')else none
        |_,_=>none
       else none
   |_,_=>none
 |_=>none
def tN(D:bN K)(dp:K.U->Bool):Nat->List (AV K)->Option (List (AV K)×List (Ob K))
 |_,[]=>some ([],[])
 |n,.ah c l::r=>if dp c|| !cQ (D.cells c (K.zero c))then match tN D dp (n+1) r with
    |some (cs,os)=>some (.sl n::cs,cond (dp c) (.tree c l) (.arr c l)::os)
    |none=>none
  else none
 |n,v::r=>match tN D dp n r with
    |some (cs,os)=>some (v::cs,os)
    |none=>none
def zC(cx:Cx K)(ev:Operand->AV K)(H:List (Ob K)):Op->Option (AV K×List (Ob K)×Bool×List Nat)
 |.load t p=>if cx.opn then match ev p,K3 cx.P t,dL cx.P t with
     |.ep h st i off,some ag,some n=>match H[h]? with
       |some (.tree c l)=>if st=K.sz c/\off+n<=K.sz c/\0<n then match tN cx.D cx.deep H.length (((cx.D.cells c (l.getD i (K.zero c))).drop off).take n)with
         |some (cs,os)=>some (cond ag (.agg cs) (cs.getD 0 .any),H.set h (.opn c l i off cs)++os,true,[h])
         |none=>none
        else none
       |_=>none
     |_,_,_=>none
   else none
 |_=>none
def Qi:List (Ob K)->Option Nat
 |[]=>none
 |.opn ..::_=>some 0
 |_::r=>(Qi r).map (· +1)
def shut(D:bN K)(H:List (Ob K)):Option (List (Ob K)×Bool×List Nat):=
 match Qi H with
 |none=>some (H,true,[])
 |some h=>match H[h]? with
  |some (.opn c l i off cs)=>if ky (h::cn cs)=true then match lh D H cs with
    |some xs=>match D.dec c (setCells (D.cells c (l.getD i (K.zero c))) off xs)with
     |some (y,b)=>some ((fj H (h::cn cs)).set h (.tree c (l.set i y)),b,h::cn cs)
     |none=>none
    |none=>none
   else none
  |_=>none
def zE(q:Bool)(cx:Cx K)(H:List (Ob K))(f:FuncId)(args:List (AV K)):Option (AV K×List (Ob K)×Bool×List Nat):=
 if cx.opn&& !cx.lz&& !q then match qH q cx H f args with
  |some (r,H1,c,t)=>match shut cx.D H1 with
   |some (H2,b,t2)=>some (r,H2,c&&b,t++t2)
   |none=>none
  |none=>none
 else qH q cx H f args
def guardOf(ops:List Oper)(o:Oper):Option (Option (Nat×Bool)):=
 match o.guard with
 |none=>some none
 |some (j,w)=>match ops[j]? with
  |some g=>match g.dst with
   |some t=>some (some (t,w))
   |none=>none
  |none=>none
def xf(st:St K)(wr:List Nat)(dst:Option Nat)(v:AV K)(H:List (Ob K))(ok:Bool):Option (St K×List Nat):=
 match dst with
 |none=>some (⟨st.tm,H,ok⟩,wr)
 |some d=>if wr.contains d||decide (st.tm.length<=d)then none else some (⟨st.tm.set d v,H,ok⟩,d::wr)
def zB(cx:Cx K)(ev:Operand->AV K)(H:List (Ob K))(op:Op):Option (AV K×List (Ob K)×Bool×List Nat):=
 match zA cx (fun x=>eG H (ev x)) H op with
 |some r=>some r
 |none=>match lp ev op with
 |[]=>xe cx (fun x=>eG H (ev x)) H op
 |hs=>match xd cx (fun x=>eG (iQ H hs) (ev x)) (iQ H hs) op with
  |some (v,c)=>some (v,iQ H hs,c,[])
  |none=>xe cx (fun x=>eG (iQ H hs) (ev x)) (iQ H hs) op
def Qj:Operand->Bool
 |.const (.slice none 0 0)=>true
 |_=>false
def iR(cx:Cx K):Op->Bool
 |.assign x=> !Qj x
 |.slice t ..=>aj0 cx.P t
 |.load t _=> !cx.opn||(cx.lz&&(cx.m5 t).all Option.isNone)
 |.makeFunc .. |.move _|.pick .. |.binOp .. |.unOp .. |.extract .. |.fieldAddr .. |.indexAddr .. |.index .. |.nilCheck _=>true
 |.convert _ dst _=>(elemOf? cx.P dst).isNone
 |.call {callee:=.builtin .len, ..}|.call {callee:=.builtin .min, ..}|.call {callee:=.builtin .max, ..}=>true
 |.call {callee:=.value (.func f), ..}=>cx.mode f== .plain&&(!cx.opn||cx.lz)
 |_=>false
def cutV(cx:Cx K)(ev:Operand->AV K)(H:List (Ob K)):Op->Option (AV K×List (Ob K)×Bool×List Nat)
 |.slice t x none (some y) none=>if cx.cut then match ev x,ev y,elemOf? cx.P t with
   |.sl h,.int _ n,some e=>match H[h]? with
     |some (.arr c l)=>if dL cx.P e=some (K.sz c)then some (.sl H.length,H.set h .dead++[.arr c (l.take n.toNat)],cA 0 n l.length,[h])else none
     |some (.tree c l)=>if dL cx.P e=some (K.sz c)then some (.sl H.length,H.set h .dead++[.tree c (l.take n.toNat)],cA 0 n l.length,[h])else none
     |_=>none
   |_,_,_=>none else none
 |.slice t x (some y) none none=>if cx.cut then match ev x,ev y,elemOf? cx.P t with
   |.sl h,.int _ n,some e=>match H[h]? with
     |some (.arr c l)=>if dL cx.P e=some (K.sz c)/\cx.D.mF c=none then some (.sl H.length,H.set h .dead++[.arr c (l.drop n.toNat)],cA n l.length l.length,[h])else none
     |some (.tree c l)=>if dL cx.P e=some (K.sz c)/\cx.D.mF c=none then some (.sl H.length,H.set h .dead++[.tree c (l.drop n.toNat)],cA n l.length l.length,[h])else none
     |_=>none
   |_,_,_=>none else none
 |_=>none
def ET(cx:Cx K)(ev:Operand->AV K)(H:List (Ob K)):Op->Option (AV K×List (Ob K)×Bool×List Nat)
 |.buildSlice t len parts=>match elemOf? cx.P t with
   |none=>none
   |some e=>match cx.ty e,inOrder ev 0 parts.toList with
    |some c,some l=>if dL cx.P e=some (K.sz c)/\nF cx.P e=true/\l.length=len/\len<=4096/\K.sz c<=4096/\l.all (fun v=>gY v.cq&&(v.known&&decide (v.cq.length=K.sz c)))=true then
      match pC cx.D c l with
      |some (y,b)=>some (.ah c y,H,b,[])
      |none=>none
     else none
    |_,_=>none
 |_=>none
def lq(q:Bool)(cx:Cx K)(tm:List (AV K))(gs:List (Nat×Bool))(H:List (Ob K))(T:TypeId):Op->Option (AV K×List (Ob K)×Bool×List Nat)
 |.pick c x y=>match c,dM tm gs c with
   |.tmp t,.bool b=>match known cx t with
     |some b0=>some (cond b0 (dM tm gs x) (dM tm gs y),H,b==b0,[])
     |none=>some (merge b (dM tm ((t,true)::gs) x) (dM tm ((t,false)::gs) y),H,true,[])
   |.const _,.bool b=>some (merge b (dM tm gs x) (dM tm gs y),H,true,[])
   |_,_=>none
 |.call {callee:=.value f,args, ..}=>match dM tm gs f with
   |.fn g caps=>zE q cx H g (args.toList.map (fun x=>eG H (dM tm gs x))++caps)
   |_=>none
 |.assign x=>if !q&&Qj x then match elemOf? cx.P T with
     |some e=>match cx.ty e with
      |some c=>some (.sl H.length,H++[cond (cx.deep c) (.tree c []) (.arr c [])],true,[])
      |none=>some (dM tm gs x,H,true,[])
     |none=>some (dM tm gs x,H,true,[])
   else some (eG H (dM tm gs x),H,true,[])
 |op=>match xd cx (fun x=>eG H (dM tm gs x)) H op with
  |some (v,c)=>some (v,H,c,[])
  |none=>if q then ET cx (fun x=>eG H (dM tm gs x)) H op else if iR cx op then none else match zC cx (dM tm gs) H op with
   |some r=>some r
   |none=>match cutV cx (dM tm gs) H op with
   |some r=>some r
   |none=>zB cx (dM tm gs) H op
def nJ(cx:Cx K):Op->Bool
 |.assign _=>true
 |.slice t ..=> !cx.cut||aj0 cx.P t
 |.call {callee:=.value (.func f), ..}=>cx.mode f== .plain||cx.mode f== .ez
 |op=>iR cx op
def aA9(cx:Cx K):Op->Bool
 |.buildSlice ..=>true
 |op=>nJ cx op
def iH(q:Bool)(cx:Cx K)(ops:List Oper)(tm:List (AV K))(H:List (Ob K))(wr:List Nat)(o:Oper):Option (AV K×List (Ob K)×Bool):=
 match guardOf ops o with
 |none=>none
 |some none=>match lq q cx tm [] H o.type o.op with
  |some (v,H',c,_)=>if v.jj then none else some (v,H',c)
  |none=>none
 |some (some (g,w))=>match known cx g with
  |some b0=>match tm[g]? with
   |some (.bool b)=>if b0=w then match lq q cx tm [] H o.type o.op with
     |some (v,H',c,_)=>if v.jj then none else some (v,H',c&&(b==b0))
     |none=>none
    else some (.any,H,b==b0)
   |_=>none
  |none=>match zk tm 6 (g,w)with
   |none=>none
   |some b=>if aA9 cx o.op&&wr.contains g then match lq true cx tm [(g,w)] H o.type o.op with
     |some (v,_,c,_)=>some (.opt g w v,H,c|| !b)
     |none=>none else none
def zJ(cx:Cx K)(ops:List Oper)(st:St K)(wr:List Nat)(o:Oper):Option (St K×List Nat):=
 match iH false cx ops st.tm st.H wr o with
 |some (v,H',c)=>xf st wr o.dst v H' (c&&st.ok)
 |none=>none
def lr(cx:Cx K)(ops:List Oper):List Oper->St K->List Nat->Option (St K×List Nat)
 |[],st,wr=>some (st,wr)
 |o::r,st,wr=>match zJ cx ops st wr o with
  |some (st',wr')=>lr cx ops r st' wr'
  |none=>none
def jk(tm:List (AV K)):List Nat->List (AV K)
 |[]=>tm
 |d::r=>match tm[d]? with
  |some (.opt ..)=>jk (tm.set d .any) r
  |_=>jk tm r
def iq:List Oper->List Nat->List Nat
 |[],acc=>acc
 |o::r,acc=>iq r (acc++[o.after.toList.foldl (fun s e=>s|||2^e.on|||acc.getD e.on 0) 0])
def eS(bits:Nat):List Oper->Nat->List (AV K)->List (AV K)
 |[],_,tm=>tm
 |o::r,i,tm=>eS bits r (i+1) (match o.dst with
  |some d=>if bits.testBit i then tm else tm.set d .any
  |none=>tm)
def EU(i:Nat):Nat->List Nat->Nat
 |_,[]=>0
 |k,b::r=>(cond (b.testBit i) (2^k) 0)|||EU i (k+1) r
def ff(bs:List Nat)(i:Nat):Nat:=bs.getD i 0|||EU i 0 bs
def mG(cx:Cx K)(ops:List Oper)(bs:List Nat):List Oper->Nat->St K->List Nat->Option (St K×List Nat)
 |[],_,st,wr=>some (st,wr)
 |o::r,i,st,wr=>match iH true cx ops (eS (ff bs i) ops 0 st.tm) st.H wr o with
  |some (v,_,c)=>match xf st wr o.dst v st.H (c&&st.ok)with
   |some (st',wr')=>mG cx ops bs r (i+1) st' wr'
   |none=>none
  |none=>none
def jV:List Oper->Nat->Bool
 |[],_=>true
 |o::r,i=>(o.after.toList.all fun e=>decide (e.on<i)&&Region.binds .any e)&&jV r (i+1)
def iI(bits:Nat):Nat->List (Ob K)->List (Ob K)
 |_,[]=>[]
 |i,o::r=>(if bits.testBit i then .dead else o)::iI bits (i+1) r
def kz(bits:Nat):Nat->List (Ob K)->List (Ob K)->List (Ob K)
 |i,o::r,o'::r'=>(if bits.testBit i then o else o')::kz bits (i+1) r r'
 |_,[],r'=>r'
 |_,_::_,[]=>[]
mutual
def AV.upto(n:Nat):AV K->Bool
 |.ptr h _|.sl h|.ep h _ _ _|.np h|.vw h _ _ _=>decide (h<n)
 |.fn _ l|.agg l|.bT l=>pG n l
 |.opt _ _ v=>v.upto n
 |_=>true
def pG(n:Nat):List (AV K)->Bool
 |[]=>true
 |v::r=>v.upto n&&pG n r
end
def Ob.upto(n:Nat):Ob K->Bool
 |.box cs=>pG n cs
 |.opn _ _ _ _ cs=>pG n cs
 |_=>true
def jl(ev:Operand->AV K)(op:Op):List Nat:=
 lp ev op++(match op with
  |.store _ p _=>hands (ev p)
  |.call {callee:=.builtin .append,args, ..}=>(match args.toList with
    |s::x::_=>hands (ev s)++hands (ev x)
    |[s]=>hands (ev s)
    |[]=>[])
  |_=>[])
def tO(cx:Cx K):Op->Bool
 |.box .. |.alloc _|.build .. |.store .. |.makeSlice .. |.buildSlice .. |.convert .. |.slice ..=>true
 |.call {callee:=.builtin .append, ..}=>true
 |.call {callee:=.value (.func f), ..}=>(cx.mode f== .fresh||(cx.mode f== .pass||cx.mode f== .m6))&&(!cx.opn||cx.lz)
 |.load ..=>cx.opn&&cx.lz
 |_=>false
def Qk(ev:Operand->AV K):Op->List Nat
 |.call {callee:=.value _,args, ..}=>cn (args.toList.map ev)
 |_=>[]
def zK(cx:Cx K)(H:List (Ob K))(ev:Operand->AV K):Op->List Nat
 |.call {callee:=.value (.func f),args, ..}=>(match cx.mode f with
   |.pass=>reach H 64 (cn (args.toList.map fun y=>eG H (ev y))) []
   |.m6=>cn (args.toList.map fun y=>eG H (ev y))++reach (iQ H (cn (args.toList.map fun y=>eG H (ev y)))) 64 (cn (pF (iQ H (cn (args.toList.map fun y=>eG H (ev y)))) (args.toList.map fun y=>eG H (ev y)))) []
   |_=>[])
 |_=>[]
def bitsOf:List Nat->Nat
 |[]=>0
 |h::r=>2^h|||bitsOf r
def zL(cx:Cx K)(ops:List Oper)(tm:List (AV K))(H:List (Ob K))(wr:List Nat)(o:Oper):Option (AV K×List (Ob K)×Bool):=
 if nJ cx o.op then iH true cx ops tm H wr o else if tO cx o.op then iH false cx ops tm H wr o else none
def pH(cx:Cx K)(tm:List (AV K))(H:List (Ob K))(op:Op):List Nat:=if nJ cx op then[]else match op with
 |.load t p=>(match xd cx (fun x=>eG H (dM tm [] x)) H (.load t p)with
   |some _=>[]
   |none=>hands (dM tm [] p))
 |op=>(jl (dM tm []) op++Qk (dM tm []) op)++zK cx H (dM tm []) op
def zM(A:Nat):Nat->List Nat->Nat
 |_,[]=>0
 |k,b::r=>(if A.testBit k then 0 else b)|||zM A (k+1) r
def K6(A:Nat)(T:List Nat):Nat->List (Nat×Nat)->Bool
 |_,[]=>true
 |i,(m,n)::r=>(A.testBit i||T.all fun h=>decide (n<=h)||m.testBit h)&&K6 A T (i+1) r
def aBa:Op->Option (List Operand)
 |.slice _ x _ _ _=>some [x]
 |.move _=>some []
 |.load _ p=>some [p]
 |.fieldAddr ..=>some []
 |.indexAddr _ x _=>some [x]
 |.nilCheck _=>some []
 |.store _ p x=>some [p,x]
 |.binOp ..=>some []
 |.unOp ..=>some []
 |_=>none
def aj6(tm:List (AV K))(n:Nat)(op:Op):Nat:=
 match aBa op with
 |none=>0
 |some l=>bitsOf ((List.range n).filter fun h=> !(cn (l.map (dM tm []))).contains h)
def qR(bs ws:List Nat)(i:Nat)(tm:List (AV K))(n:Nat)(op:Op):Nat:=zM (bs.getD i 0) 0 ws|||aj6 tm n op
def qS(cx:Cx K)(ops:List Oper)(bs:List Nat):List Oper->Nat->St K->List Nat->List (Nat×Nat)->List Nat->Option (St K×List Nat)
 |[],_,st,wr,_,_=>some (st,wr)
 |o::r,i,st,wr,ms,ws=>
  if pG st.H.length (eS (ff bs i) ops 0 st.tm)&&(iI (qR bs ws i (eS (ff bs i) ops 0 st.tm) st.H.length o.op) 0 st.H).all (Ob.upto st.H.length)then
   match zL cx ops (eS (ff bs i) ops 0 st.tm) (iI (qR bs ws i (eS (ff bs i) ops 0 st.tm) st.H.length o.op) 0 st.H) wr o with
   |none=>none
   |some (v,H',c)=>
    if(K6 (bs.getD i 0) (pH cx (eS (ff bs i) ops 0 st.tm) (iI (qR bs ws i (eS (ff bs i) ops 0 st.tm) st.H.length o.op) 0 st.H) o.op) 0 ms&&(pH cx (eS (ff bs i) ops 0 st.tm) (iI (qR bs ws i (eS (ff bs i) ops 0 st.tm) st.H.length o.op) 0 st.H) o.op).all fun h=> !(qR bs ws i (eS (ff bs i) ops 0 st.tm) st.H.length o.op).testBit h&&decide (h<st.H.length))&&decide (st.H.length<=H'.length)then
     match xf st wr o.dst v (kz (qR bs ws i (eS (ff bs i) ops 0 st.tm) st.H.length o.op) 0 st.H H') (c&&st.ok)with
     |some (st',wr')=>qS cx ops bs r (i+1) st' wr' (ms++[(qR bs ws i (eS (ff bs i) ops 0 st.tm) st.H.length o.op,st.H.length)])
       (ws++[bitsOf (pH cx (eS (ff bs i) ops 0 st.tm) (iI (qR bs ws i (eS (ff bs i) ops 0 st.tm) st.H.length o.op) 0 st.H) o.op++List.range' st.H.length (H'.length-st.H.length))])
     |none=>none
    else none
  else none
def pI(cx:Cx K)(ops:List Oper)(st:St K):Option (St K):=
 if(ops.all fun o=>nJ cx o.op)&&jV ops 0 then match mG cx ops (iq ops []) ops 0 st []with
     |some (st',wr)=>some ⟨jk st'.tm wr,st'.H,st'.ok⟩
     |none=>none
  else if jV ops 0 then match qS cx ops (iq ops []) ops 0 st [] [] []with
   |some (st',wr)=>some ⟨jk st'.tm wr,st'.H,st'.ok⟩
   |none=>none
  else none
def EV(π:List Nat)(n:Nat):Bool:=decide (π.length=n)&&(π.all (fun i=>decide (i<n))&&((List.range n).all (fun i=>π.contains i)&&ky π))
def xg(π:List Nat)(n:Nat)(o:Oper):Oper:=
 {o with after:=(o.after.filter (Region.binds .any)).map (fun e=>{e with on:=(π.idxOf? e.on).getD n}),guard:=o.guard.map fun g=>((π.idxOf? g.1).getD n,g.2)}
def permuted(π:List Nat)(ops:List Oper):List Oper:=π.map fun i=>match ops[i]? with
 |some o=>xg π ops.length o
 |none=>{dst:=none,op:=.move (.const .nilIface),type:=0,pos:= "",after:= #[],guard:=none}
def aj7(cx:Cx K)(ops:List Oper)(bs:List Nat):List Nat:=
 match(List.range ops.length).foldl (fun acc i=>match ops[i]? with
  |some o=>if tO cx o.op&&(!nJ cx o.op&& !acc.contains i)then acc++((List.range ops.length).filter fun j=>(bs.getD i 0).testBit j&& !acc.contains j)++[i]else acc
  |none=>acc) []with
 |acc=>acc++(List.range ops.length).filter fun j=> !acc.contains j
def EW(cx:Cx K)(ops:List Oper)(π:List Nat)(st:St K):Option (St K):=
 if EV π ops.length then pI cx (permuted π ops) st else none
def Ql(cx:Cx K)(ops:List Oper)(st:St K):Option (St K):=
 if jV ops 0 then match pI cx ops st with
  |some r=>some r
  |none=>EW cx ops (aj7 cx ops (iq ops [])) st
 else match EW cx ops (List.range ops.length) st with
  |some r=>some r
  |none=>EW cx ops (aj7 cx ops (iq (permuted (List.range ops.length) ops) [])) st
def l8(cx:Cx K)(ops:List Oper)(draw:Bool)(st:St K):Option (St K):=
 if draw then Ql cx ops st
 else match lr cx ops ops st []with
  |some (st',wr)=>some ⟨jk st'.tm wr,st'.H,st'.ok⟩
  |none=>none
def writes:Code->List Nat
 |.region _ ops _=>ops.toList.filterMap (·.dst)
 |.seq a b=>writes a++writes b
 |.cond _ a b=>writes a++writes b
 |.block _ c=>writes c
 |.loop c=>writes c
 |.scope c=>writes c
 |.rangeFunc _ ps a c=>ps.toList++writes a++writes c
 |_=>[]
def simple(cx:Cx K):Code->Bool
 |.skip=>true
 |.region _ ops _=>ops.toList.all fun o=>iR cx o.op
 |.seq a b=>simple cx a&&simple cx b
 |.cond _ a b=>simple cx a&&simple cx b
 |_=>false
def jm(b:Bool)(wr:List Nat):Nat->List (AV K)->List (AV K)->List (AV K)->List (AV K)
 |n,v::r,x::s,y::t=>(if wr.contains n then merge b x y else v)::jm b wr (n+1) r s t
 |_,_,_,_=>[]
def en(tm:List (AV K)):List Nat->List (AV K)->List (AV K)
 |d::r,v::s=>en (tm.set d v) r s
 |_,_=>tm
def keyOf:Code->Nat
 |.region id _ _=>id
 |.seq a _=>keyOf a
 |.cond _ a _=>keyOf a
 |.block _ c=>keyOf c
 |.loop c=>keyOf c
 |_=>0
def inLoop(H:List (Ob K))(vals:List (AV K)):Option (List Nat×List (AV K)×List (Ob K)):=
 if wR H (reach H 64 (cn vals) [])then match aj3 (reach H 64 (cn vals) []) vals,mE (Ky (reach H 64 (cn vals) [])) ((reach H 64 (cn vals) []).map fun h=>H.getD h .dead)with
  |some kA,some Hi=>some (reach H 64 (cn vals) [],kA,Hi)
  |_,_=>none
 else none
def gX(m:List Nat)(n k:Nat):List Nat:=m++(List.range (k-m.length)).map (n+·)
def K7(L:bo K)(m:List Nat)(st:St K)(vs:List (AV K))(Ho:List (Ob K)):Option (St K):=
 match aA8 (gX m st.H.length Ho.length) vs,mE (wS (gX m st.H.length Ho.length)) Ho with
 |some vs',some ia=>if m.length<=Ho.length then some ⟨en (List.replicate L.n .any) L.outs vs',ji st.H m (ia.take m.length)++ia.drop m.length,st.ok⟩else none
 |_,_=>none
def aBb(ops:List Oper):List Nat:=(ops.filterMap fun o=>match guardOf ops o with
 |some (some (g,_))=>some g
 |_=>none).eraseDups
def EX(cx:Cx K)(ops:List Oper)(draw:Bool)(st:St K):List Nat->Option (Bool×St K×St K)
 |[]=>none
 |t::r=>match l8 {cx with gs:=some (t,true)} ops draw st,l8 {cx with gs:=some (t,false)} ops draw st with
  |some s1,some s2=>match s1.tm.getD t .any with
   |.bool b=>some (b,s1,s2)
   |_=>EX cx ops draw st r
  |_,_=>EX cx ops draw st r
def zN:Ex->St K->Option (St K)
 |.normal,st=>some st
 |_,_=>none
def gh(cx:Cx K):Code->{R:Type}->St K->(Ex->St K->Option R)->Option R
 |.skip,_,st,k=>k .normal st
 |.region _ ops draw,_,st,k=>match l8 cx ops.toList draw st with
   |some st'=>k .normal st'
   |none=>match EX cx ops.toList draw st (aBb ops.toList)with
    |some (b,s1,s2)=>cond b (k .normal s1) (k .normal s2)
    |none=>if(ops.toList.all fun o=>iR cx o.op)=true then none else match l8 {cx with call:=cx.alt true,mode:=cx.K2 true} ops.toList draw st,l8 {cx with call:=cx.alt false,mode:=cx.K2 false} ops.toList draw st with
     |some s1,some s2=>cx.PE (k .normal s1) (k .normal s2)
     |_,_=>none
 |.seq a b,_,st,k=>gh cx a st fun e s=>match e with
   |.normal=>gh cx b s k
   |e=>k e s
 |.cond c a b,_,st,k=>match dM st.tm [] c with
   |.bool t=>if simple cx a&&simple cx b then
       match gh cx a st zN,gh cx b st zN with
       |some sa,some sb=>k .normal ⟨jm t (writes a++writes b) 0 st.tm sa.tm sb.tm,st.H,(sa.ok|| !t)&&(sb.ok||t)⟩
       |_,_=>none
     else cond t (gh cx a st k) (gh cx b st k)
   |_=>none
 |.block id c,_,st,k=>gh cx c st fun e s=>match e with
   |.exit i=>if i=id then k .normal s else k (.exit i) s
   |e=>k e s
 |.loop c,_,st,k=>match cx.loop (keyOf c)with
   |some L=>if st.tm.length=L.n then match inLoop st.H (L.ins.map fun t=>st.tm.getD t .any)with
     |some (m,vals,Hi)=>L.run vals Hi fun e vs Ho=>match K7 L m st vs Ho with
      |some st'=>k e st'
      |none=>none
     |none=>none else none
   |none=>none
 |.exit id,_,st,k=>k (.exit id) st
 |.ret,_,st,k=>k .ret st
 |_,_,_,_=>none
def tP(cx:Cx K)(st:St K):List ResultVar->Option (List (AV K))
 |[]=>some []
 |.tmp t::r=>match tP cx st r with
   |some l=>some (st.tm.getD t .any::l)
   |none=>none
 |.cell a t::r=>match K4 cx.P cx.D st.H t (st.tm.getD a .any),tP cx st r with
   |some v,some l=>some (v::l)
   |_,_=>none
def resV(cx:Cx K)(fn:Func)(st:St K):Option (AV K):=
 match tP cx st fn.results.toList with
 |some [v]=>some (eG st.H v)
 |some l=>some (.bT (pF st.H l))
 |none=>none
def xh{α β:Type}(f:α->Option β):List α->Option (List β)
 |[]=>some []
 |x::r=>match f x,xh f r with
  |some y,some l=>some (y::l)
  |_,_=>none
def tQ(src:List (Option Nat))(h:Nat):Option Nat:=src.idxOf? (some h)
def tR(n0 n:Nat):Nat->List (Option Nat)->Bool
 |_,[]=>true
 |i,none::r=>decide (i<n0)&&tR n0 n (i+1) r
 |i,some h::r=>decide (h<n)&&((decide (n0<=i)||decide (h=i))&&(!r.contains (some h)&&tR n0 n (i+1) r))
def xi(src:List (Option Nat))(H:List (Ob K)):Option Nat->Option (Ob K)
 |none=>some .dead
 |some h=>match H[h]? with
  |some o=>ku (tQ src) o
  |none=>none
def qT(n0:Nat)(src:List (Option Nat))(keep:List Nat)(st:St K):Option (St K):=
 if tR n0 st.H.length 0 src&&decide (n0<=src.length)then
  match jh (tQ src) (keep.map fun t=>st.tm.getD t .any),xh (xi src st.H) src with
  |some vs,some H=>some ⟨en (List.replicate st.tm.length .any) keep vs,H,st.ok⟩
  |_,_=>none
 else none
def xj(n0:Nat)(keep:List Nat)(st:St K):Option (St K):=
 qT n0 ((reach st.H 64 (List.range n0++cn (keep.map fun t=>st.tm.getD t .any)) []).map some) keep st
def tU(cx:Cx K)(s:St K):Option (Bool×St K):=match Qi s.H with
 |none=>some (true,s)
 |some _=>match shut cx.D s.H with
  |some (H',b,_)=>some (b,⟨s.tm,H',s.ok⟩)
  |none=>none
def K8(cx:Cx K)(n0:Nat)(keep outs:List Nat)(body:Code)(st:St K):Option (St K⊕Ex×St K):=
 gh cx body st fun e s=>cond s.ok (match e with
  |.normal=>match tU cx s with
    |some (b,s1)=>cond b (match xj n0 keep s1 with
     |some s'=>some (.inl s')
     |none=>none) none
    |none=>none
  |e=>match tU cx s with
   |some (b,s1)=>cond b (match xj n0 outs s1 with
    |some s'=>some (.inr (e,s'))
    |none=>none) none
   |none=>none) none
def Qm(n0:Nat)(src:List (Option Nat))(v:AV K)(H:List (Ob K)):Option (AV K×List (Ob K)):=
 if tR n0 H.length 0 src&&decide (n0<=src.length)then
  match fx (tQ src) v,xh (xi src H) src with
  |some v',some H'=>some (v',H')
  |_,_=>none
 else none
def pack(n0:Nat)(v:AV K)(H:List (Ob K)):Option (AV K×List (Ob K)):=
 Qm n0 ((reach H 64 (List.range n0++hands v) []).map some) v H
def Qn(H:List (Ob K))(h:Nat):Bool:=match H[h]? with
 |some (.arr ..)=>false
 |some (.tree ..)=>false
 |_=>true
def aBc(n0:Nat)(v:AV K)(H:List (Ob K)):List (Option Nat):=
 ((List.range n0).map fun h=>cond (Qn H h) (some h) none)++((reach H 64 ((List.range n0).filter (Qn H)++hands v) []).filter fun h=> !(decide (h<n0)&&Qn H h)).map some
def K9(mv:Bool)(n0:Nat)(v:AV K)(H:List (Ob K)):Option (AV K×List (Ob K)):=
 Qm n0 (cond mv (aBc n0 v H) ((reach H 64 (List.range n0++hands v) []).map some)) v H
def aBd(cx:Cx K)(fn:Func)(n0:Nat)(e:Ex)(st:St K):Option (AV K×List (Ob K)):=
 match e with
 |.exit _=>none
 |_=>match resV cx fn st with
  |some v=>cond st.ok (pack n0 v st.H) none
  |none=>none
def aDh(cx:Cx K)(fn:Func)(args:List (AV K))(H:List (Ob K)):Option (AV K×List (Ob K)):=
 match fn.body with
 |some c=>gh cx c ⟨args++List.replicate (fn.ntmps-args.length) .any,H,true⟩ (aBd cx fn H.length)
 |none=>none
end Go.V
