/-
  A VALUE-LEVEL READING OF THE LOADED CODE: abstract values, objects, operations, and a function 'execC' that runs a body on them. Nothing here speaks of one program: the program is a parameter. The proofs that what it yields is what the machine does are in the texts that follow.
-/
import Derived.WalkKit
import Derived.KernelRfl
import Derived.Orders
import Derived.Lib.Strings
import Derived.Laws.BytesArg
import Derived.Laws.StructEq
universe u v
abbrev aj := @Option.some.injEq
theorem ay{α:Type u}{a:α}:(some a).isSome=true:=rfl
theorem aw{α:Type u}{a b:α}:(some a).getD b=a:=rfl
abbrev au := @Bool.and_self
theorem af{α:Sort u}(a b:α):(bif true then a else b)=a:=rfl
abbrev aF := @Prod.mk.injEq
abbrev bM := @List.getElem?_eq_some_iff
theorem ar{α:Sort u}(a b:α):(bif false then a else b)=b:=rfl
abbrev bY := @List.getElem?_eq_getElem
abbrev bz := @Bool.and_eq_true
abbrev bc := @Bool.true_and
abbrev bN := @decide_eq_true_eq
abbrev bp := @Bool.not_false
abbrev cU := @List.getElem?_append_left
abbrev dA := @List.getElem?_append_right
abbrev cq := @List.length_append
abbrev cN := @beq_eq_false_iff_ne
abbrev bQ := @Bool.not_true
theorem cH(n:Nat):(n:Int).toNat=n:=rfl
abbrev bP := @Bool.true_or
abbrev cF := @beq_self_eq_true
abbrev bH := @Nat.le_refl
abbrev cD := @Bool.false_and
abbrev dI := @List.getElem?_take
abbrev dZ := @Nat.mul_le_mul_right
abbrev fB := @List.getD_eq_getElem?_getD
abbrev eN := @Option.map_eq_some_iff
abbrev cO := @Bool.and_true
abbrev dG := @List.mem_append
theorem dH{α:Type u}{a:α}{as:List α}:(a::as).length=as.length+1:=rfl
abbrev aO := @if_pos
abbrev cV := @Nat.lt_or_ge
abbrev aX := @if_neg
abbrev fe := @List.getElem?_drop
abbrev eH := @List.getElem_mem
abbrev dx := @Nat.add_mul
abbrev js := @Array.getElem?_eq_some_iff
abbrev iF := @List.getElem?_replicate
abbrev iG := @decide_eq_false_iff_not
abbrev gz := @List.mem_of_getElem?
abbrev fK := @Bool.not_eq_true'
abbrev eX := @decide_eq_true
abbrev kU := @List.eq_nil_of_length_eq_zero
abbrev fV := @List.getElem?_set
abbrev fL := @decide_eq_false
abbrev ft := @List.drop_zero
theorem fC{α:Type u}(as:List α):[]++as=as:=rfl
abbrev gP := @List.getElem?_map
abbrev gQ := @List.append_assoc
abbrev dU := @beq_iff_eq
theorem fM{α:Type u}:([]:List α).length=0:=rfl
abbrev l9 := @Array.getD_eq_getD_getElem?
abbrev fu := @Nat.zero_add
abbrev ig := @List.all_eq_true
abbrev ki := @List.getElem?_eq_none
abbrev eY := @Nat.zero_le
abbrev gU := @Option.some.inj
abbrev jt := @Bool.false_eq_true
abbrev m6 := @Array.getElem?_setIfInBounds
abbrev fg := @Nat.one_mul
abbrev fW := @List.mem_cons
abbrev jP := @Nat.eq_zero_or_pos
abbrev iH := @Bool.or_eq_true
abbrev jQ := @of_decide_eq_true
abbrev kj := @Nat.lt_of_lt_of_le
abbrev gV := @List.map_cons
abbrev kV := @List.mem_singleton
abbrev ju := @List.length_set
theorem gk{α:Type u}{β:Type v}(a:α)(f:α->β):Option.map f (some a)=some (f a):=rfl
abbrev iI := @Nat.add_assoc
abbrev ij := @Bool.or_true
abbrev gW := @decide_true
abbrev kW := @List.length_map
abbrev nY := @List.length_replicate
abbrev lG := @decide_eq_decide
abbrev ma := @List.ext_getElem?
abbrev m7 := @List.size_toArray
abbrev mc := @Bool.eq_iff_iff
abbrev fN := @congrArg
abbrev ri := @Array.getElem?_eq_none
abbrev pV := @List.getElem_of_mem
abbrev uy := @Array.getElem?_eq_getElem
abbrev uz := @List.pairwise_iff_getElem
abbrev kX := @Nat.le_trans
abbrev kY := @Int.ofNat_lt
abbrev rj := @Array.replicate_succ
abbrev md := @Bool.false_or
abbrev rk := @List.append_toArray
abbrev uA := @List.take_of_length_le
abbrev me := @Bool.or_self
abbrev rl := @Bool.false_ne_true
abbrev uB := @List.contains_eq_mem
abbrev rm := @List.push_toArray
abbrev rn := @List.length_take
abbrev zF := @List.take_append_of_le_length
abbrev wI := @Nat.eq_of_beq_eq_true
abbrev rq := @List.append_nil
abbrev km := @if_false
abbrev uC := @Bool.not_eq_true
abbrev nZ := @Nat.mul_one
abbrev zG := @Array.getElem?_replicate
abbrev uD := @Nat.testBit_or
abbrev ru := @Nat.sub_self
abbrev rx := @getElem!_pos
abbrev wJ := @List.drop_length
abbrev zH := @Bool.or_eq_false_iff
abbrev pW := @bne_iff_ne
abbrev pX := @decide_not
abbrev wK := @List.nodup_cons
abbrev uE := @Nat.add_comm
theorem oa{α:Type u}{a:α}{as bs:List α}:(a::as)++bs=a::(as++bs):=rfl
abbrev wL := @List.drop_drop
abbrev zI := @List.map_append
abbrev m8 := @Ne.symm
abbrev wM := @Nat.mul_comm
abbrev wN := @Nat.zero_mul
abbrev Dt := @List.mem_cons_of_mem
abbrev od := @if_true
abbrev zJ := @List.mem_map
abbrev Du := @List.mem_range
abbrev Dv := @Bool.or_false
abbrev IJ := @Int.eq_ofNat_of_zero_le
namespace Go.V
open Go
structure cK where
 U:Type
 El:U->Type
 je:DecidableEq U
 sz:U->Nat
 zero:(c:U)->El c
inductive AV (K:cK) where
 |any
 |int (k:IntKind) (n:Int)
 |bool (b:Bool)
 |str (s:List UInt8)
 |da
 |cP
 |mp
 |fn (f:Nat) (caps:List (AV K))
 |ptr (h off:Nat)
 |sl (h:Nat)
 |ep (h st i off:Nat)
 |ax (c:K.U) (l:List (K.El c))
 |rp (c:K.U) (x:K.El c) (off:Nat)
 |agg (l:List (AV K))
 |bk (l:List (AV K))
 |opt (g:Nat) (want:Bool) (v:AV K)
 |np (h:Nat)
 |vw (h st lo hi:Nat)
inductive Ob (K:cK) where
 |dead
 |box (cells:List (AV K))
 |arr (c:K.U) (l:List (K.El c))
 |fR (c:K.U) (l:List (K.El c))
 |tree (c:K.U) (l:List (K.El c))
 |opn (c:K.U) (l:List (K.El c)) (i off:Nat) (cs:List (AV K))
structure Base where
 inv:(Nat->Prop)->World->Prop
 mono:∀{S S':Nat->Prop}{w w':World},(∀b,S b->S' b)->(∀b,S b->w'.heap[b]?=w.heap[b]?)->inv S w->inv S' w'
def Base.IK:Base:=⟨fun _ _=>True,fun _ _ h=>h⟩
structure bg (K:cK) where
 cells:(c:K.U)->K.El c->List (AV K)
 dec:(c:K.U)->List (AV K)->Option (K.El c×Bool)
 byte:(c:K.U)->Option ((K.El c->UInt8)×(UInt8->K.El c))
 find:List (AV K)->Option K.U
 base:Base:=Base.IK
 oe:Option TypeId:=none
 kn:K.U->Option TypeId:=fun _=>none
variable {K :cK}
def AV.bw:AV K->List (AV K)
 |.agg l=>l
 |v=>[v]
def AV.known:AV K->Bool
 |.any|.opt ..=>false
 |_=>true
def AV.iJ:AV K->Bool
 |.opt ..=>true
 |_=>false
def AV.one:AV K->Bool
 |.any|.opt .. |.agg _|.bk _|.vw ..=>false
 |_=>true
structure St (K:cK) where
 tm:List (AV K)
 H:List (Ob K)
 ok:Bool
inductive Ex where
 |normal
 |exit (id:Nat)
 |ret
def Ex.mf:Ex->Exit
 |.normal=>.normal
 |.exit id=>.exit id
 |.ret=>.ret
structure bZ (K:cK) where
 n:Nat
 ins:List Nat
 outs:List Nat
 run:{R:Type}->List (AV K)->List (Ob K)->(Ex->List (AV K)->List (Ob K)->Option R)->Option R
inductive Mode where
 |plain|iK|kZ|pass|aY|fresh
 deriving DecidableEq
def Dw{R:Type}(a b:Option R):Option R:=match a with
 |none=>b
 |some r=>some r
theorem VJ{R:Type}{a b:Option R}{r:R}(h:Dw a b=some r):a=some r\/b=some r:=by
 cases a with
 |none=>exact .inr h
 |some x=>exact .inl h
structure Cx (K:cK) where
 P:Program
 D:bg K
 ty:TypeId->Option K.U
 call:FuncId->List (AV K)->List (Ob K)->Option (AV K×List (Ob K)×Bool)
 mode:FuncId->Mode
 loop:Nat->Option (bZ K)
 mg:TypeId->List (Option K.U)
 cut:Bool:=false
 fX:List (List (Option K.U)):=[]
 IL:List Bool:=[]
 mv:Bool:=false
 deep:K.U->Bool:=fun _=>false
 opn:Bool:=false
 VK:Bool:=false
 VL:Bool:=false
 lz:Bool:=false
 alt:Bool->FuncId->List (AV K)->List (Ob K)->Option (AV K×List (Ob K)×Bool):=fun _ _ _ _=>none
 oh:Bool->FuncId->Mode:=fun _=>mode
 wO:{R:Type}->Option R->Option R->Option R:=fun a b=>Dw a b
 gs:List (Nat×Bool):=[]
def known(cx:Cx K)(g:Nat):Option Bool:=(cx.gs.find? fun p=>p.1==g).map (·.2)
mutual
def ko:Value->Option (AV K)
 |.bool b=>some (.bool b)
 |.int k n=>some (.int k n)
 |.string s=>some (.str s.data.toList)
 |.pointer none=>some .da
 |.slice none 0 0=>some .cP
 |.map none=>some .mp
 |.agg cs=>(wP cs.toList).map .agg
 |_=>none
def wP:List Value->Option (List (AV K))
 |[]=>some []
 |v::r=>match ko v,wP r with
  |some x,some l=>some (x::l)
  |_,_=>none
end
def covers(tm:List (AV K)):Nat->Nat×Bool->Nat×Bool->Bool
 |0,g,t=>g.1==t.1&&g.2==t.2
 |n+1,g,t=>(g.1==t.1&&g.2==t.2)||(match tm[g.1]? with
  |some (.opt g1 w1 _)=>covers tm n (g1,w1) t
  |_=>false)
def dJ(tm:List (AV K))(gs:List (Nat×Bool)):Operand->AV K
 |.tmp t=>match tm[t]? with
   |some (.opt g w v)=>if gs.any (fun p=>covers tm 6 p (g,w))then v else .any
   |some v=>v
   |none=>.any
 |.const v=>(ko v).getD .any
 |.global _=>.any
 |.func f=>.fn f []
def uF(tm:List (AV K)):Nat->Nat×Bool->Option Bool
 |0,_=>none
 |n+1,(g,w)=>match tm[g]? with
  |some (.bool b)=>some (b==w)
  |some (.opt g1 w1 (.bool b))=>(uF tm n (g1,w1)).map fun e=>e&&(b==w)
  |_=>none
mutual
def merge(b:Bool):AV K->AV K->AV K
 |.int k m,.int k' n=>if k=k' then .int k (cond b m n)else .any
 |.bool m,.bool n=>.bool (cond b m n)
 |.str m,.str n=>.str (cond b m n)
 |.ax c l,.ax c' l'=>match K.je c c' with
   |.isTrue h=>.ax c' (cond b (h ▸ l) l')
   |.isFalse _=>.any
 |.agg l,.agg l'=>if l.length=l'.length then .agg (merges b l l')else .any
 |.cP,.cP=>.cP
 |.da,.da=>.da
 |_,_=>.any
def merges(b:Bool):List (AV K)->List (AV K)->List (AV K)
 |x::r,y::s=>merge b x y::merges b r s
 |_,_=>[]
end
def ry(op:BinOp)(k:IntKind)(x y:Int):Int:=
 let a:=BitVec.ofInt k.bits x
 let b:=BitVec.ofInt k.bits y
 k.wrap ((match op with
   |.and=>(a&&& b)|.or=>(a|||b)|.xor=>(a^^^b)|_=>(a&&& ~~~b)).toNat)
def IM(k:IntKind)(x y:Int):Int:=k.wrap (x*2^(min y.toNat k.bits))
def IN(k:IntKind)(x y:Int):Int:=x.fdiv (2^(min y.toNat k.bits))
def kq(a b:List UInt8):Bool:=decide (a.length+b.length<=4611686018427387904)
def wQ(a b:List UInt8):Bool:=Op.bytesLess a b
def Dx(op:BinOp)(k:IntKind)(a b:Int):Option (AV K×Bool):=
 match op with
 |.add=>some (.int k (k.wrap (a+b)),true)
 |.sub=>some (.int k (k.wrap (a-b)),true)
 |.mul=>some (.int k (k.wrap (a*b)),true)
 |.quo=>some (.int k (k.wrap (a.tdiv b)),b !=0)
 |.rem=>some (.int k (a.tmod b),b !=0)
 |.and|.or|.xor|.andNot=>some (.int k (ry op k a b),true)
 |.eql=>some (.bool (a==b),true)
 |.neq=>some (.bool (a !=b),true)
 |.lss=>some (.bool (decide (a<b)),true)
 |.leq=>some (.bool (decide (a<=b)),true)
 |.gtr=>some (.bool (decide (b<a)),true)
 |.geq=>some (.bool (decide (b<=a)),true)
 |.shl|.shr=>none
def Dy(op:BinOp)(a b:List UInt8):Option (AV K×Bool):=
 match op with
 |.add=>some (.str (a++b),kq a b)
 |.eql=>some (.bool (a==b),true)
 |.neq=>some (.bool (!(a==b)),true)
 |.lss=>some (.bool (wQ a b),true)
 |.leq=>some (.bool (wQ a b||a==b),true)
 |.gtr=>some (.bool (!(wQ a b||a==b)),true)
 |.geq=>some (.bool (!wQ a b),true)
 |_=>none
def IP(P:Program)(t:TypeId):Bool:=P.underlying t matches some .string
def Dz(P:Program)(t:TypeId):Bool:=P.underlying t matches some .bool
def DC(op:UnOp):AV K->Option (AV K×Bool)
 |.bool b=>match op with
   |.not=>some (.bool (!b),true)
   |_=>none
 |.int k n=>match op with
   |.neg=>some (.int k (k.wrap (0-n)),true)
   |.xor=>some (.int k (ry .xor k (if k.signed then -1 else k.max) n),true)
   |_=>none
 |_=>none
def dn(P:Program)(t:TypeId):Option Nat:=(P.info? t).map (·.size)
def zK(P:Program)(t:TypeId):Option Bool:=
 match P.underlying t with
 |some (.struct _)|some (.array _ _)=>some true
 |some _=>some false
 |none=>none
def zL(P:Program)(t:TypeId)(f:Nat):Option Field:=
 match P.underlying t with
 |some (.struct fs)=>fs[f]?
 |_=>none
def elemOf?(P:Program)(t:TypeId):Option TypeId:=
 match P.underlying t with
 |some (.slice e)=>some e
 |_=>none
def zeroOf(P:Program)(t:TypeId):Option (AV K):=
 match P.info? t with
 |some i=>match i.zero with
  |some v=>ko v
  |none=>none
 |none=>none
def uG(P:Program)(t:TypeId):Option IntKind:=
 match P.underlying t with
 |some (.int k)=>some k
 |_=>none
def kr(P:Program)(t:TypeId)(cs:List (AV K))(off:Nat):Option (AV K):=
 match zK P t,dn P t with
 |some true,some n=>if off+n<=cs.length then some (.agg ((cs.drop off).take n))else none
 |some false,some _=>cs[off]?
 |_,_=>none
def wR(P:Program)(rec:TypeId->AV K->AV K->Option Bool)(xs ys:List (AV K)):List Field->Option Bool
 |[]=>some true
 |f::fs=>if f.name= "_" then none else
  match kr P f.type xs f.offset,kr P f.type ys f.offset with
  |some a,some b=>match rec f.type a b,wR P rec xs ys fs with
   |some p,some q=>some (p&&q)
   |_,_=>none
  |_,_=>none
def uH(P:Program):Nat->TypeId->AV K->AV K->Option Bool
 |0,_,_,_=>none
 |n+1,t,.int k a,.int k' b=>if k=k' then(match P.underlying t with
  |some (.int _)=>some (a==b)
  |_=>none)else none
 |n+1,t,.bool a,.bool b=>(match P.underlying t with
  |some .bool=>some (a==b)
  |_=>none)
 |n+1,t,.str a,.str b=>(match P.underlying t with
  |some .string=>some (a==b)
  |_=>none)
 |n+1,t,.agg xs,.agg ys=>(match P.underlying t with
  |some (.struct fs)=>if P.stoodInHeld t then none else wR P (uH P n) xs ys fs.toList
  |_=>none)
 |_+1,_,_,_=>none
def DD(P:Program)(t:TypeId):Bool:=P.underlying t matches some (.pointer _)
def uI(P:Program)(op:BinOp)(t:TypeId)(e:Bool):Option (AV K×Bool):=if DD P t then(match op with
 |.eql=>some (.bool e,true)
 |.neq=>some (.bool (!e),true)
 |_=>none)else none
def DF(P:Program)(op:BinOp)(t:TypeId):AV K->AV K->Option (AV K×Bool)
 |.int k a,.int k' b=>match op with
   |.shl=>some (.int k (IM k a b),decide (0<=b))
   |.shr=>some (.int k (IN k a b),decide (0<=b))
   |_=>if k=k' then Dx op k a b else none
 |.bool a,.bool b=>if Dz P t then(match op with
   |.eql=>some (.bool (a==b),true)
   |.neq=>some (.bool (!(a==b)),true)
   |_=>none)else none
 |.str a,.str b=>Dy op a b
 |.agg a,.agg b=>match op with
   |.eql=>if P.eqGuardType P.depth t then none else(uH P 6 t (.agg a) (.agg b)).map fun e=>(.bool e,true)
   |.neq=>if P.eqGuardType P.depth t then none else(uH P 6 t (.agg a) (.agg b)).map fun e=>(.bool (!e),true)
   |_=>none
 |.da,.da=>uI P op t true
 |.ptr _ _,.da=>uI P op t false
 |.rp _ _ _,.da=>uI P op t false
 |.ep _ _ _ _,.da=>uI P op t false
 |_,_=>none
def inB(n:Int)(len:Nat):Bool:=decide (0<=n)&&decide (n<len)
def bT(lo hi:Int)(len:Nat):Bool:=decide (0<=lo)&&(decide (lo<=hi)&&decide (hi<=len))
mutual
def AV.closed:AV K->Bool
 |.int .. |.bool _|.str _|.da|.cP|.mp|.ax .. |.rp .. |.any=>true
 |.ptr .. |.sl _|.ep .. |.opt .. |.np _|.vw ..=>false
 |.fn _ l|.agg l|.bk l=>fY l
def fY:List (AV K)->Bool
 |[]=>true
 |v::r=>v.closed&&fY r
end
def rz(H:List (Ob K)):AV K->AV K
 |.sl h=>match H[h]? with
   |some (.arr c l)=>.ax c l
   |some (.fR c l)=>.ax c l
   |some (.tree c l)=>.ax c l
   |_=>.any
 |v=>v
mutual
def iK(D:bg K)(H:List (Ob K)):AV K->AV K
 |.sl h=>match H[h]? with
   |some (.arr c l)=>.ax c l
   |some (.fR c l)=>.ax c l
   |some (.tree c l)=>.ax c l
   |_=>.any
 |.ptr h off=>match H[h]? with
   |some (.box cs)=>match D.find (cs.map (rz H))with
    |some c=>match D.dec c (cs.map (rz H))with
     |some (x,true)=>.rp c x off
     |_=>.any
    |none=>.any
   |_=>.any
 |.vw h st lo hi=>match H[h]? with
   |some (.arr c l)=>if st=K.sz c then .ax c ((l.take hi).drop lo)else .any
   |some (.tree c l)=>if st=K.sz c then .ax c ((l.take hi).drop lo)else .any
   |_=>.any
 |.fn g l=>.fn g (lg D H l)
 |.agg l=>.agg (lg D H l)
 |.bk l=>.bk (lg D H l)
 |v=>v
def lg(D:bg K)(H:List (Ob K)):List (AV K)->List (AV K)
 |[]=>[]
 |v::r=>iK D H v::lg D H r
end
def elems(H:List (Ob K))(c:K.U):AV K->Option (List (K.El c))
 |.cP=>some []
 |.ax c' l=>match K.je c' c with
   |.isTrue h=>some (h ▸ l)
   |.isFalse _=>none
 |.sl h=>match H[h]? with
   |some (.arr c' l)=>match K.je c' c with
    |.isTrue h=>some (h ▸ l)
    |.isFalse _=>none
   |_=>none
 |_=>none
def setCells(cs:List (AV K))(off:Nat):List (AV K)->List (AV K)
 |[]=>cs
 |v::r=>setCells (cs.set off v) (off+1) r
mutual
def hands:AV K->List Nat
 |.ptr h _|.sl h|.ep h _ _ _|.np h|.vw h _ _ _=>[h]
 |.agg l|.bk l|.fn _ l=>bD l
 |_=>[]
def bD:List (AV K)->List Nat
 |[]=>[]
 |v::r=>hands v++bD r
end
def rA(H:List (Ob K))(h:Nat):List (Ob K):=
 match H[h]? with
 |some (.arr c l)=>H.set h (.fR c l)
 |some (.tree c l)=>H.set h (.fR c l)
 |_=>H
def ik(H:List (Ob K)):List Nat->List (Ob K)
 |[]=>H
 |h::r=>ik (rA H h) r
mutual
def d3(H:List (Ob K)):AV K->AV K
 |.sl h=>match H[h]? with
   |some (.fR c l)=>.ax c l
   |_=>.sl h
 |.vw h st lo hi=>match H[h]? with
   |some (.fR c l)=>if st=K.sz c then .ax c ((l.take hi).drop lo)else .vw h st lo hi
   |_=>.vw h st lo hi
 |.agg l=>.agg (m9 H l)
 |.bk l=>.bk (m9 H l)
 |v=>v
def m9(H:List (Ob K)):List (AV K)->List (AV K)
 |[]=>[]
 |v::r=>d3 H v::m9 H r
end
def thaw(dp:K.U->Bool)(H:List (Ob K)):List (Option K.U)->List (AV K)->List (AV K)×List (Ob K)
 |some c::cs,.cP::r=>match thaw dp (H++[cond (dp c) (.tree c []) (.arr c [])]) cs r with
  |(l,H')=>(.sl H.length::l,H')
 |_::cs,v::r=>match thaw dp H cs r with
  |(l,H')=>(v::l,H')
 |[],l=>(l,H)
 |_,[]=>([],H)
def fh(dp:K.U->Bool)(H:List (Ob K)):List (List (Option K.U))->List (AV K)->List (AV K)×List (Ob K)
 |cs::css,.agg l::r=>match thaw dp H cs l with
  |(l',H1)=>match fh dp H1 css r with
   |(s,H2)=>(.agg l'::s,H2)
 |cs::css,v::r=>match thaw dp H cs [v]with
  |(l',H1)=>match fh dp H1 css r with
   |(s,H2)=>(l'.headD v::s,H2)
 |[],l=>(l,H)
 |_,[]=>([],H)
def jR:List (AV K)->Bool
 |.np _::_=>true
 |_=>false
def wS(b:Bool)(h:Nat):List (AV K)->List (AV K)
 |.da::r=>cond b (.np h) .da::r
 |l=>l
mutual
def gX:AV K->Bool
 |.ax .. |.rp ..=>true
 |.agg l|.bk l|.fn _ l=>db l
 |_=>false
def db:List (AV K)->Bool
 |[]=>false
 |v::r=>gX v||db r
end
def zM(P:Program)(D:bg K)(H:List (Ob K))(t:TypeId):AV K->Option (AV K)
 |.ptr h off=>match H[h]? with
   |some (.box cs)=>kr P t cs off
   |_=>none
 |.rp c x off=>kr P t (D.cells c x) off
 |.ep h st i off=>match H[h]? with
   |some (.arr c l)=>if st=K.sz c then kr P t (D.cells c (l.getD i (K.zero c))) off else none
   |some (.tree c l)=>if st=K.sz c then(match kr P t (D.cells c (l.getD i (K.zero c))) off with
     |some v=>if gX v then none else some v
     |none=>none)else none
   |_=>none
 |_=>none
def DG(P:Program)(H:List (Ob K))(t:TypeId):AV K->Option (AV K×Bool)
 |.ep h st i off=>match H[h]? with
   |some (.opn c l i' off' cs)=>if st=K.sz c/\off'<=off then(match kr P t (List.replicate off' .any++cs) off with
    |some v=>some (v,decide (i=i'))
    |none=>none)else none
   |_=>none
 |_=>none
def DI(P:Program)(s:TypeId)(f:Nat)(x:AV K):Option (AV K):=
 match zL P s f with
 |some fd=>match dn P fd.type with
  |some (_+1)=>match x with
   |.ptr h off=>some (.ptr h (off+fd.offset))
   |.rp c x off=>some (.rp c x (off+fd.offset))
   |.ep h st i off=>some (.ep h st i (off+fd.offset))
   |_=>none
  |_=>none
 |none=>none
def DJ(P:Program)(H:List (Ob K))(t:TypeId)(x i:AV K):Option (AV K×Bool):=
 match elemOf? P t,i with
 |some e,.int _ n=>match x with
  |.ax c l=>if dn P e=some (K.sz c)then some (.rp c (l.getD n.toNat (K.zero c)) 0,inB n l.length)else none
  |.sl h=>match H[h]? with
    |some (.arr c l)=>if dn P e=some (K.sz c)then some (.ep h (K.sz c) n.toNat 0,inB n l.length)else none
    |some (.tree c l)=>if dn P e=some (K.sz c)then some (.ep h (K.sz c) n.toNat 0,inB n l.length)else none
    |_=>none
  |_=>none
 |_,_=>none
def jf(d:Int):Option (AV K)->Option Int
 |none=>some d
 |some (.int _ n)=>some n
 |some _=>none
def DK(P:Program)(t:TypeId)(x:AV K)(lo hi:Option (AV K)):Option (AV K×Bool):=
 match P.underlying t,x with
 |some .string,.str s=>match jf 0 lo,jf s.length hi with
  |some l,some h=>some (.str ((s.take h.toNat).drop l.toNat),bT l h s.length)
  |_,_=>none
 |some (.slice e),.ax c s=>if dn P e=some (K.sz c)then match jf 0 lo,jf s.length hi with
  |some l,some h=>some (.ax c ((s.take h.toNat).drop l.toNat),bT l h s.length)
  |_,_=>none else none
 |_,_=>none
def DL(P:Program)(H:List (Ob K))(t:TypeId)(x:AV K)(lo hi:Option (AV K)):Option (AV K×Bool):=
 match elemOf? P t,x with
 |some e,.sl h=>match H[h]? with
  |some (.arr c l)=>if dn P e=some (K.sz c)then match jf 0 lo,jf l.length hi with
   |some a,some b=>some (.vw h (K.sz c) a.toNat b.toNat,bT a b l.length)
   |_,_=>none else none
  |some (.tree c l)=>if dn P e=some (K.sz c)then match jf 0 lo,jf l.length hi with
   |some a,some b=>some (.vw h (K.sz c) a.toNat b.toNat,bT a b l.length)
   |_,_=>none else none
  |_=>none
 |_,_=>none
def rB(cx:Cx K)(ev:Operand->AV K)(H:List (Ob K)):Op->Option (AV K×Bool)
 |.move x|.assign x=>some (ev x,true)
 |.binOp op t x y _=>DF cx.P op t (ev x) (ev y)
 |.unOp op _ x=>DC op (ev x)
 |.convert src dst x=>match cx.P.underlying src,cx.P.underlying dst,ev x with
   |some _,some (.int k),.int _ n=>some (.int k (k.wrap n),true)
   |some _,some .string,.str s=>some (.str s,true)
   |some (.slice e),some .string,x=>match cx.P.underlying e,cx.ty e with
    |some (.int .u8),some c=>match cx.D.byte c,elems H c x with
     |some (f,_),some l=>some (.str (l.map f),true)
     |_,_=>none
    |_,_=>none
   |_,_,_=>none
 |.extract t i=>match ev t with
   |.bk l=>(l[i]?).map fun v=>(v,true)
   |_=>none
 |.fieldAddr s x f=>(DI cx.P s f (ev x)).map fun v=>(v,true)
 |.field s x f=>match zL cx.P s f,ev x with
   |some fd,.agg cs=>(kr cx.P fd.type cs fd.offset).map fun v=>(v,true)
   |_,_=>none
 |.load t p=>match zM cx.P cx.D H t (ev p)with
   |some v=>some (v,true)
   |none=>DG cx.P H t (ev p)
 |.indexAddr t x i=>DJ cx.P H t (ev x) (ev i)
 |.index t x i=>match cx.P.underlying t,ev x,ev i with
   |some .string,.str s,.int _ n=>some (.int .u8 ((s.getD n.toNat 0).toNat:Int),inB n s.length)
   |_,_,_=>none
 |.slice t x lo hi none=>match DK cx.P t (ev x) (lo.map ev) (hi.map ev)with
   |some r=>some r
   |none=>if cx.VK&&cond cx.VL hi.isNone (hi.isSome|| !cx.cut)then DL cx.P H t (ev x) (lo.map ev) (hi.map ev)else none
 |.nilCheck x=>match ev x with
   |.ptr h o=>some (.ptr h o,true)
   |.rp c x o=>some (.rp c x o,true)
   |.ep h s i o=>some (.ep h s i o,true)
   |_=>none
 |.makeFunc (.func f) first caps=>if first.isEmpty then some (.fn f (caps.toList.map ev),true)else none
 |.call {callee:=.builtin .len,args,argTypes}=>match args.toList,argTypes.toList with
   |[x],[t]=>match cx.P.underlying t,ev x with
     |some .string,.str s=>some (.int .i64 (s.length:Int),true)
     |some (.slice _),.cP=>some (.int .i64 0,true)
     |some (.slice _),.ax _ l=>some (.int .i64 (l.length:Int),true)
     |some (.slice _),.vw _ _ a b=>some (.int .i64 ((b-a:Nat):Int),true)
     |some (.slice _),.sl h=>match H[h]? with
      |some (.arr _ l)=>some (.int .i64 (l.length:Int),true)
      |some (.tree _ l)=>some (.int .i64 (l.length:Int),true)
      |_=>none
     |_,_=>none
   |_,_=>none
 |.call {callee:=.builtin .min,args, ..}=>match args.toList with
   |[x,y]=>match ev x,ev y with
     |.int k a,.int k' b=>if k=k' then some (.int k (cond (decide (b<a)) b a),true)else none
     |_,_=>none
   |_=>none
 |.call {callee:=.builtin .max,args, ..}=>match args.toList with
   |[x,y]=>match ev x,ev y with
     |.int k a,.int k' b=>if k=k' then some (.int k (cond (decide (a<b)) b a),true)else none
     |_,_=>none
   |_=>none
 |_=>none
def IQ(D:bg K)(c:K.U)(e:TypeId):Bool:=match D.kn c with
 |none=>true
 |some t=>t==e
def na(cx:Cx K)(e:TypeId):Option K.U:=match cx.ty e with
 |some c=>if IQ cx.D c e then some c else none
 |none=>none
def room(e:TypeId)(P:Program):Bool:=match P.info? e with
 |some i=>decide (i.bytes<=4096)
 |none=>false
def nb(D:bg K)(c:K.U):List (AV K)->Option (List (K.El c)×Bool)
 |[]=>some ([],true)
 |v::r=>match D.dec c v.bw,nb D c r with
  |some (x,b),some (l,b')=>some (x::l,b&&b')
  |_,_=>none
def inOrder(ev:Operand->AV K):Nat->List (Nat×Operand)->Option (List (AV K))
 |_,[]=>some []
 |n,(i,x)::r=>if i=n then(inOrder ev (n+1) r).map (ev x::·)else none
def placesOf(P:Program)(t:TypeId):Option (List (Nat×Nat)):=
 match P.underlying t with
 |some (.struct fs)=>fs.toList.mapM (fun f=>(P.info? f.type).map fun i=>(f.offset,i.size))
 |_=>none
def uJ(places:List (Nat×Nat))(ev:Operand->AV K)(cs:List (AV K)):List (Nat×Operand)->Option (List (AV K))
 |[]=>some cs
 |(i,x)::r=>match places[i]? with
  |some (off,n)=>if(ev x).known=true/\(ev x).bw.length=n/\off+n<=cs.length then uJ places ev (setCells cs off (ev x).bw) r else none
  |none=>none
def mh(P:Program)(t:TypeId):Bool:=match P.info? t with
 |some i=>match i.zero with
  |some v=>v.cells.size==i.size
  |none=>false
 |none=>false
def source(D:bg K)(H:List (Ob K))(c:K.U):AV K->Option (List (K.El c))
 |.str s=>match D.byte c with
   |some (_,g)=>some (s.map g)
   |none=>none
 |v=>elems H c v
def zN(cx:Cx K)(H:List (Ob K))(sT:TypeId)(s x:AV K):Option (AV K×List (Ob K)×Bool×List Nat):=
 match elemOf? cx.P sT with
 |none=>none
 |some e=>match na cx e with
  |none=>none
  |some c=>if dn cx.P e=some (K.sz c)/\room e cx.P=true/\mh cx.P e=true then
    match source cx.D H c x with
    |none=>none
    |some m=>match s with
     |.cP=>some (.sl H.length,H++[.arr c m],decide (m.length<=1073741824),[])
     |.sl h=>match x with
       |.sl h'=>if h=h' then none else match elems H c (.sl h)with
         |some l=>some (.sl H.length,H.set h .dead++[.arr c (l++m)],decide (l.length+m.length<=1073741824),[h])
         |none=>none
       |_=>match elems H c (.sl h)with
        |some l=>some (.sl H.length,H.set h .dead++[.arr c (l++m)],decide (l.length+m.length<=1073741824),[h])
        |none=>none
     |_=>none
   else none
def wT(cx:Cx K)(H:List (Ob K))(sT:TypeId)(s x:AV K):Option (AV K×List (Ob K)×Bool×List Nat):=
 match elemOf? cx.P sT,x with
 |some e,.int _ n=>match na cx e,(zeroOf cx.P e:Option (AV K))with
  |some c,some z=>if dn cx.P e=some (K.sz c)/\room e cx.P=true/\0<K.sz c/\z.known=true/\z.bw.all AV.one=true then
    match cx.D.dec c z.bw,s with
    |some (y,b),.sl h=>match elems H c (.sl h)with
     |some l=>some (.sl H.length,H.set h .dead++[.arr c (l++List.replicate n.toNat y)],b&&(decide (0<=n)&&decide (l.length+n.toNat<=1073741824)),[h])
     |none=>none
    |_,_=>none
   else none
  |_,_=>none
 |_,_=>none
def kt(ev:Operand->AV K):Op->List Nat
 |.buildSlice _ _ parts=>bD (parts.toList.map fun p=>ev p.2)
 |.store _ p x=>match ev p with
   |.ep ..=>hands (ev x)
   |_=>[]
 |.slice _ x _ _ _=>match ev x with
   |.sl h=>[h]
   |_=>[]
 |_=>[]
def IS(P:Program)(t:TypeId):Bool:=match P.info? t with
 |some i=>(match i.zero with
  |some .nilFunc=>true
  |_=>false)
 |none=>false
def rC(cx:Cx K)(ev:Operand->AV K)(H:List (Ob K)):Op->Option (AV K×List (Ob K)×Bool×List Nat)
 |.box t x=>if(ev x).known then match thaw cx.deep H (cx.mg t) (ev x).bw with
     |(cs,H1)=>if jR cs then none else some (.ptr H1.length 0,H1++[.box cs],true,[])else none
 |.alloc t=>match(zeroOf cx.P t:Option (AV K))with
   |some z=>if z.known then match thaw cx.deep H (cx.mg t) z.bw with
    |(cs,H1)=>if jR cs then none else some (.ptr H1.length 0,H1++[.box (wS (cx.D.oe==some t) H1.length cs)],true,[])else none
   |none=>if IS cx.P t then some (.ptr H.length 0,H++[.box [.any]],true,[])else none
 |.build t parts=>match placesOf cx.P t,(zeroOf cx.P t:Option (AV K))with
   |some ps,some z=>if z.known then(uJ ps ev z.bw parts.toList).map fun cs=>(.agg cs,H,true,[])else none
   |_,_=>none
 |.store t p x=>match dn cx.P t with
   |some n=>if(ev x).bw.length=n/\(ev x).bw.all AV.one=true then match ev p with
    |.ptr h off=>match H[h]? with
      |some (.box cs)=>if off+n<=cs.length then match thaw cx.deep H (cx.mg t) (ev x).bw with
       |(xs,H1)=>if jR (setCells cs off xs)&& !jR cs then none else some (.any,H1.set h (.box (setCells cs off xs)),true,[h])else none
      |_=>none
    |.ep h st i off=>match H[h]? with
      |some (.arr c l)=>if st=K.sz c/\fY (ev x).bw=true/\off+n<=K.sz c then
        match cx.D.dec c (setCells (cx.D.cells c (l.getD i (K.zero c))) off (ev x).bw)with
        |some (y,b)=>some (.any,H.set h (.arr c (l.set i y)),b,[h])
        |none=>none
       else none
      |_=>none
    |_=>none else none
   |none=>none
 |.makeSlice t len cap=>match elemOf? cx.P t with
   |none=>none
   |some e=>match na cx e,(zeroOf cx.P e:Option (AV K)),ev len,ev cap with
    |some c,some z,.int _ n,.int _ m=>if dn cx.P e=some (K.sz c)/\room e cx.P=true/\fY z.bw=true/\z.known=true then
      match cx.D.dec c z.bw with
      |some (y,b)=>some (.sl H.length,H++[.arr c (List.replicate n.toNat y)],b&&(decide (0<=n)&&(decide (n<=m)&&decide (m<=1073741824))),[])
      |none=>none
     else none
    |_,_,_,_=>none
 |.buildSlice t len parts=>match elemOf? cx.P t with
   |none=>none
   |some e=>match na cx e,inOrder ev 0 parts.toList with
    |some c,some l=>if dn cx.P e=some (K.sz c)/\mh cx.P e=true/\l.length=len/\len<=4096/\K.sz c<=4096/\l.all (fun v=>fY v.bw&&(v.known&&decide (v.bw.length=K.sz c)))=true then
      match nb cx.D c l with
      |some (y,b)=>some (.sl H.length,H++[.arr c y],b,[])
      |none=>none
     else none
    |_,_=>none
 |.convert src dst x=>match cx.P.underlying src,elemOf? cx.P dst,ev x with
   |some .string,some e,.str s=>match cx.P.underlying e,na cx e with
    |some (.int .u8),some c=>match cx.D.byte c with
     |some (_,g)=>if dn cx.P e=some (K.sz c)then some (.sl H.length,H++[.arr c (s.map g)],decide (s.length<=1073741824),[])else none
     |none=>none
    |_,_=>none
   |some (.slice _),some e,.sl h=>match cx.P.underlying e,H[h]? with
    |some (.int .u8),some (.arr c l)=>if src=dst/\(cx.D.kn c).isSome=true then some (.sl h,H,decide (1<=l.length),[])else none
    |_,_=>none
   |_,_,_=>none
 |.makeMap _ none=>some (.mp,H++[.dead],true,[])
 |.call {callee:=.builtin .append,args,argTypes}=>match args.toList,argTypes.toList with
   |[s,x],[sT,xT]=>if(cx.P.underlying xT).isNone then none else if(uG cx.P xT).isSome then wT cx H sT (ev s) (ev x)else zN cx H sT (ev s) (ev x)
   |_,_=>none
 |.call {callee:=.builtin .clear,args,argTypes}=>match args.toList,argTypes.toList with
   |[x],[T]=>match ev x,elemOf? cx.P T with
     |.vw h st lo hi,some e=>match H[h]?,(zeroOf cx.P e:Option (AV K))with
       |some (.arr c l),some z=>if st=K.sz c/\dn cx.P e=some (K.sz c)/\z.bw.all AV.one=true then match cx.D.dec c z.bw with
         |some (y,b)=>some (.any,H.set h (.arr c (l.take lo++List.replicate (hi-lo) y++l.drop hi)),b&&decide (hi<=l.length),[h])
         |none=>none
        else none
       |_,_=>none
     |_,_=>none
   |_,_=>none
 |.call {callee:=.builtin .copy,args,argTypes}=>match args.toList,argTypes.toList with
   |[x,y],[T,_]=>match ev x,ev y,elemOf? cx.P T with
     |.vw h st lo hi,.str s,some e=>match H[h]? with
       |some (.arr c l)=>match cx.D.byte c with
        |some (_,g)=>if st=K.sz c/\dn cx.P e=some (K.sz c)then some (.int .i64 (s.length:Int),H.set h (.arr c (l.take lo++s.map g++l.drop (lo+s.length))),decide (hi<=l.length)&&decide (s.length<=hi-lo),[h])else none
        |none=>none
       |_=>none
     |_,_,_=>none
   |_,_=>none
 |_=>none
mutual
def oi:AV K->Bool
 |.sl _|.ptr .. |.ep .. |.np _|.vw ..=>true
 |.agg l|.bk l|.fn _ l=>rD l
 |_=>false
def rD:List (AV K)->Bool
 |[]=>false
 |v::r=>oi v||rD r
end
mutual
def eZ(f:Nat->Option Nat):AV K->Option (AV K)
 |.ptr h o=>(f h).map (.ptr · o)
 |.sl h=>(f h).map .sl
 |.np h=>(f h).map .np
 |.ep h s i o=>(f h).map (.ep · s i o)
 |.vw h s a b=>(f h).map (.vw · s a b)
 |.fn g l=>(iL f l).map (.fn g)
 |.agg l=>(iL f l).map .agg
 |.bk l=>(iL f l).map .bk
 |.opt ..=>none
 |v=>some v
def iL(f:Nat->Option Nat):List (AV K)->Option (List (AV K))
 |[]=>some []
 |v::r=>match eZ f v,iL f r with
  |some x,some l=>some (x::l)
  |_,_=>none
end
def ren(m:List Nat):AV K->Option (AV K):=eZ fun h=>m.idxOf? h
def IT(m:List Nat):List (AV K)->Option (List (AV K)):=iL fun h=>m.idxOf? h
def back(m:List Nat):AV K->Option (AV K):=eZ fun h=>m[h]?
def VM(m:List Nat):List (AV K)->Option (List (AV K)):=iL fun h=>m[h]?
def jS(f:Nat->Option Nat):Ob K->Option (Ob K)
 |.box cs=>(iL f cs).map .box
 |.opn ..=>none
 |o=>some o
def zO(m:List Nat):Ob K->Option (Ob K):=jS fun h=>m.idxOf? h
def rE(m:List Nat):Ob K->Option (Ob K):=jS fun h=>m[h]?
def lH(f:Ob K->Option (Ob K)):List (Ob K)->Option (List (Ob K))
 |[]=>some []
 |o::r=>match f o,lH f r with
  |some x,some l=>some (x::l)
  |_,_=>none
def reach(H:List (Ob K)):Nat->List Nat->List Nat->List Nat
 |0,_,acc=>acc
 |_,[],acc=>acc
 |n+1,h::r,acc=>if acc.contains h then reach H n r acc else
   reach H n (r++(match H[h]? with|some (.box cs)=>bD cs|_=>[])) (acc++[h])
def rG(H:List (Ob K)):List Nat->Bool
 |[]=>true
 |h::m=>decide (h<H.length)&&(!m.contains h&&rG H m)
def iM:List (Ob K)->List Nat->List (Ob K)->List (Ob K)
 |H,h::m,o::r=>iM (H.set h o) m r
 |H,_,_=>H
def IU(D:bg K):Ob K->Bool
 |.arr c _=> !db (D.cells c (K.zero c))
 |.tree ..=>true
 |_=>false
def ku(cx:Cx K)(m:Mode)(H:List (Ob K))(f:FuncId)(args:List (AV K)):Option (AV K×List (Ob K)×Bool×List Nat):=
 match m with
 |.plain=>if fY (lg cx.D H args)then match cx.call f (lg cx.D H args) []with
     |some (r,[],c)=>if r.closed&&(!gX r|| !rD args)then some (r,H,c,[])else none
     |_=>none else none
 |.iK=>if fY (lg cx.D H args)&& !rD args then match cx.call f (lg cx.D H args) []with
     |some (r,Hn,c)=>match back ((List.range Hn.length).map (H.length+·)) r,lH (rE ((List.range Hn.length).map (H.length+·))) Hn with
      |some r',some rH=>some (r',H++rH,c,[])
      |_,_=>none
     |none=>none else none
 |.fresh=>if fY (lg cx.D H args)then match cx.call f (lg cx.D H args) []with
     |some (r,Hn,c)=>if !gX r&&Hn.all (IU cx.D)then match back ((List.range Hn.length).map (H.length+·)) r,lH (rE ((List.range Hn.length).map (H.length+·))) Hn with
      |some r',some rH=>some (r',H++rH,c,[])
      |_,_=>none else none
     |none=>none else none
 |.kZ|.aY=>none
 |.pass=>if !rG H (reach H 64 (bD args) [])then none else match IT (reach H 64 (bD args) []) args,lH (zO (reach H 64 (bD args) [])) ((reach H 64 (bD args) []).map fun h=>H.getD h .dead)with
     |some args',some Hi=>match cx.call f args' Hi with
      |some (r,Ho,c)=>
       match back (reach H 64 (bD args) []++(List.range (Ho.length-Hi.length)).map (H.length+·)) r,lH (rE (reach H 64 (bD args) []++(List.range (Ho.length-Hi.length)).map (H.length+·))) Ho with
       |some r',some gm=>if Hi.length<=Ho.length then some (r',iM H (reach H 64 (bD args) []) (gm.take Hi.length)++gm.drop Hi.length,c,reach H 64 (bD args) [])else none
       |_,_=>none
      |none=>none
     |_,_=>none
def rJ(cx:Cx K)(m:Mode)(H:List (Ob K))(f:FuncId)(args:List (AV K)):Option (AV K×List (Ob K)×Bool×List Nat):=
 ku cx m (ik H (bD args)) f (m9 (ik H (bD args)) args)
def oj(q:Bool)(cx:Cx K)(H:List (Ob K))(f:FuncId)(args:List (AV K)):Option (AV K×List (Ob K)×Bool×List Nat):=
 match cx.mode f with
 |.plain=>ku cx .plain H f args
 |.kZ=>match ku cx .plain H f args with
   |some r=>some r
   |none=>if q then none else rJ cx .plain H f args
 |.iK=>if q then none else rJ cx .iK H f args
 |.pass=>if q then none else ku cx .pass H f args
 |.aY=>if q then none else rJ cx .pass H f args
 |.fresh=>if q then none else match ku cx .iK H f args with
   |some r=>some r
   |none=>match ku cx .fresh H f args with
    |some r=>some r
    |none=>rJ cx .iK H f args
def jT:List Nat->Bool
 |[]=>true
 |x::r=> !r.contains x&&jT r
def zP(D:bg K)(H:List (Ob K)):AV K->Option (AV K)
 |.sl h=>match H[h]? with
   |some (.arr c l)=>if db (D.cells c (K.zero c))then none else some (.ax c l)
   |some (.tree c l)=>some (.ax c l)
   |_=>none
 |.cP=>some .cP
 |.int k n=>some (.int k n)
 |.bool b=>some (.bool b)
 |.str s=>some (.str s)
 |.da=>some .da
 |_=>none
def ky(D:bg K)(H:List (Ob K)):List (AV K)->Option (List (AV K))
 |[]=>some []
 |v::r=>match zP D H v,ky D H r with
  |some x,some l=>some (x::l)
  |_,_=>none
def uK(D:bg K)(H:List (Ob K)):List (AV K)->Option (List (AV K))
 |[]=>some []
 |v::r=>match ky D H v.bw,uK D H r with
  |some cs,some l=>some (.agg cs::l)
  |_,_=>none
def eO(H:List (Ob K)):List Nat->List (Ob K)
 |[]=>H
 |h::r=>eO (H.set h .dead) r
def om(H:List (Ob K))(c:K.U):AV K->Option (List (K.El c)×List Nat)
 |.cP=>some ([],[])
 |.sl h=>match H[h]? with
   |some (.tree c' l)=>match K.je c' c with
    |.isTrue e=>some (e ▸ l,[h])
    |.isFalse _=>none
   |_=>none
 |_=>none
def uL(cx:Cx K)(ev:Operand->AV K)(H:List (Ob K)):Op->Option (AV K×List (Ob K)×Bool×List Nat)
 |.makeSlice t len cap=>match elemOf? cx.P t with
   |none=>none
   |some e=>match na cx e,(zeroOf cx.P e:Option (AV K)),ev len,ev cap with
    |some c,some z,.int _ n,.int _ m=>if cx.deep c=true/\dn cx.P e=some (K.sz c)/\room e cx.P=true/\z.known=true then
      match ky cx.D [] z.bw with
      |some zs=>match cx.D.dec c zs with
       |some (y,b)=>some (.sl H.length,H++[.tree c (List.replicate n.toNat y)],b&&(decide (0<=n)&&(decide (n<=m)&&decide (m<=1073741824))),[])
       |none=>none
      |none=>none
     else none
    |_,_,_,_=>none
 |.buildSlice t len parts=>match elemOf? cx.P t with
   |none=>none
   |some e=>match na cx e,inOrder ev 0 parts.toList with
    |some c,some l=>if cx.deep c=true/\dn cx.P e=some (K.sz c)/\mh cx.P e=true/\l.length=len/\len<=4096/\K.sz c<=4096/\l.all (fun v=>v.known&&decide (v.bw.length=K.sz c))=true/\jT (bD l)=true then
      match uK cx.D H l with
      |some l'=>match nb cx.D c l' with
       |some (y,b)=>some (.sl H.length,eO H (bD l)++[.tree c y],b,bD l)
       |none=>none
      |none=>none
     else none
    |_,_=>none
 |.store t p x=>match ev p,dn cx.P t with
   |.ep h st i off,some n=>match H[h]? with
     |some (.tree c l)=>if st=K.sz c/\off+n<=K.sz c/\(ev x).bw.length=n/\(ev x).bw.all AV.one=true/\jT (h::bD (ev x).bw)=true then
       match ky cx.D H (ev x).bw with
       |some xs=>match cx.D.dec c (setCells (cx.D.cells c (l.getD i (K.zero c))) off xs)with
        |some (y,b)=>some (.any,(eO H (h::bD (ev x).bw)).set h (.tree c (l.set i y)),b,h::bD (ev x).bw)
        |none=>none
       |none=>none
      else none
     |some (.opn c l i' off' cs)=>if st=K.sz c/\off=off'/\n=cs.length/\(ev x).bw.length=n/\(ev x).bw.all AV.one=true/\jT (h::bD (ev x).bw)=true then
       match ky cx.D H (ev x).bw with
       |some xs=>match cx.D.dec c (setCells (cx.D.cells c (l.getD i (K.zero c))) off xs)with
        |some (y,b)=>some (.any,(eO H (h::bD (ev x).bw)).set h (.tree c (l.set i y)),b&&decide (i=i'),h::bD (ev x).bw)
        |none=>none
       |none=>none
      else none
     |_=>none
   |_,_=>none
 |.call {callee:=.builtin .append,args,argTypes}=>match args.toList,argTypes.toList with
   |[s,x],[sT,xT]=>if(uG cx.P xT).isSome||(cx.P.underlying xT).isNone then none else match elemOf? cx.P sT with
     |none=>none
     |some e=>match na cx e with
      |none=>none
      |some c=>if cx.deep c=true/\dn cx.P e=some (K.sz c)/\room e cx.P=true/\mh cx.P e=true then
        match om H c (ev s),om H c (ev x)with
        |some (l,hs),some (m,hs')=>if jT (hs++hs')then some (.sl H.length,eO H (hs++hs')++[.tree c (l++m)],decide (l.length+m.length<=1073741824),hs++hs')else none
        |_,_=>none
       else none
   |_,_=>none
 |_=>none
def pY(D:bg K)(dp:K.U->Bool):Nat->List (AV K)->Option (List (AV K)×List (Ob K))
 |_,[]=>some ([],[])
 |n,.ax c l::r=>if dp c|| !db (D.cells c (K.zero c))then match pY D dp (n+1) r with
    |some (cs,os)=>some (.sl n::cs,cond (dp c) (.tree c l) (.arr c l)::os)
    |none=>none
  else none
 |n,v::r=>match pY D dp n r with
    |some (cs,os)=>some (v::cs,os)
    |none=>none
def uM(cx:Cx K)(ev:Operand->AV K)(H:List (Ob K)):Op->Option (AV K×List (Ob K)×Bool×List Nat)
 |.load t p=>if cx.opn then match ev p,zK cx.P t,dn cx.P t with
     |.ep h st i off,some ag,some n=>match H[h]? with
       |some (.tree c l)=>if st=K.sz c/\off+n<=K.sz c/\0<n then match pY cx.D cx.deep H.length (((cx.D.cells c (l.getD i (K.zero c))).drop off).take n)with
         |some (cs,os)=>some (cond ag (.agg cs) (cs.getD 0 .any),H.set h (.opn c l i off cs)++os,true,[h])
         |none=>none
        else none
       |_=>none
     |_,_,_=>none
   else none
 |_=>none
def DN:List (Ob K)->Option Nat
 |[]=>none
 |.opn ..::_=>some 0
 |_::r=>(DN r).map (· +1)
def shut(D:bg K)(H:List (Ob K)):Option (List (Ob K)×Bool×List Nat):=
 match DN H with
 |none=>some (H,true,[])
 |some h=>match H[h]? with
  |some (.opn c l i off cs)=>if jT (h::bD cs)=true then match ky D H cs with
    |some xs=>match D.dec c (setCells (D.cells c (l.getD i (K.zero c))) off xs)with
     |some (y,b)=>some ((eO H (h::bD cs)).set h (.tree c (l.set i y)),b,h::bD cs)
     |none=>none
    |none=>none
   else none
  |_=>none
def uN(q:Bool)(cx:Cx K)(H:List (Ob K))(f:FuncId)(args:List (AV K)):Option (AV K×List (Ob K)×Bool×List Nat):=
 if cx.opn&& !cx.lz&& !q then match oj q cx H f args with
  |some (r,H1,c,t)=>match shut cx.D H1 with
   |some (H2,b,t2)=>some (r,H2,c&&b,t++t2)
   |none=>none
  |none=>none
 else oj q cx H f args
def guardOf(ops:List Oper)(o:Oper):Option (Option (Nat×Bool)):=
 match o.guard with
 |none=>some none
 |some (j,w)=>match ops[j]? with
  |some g=>match g.dst with
   |some t=>some (some (t,w))
   |none=>none
  |none=>none
def rK(st:St K)(wr:List Nat)(dst:Option Nat)(v:AV K)(H:List (Ob K))(ok:Bool):Option (St K×List Nat):=
 match dst with
 |none=>some (⟨st.tm,H,ok⟩,wr)
 |some d=>if wr.contains d||decide (st.tm.length<=d)then none else some (⟨st.tm.set d v,H,ok⟩,d::wr)
def uO(cx:Cx K)(ev:Operand->AV K)(H:List (Ob K))(op:Op):Option (AV K×List (Ob K)×Bool×List Nat):=
 match uL cx (fun x=>d3 H (ev x)) H op with
 |some r=>some r
 |none=>match kt ev op with
 |[]=>rC cx (fun x=>d3 H (ev x)) H op
 |hs=>match rB cx (fun x=>d3 (ik H hs) (ev x)) (ik H hs) op with
  |some (v,c)=>some (v,ik H hs,c,[])
  |none=>rC cx (fun x=>d3 (ik H hs) (ev x)) (ik H hs) op
def DO:Operand->Bool
 |.const (.slice none 0 0)=>true
 |_=>false
def il(cx:Cx K):Op->Bool
 |.assign x=> !DO x
 |.slice t ..=>IP cx.P t
 |.load t _=> !cx.opn||(cx.lz&&(cx.mg t).all Option.isNone)
 |.makeFunc .. |.move _|.pick .. |.binOp .. |.unOp .. |.extract .. |.field .. |.fieldAddr .. |.indexAddr .. |.index .. |.nilCheck _=>true
 |.convert _ dst _=>(elemOf? cx.P dst).isNone
 |.call {callee:=.builtin .len, ..}|.call {callee:=.builtin .min, ..}|.call {callee:=.builtin .max, ..}=>true
 |.call {callee:=.value (.func f), ..}=>cx.mode f== .plain&&(!cx.opn||cx.lz)
 |_=>false
def cutV(cx:Cx K)(ev:Operand->AV K)(H:List (Ob K)):Op->Option (AV K×List (Ob K)×Bool×List Nat)
 |.slice t x none (some y) none=>if cx.cut then match ev x,ev y,elemOf? cx.P t with
   |.sl h,.int _ n,some e=>match H[h]? with
     |some (.arr c l)=>if dn cx.P e=some (K.sz c)then some (.sl H.length,H.set h .dead++[.arr c (l.take n.toNat)],bT 0 n l.length,[h])else none
     |some (.tree c l)=>if dn cx.P e=some (K.sz c)then some (.sl H.length,H.set h .dead++[.tree c (l.take n.toNat)],bT 0 n l.length,[h])else none
     |_=>none
   |_,_,_=>none else none
 |.slice t x (some y) none none=>if cx.cut then match ev x,ev y,elemOf? cx.P t with
   |.sl h,.int _ n,some e=>match H[h]? with
     |some (.arr c l)=>if dn cx.P e=some (K.sz c)/\cx.D.kn c=none then some (.sl H.length,H.set h .dead++[.arr c (l.drop n.toNat)],bT n l.length l.length,[h])else none
     |some (.tree c l)=>if dn cx.P e=some (K.sz c)/\cx.D.kn c=none then some (.sl H.length,H.set h .dead++[.tree c (l.drop n.toNat)],bT n l.length l.length,[h])else none
     |_=>none
   |_,_,_=>none else none
 |_=>none
def wU(cx:Cx K)(ev:Operand->AV K)(H:List (Ob K)):Op->Option (AV K×List (Ob K)×Bool×List Nat)
 |.buildSlice t len parts=>match elemOf? cx.P t with
   |none=>none
   |some e=>match cx.ty e,inOrder ev 0 parts.toList with
    |some c,some l=>if dn cx.P e=some (K.sz c)/\mh cx.P e=true/\l.length=len/\len<=4096/\K.sz c<=4096/\l.all (fun v=>fY v.bw&&(v.known&&decide (v.bw.length=K.sz c)))=true then
      match nb cx.D c l with
      |some (y,b)=>some (.ax c y,H,b,[])
      |none=>none
     else none
    |_,_=>none
 |_=>none
def kz(q:Bool)(cx:Cx K)(tm:List (AV K))(gs:List (Nat×Bool))(H:List (Ob K))(T:TypeId):Op->Option (AV K×List (Ob K)×Bool×List Nat)
 |.pick c x y=>match c,dJ tm gs c with
   |.tmp t,.bool b=>match known cx t with
     |some b0=>some (cond b0 (dJ tm gs x) (dJ tm gs y),H,b==b0,[])
     |none=>some (merge b (dJ tm ((t,true)::gs) x) (dJ tm ((t,false)::gs) y),H,true,[])
   |.const _,.bool b=>some (merge b (dJ tm gs x) (dJ tm gs y),H,true,[])
   |_,_=>none
 |.call {callee:=.value f,args, ..}=>match dJ tm gs f with
   |.fn g caps=>uN q cx H g (args.toList.map (fun x=>d3 H (dJ tm gs x))++caps)
   |_=>none
 |.assign x=>if !q&&DO x then match elemOf? cx.P T with
     |some e=>match cx.ty e with
      |some c=>some (.sl H.length,H++[cond (cx.deep c) (.tree c []) (.arr c [])],true,[])
      |none=>some (dJ tm gs x,H,true,[])
     |none=>some (dJ tm gs x,H,true,[])
   else some (d3 H (dJ tm gs x),H,true,[])
 |op=>match rB cx (fun x=>d3 H (dJ tm gs x)) H op with
  |some (v,c)=>some (v,H,c,[])
  |none=>if q then wU cx (fun x=>d3 H (dJ tm gs x)) H op else if il cx op then none else match uM cx (dJ tm gs) H op with
   |some r=>some r
   |none=>match cutV cx (dJ tm gs) H op with
   |some r=>some r
   |none=>uO cx (dJ tm gs) H op
def mi(cx:Cx K):Op->Bool
 |.assign _=>true
 |.slice t ..=> !cx.cut||IP cx.P t
 |.call {callee:=.value (.func f), ..}=>cx.mode f== .plain||cx.mode f== .kZ
 |op=>il cx op
def VN(cx:Cx K):Op->Bool
 |.buildSlice ..=>true
 |op=>mi cx op
def gY(q:Bool)(cx:Cx K)(ops:List Oper)(tm:List (AV K))(H:List (Ob K))(wr:List Nat)(o:Oper):Option (AV K×List (Ob K)×Bool):=
 match guardOf ops o with
 |none=>none
 |some none=>match kz q cx tm [] H o.type o.op with
  |some (v,H',c,_)=>if v.iJ then none else some (v,H',c)
  |none=>none
 |some (some (g,w))=>match known cx g with
  |some b0=>match tm[g]? with
   |some (.bool b)=>if b0=w then match kz q cx tm [] H o.type o.op with
     |some (v,H',c,_)=>if v.iJ then none else some (v,H',c&&(b==b0))
     |none=>none
    else some (.any,H,b==b0)
   |_=>none
  |none=>match uF tm 6 (g,w)with
   |none=>none
   |some b=>if VN cx o.op&&wr.contains g then match kz true cx tm [(g,w)] H o.type o.op with
     |some (v,_,c,_)=>some (.opt g w v,H,c|| !b)
     |none=>none else none
def rL(cx:Cx K)(ops:List Oper)(st:St K)(wr:List Nat)(o:Oper):Option (St K×List Nat):=
 match gY false cx ops st.tm st.H wr o with
 |some (v,H',c)=>rK st wr o.dst v H' (c&&st.ok)
 |none=>none
def kA(cx:Cx K)(ops:List Oper):List Oper->St K->List Nat->Option (St K×List Nat)
 |[],st,wr=>some (st,wr)
 |o::r,st,wr=>match rL cx ops st wr o with
  |some (st',wr')=>kA cx ops r st' wr'
  |none=>none
def iN(tm:List (AV K)):List Nat->List (AV K)
 |[]=>tm
 |d::r=>match tm[d]? with
  |some (.opt ..)=>iN (tm.set d .any) r
  |_=>iN tm r
def gB:List Oper->List Nat->List Nat
 |[],acc=>acc
 |o::r,acc=>gB r (acc++[o.after.toList.foldl (fun s e=>s|||2^e.on|||acc.getD e.on 0) 0])
def en(bits:Nat):List Oper->Nat->List (AV K)->List (AV K)
 |[],_,tm=>tm
 |o::r,i,tm=>en bits r (i+1) (match o.dst with
  |some d=>if bits.testBit i then tm else tm.set d .any
  |none=>tm)
def wV(i:Nat):Nat->List Nat->Nat
 |_,[]=>0
 |k,b::r=>(cond (b.testBit i) (2^k) 0)|||wV i (k+1) r
def eI(bs:List Nat)(i:Nat):Nat:=bs.getD i 0|||wV i 0 bs
def lI(cx:Cx K)(ops:List Oper)(bs:List Nat):List Oper->Nat->St K->List Nat->Option (St K×List Nat)
 |[],_,st,wr=>some (st,wr)
 |o::r,i,st,wr=>match gY true cx ops (en (eI bs i) ops 0 st.tm) st.H wr o with
  |some (v,_,c)=>match rK st wr o.dst v st.H (c&&st.ok)with
   |some (st',wr')=>lI cx ops bs r (i+1) st' wr'
   |none=>none
  |none=>none
def jv:List Oper->Nat->Bool
 |[],_=>true
 |o::r,i=>(o.after.toList.all fun e=>decide (e.on<i)&&Region.binds .any e)&&jv r (i+1)
def gZ(bits:Nat):Nat->List (Ob K)->List (Ob K)
 |_,[]=>[]
 |i,o::r=>(if bits.testBit i then .dead else o)::gZ bits (i+1) r
def jU(bits:Nat):Nat->List (Ob K)->List (Ob K)->List (Ob K)
 |i,o::r,o'::r'=>(if bits.testBit i then o else o')::jU bits (i+1) r r'
 |_,[],r'=>r'
 |_,_::_,[]=>[]
mutual
def AV.upto(n:Nat):AV K->Bool
 |.ptr h _|.sl h|.ep h _ _ _|.np h|.vw h _ _ _=>decide (h<n)
 |.fn _ l|.agg l|.bk l=>nc n l
 |.opt _ _ v=>v.upto n
 |_=>true
def nc(n:Nat):List (AV K)->Bool
 |[]=>true
 |v::r=>v.upto n&&nc n r
end
def Ob.upto(n:Nat):Ob K->Bool
 |.box cs=>nc n cs
 |.opn _ _ _ _ cs=>nc n cs
 |_=>true
def iO(ev:Operand->AV K)(op:Op):List Nat:=
 kt ev op++(match op with
  |.store _ p _=>hands (ev p)
  |.convert _ _ x=>hands (ev x)
  |.call {callee:=.builtin .append,args, ..}=>(match args.toList with
    |s::x::_=>hands (ev s)++hands (ev x)
    |[s]=>hands (ev s)
    |[]=>[])
  |.call {callee:=.builtin .clear,args, ..}=>(match args.toList with
    |s::_=>hands (ev s)
    |[]=>[])
  |.call {callee:=.builtin .copy,args, ..}=>(match args.toList with
    |s::_=>hands (ev s)
    |[]=>[])
  |_=>[])
def pZ(cx:Cx K):Op->Bool
 |.box .. |.alloc _|.build .. |.store .. |.makeSlice .. |.buildSlice .. |.convert .. |.slice ..=>true
 |.call {callee:=.builtin .append, ..}=>true
 |.call {callee:=.value (.func f), ..}=>(cx.mode f== .fresh||(cx.mode f== .pass||cx.mode f== .aY))&&(!cx.opn||cx.lz)
 |.load ..=>cx.opn&&cx.lz
 |_=>false
def DR(ev:Operand->AV K):Op->List Nat
 |.call {callee:=.value _,args, ..}=>bD (args.toList.map ev)
 |_=>[]
def uP(cx:Cx K)(H:List (Ob K))(ev:Operand->AV K):Op->List Nat
 |.call {callee:=.value (.func f),args, ..}=>(match cx.mode f with
   |.pass=>reach H 64 (bD (args.toList.map fun y=>d3 H (ev y))) []
   |.aY=>bD (args.toList.map fun y=>d3 H (ev y))++reach (ik H (bD (args.toList.map fun y=>d3 H (ev y)))) 64 (bD (m9 (ik H (bD (args.toList.map fun y=>d3 H (ev y)))) (args.toList.map fun y=>d3 H (ev y)))) []
   |_=>[])
 |_=>[]
def bitsOf:List Nat->Nat
 |[]=>0
 |h::r=>2^h|||bitsOf r
def uQ(cx:Cx K)(ops:List Oper)(tm:List (AV K))(H:List (Ob K))(wr:List Nat)(o:Oper):Option (AV K×List (Ob K)×Bool):=
 if mi cx o.op then gY true cx ops tm H wr o else if pZ cx o.op then gY false cx ops tm H wr o else none
def nf(cx:Cx K)(tm:List (AV K))(H:List (Ob K))(op:Op):List Nat:=if mi cx op then[]else match op with
 |.load t p=>(match rB cx (fun x=>d3 H (dJ tm [] x)) H (.load t p)with
   |some _=>[]
   |none=>hands (dJ tm [] p))
 |op=>(iO (dJ tm []) op++DR (dJ tm []) op)++uP cx H (dJ tm []) op
def uR(A:Nat):Nat->List Nat->Nat
 |_,[]=>0
 |k,b::r=>(if A.testBit k then 0 else b)|||uR A (k+1) r
def zQ(A:Nat)(T:List Nat):Nat->List (Nat×Nat)->Bool
 |_,[]=>true
 |i,(m,n)::r=>(A.testBit i||T.all fun h=>decide (n<=h)||m.testBit h)&&zQ A T (i+1) r
def VO:Op->Option (List Operand)
 |.slice _ x _ _ _=>some [x]
 |.move _=>some []
 |.load _ p=>some [p]
 |.fieldAddr ..=>some []
 |.indexAddr _ x _=>some [x]
 |.nilCheck _=>some []
 |.store _ p x=>some [p,x]
 |.binOp ..=>some []
 |.unOp ..=>some []
 |.build _ parts=>some (parts.toList.map (·.2))
 |.extract x _=>some [x]
 |.assign x=>some [x]
 |_=>none
def IV(tm:List (AV K))(n:Nat)(op:Op):Nat:=
 match VO op with
 |none=>0
 |some l=>bitsOf ((List.range n).filter fun h=> !(bD (l.map (dJ tm []))).contains h)
def oo(bs ws:List Nat)(i:Nat)(tm:List (AV K))(n:Nat)(op:Op):Nat:=uR (bs.getD i 0) 0 ws|||IV tm n op
def oq(cx:Cx K)(ops:List Oper)(bs:List Nat):List Oper->Nat->St K->List Nat->List (Nat×Nat)->List Nat->Option (St K×List Nat)
 |[],_,st,wr,_,_=>some (st,wr)
 |o::r,i,st,wr,ms,ws=>
  if nc st.H.length (en (eI bs i) ops 0 st.tm)&&(gZ (oo bs ws i (en (eI bs i) ops 0 st.tm) st.H.length o.op) 0 st.H).all (Ob.upto st.H.length)then
   match uQ cx ops (en (eI bs i) ops 0 st.tm) (gZ (oo bs ws i (en (eI bs i) ops 0 st.tm) st.H.length o.op) 0 st.H) wr o with
   |none=>none
   |some (v,H',c)=>
    if(zQ (bs.getD i 0) (nf cx (en (eI bs i) ops 0 st.tm) (gZ (oo bs ws i (en (eI bs i) ops 0 st.tm) st.H.length o.op) 0 st.H) o.op) 0 ms&&(nf cx (en (eI bs i) ops 0 st.tm) (gZ (oo bs ws i (en (eI bs i) ops 0 st.tm) st.H.length o.op) 0 st.H) o.op).all fun h=> !(oo bs ws i (en (eI bs i) ops 0 st.tm) st.H.length o.op).testBit h&&decide (h<st.H.length))&&decide (st.H.length<=H'.length)then
     match rK st wr o.dst v (jU (oo bs ws i (en (eI bs i) ops 0 st.tm) st.H.length o.op) 0 st.H H') (c&&st.ok)with
     |some (st',wr')=>oq cx ops bs r (i+1) st' wr' (ms++[(oo bs ws i (en (eI bs i) ops 0 st.tm) st.H.length o.op,st.H.length)])
       (ws++[bitsOf (nf cx (en (eI bs i) ops 0 st.tm) (gZ (oo bs ws i (en (eI bs i) ops 0 st.tm) st.H.length o.op) 0 st.H) o.op++List.range' st.H.length (H'.length-st.H.length))])
     |none=>none
    else none
  else none
def ng(cx:Cx K)(ops:List Oper)(st:St K):Option (St K):=
 if(ops.all fun o=>mi cx o.op)&&jv ops 0 then match lI cx ops (gB ops []) ops 0 st []with
     |some (st',wr)=>some ⟨iN st'.tm wr,st'.H,st'.ok⟩
     |none=>none
  else if jv ops 0 then match oq cx ops (gB ops []) ops 0 st [] [] []with
   |some (st',wr)=>some ⟨iN st'.tm wr,st'.H,st'.ok⟩
   |none=>none
  else none
def wW(π:List Nat)(n:Nat):Bool:=decide (π.length=n)&&(π.all (fun i=>decide (i<n))&&((List.range n).all (fun i=>π.contains i)&&jT π))
def rM(π:List Nat)(n:Nat)(o:Oper):Oper:=
 {o with after:=(o.after.filter (Region.binds .any)).map (fun e=>{e with on:=(π.idxOf? e.on).getD n}),guard:=o.guard.map fun g=>((π.idxOf? g.1).getD n,g.2)}
def permuted(π:List Nat)(ops:List Oper):List Oper:=π.map fun i=>match ops[i]? with
 |some o=>rM π ops.length o
 |none=>{dst:=none,op:=.move (.const .nilIface),type:=0,pos:= "",after:= #[],guard:=none}
def IW(cx:Cx K)(ops:List Oper)(bs:List Nat):List Nat:=
 match(List.range ops.length).foldl (fun acc i=>match ops[i]? with
  |some o=>if pZ cx o.op&&(!mi cx o.op&& !acc.contains i)then acc++((List.range ops.length).filter fun j=>(bs.getD i 0).testBit j&& !acc.contains j)++[i]else acc
  |none=>acc) []with
 |acc=>acc++(List.range ops.length).filter fun j=> !acc.contains j
def wX(cx:Cx K)(ops:List Oper)(π:List Nat)(st:St K):Option (St K):=
 if wW π ops.length then ng cx (permuted π ops) st else none
def DT(cx:Cx K)(ops:List Oper)(st:St K):Option (St K):=
 if jv ops 0 then match ng cx ops st with
  |some r=>some r
  |none=>wX cx ops (IW cx ops (gB ops [])) st
 else match wX cx ops (List.range ops.length) st with
  |some r=>some r
  |none=>wX cx ops (IW cx ops (gB (permuted (List.range ops.length) ops) [])) st
def g9(cx:Cx K)(ops:List Oper)(draw:Bool)(st:St K):Option (St K):=
 if draw then DT cx ops st
 else match kA cx ops ops st []with
  |some (st',wr)=>some ⟨iN st'.tm wr,st'.H,st'.ok⟩
  |none=>none
def writes:Code->List Nat
 |.region _ ops _=>ops.toList.filterMap (·.dst)
 |.seq a b=>writes a++writes b
 |.cond _ a b=>writes a++writes b
 |.block _ c=>writes c
 |.loop c=>writes c
 |.scope c=>writes c
 |.rangeFunc _ ps a c=>ps.toList++writes a++writes c
 |_=>[]
def simple(cx:Cx K):Code->Bool
 |.skip=>true
 |.region _ ops _=>ops.toList.all fun o=>il cx o.op
 |.seq a b=>simple cx a&&simple cx b
 |.cond _ a b=>simple cx a&&simple cx b
 |_=>false
def iP(b:Bool)(wr:List Nat):Nat->List (AV K)->List (AV K)->List (AV K)->List (AV K)
 |n,v::r,x::s,y::t=>(if wr.contains n then merge b x y else v)::iP b wr (n+1) r s t
 |_,_,_,_=>[]
def d4(tm:List (AV K)):List Nat->List (AV K)->List (AV K)
 |d::r,v::s=>d4 (tm.set d v) r s
 |_,_=>tm
def keyOf:Code->Nat
 |.region id _ _=>id
 |.seq a _=>keyOf a
 |.cond _ a _=>keyOf a
 |.block _ c=>keyOf c
 |.loop c=>keyOf c
 |_=>0
def inLoop(H:List (Ob K))(vals:List (AV K)):Option (List Nat×List (AV K)×List (Ob K)):=
 if rG H (reach H 64 (bD vals) [])then match IT (reach H 64 (bD vals) []) vals,lH (zO (reach H 64 (bD vals) [])) ((reach H 64 (bD vals) []).map fun h=>H.getD h .dead)with
  |some jV,some Hi=>some (reach H 64 (bD vals) [],jV,Hi)
  |_,_=>none
 else none
def fZ(m:List Nat)(n k:Nat):List Nat:=m++(List.range (k-m.length)).map (n+·)
def zR(L:bZ K)(m:List Nat)(st:St K)(vs:List (AV K))(Ho:List (Ob K)):Option (St K):=
 match VM (fZ m st.H.length Ho.length) vs,lH (rE (fZ m st.H.length Ho.length)) Ho with
 |some vs',some gm=>if m.length<=Ho.length then some ⟨d4 (List.replicate L.n .any) L.outs vs',iM st.H m (gm.take m.length)++gm.drop m.length,st.ok⟩else none
 |_,_=>none
def DU(ops:List Oper):List Nat:=(ops.filterMap fun o=>match guardOf ops o with
 |some (some (g,_))=>some g
 |_=>none).eraseDups
def wY(cx:Cx K)(ops:List Oper)(draw:Bool)(st:St K):List Nat->Option (Bool×St K×St K)
 |[]=>none
 |t::r=>match g9 {cx with gs:=[(t,true)]} ops draw st,g9 {cx with gs:=[(t,false)]} ops draw st with
  |some s1,some s2=>match s1.tm.getD t .any with
   |.bool b=>some (b,s1,s2)
   |_=>wY cx ops draw st r
  |_,_=>wY cx ops draw st r
inductive gn (K:cK) where
 |no
 |leaf (s:St K)
 |node (b:Bool) (x y:gn K)
 |two (x y:St K)
def gn.go(cx:Cx K):gn K->{R:Type}->(St K->Option R)->Option R
 |.no,_,_=>none
 |.leaf s,_,k=>k s
 |.node b x y,_,k=>cond b (x.go cx k) (y.go cx k)
 |.two x y,_,k=>cx.wO (k x) (k y)
def rN(cx:Cx K)(ops:List Oper):List Oper->St K->List Nat->St K×List Oper
 |[],st,_=>(st,[])
 |o::r,st,wr=>match rL cx ops st wr o with
  |some (st',wr')=>rN cx ops r st' wr'
  |none=>(st,o::r)
def zS(cx:Cx K)(st:St K):List Nat->Option (Nat×Bool)
 |[]=>none
 |t::r=>match known cx t with
  |some _=>zS cx st r
  |none=>match st.tm[t]? with
   |some (.bool b)=>some (t,b)
   |_=>zS cx st r
def IX(st:St K):List Oper->Bool
 |[]=>false
 |o::_=>match o.op with
  |.nilCheck (.tmp t)=>match st.tm[t]? with
    |some .da=>true
    |some (.opt _ _ .da)=>true
    |_=>false
  |_=>false
def wZ(cx:Cx K)(ops:List Oper)(draw:Bool)(st:St K):Nat->List (Nat×Bool)->Option (gn K)
 |0,_=>none
 |n+1,gs=>match g9 {cx with gs:=gs} ops draw st with
  |some s=>some (.leaf s)
  |none=>match g9 {cx with call:=cx.alt true,mode:=cx.oh true,gs:=gs} ops draw st,g9 {cx with call:=cx.alt false,mode:=cx.oh false,gs:=gs} ops draw st with
   |some s1,some s2=>some (.two s1 s2)
   |_,_=>match zS {cx with gs:=gs} (rN {cx with gs:=gs} ops ops st []).1 (DU ops)with
    |some (t,b)=>match wZ cx ops draw st n ((t,true)::gs),wZ cx ops draw st n ((t,false)::gs)with
     |some x,some y=>some (.node b x y)
     |_,_=>none
    |none=>if IX (rN {cx with gs:=gs} ops ops st []).1 (rN {cx with gs:=gs} ops ops st []).2 then some .no else none
def w8(cx:Cx K)(ops:List Oper)(draw:Bool)(st:St K):Nat->List (Nat×Bool)->Option (gn K)
 |0,_=>none
 |n+1,gs=>match g9 {cx with gs:=gs} ops draw st with
  |some s=>some (.leaf s)
  |none=>match zS {cx with gs:=gs} (rN {cx with gs:=gs} ops ops st []).1 (DU ops)with
   |some (t,b)=>match w8 cx ops draw st n ((t,true)::gs),w8 cx ops draw st n ((t,false)::gs)with
    |some x,some y=>some (.node b x y)
    |_,_=>none
   |none=>if IX (rN {cx with gs:=gs} ops ops st []).1 (rN {cx with gs:=gs} ops ops st []).2 then some .no else none
def gn.zT:gn K->{R:Type}->(St K->Option R)->Option R
 |.leaf s,_,k=>k s
 |.node b x y,_,k=>cond b (x.zT k) (y.zT k)
 |_,_,_=>none
def uS:Ex->St K->Option (St K)
 |.normal,st=>some st
 |_,_=>none
def fw(cx:Cx K):Code->{R:Type}->St K->(Ex->St K->Option R)->Option R
 |.skip,_,st,k=>k .normal st
 |.region _ ops draw,_,st,k=>match g9 cx ops.toList draw st with
   |some st'=>k .normal st'
   |none=>match wY cx ops.toList draw st (DU ops.toList)with
    |some (b,s1,s2)=>cond b (k .normal s1) (k .normal s2)
    |none=>if(ops.toList.all fun o=>il cx o.op)=true then match w8 cx ops.toList draw st 4 []with
      |some T=>T.zT (k .normal)
      |none=>none
     else match g9 {cx with call:=cx.alt true,mode:=cx.oh true} ops.toList draw st,g9 {cx with call:=cx.alt false,mode:=cx.oh false} ops.toList draw st with
     |some s1,some s2=>cx.wO (k .normal s1) (k .normal s2)
     |_,_=>match wZ cx ops.toList draw st 4 []with
      |some T=>T.go cx (k .normal)
      |none=>none
 |.seq a b,_,st,k=>fw cx a st fun e s=>match e with
   |.normal=>fw cx b s k
   |e=>k e s
 |.cond c a b,_,st,k=>match dJ st.tm [] c with
   |.bool t=>if simple cx a&&simple cx b then
       match fw cx a st uS,fw cx b st uS with
       |some sa,some sb=>k .normal ⟨iP t (writes a++writes b) 0 st.tm sa.tm sb.tm,st.H,(sa.ok|| !t)&&(sb.ok||t)⟩
       |_,_=>none
     else cond t (fw cx a st k) (fw cx b st k)
   |_=>none
 |.block id c,_,st,k=>fw cx c st fun e s=>match e with
   |.exit i=>if i=id then k .normal s else k (.exit i) s
   |e=>k e s
 |.loop c,_,st,k=>match cx.loop (keyOf c)with
   |some L=>if st.tm.length=L.n then match inLoop st.H (L.ins.map fun t=>st.tm.getD t .any)with
     |some (m,vals,Hi)=>L.run vals Hi fun e vs Ho=>match zR L m st vs Ho with
      |some st'=>k e st'
      |none=>none
     |none=>none else none
   |none=>none
 |.exit id,_,st,k=>k (.exit id) st
 |.ret,_,st,k=>k .ret st
 |_,_,_,_=>none
def qa(cx:Cx K)(st:St K):List ResultVar->Option (List (AV K))
 |[]=>some []
 |.tmp t::r=>match qa cx st r with
   |some l=>some (st.tm.getD t .any::l)
   |none=>none
 |.cell a t::r=>match zM cx.P cx.D st.H t (st.tm.getD a .any),qa cx st r with
   |some v,some l=>some (v::l)
   |_,_=>none
def resV(cx:Cx K)(fn:Func)(st:St K):Option (AV K):=
 match qa cx st fn.results.toList with
 |some [v]=>some (d3 st.H v)
 |some l=>some (.bk (m9 st.H l))
 |none=>none
def rO{α β:Type}(f:α->Option β):List α->Option (List β)
 |[]=>some []
 |x::r=>match f x,rO f r with
  |some y,some l=>some (y::l)
  |_,_=>none
def qb(src:List (Option Nat))(h:Nat):Option Nat:=src.idxOf? (some h)
def qc(n0 n:Nat):Nat->List (Option Nat)->Bool
 |_,[]=>true
 |i,none::r=>decide (i<n0)&&qc n0 n (i+1) r
 |i,some h::r=>decide (h<n)&&((decide (n0<=i)||decide (h=i))&&(!r.contains (some h)&&qc n0 n (i+1) r))
def rQ(src:List (Option Nat))(H:List (Ob K)):Option Nat->Option (Ob K)
 |none=>some .dead
 |some h=>match H[h]? with
  |some o=>jS (qb src) o
  |none=>none
def ot(n0:Nat)(src:List (Option Nat))(keep:List Nat)(st:St K):Option (St K):=
 if qc n0 st.H.length 0 src&&decide (n0<=src.length)then
  match iL (qb src) (keep.map fun t=>st.tm.getD t .any),rO (rQ src st.H) src with
  |some vs,some H=>some ⟨d4 (List.replicate st.tm.length .any) keep vs,H,st.ok⟩
  |_,_=>none
 else none
def rR(n0:Nat)(keep:List Nat)(st:St K):Option (St K):=
 ot n0 ((reach st.H 64 (List.range n0++bD (keep.map fun t=>st.tm.getD t .any)) []).map some) keep st
def qd(cx:Cx K)(s:St K):Option (Bool×St K):=match DN s.H with
 |none=>some (true,s)
 |some _=>match shut cx.D s.H with
  |some (H',b,_)=>some (b,⟨s.tm,H',s.ok⟩)
  |none=>none
def zU(cx:Cx K)(n0:Nat)(keep outs:List Nat)(body:Code)(st:St K):Option (St K⊕Ex×St K):=
 fw cx body st fun e s=>cond s.ok (match e with
  |.normal=>match qd cx s with
    |some (b,s1)=>cond b (match rR n0 keep s1 with
     |some s'=>some (.inl s')
     |none=>none) none
    |none=>none
  |e=>match qd cx s with
   |some (b,s1)=>cond b (match rR n0 outs s1 with
    |some s'=>some (.inr (e,s'))
    |none=>none) none
   |none=>none) none
def DV(n0:Nat)(src:List (Option Nat))(v:AV K)(H:List (Ob K)):Option (AV K×List (Ob K)):=
 if qc n0 H.length 0 src&&decide (n0<=src.length)then
  match eZ (qb src) v,rO (rQ src H) src with
  |some v',some H'=>some (v',H')
  |_,_=>none
 else none
def pack(n0:Nat)(v:AV K)(H:List (Ob K)):Option (AV K×List (Ob K)):=
 DV n0 ((reach H 64 (List.range n0++hands v) []).map some) v H
def DW(H:List (Ob K))(h:Nat):Bool:=match H[h]? with
 |some (.arr ..)=>false
 |some (.fR ..)=>false
 |some (.tree ..)=>false
 |_=>true
def VP(n0:Nat)(v:AV K)(H:List (Ob K)):List (Option Nat):=
 ((List.range n0).map fun h=>cond (DW H h) (some h) none)++((reach H 64 ((List.range n0).filter (DW H)++hands v) []).filter fun h=> !(decide (h<n0)&&DW H h)).map some
def zV(mv:Bool)(n0:Nat)(v:AV K)(H:List (Ob K)):Option (AV K×List (Ob K)):=
 DV n0 (cond mv (VP n0 v H) ((reach H 64 (List.range n0++hands v) []).map some)) v H
def VQ(cx:Cx K)(fn:Func)(n0:Nat)(e:Ex)(st:St K):Option (AV K×List (Ob K)):=
 match e with
 |.exit _=>none
 |_=>match resV cx fn st with
  |some v=>cond st.ok (pack n0 v st.H) none
  |none=>none
def ahs(cx:Cx K)(fn:Func)(args:List (AV K))(H:List (Ob K)):Option (AV K×List (Ob K)):=
 match fn.body with
 |some c=>fw cx c ⟨args++List.replicate (fn.ntmps-args.length) .any,H,true⟩ (VQ cx fn H.length)
 |none=>none
end Go.V
namespace Go.V
open Go
variable {K :cK}
def gC(w:World)(b k:Nat)(vs:List Value):Prop:=∀j v,vs[j]?=some v->w.cell? ⟨b,k+j,none⟩=some v
inductive Rep (D:bg K) (ρ:List Value) (S:Nat->Prop) (w:World):AV K->Value->Prop
 |any (v:Value):Rep D ρ S w .any v
 |int (k:IntKind) (n:Int):Rep D ρ S w (.int k n) (.int k n)
 |bool (b:Bool):Rep D ρ S w (.bool b) (.bool b)
 |str (s:List UInt8):Rep D ρ S w (.str s) (.string ⟨s.toArray⟩)
 |da:Rep D ρ S w .da (.pointer none)
 |kB {h:Nat}:Rep D ρ S w (.np h) (.pointer none)
 |np {h b:Nat} (hp:ρ[h]?=some (.pointer (some ⟨b,0,none⟩))):Rep D ρ S w (.np h) (.pointer (some ⟨b,0,none⟩))
 |cP:Rep D ρ S w .cP (.slice none 0 0)
 |mp (r:Option Nat):Rep D ρ S w .mp (.map r)
 |fn {f:Nat} {caps:List (AV K)} {vs:List Value} (hl:caps.length=vs.length) (hr:∀(i:Nat) v x,caps[i]?=some v->vs[i]?=some x->Rep D ρ S w v x):
   Rep D ρ S w (.fn f caps) (.func (.func f) #[] vs.toArray)
 |ptr {h off b:Nat} (hp:ρ[h]?=some (.pointer (some ⟨b,0,none⟩))):Rep D ρ S w (.ptr h off) (.pointer (some ⟨b,off,none⟩))
 |sl {h:Nat} {a:Option Addr} {n c:Nat} (hp:ρ[h]?=some (.slice a n c)):Rep D ρ S w (.sl h) (.slice a n c)
 |ep {h st i off b o n c:Nat} (hp:ρ[h]?=some (.slice (some ⟨b,o,none⟩) n c)) (hi:i<n):Rep D ρ S w (.ep h st i off) (.pointer (some ⟨b,o+i*st+off,none⟩))
 |vw {h st lo hi n c c':Nat} {a a':Option Addr} (hp:ρ[h]?=some (.slice a n c)) (h1:lo<=hi) (h2:hi<=n) (ha:hi-lo=0\/∃b o,a=some ⟨b,o,none⟩/\a'=some ⟨b,o+lo*st,none⟩/\hi-lo<=c'):Rep D ρ S w (.vw h st lo hi) (.slice a' (hi-lo) c')
 |eP {c:K.U} (a:Option Addr) (cap:Nat):Rep D ρ S w (.ax c []) (.slice a 0 cap)
 |ax {c:K.U} {l:List (K.El c)} {b o cap:Nat} (val:Nat->List Value) (hS:S b) (hcap:l.length<=cap)
   (hl:∀i x,l[i]?=some x->(val i).length=(D.cells c x).length)
   (hc:∀i,i<l.length->gC w b (o+i*K.sz c) (val i))
   (hr:∀i x,l[i]?=some x->∀(j:Nat) v y,(D.cells c x)[j]?=some v->(val i)[j]?=some y->Rep D ρ S w v y):
   Rep D ρ S w (.ax c l) (.slice (some ⟨b,o,none⟩) l.length cap)
 |rp {c:K.U} {x:K.El c} {b o off:Nat} (vs:List Value) (hS:S b) (hl:vs.length=(D.cells c x).length) (hc:gC w b o vs)
   (hr:∀(j:Nat) v y,(D.cells c x)[j]?=some v->vs[j]?=some y->Rep D ρ S w v y):
   Rep D ρ S w (.rp c x off) (.pointer (some ⟨b,o+off,none⟩))
 |agg {l:List (AV K)} {vs:List Value} (hl:l.length=vs.length) (hr:∀(i:Nat) v x,l[i]?=some v->vs[i]?=some x->Rep D ρ S w v x):
   Rep D ρ S w (.agg l) (.agg vs.toArray)
 |bk {l:List (AV K)} {vs:List Value} (hl:l.length=vs.length) (hr:∀(i:Nat) v x,l[i]?=some v->vs[i]?=some x->Rep D ρ S w v x):
   Rep D ρ S w (.bk l) (.tuple vs.toArray)
def aW(D:bg K)(ρ:List Value)(S:Nat->Prop)(w:World)(l:List (AV K))(vs:List Value):Prop:=
 l.length=vs.length/\∀(i:Nat) v x,l[i]?=some v->vs[i]?=some x->Rep D ρ S w v x
section
variable {D :bg K}{ρ ρ':List Value}{S S':Nat->Prop}{w w':World}
theorem aW.nil:aW D ρ S w [] []:=⟨rfl,fun i v x h=>by simp at h⟩
theorem aW.cons{v:AV K}{x:Value}{l:List (AV K)}{vs:List Value}(h:Rep D ρ S w v x)(t:aW D ρ S w l vs):aW D ρ S w (v::l) (x::vs):=
 ⟨by simp[t.1],fun i u y hu hy=>by
   cases i with
   |zero=>simp at hu hy;subst hu;subst hy;exact h
   |succ i=>exact t.2 i u y (by simpa using hu) (by simpa using hy)⟩
theorem aW.head{v:AV K}{x:Value}{l:List (AV K)}{vs:List Value}(h:aW D ρ S w (v::l) (x::vs)):Rep D ρ S w v x:=h.2 0 v x rfl rfl
theorem aW.tail{v:AV K}{x:Value}{l:List (AV K)}{vs:List Value}(h:aW D ρ S w (v::l) (x::vs)):aW D ρ S w l vs:=
 ⟨by simpa using h.1,fun i u y hu hy=>h.2 (i+1) u y (by simpa using hu) (by simpa using hy)⟩
theorem aW.hJ{v:AV K}{l:List (AV K)}{vs:List Value}(h:aW D ρ S w (v::l) vs):∃x r,vs=x::r/\Rep D ρ S w v x/\aW D ρ S w l r:=by
 cases vs with
 |nil=>simp[aW]at h
 |cons x r=>exact⟨x,r,rfl,h.head,h.tail⟩
theorem aW.ou{vs:List Value}(h:aW D ρ S w [] vs):vs=[]:=by
 have:=h.1;simp at this;exact kU this.symm
theorem aW.append{l m:List (AV K)}{vs us:List Value}(h:aW D ρ S w l vs)(k:aW D ρ S w m us):aW D ρ S w (l++m) (vs++us):=by
 refine⟨by simp[h.1,k.1],fun i v x hv hx=>?_⟩;by_cases hi:i<l.length
 ·rw[cU hi]at hv;rw[cU (by rw[<-h.1];exact hi)]at hx;exact h.2 i v x hv hx
 ·rw[dA (by omega)]at hv;rw[dA (by rw[<-h.1];omega)]at hx;exact k.2 (i-l.length) v x hv (by rw[h.1];exact hx)
theorem aW.drop{l:List (AV K)}{vs:List Value}(h:aW D ρ S w l vs)(n:Nat):aW D ρ S w (l.drop n) (vs.drop n):=
 ⟨by simp[h.1],fun i v x hv hx=>h.2 (n+i) v x (by simpa using hv) (by simpa using hx)⟩
theorem aW.take{l:List (AV K)}{vs:List Value}(h:aW D ρ S w l vs)(n:Nat):aW D ρ S w (l.take n) (vs.take n):=
 ⟨by simp[h.1],fun i v x hv hx=>by
   simp only[dI]at hv hx;split at hv
   ·rename_i hi;rw[aO hi]at hx;exact h.2 i v x hv hx
   ·simp at hv⟩
theorem aW.get{l:List (AV K)}{vs:List Value}(h:aW D ρ S w l vs){i:Nat}{v:AV K}(hv:l[i]?=some v):∃x,vs[i]?=some x/\Rep D ρ S w v x:=by
 have hi:i<vs.length:=by rw[<-h.1];exact(bM.1 hv).1
 exact⟨vs[i],bY hi,h.2 i v _ hv (bY hi)⟩
theorem aW.set{l:List (AV K)}{vs:List Value}(h:aW D ρ S w l vs){n:Nat}{v:AV K}{x:Value}(hv:Rep D ρ S w v x):aW D ρ S w (l.set n v) (vs.set n x):=by
 refine⟨by simp[h.1],fun i u y hu hy=>?_⟩;rw[fV]at hu hy;by_cases hn:n=i
 ·subst hn;simp only[od]at hu hy;split at hu
  ·rename_i hl;rw[aO (by rw[<-h.1];exact hl)]at hy;simp at hu hy;subst hu;subst hy;exact hv
  ·simp at hu
 ·rw[aX hn]at hu hy;exact h.2 i u y hu hy
theorem cell?_of_heap{a:Addr}(h:w'.heap[a.block]?=w.heap[a.block]?):w'.cell? a=w.cell? a:=by simp[World.cell?,h]
theorem gC.keep{b k:Nat}{vs:List Value}(h:gC w b k vs)(hb:w'.heap[b]?=w.heap[b]?):gC w' b k vs:=fun j v hv=>by
 rw[cell?_of_heap (w:=w) (a:=⟨b,k+j,none⟩) hb];exact h j v hv
theorem Rep.mono(hS:∀b,S b->S' b)(hw:∀b,S b->w'.heap[b]?=w.heap[b]?)(hρ:∀(h:Nat) r,ρ[h]?=some r->ρ'[h]?=some r){v:AV K}{x:Value}
 (h:Rep D ρ S w v x):Rep D ρ' S' w' v x:=by
 induction h with
 |any v=>exact .any v
 |int k n=>exact .int k n
 |bool b=>exact .bool b
 |str s=>exact .str s
 |da=>exact .da
 |cP=>exact .cP
 |mp r=>exact .mp r
 |fn hl _ ih=>exact .fn hl ih
 |kB=>exact .kB
 |np hp=>exact .np (hρ _ _ hp)
 |ptr hp=>exact .ptr (hρ _ _ hp)
 |sl hp=>exact .sl (hρ _ _ hp)
 |ep hp hi=>exact .ep (hρ _ _ hp) hi
 |vw hp h1 h2 ha=>exact .vw (hρ _ _ hp) h1 h2 ha
 |eP a cap=>exact .eP a cap
 |ax val h1 h2 h3 h4 _ ih=>exact .ax val (hS _ h1) h2 h3 (fun i hi=>(h4 i hi).keep (hw _ h1)) ih
 |rp vs h1 h2 h3 _ ih=>exact .rp vs (hS _ h1) h2 (h3.keep (hw _ h1)) ih
 |agg hl _ ih=>exact .agg hl ih
 |bk hl _ ih=>exact .bk hl ih
theorem aW.mono(hS:∀b,S b->S' b)(hw:∀b,S b->w'.heap[b]?=w.heap[b]?)(hρ:∀(h:Nat) r,ρ[h]?=some r->ρ'[h]?=some r){l:List (AV K)}{vs:List Value}
 (h:aW D ρ S w l vs):aW D ρ' S' w' l vs:=⟨h.1,fun i v x hv hx=>(h.2 i v x hv hx).mono hS hw hρ⟩
def AV.lh:AV K->Bool
 |.ax ..=>true
 |_=>false
structure bu (D:bg K):Prop where
 len:∀c x,(D.cells c x).length=K.sz c
 closed:∀c x,fY (D.cells c x)=true
 one:∀c x,(D.cells c x).all AV.one=true
 dec:∀c l x,D.dec c l=some (x,true)->∀ρ S w vs,aW D ρ S w l vs->aW D ρ S w (D.cells c x) vs
 byte:∀c f g,D.byte c=some (f,g)->(∀x,D.cells c x=[.int .u8 ((f x).toNat:Int)])/\∀b,f (g b)=b
 flat:∀c x,db (D.cells c x)=db (D.cells c (K.zero c))
 kinds:∀c x (j:Nat) v,(D.cells c x)[j]?=some v->v≠.cP/\(v.lh=false->gX v=false)
 uT:∀c l x,D.dec c l=some (x,true)->l.length=K.sz c/\∀(j:Nat) v v',l[j]?=some v->(D.cells c x)[j]?=some v'->v'=v\/(v=.cP/\∃c',v'=.ax c' [])
theorem rS{l:List (AV K)}(h:fY l=true){i:Nat}{v:AV K}(hv:l[i]?=some v):v.closed=true:=by
 induction l generalizing i with
 |nil=>simp at hv
 |cons u r ih=>
  simp only[fY,bz]at h;cases i with
  |zero=>simp at hv;subst hv;exact h.1
  |succ i=>exact ih h.2 (by simpa using hv)
theorem Rep.closed(hD:bu D){v:AV K}{x:Value}(h:Rep D ρ S w v x)(hv:v.closed=true):Rep D ρ' S w v x:=by
 induction h with
 |any v=>exact .any v
 |int k n=>exact .int k n
 |bool b=>exact .bool b
 |str s=>exact .str s
 |da=>exact .da
 |cP=>exact .cP
 |mp r=>exact .mp r
 |fn hl _ ih=>exact .fn hl fun i u y hu hy=>ih i u y hu hy (rS (by simpa [AV.closed]using hv) hu)
 |kB=>simp[AV.closed]at hv
 |np hp=>simp[AV.closed]at hv
 |ptr hp=>simp[AV.closed]at hv
 |sl hp=>simp[AV.closed]at hv
 |ep hp hi=>simp[AV.closed]at hv
 |vw hp h1 h2 ha=>simp[AV.closed]at hv
 |eP a cap=>exact .eP a cap
 |ax val h1 h2 h3 h4 _ ih=>exact .ax val h1 h2 h3 h4 fun i x hx j v y hv hy=>ih i x hx j v y hv hy (rS (hD.closed _ _) hv)
 |rp vs h1 h2 h3 _ ih=>exact .rp vs h1 h2 h3 fun j v y hv hy=>ih j v y hv hy (rS (hD.closed _ _) hv)
 |agg hl _ ih=>exact .agg hl fun i u y hu hy=>ih i u y hu hy (rS (by simpa [AV.closed]using hv) hu)
 |bk hl _ ih=>exact .bk hl fun i u y hu hy=>ih i u y hu hy (rS (by simpa [AV.closed]using hv) hu)
theorem aW.closed(hD:bu D){l:List (AV K)}{vs:List Value}(h:aW D ρ S w l vs)(hv:fY l=true):aW D ρ' S w l vs:=
 ⟨h.1,fun i v x hi hx=>(h.2 i v x hi hx).closed hD (rS hv hi)⟩
end
def im:Value->Option Nat
 |.pointer (some a)=>some a.block
 |.slice (some a) _ _=>some a.block
 |_=>none
def bW(vs:Array Value)(k n:Nat):List Value:=(vs.toList.drop k).take n
def DX(D:bg K)(cs:List (AV K))(T:TypeId):Prop:=jR cs=true->D.oe=some T
def jW(D:bg K)(c:K.U)(T:TypeId)(o:Nat):Prop:=∀t,D.kn c=some t->T=t/\o=0
abbrev qe(D:bg K)(c:K.U)(T:TypeId)(o:Nat)(fr:Nat×Nat):Prop:=jW D c T o/\fr.1<=fr.2
inductive cX (D:bg K) (w:World):(c:K.U)->List (K.El c)->Value->Nat->Prop
 |here {c:K.U} {l:List (K.El c)} {b o n cap:Nat}:cX D w c l (.slice (some ⟨b,o,none⟩) n cap) b
 |kid {c:K.U} {l:List (K.El c)} {b o n cap i j k:Nat} {x:K.El c} {c':K.U} {l':List (K.El c')} {y:Value} (hx:l[i]?=some x) (hj:(D.cells c x)[j]?=some (.ax c' l'))
   (hy:w.cell? ⟨b,o+i*K.sz c+j,none⟩=some y) (hk:cX D w c' l' y k):cX D w c l (.slice (some ⟨b,o,none⟩) n cap) k
inductive Tree (D:bg K) (w:World):(c:K.U)->List (K.El c)->Value->Prop
 |nil {c:K.U}:Tree D w c [] (.slice none 0 0)
 |mk {c:K.U} {l:List (K.El c)} {b o cap:Nat} {vs:Array Value} {T:TypeId} {fr:Nat×Nat} (hb:w.heap[b]?=some (.cells vs T fr)) (hcap:l.length<=cap/\qe D c T o fr) (hsz:o+cap*K.sz c<=vs.size)
   (hfr:∀k,o<=k->k<o+cap*K.sz c->¬(fr.1<=k/\k<fr.2))
   (hlen:∀i x,l[i]?=some x->(D.cells c x).length=(bW vs (o+i*K.sz c) (K.sz c)).length)
   (hZ:∀i x,l[i]?=some x->∀(j:Nat) v y,(D.cells c x)[j]?=some v->(bW vs (o+i*K.sz c) (K.sz c))[j]?=some y->v.lh=false->gX v=false/\Rep D [] (fun _=>False) w v y)
   (bL:∀i x,l[i]?=some x->∀(j:Nat) c' l' y,(D.cells c x)[j]?=some (.ax c' l')->(bW vs (o+i*K.sz c) (K.sz c))[j]?=some y->Tree D w c' l' y)
   (hself:∀i x,l[i]?=some x->∀(j:Nat) c' l' y,(D.cells c x)[j]?=some (.ax c' l')->(bW vs (o+i*K.sz c) (K.sz c))[j]?=some y->¬cX D w c' l' y b)
   (hdis:∀i x,l[i]?=some x->∀(j:Nat) c' l' y,(D.cells c x)[j]?=some (.ax c' l')->(bW vs (o+i*K.sz c) (K.sz c))[j]?=some y->
     ∀i2 x2,l[i2]?=some x2->∀(j2:Nat) c2 l2 y2,(D.cells c x2)[j2]?=some (.ax c2 l2)->(bW vs (o+i2*K.sz c) (K.sz c))[j2]?=some y2->∀k,cX D w c' l' y k->cX D w c2 l2 y2 k->i=i2/\j=j2):
   Tree D w c l (.slice (some ⟨b,o,none⟩) l.length cap)
def mj(i off n i' j':Nat):Prop:=i'=i/\off<=j'/\j'<off+n
def jw(D:bg K)(w:World)(c:K.U)(l:List (K.El c))(i off n:Nat)(r:Value)(k:Nat):Prop:=
 ∃b o m cap,r=.slice (some ⟨b,o,none⟩) m cap/\(k=b\/∃(i' j':Nat)(x:K.El c)(c':K.U)(l':List (K.El c'))(y:Value),¬mj i off n i' j'/\l[i']?=some x/\(D.cells c x)[j']?=some (.ax c' l')/\w.cell? ⟨b,o+i'*K.sz c+j',none⟩=some y/\cX D w c' l' y k)
def lj(D:bg K)(ρ:List Value)(S:Nat->Prop)(w:World)(c:K.U)(l:List (K.El c))(i off:Nat)(cs:List (AV K))(r:Value):Prop:=
 ∃(b o cap:Nat)(vs:Array Value)(T:TypeId)(fr:Nat×Nat),r=.slice (some ⟨b,o,none⟩) l.length cap/\w.heap[b]?=some (.cells vs T fr)/\(l.length<=cap/\qe D c T o fr)/\o+cap*K.sz c<=vs.size/\
  (∀k,o<=k->k<o+cap*K.sz c->¬(fr.1<=k/\k<fr.2))/\i<l.length/\off+cs.length<=K.sz c/\
  (∀(i':Nat) x,l[i']?=some x->∀(j':Nat) v u,¬mj i off cs.length i' j'->(D.cells c x)[j']?=some v->w.cell? ⟨b,o+i'*K.sz c+j',none⟩=some u->
    (v.lh=false->gX v=false/\Rep D [] (fun _=>False) w v u)/\∀(c':K.U)(l':List (K.El c')),v=.ax c' l'->Tree D w c' l' u/\¬cX D w c' l' u b)/\
  (∀(i1 j1 i2 j2:Nat) x1 x2 (c1:K.U) (l1:List (K.El c1)) (c2:K.U) (l2:List (K.El c2)) u1 u2 k,¬mj i off cs.length i1 j1->¬mj i off cs.length i2 j2->l[i1]?=some x1->l[i2]?=some x2->(D.cells c x1)[j1]?=some (.ax c1 l1)->(D.cells c x2)[j2]?=some (.ax c2 l2)->
    w.cell? ⟨b,o+i1*K.sz c+j1,none⟩=some u1->w.cell? ⟨b,o+i2*K.sz c+j2,none⟩=some u2->cX D w c1 l1 u1 k->cX D w c2 l2 u2 k->i1=i2/\j1=j2)/\
  ∀(j:Nat) v,cs[j]?=some v->∃u,w.cell? ⟨b,o+i*K.sz c+off+j,none⟩=some u/\Rep D ρ S w v u
def bU(D:bg K)(w:World):Ob K->Value->Nat->Prop
 |.tree c l,r,b=>cX D w c l r b
 |.opn c l i off cs,r,b=>jw D w c l i off cs.length r b
 |_,r,b=>im r=some b
def Ob.live:Ob K->Bool
 |.dead|.fR ..=>false
 |_=>true
def fx(D:bg K)(ρ:List Value)(S:Nat->Prop)(w:World):Ob K->Value->Prop
 |.dead,_=>True
 |.fR c l,r=>Rep D ρ S w (.ax c l) r
 |.box cs,r=>∃b vs T,r=.pointer (some ⟨b,0,none⟩)/\w.heap[b]?=some (.cells vs T (0,0))/\aW D ρ S w cs vs.toList/\DX D cs T
 |.arr c l,r=>(r=.slice none 0 0/\l=[])\/∃b o cap vs T fr,r=.slice (some ⟨b,o,none⟩) l.length cap/\w.heap[b]?=some (.cells vs T fr)/\(l.length<=cap/\qe D c T o fr)/\o+cap*K.sz c<=vs.size/\
     (∀k,o<=k->k<o+cap*K.sz c->¬(fr.1<=k/\k<fr.2))/\∀i x,l[i]?=some x->aW D ρ S w (D.cells c x) (bW vs (o+i*K.sz c) (K.sz c))
 |.tree c l,r=>Tree D w c l r
 |.opn c l i off cs,r=>lj D ρ S w c l i off cs r
def Own(D:bg K)(w:World)(ρ:List Value)(H:List (Ob K))(b:Nat):Prop:=∃(h:Nat)(o:Ob K)(r:Value),H[h]?=some o/\o.live=true/\ρ[h]?=some r/\bU D w o r b
structure aK (D:bg K) (ρ:List Value) (S:Nat->Prop) (w:World) (H:List (Ob K)):Prop where
 len:ρ.length=H.length
 ob:∀(h:Nat) o r,H[h]?=some o->ρ[h]?=some r->fx D ρ S w o r
 ed:∀(h h':Nat) o o' r r' b,H[h]?=some o->o.live=true->ρ[h]?=some r->bU D w o r b->H[h']?=some o'->o'.live=true->ρ[h']?=some r'->bU D w o' r' b->h=h'
 lt:∀b,Own D w ρ H b->b<w.heap.size/\¬S b
 slt:∀b,S b->b<w.heap.size
 base:D.base.inv S w
structure Step (D:bg K) (n0:Nat) (ρ:List Value) (S:Nat->Prop) (H:List (Ob K)) (w:World) (ρ':List Value) (S':Nat->Prop) (H':List (Ob K)) (w':World):Prop where
 os:w'.os=w.os
 tape:w'.tape=w.tape
 output:w'.output=w.output
 size:w.heap.size<=w'.heap.size
 old:∀b,b<w.heap.size->¬Own D w ρ H b->w'.heap[b]?=w.heap[b]?
 own:∀b,Own D w' ρ' H' b->Own D w ρ H b\/w.heap.size<=b
 s1:∀b,S b->S' b
 s2:∀b,S' b->S b\/Own D w ρ H b\/w.heap.size<=b
 pre:∀h,h<n0->ρ'[h]?=ρ[h]?
section
variable {D :bg K}{n0:Nat}{ρ ρ' IY:List Value}{S S' IZ:Nat->Prop}{w w' w'':World}{H H' ni:List (Ob K)}
theorem Step.refl:Step D n0 ρ S H w ρ S H w:=⟨rfl,rfl,rfl,bH _,fun _ _ _=>rfl,fun _ h=>.inl h,fun _ h=>h,fun _ h=>.inl h,fun _ _=>rfl⟩
theorem Step.trans(a:Step D n0 ρ S H w ρ' S' H' w')(b:Step D n0 ρ' S' H' w' IY IZ ni w''):Step D n0 ρ S H w IY IZ ni w'':={
 os:=b.os.trans a.os
 tape:=b.tape.trans a.tape
 output:=b.output.trans a.output
 size:=kX a.size b.size
 old:=fun k hk ho=>by
  rw[b.old k (kj hk a.size) (fun h=>by rcases a.own k h with h|h;exact ho h;omega),a.old k hk ho]
 own:=fun k h=>by
  rcases b.own k h with h|h
  ·exact a.own k h
  ·exact .inr (kX a.size h)
 s1:=fun k h=>b.s1 k (a.s1 k h)
 s2:=fun k h=>by
  rcases b.s2 k h with h|h|h
  ·exact a.s2 k h
  ·rcases a.own k h with h|h
   ·exact .inr (.inl h)
   ·exact .inr (.inr h)
  ·exact .inr (.inr (kX a.size h))
 pre:=fun h hh=>(b.pre h hh).trans (a.pre h hh)}
theorem Step.weaken{m:Nat}(a:Step D n0 ρ S H w ρ' S' H' w')(h:m<=n0):Step D m ρ S H w ρ' S' H' w':=
 ⟨a.os,a.tape,a.output,a.size,a.old,a.own,a.s1,a.s2,fun k hk=>a.pre k (kj hk h)⟩
theorem Step.w9(hs:aK D ρ S w H)(a:Step D n0 ρ S H w ρ' S' H' w'):∀b,S b->w'.heap[b]?=w.heap[b]?:=
 fun b hb=>a.old b (hs.slt b hb) fun h=>(hs.lt b h).2 hb
theorem Step.rep(hs:aK D ρ S w H)(a:Step D n0 ρ S H w ρ' S' H' w')(hρ:∀(h:Nat) r,ρ[h]?=some r->ρ'[h]?=some r){v:AV K}{x:Value}(h:Rep D ρ S w v x):Rep D ρ' S' w' v x:=
 h.mono a.s1 (a.w9 hs) hρ
end
end Go.V
set_option linter.unusedVariables false
namespace Go.V
open Go
variable {K :cK}{D:bg K}{ρ ρ':List Value}{S S':Nat->Prop}{w w':World}{H H':List (Ob K)}
theorem seg_cell{b p n j:Nat}{vs:Array Value}{T:TypeId}{fr:Nat×Nat}{y:Value}(hb:w.heap[b]?=some (.cells vs T fr))(hy:(bW vs p n)[j]?=some y):w.cell? ⟨b,p+j,none⟩=some y:=by
 simp only[bW,dI,fe]at hy;split at hy
 ·simp[World.cell?,hb];simpa using hy
 ·cases hy
theorem I0{b p n:Nat}{vs:Array Value}{T:TypeId}{fr:Nat×Nat}(hb:w.heap[b]?=some (.cells vs T fr)):gC w b p (bW vs p n):=fun j y hy=>seg_cell hb hy
theorem cX.old{c:K.U}{l:List (K.El c)}{r:Value}{k:Nat}(h:cX D w' c l r k):(∀k,cX D w c l r k->w'.heap[k]?=w.heap[k]?)->cX D w c l r k:=by
 induction h with
 |here=>exact fun _=>.here
 |kid hx hj hy hk ih=>
  intro hw;have hy':=hy;rw[cell?_of_heap (w:=w) (hw _ .here)]at hy';exact .kid hx hj hy' (ih fun k hk=>hw k (.kid hx hj hy' hk))
theorem cX.new{c:K.U}{l:List (K.El c)}{r:Value}{k:Nat}(h:cX D w c l r k):(∀k,cX D w c l r k->w'.heap[k]?=w.heap[k]?)->cX D w' c l r k:=by
 induction h with
 |here=>exact fun _=>.here
 |kid hx hj hy hk ih=>
  intro hw;exact .kid hx hj (by rw[cell?_of_heap (w:=w) (hw _ .here)];exact hy) (ih fun k hk=>hw k (.kid hx hj hy hk))
theorem zW{v:AV K}(h:v.lh=true):∃c l,v=.ax c l:=by
 cases v<;>first|exact⟨_,_,rfl⟩|cases h
theorem Tree.mono{c:K.U}{l:List (K.El c)}{r:Value}(h:Tree D w c l r):(∀k,cX D w c l r k->w'.heap[k]?=w.heap[k]?)->Tree D w' c l r:=by
 induction h with
 |nil=>exact fun _=>.nil
 | @mk c l b o cap vs T fr hb hcap hsz hfr hlen hZ bL hself hdis ih=>
   intro hw;have hk:∀(i:Nat)(x:K.El c),l[i]?=some x->∀(j:Nat)(c':K.U)(l':List (K.El c'))(y:Value),(D.cells c x)[j]?=some (.ax c' l')->(bW vs (o+i*K.sz c) (K.sz c))[j]?=some y->∀k,cX D w c' l' y k->w'.heap[k]?=w.heap[k]?:=fun i x hx j c' l' y hj hy k hk=>hw k (.kid hx hj (seg_cell hb hy) hk)
   refine .mk (by rw[hw _ .here];exact hb) hcap hsz hfr hlen (fun i x hx j v y hv hy hd=>⟨(hZ i x hx j v y hv hy hd).1,(hZ i x hx j v y hv hy hd).2.mono (fun _ h=>h) (fun _ h=>h.elim) (fun _ _ h=>h)⟩)
    (fun i x hx j c' l' y hj hy=>ih i x hx j c' l' y hj hy (hk i x hx j c' l' y hj hy)) (fun i x hx j c' l' y hj hy hf=>hself i x hx j c' l' y hj hy (hf.old (hk i x hx j c' l' y hj hy)))
    (fun i x hx j c' l' y hj hy i2 x2 hx2 j2 c2 l2 y2 hj2 hy2 k h1 h2=>hdis i x hx j c' l' y hj hy i2 x2 hx2 j2 c2 l2 y2 hj2 hy2 k (h1.old (hk i x hx j c' l' y hj hy)) (h2.old (hk i2 x2 hx2 j2 c2 l2 y2 hj2 hy2)))
theorem Tree.lt{c:K.U}{l:List (K.El c)}{r:Value}{k:Nat}(h:Tree D w c l r):cX D w c l r k->k<w.heap.size:=by
 induction h with
 |nil=>intro hf;cases hf
 |mk hb hcap hsz hfr hlen hZ bL hself hdis ih=>
  intro hf;cases hf with
  |here=>exact(js.1 hb).1
  |kid hx hj hy hk=>
   have hj':=(bM.1 hj).1;rw[hlen _ _ hx]at hj';have hs:=bY hj';have hc:=seg_cell hb hs;rw[hc]at hy;cases hy;exact ih _ _ hx _ _ _ _ hj hs hk
theorem Tree.rep{c:K.U}{l:List (K.El c)}{r:Value}(h:Tree D w c l r):(∀k,cX D w c l r k->S k)->Rep D ρ S w (.ax c l) r:=by
 induction h with
 |nil=>exact fun _=>.eP _ _
 |mk hb hcap hsz hfr hlen hZ bL hself hdis ih=>
  intro hS;refine .ax (fun i=>bW _ (_+i*K.sz _) (K.sz _)) (hS _ .here) hcap.1 (fun i x hx=>(hlen i x hx).symm) (fun i _=>I0 hb) (fun i x hx j v y hv hy=>?_);cases hd:v.lh
  ·exact(hZ i x hx j v y hv hy hd).2.mono (fun _ h=>h.elim) (fun _ h=>h.elim) (fun _ _ h=>by simp at h)
  ·obtain⟨c',l',rfl⟩:=zW hd;exact ih i x hx j c' l' y hv hy fun k hk=>hS k (.kid hx hv (seg_cell hb hy) hk)
theorem zX{c:K.U}{l:List (K.El c)}{r:Value}(h:Tree D w c l r):∃a cp,r=.slice a l.length cp:=by
 cases h with
 |nil=>exact⟨_,_,rfl⟩
 |mk=>exact⟨_,_,rfl⟩
theorem jw.old{c:K.U}{l:List (K.El c)}{i off n:Nat}{r:Value}{k:Nat}(h:jw D w' c l i off n r k)(hw:∀k,jw D w c l i off n r k->w'.heap[k]?=w.heap[k]?):jw D w c l i off n r k:=by
 obtain⟨b,o,m,cap,rfl,h|⟨i',j',x,c',l',y,h1,h2,h3,h4,h5⟩⟩:=h
 ·exact⟨b,o,m,cap,rfl,.inl h⟩
 ·rw[cell?_of_heap (w:=w) (hw b ⟨b,o,m,cap,rfl,.inl rfl⟩)]at h4;exact⟨b,o,m,cap,rfl,.inr ⟨i',j',x,c',l',y,h1,h2,h3,h4,h5.old fun k hk=>hw k ⟨b,o,m,cap,rfl,.inr ⟨i',j',x,c',l',y,h1,h2,h3,h4,hk⟩⟩⟩⟩
theorem jw.new{c:K.U}{l:List (K.El c)}{i off n:Nat}{r:Value}{k:Nat}(h:jw D w c l i off n r k)(hw:∀k,jw D w c l i off n r k->w'.heap[k]?=w.heap[k]?):jw D w' c l i off n r k:=by
 obtain⟨b,o,m,cap,rfl,h|⟨i',j',x,c',l',y,h1,h2,h3,h4,h5⟩⟩:=h
 ·exact⟨b,o,m,cap,rfl,.inl h⟩
 ·exact⟨b,o,m,cap,rfl,.inr ⟨i',j',x,c',l',y,h1,h2,h3,by rw[cell?_of_heap (w:=w) (hw b ⟨b,o,m,cap,rfl,.inl rfl⟩)];exact h4,h5.new fun k hk=>hw k ⟨b,o,m,cap,rfl,.inr ⟨i',j',x,c',l',y,h1,h2,h3,h4,hk⟩⟩⟩⟩
theorem lj.keep{c:K.U}{l:List (K.El c)}{i off:Nat}{cs:List (AV K)}{r:Value}(hR:∀(j:Nat) v u,cs[j]?=some v->Rep D ρ S w v u->Rep D ρ' S' w' v u)
 (hb:∀k,jw D w c l i off cs.length r k->w'.heap[k]?=w.heap[k]?) (h:lj D ρ S w c l i off cs r):lj D ρ' S' w' c l i off cs r:=by
 obtain⟨b,o,cap,vs,T,fr,rfl,h1,h2,h3,h4,h5,h6,h7,h8,h9⟩:=h;have hbb:w'.heap[b]?=w.heap[b]?:=hb b ⟨b,o,_,cap,rfl,.inl rfl⟩;have hcell:∀k,w'.cell? ⟨b,k,none⟩=w.cell? ⟨b,k,none⟩:=fun k=>cell?_of_heap hbb
 have hk:∀(i' j':Nat)(x:K.El c)(c':K.U)(l':List (K.El c'))(y:Value),¬mj i off cs.length i' j'->l[i']?=some x->(D.cells c x)[j']?=some (.ax c' l')->w.cell? ⟨b,o+i'*K.sz c+j',none⟩=some y->∀k,cX D w c' l' y k->w'.heap[k]?=w.heap[k]?:=
  fun i' j' x c' l' y g1 g2 g3 g4 k hk=>hb k ⟨b,o,_,cap,rfl,.inr ⟨i',j',x,c',l',y,g1,g2,g3,g4,hk⟩⟩
 refine⟨b,o,cap,vs,T,fr,rfl,by rw[hbb];exact h1,h2,h3,h4,h5,h6,fun i' x hx j' v u hh hv hu=>?_,fun i1 j1 i2 j2 x1 x2 c1 l1 c2 l2 u1 u2 k a1 a2 a3 a4 a5 a6 a7 a8 a9 a10=>?_,fun j v hv=>?_⟩
 ·rw[hcell]at hu;obtain⟨g1,g2⟩:=h7 i' x hx j' v u hh hv hu;refine⟨fun e=>⟨(g1 e).1,(g1 e).2.mono (fun _ h=>h) (fun _ h=>h.elim) (fun _ _ h=>h)⟩,fun c' l' e=>?_⟩;obtain⟨k1,k2⟩:=g2 c' l' e;subst e;have hk':=hk i' j' x c' l' u hh hx hv hu;exact⟨k1.mono hk',fun hf=>k2 (hf.old hk')⟩
 ·rw[hcell]at a7 a8;exact h8 i1 j1 i2 j2 x1 x2 c1 l1 c2 l2 u1 u2 k a1 a2 a3 a4 a5 a6 a7 a8 (a9.old (hk _ _ _ _ _ _ a1 a3 a5 a7)) (a10.old (hk _ _ _ _ _ _ a2 a4 a6 a8))
 ·obtain⟨u,g1,g2⟩:=h9 j v hv;exact⟨u,by rw[hcell];exact g1,hR j v u hv g2⟩
theorem lj.mono{c:K.U}{l:List (K.El c)}{i off:Nat}{cs:List (AV K)}{r:Value}(hS:∀b,S b->S' b)(hw:∀b,S b->w'.heap[b]?=w.heap[b]?)(hρ:∀(h:Nat) r,ρ[h]?=some r->ρ'[h]?=some r)
 (hb:∀k,jw D w c l i off cs.length r k->w'.heap[k]?=w.heap[k]?) (h:lj D ρ S w c l i off cs r):lj D ρ' S' w' c l i off cs r:=
 h.keep (fun _ _ _ _ hr=>hr.mono hS hw hρ) hb
theorem bU.old{o:Ob K}{r:Value}{k:Nat}(h:bU D w' o r k)(hw:∀k,bU D w o r k->w'.heap[k]?=w.heap[k]?):bU D w o r k:=by
 cases o<;>first|exact h|exact cX.old h hw|exact jw.old h hw
theorem bU.new{o:Ob K}{r:Value}{k:Nat}(h:bU D w o r k)(hw:∀k,bU D w o r k->w'.heap[k]?=w.heap[k]?):bU D w' o r k:=by
 cases o<;>first|exact h|exact cX.new h hw|exact jw.new h hw
end Go.V
namespace Go.V
open Go
variable {K :cK}{D:bg K}{n0:Nat}{ρ ρ':List Value}{S S':Nat->Prop}{w w':World}{H H':List (Ob K)}
theorem fx.mono(hS:∀b,S b->S' b)(hw:∀b,S b->w'.heap[b]?=w.heap[b]?)(hρ:∀(h:Nat) r,ρ[h]?=some r->ρ'[h]?=some r){o:Ob K}{r:Value}
 (hb:∀b,o.live=true->bU D w o r b->w'.heap[b]?=w.heap[b]?) (h:fx D ρ S w o r):fx D ρ' S' w' o r:=by
 cases o with
 |dead=>trivial
 |fR c l=>exact Rep.mono hS hw hρ h
 |box cs=>
  obtain⟨b,vs,T,rfl,h1,h2,h3⟩:=h;exact⟨b,vs,T,rfl,by rw[hb b rfl rfl];exact h1,h2.mono hS hw hρ,h3⟩
 |arr c l=>
  rcases h with h|⟨b,o,cap,vs,T,fr,rfl,h1,h2,h3,h4,h5⟩
  ·exact .inl h
  ·exact .inr ⟨b,o,cap,vs,T,fr,rfl,by rw[hb b rfl rfl];exact h1,h2,h3,h4,fun i x hx=>(h5 i x hx).mono hS hw hρ⟩
 |tree c l=>exact Tree.mono h fun k hk=>hb k rfl hk
 |opn c l i off cs=>exact lj.mono hS hw hρ (fun k hk=>hb k rfl hk) h
theorem Own.VR{h:Nat}{o:Ob K}{r:Value}{b:Nat}(h1:H[h]?=some o)(h2:o.live=true)(h3:ρ[h]?=some r)(h4:bU D w o r b):Own D w ρ H b:=⟨h,o,r,h1,h2,h3,h4⟩
theorem Own.old{b:Nat}(h:Own D w' ρ H b)(ho:∀b,Own D w ρ H b->w'.heap[b]?=w.heap[b]?):Own D w ρ H b:=by
 obtain⟨k,o,r,h1,h2,h3,h4⟩:=h;exact⟨k,o,r,h1,h2,h3,h4.old fun q hq=>ho q ⟨k,o,r,h1,h2,h3,hq⟩⟩
theorem Own.new{b:Nat}(h:Own D w ρ H b)(ho:∀b,Own D w ρ H b->w'.heap[b]?=w.heap[b]?):Own D w' ρ H b:=by
 obtain⟨k,o,r,h1,h2,h3,h4⟩:=h;exact⟨k,o,r,h1,h2,h3,h4.new fun q hq=>ho q ⟨k,o,r,h1,h2,h3,hq⟩⟩
theorem eB{α:Type}{l:List α}{h k:Nat}{o x:α}(hx:(l.set h o)[k]?=some x):(k=h/\x=o/\h<l.length)\/(k≠h/\l[k]?=some x):=by
 rw[fV]at hx;by_cases hk:h=k
 ·subst hk;simp only[od]at hx;split at hx
  ·rename_i hl;simp at hx;exact .inl ⟨rfl,hx.symm,hl⟩
  ·simp at hx
 ·rw[aX hk]at hx;exact .inr ⟨m8 hk,hx⟩
theorem qf{h b:Nat}(hb:Own D w ρ (H.set h .dead) b):Own D w ρ H b:=by
 obtain⟨k,o,r,h1,h2,h3,h4⟩:=hb;rcases eB h1 with⟨-,rfl,-⟩|⟨-,h1⟩
 ·cases h2
 ·exact⟨k,o,r,h1,h2,h3,h4⟩
theorem aK.kill(hs:aK D ρ S w H)(h:Nat):aK D ρ S w (H.set h .dead):={
 len:=by simp[hs.len]
 ob:=fun k o r h1 h2=>by
  rcases eB h1 with⟨-,rfl,-⟩|⟨-,h1⟩
  ·trivial
  ·exact hs.ob k o r h1 h2
 ed:=fun k k' o o' r r' b h1 h2 h3 h4 g1 g2 g3 g4=>by
  rcases eB h1 with⟨-,rfl,-⟩|⟨-,h1⟩
  ·cases h2
  ·rcases eB g1 with⟨-,rfl,-⟩|⟨-,g1⟩
   ·cases g2
   ·exact hs.ed k k' o o' r r' b h1 h2 h3 h4 g1 g2 g3 g4
 lt:=fun b hb=>hs.lt b (qf hb)
 slt:=hs.slt
 base:=hs.base}
theorem xa(hs:aK D ρ S w H){h:Nat}{o:Ob K}{r:Value}{b:Nat}(h1:H[h]?=some o)(h2:o.live=true)(h3:ρ[h]?=some r)(h4:bU D w o r b):¬Own D w ρ (H.set h .dead) b:=by
 rintro ⟨k,o',r',g1,g2,g3,g4⟩
 rcases eB g1 with⟨-,rfl,-⟩|⟨hk,g1⟩
 ·cases g2
 ·exact hk (hs.ed k h o' o r' r b g1 g2 g3 g4 h1 h2 h3 h4)
theorem aK.world(hs:aK D ρ S w H)(hsz:w.heap.size<=w'.heap.size)(ho:∀b,Own D w ρ H b->w'.heap[b]?=w.heap[b]?)(hS:∀b,S b->w'.heap[b]?=w.heap[b]?):aK D ρ S w' H:={
 len:=hs.len
 ob:=fun k o r h1 h2=>(hs.ob k o r h1 h2).mono (fun _ h=>h) hS (fun _ _ h=>h) (fun b hl hb=>ho b ⟨k,o,r,h1,hl,h2,hb⟩)
 ed:=fun k k' o o' r r' b h1 h2 h3 h4 g1 g2 g3 g4=>hs.ed k k' o o' r r' b h1 h2 h3 (h4.old fun q hq=>ho q ⟨k,o,r,h1,h2,h3,hq⟩) g1 g2 g3 (g4.old fun q hq=>ho q ⟨k',o',r',g1,g2,g3,hq⟩)
 lt:=fun b hb=>⟨kj (hs.lt b (hb.old ho)).1 hsz,(hs.lt b (hb.old ho)).2⟩
 slt:=fun b hb=>kj (hs.slt b hb) hsz
 base:=D.base.mono (fun _ h=>h) hS hs.base}
theorem ov{α:Type}{l:List α}{x y:α}{k:Nat}(h:(l++[x])[k]?=some y):l[k]?=some y\/(k=l.length/\y=x):=by
 by_cases hk:k<l.length
 ·rw[cU hk]at h;exact .inl h
 ·rw[dA (by omega)]at h;have:k-l.length=0:=by
   rcases jP (k-l.length)with h0|h0
   ·exact h0
   ·rw[ki (by simp;omega)]at h;cases h
  rw[this]at h;simp at h;exact .inr ⟨by omega,h.symm⟩
theorem nj{l m:List Value}{k:Nat}{y:Value}(h:l[k]?=some y):(l++m)[k]?=some y:=by
 rw[cU (bM.1 h).1];exact h
theorem uU{r:Value}{o:Ob K}{b:Nat}(hl:ρ.length=H.length)(h:Own D w (ρ++[r]) (H++[o]) b):Own D w ρ H b\/(o.live=true/\bU D w o r b):=by
 obtain⟨k,o',r',h1,h2,h3,h4⟩:=h;rcases ov h1 with h1|⟨rfl,rfl⟩
 ·rcases ov h3 with h3|⟨rfl,rfl⟩
  ·exact .inl ⟨k,o',r',h1,h2,h3,h4⟩
  ·have:=(bM.1 h1).1;omega
 ·rcases ov h3 with h3|⟨_,rfl⟩
  ·have:=(bM.1 h3).1;omega
  ·exact .inr ⟨h2,h4⟩
theorem aK.push(hs:aK D ρ S w H){o:Ob K}{r:Value}(ho:fx D (ρ++[r]) S w o r)(hb:∀b,o.live=true->bU D w o r b->b<w.heap.size/\¬S b/\¬Own D w ρ H b):
 aK D (ρ++[r]) S w (H++[o]):={
 len:=by simp[hs.len]
 ob:=fun k o' r' h1 h2=>by
  rcases ov h1 with h1|⟨rfl,rfl⟩
  ·rcases ov h2 with h2|⟨rfl,rfl⟩
   ·exact(hs.ob k o' r' h1 h2).mono (fun _ h=>h) (fun _ _=>rfl) (fun _ _ h=>nj h) (fun _ _ _=>rfl)
   ·have:=(bM.1 h1).1;have:=hs.len;omega
  ·rcases ov h2 with h2|⟨_,rfl⟩
   ·have:=(bM.1 h2).1;have:=hs.len;omega
   ·exact ho
 ed:=fun k k' o1 o2 r1 r2 b h1 h2 h3 h4 g1 g2 g3 g4=>by
  have hl:=hs.len;have key:∀{k:Nat}{o1:Ob K}{r1:Value},(H++[o])[k]?=some o1->(ρ++[r])[k]?=some r1->(H[k]?=some o1/\ρ[k]?=some r1)\/(k=H.length/\o1=o/\r1=r):=fun{k o1 r1} a b=>by
   rcases ov a with a|⟨rfl,rfl⟩
   ·rcases ov b with b|⟨hk,_⟩
    ·exact .inl ⟨a,b⟩
    ·have:=(bM.1 a).1;omega
   ·rcases ov b with b|⟨_,rfl⟩
    ·have:=(bM.1 b).1;omega
    ·exact .inr ⟨rfl,rfl,rfl⟩
  rcases key h1 h3 with⟨a1,a3⟩|⟨a0,a1,a2⟩
  ·rcases key g1 g3 with⟨c1,c3⟩|⟨c0,c1,c2⟩
   ·exact hs.ed k k' o1 o2 r1 r2 b a1 h2 a3 h4 c1 g2 c3 g4
   ·subst c1;subst c2;exact absurd ⟨k,o1,r1,a1,h2,a3,h4⟩ (hb b g2 g4).2.2
  ·rcases key g1 g3 with⟨c1,c3⟩|⟨c0,c1,c2⟩
   ·subst a1;subst a2;exact absurd ⟨k',o2,r2,c1,g2,c3,g4⟩ (hb b h2 h4).2.2
   ·omega
 lt:=fun b h=>by
  rcases uU hs.len h with h|⟨hl,h⟩
  ·exact hs.lt b h
  ·exact⟨(hb b hl h).1,(hb b hl h).2.1⟩
 slt:=hs.slt
 base:=hs.base}
theorem aK.DY(hs:aK D ρ S w H){h:Nat}{o:Ob K}{r:Value}(h0:H[h]?=some .dead)(hr:ρ[h]?=some r)(ho:fx D ρ S w o r)(hb:∀b,bU D w o r b->b<w.heap.size/\¬S b/\¬Own D w ρ H b):
 aK D ρ S w (H.set h o):={
 len:=by simp[hs.len]
 ob:=fun k o' r' h1 h2=>by
  rcases eB h1 with⟨rfl,rfl,-⟩|⟨hk,h1⟩
  ·rw[hr]at h2;simp at h2;subst h2;exact ho
  ·exact hs.ob k o' r' h1 h2
 ed:=fun k k' o1 o2 r1 r2 b h1 h2 h3 h4 g1 g2 g3 g4=>by
  rcases eB h1 with⟨rfl,rfl,-⟩|⟨hk,h1⟩
  ·rcases eB g1 with⟨rfl,rfl,-⟩|⟨hk',g1⟩
   ·rfl
   ·rw[hr]at h3;simp at h3;subst h3;exact absurd ⟨k',o2,r2,g1,g2,g3,g4⟩ (hb b h4).2.2
  ·rcases eB g1 with⟨rfl,rfl,-⟩|⟨hk',g1⟩
   ·rw[hr]at g3;simp at g3;subst g3;exact absurd (Own.VR (H:=H) ‹_› h2 h3 h4) (hb b g4).2.2
   ·exact hs.ed k k' o1 o2 r1 r2 b h1 h2 h3 h4 g1 g2 g3 g4
 lt:=fun b ⟨k,o',r',h1,h2,h3,h4⟩=>by
  rcases eB h1 with⟨rfl,rfl,-⟩|⟨hk,h1⟩
  ·rw[hr]at h3;simp at h3;subst h3;exact⟨(hb b h4).1,(hb b h4).2.1⟩
  ·exact hs.lt b ⟨k,o',r',h1,h2,h3,h4⟩
 slt:=hs.slt
 base:=hs.base}
theorem aK.turn(hs:aK D ρ S w H){h b:Nat}{o o':Ob K}{r:Value}(h1:H[h]?=some o)(h2:o.live=true)(h3:ρ[h]?=some r)(h4:bU D w o r b)
 (hsz:w'.heap.size=w.heap.size) (hw:∀k,k≠b->w'.heap[k]?=w.heap[k]?) (hf:∀k,bU D w' o' r k->bU D w o r k) (ho:fx D ρ S w' o' r):aK D ρ S w' (H.set h o'):=by
 have hk:=hs.kill h;have hno:∀q,bU D w o r q->¬Own D w ρ (H.set h .dead) q:=fun q hq=>xa hs h1 h2 h3 hq
 have hlt:∀q,bU D w o r q->q<w.heap.size/\¬S q:=fun q hq=>hs.lt q ⟨h,o,r,h1,h2,h3,hq⟩
 have hkeep:∀k,Own D w ρ (H.set h .dead) k->w'.heap[k]?=w.heap[k]?:=fun k hk'=>hw k (fun e=>by subst e;exact hno _ h4 hk')
 have hw1:aK D ρ S w' (H.set h .dead):=hk.world (by omega) hkeep (fun k hk'=>hw k (fun e=>by subst e;exact(hlt _ h4).2 hk'));have:=hw1.DY (h:=h) (o:=o') (r:=r) (by rw[fV];simp[(bM.1 h1).1]) h3 ho (fun k hk'=>by
  have hk2:=hf k hk';exact⟨by have:=(hlt k hk2).1;omega,(hlt k hk2).2,fun hO=>hno k hk2 (hO.old hkeep)⟩)
 simpa using this
theorem VS(hs:aK D ρ S w H){h b:Nat}{o o':Ob K}{r:Value}(h1:H[h]?=some o)(h2:o.live=true)(h3:ρ[h]?=some r)(h4:bU D w o r b)
 (hw:∀k,k≠b->w'.heap[k]?=w.heap[k]?) (hf:∀k,bU D w' o' r k->bU D w o r k) {q:Nat} (hb:Own D w' ρ (H.set h o') q):Own D w ρ H q:=by
 obtain⟨k,o1,r1,g1,g2,g3,g4⟩:=hb;rcases eB g1 with⟨rfl,rfl,-⟩|⟨hk,g1⟩
 ·rw[h3]at g3;simp at g3;subst g3;exact⟨k,o,r,h1,h2,h3,hf q g4⟩
 ·exact⟨k,o1,r1,g1,g2,g3,g4.old fun q hq=>hw q fun e=>by subst e;exact hk (hs.ed k h o1 o r1 r q g1 g2 g3 hq h1 h2 h3 h4)⟩
theorem Step.turn(hs:aK D ρ S w H){h b:Nat}{o o':Ob K}{r:Value}(h1:H[h]?=some o)(h2:o.live=true)(h3:ρ[h]?=some r)(h4:bU D w o r b)
 (hsz:w'.heap.size=w.heap.size) (hw:∀k,k≠b->w'.heap[k]?=w.heap[k]?) (hf:∀k,bU D w' o' r k->bU D w o r k) (e1:w'.os=w.os) (e2:w'.tape=w.tape) (e3:w'.output=w.output):Step D n0 ρ S H w ρ S (H.set h o') w':=
 ⟨e1,e2,e3,by omega,fun k hk hno=>hw k (fun e=>by subst e;exact hno ⟨h,o,r,h1,h2,h3,h4⟩),fun k hk=>.inl (VS hs h1 h2 h3 h4 hw hf hk),fun _ h=>h,fun _ h=>.inl h,fun _ _=>rfl⟩
theorem aK.new(hs:aK D ρ S w H){o:Ob K}{r:Value}(hsz:w.heap.size<=w'.heap.size)(hw:∀k,k<w.heap.size->w'.heap[k]?=w.heap[k]?)(ho:fx D (ρ++[r]) S w' o r)
 (hb:∀b,bU D w' o r b->w.heap.size<=b/\b<w'.heap.size):aK D (ρ++[r]) S w' (H++[o]):=by
 have hk:∀b,Own D w ρ H b->w'.heap[b]?=w.heap[b]?:=fun b h=>hw b (hs.lt b h).1
 have h1:aK D ρ S w' H:=hs.world hsz hk (fun b h=>hw b (hs.slt b h));exact h1.push ho fun b _ h=>⟨(hb b h).2,fun hS=>by have:=hs.slt b hS;have:=(hb b h).1;omega,fun hO=>by have:=(hs.lt b (hO.old hk)).1;have:=(hb b h).1;omega⟩
theorem Step.new(hs:aK D ρ S w H){o:Ob K}{r:Value}(hsz:w.heap.size<=w'.heap.size)(hw:∀k,k<w.heap.size->w'.heap[k]?=w.heap[k]?)
 (hb:∀b,bU D w' o r b->w.heap.size<=b) (e1:w'.os=w.os) (e2:w'.tape=w.tape) (e3:w'.output=w.output):Step D H.length ρ S H w (ρ++[r]) S (H++[o]) w':=
 ⟨e1,e2,e3,hsz,fun k hk _=>hw k hk,fun k hk=>by
   rcases uU hs.len hk with h|⟨-,h⟩
   ·exact .inl (h.old fun b h=>hw b (hs.lt b h).1)
   ·exact .inr (hb k h),fun _ h=>h,fun _ h=>.inl h,fun k hk=>by rw[cU (by rw[hs.len];exact hk)]⟩
theorem qg(hs:aK D ρ S w H){h:Nat}{c:K.U}{l:List (K.El c)}(ho:H[h]?=some (.arr c l)){X:Value}(hp:ρ[h]?=some X):(X=.slice none 0 0/\l=[])\/∃b o cap vs T fr,X=.slice (some ⟨b,o,none⟩) l.length cap/\w.heap[b]?=some (.cells vs T fr)/\(l.length<=cap/\qe D c T o fr)/\o+cap*K.sz c<=vs.size/\
 (∀k,o<=k->k<o+cap*K.sz c->¬(fr.1<=k/\k<fr.2))/\∀i x,l[i]?=some x->aW D ρ S w (D.cells c x) (bW vs (o+i*K.sz c) (K.sz c)):=hs.ob h _ _ ho hp
theorem I1(hs:aK D ρ S w H){h:Nat}{o:Ob K}{X:Value}{c:K.U}{l:List (K.El c)}(ho:H[h]?=some o)(hl:o.live=true)(hp:ρ[h]?=some X)
 (hr:Rep D ρ (fun b=>S b\/bU D w o X b) w (.ax c l) X):aK D ρ (fun b=>S b\/bU D w o X b) w (H.set h (.fR c l))/\Step D n0 ρ S H w ρ (fun b=>S b\/bU D w o X b) (H.set h (.fR c l)) w:=by
 have hlen:=hs.len;have hno:∀b,bU D w o X b->¬Own D w ρ (H.set h .dead) b:=fun b hb=>xa hs ho hl hp hb
 have VT:∀b,Own D w ρ (H.set h (.fR c l)) b->Own D w ρ (H.set h .dead) b:=fun b ⟨k,o,r,g1,g2,g3,g4⟩=>by
  rcases eB g1 with⟨-,rfl,-⟩|⟨hne,g1⟩
  ·cases g2
  ·exact⟨k,o,r,by rw[fV,aX (m8 hne)];exact g1,g2,g3,g4⟩
 refine⟨⟨by simpa using hlen,fun k o' r h1 h2=>?_,fun k k' o o' r r' b h1 h2 h3 h4 g1 g2 g3 g4=>?_,fun b hb=>?_,fun b hb=>?_,D.base.mono (fun _ h=>.inl h) (fun _ _=>rfl) hs.base⟩,?_⟩
 ·rcases eB h1 with⟨rfl,rfl,-⟩|⟨-,h1⟩
  ·rw[hp]at h2;simp at h2;subst h2;exact hr
  ·exact(hs.ob k o' r h1 h2).mono (fun _ h=>.inl h) (fun _ _=>rfl) (fun _ _ h=>h) (fun _ _ _=>rfl)
 ·rcases eB h1 with⟨-,rfl,-⟩|⟨-,h1⟩
  ·cases h2
  ·rcases eB g1 with⟨-,rfl,-⟩|⟨-,g1⟩
   ·cases g2
   ·exact hs.ed k k' o o' r r' b h1 h2 h3 h4 g1 g2 g3 g4
 ·have h1:=VT b hb;have:=hs.lt b (qf h1);exact⟨this.1,fun hS=>hS.elim this.2 fun h2=>hno b h2 h1⟩
 ·rcases hb with hb|hb
  ·exact hs.slt b hb
  ·exact(hs.lt b ⟨h,_,_,ho,hl,hp,hb⟩).1
 ·refine⟨rfl,rfl,rfl,bH _,fun _ _ _=>rfl,fun b ⟨k,o,r,g1,g2,g3,g4⟩=>?_,fun _ h=>.inl h,fun b hb=>?_,fun _ _=>rfl⟩
  ·rcases eB g1 with⟨-,rfl,-⟩|⟨-,g1⟩
   ·cases g2
   ·exact .inl ⟨k,o,r,g1,g2,g3,g4⟩
  ·rcases hb with hb|hb
   ·exact .inl hb
   ·exact .inr (.inl ⟨h,_,_,ho,hl,hp,hb⟩)
theorem VU(hs:aK D ρ S w H)(h:Nat):∃S',aK D ρ S' w (rA H h)/\Step D n0 ρ S H w ρ S' (rA H h) w/\(rA H h).length=H.length:=by
 have hlen:=hs.len;unfold rA;split
 ·rename_i c l ho;have hlt:h<H.length:=(bM.1 ho).1;have hp:ρ[h]?=some ρ[h]:=bY (by omega);generalize ρ[h]=X at hp;have hr:Rep D ρ (fun b=>S b\/bU D w (.arr c l) X b) w (.ax c l) X:=by
   rcases qg hs ho hp with⟨e,rfl⟩|⟨b,o,cap,vs,T,fr,e,hblk,⟨hcap,dL⟩,hsz,hfr,hall⟩
   ·rw[e];exact .eP _ _
   ·rw[e];refine .ax (fun i=>bW vs (o+i*K.sz c) (K.sz c)) (.inr rfl) hcap (fun i x hx=>(hall i x hx).1.symm) (fun i _=>I0 hblk) (fun i x hx j v y hv hy=>?_);exact((hall i x hx).2 j v y hv hy).mono (fun _ h=>.inl h) (fun _ _=>rfl) (fun _ _ h=>h)
  obtain⟨h1,h2⟩:=I1 (n0:=n0) hs ho rfl hp hr;exact⟨_,h1,h2,by simp⟩
 ·rename_i c l ho;have hlt:h<H.length:=(bM.1 ho).1;have hp:ρ[h]?=some ρ[h]:=bY (by omega);generalize ρ[h]=X at hp;have hT:Tree D w c l X:=hs.ob h _ _ ho hp;obtain⟨h1,h2⟩:=I1 (n0:=n0) hs ho rfl hp (hT.rep fun k hk=>.inr hk);exact⟨_,h1,h2,by simp⟩
 ·exact⟨S,hs,Step.refl,rfl⟩
theorem zY:∀(l:List Nat){S:Nat->Prop}{H:List (Ob K)},aK D ρ S w H->∃S',aK D ρ S' w (ik H l)/\Step D n0 ρ S H w ρ S' (ik H l) w/\(ik H l).length=H.length
 |[],S,H,hs=>⟨S,hs,Step.refl,rfl⟩
 |h::r,S,H,hs=>by
  obtain⟨S1,h1,h2,h3⟩:=VU (n0:=n0) hs h;obtain⟨S2,g1,g2,g3⟩:=zY r h1;exact⟨S2,g1,h2.trans g2,by simp only[ik];rw[g3,h3]⟩
theorem VV{c:K.U}{l:List (K.El c)}{a a':Option Addr}{n cp lo hi c':Nat}(h:Rep D ρ S w (.ax c l) (.slice a n cp))(h1:lo<=hi)(h2:hi<=n)(ha:hi-lo=0\/∃b o,a=some ⟨b,o,none⟩/\a'=some ⟨b,o+lo*K.sz c,none⟩/\hi-lo<=c'):
 Rep D ρ S w (.ax c ((l.take hi).drop lo)) (.slice a' (hi-lo) c'):=by
 rcases ha with h0|⟨b,o,rfl,rfl,hc⟩
 ·have:(l.take hi).drop lo=[]:=kU (by simp;omega);rw[this,h0];exact .eP _ _
 ·by_cases h0:hi-lo=0
  ·have:(l.take hi).drop lo=[]:=kU (by simp;omega);rw[this,h0];exact .eP _ _
  ·cases h with
   |eP=>omega
   |ax val hS hcap hl' hca hr=>
    have hlen:((l.take hi).drop lo).length=hi-lo:=by simp;omega
    have hget:∀i x,((l.take hi).drop lo)[i]?=some x->l[lo+i]?=some x:=fun i x hi=>by
     simp only[fe,dI]at hi;split at hi
     ·exact hi
     ·simp at hi
    rw[<-hlen];exact .ax (fun i=>val (lo+i)) hS (by rw[hlen];omega) (fun i x hi=>hl' _ _ (hget i x hi))
     (fun i hi=>by
       have:=hca (lo+i) (by rw[hlen]at hi;omega)
       rwa [dx,<-iI]at this)
     (fun i x hi=>hr _ _ (hget i x hi))
mutual
theorem nk(hs:aK D ρ S w H):∀(x:AV K)(v:Value),Rep D ρ S w x v->Rep D ρ S w (d3 H x) v
 |.sl h,v,hx=>by
   simp only[d3];split
   ·rename_i c l ho;cases hx with
    |sl hp=>exact hs.ob h _ _ ho hp
   ·exact hx
 |.vw h st lo hi,v,hx=>by
   cases hx with
   |vw hp h1 h2 ha=>
    simp only[d3];split
    ·rename_i c l ho;split
     ·rename_i hst;subst hst;exact VV (hs.ob h _ _ ho hp) h1 h2 ha
     ·exact .vw hp h1 h2 ha
    ·exact .vw hp h1 h2 ha
 |.agg l,v,hx=>by
   cases hx with
   |agg hl hr=>
    have:=xb hs l _ ⟨hl,hr⟩;exact .agg this.1 this.2
 |.bk l,v,hx=>by
   cases hx with
   |bk hl hr=>
    have:=xb hs l _ ⟨hl,hr⟩;exact .bk this.1 this.2
 |.any,v,hx|.int _ _,v,hx|.bool _,v,hx|.str _,v,hx|.da,v,hx|.cP,v,hx|.mp,v,hx|.fn _ _,v,hx|.ptr _ _,v,hx|.ep _ _ _ _,v,hx|.ax _ _,v,hx|.rp _ _ _,v,hx|.np _,v,hx|.opt _ _ _,v,hx=>by simpa only[d3]using hx
theorem xb(hs:aK D ρ S w H):∀(l:List (AV K))(vs:List Value),aW D ρ S w l vs->aW D ρ S w (m9 H l) vs
 |[],vs,h=>by rw[h.ou];exact .nil
 |x::r,vs,h=>by
  obtain⟨u,t,rfl,h1,h2⟩:=h.hJ;exact .cons (nk hs x u h1) (xb hs r t h2)
end
def lJ(b:Bool)(c:K.U):Ob K:=cond b (.tree c []) (.arr c [])
theorem DZ(hs:aK D ρ S w H)(c:K.U)(b:Bool):aK D (ρ++[.slice none 0 0]) S w (H++[lJ b c])/\Step D H.length ρ S H w (ρ++[.slice none 0 0]) S (H++[lJ b c]) w:=by
 have hf:∀k,¬bU D w (lJ b c:Ob K) (.slice none 0 0) k:=fun k h=>by
  cases b
  ·change im (.slice none 0 0)=some k at h;simp[im]at h
  ·change cX D w c [] (.slice none 0 0) k at h;cases h
 have ho:fx D (ρ++[.slice none 0 0]) S w (lJ b c) (.slice none 0 0):=by
  cases b
  ·exact .inl ⟨rfl,rfl⟩
  ·exact Tree.nil
 exact⟨hs.push ho (fun k _ h=>(hf k h).elim),Step.new hs (bH _) (fun _ _=>rfl) (fun k h=>(hf k h).elim) rfl rfl rfl⟩
def uV(D:bg K)(S:Nat->Prop)(w:World)(H:List (Ob K))(ρ vs:List Value)(p:List (AV K)×List (Ob K)):Prop:=
 ∃ρ',aK D ρ' S w p.2/\aW D ρ' S w p.1 vs/\Step D H.length ρ S H w ρ' S p.2 w/\(∀(h:Nat) r,ρ[h]?=some r->ρ'[h]?=some r)/\H.length<=p.2.length/\(∀(h:Nat) o,H[h]?=some o->p.2[h]?=some o)
theorem rU(dp:K.U->Bool):∀(cs:List (Option K.U))(l:List (AV K))(H:List (Ob K))(ρ:List Value)(vs:List Value),aK D ρ S w H->aW D ρ S w l vs->uV D S w H ρ vs (thaw dp H cs l)
 |[],l,H,ρ,vs,hs,hr=>⟨ρ,by simpa [thaw]using hs,by simpa [thaw]using hr,by simpa [thaw]using Step.refl,fun _ _ h=>h,by simp[thaw],fun _ _ h=>by simpa [thaw]using h⟩
 |some c::cs,[],H,ρ,vs,hs,hr=>⟨ρ,by simpa [thaw]using hs,by simpa [thaw]using hr,by simpa [thaw]using Step.refl,fun _ _ h=>h,by simp[thaw],fun _ _ h=>by simpa [thaw]using h⟩
 |none::cs,[],H,ρ,vs,hs,hr=>⟨ρ,by simpa [thaw]using hs,by simpa [thaw]using hr,by simpa [thaw]using Step.refl,fun _ _ h=>h,by simp[thaw],fun _ _ h=>by simpa [thaw]using h⟩
 |oc::cs,v::r,H,ρ,vs,hs,hr=>by
  obtain⟨u,t,rfl,h1,h2⟩:=hr.hJ;have keep:thaw dp H (oc::cs) (v::r)=(v::(thaw dp H cs r).1,(thaw dp H cs r).2)->uV D S w H ρ (u::t) (thaw dp H (oc::cs) (v::r)):=fun e=>by
   obtain⟨ρ',g1,g2,g3,g4,g5,g6⟩:=rU dp cs r H ρ t hs h2;rw[e];exact⟨ρ',g1,.cons (h1.mono (fun _ h=>h) (fun _ _=>rfl) g4) g2,g3,g4,g5,g6⟩
  cases oc with
  |none=>exact keep (by cases v<;>rfl)
  |some c=>
   cases v with
   |cP=>
    obtain⟨n1,n2⟩:=DZ hs c (dp c);have hpre:∀(h:Nat) r,ρ[h]?=some r->(ρ++[.slice none 0 0])[h]?=some r:=fun _ _ h=>nj h
    obtain⟨ρ',g1,g2,g3,g4,g5,g6⟩:=rU dp cs r (H++[lJ (dp c) c]) _ t n1 (h2.mono (fun _ h=>h) (fun _ _=>rfl) hpre);have e:thaw dp H (some c::cs) (.cP::r)=(.sl H.length::(thaw dp (H++[lJ (dp c) c]) cs r).1,(thaw dp (H++[lJ (dp c) c]) cs r).2):=rfl;rw[e];have hu:u=.slice none 0 0:=by cases h1;rfl
    refine⟨ρ',g1,.cons ?_ g2,n2.trans (g3.weaken (by simp)),fun h r hr=>g4 h r (hpre h r hr),by have g5:=g5;simp at g5;exact Nat.le_of_succ_le g5,fun h o ho=>g6 h o ?_⟩
    ·rw[hu];exact .sl (g4 _ _ (by rw[dA (by rw[hs.len];exact bH _)];simp[hs.len]))
    ·rw[cU (bM.1 ho).1];exact ho
   |_=>exact keep rfl
end Go.V
namespace Go.V
open Go
variable {K :cK}{D:bg K}{ρ:List Value}{S:Nat->Prop}{w:World}
theorem fi{k:IntKind}{n:Int}{X:Value}(h:Rep D ρ S w (.int k n) X):X=.int k n:=by cases h;rfl
theorem jX{b:Bool}{X:Value}(h:Rep D ρ S w (.bool b) X):X=.bool b:=by cases h;rfl
theorem iq{s:List UInt8}{X:Value}(h:Rep D ρ S w (.str s) X):X=.string ⟨s.toArray⟩:=by cases h;rfl
theorem I2{c:K.U}{x:K.El c}{off:Nat}{X:Value}(h:Rep D ρ S w (.rp c x off) X):∃b o vs,X=.pointer (some ⟨b,o+off,none⟩)/\vs.length=(D.cells c x).length/\gC w b o vs/\
 ∀(j:Nat) v y,(D.cells c x)[j]?=some v->vs[j]?=some y->Rep D ρ S w v y:=by
 cases h with|rp vs hS hl hc hr=>exact⟨_,_,vs,rfl,hl,hc,hr⟩
theorem uW{h off:Nat}{X:Value}(hp:Rep D ρ S w (.ptr h off) X):∃b,X=.pointer (some ⟨b,off,none⟩)/\ρ[h]?=some (.pointer (some ⟨b,0,none⟩)):=by
 cases hp with|ptr hp=>exact⟨_,rfl,hp⟩
theorem jx{h:Nat}{X:Value}(hp:Rep D ρ S w (.sl h) X):ρ[h]?=some X/\∃a n c,X=.slice a n c:=by
 cases hp with|sl hp=>exact⟨hp,_,_,_,rfl⟩
theorem nq{h st i off:Nat}{X:Value}(hp:Rep D ρ S w (.ep h st i off) X):∃b o n c,X=.pointer (some ⟨b,o+i*st+off,none⟩)/\ρ[h]?=some (.slice (some ⟨b,o,none⟩) n c)/\i<n:=by
 cases hp with|ep hp hi=>exact⟨_,_,_,_,rfl,hp,hi⟩
theorem rV{H:List (Ob K)}(hs:aK D ρ S w H){h:Nat}{c:K.U}{l:List (K.El c)}{X:Value}(ho:H[h]?=some (.arr c l))(hp:ρ[h]?=some X):
 (X=.slice none 0 0/\l=[])\/∃b o cap vs T fr,X=.slice (some ⟨b,o,none⟩) l.length cap/\w.heap[b]?=some (.cells vs T fr)/\(l.length<=cap/\qe D c T o fr)/\o+cap*K.sz c<=vs.size/\
   (∀k,o<=k->k<o+cap*K.sz c->¬(fr.1<=k/\k<fr.2))/\∀i x,l[i]?=some x->aW D ρ S w (D.cells c x) (bW vs (o+i*K.sz c) (K.sz c)):=hs.ob _ _ _ ho hp
theorem getD_some{α:Type}{l:List α}{i:Nat}(d:α)(h:i<l.length):l[i]?=some (l.getD i d):=by simp[List.getD,h]
theorem I3(s:List UInt8):(ByteArray.mk s.toArray).toList=s:=by rw[ByteArray.toList_eq]
theorem uX(s:List UInt8):(ByteArray.mk s.toArray).size=s.length:=by simp[ByteArray.size]
theorem VW(s t:List UInt8):(ByteArray.mk s.toArray)++(ByteArray.mk t.toArray)=⟨(s++t).toArray⟩:=by
 apply ByteArray.ext;simp
theorem VX{P:Program}{op:BinOp}{t:TypeId}{a b:List UInt8}{v:AV K}{c:Bool}(h:Dy op a b=some (v,c))(hc:c=true):
 ∃u,(binOp op t (.string ⟨a.toArray⟩) (.string ⟨b.toArray⟩)).run P w=.ok u w/\Rep D ρ S w v u:=by
 cases op<;>simp only[Dy]at h<;>first
  |(cases h;done)
  |(simp only[aj,aF]at h;obtain⟨rfl,rfl⟩:=h)
 case add=>
  refine⟨.string ⟨(a++b).toArray⟩,?_,.str _⟩;have hc':a.length+b.length<=4611686018427387904:=by simpa [kq]using hc
  simp only[binOp,Op.stringOp,uX];rw[aX (by simp[IntKind.max,IntKind.signed,IntKind.bits];omega)];simp[VW]
 all_goals
  refine⟨_,?_,.bool _⟩;simp[binOp,Op.stringOp,wQ]
theorem VY{P:Program}{op:BinOp}{t:TypeId}{k:IntKind}{a b:Int}{v:AV K}{c:Bool}(h:Dx op k a b=some (v,c))(hc:c=true):
 ∃u,(binOp op t (.int k a) (.int k b)).run P w=.ok u w/\Rep D ρ S w v u:=by
 cases op<;>simp only[Dx]at h<;>first
  |(cases h;done)
  |(simp only[aj,aF]at h;obtain⟨rfl,rfl⟩:=h)
 case quo=>
  refine⟨_,?_,.int _ _⟩;have hb:b≠0:=by simpa using hc
  simp[binOp,Op.intDiv,hb]
 case rem=>
  refine⟨_,?_,.int _ _⟩;have hb:b≠0:=by simpa using hc
  simp[binOp,Op.intDiv,hb]
 case and=>exact⟨_,by simp[binOp,Op.intBits,ry],.int _ _⟩
 case or=>exact⟨_,by simp[binOp,Op.intBits,ry],.int _ _⟩
 case xor=>exact⟨_,by simp[binOp,Op.intBits,ry],.int _ _⟩
 case andNot=>exact⟨_,by simp[binOp,Op.intBits,ry],.int _ _⟩
 all_goals first
  |(refine⟨_,?_,.int _ _⟩;simp[binOp,Op.intArith];done)
  |(refine⟨_,?_,.bool _⟩;simp[binOp,Op.intCmp];done)
theorem I4{P:Program}{t:TypeId}(h:Dz P t=true)(a b:Bool):(Op.equal t (.bool a) (.bool b)).run P w=.ok (a==b) w:=by
 have hu:P.underlying t=some .bool:=by
  unfold Dz at h;split at h
  ·assumption
  ·cases h
 show(Op.equalIn (9999+1) t (.bool a) (.bool b)).run P w=_
 rw[Op.equalIn];simp[underlying,hu,program,Sem.run]
theorem D1{P:Program}{op:BinOp}{t:TypeId}{x y:Operand}{X Y:Value}(h:(∃k n,X=.int k n)\/(∃b,X=.bool b)\/(∃s,X=.string s)):
 (eqGuard op t x y X Y).run P w=.ok () w:=by
 rcases h with⟨k,n,rfl⟩|⟨b,rfl⟩|⟨s,rfl⟩<;>simp[eqGuard]
theorem zZ{P:Program}{t:TypeId}{g:Bool}(h:zK P t=some g):(isAgg t).run P w=.ok g w:=by
 unfold zK at h;split at h<;>first|(cases h;done)|skip
 ·rename_i d hu;simp only[aj]at h;subst h;simp[isAgg,underlying,hu]
 ·rename_i d e hu;simp only[aj]at h;subst h;simp[isAgg,underlying,hu]
 ·rename_i d h1 h2 hu;simp only[aj]at h;subst h;have:(underlying t).run P w=.ok d w:=by simp[underlying,hu]
  simp only[isAgg,Sem.run_bind,this,Result.andThen_ok];cases d<;>first|rfl|(exact absurd rfl (h1 _))|(exact absurd rfl (h2 _ _))
theorem jg{P:Program}{t:TypeId}{n:Nat}(h:dn P t=some n):(sizeOf t).run P w=.ok n w:=by
 unfold dn at h;cases hi:P.info? t with
 |none=>simp[hi]at h
 |some i=>simp[hi]at h;simp[sizeOf,typeInfo,hi,h]
theorem D2{P:Program}{t:TypeId}{cs:List (AV K)}{vs:Array Value}{off:Nat}{v:AV K}(h:kr P t cs off=some v)(hr:aW D ρ S w cs vs.toList):
 ∃u,(part t vs off).run P w=.ok u w/\Rep D ρ S w v u:=by
 unfold kr at h;split at h
 ·rename_i n hg hn;split at h
  ·rename_i hle;simp only[aj]at h;subst h;have hr':=(hr.drop off).take n;refine⟨.agg ((vs.toList.drop off).take n).toArray,?_,.agg hr'.1 hr'.2⟩;simp only[part,Sem.run_bind,zZ hg,Result.andThen_ok,od,jg hn,Sem.run_pure];congr 2;apply Array.toList_inj.1;simp[List.extract]
  ·cases h
 ·rename_i n hg hn;obtain⟨x,hx,hrep⟩:=hr.get h;refine⟨x,?_,hrep⟩;have hx':vs[off]?=some x:=by simpa using hx
  simp only[part,Sem.run_bind,zZ hg,Result.andThen_ok,jt,km,hx',Sem.run_pure]
 ·cases h
theorem Aa{l:List (AV K)}{X:Value}(h:Rep D ρ S w (.agg l) X):∃vs:Array Value,X=.agg vs/\aW D ρ S w l vs.toList:=by
 cases h with|agg hl hr=>exact⟨_,rfl,by simpa using⟨hl,hr⟩⟩
theorem I5{P:Program}{d:Nat}{rec:TypeId->AV K->AV K->Option Bool}
 (hrec:∀t x y e X Y,rec t x y=some e->Rep D ρ S w x X->Rep D ρ S w y Y->(Op.equalIn d t X Y).run P w=.ok e w)
 {xs ys:List (AV K)} {vs us:Array Value} (hx:aW D ρ S w xs vs.toList) (hy:aW D ρ S w ys us.toList):
 ∀(fs:List Field)(e:Bool),wR P rec xs ys fs=some e->(Op.eqFields d vs us fs).run P w=.ok e w
 |[],e,h=>by simp only[wR,aj]at h;subst h;simp[Op.eqFields]
 |f::fs,e,h=>by
  unfold wR at h;split at h
  ·cases h
  ·rename_i hn;split at h
   ·rename_i a b ha hb;split at h
    ·rename_i p q hp hq;simp only[aj]at h;subst h;obtain⟨u,hu,D3⟩:=D2 (P:=P) ha hx;obtain⟨u',hu',VZ⟩:=D2 (P:=P) hb hy;have h3:=hrec _ _ _ _ _ _ hp D3 VZ;have h4:=I5 hrec hx hy fs q hq;simp only[Op.eqFields,ne_eq,hn,not_false_eq_true,od,Sem.run_bind,hu,hu',h3,Result.andThen_ok];cases p
     ·simp
     ·simpa using h4
    ·cases h
   ·cases h
theorem V0{P:Program}{t:TypeId}{fs:Array Field}{d:Nat}{vs us:Array Value}(hu:P.underlying t=some (.struct fs))(hst:P.stoodInHeld t=false):
 (Op.equalIn (d+1) t (.agg vs) (.agg us)).run P w=(Op.eqFields d vs us fs.toList).run P w:=by
 have hf:P.fieldsOf t=fs:=by simp[Program.fieldsOf,hu]
 rw[run_equalIn_struct w d t vs us (by rw[hf];exact hu) hst,hf]
theorem D4{P:Program}(k:Nat):∀(n:Nat)(t:TypeId)(x y:AV K)(e:Bool)(X Y:Value),uH P n t x y=some e->Rep D ρ S w x X->Rep D ρ S w y Y->(Op.equalIn (n+k) t X Y).run P w=.ok e w
 |0,t,x,y,e,X,Y,h,hx,hy=>by simp[uH]at h
 |n+1,t,x,y,e,X,Y,h,hx,hy=>by
  rw[show n+1+k=(n+k)+1 by omega];unfold uH at h;split at h
  ·cases h
  ·rename_i heq;cases heq;split at h
   ·rename_i hk;subst hk;split at h
    ·rename_i hu;simp only[aj]at h;subst h;cases fi hx;cases fi hy;exact run_equalIn_int w _ _ _ _ _ _ hu
    ·cases h
   ·cases h
  ·rename_i heq;cases heq;split at h
   ·rename_i hu;simp only[aj]at h;subst h;cases jX hx;cases jX hy;exact run_equalIn_bool' w _ _ _ _ hu
   ·cases h
  ·rename_i heq;cases heq;split at h
   ·rename_i hu;simp only[aj]at h;subst h;cases iq hx;cases iq hy;rw[run_equalIn_string w _ _ _ _ hu,I3,I3]
   ·cases h
  ·rename_i heq;cases heq;obtain⟨vs,rfl,hvs⟩:=Aa hx;obtain⟨us,rfl,hus⟩:=Aa hy;split at h
   ·rename_i fs hu;split at h
    ·cases h
    ·rename_i hst;rw[V0 hu (by simpa using hst)];exact I5 (fun t x y e X Y=>D4 k n t x y e X Y) hvs hus fs.toList e h
   ·cases h
  ·cases h
theorem I6{P:Program}{t:TypeId}(h:DD P t=true)(a:Option Addr):(Op.equal t (.pointer a) (.pointer none)).run P w=.ok a.isNone w:=by
 obtain⟨e,hu⟩:∃e,P.underlying t=some (.pointer e):=by
  unfold DD at h;split at h
  ·rename_i e hu;exact⟨e,hu⟩
  ·cases h
 show(Op.equalIn (9999+1) t (.pointer a) (.pointer none)).run P w=_
 rw[Op.equalIn];cases a<;>simp[underlying,hu,program,Sem.run]
theorem Ab{P:Program}{op:BinOp}{t:TypeId}{ex ey:Operand}{a:Option Addr}{v:AV K}{c:Bool}
 (h:uI P op t a.isNone=some (v,c)):∃u,(do eqGuard op t ex ey (.pointer a) (.pointer none);binOp op t (.pointer a) (.pointer none):Sem Value).run P w=.ok u w/\Rep D ρ S w v u:=by
 unfold uI at h;have hg:(eqGuard op t ex ey (.pointer a) (.pointer none)).run P w=.ok () w:=by simp[eqGuard]
 rw[Sem.run_bind,hg,Result.andThen_ok];split at h
 ·rename_i hp;split at h
  ·simp only[aj,aF]at h;obtain⟨rfl,rfl⟩:=h;exact⟨_,by simp[binOp,I6 hp],.bool _⟩
  ·simp only[aj,aF]at h;obtain⟨rfl,rfl⟩:=h;exact⟨_,by simp[binOp,I6 hp],.bool _⟩
  ·cases h
 ·cases h
theorem V1{P:Program}{op:BinOp}{t:TypeId}{x y:AV K}{ex ey:Operand}{X Y:Value}{v:AV K}{c:Bool}
 (h:DF P op t x y=some (v,c)) (hc:c=true) (hx:Rep D ρ S w x X) (hy:Rep D ρ S w y Y):
 ∃u,(do eqGuard op t ex ey X Y;binOp op t X Y:Sem Value).run P w=.ok u w/\Rep D ρ S w v u:=by
 unfold DF at h;split at h
 ·rename_i k a k' b;obtain rfl:=fi hx;obtain rfl:=fi hy;rw[Sem.run_bind,D1 (.inl ⟨_,_,rfl⟩),Result.andThen_ok];split at h
  ·simp only[aj,aF]at h;obtain⟨rfl,rfl⟩:=h;have hb:¬b<0:=by simp at hc;omega
   exact⟨_,by simp[binOp,Op.shift,hb,IM],.int _ _⟩
  ·simp only[aj,aF]at h;obtain⟨rfl,rfl⟩:=h;have hb:¬b<0:=by simp at hc;omega
   exact⟨_,by simp[binOp,Op.shift,hb,IN],.int _ _⟩
  ·split at h
   ·rename_i hk;subst hk;exact VY h hc
   ·cases h
 ·rename_i a b;obtain rfl:=jX hx;obtain rfl:=jX hy;rw[Sem.run_bind,D1 (.inr (.inl ⟨_,rfl⟩)),Result.andThen_ok];split at h
  ·rename_i hb;split at h
   ·simp only[aj,aF]at h;obtain⟨rfl,rfl⟩:=h;exact⟨_,by simp[binOp,I4 hb],.bool _⟩
   ·simp only[aj,aF]at h;obtain⟨rfl,rfl⟩:=h;exact⟨_,by simp[binOp,I4 hb],.bool _⟩
   ·cases h
  ·cases h
 ·rename_i a b;obtain rfl:=iq hx;obtain rfl:=iq hy;rw[Sem.run_bind,D1 (.inr (.inr ⟨_,rfl⟩)),Result.andThen_ok];exact VX h hc
 ·rename_i a b;obtain⟨vs,rfl,hvs⟩:=Aa hx;obtain⟨us,rfl,hus⟩:=Aa hy;split at h
  ·split at h
   ·cases h
   ·rename_i hg;simp only[eN,aF]at h;obtain⟨e,he,rfl,rfl⟩:=h;have:=D4 9994 6 t _ _ e _ _ he hx hy;refine⟨.bool e,?_,.bool _⟩;rw[Sem.run_bind,run_eqGuard_agg w _ t ex ey vs us (by simpa using hg),Result.andThen_ok,run_eql_struct,this];rfl
  ·split at h
   ·cases h
   ·rename_i hg;simp only[eN,aF]at h;obtain⟨e,he,rfl,rfl⟩:=h;have:=D4 9994 6 t _ _ e _ _ he hx hy;refine⟨.bool (!e),?_,.bool _⟩;rw[Sem.run_bind,run_eqGuard_agg w _ t ex ey vs us (by simpa using hg),Result.andThen_ok,run_neq_struct,this];rfl
  ·cases h
 ·cases hx;cases hy;exact Ab (a:=none) h
 ·cases hx;cases hy;exact Ab (a:=some _) h
 ·cases hx;cases hy;exact Ab (a:=some _) h
 ·cases hx;cases hy;exact Ab (a:=some _) h
 ·cases h
theorem V2{P:Program}{op:UnOp}{x:AV K}{X:Value}{v:AV K}{c:Bool}(h:DC op x=some (v,c))(hx:Rep D ρ S w x X):
 ∃u,(Op.unary op X).run P w=.ok u w/\Rep D ρ S w v u:=by
 unfold DC at h;split at h
 ·obtain rfl:=jX hx;split at h
  ·simp only[aj,aF]at h;obtain⟨rfl,rfl⟩:=h;exact⟨_,by simp[Op.unary],.bool _⟩
  ·cases h
 ·obtain rfl:=fi hx;split at h
  ·simp only[aj,aF]at h;obtain⟨rfl,rfl⟩:=h;exact⟨_,by simp[Op.unary,Op.intArith],.int _ _⟩
  ·simp only[aj,aF]at h;obtain⟨rfl,rfl⟩:=h;exact⟨_,by simp[Op.unary,Op.intBits,ry],.int _ _⟩
  ·cases h
 ·cases h
mutual
theorem qh:∀(v:Value)(x:AV K),ko v=some x->Rep D ρ S w x v
 |.bool b,x,h=>by simp[ko]at h;subst h;exact .bool b
 |.int k n,x,h=>by simp[ko]at h;subst h;exact .int k n
 |.string s,x,h=>by simp[ko]at h;subst h;have:=Rep.str (D:=D) (ρ:=ρ) (S:=S) (w:=w) s.data.toList;simpa using this
 |.pointer none,x,h=>by simp[ko]at h;subst h;exact .da
 |.slice none 0 0,x,h=>by simp[ko]at h;subst h;exact .cP
 |.map none,x,h=>by simp[ko]at h;subst h;exact .mp _
 |.agg ⟨cs⟩,x,h=>by
   simp only[ko,eN]at h;obtain⟨l,hl,rfl⟩:=h;have:=I7 cs l hl;exact .agg this.1 this.2
 |.pointer (some _),x,h|.slice (some _) _ _,x,h|.slice none (_+1) _,x,h|.slice none 0 (_+1),x,h|.float _ _,x,h|.complex _ _ _,x,h|.map (some _),x,h|.chan _,x,h|.func _ _ _,x,h
 |.nilFunc,x,h|.iface _ _,x,h|.nilIface,x,h|.tuple _,x,h=>by simp[ko]at h
theorem I7:∀(vs:List Value)(l:List (AV K)),wP vs=some l->aW D ρ S w l vs
 |[],l,h=>by simp[wP]at h;subst h;exact .nil
 |v::r,l,h=>by
  simp only[wP]at h;split at h
  ·rename_i x m hx hm;simp at h;subst h;exact .cons (qh v x hx) (I7 r m hm)
  ·cases h
end
@[simp] theorem add_plain (b k i:Nat):(⟨b,k,none⟩:Addr).add i=⟨b,k+i,none⟩:=by
  unfold Addr.add;split
  ·rename_i h;subst h;rfl
  ·rfl
theorem I8{P:Program}{b k:Nat}:∀(vs:List Value)(i:Nat)(acc:Array Value),gC w b (k+i) vs->
 (loadCellsFrom ⟨b,k,none⟩ i vs.length acc).run P w=.ok (acc++vs.toArray) w
 |[],i,acc,_=>by simp[loadCellsFrom]
 |v::r,i,acc,h=>by
  have h0:w.cell? ⟨b,k+i,none⟩=some v:=by simpa using h 0 v rfl
  have ih:=I8 (P:=P) (b:=b) (k:=k) r (i+1) (acc.push v) (fun j x hx=>by have:=h (j+1) x (by simpa using hx);rw[show k+(i+1)+j=k+i+(j+1) by omega];exact this);simp only[dH,loadCellsFrom,Sem.run_bind,run_load,add_plain,h0];rw[Result.andThen_ok,ih];simp
theorem Ac{P:Program}{b k:Nat}{vs:List Value}(h:gC w b k vs):(loadCells ⟨b,k,none⟩ vs.length).run P w=.ok vs.toArray w:=by
 have:=I8 (P:=P) vs 0 #[] (k:=k) (by simpa using h);simpa [loadCells]using this
theorem gC.bW{b k:Nat}{vs:List Value}(h:gC w b k vs)(off n:Nat):gC w b (k+off) ((vs.drop off).take n):=fun j v hv=>by
 simp only[dI]at hv;split at hv
 ·rw[iI];exact h (off+j) v (by simpa using hv)
 ·simp at hv
theorem uY{P:Program}{t:TypeId}{cs:List (AV K)}{vs:List Value}{b o off:Nat}{v:AV K}(h:kr P t cs off=some v)(hc:gC w b o vs)(hr:aW D ρ S w cs vs):
 ∃u,(loadVar t ⟨b,o+off,none⟩).run P w=.ok u w/\Rep D ρ S w v u:=by
 unfold kr at h;split at h
 ·rename_i n hg hn;split at h
  ·rename_i hle;simp only[aj]at h;subst h;have hr':=(hr.drop off).take n;have hlen:((vs.drop off).take n).length=n:=by simp;rw[<-hr.1];omega
   have:=Ac (P:=P) (hc.bW off n);rw[hlen]at this;refine⟨.agg ((vs.drop off).take n).toArray,?_,.agg hr'.1 hr'.2⟩;simp[loadVar,zZ hg,jg hn,this]
  ·cases h
 ·rename_i n hg hn;obtain⟨x,hx,hrep⟩:=hr.get h;refine⟨x,?_,hrep⟩;have:=hc off x hx;simp[loadVar,zZ hg,this]
 ·cases h
theorem qi{b:Nat}{vs:Array Value}{T:TypeId}{fr:Nat×Nat}(h:w.heap[b]?=some (.cells vs T fr))(k n:Nat):gC w b k (bW vs k n):=fun j v hv=>by
 simp only[bW,dI]at hv;split at hv
 ·simp only[fe]at hv;simp[World.cell?,h];simpa using hv
 ·simp at hv
theorem V3(vs:Array Value):bW vs 0 vs.size=vs.toList:=by simp only[bW,ft];rw[uA (by simp)]
mutual
theorem D5{S':Nat->Prop}{w':World}:∀(x:AV K)(v:Value),gX x=false->Rep D ρ S w x v->Rep D ρ S' w' x v
 |.any,v,_,h=>.any _
 |.int _ _,v,_,h=>by rw[fi h];exact .int _ _
 |.bool _,v,_,h=>by rw[jX h];exact .bool _
 |.str _,v,_,h=>by rw[iq h];exact .str _
 |.da,v,_,h=>by cases h;exact .da
 |.cP,v,_,h=>by cases h;exact .cP
 |.mp,v,_,h=>by cases h;exact .mp _
 |.ptr _ _,v,_,h=>by cases h with|ptr hp=>exact .ptr hp
 |.np _,v,_,h=>by
   cases h with
   |kB=>exact .kB
   |np hp=>exact .np hp
 |.sl _,v,_,h=>by cases h with|sl hp=>exact .sl hp
 |.ep _ _ _ _,v,_,h=>by cases h with|ep hp hi=>exact .ep hp hi
 |.vw _ _ _ _,v,_,h=>by cases h with|vw hp h1 h2 ha=>exact .vw hp h1 h2 ha
 |.opt _ _ _,v,_,h=>by cases h
 |.fn f l,v,hr,h=>by
   cases h with
   |fn hl hh=>
    have:=xc (S':=S') (w':=w') l _ (by simpa [gX]using hr) ⟨hl,hh⟩;exact .fn this.1 this.2
 |.agg l,v,hr,h=>by
   cases h with
   |agg hl hh=>
    have:=xc (S':=S') (w':=w') l _ (by simpa [gX]using hr) ⟨hl,hh⟩;exact .agg this.1 this.2
 |.bk l,v,hr,h=>by
   cases h with
   |bk hl hh=>
    have:=xc (S':=S') (w':=w') l _ (by simpa [gX]using hr) ⟨hl,hh⟩;exact .bk this.1 this.2
 |.ax _ _,v,hr,_|.rp _ _ _,v,hr,_=>by simp[gX]at hr
theorem xc{S':Nat->Prop}{w':World}:∀(l:List (AV K))(vs:List Value),db l=false->aW D ρ S w l vs->aW D ρ S' w' l vs
 |[],vs,_,h=>by rw[h.ou];exact .nil
 |x::r,vs,hr,h=>by
  simp only[db,zH]at hr;obtain⟨u,t,rfl,h1,h2⟩:=h.hJ;exact .cons (D5 x u hr.1 h1) (xc r t hr.2 h2)
end
theorem I9{P:Program}{H:List (Ob K)}(hD:bu D)(hs:aK D ρ S w H){t:TypeId}{p v:AV K}{X:Value}(h:zM P D H t p=some v)(hp:Rep D ρ S w p X):
 ∃u,(Instr.loadAt t X).run P w=.ok u w/\Rep D ρ S w v u:=by
 unfold zM at h;split at h
 ·rename_i hh off;split at h
  ·rename_i cs hob;obtain⟨b,rfl,hb⟩:=uW hp;obtain⟨b',vs,T,e,hblk,Ad,-⟩:=hs.ob _ _ _ hob hb;simp only[Value.pointer.injEq,aj,Addr.mk.injEq]at e;obtain⟨rfl,-,-⟩:=e;obtain⟨u,hu,hr⟩:=uY (o:=0) (b:=b) h (by have:=qi hblk 0 vs.size;rwa [V3]at this) Ad;exact⟨u,by simpa [Instr.loadAt,Instr.sureAddr]using hu,hr⟩
  ·cases h
 ·rename_i c x off;obtain⟨b,o,vs,rfl,hl,hc,hr⟩:=I2 hp;obtain⟨u,hu,hr⟩:=uY (o:=o) (b:=b) h hc ⟨hl.symm,hr⟩;exact⟨u,by simpa [Instr.loadAt,Instr.sureAddr]using hu,hr⟩
 ·rename_i hh st i off;split at h
  ·rename_i c l hob;split at h
   ·rename_i hst;subst hst;obtain⟨b,o,n,cp,rfl,hb,hi⟩:=nq hp;rcases rV hs hob hb with⟨e,-⟩|⟨b',o',cap,vs,T,fr,e,hblk,⟨hcap,dL⟩,hsz,hfr,hall⟩
    ·cases e
    ·simp only[Value.slice.injEq,aj,Addr.mk.injEq]at e;obtain⟨⟨rfl,rfl,-⟩,rfl,rfl⟩:=e;have hx:=hall i _ (getD_some (K.zero c) hi);obtain⟨u,hu,hr⟩:=uY (o:=o+i*K.sz c) (b:=b) h (qi hblk _ _) hx;exact⟨u,by simpa [Instr.loadAt,Instr.sureAddr]using hu,hr⟩
   ·cases h
  ·rename_i c l hob;split at h
   ·rename_i hst;subst hst;split at h
    ·rename_i v' htk;split at h
     ·cases h
     ·rename_i hnr;simp only[aj]at h;subst h;obtain⟨b,o,n,cp,rfl,hb,hi⟩:=nq hp;have hT:Tree D w c l (.slice (some ⟨b,o,none⟩) n cp):=hs.ob _ _ _ hob hb;have hR:Rep D ρ (fun k=>S k\/cX D w c l (.slice (some ⟨b,o,none⟩) n cp) k) w (.ax c l) (.slice (some ⟨b,o,none⟩) n cp):=hT.rep fun k hk=>.inr hk
      cases hR with
      |eP a cap=>omega
      |ax val hS hcap hl hca hr=>
       have hg:=getD_some (K.zero c) hi;obtain⟨u,hu,hr'⟩:=uY (o:=o+i*K.sz c) (b:=b) htk (hca i hi) ⟨(hl i _ hg).symm,hr i _ hg⟩;exact⟨u,by simpa [Instr.loadAt,Instr.sureAddr]using hu,D5 v' u (by simpa using hnr) hr'⟩
    ·cases h
   ·cases h
  ·cases h
 ·cases h
theorem V4{P:Program}{H:List (Ob K)}(hD:bu D)(hs:aK D ρ S w H){t:TypeId}{p v:AV K}{X:Value}(h:DG P H t p=some (v,true))(hp:Rep D ρ S w p X):
 ∃u,(Instr.loadAt t X).run P w=.ok u w/\Rep D ρ S w v u:=by
 unfold DG at h;split at h
 ·rename_i hh st i off;split at h
  ·rename_i c l i' off' cs hob;split at h
   ·rename_i hcond;split at h
    rotate_left
    ·cases h
    rename_i v0 htk;simp only[aj,aF,bN]at h;obtain⟨rfl,rfl⟩:=h;obtain⟨rfl,hle⟩:=hcond;obtain⟨b,o,n,cp,rfl,hb,hi⟩:=nq hp;obtain⟨b',o',cap,vs,T,fr,e,hblk,⟨hcap,dL⟩,hsz,hfr,hi',hoff,h7,h8,h9⟩:=(hs.ob _ _ _ hob hb:lj D ρ S w c l i off' cs _);simp only[Value.slice.injEq,aj,Addr.mk.injEq]at e;obtain⟨⟨rfl,rfl,-⟩,rfl,rfl⟩:=e;have hmul:(i+1)*K.sz c<=cp*K.sz c:=dZ _ (by omega);rw[dx,fg]at hmul;have hsl:(bW vs (o+i*K.sz c) (off'+cs.length)).length=off'+cs.length:=by simp[bW];omega
    have hM:aW D ρ S w (List.replicate off' .any++cs) (bW vs (o+i*K.sz c) (off'+cs.length)):=by
     refine⟨by simp[hsl],fun j v u hv hu=>?_⟩;by_cases h1:j<off'
     ·rw[cU (by simpa using h1),iF,aO h1]at hv;simp at hv;subst hv;exact .any _
     ·rw[dA (by simp;omega),nY]at hv;obtain⟨u',hu',hr'⟩:=h9 _ _ hv;have hjl:j-off'<cs.length:=(bM.1 hv).1;have e1:w.cell? ⟨b,o+i*K.sz c+off'+(j-off'),none⟩=some u:=by
       simp only[World.cell?,hblk,Option.bind_eq_bind];simp only[bW,dI,fe]at hu;rw[aO (by omega)]at hu;have e2:o+i*K.sz c+off'+(j-off')=o+i*K.sz c+j:=by omega
       rw[e2];simpa using hu
      rw[e1]at hu';cases hu';exact hr'
    obtain⟨u,hu,hr⟩:=uY (o:=o+i*K.sz c) (b:=b) htk (qi hblk _ _) hM;exact⟨u,by simpa [Instr.loadAt,Instr.sureAddr]using hu,hr⟩
   ·cases h
  ·cases h
 ·cases h
theorem ej{P:Program}{t:TypeId}{d:TypeDesc}(h:P.underlying t=some d):(underlying t).run P w=.ok d w:=by simp[underlying,h]
theorem V5{P:Program}{s:TypeId}{f:Nat}{x v:AV K}{X:Value}(h:DI P s f x=some v)(hx:Rep D ρ S w x X):
 ∃u,(Instr.fieldAt s X f).run P w=.ok u w/\Rep D ρ S w v u:=by
 unfold DI at h;split at h
 ·rename_i fd hf;unfold zL at hf;split at hf
  ·rename_i fs hu;split at h
   ·rename_i n hn;have key:∀a:Addr,a.spot=none->(Instr.fieldAt s (.pointer (some a)) f).run P w=.ok (.pointer (some (a.add fd.offset))) w:=fun a ha=>by
     simp[Instr.fieldAt,ej hu,hf,Instr.sureAddr,fieldPlace,jg hn]
    split at h
    ·simp only[aj]at h;subst h;obtain⟨b,rfl,hb⟩:=uW hx;exact⟨_,key _ rfl,by rw[add_plain];exact .ptr hb⟩
    ·simp only[aj]at h;subst h;cases hx with
     |rp vs hS hl hc hr=>exact⟨_,key _ rfl,by rw[add_plain,iI];exact .rp vs hS hl hc hr⟩
    ·simp only[aj]at h;subst h;obtain⟨b,o,n,cp,rfl,hb,hi⟩:=nq hx;exact⟨_,key _ rfl,by rw[add_plain,iI];exact .ep hb hi⟩
    ·cases h
   ·cases h
  ·cases hf
 ·cases h
theorem xd{n:Int}{len:Nat}(h:inB n len=true):0<=n/\n<len/\n.toNat<len:=by
 simp[inB]at h;omega
theorem V6{P:Program}{H:List (Ob K)}(hD:bu D)(hs:aK D ρ S w H){t:TypeId}{x i v:AV K}{c:Bool}{X I:Value}(h:DJ P H t x i=some (v,c))(hc:c=true)
 (hx:Rep D ρ S w x X) (hi:Rep D ρ S w i I):∃u,(Instr.indexAt t X I).run P w=.ok u w/\Rep D ρ S w v u:=by
 unfold DJ at h;split at h
 ·rename_i e k n he;obtain rfl:=fi hi;unfold elemOf? at he;split at he
  ·rename_i e' hu;simp only[aj]at he;subst he;have key:∀(a:Addr)(len cap sz:Nat),dn P e'=some sz->inB n len=true->(Instr.indexAt t (.slice (some a) len cap) (.int k n)).run P w=.ok (.pointer (some (a.add (n.toNat*sz)))) w:=fun a len cap sz hsz hb=>by
    obtain⟨h1,h2,-⟩:=xd hb;simp[Instr.indexAt,asIntOf,ej hu,jg hsz,h1,h2]
   split at h
   ·rename_i cc l;split at h
    ·rename_i hsz;simp only[aj,aF]at h;obtain⟨rfl,rfl⟩:=h;obtain⟨-,-,hlt⟩:=xd hc;cases hx with
     |eP a cap=>simp at hlt
     |ax val hS hcap hl hca hr=>
      have hg:=getD_some (K.zero cc) hlt;exact⟨_,key _ _ _ _ hsz hc,by rw[add_plain];exact .rp (off:=0) (val n.toNat) hS (hl _ _ hg) (hca _ hlt) (hr _ _ hg)⟩
    ·cases h
   ·rename_i hh;split at h
    ·rename_i cc l hob;split at h
     ·rename_i hsz;simp only[aj,aF]at h;obtain⟨rfl,rfl⟩:=h;obtain⟨-,-,hlt⟩:=xd hc;obtain⟨hb,-⟩:=jx hx;rcases rV hs hob hb with⟨rfl,rfl⟩|⟨b,o,cap,vs,T,fr,rfl,hblk,⟨hcap,dL⟩,hsz',hfr,hall⟩
      ·simp at hlt
      ·exact⟨_,key _ _ _ _ hsz hc,by rw[add_plain];exact .ep (off:=0) hb hlt⟩
     ·cases h
    ·rename_i cc l hob;split at h
     ·rename_i hsz;simp only[aj,aF]at h;obtain⟨rfl,rfl⟩:=h;obtain⟨-,-,hlt⟩:=xd hc;obtain⟨hb,-⟩:=jx hx;have hT:Tree D w cc l X:=hs.ob _ _ _ hob hb;cases hT with
      |nil=>simp at hlt
      |mk=>exact⟨_,key _ _ _ _ hsz hc,by rw[add_plain];exact .ep (off:=0) hb hlt⟩
     ·cases h
    ·cases h
   ·cases h
  ·cases he
 ·cases h
theorem qj{lo hi:Int}{len:Nat}(h:bT lo hi len=true):0<=lo/\lo<=hi/\hi<=len:=by
 simp[bT]at h;omega
inductive ow (D:bg K) (ρ:List Value) (S:Nat->Prop) (w:World):Option (AV K)->Option Value->Prop
 |none:ow D ρ S w none none
 |some {x:AV K} {X:Value} (h:Rep D ρ S w x X):ow D ρ S w (some x) (some X)
theorem Ae{P:Program}{k:IntKind}{n:Int}{y:Nat}{code:BoundsCode}(h:0<=n)(h':n<=y):(Instr.sliceBound (.int k n) y code).run P w=.ok n.toNat w:=by
 simp[Instr.sliceBound,asIntOf,h,h']
theorem D6{d:Int}{x:AV K}{n:Int}{X:Value}(h:jf d (some x)=some n)(hx:Rep D ρ S w x X):∃k,X=.int k n:=by
 cases x<;>simp[jf]at h;subst h;exact⟨_,fi hx⟩
theorem ml{P:Program}{isS:Bool}{len cap:Nat}{lo hi:Option (AV K)}{LO HI:Option Value}{l h:Int}
 (hl:jf 0 lo=some l) (hh:jf len hi=some h) (hlo:ow D ρ S w lo LO) (hhi:ow D ρ S w hi HI) (h1:0<=l) (h2:l<=h) (h3:h<=len) (hcap:len<=cap):
 (Instr.sliceBounds isS len cap LO HI none).run P w=.ok (l.toNat,h.toNat,cap) w:=by
 have e0:(l:Int)<=(h.toNat:Nat):=by omega
 have e1:h<=(cap:Nat):=by omega
 cases hlo with
 |none=>
  simp[jf]at hl;subst hl;cases hhi with
  |none=>simp[jf]at hh;subst hh;simp[Instr.sliceBounds]
  |some hx=>
   obtain⟨k,rfl⟩:=D6 hh hx;simp[Instr.sliceBounds,Ae (by omega:0<=h) e1]
 |some hy=>
  obtain⟨k',rfl⟩:=D6 hl hy;cases hhi with
  |none=>
   simp[jf]at hh;subst hh;have:=Ae (P:=P) (w:=w) (k:=k') (code:=.sliceB) h1 (by omega:l<=(len:Nat));simp[Instr.sliceBounds,this]
  |some hx=>
   obtain⟨k,rfl⟩:=D6 hh hx;simp[Instr.sliceBounds,Ae (by omega:0<=h) e1,Ae h1 e0]
theorem Ja(s:List UInt8)(a b:Nat):(ByteArray.mk s.toArray).extract a b=⟨((s.take b).drop a).toArray⟩:=by
 rw[Lib.extract_eq];simp[List.drop_take]
theorem Jb{c:K.U}{l:List (K.El c)}{a a':Option Addr}{n cp lo hi c':Nat}(h:Rep D ρ S w (.ax c l) (.slice a n cp))(h1:lo<=hi)(h2:hi<=n)(ha:hi-lo=0\/∃b o,a=some ⟨b,o,none⟩/\a'=some ⟨b,o+lo*K.sz c,none⟩/\hi-lo<=c'):
 Rep D ρ S w (.ax c ((l.take hi).drop lo)) (.slice a' (hi-lo) c'):=by
 rcases ha with h0|⟨b,o,rfl,rfl,hc⟩
 ·have:(l.take hi).drop lo=[]:=kU (by simp;omega);rw[this,h0];exact .eP _ _
 ·by_cases h0:hi-lo=0
  ·have:(l.take hi).drop lo=[]:=kU (by simp;omega);rw[this,h0];exact .eP _ _
  ·cases h with
   |eP=>omega
   |ax val hS hcap hl' hca hr=>
    have hlen:((l.take hi).drop lo).length=hi-lo:=by simp;omega
    have hget:∀i x,((l.take hi).drop lo)[i]?=some x->l[lo+i]?=some x:=fun i x hi=>by
     simp only[fe,dI]at hi;split at hi
     ·exact hi
     ·simp at hi
    rw[<-hlen];exact .ax (fun i=>val (lo+i)) hS (by rw[hlen];omega) (fun i x hi=>hl' _ _ (hget i x hi))
     (fun i hi=>by
       have:=hca (lo+i) (by rw[hlen]at hi;omega)
       rwa [dx,<-iI]at this)
     (fun i x hi=>hr _ _ (hget i x hi))
theorem Jc{H:List (Ob K)}(hs:aK D ρ S w H){h:Nat}{c:K.U}{l:List (K.El c)}{a:Option Addr}{n cp:Nat}(ho:H[h]?=some (.arr c l)\/H[h]?=some (.tree c l))(hp:ρ[h]?=some (.slice a n cp)):
 (a=none/\n=0/\cp=0/\l=[])\/∃b o,a=some ⟨b,o,none⟩/\n=l.length/\l.length<=cp:=by
 rcases ho with ho|ho
 ·rcases hs.ob _ _ _ ho hp with⟨e,rfl⟩|⟨b,o,cap,vs,T,fr,e,-,⟨hcap,-⟩,-⟩
  ·cases e;exact .inl ⟨rfl,rfl,rfl,rfl⟩
  ·cases e;exact .inr ⟨b,o,rfl,rfl,hcap⟩
 ·have hT:Tree D w c l (.slice a n cp):=hs.ob _ _ _ ho hp;cases hT with
  |nil=>exact .inl ⟨rfl,rfl,rfl,rfl⟩
  |mk hb hcap=>exact .inr ⟨_,_,rfl,rfl,hcap.1⟩
theorem V7{P:Program}{H:List (Ob K)}(hs:aK D ρ S w H){t:TypeId}{x v:AV K}{lo hi:Option (AV K)}{c:Bool}{X:Value}{LO HI:Option Value}
 (h:DL P H t x lo hi=some (v,c)) (hc:c=true) (hx:Rep D ρ S w x X) (hlo:ow D ρ S w lo LO) (hhi:ow D ρ S w hi HI):
 ∃u,(Instr.sliceAt t X LO HI none).run P w=.ok u w/\Rep D ρ S w v u:=by
 have key:∀{e:TypeId}{hh:Nat}{cc:K.U}{l:List (K.El cc)}{a n cp}{x1 x2:Int},elemOf? P t=some e->ρ[hh]?=some (.slice a n cp)->(H[hh]?=some (.arr cc l)\/H[hh]?=some (.tree cc l))->dn P e=some (K.sz cc)->jf 0 lo=some x1->jf l.length hi=some x2->bT x1 x2 l.length=true->
  ∃u,(Instr.sliceAt t (.slice a n cp) LO HI none).run P w=.ok u w/\Rep D ρ S w (.vw hh (K.sz cc) x1.toNat x2.toNat) u:=fun{e hh cc l a n cp x1 x2} ht hp ho hsz hl hh' hb=>by
  have hu:P.underlying t=some (.slice e):=by
   unfold elemOf? at ht;split at ht
   ·rename_i hh;cases ht;exact hh
   ·cases ht
  obtain⟨h1,h2,h3⟩:=qj hb;rcases Jc hs ho hp with⟨rfl,rfl,rfl,rfl⟩|⟨b,o,rfl,rfl,hcap⟩
  ·have:=ml (P:=P) (isS:=true) (len:=0) (cap:=0) (w:=w) hl hh' hlo hhi h1 h2 h3 (bH _);refine⟨.slice none (x2.toNat-x1.toNat) (0-x1.toNat),by simp[Instr.sliceAt,Instr.slice,ej hu,jg hsz,this],.vw hp (by omega) (by simp at h3;omega) (.inl (by simp at h3;omega))⟩
  ·have:=ml (P:=P) (isS:=true) (len:=l.length) (cap:=cp) (w:=w) hl hh' hlo hhi h1 h2 h3 hcap;refine⟨.slice (if cp=x1.toNat then some ⟨b,o,none⟩else some ⟨b,o+x1.toNat*K.sz cc,none⟩) (x2.toNat-x1.toNat) (cp-x1.toNat),by simp[Instr.sliceAt,Instr.slice,ej hu,jg hsz,this],.vw hp (by omega) (by omega) ?_⟩;by_cases h0:x2.toNat-x1.toNat=0
   ·exact .inl h0
   ·exact .inr ⟨b,o,rfl,by rw[aX (by omega)],by omega⟩
 unfold DL at h;split at h
 ·rename_i e hh ht;obtain⟨hp,a,n,cp,rfl⟩:=jx hx;split at h
  ·rename_i cc l ho;split at h
   ·rename_i hsz;split at h
    ·rename_i x1 x2 hl hh';simp only[aj,aF]at h;obtain⟨rfl,rfl⟩:=h;exact key ht hp (.inl ho) hsz hl hh' hc
    ·cases h
   ·cases h
  ·rename_i cc l ho;split at h
   ·rename_i hsz;split at h
    ·rename_i x1 x2 hl hh';simp only[aj,aF]at h;obtain⟨rfl,rfl⟩:=h;exact key ht hp (.inr ho) hsz hl hh' hc
    ·cases h
   ·cases h
  ·cases h
 ·cases h
theorem V8{P:Program}{H:List (Ob K)}(hD:bu D)(hs:aK D ρ S w H){t:TypeId}{x v:AV K}{lo hi:Option (AV K)}{c:Bool}{X:Value}{LO HI:Option Value}
 (h:DK P t x lo hi=some (v,c)) (hc:c=true) (hx:Rep D ρ S w x X) (hlo:ow D ρ S w lo LO) (hhi:ow D ρ S w hi HI):
 ∃u,(Instr.sliceAt t X LO HI none).run P w=.ok u w/\Rep D ρ S w v u:=by
 unfold DK at h;split at h
 ·rename_i s hu;obtain rfl:=iq hx;split at h
  ·rename_i l hh' hl hh;simp only[aj,aF]at h;obtain⟨rfl,rfl⟩:=h;obtain⟨h1,h2,h3⟩:=qj hc;refine⟨_,?_,.str _⟩;have:=ml (P:=P) (isS:=false) (len:=s.length) (cap:=s.length) hl hh hlo hhi h1 h2 h3 (bH _);simp[Instr.sliceAt,Instr.slice,ej hu,uX,this,Ja]
  ·cases h
 ·rename_i e cc s hu;split at h
  ·rename_i hsz;split at h
   ·rename_i l hh' hl hh;simp only[aj,aF]at h;obtain⟨rfl,rfl⟩:=h;obtain⟨h1,h2,h3⟩:=qj hc;have hlen:((s.take hh'.toNat).drop l.toNat).length=hh'.toNat-l.toNat:=by simp;omega
    cases hx with
    |eP a cap=>
     have:=ml (P:=P) (isS:=true) (len:=0) (cap:=cap) hl hh hlo hhi h1 h2 h3 (eY _);refine⟨_,by simp[Instr.sliceAt,Instr.slice,ej hu,jg hsz,this];rfl,?_⟩;have:hh'.toNat-l.toNat=0:=by simp at h3;omega
     simp only[List.take_nil,List.drop_nil];rw[this];exact .eP _ _
    |ax val hS hcap hl' hca hr=>
     rename_i b o cap;have hb:=ml (P:=P) (isS:=true) (len:=s.length) (cap:=cap) hl hh hlo hhi h1 h2 h3 hcap;refine⟨.slice (if cap=l.toNat then some ⟨b,o,none⟩else some ⟨b,o+l.toNat*K.sz cc,none⟩) (hh'.toNat-l.toNat) (cap-l.toNat),?_,?_⟩
     ·simp[Instr.sliceAt,Instr.slice,ej hu,jg hsz,hb]
     ·rw[<-hlen];by_cases h0:(s.take hh'.toNat).drop l.toNat=[]
      ·rw[h0];exact .eP _ _
      ·have hne:0<hh'.toNat-l.toNat:=by rw[<-hlen];exact List.length_pos_iff.2 h0
       rw[aX (by omega)];have hget:∀i x,((s.take hh'.toNat).drop l.toNat)[i]?=some x->s[l.toNat+i]?=some x:=fun i x hi=>by
        simp only[fe,dI]at hi;split at hi
        ·exact hi
        ·simp at hi
       exact .ax (fun i=>val (l.toNat+i)) hS (by rw[hlen];omega) (fun i x hi=>hl' _ _ (hget i x hi))
        (fun i hi=>by
          have:=hca (l.toNat+i) (by rw[hlen]at hi;omega)
          rwa [dx,<-iI]at this)
        (fun i x hi=>hr _ _ (hget i x hi))
   ·cases h
  ·cases h
 ·cases h
def SliceAt(D:bg K)(ρ:List Value)(S:Nat->Prop)(w:World)(c:K.U)(l:List (K.El c))(X:Value):Prop:=
 ∃a cap,X=.slice a l.length cap/\(l≠[]->∃b o,a=some ⟨b,o,none⟩/\∀i x,l[i]?=some x->∃vs,vs.length=K.sz c/\gC w b (o+i*K.sz c) vs/\aW D ρ S w (D.cells c x) vs)
theorem Jd(hD:bu D){c:K.U}{l:List (K.El c)}{X:Value}(h:Rep D ρ S w (.ax c l) X):SliceAt D ρ S w c l X:=by
 cases h with
 |eP a cap=>exact⟨a,cap,rfl,fun h=>absurd rfl h⟩
 |ax val hS hcap hl hc hr=>
  exact⟨_,_,rfl,fun _=>⟨_,_,rfl,fun i x hx=>⟨val i,by rw[hl i x hx,hD.len],hc i (bM.1 hx).1,(hl i x hx).symm,hr i x hx⟩⟩⟩
theorem Je(hD:bu D){H:List (Ob K)}(hs:aK D ρ S w H){h:Nat}{c:K.U}{l:List (K.El c)}{X:Value}(ho:H[h]?=some (.arr c l))(hp:ρ[h]?=some X):SliceAt D ρ S w c l X:=by
 rcases rV hs ho hp with⟨rfl,rfl⟩|⟨b,o,cap,vs,T,fr,rfl,hblk,⟨hcap,dL⟩,hsz,hfr,hall⟩
 ·exact⟨none,0,rfl,fun h=>absurd rfl h⟩
 ·refine⟨_,_,rfl,fun _=>⟨b,o,rfl,fun i x hx=>⟨bW vs (o+i*K.sz c) (K.sz c),?_,qi hblk _ _,hall i x hx⟩⟩⟩;rw[<-(hall i x hx).1,hD.len]
theorem Jf(hD:bu D){H:List (Ob K)}(hs:aK D ρ S w H){c:K.U}{x:AV K}{l:List (K.El c)}{X:Value}(h:elems H c x=some l)(hx:Rep D ρ S w x X):SliceAt D ρ S w c l X:=by
 unfold elems at h;split at h
 ·simp only[aj]at h;subst h;cases hx;exact⟨none,0,rfl,fun h=>absurd rfl h⟩
 ·rename_i c' l';cases hd:K.je c' c with
  |isFalse hn=>simp[hd]at h
  |isTrue he=>subst he;simp[hd]at h;subst h;exact Jd hD hx
 ·rename_i hh;split at h
  ·rename_i c' l' hob;cases hd:K.je c' c with
   |isFalse hn=>simp[hd]at h
   |isTrue he=>subst he;simp[hd]at h;subst h;exact Je hD hs hob (jx hx).1
  ·cases h
 ·cases h
theorem Jg{P:Program}{t ty e:TypeId}(ht:P.underlying t=some (.slice e)){c:K.U}{l:List (K.El c)}{X:Value}(h:SliceAt D ρ S w c l X):
 (Builtin.len_ #[t] ty #[X]).run P w=.ok (.int .i64 (l.length:Int)) w:=by
 obtain⟨a,cap,rfl,-⟩:=h;simp[Builtin.len_,ej ht,goInt]
theorem bytes_at(hD:bu D){c:K.U}{f:K.El c->UInt8}{g:UInt8->K.El c}(hb:D.byte c=some (f,g)){l:List (K.El c)}{a:Option Addr}{n cap:Nat}(h:SliceAt D ρ S w c l (.slice a n cap))(hne:l≠[]):
 n=l.length/\∃b o,a=some ⟨b,o,none⟩/\∀i,i<l.length->w.cell? ⟨b,o+i,none⟩=some (.int .u8 (((l.map f).map fun b=>(b.toNat:Int)).getD i 0)):=by
 obtain⟨a',cap',e,h⟩:=h;simp only[Value.slice.injEq]at e;obtain⟨rfl,rfl,rfl⟩:=e;obtain⟨b,o,rfl,h2⟩:=h hne;refine⟨rfl,b,o,rfl,fun i hi=>?_⟩;obtain⟨vs,hlen,hc,hr⟩:=h2 i l[i] (bY hi);have h1:K.sz c=1:=by rw[<-hD.len c l[i],(hD.byte c f g hb).1];rfl
 rw[h1,nZ]at hc;rw[(hD.byte c f g hb).1]at hr;obtain⟨x,r,rfl,hx,-⟩:=hr.hJ;have:=hc 0 x rfl;rw[Nat.add_zero]at this;rw[this,fi hx];simp[List.getD,hi]
theorem V9{P:Program}(hD:bu D){src dst e:TypeId}(h1:P.underlying src=some (.slice e))(h2:P.underlying dst=some .string)(h3:P.underlying e=some (.int .u8))
 {c:K.U} {f:K.El c->UInt8} {g:UInt8->K.El c} (hb:D.byte c=some (f,g)) {l:List (K.El c)} {X:Value} (h:SliceAt D ρ S w c l X):
 (convert src dst X).run P w=.ok (.string ⟨(l.map f).toArray⟩) w:=by
 obtain⟨a,cap,rfl,h'⟩:=h;by_cases hne:l=[]
 ·subst hne;cases a with
  |none=>rw[Go.run_convert_bytes_nil w src e h1 h3 _ _ dst h2];rfl
  |some a=>rw[run_convert_bytes_string w src dst e _ _ _ h1 h3 h2];simp[Conv.bytesToString,loadCells,loadCellsFrom,ByteArray.empty,ByteArray.emptyWithCapacity];rfl
 ·obtain⟨-,b,o,rfl,hc⟩:=bytes_at hD hb ⟨a,cap,rfl,h'⟩ hne;rw[run_convert_bytes_arg w src e h1 h3 b o l.length cap ((l.map f).map fun b=>(b.toNat:Int)) (by simp) hc dst h2];congr 2;apply ByteArray.ext;simp[strOfNums,List.map_map]
theorem Jh{P:Program}{k:IntKind}{a b:Int}{ats:Array TypeId}{ty:TypeId}:
 (Builtin.min_ ats ty #[.int k a,.int k b]).run P w=.ok (.int k (cond (decide (b<a)) b a)) w/\(Builtin.max_ ats ty #[.int k a,.int k b]).run P w=.ok (.int k (cond (decide (a<b)) b a)) w:=by
 constructor
 ·simp[Builtin.min_,Builtin.min2,List.foldlM]
 ·simp[Builtin.max_,Builtin.max2,List.foldlM]
theorem Ji{ev:Operand->AV K}{ρe:Operand->Value}(h:∀x,Rep D ρ S w (ev x) (ρe x))(l:List Operand):aW D ρ S w (l.map ev) (l.map ρe):=
 ⟨by simp,fun i v x hv hx=>by
   simp only[gP,eN]at hv hx;obtain⟨o,ho,rfl⟩:=hv;obtain⟨o',ho',rfl⟩:=hx;rw[ho]at ho';simp at ho';subst ho';exact h o⟩
theorem Af{ev:Operand->AV K}{ρe:Operand->Value}(h:∀x,Rep D ρ S w (ev x) (ρe x))(o:Option Operand):ow D ρ S w (o.map ev) (o.map ρe):=by
 cases o with
 |none=>exact .none
 |some x=>exact .some (h x)
theorem jY{α:Type}{P:Program}{x:Sem α}{f:α->Next}{a:α}(h:x.run P w=.ok a w):(do pure (f (<-x)):Sem Next).run P w=.ok (f a) w:=by simp[h]
end Go.V
namespace Go.V
open Go
variable {K :cK}{ρ:List Value}{S:Nat->Prop}{w:World}
theorem Jj{cx:Cx K}{H:List (Ob K)}(hD:bu cx.D)(hs:aK cx.D ρ S w H){ev:Operand->AV K}{ρe:Operand->Value}(hev:∀x,Rep cx.D ρ S w (ev x) (ρe x)){o:Oper}{v:AV K}{c:Bool}
 (h:rB cx ev H o.op=some (v,c)) (hc:c=true):∃u,(execOp ρe o).run cx.P w=.ok (.value u) w/\Rep cx.D ρ S w v u:=by
 unfold rB at h;unfold execOp;split at h
 all_goals first|(cases h;done)|(rename_i hop;rw[hop];dsimp only)
 ·
  simp only[aj,aF]at h;obtain⟨rfl,rfl⟩:=h;exact⟨_,rfl,hev _⟩
 ·simp only[aj,aF]at h;obtain⟨rfl,rfl⟩:=h;exact⟨_,rfl,hev _⟩
 ·
  obtain⟨u,hu,hr⟩:=V1 h hc (hev _) (hev _);exact⟨u,jY (f:=.value) hu,hr⟩
 ·
  obtain⟨u,hu,hr⟩:=V2 (P:=cx.P) h (hev _);exact⟨u,jY (f:=.value) hu,hr⟩
 ·
  rename_i src dst x;have hx:=hev x;split at h
  ·rename_i d k k' n hsrc hd he;rw[he]at hx;simp only[aj,aF]at h;obtain⟨rfl,rfl⟩:=h;rw[fi hx];refine⟨_,jY (f:=.value) (a:=.int k (k.wrap n)) ?_,.int _ _⟩;simp[convert,ej hd,ej hsrc,Conv.intToInt]
  ·rename_i d s hsrc hd he;rw[he]at hx;simp only[aj,aF]at h;obtain⟨rfl,rfl⟩:=h;rw[iq hx];refine⟨_,jY (f:=.value) (a:=.string ⟨s.toArray⟩) ?_,.str _⟩;simp[convert,ej hd,ej hsrc]
  ·rename_i e h1 h2 hns;split at h
   ·rename_i cc h3 hty;split at h
    ·rename_i f g l hb hl;simp only[aj,aF]at h;obtain⟨rfl,rfl⟩:=h;exact⟨_,jY (f:=.value) (V9 hD h1 h2 h3 hb (Jf hD hs hl hx)),.str _⟩
    ·cases h
   ·cases h
  ·cases h
 ·
  rename_i t i;have hx:=hev t;split at h
  ·rename_i l he;rw[he]at hx;simp only[eN,aF]at h;obtain⟨y,hy,rfl,rfl⟩:=h;generalize ρe t=X at hx⊢;cases hx with
   |bk hl hr=>
    rename_i vs;have hi:i<vs.length:=by rw[<-hl];exact(bM.1 hy).1
    refine⟨vs[i],jY (f:=.value) ?_,hr i y _ hy (bY hi)⟩;simp[Instr.extract,hi]
  ·cases h
 ·
  rename_i s x f;simp only[eN,aF]at h;obtain⟨y,hy,rfl,rfl⟩:=h;obtain⟨u,hu,hr⟩:=V5 hy (hev x);exact⟨u,jY (f:=.value) hu,hr⟩
 ·
  rename_i s x f;split at h
  ·rename_i fd cs hf he;simp only[eN,aF]at h;obtain⟨y,hy,rfl,rfl⟩:=h;have hx:=hev x;rw[he]at hx;generalize ρe x=X at hx⊢;cases hx with
   |agg hl hr=>
    rename_i vs;obtain⟨u,hu,hr'⟩:=D2 (P:=cx.P) (vs:=vs.toArray) hy ⟨by simpa using hl,by simpa using hr⟩;refine⟨u,jY (f:=.value) ?_,hr'⟩;unfold zL at hf;split at hf
    ·rename_i fs hu';simp[Instr.field,ej hu',hf,asAgg,hu]
    ·cases hf
  ·cases h
 ·
  rename_i t p;split at h
  ·rename_i y hy;simp only[aj,aF]at h;obtain⟨rfl,rfl⟩:=h;obtain⟨u,hu,hr⟩:=I9 hD hs hy (hev p);exact⟨u,jY (f:=.value) hu,hr⟩
  ·subst hc;obtain⟨u,hu,hr⟩:=V4 hD hs h (hev p);exact⟨u,jY (f:=.value) hu,hr⟩
 ·
  rename_i t x i;obtain⟨u,hu,hr⟩:=V6 hD hs h hc (hev x) (hev i);exact⟨u,jY (f:=.value) hu,hr⟩
 ·
  rename_i t x i;have hx:=hev x;have hi:=hev i;split at h
  ·rename_i s k n hu he hi';rw[he]at hx;rw[hi']at hi;simp only[aj,aF]at h;obtain⟨rfl,rfl⟩:=h;rw[iq hx,fi hi];obtain⟨h1,h2,h3⟩:=xd hc;refine⟨_,jY (f:=.value) (a:=.int .u8 ((s.getD n.toNat 0).toNat:Int)) ?_,.int _ _⟩;have hg:(ByteArray.mk s.toArray)[n.toNat]?=some (s.getD n.toNat 0):=by
    rw[getElem?_pos (c:=ByteArray.mk s.toArray) (i:=n.toNat) (h:=by simpa [ByteArray.size]using h3)];simp[List.getD,h3,ByteArray.getElem_eq_getElem_data]
   simp[Instr.index,asIntOf,ej hu,h1,hg]
  ·cases h
 ·
  rename_i t x lo hi;split at h
  ·rename_i r hr0;simp only[aj]at h;subst h;obtain⟨u,hu,hr⟩:=V8 hD hs hr0 hc (hev x) (Af hev lo) (Af hev hi);exact⟨u,jY (f:=.value) hu,hr⟩
  ·split at h
   ·obtain⟨u,hu,hr⟩:=V7 hs h hc (hev x) (Af hev lo) (Af hev hi);exact⟨u,jY (f:=.value) hu,hr⟩
   ·cases h
 ·
  rename_i x;have hx:=hev x;split at h
  ·rename_i hh o he;simp only[aj,aF]at h;obtain⟨rfl,rfl⟩:=h;rw[he]at hx;obtain⟨b,e,hb⟩:=uW hx;rw[e];exact⟨_,rfl,.ptr hb⟩
  ·rename_i c' y o he;simp only[aj,aF]at h;obtain⟨rfl,rfl⟩:=h;rw[he]at hx;obtain⟨b,o',vs,e,-⟩:=I2 hx;rw[e]at hx⊢;exact⟨_,rfl,hx⟩
  ·rename_i hh s i o he;simp only[aj,aF]at h;obtain⟨rfl,rfl⟩:=h;rw[he]at hx;obtain⟨b,o',n,cp,e,hb,hi⟩:=nq hx;rw[e]at hx⊢;exact⟨_,rfl,hx⟩
  ·cases h
 ·
  rename_i f first caps
  split at h
  ·rename_i hf;simp only[aj,aF]at h;obtain⟨rfl,rfl⟩:=h;have h0:first= #[]:=by simpa using hf
   subst h0;have:=Ji hev caps.toList;refine⟨_,jY (f:=.value) (a:=.func (.func f) #[] (caps.toList.map ρe).toArray) ?_,.fn this.1 this.2⟩;simp[Instr.makeFunc];cases caps;simp
  ·cases h
 ·
  rename_i args argTypes;split at h
  ·rename_i x t hx ht;have hxx:=hev x;have ea:args= #[x]:=by rw[<-Array.toArray_toList (xs:=args),hx]
   have et:argTypes= #[t]:=by rw[<-Array.toArray_toList (xs:=argTypes),ht]
   subst ea;subst et;have key:∀(n:Nat),(Builtin.len_ #[t] o.type #[ρe x]).run cx.P w=.ok (.int .i64 (n:Int)) w->
    ((do let d<-resolve ρe {callee:=.builtin .len,args:= #[x],argTypes:= #[t]} o.type;invoke d.target d.args:Sem Next)).run cx.P w=.ok (.value (.int .i64 (n:Int))) w:=fun n hn=>by
    simp[resolve,invoke,builtin,hn]
   split at h
   ·rename_i s hu he;rw[he]at hxx;simp only[aj,aF]at h;obtain⟨rfl,rfl⟩:=h;exact⟨_,key _ (by rw[iq hxx];simp[Builtin.len_,ej hu,goInt,uX]),.int _ _⟩
   ·rename_i e hu he;rw[he]at hxx;simp only[aj,aF]at h;obtain⟨rfl,rfl⟩:=h;refine⟨_,key 0 ?_,.int _ _⟩;generalize ρe x=X at hxx⊢;cases hxx;simp[Builtin.len_,ej hu,goInt]
   ·rename_i e c' l hu he;rw[he]at hxx;simp only[aj,aF]at h;obtain⟨rfl,rfl⟩:=h;exact⟨_,key _ (Jg hu (Jd hD hxx)),.int _ _⟩
   ·rename_i e v1 v2 v3 v4 hu he;rw[he]at hxx;simp only[aj,aF]at h;obtain⟨rfl,rfl⟩:=h;refine⟨_,key (v4-v3) ?_,.int _ _⟩;generalize ρe x=X at hxx⊢;cases hxx;simp[Builtin.len_,ej hu,goInt]
   ·rename_i e hh hu he;rw[he]at hxx;split at h
    ·rename_i c' l hob;simp only[aj,aF]at h;obtain⟨rfl,rfl⟩:=h;exact⟨_,key _ (Jg hu (Je hD hs hob (jx hxx).1)),.int _ _⟩
    ·rename_i c' l hob;simp only[aj,aF]at h;obtain⟨rfl,rfl⟩:=h;have hT:Tree cx.D w c' l (ρe x):=hs.ob _ _ _ hob (jx hxx).1;obtain⟨a,cp,e⟩:=zX hT;exact⟨_,key _ (by rw[e];simp[Builtin.len_,ej hu,goInt]),.int _ _⟩
    ·cases h
   ·cases h
  ·cases h
 all_goals
  rename_i args argTypes;split at h
  ·rename_i x y hxy;have hxx:=hev x;have D7:=hev y;have ea:args= #[x,y]:=by rw[<-Array.toArray_toList (xs:=args),hxy]
   subst ea;split at h
   ·rename_i k a k' b he1 he2;rw[he1]at hxx;rw[he2]at D7;split at h
    ·rename_i hk;subst hk;simp only[aj,aF]at h;obtain⟨rfl,rfl⟩:=h
     first
      |(refine⟨_,?_,.int _ _⟩;simp[resolve,invoke,builtin,fi hxx,fi D7,Jh.1];done)
      |(refine⟨_,?_,.int _ _⟩;simp[resolve,invoke,builtin,fi hxx,fi D7,Jh.2];done)
    ·cases h
   ·cases h
  ·cases h
end Go.V
