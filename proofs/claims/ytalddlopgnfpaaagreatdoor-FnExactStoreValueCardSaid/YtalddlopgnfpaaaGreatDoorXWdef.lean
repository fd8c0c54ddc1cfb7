/-
  A VALUE-LEVEL READING OF THE LOADED CODE: abstract values, objects, operations, and a function 'execC' that runs a body on them. Nothing here speaks of one program: the program is a parameter. The proofs that what it yields is what the machine does are in the texts that follow.
-/
import Derived.WalkKit
import Derived.KernelRfl
import Derived.Orders
universe u v
abbrev ak := @Option.some.injEq
abbrev bg := @List.getElem?_eq_some_iff
abbrev aS := @Prod.mk.injEq
theorem aR{α:Type u}{a:α}:(some a).isSome=true:=rfl
theorem aC{α:Type u}{a b:α}:(some a).getD b=a:=rfl
abbrev aU := @Bool.and_eq_true
abbrev bI := @List.getElem?_eq_getElem
abbrev aQ := @Bool.and_true
abbrev cu := @List.getElem?_append_left
abbrev aZ := @decide_eq_true_eq
abbrev bD := @decide_eq_true
abbrev aB := @List.getElem?_append_right
theorem cE{α:Sort u}(a b:α):(bif true then a else b)=a:=rfl
abbrev bH := @if_neg
abbrev an := @List.getElem_mem
theorem bP(n:Nat):(n:Int).toNat=n:=rfl
abbrev bG := @if_pos
abbrev av := @decide_eq_false
theorem aW{α:Sort u}(a b:α):(bif false then a else b)=b:=rfl
abbrev bn := @Nat.le_refl
theorem bY{α:Type u}{a:α}{as:List α}:(a::as).length=as.length+1:=rfl
abbrev cG := @List.getElem?_take
abbrev bL := @Nat.mul_le_mul_right
abbrev c9 := @Bool.true_and
abbrev dB := @Option.map_eq_some_iff
abbrev dj := @List.length_append
abbrev fR := @List.getD_eq_getElem?_getD
abbrev cA := @List.eq_nil_of_length_eq_zero
abbrev hQ := @List.getElem?_drop
abbrev dW := @Array.getElem?_eq_some_iff
abbrev cz := @List.mem_append
abbrev gQ := @decide_true
abbrev dy := @Bool.true_or
abbrev gh := @List.getElem?_replicate
abbrev cI := @Nat.add_mul
abbrev dc := @List.length_replicate
abbrev gd := @List.mem_of_getElem?
abbrev fZ := @Nat.zero_add
abbrev di := @List.all_eq_true
abbrev eF := @Int.ofNat_lt
abbrev du := @Nat.lt_or_ge
abbrev eE := @Option.some.inj
abbrev fu := @List.getElem?_map
abbrev fC := @List.getElem?_set
abbrev dP := @List.mem_cons
abbrev fG := @decide_eq_decide
abbrev gq := @Bool.not_eq_true'
abbrev eB := @List.map_cons
abbrev lN := @Array.getD_eq_getD_getElem?
abbrev dM := @Nat.zero_le
abbrev iy := @Nat.eq_zero_or_pos
abbrev ns := @Array.getElem?_setIfInBounds
abbrev dX := @Nat.one_mul
abbrev hU := @List.length_take
abbrev jF := @List.mem_cons_of_mem
abbrev fN := @List.drop_zero
abbrev fh := @Bool.false_eq_true
abbrev jo := @List.mem_cons_self
abbrev jj := @beq_eq_false_iff_ne
abbrev jG := @Nat.add_assoc
abbrev fO := @Bool.not_true
abbrev fS := @List.append_assoc
abbrev ji := @Nat.lt_of_lt_of_le
abbrev jD := @Nat.not_lt_zero
abbrev iz := @Bool.or_eq_true
theorem iD{α:Type u}:([]:List α).length=0:=rfl
abbrev gP := @decide_eq_false_iff_not
abbrev fy := @List.getElem?_eq_none
abbrev mU := @Int.eq_ofNat_of_zero_le
abbrev lG := @Nat.le_trans
abbrev mR := @Bool.and_self
abbrev gj := @Bool.or_self
abbrev j9 := @List.drop_length
abbrev m7 := @List.getElem_of_mem
abbrev kD := @beq_self_eq_true
abbrev lF := @List.ext_getElem?
abbrev ei := @if_false
abbrev kF := @List.length_set
theorem jB{α:Type u}(as:List α):[]++as=as:=rfl
abbrev mQ := @List.size_toArray
abbrev si := @List.take_of_length_le
abbrev r5 := @Array.getElem?_eq_none
abbrev vu := @Array.getElem?_eq_getElem
abbrev mV := @List.append_nil
abbrev xP := @List.take_append_of_le_length
abbrev r6 := @Array.replicate_succ
abbrev fM := @congrArg
abbrev eO := @List.append_toArray
abbrev sc := @if_true
abbrev jI := @beq_iff_eq
abbrev nb := @Bool.or_false
abbrev lI := @Bool.or_true
abbrev sA := @List.mem_singleton
abbrev lB := @List.mem_map
abbrev sD := @Bool.false_ne_true
abbrev lD := @Nat.zero_mul
abbrev kJ := @Nat.mul_one
abbrev oy := @Bool.false_and
abbrev x6 := @List.pairwise_iff_getElem
abbrev vB := @List.contains_eq_mem
abbrev qq := @Bool.eq_iff_iff
abbrev r7 := @List.push_toArray
abbrev m8 := @Nat.sub_self
abbrev sj := @List.take_length
abbrev sw := @Bool.not_eq_true
abbrev yc := @Nat.eq_of_beq_eq_true
theorem ka{α:Type u}{β:Type v}(a:α)(f:α->β):Option.map f (some a)=some (f a):=rfl
abbrev se := @List.drop_drop
abbrev jC := @or_false
abbrev nc := @decide_not
abbrev BZ := @Array.getElem?_replicate
abbrev so := @List.mem_range
abbrev Bl := @Nat.testBit_or
abbrev vh := @Nat.add_comm
abbrev vV := @Nat.mul_comm
abbrev sd := @getElem!_pos
abbrev sx := @Bool.or_eq_false_iff
abbrev sE := @bne_iff_ne
abbrev BB := @List.nodup_cons
abbrev qh := @Bool.not_false
abbrev yd := @Bool.eq_false_iff
abbrev x8 := @Bool.false_or
abbrev A7 := @List.not_all_eq_any_not
abbrev nt := @Ne.symm
abbrev oh := @Iff.rfl
theorem qe{α:Type u}{a:α}{as bs:List α}:(a::as)++bs=a::(as++bs):=rfl
abbrev Gn := @List.take_add_one
abbrev Fo := @of_decide_eq_true
abbrev Bt := @decide_false
abbrev FN := @Nat.lt_succ_self
abbrev FB := @List.not_mem_nil
abbrev oI := @not_or
namespace Go.V
open Go
structure cy where
 U:Type
 El:U->Type
 iI:DecidableEq U
 sz:U->Nat
 zero:(c:U)->El c
inductive AV (K:cy) where
 |any
 |int (k:IntKind) (n:Int)
 |bool (b:Bool)
 |str (s:List UInt8)
 |cN
 |ca
 |fn (f:Nat) (caps:List (AV K))
 |ptr (h off:Nat)
 |sl (h:Nat)
 |ep (h st i off:Nat)
 |ar (c:K.U) (l:List (K.El c))
 |rp (c:K.U) (x:K.El c) (off:Nat)
 |agg (l:List (AV K))
 |aX (l:List (AV K))
 |opt (g:Nat) (want:Bool) (v:AV K)
 |np (h:Nat)
 |vw (h st lo hi:Nat)
inductive Ob (K:cy) where
 |dead
 |box (cells:List (AV K))
 |arr (c:K.U) (l:List (K.El c))
 |eZ (c:K.U) (l:List (K.El c))
 |tree (c:K.U) (l:List (K.El c))
 |opn (c:K.U) (l:List (K.El c)) (i off:Nat) (cs:List (AV K))
structure Base where
 inv:(Nat->Prop)->World->Prop
 mono:∀{S S':Nat->Prop}{w w':World},(∀b,S b->S' b)->(∀b,S b->w'.heap[b]?=w.heap[b]?)->inv S w->inv S' w'
def Base.To:Base:=⟨fun _ _=>True,fun _ _ h=>h⟩
structure aY (K:cy) where
 cells:(c:K.U)->K.El c->List (AV K)
 dec:(c:K.U)->List (AV K)->Option (K.El c×Bool)
 byte:(c:K.U)->Option ((K.El c->UInt8)×(UInt8->K.El c))
 find:List (AV K)->Option K.U
 base:Base:=Base.To
 oO:Option TypeId:=none
 kN:K.U->Option TypeId:=fun _=>none
variable {K :cy}
def AV.bf:AV K->List (AV K)
 |.agg l=>l
 |v=>[v]
def AV.known:AV K->Bool
 |.any|.opt ..=>false
 |_=>true
def AV.il:AV K->Bool
 |.opt ..=>true
 |_=>false
def AV.one:AV K->Bool
 |.any|.opt .. |.agg _|.aX _|.vw ..=>false
 |_=>true
structure St (K:cy) where
 tm:List (AV K)
 H:List (Ob K)
 ok:Bool
inductive Ex where
 |normal
 |exit (id:Nat)
 |ret
def Ex.lS:Ex->Exit
 |.normal=>.normal
 |.exit id=>.exit id
 |.ret=>.ret
structure bQ (K:cy) where
 n:Nat
 ins:List Nat
 outs:List Nat
 run:{R:Type}->List (AV K)->List (Ob K)->(Ex->List (AV K)->List (Ob K)->Option R)->Option R
inductive Mode where
 |plain|gI|gB|pass|eM|fresh
 deriving DecidableEq
def HZ{R:Type}(a b:Option R):Option R:=match a with
 |none=>b
 |some r=>some r
theorem agf{R:Type}{a b:Option R}{r:R}(h:HZ a b=some r):a=some r\/b=some r:=by
 cases a with
 |none=>exact .inr h
 |some x=>exact .inl h
structure Cx (K:cy) where
 P:Program
 D:aY K
 ty:TypeId->Option K.U
 call:FuncId->List (AV K)->List (Ob K)->Option (AV K×List (Ob K)×Bool)
 mode:FuncId->Mode
 loop:Nat->Option (bQ K)
 kV:TypeId->List (Option K.U)
 cut:Bool:=false
 ir:List (List (Option K.U)):=[]
 TU:List Bool:=[]
 mv:Bool:=false
 deep:K.U->Bool:=fun _=>false
 opn:Bool:=false
 ET:Bool:=false
 vtl:Bool:=false
 lz:Bool:=false
 alt:Bool->FuncId->List (AV K)->List (Ob K)->Option (AV K×List (Ob K)×Bool):=fun _ _ _ _=>none
 B0:Bool->FuncId->Mode:=fun _=>mode
 Ht:{R:Type}->Option R->Option R->Option R:=fun a b=>HZ a b
 gs:Option (Nat×Bool):=none
def known(cx:Cx K)(g:Nat):Option Bool:=match cx.gs with
 |some (t,b)=>if t=g then some b else none
 |none=>none
mutual
def ke:Value->Option (AV K)
 |.bool b=>some (.bool b)
 |.int k n=>some (.int k n)
 |.string s=>some (.str s.data.toList)
 |.pointer none=>some .cN
 |.slice none 0 0=>some .ca
 |.agg cs=>(yp cs.toList).map .agg
 |_=>none
def yp:List Value->Option (List (AV K))
 |[]=>some []
 |v::r=>match ke v,yp r with
  |some x,some l=>some (x::l)
  |_,_=>none
end
def covers(tm:List (AV K)):Nat->Nat×Bool->Nat×Bool->Bool
 |0,g,t=>g.1==t.1&&g.2==t.2
 |n+1,g,t=>(g.1==t.1&&g.2==t.2)||(match tm[g.1]? with
  |some (.opt g1 w1 _)=>covers tm n (g1,w1) t
  |_=>false)
def cM(tm:List (AV K))(gs:List (Nat×Bool)):Operand->AV K
 |.tmp t=>match tm[t]? with
   |some (.opt g w v)=>if gs.any (fun p=>covers tm 6 p (g,w))then v else .any
   |some v=>v
   |none=>.any
 |.const v=>(ke v).getD .any
 |.global _=>.any
 |.func f=>.fn f []
def vv(tm:List (AV K)):Nat->Nat×Bool->Option Bool
 |0,_=>none
 |n+1,(g,w)=>match tm[g]? with
  |some (.bool b)=>some (b==w)
  |some (.opt g1 w1 (.bool b))=>(vv tm n (g1,w1)).map fun e=>e&&(b==w)
  |_=>none
mutual
def merge(b:Bool):AV K->AV K->AV K
 |.int k m,.int k' n=>if k=k' then .int k (cond b m n)else .any
 |.bool m,.bool n=>.bool (cond b m n)
 |.str m,.str n=>.str (cond b m n)
 |.ar c l,.ar c' l'=>match K.iI c c' with
   |.isTrue h=>.ar c' (cond b (h ▸ l) l')
   |.isFalse _=>.any
 |.agg l,.agg l'=>if l.length=l'.length then .agg (merges b l l')else .any
 |.ca,.ca=>.ca
 |.cN,.cN=>.cN
 |_,_=>.any
def merges(b:Bool):List (AV K)->List (AV K)->List (AV K)
 |x::r,y::s=>merge b x y::merges b r s
 |_,_=>[]
end
def dR(op:BinOp)(k:IntKind)(x y:Int):Int:=
 let a:=BitVec.ofInt k.bits x
 let b:=BitVec.ofInt k.bits y
 k.wrap ((match op with
   |.and=>(a&&& b)|.or=>(a|||b)|.xor=>(a^^^b)|_=>(a&&& ~~~b)).toNat)
def oo(k:IntKind)(x y:Int):Int:=k.wrap (x*2^(min y.toNat k.bits))
def ft(k:IntKind)(x y:Int):Int:=x.fdiv (2^(min y.toNat k.bits))
def dS(a b:List UInt8):Bool:=decide (a.length+b.length<=4611686018427387904)
def yq(a b:List UInt8):Bool:=Op.bytesLess a b
def H3(op:BinOp)(k:IntKind)(a b:Int):Option (AV K×Bool):=
 match op with
 |.add=>some (.int k (k.wrap (a+b)),true)
 |.sub=>some (.int k (k.wrap (a-b)),true)
 |.mul=>some (.int k (k.wrap (a*b)),true)
 |.quo=>some (.int k (k.wrap (a.tdiv b)),b !=0)
 |.rem=>some (.int k (a.tmod b),b !=0)
 |.and|.or|.xor|.andNot=>some (.int k (dR op k a b),true)
 |.eql=>some (.bool (a==b),true)
 |.neq=>some (.bool (a !=b),true)
 |.lss=>some (.bool (decide (a<b)),true)
 |.leq=>some (.bool (decide (a<=b)),true)
 |.gtr=>some (.bool (decide (b<a)),true)
 |.geq=>some (.bool (decide (b<=a)),true)
 |.shl|.shr=>none
def H4(op:BinOp)(a b:List UInt8):Option (AV K×Bool):=
 match op with
 |.add=>some (.str (a++b),dS a b)
 |.eql=>some (.bool (a==b),true)
 |.neq=>some (.bool (!(a==b)),true)
 |.lss=>some (.bool (yq a b),true)
 |.leq=>some (.bool (yq a b||a==b),true)
 |.gtr=>some (.bool (!(yq a b||a==b)),true)
 |.geq=>some (.bool (!yq a b),true)
 |_=>none
def TV(P:Program)(t:TypeId):Bool:=P.underlying t matches some .string
def H5(P:Program)(t:TypeId):Bool:=P.underlying t matches some .bool
def H6(op:UnOp):AV K->Option (AV K×Bool)
 |.bool b=>match op with
   |.not=>some (.bool (!b),true)
   |_=>none
 |.int k n=>match op with
   |.neg=>some (.int k (k.wrap (0-n)),true)
   |.xor=>some (.int k (dR .xor k (if k.signed then -1 else k.max) n),true)
   |_=>none
 |_=>none
def cF(P:Program)(t:TypeId):Option Nat:=(P.info? t).map (·.size)
def B5(P:Program)(t:TypeId):Option Bool:=
 match P.underlying t with
 |some (.struct _)|some (.array _ _)=>some true
 |some _=>some false
 |none=>none
def TW(P:Program)(t:TypeId)(f:Nat):Option Field:=
 match P.underlying t with
 |some (.struct fs)=>fs[f]?
 |_=>none
def elemOf?(P:Program)(t:TypeId):Option TypeId:=
 match P.underlying t with
 |some (.slice e)=>some e
 |_=>none
def zeroOf(P:Program)(t:TypeId):Option (AV K):=
 match P.info? t with
 |some i=>match i.zero with
  |some v=>ke v
  |none=>none
 |none=>none
def vQ(P:Program)(t:TypeId):Option IntKind:=
 match P.underlying t with
 |some (.int k)=>some k
 |_=>none
def km(P:Program)(t:TypeId)(cs:List (AV K))(off:Nat):Option (AV K):=
 match B5 P t,cF P t with
 |some true,some n=>if off+n<=cs.length then some (.agg ((cs.drop off).take n))else none
 |some false,some _=>cs[off]?
 |_,_=>none
def yt(P:Program)(rec:TypeId->AV K->AV K->Option Bool)(xs ys:List (AV K)):List Field->Option Bool
 |[]=>some true
 |f::fs=>if f.name= "_" then none else
  match km P f.type xs f.offset,km P f.type ys f.offset with
  |some a,some b=>match rec f.type a b,yt P rec xs ys fs with
   |some p,some q=>some (p&&q)
   |_,_=>none
  |_,_=>none
def vW(P:Program):Nat->TypeId->AV K->AV K->Option Bool
 |0,_,_,_=>none
 |n+1,t,.int k a,.int k' b=>if k=k' then(match P.underlying t with
  |some (.int _)=>some (a==b)
  |_=>none)else none
 |n+1,t,.bool a,.bool b=>(match P.underlying t with
  |some .bool=>some (a==b)
  |_=>none)
 |n+1,t,.str a,.str b=>(match P.underlying t with
  |some .string=>some (a==b)
  |_=>none)
 |n+1,t,.agg xs,.agg ys=>(match P.underlying t with
  |some (.struct fs)=>if P.stoodInHeld t then none else yt P (vW P n) xs ys fs.toList
  |_=>none)
 |_+1,_,_,_=>none
def H7(P:Program)(op:BinOp)(t:TypeId):AV K->AV K->Option (AV K×Bool)
 |.int k a,.int k' b=>match op with
   |.shl=>some (.int k (oo k a b),decide (0<=b))
   |.shr=>some (.int k (ft k a b),decide (0<=b))
   |_=>if k=k' then H3 op k a b else none
 |.bool a,.bool b=>if H5 P t then(match op with
   |.eql=>some (.bool (a==b),true)
   |.neq=>some (.bool (!(a==b)),true)
   |_=>none)else none
 |.str a,.str b=>H4 op a b
 |.agg a,.agg b=>match op with
   |.eql=>if P.eqGuardType P.depth t then none else(vW P 6 t (.agg a) (.agg b)).map fun e=>(.bool e,true)
   |.neq=>if P.eqGuardType P.depth t then none else(vW P 6 t (.agg a) (.agg b)).map fun e=>(.bool (!e),true)
   |_=>none
 |_,_=>none
def inB(n:Int)(len:Nat):Bool:=decide (0<=n)&&decide (n<len)
def bF(lo hi:Int)(len:Nat):Bool:=decide (0<=lo)&&(decide (lo<=hi)&&decide (hi<=len))
mutual
def AV.closed:AV K->Bool
 |.int .. |.bool _|.str _|.cN|.ca|.ar .. |.rp .. |.any=>true
 |.ptr .. |.sl _|.ep .. |.opt .. |.np _|.vw ..=>false
 |.fn _ l|.agg l|.aX l=>fj l
def fj:List (AV K)->Bool
 |[]=>true
 |v::r=>v.closed&&fj r
end
def sF(H:List (Ob K)):AV K->AV K
 |.sl h=>match H[h]? with
   |some (.arr c l)=>.ar c l
   |some (.eZ c l)=>.ar c l
   |some (.tree c l)=>.ar c l
   |_=>.any
 |v=>v
mutual
def gI(D:aY K)(H:List (Ob K)):AV K->AV K
 |.sl h=>match H[h]? with
   |some (.arr c l)=>.ar c l
   |some (.eZ c l)=>.ar c l
   |some (.tree c l)=>.ar c l
   |_=>.any
 |.ptr h off=>match H[h]? with
   |some (.box cs)=>match D.find (cs.map (sF H))with
    |some c=>match D.dec c (cs.map (sF H))with
     |some (x,true)=>.rp c x off
     |_=>.any
    |none=>.any
   |_=>.any
 |.vw h st lo hi=>match H[h]? with
   |some (.arr c l)=>if st=K.sz c then .ar c ((l.take hi).drop lo)else .any
   |some (.tree c l)=>if st=K.sz c then .ar c ((l.take hi).drop lo)else .any
   |_=>.any
 |.fn g l=>.fn g (kf D H l)
 |.agg l=>.agg (kf D H l)
 |.aX l=>.aX (kf D H l)
 |v=>v
def kf(D:aY K)(H:List (Ob K)):List (AV K)->List (AV K)
 |[]=>[]
 |v::r=>gI D H v::kf D H r
end
def elems(H:List (Ob K))(c:K.U):AV K->Option (List (K.El c))
 |.ca=>some []
 |.ar c' l=>match K.iI c' c with
   |.isTrue h=>some (h ▸ l)
   |.isFalse _=>none
 |.sl h=>match H[h]? with
   |some (.arr c' l)=>match K.iI c' c with
    |.isTrue h=>some (h ▸ l)
    |.isFalse _=>none
   |_=>none
 |_=>none
def setCells(cs:List (AV K))(off:Nat):List (AV K)->List (AV K)
 |[]=>cs
 |v::r=>setCells (cs.set off v) (off+1) r
mutual
def hands:AV K->List Nat
 |.ptr h _|.sl h|.ep h _ _ _|.np h|.vw h _ _ _=>[h]
 |.agg l|.aX l|.fn _ l=>bo l
 |_=>[]
def bo:List (AV K)->List Nat
 |[]=>[]
 |v::r=>hands v++bo r
end
def sS(H:List (Ob K))(h:Nat):List (Ob K):=
 match H[h]? with
 |some (.arr c l)=>H.set h (.eZ c l)
 |some (.tree c l)=>H.set h (.eZ c l)
 |_=>H
def gW(H:List (Ob K)):List Nat->List (Ob K)
 |[]=>H
 |h::r=>gW (sS H h) r
mutual
def dm(H:List (Ob K)):AV K->AV K
 |.sl h=>match H[h]? with
   |some (.eZ c l)=>.ar c l
   |_=>.sl h
 |.vw h st lo hi=>match H[h]? with
   |some (.eZ c l)=>if st=K.sz c then .ar c ((l.take hi).drop lo)else .vw h st lo hi
   |_=>.vw h st lo hi
 |.agg l=>.agg (nu H l)
 |.aX l=>.aX (nu H l)
 |v=>v
def nu(H:List (Ob K)):List (AV K)->List (AV K)
 |[]=>[]
 |v::r=>dm H v::nu H r
end
def thaw(dp:K.U->Bool)(H:List (Ob K)):List (Option K.U)->List (AV K)->List (AV K)×List (Ob K)
 |some c::cs,.ca::r=>match thaw dp (H++[cond (dp c) (.tree c []) (.arr c [])]) cs r with
  |(l,H')=>(.sl H.length::l,H')
 |_::cs,v::r=>match thaw dp H cs r with
  |(l,H')=>(v::l,H')
 |[],l=>(l,H)
 |_,[]=>([],H)
def dY(dp:K.U->Bool)(H:List (Ob K)):List (List (Option K.U))->List (AV K)->List (AV K)×List (Ob K)
 |cs::css,.agg l::r=>match thaw dp H cs l with
  |(l',H1)=>match dY dp H1 css r with
   |(s,H2)=>(.agg l'::s,H2)
 |cs::css,v::r=>match thaw dp H cs [v]with
  |(l',H1)=>match dY dp H1 css r with
   |(s,H2)=>(l'.headD v::s,H2)
 |[],l=>(l,H)
 |_,[]=>([],H)
def jN:List (AV K)->Bool
 |.np _::_=>true
 |_=>false
def yu(b:Bool)(h:Nat):List (AV K)->List (AV K)
 |.cN::r=>cond b (.np h) .cN::r
 |l=>l
mutual
def gw:AV K->Bool
 |.ar .. |.rp ..=>true
 |.agg l|.aX l|.fn _ l=>dh l
 |_=>false
def dh:List (AV K)->Bool
 |[]=>false
 |v::r=>gw v||dh r
end
def B6(P:Program)(D:aY K)(H:List (Ob K))(t:TypeId):AV K->Option (AV K)
 |.ptr h off=>match H[h]? with
   |some (.box cs)=>km P t cs off
   |_=>none
 |.rp c x off=>km P t (D.cells c x) off
 |.ep h st i off=>match H[h]? with
   |some (.arr c l)=>if st=K.sz c then km P t (D.cells c (l.getD i (K.zero c))) off else none
   |some (.tree c l)=>if st=K.sz c then(match km P t (D.cells c (l.getD i (K.zero c))) off with
     |some v=>if gw v then none else some v
     |none=>none)else none
   |_=>none
 |_=>none
def H8(P:Program)(H:List (Ob K))(t:TypeId):AV K->Option (AV K×Bool)
 |.ep h st i off=>match H[h]? with
   |some (.opn c l i' off' cs)=>if st=K.sz c/\off'<=off then(match km P t (List.replicate off' .any++cs) off with
    |some v=>some (v,decide (i=i'))
    |none=>none)else none
   |_=>none
 |_=>none
def H9(P:Program)(s:TypeId)(f:Nat)(x:AV K):Option (AV K):=
 match TW P s f with
 |some fd=>match cF P fd.type with
  |some (_+1)=>match x with
   |.ptr h off=>some (.ptr h (off+fd.offset))
   |.rp c x off=>some (.rp c x (off+fd.offset))
   |.ep h st i off=>some (.ep h st i (off+fd.offset))
   |_=>none
  |_=>none
 |none=>none
def Ia(P:Program)(H:List (Ob K))(t:TypeId)(x i:AV K):Option (AV K×Bool):=
 match elemOf? P t,i with
 |some e,.int _ n=>match x with
  |.ar c l=>if cF P e=some (K.sz c)then some (.rp c (l.getD n.toNat (K.zero c)) 0,inB n l.length)else none
  |.sl h=>match H[h]? with
    |some (.arr c l)=>if cF P e=some (K.sz c)then some (.ep h (K.sz c) n.toNat 0,inB n l.length)else none
    |some (.tree c l)=>if cF P e=some (K.sz c)then some (.ep h (K.sz c) n.toNat 0,inB n l.length)else none
    |_=>none
  |_=>none
 |_,_=>none
def iL(d:Int):Option (AV K)->Option Int
 |none=>some d
 |some (.int _ n)=>some n
 |some _=>none
def Ib(P:Program)(t:TypeId)(x:AV K)(lo hi:Option (AV K)):Option (AV K×Bool):=
 match P.underlying t,x with
 |some .string,.str s=>match iL 0 lo,iL s.length hi with
  |some l,some h=>some (.str ((s.take h.toNat).drop l.toNat),bF l h s.length)
  |_,_=>none
 |some (.slice e),.ar c s=>if cF P e=some (K.sz c)then match iL 0 lo,iL s.length hi with
  |some l,some h=>some (.ar c ((s.take h.toNat).drop l.toNat),bF l h s.length)
  |_,_=>none else none
 |_,_=>none
def Ic(P:Program)(H:List (Ob K))(t:TypeId)(x:AV K)(lo hi:Option (AV K)):Option (AV K×Bool):=
 match elemOf? P t,x with
 |some e,.sl h=>match H[h]? with
  |some (.arr c l)=>if cF P e=some (K.sz c)then match iL 0 lo,iL l.length hi with
   |some a,some b=>some (.vw h (K.sz c) a.toNat b.toNat,bF a b l.length)
   |_,_=>none else none
  |some (.tree c l)=>if cF P e=some (K.sz c)then match iL 0 lo,iL l.length hi with
   |some a,some b=>some (.vw h (K.sz c) a.toNat b.toNat,bF a b l.length)
   |_,_=>none else none
  |_=>none
 |_,_=>none
def sU(cx:Cx K)(ev:Operand->AV K)(H:List (Ob K)):Op->Option (AV K×Bool)
 |.move x|.assign x=>some (ev x,true)
 |.binOp op t x y _=>H7 cx.P op t (ev x) (ev y)
 |.unOp op _ x=>H6 op (ev x)
 |.convert src dst x=>match cx.P.underlying src,cx.P.underlying dst,ev x with
   |some _,some (.int k),.int _ n=>some (.int k (k.wrap n),true)
   |some _,some .string,.str s=>some (.str s,true)
   |some (.slice e),some .string,x=>match cx.P.underlying e,cx.ty e with
    |some (.int .u8),some c=>match cx.D.byte c,elems H c x with
     |some (f,_),some l=>some (.str (l.map f),true)
     |_,_=>none
    |_,_=>none
   |_,_,_=>none
 |.extract t i=>match ev t with
   |.aX l=>(l[i]?).map fun v=>(v,true)
   |_=>none
 |.fieldAddr s x f=>(H9 cx.P s f (ev x)).map fun v=>(v,true)
 |.load t p=>match B6 cx.P cx.D H t (ev p)with
   |some v=>some (v,true)
   |none=>H8 cx.P H t (ev p)
 |.indexAddr t x i=>Ia cx.P H t (ev x) (ev i)
 |.index t x i=>match cx.P.underlying t,ev x,ev i with
   |some .string,.str s,.int _ n=>some (.int .u8 ((s.getD n.toNat 0).toNat:Int),inB n s.length)
   |_,_,_=>none
 |.slice t x lo hi none=>match Ib cx.P t (ev x) (lo.map ev) (hi.map ev)with
   |some r=>some r
   |none=>if cx.ET&&cond cx.vtl hi.isNone (hi.isSome|| !cx.cut)then Ic cx.P H t (ev x) (lo.map ev) (hi.map ev)else none
 |.nilCheck x=>match ev x with
   |.ptr h o=>some (.ptr h o,true)
   |.rp c x o=>some (.rp c x o,true)
   |.ep h s i o=>some (.ep h s i o,true)
   |_=>none
 |.makeFunc (.func f) first caps=>if first.isEmpty then some (.fn f (caps.toList.map ev),true)else none
 |.call {callee:=.builtin .len,args,argTypes}=>match args.toList,argTypes.toList with
   |[x],[t]=>match cx.P.underlying t,ev x with
     |some .string,.str s=>some (.int .i64 (s.length:Int),true)
     |some (.slice _),.ca=>some (.int .i64 0,true)
     |some (.slice _),.ar _ l=>some (.int .i64 (l.length:Int),true)
     |some (.slice _),.vw _ _ a b=>some (.int .i64 ((b-a:Nat):Int),true)
     |some (.slice _),.sl h=>match H[h]? with
      |some (.arr _ l)=>some (.int .i64 (l.length:Int),true)
      |some (.tree _ l)=>some (.int .i64 (l.length:Int),true)
      |_=>none
     |_,_=>none
   |_,_=>none
 |.call {callee:=.builtin .min,args, ..}=>match args.toList with
   |[x,y]=>match ev x,ev y with
     |.int k a,.int k' b=>if k=k' then some (.int k (cond (decide (b<a)) b a),true)else none
     |_,_=>none
   |_=>none
 |.call {callee:=.builtin .max,args, ..}=>match args.toList with
   |[x,y]=>match ev x,ev y with
     |.int k a,.int k' b=>if k=k' then some (.int k (cond (decide (a<b)) b a),true)else none
     |_,_=>none
   |_=>none
 |_=>none
def TX(D:aY K)(c:K.U)(e:TypeId):Bool:=match D.kN c with
 |none=>true
 |some t=>t==e
def nw(cx:Cx K)(e:TypeId):Option K.U:=match cx.ty e with
 |some c=>if TX cx.D c e then some c else none
 |none=>none
def room(e:TypeId)(P:Program):Bool:=match P.info? e with
 |some i=>decide (i.bytes<=4096)
 |none=>false
def nq(D:aY K)(c:K.U):List (AV K)->Option (List (K.El c)×Bool)
 |[]=>some ([],true)
 |v::r=>match D.dec c v.bf,nq D c r with
  |some (x,b),some (l,b')=>some (x::l,b&&b')
  |_,_=>none
def inOrder(ev:Operand->AV K):Nat->List (Nat×Operand)->Option (List (AV K))
 |_,[]=>some []
 |n,(i,x)::r=>if i=n then(inOrder ev (n+1) r).map (ev x::·)else none
def placesOf(P:Program)(t:TypeId):Option (List (Nat×Nat)):=
 match P.underlying t with
 |some (.struct fs)=>fs.toList.mapM (fun f=>(P.info? f.type).map fun i=>(f.offset,i.size))
 |_=>none
def vX(places:List (Nat×Nat))(ev:Operand->AV K)(cs:List (AV K)):List (Nat×Operand)->Option (List (AV K))
 |[]=>some cs
 |(i,x)::r=>match places[i]? with
  |some (off,n)=>if(ev x).known=true/\(ev x).bf.length=n/\off+n<=cs.length then vX places ev (setCells cs off (ev x).bf) r else none
  |none=>none
def lP(P:Program)(t:TypeId):Bool:=match P.info? t with
 |some i=>match i.zero with
  |some v=>v.cells.size==i.size
  |none=>false
 |none=>false
def source(D:aY K)(H:List (Ob K))(c:K.U):AV K->Option (List (K.El c))
 |.str s=>match D.byte c with
   |some (_,g)=>some (s.map g)
   |none=>none
 |v=>elems H c v
def B7(cx:Cx K)(H:List (Ob K))(sT:TypeId)(s x:AV K):Option (AV K×List (Ob K)×Bool×List Nat):=
 match elemOf? cx.P sT with
 |none=>none
 |some e=>match nw cx e with
  |none=>none
  |some c=>if cF cx.P e=some (K.sz c)/\room e cx.P=true/\lP cx.P e=true then
    match source cx.D H c x with
    |none=>none
    |some m=>match s with
     |.ca=>some (.sl H.length,H++[.arr c m],decide (m.length<=1073741824),[])
     |.sl h=>match x with
       |.sl h'=>if h=h' then none else match elems H c (.sl h)with
         |some l=>some (.sl H.length,H.set h .dead++[.arr c (l++m)],decide (l.length+m.length<=1073741824),[h])
         |none=>none
       |_=>match elems H c (.sl h)with
        |some l=>some (.sl H.length,H.set h .dead++[.arr c (l++m)],decide (l.length+m.length<=1073741824),[h])
        |none=>none
     |_=>none
   else none
def yv(cx:Cx K)(H:List (Ob K))(sT:TypeId)(s x:AV K):Option (AV K×List (Ob K)×Bool×List Nat):=
 match elemOf? cx.P sT,x with
 |some e,.int _ n=>match nw cx e,(zeroOf cx.P e:Option (AV K))with
  |some c,some z=>if cF cx.P e=some (K.sz c)/\room e cx.P=true/\0<K.sz c/\z.known=true/\z.bf.all AV.one=true then
    match cx.D.dec c z.bf,s with
    |some (y,b),.sl h=>match elems H c (.sl h)with
     |some l=>some (.sl H.length,H.set h .dead++[.arr c (l++List.replicate n.toNat y)],b&&(decide (0<=n)&&decide (l.length+n.toNat<=1073741824)),[h])
     |none=>none
    |_,_=>none
   else none
  |_,_=>none
 |_,_=>none
def jQ(ev:Operand->AV K):Op->List Nat
 |.buildSlice _ _ parts=>bo (parts.toList.map fun p=>ev p.2)
 |.store _ p x=>match ev p with
   |.ep ..=>hands (ev x)
   |_=>[]
 |.slice _ x _ _ _=>match ev x with
   |.sl h=>[h]
   |_=>[]
 |_=>[]
def sV(cx:Cx K)(ev:Operand->AV K)(H:List (Ob K)):Op->Option (AV K×List (Ob K)×Bool×List Nat)
 |.box t x=>if(ev x).known then match thaw cx.deep H (cx.kV t) (ev x).bf with
     |(cs,H1)=>if jN cs then none else some (.ptr H1.length 0,H1++[.box cs],true,[])else none
 |.alloc t=>match(zeroOf cx.P t:Option (AV K))with
   |some z=>if z.known then match thaw cx.deep H (cx.kV t) z.bf with
    |(cs,H1)=>if jN cs then none else some (.ptr H1.length 0,H1++[.box (yu (cx.D.oO==some t) H1.length cs)],true,[])else none
   |none=>none
 |.build t parts=>match placesOf cx.P t,(zeroOf cx.P t:Option (AV K))with
   |some ps,some z=>if z.known then(vX ps ev z.bf parts.toList).map fun cs=>(.agg cs,H,true,[])else none
   |_,_=>none
 |.store t p x=>match cF cx.P t with
   |some n=>if(ev x).bf.length=n/\(ev x).bf.all AV.one=true then match ev p with
    |.ptr h off=>match H[h]? with
      |some (.box cs)=>if off+n<=cs.length then match thaw cx.deep H (cx.kV t) (ev x).bf with
       |(xs,H1)=>if jN (setCells cs off xs)&& !jN cs then none else some (.any,H1.set h (.box (setCells cs off xs)),true,[h])else none
      |_=>none
    |.ep h st i off=>match H[h]? with
      |some (.arr c l)=>if st=K.sz c/\fj (ev x).bf=true/\off+n<=K.sz c then
        match cx.D.dec c (setCells (cx.D.cells c (l.getD i (K.zero c))) off (ev x).bf)with
        |some (y,b)=>some (.any,H.set h (.arr c (l.set i y)),b,[h])
        |none=>none
       else none
      |_=>none
    |_=>none else none
   |none=>none
 |.makeSlice t len cap=>match elemOf? cx.P t with
   |none=>none
   |some e=>match nw cx e,(zeroOf cx.P e:Option (AV K)),ev len,ev cap with
    |some c,some z,.int _ n,.int _ m=>if cF cx.P e=some (K.sz c)/\room e cx.P=true/\fj z.bf=true/\z.known=true then
      match cx.D.dec c z.bf with
      |some (y,b)=>some (.sl H.length,H++[.arr c (List.replicate n.toNat y)],b&&(decide (0<=n)&&(decide (n<=m)&&decide (m<=1073741824))),[])
      |none=>none
     else none
    |_,_,_,_=>none
 |.buildSlice t len parts=>match elemOf? cx.P t with
   |none=>none
   |some e=>match nw cx e,inOrder ev 0 parts.toList with
    |some c,some l=>if cF cx.P e=some (K.sz c)/\lP cx.P e=true/\l.length=len/\len<=4096/\K.sz c<=4096/\l.all (fun v=>fj v.bf&&(v.known&&decide (v.bf.length=K.sz c)))=true then
      match nq cx.D c l with
      |some (y,b)=>some (.sl H.length,H++[.arr c y],b,[])
      |none=>none
     else none
    |_,_=>none
 |.convert src dst x=>match cx.P.underlying src,elemOf? cx.P dst,ev x with
   |some .string,some e,.str s=>match cx.P.underlying e,nw cx e with
    |some (.int .u8),some c=>match cx.D.byte c with
     |some (_,g)=>if cF cx.P e=some (K.sz c)then some (.sl H.length,H++[.arr c (s.map g)],decide (s.length<=1073741824),[])else none
     |none=>none
    |_,_=>none
   |_,_,_=>none
 |.call {callee:=.builtin .append,args,argTypes}=>match args.toList,argTypes.toList with
   |[s,x],[sT,xT]=>if(cx.P.underlying xT).isNone then none else if(vQ cx.P xT).isSome then yv cx H sT (ev s) (ev x)else B7 cx H sT (ev s) (ev x)
   |_,_=>none
 |.call {callee:=.builtin .clear,args,argTypes}=>match args.toList,argTypes.toList with
   |[x],[T]=>match ev x,elemOf? cx.P T with
     |.vw h st lo hi,some e=>match H[h]?,(zeroOf cx.P e:Option (AV K))with
       |some (.arr c l),some z=>if st=K.sz c/\cF cx.P e=some (K.sz c)/\z.bf.all AV.one=true then match cx.D.dec c z.bf with
         |some (y,b)=>some (.any,H.set h (.arr c (l.take lo++List.replicate (hi-lo) y++l.drop hi)),b&&decide (hi<=l.length),[h])
         |none=>none
        else none
       |_,_=>none
     |_,_=>none
   |_,_=>none
 |.call {callee:=.builtin .copy,args,argTypes}=>match args.toList,argTypes.toList with
   |[x,y],[T,_]=>match ev x,ev y,elemOf? cx.P T with
     |.vw h st lo hi,.str s,some e=>match H[h]? with
       |some (.arr c l)=>match cx.D.byte c with
        |some (_,g)=>if st=K.sz c/\cF cx.P e=some (K.sz c)then some (.int .i64 (s.length:Int),H.set h (.arr c (l.take lo++s.map g++l.drop (lo+s.length))),decide (hi<=l.length)&&decide (s.length<=hi-lo),[h])else none
        |none=>none
       |_=>none
     |_,_,_=>none
   |_,_=>none
 |_=>none
mutual
def oK:AV K->Bool
 |.sl _|.ptr .. |.ep .. |.np _|.vw ..=>true
 |.agg l|.aX l|.fn _ l=>sH l
 |_=>false
def sH:List (AV K)->Bool
 |[]=>false
 |v::r=>oK v||sH r
end
mutual
def dV(f:Nat->Option Nat):AV K->Option (AV K)
 |.ptr h o=>(f h).map (.ptr · o)
 |.sl h=>(f h).map .sl
 |.np h=>(f h).map .np
 |.ep h s i o=>(f h).map (.ep · s i o)
 |.vw h s a b=>(f h).map (.vw · s a b)
 |.fn g l=>(ij f l).map (.fn g)
 |.agg l=>(ij f l).map .agg
 |.aX l=>(ij f l).map .aX
 |.opt ..=>none
 |v=>some v
def ij(f:Nat->Option Nat):List (AV K)->Option (List (AV K))
 |[]=>some []
 |v::r=>match dV f v,ij f r with
  |some x,some l=>some (x::l)
  |_,_=>none
end
def ren(m:List Nat):AV K->Option (AV K):=dV fun h=>m.idxOf? h
def TY(m:List Nat):List (AV K)->Option (List (AV K)):=ij fun h=>m.idxOf? h
def back(m:List Nat):AV K->Option (AV K):=dV fun h=>m[h]?
def agi(m:List Nat):List (AV K)->Option (List (AV K)):=ij fun h=>m[h]?
def js(f:Nat->Option Nat):Ob K->Option (Ob K)
 |.box cs=>(ij f cs).map .box
 |.opn ..=>none
 |o=>some o
def BJ(m:List Nat):Ob K->Option (Ob K):=js fun h=>m.idxOf? h
def sK(m:List Nat):Ob K->Option (Ob K):=js fun h=>m[h]?
def kM(f:Ob K->Option (Ob K)):List (Ob K)->Option (List (Ob K))
 |[]=>some []
 |o::r=>match f o,kM f r with
  |some x,some l=>some (x::l)
  |_,_=>none
def reach(H:List (Ob K)):Nat->List Nat->List Nat->List Nat
 |0,_,acc=>acc
 |_,[],acc=>acc
 |n+1,h::r,acc=>if acc.contains h then reach H n r acc else
   reach H n (r++(match H[h]? with|some (.box cs)=>bo cs|_=>[])) (acc++[h])
def sJ(H:List (Ob K)):List Nat->Bool
 |[]=>true
 |h::m=>decide (h<H.length)&&(!m.contains h&&sJ H m)
def ik:List (Ob K)->List Nat->List (Ob K)->List (Ob K)
 |H,h::m,o::r=>ik (H.set h o) m r
 |H,_,_=>H
def Tj(D:aY K):Ob K->Bool
 |.arr c _=> !dh (D.cells c (K.zero c))
 |.tree ..=>true
 |_=>false
def jO(cx:Cx K)(m:Mode)(H:List (Ob K))(f:FuncId)(args:List (AV K)):Option (AV K×List (Ob K)×Bool×List Nat):=
 match m with
 |.plain=>if fj (kf cx.D H args)then match cx.call f (kf cx.D H args) []with
     |some (r,[],c)=>if r.closed&&(!gw r|| !sH args)then some (r,H,c,[])else none
     |_=>none else none
 |.gI=>if fj (kf cx.D H args)&& !sH args then match cx.call f (kf cx.D H args) []with
     |some (r,Hn,c)=>match back ((List.range Hn.length).map (H.length+·)) r,kM (sK ((List.range Hn.length).map (H.length+·))) Hn with
      |some r',some sL=>some (r',H++sL,c,[])
      |_,_=>none
     |none=>none else none
 |.fresh=>if fj (kf cx.D H args)then match cx.call f (kf cx.D H args) []with
     |some (r,Hn,c)=>if !gw r&&Hn.all (Tj cx.D)then match back ((List.range Hn.length).map (H.length+·)) r,kM (sK ((List.range Hn.length).map (H.length+·))) Hn with
      |some r',some sL=>some (r',H++sL,c,[])
      |_,_=>none else none
     |none=>none else none
 |.gB|.eM=>none
 |.pass=>if !sJ H (reach H 64 (bo args) [])then none else match TY (reach H 64 (bo args) []) args,kM (BJ (reach H 64 (bo args) [])) ((reach H 64 (bo args) []).map fun h=>H.getD h .dead)with
     |some args',some Hi=>match cx.call f args' Hi with
      |some (r,Ho,c)=>
       match back (reach H 64 (bo args) []++(List.range (Ho.length-Hi.length)).map (H.length+·)) r,kM (sK (reach H 64 (bo args) []++(List.range (Ho.length-Hi.length)).map (H.length+·))) Ho with
       |some r',some fH=>if Hi.length<=Ho.length then some (r',ik H (reach H 64 (bo args) []) (fH.take Hi.length)++fH.drop Hi.length,c,reach H 64 (bo args) [])else none
       |_,_=>none
      |none=>none
     |_,_=>none
def sM(cx:Cx K)(m:Mode)(H:List (Ob K))(f:FuncId)(args:List (AV K)):Option (AV K×List (Ob K)×Bool×List Nat):=
 jO cx m (gW H (bo args)) f (nu (gW H (bo args)) args)
def oN(q:Bool)(cx:Cx K)(H:List (Ob K))(f:FuncId)(args:List (AV K)):Option (AV K×List (Ob K)×Bool×List Nat):=
 match cx.mode f with
 |.plain=>jO cx .plain H f args
 |.gB=>match jO cx .plain H f args with
   |some r=>some r
   |none=>if q then none else sM cx .plain H f args
 |.gI=>if q then none else sM cx .gI H f args
 |.pass=>if q then none else jO cx .pass H f args
 |.eM=>if q then none else sM cx .pass H f args
 |.fresh=>if q then none else match jO cx .gI H f args with
   |some r=>some r
   |none=>match jO cx .fresh H f args with
    |some r=>some r
    |none=>sM cx .gI H f args
def jt:List Nat->Bool
 |[]=>true
 |x::r=> !r.contains x&&jt r
def BQ(D:aY K)(H:List (Ob K)):AV K->Option (AV K)
 |.sl h=>match H[h]? with
   |some (.arr c l)=>if dh (D.cells c (K.zero c))then none else some (.ar c l)
   |some (.tree c l)=>some (.ar c l)
   |_=>none
 |.ca=>some .ca
 |.int k n=>some (.int k n)
 |.bool b=>some (.bool b)
 |.str s=>some (.str s)
 |.cN=>some .cN
 |_=>none
def jP(D:aY K)(H:List (Ob K)):List (AV K)->Option (List (AV K))
 |[]=>some []
 |v::r=>match BQ D H v,jP D H r with
  |some x,some l=>some (x::l)
  |_,_=>none
def vL(D:aY K)(H:List (Ob K)):List (AV K)->Option (List (AV K))
 |[]=>some []
 |v::r=>match jP D H v.bf,vL D H r with
  |some cs,some l=>some (.agg cs::l)
  |_,_=>none
def dN(H:List (Ob K)):List Nat->List (Ob K)
 |[]=>H
 |h::r=>dN (H.set h .dead) r
def oR(H:List (Ob K))(c:K.U):AV K->Option (List (K.El c)×List Nat)
 |.ca=>some ([],[])
 |.sl h=>match H[h]? with
   |some (.tree c' l)=>match K.iI c' c with
    |.isTrue e=>some (e ▸ l,[h])
    |.isFalse _=>none
   |_=>none
 |_=>none
def vP(cx:Cx K)(ev:Operand->AV K)(H:List (Ob K)):Op->Option (AV K×List (Ob K)×Bool×List Nat)
 |.makeSlice t len cap=>match elemOf? cx.P t with
   |none=>none
   |some e=>match nw cx e,(zeroOf cx.P e:Option (AV K)),ev len,ev cap with
    |some c,some z,.int _ n,.int _ m=>if cx.deep c=true/\cF cx.P e=some (K.sz c)/\room e cx.P=true/\z.known=true then
      match jP cx.D [] z.bf with
      |some zs=>match cx.D.dec c zs with
       |some (y,b)=>some (.sl H.length,H++[.tree c (List.replicate n.toNat y)],b&&(decide (0<=n)&&(decide (n<=m)&&decide (m<=1073741824))),[])
       |none=>none
      |none=>none
     else none
    |_,_,_,_=>none
 |.buildSlice t len parts=>match elemOf? cx.P t with
   |none=>none
   |some e=>match nw cx e,inOrder ev 0 parts.toList with
    |some c,some l=>if cx.deep c=true/\cF cx.P e=some (K.sz c)/\lP cx.P e=true/\l.length=len/\len<=4096/\K.sz c<=4096/\l.all (fun v=>v.known&&decide (v.bf.length=K.sz c))=true/\jt (bo l)=true then
      match vL cx.D H l with
      |some l'=>match nq cx.D c l' with
       |some (y,b)=>some (.sl H.length,dN H (bo l)++[.tree c y],b,bo l)
       |none=>none
      |none=>none
     else none
    |_,_=>none
 |.store t p x=>match ev p,cF cx.P t with
   |.ep h st i off,some n=>match H[h]? with
     |some (.tree c l)=>if st=K.sz c/\off+n<=K.sz c/\(ev x).bf.length=n/\(ev x).bf.all AV.one=true/\jt (h::bo (ev x).bf)=true then
       match jP cx.D H (ev x).bf with
       |some xs=>match cx.D.dec c (setCells (cx.D.cells c (l.getD i (K.zero c))) off xs)with
        |some (y,b)=>some (.any,(dN H (h::bo (ev x).bf)).set h (.tree c (l.set i y)),b,h::bo (ev x).bf)
        |none=>none
       |none=>none
      else none
     |some (.opn c l i' off' cs)=>if st=K.sz c/\off=off'/\n=cs.length/\(ev x).bf.length=n/\(ev x).bf.all AV.one=true/\jt (h::bo (ev x).bf)=true then
       match jP cx.D H (ev x).bf with
       |some xs=>match cx.D.dec c (setCells (cx.D.cells c (l.getD i (K.zero c))) off xs)with
        |some (y,b)=>some (.any,(dN H (h::bo (ev x).bf)).set h (.tree c (l.set i y)),b&&decide (i=i'),h::bo (ev x).bf)
        |none=>none
       |none=>none
      else none
     |_=>none
   |_,_=>none
 |.call {callee:=.builtin .append,args,argTypes}=>match args.toList,argTypes.toList with
   |[s,x],[sT,xT]=>if(vQ cx.P xT).isSome||(cx.P.underlying xT).isNone then none else match elemOf? cx.P sT with
     |none=>none
     |some e=>match nw cx e with
      |none=>none
      |some c=>if cx.deep c=true/\cF cx.P e=some (K.sz c)/\room e cx.P=true/\lP cx.P e=true then
        match oR H c (ev s),oR H c (ev x)with
        |some (l,hs),some (m,hs')=>if jt (hs++hs')then some (.sl H.length,dN H (hs++hs')++[.tree c (l++m)],decide (l.length+m.length<=1073741824),hs++hs')else none
        |_,_=>none
       else none
   |_,_=>none
 |_=>none
def qF(D:aY K)(dp:K.U->Bool):Nat->List (AV K)->Option (List (AV K)×List (Ob K))
 |_,[]=>some ([],[])
 |n,.ar c l::r=>if dp c|| !dh (D.cells c (K.zero c))then match qF D dp (n+1) r with
    |some (cs,os)=>some (.sl n::cs,cond (dp c) (.tree c l) (.arr c l)::os)
    |none=>none
  else none
 |n,v::r=>match qF D dp n r with
    |some (cs,os)=>some (v::cs,os)
    |none=>none
def vS(cx:Cx K)(ev:Operand->AV K)(H:List (Ob K)):Op->Option (AV K×List (Ob K)×Bool×List Nat)
 |.load t p=>if cx.opn then match ev p,B5 cx.P t,cF cx.P t with
     |.ep h st i off,some ag,some n=>match H[h]? with
       |some (.tree c l)=>if st=K.sz c/\off+n<=K.sz c/\0<n then match qF cx.D cx.deep H.length (((cx.D.cells c (l.getD i (K.zero c))).drop off).take n)with
         |some (cs,os)=>some (cond ag (.agg cs) (cs.getD 0 .any),H.set h (.opn c l i off cs)++os,true,[h])
         |none=>none
        else none
       |_=>none
     |_,_,_=>none
   else none
 |_=>none
def Ie:List (Ob K)->Option Nat
 |[]=>none
 |.opn ..::_=>some 0
 |_::r=>(Ie r).map (· +1)
def shut(D:aY K)(H:List (Ob K)):Option (List (Ob K)×Bool×List Nat):=
 match Ie H with
 |none=>some (H,true,[])
 |some h=>match H[h]? with
  |some (.opn c l i off cs)=>if jt (h::bo cs)=true then match jP D H cs with
    |some xs=>match D.dec c (setCells (D.cells c (l.getD i (K.zero c))) off xs)with
     |some (y,b)=>some ((dN H (h::bo cs)).set h (.tree c (l.set i y)),b,h::bo cs)
     |none=>none
    |none=>none
   else none
  |_=>none
def vU(q:Bool)(cx:Cx K)(H:List (Ob K))(f:FuncId)(args:List (AV K)):Option (AV K×List (Ob K)×Bool×List Nat):=
 if cx.opn&& !cx.lz&& !q then match oN q cx H f args with
  |some (r,H1,c,t)=>match shut cx.D H1 with
   |some (H2,b,t2)=>some (r,H2,c&&b,t++t2)
   |none=>none
  |none=>none
 else oN q cx H f args
def guardOf(ops:List Oper)(o:Oper):Option (Option (Nat×Bool)):=
 match o.guard with
 |none=>some none
 |some (j,w)=>match ops[j]? with
  |some g=>match g.dst with
   |some t=>some (some (t,w))
   |none=>none
  |none=>none
def sW(st:St K)(wr:List Nat)(dst:Option Nat)(v:AV K)(H:List (Ob K))(ok:Bool):Option (St K×List Nat):=
 match dst with
 |none=>some (⟨st.tm,H,ok⟩,wr)
 |some d=>if wr.contains d||decide (st.tm.length<=d)then none else some (⟨st.tm.set d v,H,ok⟩,d::wr)
def vR(cx:Cx K)(ev:Operand->AV K)(H:List (Ob K))(op:Op):Option (AV K×List (Ob K)×Bool×List Nat):=
 match vP cx (fun x=>dm H (ev x)) H op with
 |some r=>some r
 |none=>match jQ ev op with
 |[]=>sV cx (fun x=>dm H (ev x)) H op
 |hs=>match sU cx (fun x=>dm (gW H hs) (ev x)) (gW H hs) op with
  |some (v,c)=>some (v,gW H hs,c,[])
  |none=>sV cx (fun x=>dm (gW H hs) (ev x)) (gW H hs) op
def Ig:Operand->Bool
 |.const (.slice none 0 0)=>true
 |_=>false
def gX(cx:Cx K):Op->Bool
 |.assign x=> !Ig x
 |.slice t ..=>TV cx.P t
 |.load t _=> !cx.opn||(cx.lz&&(cx.kV t).all Option.isNone)
 |.makeFunc .. |.move _|.pick .. |.binOp .. |.unOp .. |.extract .. |.fieldAddr .. |.indexAddr .. |.index .. |.nilCheck _=>true
 |.convert _ dst _=>(elemOf? cx.P dst).isNone
 |.call {callee:=.builtin .len, ..}|.call {callee:=.builtin .min, ..}|.call {callee:=.builtin .max, ..}=>true
 |.call {callee:=.value (.func f), ..}=>cx.mode f== .plain&&(!cx.opn||cx.lz)
 |_=>false
def cutV(cx:Cx K)(ev:Operand->AV K)(H:List (Ob K)):Op->Option (AV K×List (Ob K)×Bool×List Nat)
 |.slice t x none (some y) none=>if cx.cut then match ev x,ev y,elemOf? cx.P t with
   |.sl h,.int _ n,some e=>match H[h]? with
     |some (.arr c l)=>if cF cx.P e=some (K.sz c)then some (.sl H.length,H.set h .dead++[.arr c (l.take n.toNat)],bF 0 n l.length,[h])else none
     |some (.tree c l)=>if cF cx.P e=some (K.sz c)then some (.sl H.length,H.set h .dead++[.tree c (l.take n.toNat)],bF 0 n l.length,[h])else none
     |_=>none
   |_,_,_=>none else none
 |.slice t x (some y) none none=>if cx.cut then match ev x,ev y,elemOf? cx.P t with
   |.sl h,.int _ n,some e=>match H[h]? with
     |some (.arr c l)=>if cF cx.P e=some (K.sz c)/\cx.D.kN c=none then some (.sl H.length,H.set h .dead++[.arr c (l.drop n.toNat)],bF n l.length l.length,[h])else none
     |some (.tree c l)=>if cF cx.P e=some (K.sz c)/\cx.D.kN c=none then some (.sl H.length,H.set h .dead++[.tree c (l.drop n.toNat)],bF n l.length l.length,[h])else none
     |_=>none
   |_,_,_=>none else none
 |_=>none
def yw(cx:Cx K)(ev:Operand->AV K)(H:List (Ob K)):Op->Option (AV K×List (Ob K)×Bool×List Nat)
 |.buildSlice t len parts=>match elemOf? cx.P t with
   |none=>none
   |some e=>match cx.ty e,inOrder ev 0 parts.toList with
    |some c,some l=>if cF cx.P e=some (K.sz c)/\lP cx.P e=true/\l.length=len/\len<=4096/\K.sz c<=4096/\l.all (fun v=>fj v.bf&&(v.known&&decide (v.bf.length=K.sz c)))=true then
      match nq cx.D c l with
      |some (y,b)=>some (.ar c y,H,b,[])
      |none=>none
     else none
    |_,_=>none
 |_=>none
def jR(q:Bool)(cx:Cx K)(tm:List (AV K))(gs:List (Nat×Bool))(H:List (Ob K))(T:TypeId):Op->Option (AV K×List (Ob K)×Bool×List Nat)
 |.pick c x y=>match c,cM tm gs c with
   |.tmp t,.bool b=>match known cx t with
     |some b0=>some (cond b0 (cM tm gs x) (cM tm gs y),H,b==b0,[])
     |none=>some (merge b (cM tm ((t,true)::gs) x) (cM tm ((t,false)::gs) y),H,true,[])
   |.const _,.bool b=>some (merge b (cM tm gs x) (cM tm gs y),H,true,[])
   |_,_=>none
 |.call {callee:=.value f,args, ..}=>match cM tm gs f with
   |.fn g caps=>vU q cx H g (args.toList.map (fun x=>dm H (cM tm gs x))++caps)
   |_=>none
 |.assign x=>if !q&&Ig x then match elemOf? cx.P T with
     |some e=>match cx.ty e with
      |some c=>some (.sl H.length,H++[cond (cx.deep c) (.tree c []) (.arr c [])],true,[])
      |none=>some (cM tm gs x,H,true,[])
     |none=>some (cM tm gs x,H,true,[])
   else some (dm H (cM tm gs x),H,true,[])
 |op=>match sU cx (fun x=>dm H (cM tm gs x)) H op with
  |some (v,c)=>some (v,H,c,[])
  |none=>if q then yw cx (fun x=>dm H (cM tm gs x)) H op else if gX cx op then none else match vS cx (cM tm gs) H op with
   |some r=>some r
   |none=>match cutV cx (cM tm gs) H op with
   |some r=>some r
   |none=>vR cx (cM tm gs) H op
def lT(cx:Cx K):Op->Bool
 |.assign _=>true
 |.slice t ..=> !cx.cut||TV cx.P t
 |.call {callee:=.value (.func f), ..}=>cx.mode f== .plain||cx.mode f== .gB
 |op=>gX cx op
def agj(cx:Cx K):Op->Bool
 |.buildSlice ..=>true
 |op=>lT cx op
def gz(q:Bool)(cx:Cx K)(ops:List Oper)(tm:List (AV K))(H:List (Ob K))(wr:List Nat)(o:Oper):Option (AV K×List (Ob K)×Bool):=
 match guardOf ops o with
 |none=>none
 |some none=>match jR q cx tm [] H o.type o.op with
  |some (v,H',c,_)=>if v.il then none else some (v,H',c)
  |none=>none
 |some (some (g,w))=>match known cx g with
  |some b0=>match tm[g]? with
   |some (.bool b)=>if b0=w then match jR q cx tm [] H o.type o.op with
     |some (v,H',c,_)=>if v.il then none else some (v,H',c&&(b==b0))
     |none=>none
    else some (.any,H,b==b0)
   |_=>none
  |none=>match vv tm 6 (g,w)with
   |none=>none
   |some b=>if agj cx o.op&&wr.contains g then match jR true cx tm [(g,w)] H o.type o.op with
     |some (v,_,c,_)=>some (.opt g w v,H,c|| !b)
     |none=>none else none
def vY(cx:Cx K)(ops:List Oper)(st:St K)(wr:List Nat)(o:Oper):Option (St K×List Nat):=
 match gz false cx ops st.tm st.H wr o with
 |some (v,H',c)=>sW st wr o.dst v H' (c&&st.ok)
 |none=>none
def jS(cx:Cx K)(ops:List Oper):List Oper->St K->List Nat->Option (St K×List Nat)
 |[],st,wr=>some (st,wr)
 |o::r,st,wr=>match vY cx ops st wr o with
  |some (st',wr')=>jS cx ops r st' wr'
  |none=>none
def im(tm:List (AV K)):List Nat->List (AV K)
 |[]=>tm
 |d::r=>match tm[d]? with
  |some (.opt ..)=>im (tm.set d .any) r
  |_=>im tm r
def f0:List Oper->List Nat->List Nat
 |[],acc=>acc
 |o::r,acc=>f0 r (acc++[o.after.toList.foldl (fun s e=>s|||2^e.on|||acc.getD e.on 0) 0])
def dz(bits:Nat):List Oper->Nat->List (AV K)->List (AV K)
 |[],_,tm=>tm
 |o::r,i,tm=>dz bits r (i+1) (match o.dst with
  |some d=>if bits.testBit i then tm else tm.set d .any
  |none=>tm)
def yx(i:Nat):Nat->List Nat->Nat
 |_,[]=>0
 |k,b::r=>(cond (b.testBit i) (2^k) 0)|||yx i (k+1) r
def dJ(bs:List Nat)(i:Nat):Nat:=bs.getD i 0|||yx i 0 bs
def kO(cx:Cx K)(ops:List Oper)(bs:List Nat):List Oper->Nat->St K->List Nat->Option (St K×List Nat)
 |[],_,st,wr=>some (st,wr)
 |o::r,i,st,wr=>match gz true cx ops (dz (dJ bs i) ops 0 st.tm) st.H wr o with
  |some (v,_,c)=>match sW st wr o.dst v st.H (c&&st.ok)with
   |some (st',wr')=>kO cx ops bs r (i+1) st' wr'
   |none=>none
  |none=>none
def i9:List Oper->Nat->Bool
 |[],_=>true
 |o::r,i=>(o.after.toList.all fun e=>decide (e.on<i)&&Region.binds .any e)&&i9 r (i+1)
def gA(bits:Nat):Nat->List (Ob K)->List (Ob K)
 |_,[]=>[]
 |i,o::r=>(if bits.testBit i then .dead else o)::gA bits (i+1) r
def jv(bits:Nat):Nat->List (Ob K)->List (Ob K)->List (Ob K)
 |i,o::r,o'::r'=>(if bits.testBit i then o else o')::jv bits (i+1) r r'
 |_,[],r'=>r'
 |_,_::_,[]=>[]
mutual
def AV.upto(n:Nat):AV K->Bool
 |.ptr h _|.sl h|.ep h _ _ _|.np h|.vw h _ _ _=>decide (h<n)
 |.fn _ l|.agg l|.aX l=>ny n l
 |.opt _ _ v=>v.upto n
 |_=>true
def ny(n:Nat):List (AV K)->Bool
 |[]=>true
 |v::r=>v.upto n&&ny n r
end
def Ob.upto(n:Nat):Ob K->Bool
 |.box cs=>ny n cs
 |.opn _ _ _ _ cs=>ny n cs
 |_=>true
def ip(ev:Operand->AV K)(op:Op):List Nat:=
 jQ ev op++(match op with
  |.store _ p _=>hands (ev p)
  |.call {callee:=.builtin .append,args, ..}=>(match args.toList with
    |s::x::_=>hands (ev s)++hands (ev x)
    |[s]=>hands (ev s)
    |[]=>[])
  |.call {callee:=.builtin .clear,args, ..}=>(match args.toList with
    |s::_=>hands (ev s)
    |[]=>[])
  |.call {callee:=.builtin .copy,args, ..}=>(match args.toList with
    |s::_=>hands (ev s)
    |[]=>[])
  |_=>[])
def qG(cx:Cx K):Op->Bool
 |.box .. |.alloc _|.build .. |.store .. |.makeSlice .. |.buildSlice .. |.convert .. |.slice ..=>true
 |.call {callee:=.builtin .append, ..}=>true
 |.call {callee:=.value (.func f), ..}=>(cx.mode f== .fresh||(cx.mode f== .pass||cx.mode f== .eM))&&(!cx.opn||cx.lz)
 |.load ..=>cx.opn&&cx.lz
 |_=>false
def Ih(ev:Operand->AV K):Op->List Nat
 |.call {callee:=.value _,args, ..}=>bo (args.toList.map ev)
 |_=>[]
def vZ(cx:Cx K)(H:List (Ob K))(ev:Operand->AV K):Op->List Nat
 |.call {callee:=.value (.func f),args, ..}=>(match cx.mode f with
   |.pass=>reach H 64 (bo (args.toList.map fun y=>dm H (ev y))) []
   |.eM=>bo (args.toList.map fun y=>dm H (ev y))++reach (gW H (bo (args.toList.map fun y=>dm H (ev y)))) 64 (bo (nu (gW H (bo (args.toList.map fun y=>dm H (ev y)))) (args.toList.map fun y=>dm H (ev y)))) []
   |_=>[])
 |_=>[]
def bitsOf:List Nat->Nat
 |[]=>0
 |h::r=>2^h|||bitsOf r
def v7(cx:Cx K)(ops:List Oper)(tm:List (AV K))(H:List (Ob K))(wr:List Nat)(o:Oper):Option (AV K×List (Ob K)×Bool):=
 if lT cx o.op then gz true cx ops tm H wr o else if qG cx o.op then gz false cx ops tm H wr o else none
def nz(cx:Cx K)(tm:List (AV K))(H:List (Ob K))(op:Op):List Nat:=if lT cx op then[]else match op with
 |.load t p=>(match sU cx (fun x=>dm H (cM tm [] x)) H (.load t p)with
   |some _=>[]
   |none=>hands (cM tm [] p))
 |op=>(ip (cM tm []) op++Ih (cM tm []) op)++vZ cx H (cM tm []) op
def v8(A:Nat):Nat->List Nat->Nat
 |_,[]=>0
 |k,b::r=>(if A.testBit k then 0 else b)|||v8 A (k+1) r
def B8(A:Nat)(T:List Nat):Nat->List (Nat×Nat)->Bool
 |_,[]=>true
 |i,(m,n)::r=>(A.testBit i||T.all fun h=>decide (n<=h)||m.testBit h)&&B8 A T (i+1) r
def agk:Op->Option (List Operand)
 |.slice _ x _ _ _=>some [x]
 |.move _=>some []
 |.load _ p=>some [p]
 |.fieldAddr ..=>some []
 |.indexAddr _ x _=>some [x]
 |.nilCheck _=>some []
 |.store _ p x=>some [p,x]
 |.binOp ..=>some []
 |.unOp ..=>some []
 |_=>none
def TZ(tm:List (AV K))(n:Nat)(op:Op):Nat:=
 match agk op with
 |none=>0
 |some l=>bitsOf ((List.range n).filter fun h=> !(bo (l.map (cM tm []))).contains h)
def oW(bs ws:List Nat)(i:Nat)(tm:List (AV K))(n:Nat)(op:Op):Nat:=v8 (bs.getD i 0) 0 ws|||TZ tm n op
def oY(cx:Cx K)(ops:List Oper)(bs:List Nat):List Oper->Nat->St K->List Nat->List (Nat×Nat)->List Nat->Option (St K×List Nat)
 |[],_,st,wr,_,_=>some (st,wr)
 |o::r,i,st,wr,ms,ws=>
  if ny st.H.length (dz (dJ bs i) ops 0 st.tm)&&(gA (oW bs ws i (dz (dJ bs i) ops 0 st.tm) st.H.length o.op) 0 st.H).all (Ob.upto st.H.length)then
   match v7 cx ops (dz (dJ bs i) ops 0 st.tm) (gA (oW bs ws i (dz (dJ bs i) ops 0 st.tm) st.H.length o.op) 0 st.H) wr o with
   |none=>none
   |some (v,H',c)=>
    if(B8 (bs.getD i 0) (nz cx (dz (dJ bs i) ops 0 st.tm) (gA (oW bs ws i (dz (dJ bs i) ops 0 st.tm) st.H.length o.op) 0 st.H) o.op) 0 ms&&(nz cx (dz (dJ bs i) ops 0 st.tm) (gA (oW bs ws i (dz (dJ bs i) ops 0 st.tm) st.H.length o.op) 0 st.H) o.op).all fun h=> !(oW bs ws i (dz (dJ bs i) ops 0 st.tm) st.H.length o.op).testBit h&&decide (h<st.H.length))&&decide (st.H.length<=H'.length)then
     match sW st wr o.dst v (jv (oW bs ws i (dz (dJ bs i) ops 0 st.tm) st.H.length o.op) 0 st.H H') (c&&st.ok)with
     |some (st',wr')=>oY cx ops bs r (i+1) st' wr' (ms++[(oW bs ws i (dz (dJ bs i) ops 0 st.tm) st.H.length o.op,st.H.length)])
       (ws++[bitsOf (nz cx (dz (dJ bs i) ops 0 st.tm) (gA (oW bs ws i (dz (dJ bs i) ops 0 st.tm) st.H.length o.op) 0 st.H) o.op++List.range' st.H.length (H'.length-st.H.length))])
     |none=>none
    else none
  else none
def nA(cx:Cx K)(ops:List Oper)(st:St K):Option (St K):=
 if(ops.all fun o=>lT cx o.op)&&i9 ops 0 then match kO cx ops (f0 ops []) ops 0 st []with
     |some (st',wr)=>some ⟨im st'.tm wr,st'.H,st'.ok⟩
     |none=>none
  else if i9 ops 0 then match oY cx ops (f0 ops []) ops 0 st [] [] []with
   |some (st',wr)=>some ⟨im st'.tm wr,st'.H,st'.ok⟩
   |none=>none
  else none
def yy(π:List Nat)(n:Nat):Bool:=decide (π.length=n)&&(π.all (fun i=>decide (i<n))&&((List.range n).all (fun i=>π.contains i)&&jt π))
def sX(π:List Nat)(n:Nat)(o:Oper):Oper:=
 {o with after:=(o.after.filter (Region.binds .any)).map (fun e=>{e with on:=(π.idxOf? e.on).getD n}),guard:=o.guard.map fun g=>((π.idxOf? g.1).getD n,g.2)}
def permuted(π:List Nat)(ops:List Oper):List Oper:=π.map fun i=>match ops[i]? with
 |some o=>sX π ops.length o
 |none=>{dst:=none,op:=.move (.const .nilIface),type:=0,pos:= "",after:= #[],guard:=none}
def T0(cx:Cx K)(ops:List Oper)(bs:List Nat):List Nat:=
 match(List.range ops.length).foldl (fun acc i=>match ops[i]? with
  |some o=>if qG cx o.op&&(!lT cx o.op&& !acc.contains i)then acc++((List.range ops.length).filter fun j=>(bs.getD i 0).testBit j&& !acc.contains j)++[i]else acc
  |none=>acc) []with
 |acc=>acc++(List.range ops.length).filter fun j=> !acc.contains j
def yz(cx:Cx K)(ops:List Oper)(π:List Nat)(st:St K):Option (St K):=
 if yy π ops.length then nA cx (permuted π ops) st else none
def Ii(cx:Cx K)(ops:List Oper)(st:St K):Option (St K):=
 if i9 ops 0 then match nA cx ops st with
  |some r=>some r
  |none=>yz cx ops (T0 cx ops (f0 ops [])) st
 else match yz cx ops (List.range ops.length) st with
  |some r=>some r
  |none=>yz cx ops (T0 cx ops (f0 (permuted (List.range ops.length) ops) [])) st
def kn(cx:Cx K)(ops:List Oper)(draw:Bool)(st:St K):Option (St K):=
 if draw then Ii cx ops st
 else match jS cx ops ops st []with
  |some (st',wr)=>some ⟨im st'.tm wr,st'.H,st'.ok⟩
  |none=>none
def writes:Code->List Nat
 |.region _ ops _=>ops.toList.filterMap (·.dst)
 |.seq a b=>writes a++writes b
 |.cond _ a b=>writes a++writes b
 |.block _ c=>writes c
 |.loop c=>writes c
 |.scope c=>writes c
 |.rangeFunc _ ps a c=>ps.toList++writes a++writes c
 |_=>[]
def simple(cx:Cx K):Code->Bool
 |.skip=>true
 |.region _ ops _=>ops.toList.all fun o=>gX cx o.op
 |.seq a b=>simple cx a&&simple cx b
 |.cond _ a b=>simple cx a&&simple cx b
 |_=>false
def iq(b:Bool)(wr:List Nat):Nat->List (AV K)->List (AV K)->List (AV K)->List (AV K)
 |n,v::r,x::s,y::t=>(if wr.contains n then merge b x y else v)::iq b wr (n+1) r s t
 |_,_,_,_=>[]
def dn(tm:List (AV K)):List Nat->List (AV K)->List (AV K)
 |d::r,v::s=>dn (tm.set d v) r s
 |_,_=>tm
def keyOf:Code->Nat
 |.region id _ _=>id
 |.seq a _=>keyOf a
 |.cond _ a _=>keyOf a
 |.block _ c=>keyOf c
 |.loop c=>keyOf c
 |_=>0
def inLoop(H:List (Ob K))(vals:List (AV K)):Option (List Nat×List (AV K)×List (Ob K)):=
 if sJ H (reach H 64 (bo vals) [])then match TY (reach H 64 (bo vals) []) vals,kM (BJ (reach H 64 (bo vals) [])) ((reach H 64 (bo vals) []).map fun h=>H.getD h .dead)with
  |some jw,some Hi=>some (reach H 64 (bo vals) [],jw,Hi)
  |_,_=>none
 else none
def fk(m:List Nat)(n k:Nat):List Nat:=m++(List.range (k-m.length)).map (n+·)
def B9(L:bQ K)(m:List Nat)(st:St K)(vs:List (AV K))(Ho:List (Ob K)):Option (St K):=
 match agi (fk m st.H.length Ho.length) vs,kM (sK (fk m st.H.length Ho.length)) Ho with
 |some vs',some fH=>if m.length<=Ho.length then some ⟨dn (List.replicate L.n .any) L.outs vs',ik st.H m (fH.take m.length)++fH.drop m.length,st.ok⟩else none
 |_,_=>none
def agl(ops:List Oper):List Nat:=(ops.filterMap fun o=>match guardOf ops o with
 |some (some (g,_))=>some g
 |_=>none).eraseDups
def yA(cx:Cx K)(ops:List Oper)(draw:Bool)(st:St K):List Nat->Option (Bool×St K×St K)
 |[]=>none
 |t::r=>match kn {cx with gs:=some (t,true)} ops draw st,kn {cx with gs:=some (t,false)} ops draw st with
  |some s1,some s2=>match s1.tm.getD t .any with
   |.bool b=>some (b,s1,s2)
   |_=>yA cx ops draw st r
  |_,_=>yA cx ops draw st r
def wa:Ex->St K->Option (St K)
 |.normal,st=>some st
 |_,_=>none
def eL(cx:Cx K):Code->{R:Type}->St K->(Ex->St K->Option R)->Option R
 |.skip,_,st,k=>k .normal st
 |.region _ ops draw,_,st,k=>match kn cx ops.toList draw st with
   |some st'=>k .normal st'
   |none=>match yA cx ops.toList draw st (agl ops.toList)with
    |some (b,s1,s2)=>cond b (k .normal s1) (k .normal s2)
    |none=>if(ops.toList.all fun o=>gX cx o.op)=true then none else match kn {cx with call:=cx.alt true,mode:=cx.B0 true} ops.toList draw st,kn {cx with call:=cx.alt false,mode:=cx.B0 false} ops.toList draw st with
     |some s1,some s2=>cx.Ht (k .normal s1) (k .normal s2)
     |_,_=>none
 |.seq a b,_,st,k=>eL cx a st fun e s=>match e with
   |.normal=>eL cx b s k
   |e=>k e s
 |.cond c a b,_,st,k=>match cM st.tm [] c with
   |.bool t=>if simple cx a&&simple cx b then
       match eL cx a st wa,eL cx b st wa with
       |some sa,some sb=>k .normal ⟨iq t (writes a++writes b) 0 st.tm sa.tm sb.tm,st.H,(sa.ok|| !t)&&(sb.ok||t)⟩
       |_,_=>none
     else cond t (eL cx a st k) (eL cx b st k)
   |_=>none
 |.block id c,_,st,k=>eL cx c st fun e s=>match e with
   |.exit i=>if i=id then k .normal s else k (.exit i) s
   |e=>k e s
 |.loop c,_,st,k=>match cx.loop (keyOf c)with
   |some L=>if st.tm.length=L.n then match inLoop st.H (L.ins.map fun t=>st.tm.getD t .any)with
     |some (m,vals,Hi)=>L.run vals Hi fun e vs Ho=>match B9 L m st vs Ho with
      |some st'=>k e st'
      |none=>none
     |none=>none else none
   |none=>none
 |.exit id,_,st,k=>k (.exit id) st
 |.ret,_,st,k=>k .ret st
 |_,_,_,_=>none
def qH(cx:Cx K)(st:St K):List ResultVar->Option (List (AV K))
 |[]=>some []
 |.tmp t::r=>match qH cx st r with
   |some l=>some (st.tm.getD t .any::l)
   |none=>none
 |.cell a t::r=>match B6 cx.P cx.D st.H t (st.tm.getD a .any),qH cx st r with
   |some v,some l=>some (v::l)
   |_,_=>none
def resV(cx:Cx K)(fn:Func)(st:St K):Option (AV K):=
 match qH cx st fn.results.toList with
 |some [v]=>some (dm st.H v)
 |some l=>some (.aX (nu st.H l))
 |none=>none
def sY{α β:Type}(f:α->Option β):List α->Option (List β)
 |[]=>some []
 |x::r=>match f x,sY f r with
  |some y,some l=>some (y::l)
  |_,_=>none
def qI(src:List (Option Nat))(h:Nat):Option Nat:=src.idxOf? (some h)
def qJ(n0 n:Nat):Nat->List (Option Nat)->Bool
 |_,[]=>true
 |i,none::r=>decide (i<n0)&&qJ n0 n (i+1) r
 |i,some h::r=>decide (h<n)&&((decide (n0<=i)||decide (h=i))&&(!r.contains (some h)&&qJ n0 n (i+1) r))
def sZ(src:List (Option Nat))(H:List (Ob K)):Option Nat->Option (Ob K)
 |none=>some .dead
 |some h=>match H[h]? with
  |some o=>js (qI src) o
  |none=>none
def oZ(n0:Nat)(src:List (Option Nat))(keep:List Nat)(st:St K):Option (St K):=
 if qJ n0 st.H.length 0 src&&decide (n0<=src.length)then
  match ij (qI src) (keep.map fun t=>st.tm.getD t .any),sY (sZ src st.H) src with
  |some vs,some H=>some ⟨dn (List.replicate st.tm.length .any) keep vs,H,st.ok⟩
  |_,_=>none
 else none
def s6(n0:Nat)(keep:List Nat)(st:St K):Option (St K):=
 oZ n0 ((reach st.H 64 (List.range n0++bo (keep.map fun t=>st.tm.getD t .any)) []).map some) keep st
def qK(cx:Cx K)(s:St K):Option (Bool×St K):=match Ie s.H with
 |none=>some (true,s)
 |some _=>match shut cx.D s.H with
  |some (H',b,_)=>some (b,⟨s.tm,H',s.ok⟩)
  |none=>none
def Cb(cx:Cx K)(n0:Nat)(keep outs:List Nat)(body:Code)(st:St K):Option (St K⊕Ex×St K):=
 eL cx body st fun e s=>cond s.ok (match e with
  |.normal=>match qK cx s with
    |some (b,s1)=>cond b (match s6 n0 keep s1 with
     |some s'=>some (.inl s')
     |none=>none) none
    |none=>none
  |e=>match qK cx s with
   |some (b,s1)=>cond b (match s6 n0 outs s1 with
    |some s'=>some (.inr (e,s'))
    |none=>none) none
   |none=>none) none
def Ij(n0:Nat)(src:List (Option Nat))(v:AV K)(H:List (Ob K)):Option (AV K×List (Ob K)):=
 if qJ n0 H.length 0 src&&decide (n0<=src.length)then
  match dV (qI src) v,sY (sZ src H) src with
  |some v',some H'=>some (v',H')
  |_,_=>none
 else none
def pack(n0:Nat)(v:AV K)(H:List (Ob K)):Option (AV K×List (Ob K)):=
 Ij n0 ((reach H 64 (List.range n0++hands v) []).map some) v H
def Ik(H:List (Ob K))(h:Nat):Bool:=match H[h]? with
 |some (.arr ..)=>false
 |some (.eZ ..)=>false
 |some (.tree ..)=>false
 |_=>true
def agm(n0:Nat)(v:AV K)(H:List (Ob K)):List (Option Nat):=
 ((List.range n0).map fun h=>cond (Ik H h) (some h) none)++((reach H 64 ((List.range n0).filter (Ik H)++hands v) []).filter fun h=> !(decide (h<n0)&&Ik H h)).map some
def Cc(mv:Bool)(n0:Nat)(v:AV K)(H:List (Ob K)):Option (AV K×List (Ob K)):=
 Ij n0 (cond mv (agm n0 v H) ((reach H 64 (List.range n0++hands v) []).map some)) v H
def agn(cx:Cx K)(fn:Func)(n0:Nat)(e:Ex)(st:St K):Option (AV K×List (Ob K)):=
 match e with
 |.exit _=>none
 |_=>match resV cx fn st with
  |some v=>cond st.ok (pack n0 v st.H) none
  |none=>none
def aiN(cx:Cx K)(fn:Func)(args:List (AV K))(H:List (Ob K)):Option (AV K×List (Ob K)):=
 match fn.body with
 |some c=>eL cx c ⟨args++List.replicate (fn.ntmps-args.length) .any,H,true⟩ (agn cx fn H.length)
 |none=>none
end Go.V
