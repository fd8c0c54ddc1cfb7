/-
  A VALUE-LEVEL READING OF THE LOADED CODE: abstract values, objects, operations, and a function 'execC' that runs a body on them. Nothing here speaks of one program: the program is a parameter. The proofs that what it yields is what the machine does are in the texts that follow.
-/
import Derived.WalkKit
import Derived.KernelRfl
import Derived.Orders
import Derived.Lib.Strings
import Derived.Laws.BytesArg
import Derived.Laws.StructEq
universe u v
theorem an{α:Type u}{a:α}:(some a).isSome=true:=rfl
theorem ak{α:Type u}{a b:α}:(some a).getD b=a:=rfl
abbrev av := @Option.some.injEq
abbrev aj := @Bool.and_self
abbrev aE := @List.length_append
theorem ad{α:Sort u}(a b:α):(bif true then a else b)=a:=rfl
theorem aC{α:Type u}{a:α}{as:List α}:(a::as).length=as.length+1:=rfl
theorem al{α:Sort u}(a b:α):(bif false then a else b)=b:=rfl
theorem aJ{α:Type u}:([]:List α).length=0:=rfl
abbrev aN := @Prod.mk.injEq
abbrev bz := @Bool.and_eq_true
abbrev cG := @List.getElem?_eq_some_iff
abbrev cH := @List.getElem?_eq_getElem
abbrev bo := @Bool.not_false
theorem bN(n:Nat):(n:Int).toNat=n:=rfl
abbrev bj := @Bool.true_and
abbrev ct := @decide_eq_true_eq
abbrev bu := @Bool.true_or
abbrev cL := @beq_eq_false_iff_ne
abbrev cr := @beq_self_eq_true
abbrev bM := @Bool.and_true
abbrev d4 := @List.getElem?_append_left
abbrev b9 := @Bool.not_true
abbrev cJ := @Bool.false_and
abbrev ff := @List.getElem?_append_right
abbrev cN := @decide_eq_true
abbrev dt := @List.getElem_mem
abbrev cY := @decide_eq_false
abbrev de := @List.mem_append
abbrev cu := @Nat.le_refl
abbrev fE := @decide_eq_false_iff_not
abbrev fF := @Option.map_eq_some_iff
abbrev cQ := @Nat.lt_or_ge
abbrev gK := @List.getD_eq_getElem?_getD
abbrev eI := @List.mem_singleton
abbrev cM := @Nat.zero_le
abbrev cK := @beq_iff_eq
abbrev aP := @if_neg
abbrev aT := @if_pos
abbrev fq := @List.getElem?_take
abbrev dC := @Nat.zero_add
abbrev eJ := @List.length_map
abbrev gC := @Nat.mul_le_mul_right
abbrev fX := @List.append_assoc
theorem eP{α:Type u}(as:List α):[]++as=as:=rfl
abbrev fG := @List.all_eq_true
abbrev ga := @Bool.not_eq_true'
abbrev eQ := @List.map_cons
abbrev eY := @List.mem_cons
abbrev iT := @List.mem_of_getElem?
abbrev ek := @Bool.or_true
abbrev ln := @Array.getElem?_eq_some_iff
abbrev kj := @Int.eq_ofNat_of_zero_le
abbrev mE := @List.eq_nil_of_length_eq_zero
abbrev eA := @Nat.add_mul
abbrev eB := @decide_true
abbrev ia := @Bool.or_eq_true
abbrev jy := @List.getElem?_drop
abbrev iv := @Option.some.inj
abbrev fY := @Int.ofNat_lt
abbrev lp := @List.getElem?_eq_none
abbrev mF := @List.getElem?_replicate
abbrev oy := @Array.getD_eq_getD_getElem?
abbrev jQ := @List.getElem?_map
abbrev kF := @Bool.false_eq_true
abbrev pA := @Array.getElem?_setIfInBounds
abbrev lR := @Bool.or_eq_false_iff
abbrev lq := @Nat.lt_of_lt_of_le
abbrev jj := @List.drop_zero
abbrev lr := @List.getElem?_set
abbrev jk := @Nat.add_assoc
abbrev lS := @of_decide_eq_true
theorem jz{α:Type u}{a:α}{as bs:List α}:(a::as)++bs=a::(as++bs):=rfl
abbrev iF := @Nat.one_mul
theorem iU{α:Type u}{β:Type v}(a:α)(f:α->β):Option.map f (some a)=some (f a):=rfl
abbrev qO := @Array.getElem?_eq_none
abbrev m8 := @decide_eq_decide
abbrev pB := @Nat.eq_zero_or_pos
abbrev m9 := @Bool.eq_iff_iff
abbrev lT := @Bool.or_false
abbrev pC := @List.size_toArray
abbrev ib := @congrArg
abbrev sE := @List.getElem_of_mem
abbrev na := @Bool.false_or
abbrev wV := @Array.getElem?_eq_getElem
abbrev wW := @List.pairwise_iff_getElem
abbrev mG := @Nat.le_trans
abbrev uS := @Array.replicate_succ
abbrev nb := @decide_false
abbrev uT := @List.append_toArray
abbrev sF := @List.length_take
abbrev sG := @Bool.not_eq_true
abbrev sH := @List.not_mem_nil
abbrev uU := @Bool.false_ne_true
abbrev wX := @List.contains_eq_mem
abbrev sJ := @List.append_nil
abbrev uV := @List.push_toArray
abbrev pD := @Bool.or_self
abbrev C9 := @List.take_append_of_le_length
abbrev zA := @List.take_of_length_le
abbrev zB := @Nat.eq_of_beq_eq_true
abbrev uW := @List.map_append
abbrev wY := @List.ext_getElem?
abbrev uX := @List.drop_drop
abbrev lU := @if_false
abbrev wZ := @List.drop_length
abbrev qP := @Nat.mul_one
abbrev pE := @bne_iff_ne
abbrev Da := @Array.getElem?_replicate
abbrev w8 := @Nat.not_lt_zero
abbrev w9 := @Nat.testBit_or
abbrev uY := @Nat.add_comm
abbrev Db := @List.length_replicate
abbrev zC := @List.getElem_map
abbrev Dc := @List.mem_cons_of_mem
abbrev sK := @decide_not
abbrev xa := @List.mem_map
abbrev nc := @if_true
abbrev pF := @Ne.symm
abbrev zD := @Nat.zero_mul
abbrev Df := @List.length_set
abbrev zE := @getElem!_pos
abbrev sL := @or_false
theorem nf{α:Type u}{a:α}{l:List α}{f:α->Bool}:(a::l).all f=(f a&&l.all f):=rfl
abbrev H3 := @List.take_add_one
abbrev Dh := @Nat.sub_self
abbrev Di := @Nat.mul_comm
abbrev H4 := @List.take_length
abbrev H5 := @List.nodup_cons
abbrev zF := @true_and
namespace Go.V
open Go
structure df where
 U:Type
 El:U->Type
 kG:DecidableEq U
 sz:U->Nat
 zero:(c:U)->El c
inductive AV (K:df) where
 |any
 |int (k:IntKind) (n:Int)
 |bool (b:Bool)
 |str (s:List UInt8)
 |dA
 |dn
 |mp
 |fn (f:Nat) (caps:List (AV K))
 |ptr (h off:Nat)
 |sl (h:Nat)
 |ep (h st i off:Nat)
 |ax (c:K.U) (l:List (K.El c))
 |rp (c:K.U) (x:K.El c) (off:Nat)
 |agg (l:List (AV K))
 |bB (l:List (AV K))
 |opt (g:Nat) (want:Bool) (v:AV K)
 |np (h:Nat)
 |vw (h st lo hi:Nat)
inductive Ob (K:df) where
 |dead
 |box (cells:List (AV K))
 |arr (c:K.U) (l:List (K.El c))
 |ic (c:K.U) (l:List (K.El c))
 |tree (c:K.U) (l:List (K.El c))
 |opn (c:K.U) (l:List (K.El c)) (i off:Nat) (cs:List (AV K))
structure Base where
 inv:(Nat->Prop)->World->Prop
 mono:∀{S S':Nat->Prop}{w w':World},(∀b,S b->S' b)->(∀b,S b->w'.heap[b]?=w.heap[b]?)->inv S w->inv S' w'
def Base.NU:Base:=⟨fun _ _=>True,fun _ _ h=>h⟩
structure bE (K:df) where
 cells:(c:K.U)->K.El c->List (AV K)
 dec:(c:K.U)->List (AV K)->Option (K.El c×Bool)
 byte:(c:K.U)->Option ((K.El c->UInt8)×(UInt8->K.El c))
 find:List (AV K)->Option K.U
 base:Base:=Base.NU
 qQ:Option TypeId:=none
 sM:K.U->Option TypeId:=fun _=>none
variable {K :df}
def AV.cA:AV K->List (AV K)
 |.agg l=>l
 |v=>[v]
def AV.known:AV K->Bool
 |.any|.opt ..=>false
 |_=>true
def AV.jR:AV K->Bool
 |.opt ..=>true
 |_=>false
def AV.one:AV K->Bool
 |.any|.opt .. |.agg _|.bB _|.vw ..=>false
 |_=>true
structure St (K:df) where
 tm:List (AV K)
 H:List (Ob K)
 ok:Bool
inductive Ex where
 |normal
 |exit (id:Nat)
 |ret
def Ex.oz:Ex->Exit
 |.normal=>.normal
 |.exit id=>.exit id
 |.ret=>.ret
structure bQ (K:df) where
 n:Nat
 ins:List Nat
 outs:List Nat
 run:{R:Type}->List (AV K)->List (Ob K)->(Ex->List (AV K)->List (Ob K)->Option R)->Option R
inductive Mode where
 |plain|jA|jB|pass|aZ|fresh
 deriving DecidableEq
def H6{R:Type}(a b:Option R):Option R:=match a with
 |none=>b
 |some r=>some r
theorem ab3{R:Type}{a b:Option R}{r:R}(h:H6 a b=some r):a=some r\/b=some r:=by
 cases a with
 |none=>exact .inr h
 |some x=>exact .inl h
structure Cx (K:df) where
 P:Program
 D:bE K
 ty:TypeId->Option K.U
 call:FuncId->List (AV K)->List (Ob K)->Option (AV K×List (Ob K)×Bool)
 mode:FuncId->Mode
 loop:Nat->Option (bQ K)
 oC:TypeId->List (Option K.U)
 cut:Bool:=false
 xb:List (List (Option K.U)):=[]
 NV:List Bool:=[]
 mv:Bool:=false
 deep:K.U->Bool:=fun _=>false
 opn:Bool:=false
 vws:Bool:=false
 vtl:Bool:=false
 lz:Bool:=false
 alt:Bool->FuncId->List (AV K)->List (Ob K)->Option (AV K×List (Ob K)×Bool):=fun _ _ _ _=>none
 qR:Bool->FuncId->Mode:=fun _=>mode
 zG:{R:Type}->Option R->Option R->Option R:=fun a b=>H6 a b
 gs:List (Nat×Bool):=[]
def known(cx:Cx K)(g:Nat):Option Bool:=(cx.gs.find? fun p=>p.1==g).map (·.2)
mutual
def lV:Value->Option (AV K)
 |.bool b=>some (.bool b)
 |.int k n=>some (.int k n)
 |.string s=>some (.str s.data.toList)
 |.pointer none=>some .dA
 |.slice none 0 0=>some .dn
 |.map none=>some .mp
 |.agg cs=>(zH cs.toList).map .agg
 |_=>none
def zH:List Value->Option (List (AV K))
 |[]=>some []
 |v::r=>match lV v,zH r with
  |some x,some l=>some (x::l)
  |_,_=>none
end
def covers(tm:List (AV K)):Nat->Nat×Bool->Nat×Bool->Bool
 |0,g,t=>g.1==t.1&&g.2==t.2
 |n+1,g,t=>(g.1==t.1&&g.2==t.2)||(match tm[g.1]? with
  |some (.opt g1 w1 _)=>covers tm n (g1,w1) t
  |_=>false)
def dQ(tm:List (AV K))(gs:List (Nat×Bool)):Operand->AV K
 |.tmp t=>match tm[t]? with
   |some (.opt g w v)=>if gs.any (fun p=>covers tm 6 p (g,w))then v else .any
   |some v=>v
   |none=>.any
 |.const v=>(lV v).getD .any
 |.global _=>.any
 |.func f=>.fn f []
def xc(tm:List (AV K)):Nat->Nat×Bool->Option Bool
 |0,_=>none
 |n+1,(g,w)=>match tm[g]? with
  |some (.bool b)=>some (b==w)
  |some (.opt g1 w1 (.bool b))=>(xc tm n (g1,w1)).map fun e=>e&&(b==w)
  |_=>none
mutual
def merge(b:Bool):AV K->AV K->AV K
 |.int k m,.int k' n=>if k=k' then .int k (cond b m n)else .any
 |.bool m,.bool n=>.bool (cond b m n)
 |.str m,.str n=>.str (cond b m n)
 |.ax c l,.ax c' l'=>match K.kG c c' with
   |.isTrue h=>.ax c' (cond b (h ▸ l) l')
   |.isFalse _=>.any
 |.agg l,.agg l'=>if l.length=l'.length then .agg (merges b l l')else .any
 |.dn,.dn=>.dn
 |.dA,.dA=>.dA
 |_,_=>.any
def merges(b:Bool):List (AV K)->List (AV K)->List (AV K)
 |x::r,y::s=>merge b x y::merges b r s
 |_,_=>[]
end
def oD(op:BinOp)(k:IntKind)(x y:Int):Int:=
 let a:=BitVec.ofInt k.bits x
 let b:=BitVec.ofInt k.bits y
 k.wrap ((match op with
   |.and=>(a&&& b)|.or=>(a|||b)|.xor=>(a^^^b)|_=>(a&&& ~~~b)).toNat)
def NW(k:IntKind)(x y:Int):Int:=k.wrap (x*2^(min y.toNat k.bits))
def H7(k:IntKind)(x y:Int):Int:=x.fdiv (2^(min y.toNat k.bits))
def ar(a b:List UInt8):Bool:=decide (a.length+b.length<=4611686018427387904)
def zI(a b:List UInt8):Bool:=Op.bytesLess a b
def H8(op:BinOp)(k:IntKind)(a b:Int):Option (AV K×Bool):=
 match op with
 |.add=>some (.int k (k.wrap (a+b)),true)
 |.sub=>some (.int k (k.wrap (a-b)),true)
 |.mul=>some (.int k (k.wrap (a*b)),true)
 |.quo=>some (.int k (k.wrap (a.tdiv b)),b !=0)
 |.rem=>some (.int k (a.tmod b),b !=0)
 |.and|.or|.xor|.andNot=>some (.int k (oD op k a b),true)
 |.eql=>some (.bool (a==b),true)
 |.neq=>some (.bool (a !=b),true)
 |.lss=>some (.bool (decide (a<b)),true)
 |.leq=>some (.bool (decide (a<=b)),true)
 |.gtr=>some (.bool (decide (b<a)),true)
 |.geq=>some (.bool (decide (b<=a)),true)
 |.shl|.shr=>none
def H9(op:BinOp)(a b:List UInt8):Option (AV K×Bool):=
 match op with
 |.add=>some (.str (a++b),ar a b)
 |.eql=>some (.bool (a==b),true)
 |.neq=>some (.bool (!(a==b)),true)
 |.lss=>some (.bool (zI a b),true)
 |.leq=>some (.bool (zI a b||a==b),true)
 |.gtr=>some (.bool (!(zI a b||a==b)),true)
 |.geq=>some (.bool (!zI a b),true)
 |_=>none
def NY(P:Program)(t:TypeId):Bool:=P.underlying t matches some .string
def Ia(P:Program)(t:TypeId):Bool:=P.underlying t matches some .bool
def Ib(op:UnOp):AV K->Option (AV K×Bool)
 |.bool b=>match op with
   |.not=>some (.bool (!b),true)
   |_=>none
 |.int k n=>match op with
   |.neg=>some (.int k (k.wrap (0-n)),true)
   |.xor=>some (.int k (oD .xor k (if k.signed then -1 else k.max) n),true)
   |_=>none
 |_=>none
def fH(P:Program)(t:TypeId):Option Nat:=(P.info? t).map (·.size)
def Ic(P:Program)(t:TypeId):Option Bool:=
 match P.underlying t with
 |some (.struct _)|some (.array _ _)=>some true
 |some _=>some false
 |none=>none
def Dj(P:Program)(t:TypeId)(f:Nat):Option Field:=
 match P.underlying t with
 |some (.struct fs)=>fs[f]?
 |_=>none
def elemOf?(P:Program)(t:TypeId):Option TypeId:=
 match P.underlying t with
 |some (.slice e)=>some e
 |_=>none
def zeroOf(P:Program)(t:TypeId):Option (AV K):=
 match P.info? t with
 |some i=>match i.zero with
  |some v=>lV v
  |none=>none
 |none=>none
def zJ(P:Program)(t:TypeId):Option IntKind:=
 match P.underlying t with
 |some (.int k)=>some k
 |_=>none
def oG(P:Program)(t:TypeId)(cs:List (AV K))(off:Nat):Option (AV K):=
 match Ic P t,fH P t with
 |some true,some n=>if off+n<=cs.length then some (.agg ((cs.drop off).take n))else none
 |some false,some _=>cs[off]?
 |_,_=>none
def zK(P:Program)(rec:TypeId->AV K->AV K->Option Bool)(xs ys:List (AV K)):List Field->Option Bool
 |[]=>some true
 |f::fs=>if f.name= "_" then none else
  match oG P f.type xs f.offset,oG P f.type ys f.offset with
  |some a,some b=>match rec f.type a b,zK P rec xs ys fs with
   |some p,some q=>some (p&&q)
   |_,_=>none
  |_,_=>none
def xd(P:Program):Nat->TypeId->AV K->AV K->Option Bool
 |0,_,_,_=>none
 |n+1,t,.int k a,.int k' b=>if k=k' then(match P.underlying t with
  |some (.int _)=>some (a==b)
  |_=>none)else none
 |n+1,t,.bool a,.bool b=>(match P.underlying t with
  |some .bool=>some (a==b)
  |_=>none)
 |n+1,t,.str a,.str b=>(match P.underlying t with
  |some .string=>some (a==b)
  |_=>none)
 |n+1,t,.agg xs,.agg ys=>(match P.underlying t with
  |some (.struct fs)=>if P.stoodInHeld t then none else zK P (xd P n) xs ys fs.toList
  |_=>none)
 |_+1,_,_,_=>none
def Ie(P:Program)(t:TypeId):Bool:=P.underlying t matches some (.pointer _)
def xe(P:Program)(op:BinOp)(t:TypeId)(e:Bool):Option (AV K×Bool):=if Ie P t then(match op with
 |.eql=>some (.bool e,true)
 |.neq=>some (.bool (!e),true)
 |_=>none)else none
def Ig(P:Program)(op:BinOp)(t:TypeId):AV K->AV K->Option (AV K×Bool)
 |.int k a,.int k' b=>match op with
   |.shl=>some (.int k (NW k a b),decide (0<=b))
   |.shr=>some (.int k (H7 k a b),decide (0<=b))
   |_=>if k=k' then H8 op k a b else none
 |.bool a,.bool b=>if Ia P t then(match op with
   |.eql=>some (.bool (a==b),true)
   |.neq=>some (.bool (!(a==b)),true)
   |_=>none)else none
 |.str a,.str b=>H9 op a b
 |.agg a,.agg b=>match op with
   |.eql=>if P.eqGuardType P.depth t then none else(xd P 6 t (.agg a) (.agg b)).map fun e=>(.bool e,true)
   |.neq=>if P.eqGuardType P.depth t then none else(xd P 6 t (.agg a) (.agg b)).map fun e=>(.bool (!e),true)
   |_=>none
 |.dA,.dA=>xe P op t true
 |.ptr _ _,.dA=>xe P op t false
 |.rp _ _ _,.dA=>xe P op t false
 |.ep _ _ _ _,.dA=>xe P op t false
 |_,_=>none
def inB(n:Int)(len:Nat):Bool:=decide (0<=n)&&decide (n<len)
def bS(lo hi:Int)(len:Nat):Bool:=decide (0<=lo)&&(decide (lo<=hi)&&decide (hi<=len))
mutual
def AV.closed:AV K->Bool
 |.int .. |.bool _|.str _|.dA|.dn|.mp|.ax .. |.rp .. |.any=>true
 |.ptr .. |.sl _|.ep .. |.opt .. |.np _|.vw ..=>false
 |.fn _ l|.agg l|.bB l=>iw l
def iw:List (AV K)->Bool
 |[]=>true
 |v::r=>v.closed&&iw r
end
def uZ(H:List (Ob K)):AV K->AV K
 |.sl h=>match H[h]? with
   |some (.arr c l)=>.ax c l
   |some (.ic c l)=>.ax c l
   |some (.tree c l)=>.ax c l
   |_=>.any
 |v=>v
mutual
def jA(D:bE K)(H:List (Ob K)):AV K->AV K
 |.sl h=>match H[h]? with
   |some (.arr c l)=>.ax c l
   |some (.ic c l)=>.ax c l
   |some (.tree c l)=>.ax c l
   |_=>.any
 |.ptr h off=>match H[h]? with
   |some (.box cs)=>match D.find (cs.map (uZ H))with
    |some c=>match D.dec c (cs.map (uZ H))with
     |some (x,true)=>.rp c x off
     |_=>.any
    |none=>.any
   |_=>.any
 |.vw h st lo hi=>match H[h]? with
   |some (.arr c l)=>if st=K.sz c then .ax c ((l.take hi).drop lo)else .any
   |some (.tree c l)=>if st=K.sz c then .ax c ((l.take hi).drop lo)else .any
   |_=>.any
 |.fn g l=>.fn g (mH D H l)
 |.agg l=>.agg (mH D H l)
 |.bB l=>.bB (mH D H l)
 |v=>v
def mH(D:bE K)(H:List (Ob K)):List (AV K)->List (AV K)
 |[]=>[]
 |v::r=>jA D H v::mH D H r
end
def elems(H:List (Ob K))(c:K.U):AV K->Option (List (K.El c))
 |.dn=>some []
 |.ax c' l=>match K.kG c' c with
   |.isTrue h=>some (h ▸ l)
   |.isFalse _=>none
 |.sl h=>match H[h]? with
   |some (.arr c' l)=>match K.kG c' c with
    |.isTrue h=>some (h ▸ l)
    |.isFalse _=>none
   |_=>none
 |_=>none
def setCells(cs:List (AV K))(off:Nat):List (AV K)->List (AV K)
 |[]=>cs
 |v::r=>setCells (cs.set off v) (off+1) r
mutual
def hands:AV K->List Nat
 |.ptr h _|.sl h|.ep h _ _ _|.np h|.vw h _ _ _=>[h]
 |.agg l|.bB l|.fn _ l=>cw l
 |_=>[]
def cw:List (AV K)->List Nat
 |[]=>[]
 |v::r=>hands v++cw r
end
def u0(H:List (Ob K))(h:Nat):List (Ob K):=
 match H[h]? with
 |some (.arr c l)=>H.set h (.ic c l)
 |some (.tree c l)=>H.set h (.ic c l)
 |_=>H
def jC(H:List (Ob K)):List Nat->List (Ob K)
 |[]=>H
 |h::r=>jC (u0 H h) r
mutual
def eK(H:List (Ob K)):AV K->AV K
 |.sl h=>match H[h]? with
   |some (.ic c l)=>.ax c l
   |_=>.sl h
 |.vw h st lo hi=>match H[h]? with
   |some (.ic c l)=>if st=K.sz c then .ax c ((l.take hi).drop lo)else .vw h st lo hi
   |_=>.vw h st lo hi
 |.agg l=>.agg (pG H l)
 |.bB l=>.bB (pG H l)
 |v=>v
def pG(H:List (Ob K)):List (AV K)->List (AV K)
 |[]=>[]
 |v::r=>eK H v::pG H r
end
def thaw(dp:K.U->Bool)(H:List (Ob K)):List (Option K.U)->List (AV K)->List (AV K)×List (Ob K)
 |some c::cs,.dn::r=>match thaw dp (H++[cond (dp c) (.tree c []) (.arr c [])]) cs r with
  |(l,H')=>(.sl H.length::l,H')
 |_::cs,v::r=>match thaw dp H cs r with
  |(l,H')=>(v::l,H')
 |[],l=>(l,H)
 |_,[]=>([],H)
def fZ(dp:K.U->Bool)(H:List (Ob K)):List (List (Option K.U))->List (AV K)->List (AV K)×List (Ob K)
 |cs::css,.agg l::r=>match thaw dp H cs l with
  |(l',H1)=>match fZ dp H1 css r with
   |(s,H2)=>(.agg l'::s,H2)
 |cs::css,v::r=>match thaw dp H cs [v]with
  |(l',H1)=>match fZ dp H1 css r with
   |(s,H2)=>(l'.headD v::s,H2)
 |[],l=>(l,H)
 |_,[]=>([],H)
def lu:List (AV K)->Bool
 |.np _::_=>true
 |_=>false
def zL(b:Bool)(h:Nat):List (AV K)->List (AV K)
 |.dA::r=>cond b (.np h) .dA::r
 |l=>l
mutual
def jl:AV K->Bool
 |.ax .. |.rp ..=>true
 |.agg l|.bB l|.fn _ l=>jS l
 |_=>false
def jS:List (AV K)->Bool
 |[]=>false
 |v::r=>jl v||jS r
end
def Dk(P:Program)(D:bE K)(H:List (Ob K))(t:TypeId):AV K->Option (AV K)
 |.ptr h off=>match H[h]? with
   |some (.box cs)=>oG P t cs off
   |_=>none
 |.rp c x off=>oG P t (D.cells c x) off
 |.ep h st i off=>match H[h]? with
   |some (.arr c l)=>if st=K.sz c then oG P t (D.cells c (l.getD i (K.zero c))) off else none
   |some (.tree c l)=>if st=K.sz c then(match oG P t (D.cells c (l.getD i (K.zero c))) off with
     |some v=>if jl v then none else some v
     |none=>none)else none
   |_=>none
 |_=>none
def Ih(_P:Program)(_H:List (Ob K))(_t:TypeId):AV K->Option (AV K×Bool):=fun _=>none
def Ii(P:Program)(s:TypeId)(f:Nat)(x:AV K):Option (AV K):=
 match Dj P s f with
 |some fd=>match fH P fd.type with
  |some (_+1)=>match x with
   |.ptr h off=>some (.ptr h (off+fd.offset))
   |.rp c x off=>some (.rp c x (off+fd.offset))
   |.ep h st i off=>some (.ep h st i (off+fd.offset))
   |_=>none
  |_=>none
 |none=>none
def Ij(P:Program)(H:List (Ob K))(t:TypeId)(x i:AV K):Option (AV K×Bool):=
 match elemOf? P t,i with
 |some e,.int _ n=>match x with
  |.ax c l=>if fH P e=some (K.sz c)then some (.rp c (l.getD n.toNat (K.zero c)) 0,inB n l.length)else none
  |.sl h=>match H[h]? with
    |some (.arr c l)=>if fH P e=some (K.sz c)then some (.ep h (K.sz c) n.toNat 0,inB n l.length)else none
    |some (.tree c l)=>if fH P e=some (K.sz c)then some (.ep h (K.sz c) n.toNat 0,inB n l.length)else none
    |_=>none
  |_=>none
 |_,_=>none
def oH(d:Int):Option (AV K)->Option Int
 |none=>some d
 |some (.int _ n)=>some n
 |some _=>none
def Ik(P:Program)(t:TypeId)(x:AV K)(lo hi:Option (AV K)):Option (AV K×Bool):=
 match P.underlying t,x with
 |some .string,.str s=>match oH 0 lo,oH s.length hi with
  |some l,some h=>some (.str ((s.take h.toNat).drop l.toNat),bS l h s.length)
  |_,_=>none
 |some (.slice e),.ax c s=>if fH P e=some (K.sz c)then match oH 0 lo,oH s.length hi with
  |some l,some h=>some (.ax c ((s.take h.toNat).drop l.toNat),bS l h s.length)
  |_,_=>none else none
 |_,_=>none
def Il(_P:Program)(_H:List (Ob K))(_t:TypeId)(_x:AV K)(_lo _hi:Option (AV K)):Option (AV K×Bool):=none
def u4(cx:Cx K)(ev:Operand->AV K)(H:List (Ob K)):Op->Option (AV K×Bool)
 |.move x|.assign x=>some (ev x,true)
 |.binOp op t x y _=>Ig cx.P op t (ev x) (ev y)
 |.unOp op _ x=>Ib op (ev x)
 |.convert src dst x=>match cx.P.underlying src,cx.P.underlying dst,ev x with
   |some _,some (.int k),.int _ n=>some (.int k (k.wrap n),true)
   |some _,some .string,.str s=>some (.str s,true)
   |some (.slice e),some .string,x=>match cx.P.underlying e,cx.ty e with
    |some (.int .u8),some c=>match cx.D.byte c,elems H c x with
     |some (f,_),some l=>some (.str (l.map f),true)
     |_,_=>none
    |_,_=>none
   |_,_,_=>none
 |.extract t i=>match ev t with
   |.bB l=>(l[i]?).map fun v=>(v,true)
   |_=>none
 |.fieldAddr s x f=>(Ii cx.P s f (ev x)).map fun v=>(v,true)
 |.field s x f=>match Dj cx.P s f,ev x with
   |some fd,.agg cs=>(oG cx.P fd.type cs fd.offset).map fun v=>(v,true)
   |_,_=>none
 |.load t p=>match Dk cx.P cx.D H t (ev p)with
   |some v=>some (v,true)
   |none=>Ih cx.P H t (ev p)
 |.indexAddr t x i=>Ij cx.P H t (ev x) (ev i)
 |.index t x i=>match cx.P.underlying t,ev x,ev i with
   |some .string,.str s,.int _ n=>some (.int .u8 ((s.getD n.toNat 0).toNat:Int),inB n s.length)
   |_,_,_=>none
 |.slice t x lo hi none=>match Ik cx.P t (ev x) (lo.map ev) (hi.map ev)with
   |some r=>some r
   |none=>if cx.vws&&cond cx.vtl hi.isNone (hi.isSome|| !cx.cut)then Il cx.P H t (ev x) (lo.map ev) (hi.map ev)else none
 |.nilCheck x=>match ev x with
   |.ptr h o=>some (.ptr h o,true)
   |.rp c x o=>some (.rp c x o,true)
   |.ep h s i o=>some (.ep h s i o,true)
   |_=>none
 |.makeFunc (.func f) first caps=>if first.isEmpty then some (.fn f (caps.toList.map ev),true)else none
 |.call {callee:=.builtin .len,args,argTypes}=>match args.toList,argTypes.toList with
   |[x],[t]=>match cx.P.underlying t,ev x with
     |some .string,.str s=>some (.int .i64 (s.length:Int),true)
     |some (.slice _),.dn=>some (.int .i64 0,true)
     |some (.slice _),.ax _ l=>some (.int .i64 (l.length:Int),true)
     |some (.slice _),.vw _ _ a b=>some (.int .i64 ((b-a:Nat):Int),true)
     |some (.slice _),.sl h=>match H[h]? with
      |some (.arr _ l)=>some (.int .i64 (l.length:Int),true)
      |some (.tree _ l)=>some (.int .i64 (l.length:Int),true)
      |_=>none
     |_,_=>none
   |_,_=>none
 |.call {callee:=.builtin .min,args, ..}=>match args.toList with
   |[x,y]=>match ev x,ev y with
     |.int k a,.int k' b=>if k=k' then some (.int k (cond (decide (b<a)) b a),true)else none
     |_,_=>none
   |_=>none
 |.call {callee:=.builtin .max,args, ..}=>match args.toList with
   |[x,y]=>match ev x,ev y with
     |.int k a,.int k' b=>if k=k' then some (.int k (cond (decide (a<b)) b a),true)else none
     |_,_=>none
   |_=>none
 |_=>none
def NZ(D:bE K)(c:K.U)(e:TypeId):Bool:=match D.sM c with
 |none=>true
 |some t=>t==e
def qS(cx:Cx K)(e:TypeId):Option K.U:=match cx.ty e with
 |some c=>if NZ cx.D c e then some c else none
 |none=>none
def room(e:TypeId)(P:Program):Bool:=match P.info? e with
 |some i=>decide (i.bytes<=4096)
 |none=>false
def pH(D:bE K)(c:K.U):List (AV K)->Option (List (K.El c)×Bool)
 |[]=>some ([],true)
 |v::r=>match D.dec c v.cA,pH D c r with
  |some (x,b),some (l,b')=>some (x::l,b&&b')
  |_,_=>none
def inOrder(ev:Operand->AV K):Nat->List (Nat×Operand)->Option (List (AV K))
 |_,[]=>some []
 |n,(i,x)::r=>if i=n then(inOrder ev (n+1) r).map (ev x::·)else none
def placesOf(P:Program)(t:TypeId):Option (List (Nat×Nat)):=
 match P.underlying t with
 |some (.struct fs)=>fs.toList.mapM (fun f=>(P.info? f.type).map fun i=>(f.offset,i.size))
 |_=>none
def xf(places:List (Nat×Nat))(ev:Operand->AV K)(cs:List (AV K)):List (Nat×Operand)->Option (List (AV K))
 |[]=>some cs
 |(i,x)::r=>match places[i]? with
  |some (off,n)=>if(ev x).known=true/\(ev x).cA.length=n/\off+n<=cs.length then xf places ev (setCells cs off (ev x).cA) r else none
  |none=>none
def oI(P:Program)(t:TypeId):Bool:=match P.info? t with
 |some i=>match i.zero with
  |some v=>v.cells.size==i.size
  |none=>false
 |none=>false
def source(D:bE K)(H:List (Ob K))(c:K.U):AV K->Option (List (K.El c))
 |.str s=>match D.byte c with
   |some (_,g)=>some (s.map g)
   |none=>none
 |v=>elems H c v
def Dl(cx:Cx K)(H:List (Ob K))(sT:TypeId)(s x:AV K):Option (AV K×List (Ob K)×Bool×List Nat):=
 match elemOf? cx.P sT with
 |none=>none
 |some e=>match qS cx e with
  |none=>none
  |some c=>if fH cx.P e=some (K.sz c)/\room e cx.P=true/\oI cx.P e=true then
    match source cx.D H c x with
    |none=>none
    |some m=>match s with
     |.dn=>some (.sl H.length,H++[.arr c m],decide (m.length<=1073741824),[])
     |.sl h=>match x with
       |.sl h'=>if h=h' then none else match elems H c (.sl h)with
         |some l=>some (.sl H.length,H.set h .dead++[.arr c (l++m)],decide (l.length+m.length<=1073741824),[h])
         |none=>none
       |_=>match elems H c (.sl h)with
        |some l=>some (.sl H.length,H.set h .dead++[.arr c (l++m)],decide (l.length+m.length<=1073741824),[h])
        |none=>none
     |_=>none
   else none
def zM(_cx:Cx K)(_H:List (Ob K))(_sT:TypeId)(_s _x:AV K):Option (AV K×List (Ob K)×Bool×List Nat):=none
def qT(ev:Operand->AV K):Op->List Nat
 |.buildSlice _ _ parts=>cw (parts.toList.map fun p=>ev p.2)
 |.store _ p x=>match ev p with
   |.ep ..=>hands (ev x)
   |_=>[]
 |.slice _ x _ _ _=>match ev x with
   |.sl h=>[h]
   |_=>[]
 |_=>[]
def N1(P:Program)(t:TypeId):Bool:=match P.info? t with
 |some i=>(match i.zero with
  |some .nilFunc=>true
  |_=>false)
 |none=>false
def u6(cx:Cx K)(ev:Operand->AV K)(H:List (Ob K)):Op->Option (AV K×List (Ob K)×Bool×List Nat)
 |.box t x=>if(ev x).known then match thaw cx.deep H (cx.oC t) (ev x).cA with
     |(cs,H1)=>if lu cs then none else some (.ptr H1.length 0,H1++[.box cs],true,[])else none
 |.alloc t=>match(zeroOf cx.P t:Option (AV K))with
   |some z=>if z.known then match thaw cx.deep H (cx.oC t) z.cA with
    |(cs,H1)=>if lu cs then none else some (.ptr H1.length 0,H1++[.box (zL (cx.D.qQ==some t) H1.length cs)],true,[])else none
   |none=>if N1 cx.P t then some (.ptr H.length 0,H++[.box [.any]],true,[])else none
 |.build t parts=>match placesOf cx.P t,(zeroOf cx.P t:Option (AV K))with
   |some ps,some z=>if z.known then(xf ps ev z.cA parts.toList).map fun cs=>(.agg cs,H,true,[])else none
   |_,_=>none
 |.store t p x=>match fH cx.P t with
   |some n=>if(ev x).cA.length=n/\(ev x).cA.all AV.one=true then match ev p with
    |.ptr h off=>match H[h]? with
      |some (.box cs)=>if off+n<=cs.length then match thaw cx.deep H (cx.oC t) (ev x).cA with
       |(xs,H1)=>if lu (setCells cs off xs)&& !lu cs then none else some (.any,H1.set h (.box (setCells cs off xs)),true,[h])else none
      |_=>none
    |.ep h st i off=>match H[h]? with
      |some (.arr c l)=>if st=K.sz c/\iw (ev x).cA=true/\off+n<=K.sz c then
        match cx.D.dec c (setCells (cx.D.cells c (l.getD i (K.zero c))) off (ev x).cA)with
        |some (y,b)=>some (.any,H.set h (.arr c (l.set i y)),b,[h])
        |none=>none
       else none
      |_=>none
    |_=>none else none
   |none=>none
 |.makeSlice t len cap=>match elemOf? cx.P t with
   |none=>none
   |some e=>match qS cx e,(zeroOf cx.P e:Option (AV K)),ev len,ev cap with
    |some c,some z,.int _ n,.int _ m=>if fH cx.P e=some (K.sz c)/\room e cx.P=true/\iw z.cA=true/\z.known=true then
      match cx.D.dec c z.cA with
      |some (y,b)=>some (.sl H.length,H++[.arr c (List.replicate n.toNat y)],b&&(decide (0<=n)&&(decide (n<=m)&&decide (m<=1073741824))),[])
      |none=>none
     else none
    |_,_,_,_=>none
 |.buildSlice t len parts=>match elemOf? cx.P t with
   |none=>none
   |some e=>match qS cx e,inOrder ev 0 parts.toList with
    |some c,some l=>if fH cx.P e=some (K.sz c)/\oI cx.P e=true/\l.length=len/\len<=4096/\K.sz c<=4096/\l.all (fun v=>iw v.cA&&(v.known&&decide (v.cA.length=K.sz c)))=true then
      match pH cx.D c l with
      |some (y,b)=>some (.sl H.length,H++[.arr c y],b,[])
      |none=>none
     else none
    |_,_=>none
 |.convert src dst x=>match cx.P.underlying src,elemOf? cx.P dst,ev x with
   |some .string,some e,.str s=>match cx.P.underlying e,qS cx e with
    |some (.int .u8),some c=>match cx.D.byte c with
     |some (_,g)=>if fH cx.P e=some (K.sz c)then some (.sl H.length,H++[.arr c (s.map g)],decide (s.length<=1073741824),[])else none
     |none=>none
    |_,_=>none
   |_,_,_=>none
 |.makeMap _ none=>some (.mp,H++[.dead],true,[])
 |.call {callee:=.builtin .append,args,argTypes}=>match args.toList,argTypes.toList with
   |[s,x],[sT,xT]=>if(cx.P.underlying xT).isNone then none else if(zJ cx.P xT).isSome then zM cx H sT (ev s) (ev x)else Dl cx H sT (ev s) (ev x)
   |_,_=>none
 |_=>none
mutual
def qU:AV K->Bool
 |.sl _|.ptr .. |.ep .. |.np _|.vw ..=>true
 |.agg l|.bB l|.fn _ l=>u7 l
 |_=>false
def u7:List (AV K)->Bool
 |[]=>false
 |v::r=>qU v||u7 r
end
mutual
def fP(f:Nat->Option Nat):AV K->Option (AV K)
 |.ptr h o=>(f h).map (.ptr · o)
 |.sl h=>(f h).map .sl
 |.np h=>(f h).map .np
 |.ep h s i o=>(f h).map (.ep · s i o)
 |.vw h s a b=>(f h).map (.vw · s a b)
 |.fn g l=>(jT f l).map (.fn g)
 |.agg l=>(jT f l).map .agg
 |.bB l=>(jT f l).map .bB
 |.opt ..=>none
 |v=>some v
def jT(f:Nat->Option Nat):List (AV K)->Option (List (AV K))
 |[]=>some []
 |v::r=>match fP f v,jT f r with
  |some x,some l=>some (x::l)
  |_,_=>none
end
def ren(m:List Nat):AV K->Option (AV K):=fP fun h=>m.idxOf? h
def N2(m:List Nat):List (AV K)->Option (List (AV K)):=jT fun h=>m.idxOf? h
def back(m:List Nat):AV K->Option (AV K):=fP fun h=>m[h]?
def ab6(m:List Nat):List (AV K)->Option (List (AV K)):=jT fun h=>m[h]?
def lx(f:Nat->Option Nat):Ob K->Option (Ob K)
 |.box cs=>(jT f cs).map .box
 |.opn ..=>none
 |o=>some o
def Dm(m:List Nat):Ob K->Option (Ob K):=lx fun h=>m.idxOf? h
def va(m:List Nat):Ob K->Option (Ob K):=lx fun h=>m[h]?
def ng(f:Ob K->Option (Ob K)):List (Ob K)->Option (List (Ob K))
 |[]=>some []
 |o::r=>match f o,ng f r with
  |some x,some l=>some (x::l)
  |_,_=>none
def reach(H:List (Ob K)):Nat->List Nat->List Nat->List Nat
 |0,_,acc=>acc
 |_,[],acc=>acc
 |n+1,h::r,acc=>if acc.contains h then reach H n r acc else
   reach H n (r++(match H[h]? with|some (.box cs)=>cw cs|_=>[])) (acc++[h])
def vc(H:List (Ob K)):List Nat->Bool
 |[]=>true
 |h::m=>decide (h<H.length)&&(!m.contains h&&vc H m)
def jU:List (Ob K)->List Nat->List (Ob K)->List (Ob K)
 |H,h::m,o::r=>jU (H.set h o) m r
 |H,_,_=>H
def N3(D:bE K):Ob K->Bool
 |.arr c _=> !jS (D.cells c (K.zero c))
 |.tree ..=>true
 |_=>false
def lW(cx:Cx K)(m:Mode)(H:List (Ob K))(f:FuncId)(args:List (AV K)):Option (AV K×List (Ob K)×Bool×List Nat):=
 match m with
 |.plain=>if iw (mH cx.D H args)then match cx.call f (mH cx.D H args) []with
     |some (r,[],c)=>if r.closed&&(!jl r|| !u7 args)then some (r,H,c,[])else none
     |_=>none else none
 |.jA=>if iw (mH cx.D H args)&& !u7 args then match cx.call f (mH cx.D H args) []with
     |some (r,Hn,c)=>match back ((List.range Hn.length).map (H.length+·)) r,ng (va ((List.range Hn.length).map (H.length+·))) Hn with
      |some r',some vd=>some (r',H++vd,c,[])
      |_,_=>none
     |none=>none else none
 |.fresh=>if iw (mH cx.D H args)then match cx.call f (mH cx.D H args) []with
     |some (r,Hn,c)=>if !jl r&&Hn.all (N3 cx.D)then match back ((List.range Hn.length).map (H.length+·)) r,ng (va ((List.range Hn.length).map (H.length+·))) Hn with
      |some r',some vd=>some (r',H++vd,c,[])
      |_,_=>none else none
     |none=>none else none
 |.jB|.aZ=>none
 |.pass=>if !vc H (reach H 64 (cw args) [])then none else match N2 (reach H 64 (cw args) []) args,ng (Dm (reach H 64 (cw args) [])) ((reach H 64 (cw args) []).map fun h=>H.getD h .dead)with
     |some args',some Hi=>match cx.call f args' Hi with
      |some (r,Ho,c)=>
       match back (reach H 64 (cw args) []++(List.range (Ho.length-Hi.length)).map (H.length+·)) r,ng (va (reach H 64 (cw args) []++(List.range (Ho.length-Hi.length)).map (H.length+·))) Ho with
       |some r',some iG=>if Hi.length<=Ho.length then some (r',jU H (reach H 64 (cw args) []) (iG.take Hi.length)++iG.drop Hi.length,c,reach H 64 (cw args) [])else none
       |_,_=>none
      |none=>none
     |_,_=>none
def ve(cx:Cx K)(m:Mode)(H:List (Ob K))(f:FuncId)(args:List (AV K)):Option (AV K×List (Ob K)×Bool×List Nat):=
 lW cx m (jC H (cw args)) f (pG (jC H (cw args)) args)
def qV(q:Bool)(cx:Cx K)(H:List (Ob K))(f:FuncId)(args:List (AV K)):Option (AV K×List (Ob K)×Bool×List Nat):=
 match cx.mode f with
 |.plain=>lW cx .plain H f args
 |.jB=>match lW cx .plain H f args with
   |some r=>some r
   |none=>if q then none else ve cx .plain H f args
 |.jA=>if q then none else ve cx .jA H f args
 |.pass=>if q then none else lW cx .pass H f args
 |.aZ=>if q then none else ve cx .pass H f args
 |.fresh=>if q then none else match lW cx .jA H f args with
   |some r=>some r
   |none=>match lW cx .fresh H f args with
    |some r=>some r
    |none=>ve cx .jA H f args
def ni:List Nat->Bool
 |[]=>true
 |x::r=> !r.contains x&&ni r
def Dn(D:bE K)(H:List (Ob K)):AV K->Option (AV K)
 |.sl h=>match H[h]? with
   |some (.arr c l)=>if jS (D.cells c (K.zero c))then none else some (.ax c l)
   |some (.tree c l)=>some (.ax c l)
   |_=>none
 |.dn=>some .dn
 |.int k n=>some (.int k n)
 |.bool b=>some (.bool b)
 |.str s=>some (.str s)
 |.dA=>some .dA
 |_=>none
def oJ(D:bE K)(H:List (Ob K)):List (AV K)->Option (List (AV K))
 |[]=>some []
 |v::r=>match Dn D H v,oJ D H r with
  |some x,some l=>some (x::l)
  |_,_=>none
def xg(D:bE K)(H:List (Ob K)):List (AV K)->Option (List (AV K))
 |[]=>some []
 |v::r=>match oJ D H v.cA,xg D H r with
  |some cs,some l=>some (.agg cs::l)
  |_,_=>none
def gG(H:List (Ob K)):List Nat->List (Ob K)
 |[]=>H
 |h::r=>gG (H.set h .dead) r
def qW(H:List (Ob K))(c:K.U):AV K->Option (List (K.El c)×List Nat)
 |.dn=>some ([],[])
 |.sl h=>match H[h]? with
   |some (.tree c' l)=>match K.kG c' c with
    |.isTrue e=>some (e ▸ l,[h])
    |.isFalse _=>none
   |_=>none
 |_=>none
def xh(cx:Cx K)(ev:Operand->AV K)(H:List (Ob K)):Op->Option (AV K×List (Ob K)×Bool×List Nat)
 |.makeSlice t len cap=>match elemOf? cx.P t with
   |none=>none
   |some e=>match qS cx e,(zeroOf cx.P e:Option (AV K)),ev len,ev cap with
    |some c,some z,.int _ n,.int _ m=>if cx.deep c=true/\fH cx.P e=some (K.sz c)/\room e cx.P=true/\z.known=true then
      match oJ cx.D [] z.cA with
      |some zs=>match cx.D.dec c zs with
       |some (y,b)=>some (.sl H.length,H++[.tree c (List.replicate n.toNat y)],b&&(decide (0<=n)&&(decide (n<=m)&&decide (m<=1073741824))),[])
       |none=>none
      |none=>none
     else none
    |_,_,_,_=>none
 |.buildSlice t len parts=>match elemOf? cx.P t with
   |none=>none
   |some e=>match qS cx e,inOrder ev 0 parts.toList with
    |some c,some l=>if cx.deep c=true/\fH cx.P e=some (K.sz c)/\oI cx.P e=true/\l.length=len/\len<=4096/\K.sz c<=4096/\l.all (fun v=>v.known&&decide (v.cA.length=K.sz c))=true/\ni (cw l)=true then
      match xg cx.D H l with
      |some l'=>match pH cx.D c l' with
       |some (y,b)=>some (.sl H.length,gG H (cw l)++[.tree c y],b,cw l)
       |none=>none
      |none=>none
     else none
    |_,_=>none
 |.store t p x=>match ev p,fH cx.P t with
   |.ep h st i off,some n=>match H[h]? with
     |some (.tree c l)=>if st=K.sz c/\off+n<=K.sz c/\(ev x).cA.length=n/\(ev x).cA.all AV.one=true/\ni (h::cw (ev x).cA)=true then
       match oJ cx.D H (ev x).cA with
       |some xs=>match cx.D.dec c (setCells (cx.D.cells c (l.getD i (K.zero c))) off xs)with
        |some (y,b)=>some (.any,(gG H (h::cw (ev x).cA)).set h (.tree c (l.set i y)),b,h::cw (ev x).cA)
        |none=>none
       |none=>none
      else none
     |_=>none
   |_,_=>none
 |.call {callee:=.builtin .append,args,argTypes}=>match args.toList,argTypes.toList with
   |[s,x],[sT,xT]=>if(zJ cx.P xT).isSome||(cx.P.underlying xT).isNone then none else match elemOf? cx.P sT with
     |none=>none
     |some e=>match qS cx e with
      |none=>none
      |some c=>if cx.deep c=true/\fH cx.P e=some (K.sz c)/\room e cx.P=true/\oI cx.P e=true then
        match qW H c (ev s),qW H c (ev x)with
        |some (l,hs),some (m,hs')=>if ni (hs++hs')then some (.sl H.length,gG H (hs++hs')++[.tree c (l++m)],decide (l.length+m.length<=1073741824),hs++hs')else none
        |_,_=>none
       else none
   |_,_=>none
 |_=>none
def xi(_cx:Cx K)(_ev:Operand->AV K)(_H:List (Ob K)):Op->Option (AV K×List (Ob K)×Bool×List Nat):=fun _=>none
def Im:List (Ob K)->Option Nat
 |[]=>none
 |.opn ..::_=>some 0
 |_::r=>(Im r).map (· +1)
def shut(_D:bE K)(H:List (Ob K)):Option (List (Ob K)×Bool×List Nat):=
 match Im H with
 |none=>some (H,true,[])
 |some _=>none
def xj(q:Bool)(cx:Cx K)(H:List (Ob K))(f:FuncId)(args:List (AV K)):Option (AV K×List (Ob K)×Bool×List Nat):=
 if cx.opn&& !cx.lz&& !q then match qV q cx H f args with
  |some (r,H1,c,t)=>match shut cx.D H1 with
   |some (H2,b,t2)=>some (r,H2,c&&b,t++t2)
   |none=>none
  |none=>none
 else qV q cx H f args
def guardOf(ops:List Oper)(o:Oper):Option (Option (Nat×Bool)):=
 match o.guard with
 |none=>some none
 |some (j,w)=>match ops[j]? with
  |some g=>match g.dst with
   |some t=>some (some (t,w))
   |none=>none
  |none=>none
def vf(st:St K)(wr:List Nat)(dst:Option Nat)(v:AV K)(H:List (Ob K))(ok:Bool):Option (St K×List Nat):=
 match dst with
 |none=>some (⟨st.tm,H,ok⟩,wr)
 |some d=>if wr.contains d||decide (st.tm.length<=d)then none else some (⟨st.tm.set d v,H,ok⟩,d::wr)
def xk(cx:Cx K)(ev:Operand->AV K)(H:List (Ob K))(op:Op):Option (AV K×List (Ob K)×Bool×List Nat):=
 match xh cx (fun x=>eK H (ev x)) H op with
 |some r=>some r
 |none=>match qT ev op with
 |[]=>u6 cx (fun x=>eK H (ev x)) H op
 |hs=>match u4 cx (fun x=>eK (jC H hs) (ev x)) (jC H hs) op with
  |some (v,c)=>some (v,jC H hs,c,[])
  |none=>u6 cx (fun x=>eK (jC H hs) (ev x)) (jC H hs) op
def Io:Operand->Bool
 |.const (.slice none 0 0)=>true
 |_=>false
def jD(cx:Cx K):Op->Bool
 |.assign x=> !Io x
 |.slice t ..=>NY cx.P t
 |.load t _=> !cx.opn||(cx.lz&&(cx.oC t).all Option.isNone)
 |.makeFunc .. |.move _|.pick .. |.binOp .. |.unOp .. |.extract .. |.field .. |.fieldAddr .. |.indexAddr .. |.index .. |.nilCheck _=>true
 |.convert _ dst _=>(elemOf? cx.P dst).isNone
 |.call {callee:=.builtin .len, ..}|.call {callee:=.builtin .min, ..}|.call {callee:=.builtin .max, ..}=>true
 |.call {callee:=.value (.func f), ..}=>cx.mode f== .plain&&(!cx.opn||cx.lz)
 |_=>false
def cutV(_cx:Cx K)(_ev:Operand->AV K)(_H:List (Ob K)):Op->Option (AV K×List (Ob K)×Bool×List Nat):=fun _=>none
def zN(cx:Cx K)(ev:Operand->AV K)(H:List (Ob K)):Op->Option (AV K×List (Ob K)×Bool×List Nat)
 |.buildSlice t len parts=>match elemOf? cx.P t with
   |none=>none
   |some e=>match cx.ty e,inOrder ev 0 parts.toList with
    |some c,some l=>if fH cx.P e=some (K.sz c)/\oI cx.P e=true/\l.length=len/\len<=4096/\K.sz c<=4096/\l.all (fun v=>iw v.cA&&(v.known&&decide (v.cA.length=K.sz c)))=true then
      match pH cx.D c l with
      |some (y,b)=>some (.ax c y,H,b,[])
      |none=>none
     else none
    |_,_=>none
 |_=>none
def lX(q:Bool)(cx:Cx K)(tm:List (AV K))(gs:List (Nat×Bool))(H:List (Ob K))(T:TypeId):Op->Option (AV K×List (Ob K)×Bool×List Nat)
 |.pick c x y=>match c,dQ tm gs c with
   |.tmp t,.bool b=>match known cx t with
     |some b0=>some (cond b0 (dQ tm gs x) (dQ tm gs y),H,b==b0,[])
     |none=>some (merge b (dQ tm ((t,true)::gs) x) (dQ tm ((t,false)::gs) y),H,true,[])
   |.const _,.bool b=>some (merge b (dQ tm gs x) (dQ tm gs y),H,true,[])
   |_,_=>none
 |.call {callee:=.value f,args, ..}=>match dQ tm gs f with
   |.fn g caps=>xj q cx H g (args.toList.map (fun x=>eK H (dQ tm gs x))++caps)
   |_=>none
 |.assign x=>if !q&&Io x then match elemOf? cx.P T with
     |some e=>match cx.ty e with
      |some c=>some (.sl H.length,H++[cond (cx.deep c) (.tree c []) (.arr c [])],true,[])
      |none=>some (dQ tm gs x,H,true,[])
     |none=>some (dQ tm gs x,H,true,[])
   else some (eK H (dQ tm gs x),H,true,[])
 |op=>match u4 cx (fun x=>eK H (dQ tm gs x)) H op with
  |some (v,c)=>some (v,H,c,[])
  |none=>if q then zN cx (fun x=>eK H (dQ tm gs x)) H op else if jD cx op then none else match xi cx (dQ tm gs) H op with
   |some r=>some r
   |none=>match cutV cx (dQ tm gs) H op with
   |some r=>some r
   |none=>xk cx (dQ tm gs) H op
def oK(cx:Cx K):Op->Bool
 |.assign _=>true
 |.slice t ..=> !cx.cut||NY cx.P t
 |.call {callee:=.value (.func f), ..}=>cx.mode f== .plain||cx.mode f== .jB
 |op=>jD cx op
def ab7(cx:Cx K):Op->Bool
 |.buildSlice ..=>true
 |op=>oK cx op
def jm(q:Bool)(cx:Cx K)(ops:List Oper)(tm:List (AV K))(H:List (Ob K))(wr:List Nat)(o:Oper):Option (AV K×List (Ob K)×Bool):=
 match guardOf ops o with
 |none=>none
 |some none=>match lX q cx tm [] H o.type o.op with
  |some (v,H',c,_)=>if v.jR then none else some (v,H',c)
  |none=>none
 |some (some (g,w))=>match known cx g with
  |some b0=>match tm[g]? with
   |some (.bool b)=>if b0=w then match lX q cx tm [] H o.type o.op with
     |some (v,H',c,_)=>if v.jR then none else some (v,H',c&&(b==b0))
     |none=>none
    else some (.any,H,b==b0)
   |_=>none
  |none=>match xc tm 6 (g,w)with
   |none=>none
   |some b=>if ab7 cx o.op&&wr.contains g then match lX true cx tm [(g,w)] H o.type o.op with
     |some (v,_,c,_)=>some (.opt g w v,H,c|| !b)
     |none=>none else none
def vg(cx:Cx K)(ops:List Oper)(st:St K)(wr:List Nat)(o:Oper):Option (St K×List Nat):=
 match jm false cx ops st.tm st.H wr o with
 |some (v,H',c)=>vf st wr o.dst v H' (c&&st.ok)
 |none=>none
def lY(cx:Cx K)(ops:List Oper):List Oper->St K->List Nat->Option (St K×List Nat)
 |[],st,wr=>some (st,wr)
 |o::r,st,wr=>match vg cx ops st wr o with
  |some (st',wr')=>lY cx ops r st' wr'
  |none=>none
def jV(tm:List (AV K)):List Nat->List (AV K)
 |[]=>tm
 |d::r=>match tm[d]? with
  |some (.opt ..)=>jV (tm.set d .any) r
  |_=>jV tm r
def iV:List Oper->List Nat->List Nat
 |[],acc=>acc
 |o::r,acc=>iV r (acc++[o.after.toList.foldl (fun s e=>s|||2^e.on|||acc.getD e.on 0) 0])
def eZ(bits:Nat):List Oper->Nat->List (AV K)->List (AV K)
 |[],_,tm=>tm
 |o::r,i,tm=>eZ bits r (i+1) (match o.dst with
  |some d=>if bits.testBit i then tm else tm.set d .any
  |none=>tm)
def zO(i:Nat):Nat->List Nat->Nat
 |_,[]=>0
 |k,b::r=>(cond (b.testBit i) (2^k) 0)|||zO i (k+1) r
def fw(bs:List Nat)(i:Nat):Nat:=bs.getD i 0|||zO i 0 bs
def nj(cx:Cx K)(ops:List Oper)(bs:List Nat):List Oper->Nat->St K->List Nat->Option (St K×List Nat)
 |[],_,st,wr=>some (st,wr)
 |o::r,i,st,wr=>match jm true cx ops (eZ (fw bs i) ops 0 st.tm) st.H wr o with
  |some (v,_,c)=>match vf st wr o.dst v st.H (c&&st.ok)with
   |some (st',wr')=>nj cx ops bs r (i+1) st' wr'
   |none=>none
  |none=>none
def kH:List Oper->Nat->Bool
 |[],_=>true
 |o::r,i=>(o.after.toList.all fun e=>decide (e.on<i)&&Region.binds .any e)&&kH r (i+1)
def jo(bits:Nat):Nat->List (Ob K)->List (Ob K)
 |_,[]=>[]
 |i,o::r=>(if bits.testBit i then .dead else o)::jo bits (i+1) r
def ly(bits:Nat):Nat->List (Ob K)->List (Ob K)->List (Ob K)
 |i,o::r,o'::r'=>(if bits.testBit i then o else o')::ly bits (i+1) r r'
 |_,[],r'=>r'
 |_,_::_,[]=>[]
mutual
def AV.upto(n:Nat):AV K->Bool
 |.ptr h _|.sl h|.ep h _ _ _|.np h|.vw h _ _ _=>decide (h<n)
 |.fn _ l|.agg l|.bB l=>pI n l
 |.opt _ _ v=>v.upto n
 |_=>true
def pI(n:Nat):List (AV K)->Bool
 |[]=>true
 |v::r=>v.upto n&&pI n r
end
def Ob.upto(n:Nat):Ob K->Bool
 |.box cs=>pI n cs
 |.opn _ _ _ _ cs=>pI n cs
 |_=>true
def nk(ev:Operand->AV K)(op:Op):List Nat:=
 qT ev op++(match op with
  |.store _ p _=>hands (ev p)
  |.call {callee:=.builtin .append,args, ..}=>(match args.toList with
    |s::x::_=>hands (ev s)++hands (ev x)
    |[s]=>hands (ev s)
    |[]=>[])
  |.call {callee:=.builtin .clear,args, ..}=>(match args.toList with
    |s::_=>hands (ev s)
    |[]=>[])
  |.call {callee:=.builtin .copy,args, ..}=>(match args.toList with
    |s::_=>hands (ev s)
    |[]=>[])
  |_=>[])
def sN(cx:Cx K):Op->Bool
 |.box .. |.alloc _|.build .. |.store .. |.makeSlice .. |.buildSlice .. |.convert .. |.slice ..=>true
 |.call {callee:=.builtin .append, ..}=>true
 |.call {callee:=.value (.func f), ..}=>(cx.mode f== .fresh||(cx.mode f== .pass||cx.mode f== .aZ))&&(!cx.opn||cx.lz)
 |.load ..=>cx.opn&&cx.lz
 |_=>false
def Ip(ev:Operand->AV K):Op->List Nat
 |.call {callee:=.value _,args, ..}=>cw (args.toList.map ev)
 |_=>[]
def xl(cx:Cx K)(H:List (Ob K))(ev:Operand->AV K):Op->List Nat
 |.call {callee:=.value (.func f),args, ..}=>(match cx.mode f with
   |.pass=>reach H 64 (cw (args.toList.map fun y=>eK H (ev y))) []
   |.aZ=>cw (args.toList.map fun y=>eK H (ev y))++reach (jC H (cw (args.toList.map fun y=>eK H (ev y)))) 64 (cw (pG (jC H (cw (args.toList.map fun y=>eK H (ev y)))) (args.toList.map fun y=>eK H (ev y)))) []
   |_=>[])
 |_=>[]
def bitsOf:List Nat->Nat
 |[]=>0
 |h::r=>2^h|||bitsOf r
def xm(cx:Cx K)(ops:List Oper)(tm:List (AV K))(H:List (Ob K))(wr:List Nat)(o:Oper):Option (AV K×List (Ob K)×Bool):=
 if oK cx o.op then jm true cx ops tm H wr o else if sN cx o.op then jm false cx ops tm H wr o else none
def pJ(cx:Cx K)(tm:List (AV K))(H:List (Ob K))(op:Op):List Nat:=if oK cx op then[]else match op with
 |.load t p=>(match u4 cx (fun x=>eK H (dQ tm [] x)) H (.load t p)with
   |some _=>[]
   |none=>hands (dQ tm [] p))
 |op=>(nk (dQ tm []) op++Ip (dQ tm []) op)++xl cx H (dQ tm []) op
def xn(A:Nat):Nat->List Nat->Nat
 |_,[]=>0
 |k,b::r=>(if A.testBit k then 0 else b)|||xn A (k+1) r
def Dp(A:Nat)(T:List Nat):Nat->List (Nat×Nat)->Bool
 |_,[]=>true
 |i,(m,n)::r=>(A.testBit i||T.all fun h=>decide (n<=h)||m.testBit h)&&Dp A T (i+1) r
def ab8:Op->Option (List Operand)
 |.slice _ x _ _ _=>some [x]
 |.move _=>some []
 |.load _ p=>some [p]
 |.fieldAddr ..=>some []
 |.indexAddr _ x _=>some [x]
 |.nilCheck _=>some []
 |.store _ p x=>some [p,x]
 |.binOp ..=>some []
 |.unOp ..=>some []
 |.build _ parts=>some (parts.toList.map (·.2))
 |.extract x _=>some [x]
 |.assign x=>some [x]
 |_=>none
def N4(tm:List (AV K))(n:Nat)(op:Op):Nat:=
 match ab8 op with
 |none=>0
 |some l=>bitsOf ((List.range n).filter fun h=> !(cw (l.map (dQ tm []))).contains h)
def qX(bs ws:List Nat)(i:Nat)(tm:List (AV K))(n:Nat)(op:Op):Nat:=xn (bs.getD i 0) 0 ws|||N4 tm n op
def qY(cx:Cx K)(ops:List Oper)(bs:List Nat):List Oper->Nat->St K->List Nat->List (Nat×Nat)->List Nat->Option (St K×List Nat)
 |[],_,st,wr,_,_=>some (st,wr)
 |o::r,i,st,wr,ms,ws=>
  if pI st.H.length (eZ (fw bs i) ops 0 st.tm)&&(jo (qX bs ws i (eZ (fw bs i) ops 0 st.tm) st.H.length o.op) 0 st.H).all (Ob.upto st.H.length)then
   match xm cx ops (eZ (fw bs i) ops 0 st.tm) (jo (qX bs ws i (eZ (fw bs i) ops 0 st.tm) st.H.length o.op) 0 st.H) wr o with
   |none=>none
   |some (v,H',c)=>
    if(Dp (bs.getD i 0) (pJ cx (eZ (fw bs i) ops 0 st.tm) (jo (qX bs ws i (eZ (fw bs i) ops 0 st.tm) st.H.length o.op) 0 st.H) o.op) 0 ms&&(pJ cx (eZ (fw bs i) ops 0 st.tm) (jo (qX bs ws i (eZ (fw bs i) ops 0 st.tm) st.H.length o.op) 0 st.H) o.op).all fun h=> !(qX bs ws i (eZ (fw bs i) ops 0 st.tm) st.H.length o.op).testBit h&&decide (h<st.H.length))&&decide (st.H.length<=H'.length)then
     match vf st wr o.dst v (ly (qX bs ws i (eZ (fw bs i) ops 0 st.tm) st.H.length o.op) 0 st.H H') (c&&st.ok)with
     |some (st',wr')=>qY cx ops bs r (i+1) st' wr' (ms++[(qX bs ws i (eZ (fw bs i) ops 0 st.tm) st.H.length o.op,st.H.length)])
       (ws++[bitsOf (pJ cx (eZ (fw bs i) ops 0 st.tm) (jo (qX bs ws i (eZ (fw bs i) ops 0 st.tm) st.H.length o.op) 0 st.H) o.op++List.range' st.H.length (H'.length-st.H.length))])
     |none=>none
    else none
  else none
def pK(cx:Cx K)(ops:List Oper)(st:St K):Option (St K):=
 if(ops.all fun o=>oK cx o.op)&&kH ops 0 then match nj cx ops (iV ops []) ops 0 st []with
     |some (st',wr)=>some ⟨jV st'.tm wr,st'.H,st'.ok⟩
     |none=>none
  else if kH ops 0 then match qY cx ops (iV ops []) ops 0 st [] [] []with
   |some (st',wr)=>some ⟨jV st'.tm wr,st'.H,st'.ok⟩
   |none=>none
  else none
def zP(π:List Nat)(n:Nat):Bool:=decide (π.length=n)&&(π.all (fun i=>decide (i<n))&&((List.range n).all (fun i=>π.contains i)&&ni π))
def vh(π:List Nat)(n:Nat)(o:Oper):Oper:=
 {o with after:=(o.after.filter (Region.binds .any)).map (fun e=>{e with on:=(π.idxOf? e.on).getD n}),guard:=o.guard.map fun g=>((π.idxOf? g.1).getD n,g.2)}
def permuted(π:List Nat)(ops:List Oper):List Oper:=π.map fun i=>match ops[i]? with
 |some o=>vh π ops.length o
 |none=>{dst:=none,op:=.move (.const .nilIface),type:=0,pos:= "",after:= #[],guard:=none}
def N5(cx:Cx K)(ops:List Oper)(bs:List Nat):List Nat:=
 match(List.range ops.length).foldl (fun acc i=>match ops[i]? with
  |some o=>if sN cx o.op&&(!oK cx o.op&& !acc.contains i)then acc++((List.range ops.length).filter fun j=>(bs.getD i 0).testBit j&& !acc.contains j)++[i]else acc
  |none=>acc) []with
 |acc=>acc++(List.range ops.length).filter fun j=> !acc.contains j
def zQ(cx:Cx K)(ops:List Oper)(π:List Nat)(st:St K):Option (St K):=
 if zP π ops.length then pK cx (permuted π ops) st else none
def Iq(cx:Cx K)(ops:List Oper)(st:St K):Option (St K):=
 if kH ops 0 then match pK cx ops st with
  |some r=>some r
  |none=>zQ cx ops (N5 cx ops (iV ops [])) st
 else match zQ cx ops (List.range ops.length) st with
  |some r=>some r
  |none=>zQ cx ops (N5 cx ops (iV (permuted (List.range ops.length) ops) [])) st
def jq(cx:Cx K)(ops:List Oper)(draw:Bool)(st:St K):Option (St K):=
 if draw then Iq cx ops st
 else match lY cx ops ops st []with
  |some (st',wr)=>some ⟨jV st'.tm wr,st'.H,st'.ok⟩
  |none=>none
def writes:Code->List Nat
 |.region _ ops _=>ops.toList.filterMap (·.dst)
 |.seq a b=>writes a++writes b
 |.cond _ a b=>writes a++writes b
 |.block _ c=>writes c
 |.loop c=>writes c
 |.scope c=>writes c
 |.rangeFunc _ ps a c=>ps.toList++writes a++writes c
 |_=>[]
def simple(cx:Cx K):Code->Bool
 |.skip=>true
 |.region _ ops _=>ops.toList.all fun o=>jD cx o.op
 |.seq a b=>simple cx a&&simple cx b
 |.cond _ a b=>simple cx a&&simple cx b
 |_=>false
def jW(b:Bool)(wr:List Nat):Nat->List (AV K)->List (AV K)->List (AV K)->List (AV K)
 |n,v::r,x::s,y::t=>(if wr.contains n then merge b x y else v)::jW b wr (n+1) r s t
 |_,_,_,_=>[]
def eE(tm:List (AV K)):List Nat->List (AV K)->List (AV K)
 |d::r,v::s=>eE (tm.set d v) r s
 |_,_=>tm
def keyOf:Code->Nat
 |.region id _ _=>id
 |.seq a _=>keyOf a
 |.cond _ a _=>keyOf a
 |.block _ c=>keyOf c
 |.loop c=>keyOf c
 |_=>0
def inLoop(H:List (Ob K))(vals:List (AV K)):Option (List Nat×List (AV K)×List (Ob K)):=
 if vc H (reach H 64 (cw vals) [])then match N2 (reach H 64 (cw vals) []) vals,ng (Dm (reach H 64 (cw vals) [])) ((reach H 64 (cw vals) []).map fun h=>H.getD h .dead)with
  |some lA,some Hi=>some (reach H 64 (cw vals) [],lA,Hi)
  |_,_=>none
 else none
def ix(m:List Nat)(n k:Nat):List Nat:=m++(List.range (k-m.length)).map (n+·)
def Dq(L:bQ K)(m:List Nat)(st:St K)(vs:List (AV K))(Ho:List (Ob K)):Option (St K):=
 match ab6 (ix m st.H.length Ho.length) vs,ng (va (ix m st.H.length Ho.length)) Ho with
 |some vs',some iG=>if m.length<=Ho.length then some ⟨eE (List.replicate L.n .any) L.outs vs',jU st.H m (iG.take m.length)++iG.drop m.length,st.ok⟩else none
 |_,_=>none
def Ir(ops:List Oper):List Nat:=(ops.filterMap fun o=>match guardOf ops o with
 |some (some (g,_))=>some g
 |_=>none).eraseDups
def zR(cx:Cx K)(ops:List Oper)(draw:Bool)(st:St K):List Nat->Option (Bool×St K×St K)
 |[]=>none
 |t::r=>match jq {cx with gs:=[(t,true)]} ops draw st,jq {cx with gs:=[(t,false)]} ops draw st with
  |some s1,some s2=>match s1.tm.getD t .any with
   |.bool b=>some (b,s1,s2)
   |_=>zR cx ops draw st r
  |_,_=>zR cx ops draw st r
inductive iH (K:df) where
 |no
 |leaf (s:St K)
 |node (b:Bool) (x y:iH K)
 |two (x y:St K)
def iH.go(cx:Cx K):iH K->{R:Type}->(St K->Option R)->Option R
 |.no,_,_=>none
 |.leaf s,_,k=>k s
 |.node b x y,_,k=>cond b (x.go cx k) (y.go cx k)
 |.two x y,_,k=>cx.zG (k x) (k y)
def vi(cx:Cx K)(ops:List Oper):List Oper->St K->List Nat->St K×List Oper
 |[],st,_=>(st,[])
 |o::r,st,wr=>match vg cx ops st wr o with
  |some (st',wr')=>vi cx ops r st' wr'
  |none=>(st,o::r)
def Ds(cx:Cx K)(st:St K):List Nat->Option (Nat×Bool)
 |[]=>none
 |t::r=>match known cx t with
  |some _=>Ds cx st r
  |none=>match st.tm[t]? with
   |some (.bool b)=>some (t,b)
   |_=>Ds cx st r
def N6(st:St K):List Oper->Bool
 |[]=>false
 |o::_=>match o.op with
  |.nilCheck (.tmp t)=>match st.tm[t]? with
    |some .dA=>true
    |some (.opt _ _ .dA)=>true
    |_=>false
  |_=>false
def zS(cx:Cx K)(ops:List Oper)(draw:Bool)(st:St K):Nat->List (Nat×Bool)->Option (iH K)
 |0,_=>none
 |n+1,gs=>match jq {cx with gs:=gs} ops draw st with
  |some s=>some (.leaf s)
  |none=>match jq {cx with call:=cx.alt true,mode:=cx.qR true,gs:=gs} ops draw st,jq {cx with call:=cx.alt false,mode:=cx.qR false,gs:=gs} ops draw st with
   |some s1,some s2=>some (.two s1 s2)
   |_,_=>match Ds {cx with gs:=gs} (vi {cx with gs:=gs} ops ops st []).1 (Ir ops)with
    |some (t,b)=>match zS cx ops draw st n ((t,true)::gs),zS cx ops draw st n ((t,false)::gs)with
     |some x,some y=>some (.node b x y)
     |_,_=>none
    |none=>if N6 (vi {cx with gs:=gs} ops ops st []).1 (vi {cx with gs:=gs} ops ops st []).2 then some .no else none
def zT(cx:Cx K)(ops:List Oper)(draw:Bool)(st:St K):Nat->List (Nat×Bool)->Option (iH K)
 |0,_=>none
 |n+1,gs=>match jq {cx with gs:=gs} ops draw st with
  |some s=>some (.leaf s)
  |none=>match Ds {cx with gs:=gs} (vi {cx with gs:=gs} ops ops st []).1 (Ir ops)with
   |some (t,b)=>match zT cx ops draw st n ((t,true)::gs),zT cx ops draw st n ((t,false)::gs)with
    |some x,some y=>some (.node b x y)
    |_,_=>none
   |none=>if N6 (vi {cx with gs:=gs} ops ops st []).1 (vi {cx with gs:=gs} ops ops st []).2 then some .no else none
def iH.Dt:iH K->{R:Type}->(St K->Option R)->Option R
 |.leaf s,_,k=>k s
 |.node b x y,_,k=>cond b (x.Dt k) (y.Dt k)
 |_,_,_=>none
def xo:Ex->St K->Option (St K)
 |.normal,st=>some st
 |_,_=>none
def gn(cx:Cx K):Code->{R:Type}->St K->(Ex->St K->Option R)->Option R
 |.skip,_,st,k=>k .normal st
 |.region _ ops draw,_,st,k=>match jq cx ops.toList draw st with
   |some st'=>k .normal st'
   |none=>match zR cx ops.toList draw st (Ir ops.toList)with
    |some (b,s1,s2)=>cond b (k .normal s1) (k .normal s2)
    |none=>if(ops.toList.all fun o=>jD cx o.op)=true then match zT cx ops.toList draw st 4 []with
      |some T=>T.Dt (k .normal)
      |none=>none
     else match jq {cx with call:=cx.alt true,mode:=cx.qR true} ops.toList draw st,jq {cx with call:=cx.alt false,mode:=cx.qR false} ops.toList draw st with
     |some s1,some s2=>cx.zG (k .normal s1) (k .normal s2)
     |_,_=>match zS cx ops.toList draw st 4 []with
      |some T=>T.go cx (k .normal)
      |none=>none
 |.seq a b,_,st,k=>gn cx a st fun e s=>match e with
   |.normal=>gn cx b s k
   |e=>k e s
 |.cond c a b,_,st,k=>match dQ st.tm [] c with
   |.bool t=>if simple cx a&&simple cx b then
       match gn cx a st xo,gn cx b st xo with
       |some sa,some sb=>k .normal ⟨jW t (writes a++writes b) 0 st.tm sa.tm sb.tm,st.H,(sa.ok|| !t)&&(sb.ok||t)⟩
       |_,_=>none
     else cond t (gn cx a st k) (gn cx b st k)
   |_=>none
 |.block id c,_,st,k=>gn cx c st fun e s=>match e with
   |.exit i=>if i=id then k .normal s else k (.exit i) s
   |e=>k e s
 |.loop c,_,st,k=>match cx.loop (keyOf c)with
   |some L=>if st.tm.length=L.n then match inLoop st.H (L.ins.map fun t=>st.tm.getD t .any)with
     |some (m,vals,Hi)=>L.run vals Hi fun e vs Ho=>match Dq L m st vs Ho with
      |some st'=>k e st'
      |none=>none
     |none=>none else none
   |none=>none
 |.exit id,_,st,k=>k (.exit id) st
 |.ret,_,st,k=>k .ret st
 |_,_,_,_=>none
def sO(cx:Cx K)(st:St K):List ResultVar->Option (List (AV K))
 |[]=>some []
 |.tmp t::r=>match sO cx st r with
   |some l=>some (st.tm.getD t .any::l)
   |none=>none
 |.cell a t::r=>match Dk cx.P cx.D st.H t (st.tm.getD a .any),sO cx st r with
   |some v,some l=>some (v::l)
   |_,_=>none
def resV(cx:Cx K)(fn:Func)(st:St K):Option (AV K):=
 match sO cx st fn.results.toList with
 |some [v]=>some (eK st.H v)
 |some l=>some (.bB (pG st.H l))
 |none=>none
def vj{α β:Type}(f:α->Option β):List α->Option (List β)
 |[]=>some []
 |x::r=>match f x,vj f r with
  |some y,some l=>some (y::l)
  |_,_=>none
def sP(src:List (Option Nat))(h:Nat):Option Nat:=src.idxOf? (some h)
def sQ(n0 n:Nat):Nat->List (Option Nat)->Bool
 |_,[]=>true
 |i,none::r=>decide (i<n0)&&sQ n0 n (i+1) r
 |i,some h::r=>decide (h<n)&&((decide (n0<=i)||decide (h=i))&&(!r.contains (some h)&&sQ n0 n (i+1) r))
def vk(src:List (Option Nat))(H:List (Ob K)):Option Nat->Option (Ob K)
 |none=>some .dead
 |some h=>match H[h]? with
  |some o=>lx (sP src) o
  |none=>none
def qZ(n0:Nat)(src:List (Option Nat))(keep:List Nat)(st:St K):Option (St K):=
 if sQ n0 st.H.length 0 src&&decide (n0<=src.length)then
  match jT (sP src) (keep.map fun t=>st.tm.getD t .any),vj (vk src st.H) src with
  |some vs,some H=>some ⟨eE (List.replicate st.tm.length .any) keep vs,H,st.ok⟩
  |_,_=>none
 else none
def vl(n0:Nat)(keep:List Nat)(st:St K):Option (St K):=
 qZ n0 ((reach st.H 64 (List.range n0++cw (keep.map fun t=>st.tm.getD t .any)) []).map some) keep st
def sR(cx:Cx K)(s:St K):Option (Bool×St K):=match Im s.H with
 |none=>some (true,s)
 |some _=>match shut cx.D s.H with
  |some (H',b,_)=>some (b,⟨s.tm,H',s.ok⟩)
  |none=>none
def Du(cx:Cx K)(n0:Nat)(keep outs:List Nat)(body:Code)(st:St K):Option (St K⊕Ex×St K):=
 gn cx body st fun e s=>cond s.ok (match e with
  |.normal=>match sR cx s with
    |some (b,s1)=>cond b (match vl n0 keep s1 with
     |some s'=>some (.inl s')
     |none=>none) none
    |none=>none
  |e=>match sR cx s with
   |some (b,s1)=>cond b (match vl n0 outs s1 with
    |some s'=>some (.inr (e,s'))
    |none=>none) none
   |none=>none) none
def Is(n0:Nat)(src:List (Option Nat))(v:AV K)(H:List (Ob K)):Option (AV K×List (Ob K)):=
 if sQ n0 H.length 0 src&&decide (n0<=src.length)then
  match fP (sP src) v,vj (vk src H) src with
  |some v',some H'=>some (v',H')
  |_,_=>none
 else none
def pack(n0:Nat)(v:AV K)(H:List (Ob K)):Option (AV K×List (Ob K)):=
 Is n0 ((reach H 64 (List.range n0++hands v) []).map some) v H
def It(H:List (Ob K))(h:Nat):Bool:=match H[h]? with
 |some (.arr ..)=>false
 |some (.ic ..)=>false
 |some (.tree ..)=>false
 |_=>true
def ab9(n0:Nat)(v:AV K)(H:List (Ob K)):List (Option Nat):=
 ((List.range n0).map fun h=>cond (It H h) (some h) none)++((reach H 64 ((List.range n0).filter (It H)++hands v) []).filter fun h=> !(decide (h<n0)&&It H h)).map some
def Dv(mv:Bool)(n0:Nat)(v:AV K)(H:List (Ob K)):Option (AV K×List (Ob K)):=
 Is n0 (cond mv (ab9 n0 v H) ((reach H 64 (List.range n0++hands v) []).map some)) v H
def aca(cx:Cx K)(fn:Func)(n0:Nat)(e:Ex)(st:St K):Option (AV K×List (Ob K)):=
 match e with
 |.exit _=>none
 |_=>match resV cx fn st with
  |some v=>cond st.ok (pack n0 v st.H) none
  |none=>none
def apR(cx:Cx K)(fn:Func)(args:List (AV K))(H:List (Ob K)):Option (AV K×List (Ob K)):=
 match fn.body with
 |some c=>gn cx c ⟨args++List.replicate (fn.ntmps-args.length) .any,H,true⟩ (aca cx fn H.length)
 |none=>none
end Go.V
namespace Go.V
open Go
variable {K :df}
def iW(w:World)(b k:Nat)(vs:List Value):Prop:=∀j v,vs[j]?=some v->w.cell? ⟨b,k+j,none⟩=some v
inductive Rep (D:bE K) (ρ:List Value) (S:Nat->Prop) (w:World):AV K->Value->Prop
 |any (v:Value):Rep D ρ S w .any v
 |int (k:IntKind) (n:Int):Rep D ρ S w (.int k n) (.int k n)
 |bool (b:Bool):Rep D ρ S w (.bool b) (.bool b)
 |str (s:List UInt8):Rep D ρ S w (.str s) (.string ⟨s.toArray⟩)
 |dA:Rep D ρ S w .dA (.pointer none)
 |lB {h:Nat}:Rep D ρ S w (.np h) (.pointer none)
 |np {h b:Nat} (hp:ρ[h]?=some (.pointer (some ⟨b,0,none⟩))):Rep D ρ S w (.np h) (.pointer (some ⟨b,0,none⟩))
 |dn:Rep D ρ S w .dn (.slice none 0 0)
 |mp (r:Option Nat):Rep D ρ S w .mp (.map r)
 |fn {f:Nat} {caps:List (AV K)} {vs:List Value} (hl:caps.length=vs.length) (hr:∀(i:Nat) v x,caps[i]?=some v->vs[i]?=some x->Rep D ρ S w v x):
   Rep D ρ S w (.fn f caps) (.func (.func f) #[] vs.toArray)
 |ptr {h off b:Nat} (hp:ρ[h]?=some (.pointer (some ⟨b,0,none⟩))):Rep D ρ S w (.ptr h off) (.pointer (some ⟨b,off,none⟩))
 |sl {h:Nat} {a:Option Addr} {n c:Nat} (hp:ρ[h]?=some (.slice a n c)):Rep D ρ S w (.sl h) (.slice a n c)
 |ep {h st i off b o n c:Nat} (hp:ρ[h]?=some (.slice (some ⟨b,o,none⟩) n c)) (hi:i<n):Rep D ρ S w (.ep h st i off) (.pointer (some ⟨b,o+i*st+off,none⟩))
 |vw {h st lo hi n c c':Nat} {a a':Option Addr} (hp:ρ[h]?=some (.slice a n c)) (h1:lo<=hi) (h2:hi<=n) (ha:hi-lo=0\/∃b o,a=some ⟨b,o,none⟩/\a'=some ⟨b,o+lo*st,none⟩/\hi-lo<=c'):Rep D ρ S w (.vw h st lo hi) (.slice a' (hi-lo) c')
 |fx {c:K.U} (a:Option Addr) (cap:Nat):Rep D ρ S w (.ax c []) (.slice a 0 cap)
 |ax {c:K.U} {l:List (K.El c)} {b o cap:Nat} (val:Nat->List Value) (hS:S b) (hcap:l.length<=cap)
   (hl:∀i x,l[i]?=some x->(val i).length=(D.cells c x).length)
   (hc:∀i,i<l.length->iW w b (o+i*K.sz c) (val i))
   (hr:∀i x,l[i]?=some x->∀(j:Nat) v y,(D.cells c x)[j]?=some v->(val i)[j]?=some y->Rep D ρ S w v y):
   Rep D ρ S w (.ax c l) (.slice (some ⟨b,o,none⟩) l.length cap)
 |rp {c:K.U} {x:K.El c} {b o off:Nat} (vs:List Value) (hS:S b) (hl:vs.length=(D.cells c x).length) (hc:iW w b o vs)
   (hr:∀(j:Nat) v y,(D.cells c x)[j]?=some v->vs[j]?=some y->Rep D ρ S w v y):
   Rep D ρ S w (.rp c x off) (.pointer (some ⟨b,o+off,none⟩))
 |agg {l:List (AV K)} {vs:List Value} (hl:l.length=vs.length) (hr:∀(i:Nat) v x,l[i]?=some v->vs[i]?=some x->Rep D ρ S w v x):
   Rep D ρ S w (.agg l) (.agg vs.toArray)
 |bB {l:List (AV K)} {vs:List Value} (hl:l.length=vs.length) (hr:∀(i:Nat) v x,l[i]?=some v->vs[i]?=some x->Rep D ρ S w v x):
   Rep D ρ S w (.bB l) (.tuple vs.toArray)
def bc(D:bE K)(ρ:List Value)(S:Nat->Prop)(w:World)(l:List (AV K))(vs:List Value):Prop:=
 l.length=vs.length/\∀(i:Nat) v x,l[i]?=some v->vs[i]?=some x->Rep D ρ S w v x
section
variable {D :bE K}{ρ ρ':List Value}{S S':Nat->Prop}{w w':World}
theorem bc.nil:bc D ρ S w [] []:=⟨rfl,fun i v x h=>by simp at h⟩
theorem bc.cons{v:AV K}{x:Value}{l:List (AV K)}{vs:List Value}(h:Rep D ρ S w v x)(t:bc D ρ S w l vs):bc D ρ S w (v::l) (x::vs):=
 ⟨by simp[t.1],fun i u y hu hy=>by
   cases i with
   |zero=>simp at hu hy;subst hu;subst hy;exact h
   |succ i=>exact t.2 i u y (by simpa using hu) (by simpa using hy)⟩
theorem bc.head{v:AV K}{x:Value}{l:List (AV K)}{vs:List Value}(h:bc D ρ S w (v::l) (x::vs)):Rep D ρ S w v x:=h.2 0 v x rfl rfl
theorem bc.tail{v:AV K}{x:Value}{l:List (AV K)}{vs:List Value}(h:bc D ρ S w (v::l) (x::vs)):bc D ρ S w l vs:=
 ⟨by simpa using h.1,fun i u y hu hy=>h.2 (i+1) u y (by simpa using hu) (by simpa using hy)⟩
theorem bc.gP{v:AV K}{l:List (AV K)}{vs:List Value}(h:bc D ρ S w (v::l) vs):∃x r,vs=x::r/\Rep D ρ S w v x/\bc D ρ S w l r:=by
 cases vs with
 |nil=>simp[bc]at h
 |cons x r=>exact⟨x,r,rfl,h.head,h.tail⟩
theorem bc.oL{vs:List Value}(h:bc D ρ S w [] vs):vs=[]:=by
 have:=h.1;simp at this;exact mE this.symm
theorem bc.append{l m:List (AV K)}{vs us:List Value}(h:bc D ρ S w l vs)(k:bc D ρ S w m us):bc D ρ S w (l++m) (vs++us):=by
 refine⟨by simp[h.1,k.1],fun i v x hv hx=>?_⟩;by_cases hi:i<l.length
 ·rw[d4 hi]at hv;rw[d4 (by rw[<-h.1];exact hi)]at hx;exact h.2 i v x hv hx
 ·rw[ff (by omega)]at hv;rw[ff (by rw[<-h.1];omega)]at hx;exact k.2 (i-l.length) v x hv (by rw[h.1];exact hx)
theorem bc.drop{l:List (AV K)}{vs:List Value}(h:bc D ρ S w l vs)(n:Nat):bc D ρ S w (l.drop n) (vs.drop n):=
 ⟨by simp[h.1],fun i v x hv hx=>h.2 (n+i) v x (by simpa using hv) (by simpa using hx)⟩
theorem bc.take{l:List (AV K)}{vs:List Value}(h:bc D ρ S w l vs)(n:Nat):bc D ρ S w (l.take n) (vs.take n):=
 ⟨by simp[h.1],fun i v x hv hx=>by
   simp only[fq]at hv hx;split at hv
   ·rename_i hi;rw[aT hi]at hx;exact h.2 i v x hv hx
   ·simp at hv⟩
theorem bc.get{l:List (AV K)}{vs:List Value}(h:bc D ρ S w l vs){i:Nat}{v:AV K}(hv:l[i]?=some v):∃x,vs[i]?=some x/\Rep D ρ S w v x:=by
 have hi:i<vs.length:=by rw[<-h.1];exact(cG.1 hv).1
 exact⟨vs[i],cH hi,h.2 i v _ hv (cH hi)⟩
theorem bc.set{l:List (AV K)}{vs:List Value}(h:bc D ρ S w l vs){n:Nat}{v:AV K}{x:Value}(hv:Rep D ρ S w v x):bc D ρ S w (l.set n v) (vs.set n x):=by
 refine⟨by simp[h.1],fun i u y hu hy=>?_⟩;rw[lr]at hu hy;by_cases hn:n=i
 ·subst hn;simp only[nc]at hu hy;split at hu
  ·rename_i hl;rw[aT (by rw[<-h.1];exact hl)]at hy;simp at hu hy;subst hu;subst hy;exact hv
  ·simp at hu
 ·rw[aP hn]at hu hy;exact h.2 i u y hu hy
theorem cell?_of_heap{a:Addr}(h:w'.heap[a.block]?=w.heap[a.block]?):w'.cell? a=w.cell? a:=by simp[World.cell?,h]
theorem iW.keep{b k:Nat}{vs:List Value}(h:iW w b k vs)(hb:w'.heap[b]?=w.heap[b]?):iW w' b k vs:=fun j v hv=>by
 rw[cell?_of_heap (w:=w) (a:=⟨b,k+j,none⟩) hb];exact h j v hv
theorem Rep.mono(hS:∀b,S b->S' b)(hw:∀b,S b->w'.heap[b]?=w.heap[b]?)(hρ:∀(h:Nat) r,ρ[h]?=some r->ρ'[h]?=some r){v:AV K}{x:Value}
 (h:Rep D ρ S w v x):Rep D ρ' S' w' v x:=by
 induction h with
 |any v=>exact .any v
 |int k n=>exact .int k n
 |bool b=>exact .bool b
 |str s=>exact .str s
 |dA=>exact .dA
 |dn=>exact .dn
 |mp r=>exact .mp r
 |fn hl _ ih=>exact .fn hl ih
 |lB=>exact .lB
 |np hp=>exact .np (hρ _ _ hp)
 |ptr hp=>exact .ptr (hρ _ _ hp)
 |sl hp=>exact .sl (hρ _ _ hp)
 |ep hp hi=>exact .ep (hρ _ _ hp) hi
 |vw hp h1 h2 ha=>exact .vw (hρ _ _ hp) h1 h2 ha
 |fx a cap=>exact .fx a cap
 |ax val h1 h2 h3 h4 _ ih=>exact .ax val (hS _ h1) h2 h3 (fun i hi=>(h4 i hi).keep (hw _ h1)) ih
 |rp vs h1 h2 h3 _ ih=>exact .rp vs (hS _ h1) h2 (h3.keep (hw _ h1)) ih
 |agg hl _ ih=>exact .agg hl ih
 |bB hl _ ih=>exact .bB hl ih
theorem bc.mono(hS:∀b,S b->S' b)(hw:∀b,S b->w'.heap[b]?=w.heap[b]?)(hρ:∀(h:Nat) r,ρ[h]?=some r->ρ'[h]?=some r){l:List (AV K)}{vs:List Value}
 (h:bc D ρ S w l vs):bc D ρ' S' w' l vs:=⟨h.1,fun i v x hv hx=>(h.2 i v x hv hx).mono hS hw hρ⟩
def AV.pL:AV K->Bool
 |.ax ..=>true
 |_=>false
structure bT (D:bE K):Prop where
 len:∀c x,(D.cells c x).length=K.sz c
 closed:∀c x,iw (D.cells c x)=true
 one:∀c x,(D.cells c x).all AV.one=true
 dec:∀c l x,D.dec c l=some (x,true)->∀ρ S w vs,bc D ρ S w l vs->bc D ρ S w (D.cells c x) vs
 byte:∀c f g,D.byte c=some (f,g)->(∀x,D.cells c x=[.int .u8 ((f x).toNat:Int)])/\∀b,f (g b)=b
 flat:∀c x,jS (D.cells c x)=jS (D.cells c (K.zero c))
 kinds:∀c x (j:Nat) v,(D.cells c x)[j]?=some v->v≠.dn/\(v.pL=false->jl v=false)
 Dw:∀c l x,D.dec c l=some (x,true)->l.length=K.sz c/\∀(j:Nat) v v',l[j]?=some v->(D.cells c x)[j]?=some v'->v'=v\/(v=.dn/\∃c',v'=.ax c' [])
theorem vm{l:List (AV K)}(h:iw l=true){i:Nat}{v:AV K}(hv:l[i]?=some v):v.closed=true:=by
 induction l generalizing i with
 |nil=>simp at hv
 |cons u r ih=>
  simp only[iw,bz]at h;cases i with
  |zero=>simp at hv;subst hv;exact h.1
  |succ i=>exact ih h.2 (by simpa using hv)
theorem Rep.closed(hD:bT D){v:AV K}{x:Value}(h:Rep D ρ S w v x)(hv:v.closed=true):Rep D ρ' S w v x:=by
 induction h with
 |any v=>exact .any v
 |int k n=>exact .int k n
 |bool b=>exact .bool b
 |str s=>exact .str s
 |dA=>exact .dA
 |dn=>exact .dn
 |mp r=>exact .mp r
 |fn hl _ ih=>exact .fn hl fun i u y hu hy=>ih i u y hu hy (vm (by simpa [AV.closed]using hv) hu)
 |lB=>simp[AV.closed]at hv
 |np hp=>simp[AV.closed]at hv
 |ptr hp=>simp[AV.closed]at hv
 |sl hp=>simp[AV.closed]at hv
 |ep hp hi=>simp[AV.closed]at hv
 |vw hp h1 h2 ha=>simp[AV.closed]at hv
 |fx a cap=>exact .fx a cap
 |ax val h1 h2 h3 h4 _ ih=>exact .ax val h1 h2 h3 h4 fun i x hx j v y hv hy=>ih i x hx j v y hv hy (vm (hD.closed _ _) hv)
 |rp vs h1 h2 h3 _ ih=>exact .rp vs h1 h2 h3 fun j v y hv hy=>ih j v y hv hy (vm (hD.closed _ _) hv)
 |agg hl _ ih=>exact .agg hl fun i u y hu hy=>ih i u y hu hy (vm (by simpa [AV.closed]using hv) hu)
 |bB hl _ ih=>exact .bB hl fun i u y hu hy=>ih i u y hu hy (vm (by simpa [AV.closed]using hv) hu)
theorem bc.closed(hD:bT D){l:List (AV K)}{vs:List Value}(h:bc D ρ S w l vs)(hv:iw l=true):bc D ρ' S w l vs:=
 ⟨h.1,fun i v x hi hx=>(h.2 i v x hi hx).closed hD (vm hv hi)⟩
end
def lC:Value->Option Nat
 |.pointer (some a)=>some a.block
 |.slice (some a) _ _=>some a.block
 |_=>none
def cX(vs:Array Value)(k n:Nat):List Value:=(vs.toList.drop k).take n
def Iu(D:bE K)(cs:List (AV K))(T:TypeId):Prop:=lu cs=true->D.qQ=some T
def iI(D:bE K)(c:K.U)(T:TypeId)(o:Nat):Prop:=∀t,D.sM c=some t->T=t/\o=0
inductive dY (D:bE K) (w:World):(c:K.U)->List (K.El c)->Value->Nat->Prop
 |here {c:K.U} {l:List (K.El c)} {b o n cap:Nat}:dY D w c l (.slice (some ⟨b,o,none⟩) n cap) b
 |kid {c:K.U} {l:List (K.El c)} {b o n cap i j k:Nat} {x:K.El c} {c':K.U} {l':List (K.El c')} {y:Value} (hx:l[i]?=some x) (hj:(D.cells c x)[j]?=some (.ax c' l'))
   (hy:w.cell? ⟨b,o+i*K.sz c+j,none⟩=some y) (hk:dY D w c' l' y k):dY D w c l (.slice (some ⟨b,o,none⟩) n cap) k
inductive Tree (D:bE K) (w:World):(c:K.U)->List (K.El c)->Value->Prop
 |nil {c:K.U}:Tree D w c [] (.slice none 0 0)
 |mk {c:K.U} {l:List (K.El c)} {b o cap:Nat} {vs:Array Value} {T:TypeId} {fr:Nat×Nat} (hb:w.heap[b]?=some (.cells vs T fr)) (hcap:l.length<=cap/\iI D c T o) (hsz:o+cap*K.sz c<=vs.size)
   (hfr:∀k,o<=k->k<o+cap*K.sz c->¬(fr.1<=k/\k<fr.2))
   (hlen:∀i x,l[i]?=some x->(D.cells c x).length=(cX vs (o+i*K.sz c) (K.sz c)).length)
   (km:∀i x,l[i]?=some x->∀(j:Nat) v y,(D.cells c x)[j]?=some v->(cX vs (o+i*K.sz c) (K.sz c))[j]?=some y->v.pL=false->jl v=false/\Rep D [] (fun _=>False) w v y)
   (cn:∀i x,l[i]?=some x->∀(j:Nat) c' l' y,(D.cells c x)[j]?=some (.ax c' l')->(cX vs (o+i*K.sz c) (K.sz c))[j]?=some y->Tree D w c' l' y)
   (hself:∀i x,l[i]?=some x->∀(j:Nat) c' l' y,(D.cells c x)[j]?=some (.ax c' l')->(cX vs (o+i*K.sz c) (K.sz c))[j]?=some y->¬dY D w c' l' y b)
   (hdis:∀i x,l[i]?=some x->∀(j:Nat) c' l' y,(D.cells c x)[j]?=some (.ax c' l')->(cX vs (o+i*K.sz c) (K.sz c))[j]?=some y->
     ∀i2 x2,l[i2]?=some x2->∀(j2:Nat) c2 l2 y2,(D.cells c x2)[j2]?=some (.ax c2 l2)->(cX vs (o+i2*K.sz c) (K.sz c))[j2]?=some y2->∀k,dY D w c' l' y k->dY D w c2 l2 y2 k->i=i2/\j=j2):
   Tree D w c l (.slice (some ⟨b,o,none⟩) l.length cap)
def zU(i off n i' j':Nat):Prop:=i'=i/\off<=j'/\j'<off+n
def mI(D:bE K)(w:World)(c:K.U)(l:List (K.El c))(i off n:Nat)(r:Value)(k:Nat):Prop:=
 ∃b o m cap,r=.slice (some ⟨b,o,none⟩) m cap/\(k=b\/∃(i' j':Nat)(x:K.El c)(c':K.U)(l':List (K.El c'))(y:Value),¬zU i off n i' j'/\l[i']?=some x/\(D.cells c x)[j']?=some (.ax c' l')/\w.cell? ⟨b,o+i'*K.sz c+j',none⟩=some y/\dY D w c' l' y k)
def pM(D:bE K)(ρ:List Value)(S:Nat->Prop)(w:World)(c:K.U)(l:List (K.El c))(i off:Nat)(cs:List (AV K))(r:Value):Prop:=
 ∃(b o cap:Nat)(vs:Array Value)(T:TypeId)(fr:Nat×Nat),r=.slice (some ⟨b,o,none⟩) l.length cap/\w.heap[b]?=some (.cells vs T fr)/\(l.length<=cap/\iI D c T o)/\o+cap*K.sz c<=vs.size/\
  (∀k,o<=k->k<o+cap*K.sz c->¬(fr.1<=k/\k<fr.2))/\i<l.length/\off+cs.length<=K.sz c/\
  (∀(i':Nat) x,l[i']?=some x->∀(j':Nat) v u,¬zU i off cs.length i' j'->(D.cells c x)[j']?=some v->w.cell? ⟨b,o+i'*K.sz c+j',none⟩=some u->
    (v.pL=false->jl v=false/\Rep D [] (fun _=>False) w v u)/\∀(c':K.U)(l':List (K.El c')),v=.ax c' l'->Tree D w c' l' u/\¬dY D w c' l' u b)/\
  (∀(i1 j1 i2 j2:Nat) x1 x2 (c1:K.U) (l1:List (K.El c1)) (c2:K.U) (l2:List (K.El c2)) u1 u2 k,¬zU i off cs.length i1 j1->¬zU i off cs.length i2 j2->l[i1]?=some x1->l[i2]?=some x2->(D.cells c x1)[j1]?=some (.ax c1 l1)->(D.cells c x2)[j2]?=some (.ax c2 l2)->
    w.cell? ⟨b,o+i1*K.sz c+j1,none⟩=some u1->w.cell? ⟨b,o+i2*K.sz c+j2,none⟩=some u2->dY D w c1 l1 u1 k->dY D w c2 l2 u2 k->i1=i2/\j1=j2)/\
  ∀(j:Nat) v,cs[j]?=some v->∃u,w.cell? ⟨b,o+i*K.sz c+off+j,none⟩=some u/\Rep D ρ S w v u
def cE(D:bE K)(w:World):Ob K->Value->Nat->Prop
 |.tree c l,r,b=>dY D w c l r b
 |.opn c l i off cs,r,b=>mI D w c l i off cs.length r b
 |_,r,b=>lC r=some b
def Ob.live:Ob K->Bool
 |.dead|.ic ..=>false
 |_=>true
def ie(D:bE K)(ρ:List Value)(S:Nat->Prop)(w:World):Ob K->Value->Prop
 |.dead,_=>True
 |.ic c l,r=>Rep D ρ S w (.ax c l) r
 |.box cs,r=>∃b vs T,r=.pointer (some ⟨b,0,none⟩)/\w.heap[b]?=some (.cells vs T (0,0))/\bc D ρ S w cs vs.toList/\Iu D cs T
 |.arr c l,r=>(r=.slice none 0 0/\l=[])\/∃b o cap vs T fr,r=.slice (some ⟨b,o,none⟩) l.length cap/\w.heap[b]?=some (.cells vs T fr)/\(l.length<=cap/\iI D c T o)/\o+cap*K.sz c<=vs.size/\
     (∀k,o<=k->k<o+cap*K.sz c->¬(fr.1<=k/\k<fr.2))/\∀i x,l[i]?=some x->bc D ρ S w (D.cells c x) (cX vs (o+i*K.sz c) (K.sz c))
 |.tree c l,r=>Tree D w c l r
 |.opn c l i off cs,r=>pM D ρ S w c l i off cs r
def Own(D:bE K)(w:World)(ρ:List Value)(H:List (Ob K))(b:Nat):Prop:=∃(h:Nat)(o:Ob K)(r:Value),H[h]?=some o/\o.live=true/\ρ[h]?=some r/\cE D w o r b
structure aL (D:bE K) (ρ:List Value) (S:Nat->Prop) (w:World) (H:List (Ob K)):Prop where
 len:ρ.length=H.length
 ob:∀(h:Nat) o r,H[h]?=some o->ρ[h]?=some r->ie D ρ S w o r
 fh:∀(h h':Nat) o o' r r' b,H[h]?=some o->o.live=true->ρ[h]?=some r->cE D w o r b->H[h']?=some o'->o'.live=true->ρ[h']?=some r'->cE D w o' r' b->h=h'
 lt:∀b,Own D w ρ H b->b<w.heap.size/\¬S b
 slt:∀b,S b->b<w.heap.size
 base:D.base.inv S w
structure Step (D:bE K) (n0:Nat) (ρ:List Value) (S:Nat->Prop) (H:List (Ob K)) (w:World) (ρ':List Value) (S':Nat->Prop) (H':List (Ob K)) (w':World):Prop where
 os:w'.os=w.os
 tape:w'.tape=w.tape
 output:w'.output=w.output
 size:w.heap.size<=w'.heap.size
 old:∀b,b<w.heap.size->¬Own D w ρ H b->w'.heap[b]?=w.heap[b]?
 own:∀b,Own D w' ρ' H' b->Own D w ρ H b\/w.heap.size<=b
 s1:∀b,S b->S' b
 s2:∀b,S' b->S b\/Own D w ρ H b\/w.heap.size<=b
 pre:∀h,h<n0->ρ'[h]?=ρ[h]?
section
variable {D :bE K}{n0:Nat}{ρ ρ' N7:List Value}{S S' N8:Nat->Prop}{w w' w'':World}{H H' pN:List (Ob K)}
theorem Step.refl:Step D n0 ρ S H w ρ S H w:=⟨rfl,rfl,rfl,cu _,fun _ _ _=>rfl,fun _ h=>.inl h,fun _ h=>h,fun _ h=>.inl h,fun _ _=>rfl⟩
theorem Step.trans(a:Step D n0 ρ S H w ρ' S' H' w')(b:Step D n0 ρ' S' H' w' N7 N8 pN w''):Step D n0 ρ S H w N7 N8 pN w'':={
 os:=b.os.trans a.os
 tape:=b.tape.trans a.tape
 output:=b.output.trans a.output
 size:=mG a.size b.size
 old:=fun k hk ho=>by
  rw[b.old k (lq hk a.size) (fun h=>by rcases a.own k h with h|h;exact ho h;omega),a.old k hk ho]
 own:=fun k h=>by
  rcases b.own k h with h|h
  ·exact a.own k h
  ·exact .inr (mG a.size h)
 s1:=fun k h=>b.s1 k (a.s1 k h)
 s2:=fun k h=>by
  rcases b.s2 k h with h|h|h
  ·exact a.s2 k h
  ·rcases a.own k h with h|h
   ·exact .inr (.inl h)
   ·exact .inr (.inr h)
  ·exact .inr (.inr (mG a.size h))
 pre:=fun h hh=>(b.pre h hh).trans (a.pre h hh)}
theorem Step.weaken{m:Nat}(a:Step D n0 ρ S H w ρ' S' H' w')(h:m<=n0):Step D m ρ S H w ρ' S' H' w':=
 ⟨a.os,a.tape,a.output,a.size,a.old,a.own,a.s1,a.s2,fun k hk=>a.pre k (lq hk h)⟩
theorem Step.zV(hs:aL D ρ S w H)(a:Step D n0 ρ S H w ρ' S' H' w'):∀b,S b->w'.heap[b]?=w.heap[b]?:=
 fun b hb=>a.old b (hs.slt b hb) fun h=>(hs.lt b h).2 hb
theorem Step.rep(hs:aL D ρ S w H)(a:Step D n0 ρ S H w ρ' S' H' w')(hρ:∀(h:Nat) r,ρ[h]?=some r->ρ'[h]?=some r){v:AV K}{x:Value}(h:Rep D ρ S w v x):Rep D ρ' S' w' v x:=
 h.mono a.s1 (a.zV hs) hρ
end
end Go.V
set_option linter.unusedVariables false
namespace Go.V
open Go
variable {K :df}{D:bE K}{ρ ρ':List Value}{S S':Nat->Prop}{w w':World}{H H':List (Ob K)}
theorem seg_cell{b p n j:Nat}{vs:Array Value}{T:TypeId}{fr:Nat×Nat}{y:Value}(hb:w.heap[b]?=some (.cells vs T fr))(hy:(cX vs p n)[j]?=some y):w.cell? ⟨b,p+j,none⟩=some y:=by
 simp only[cX,fq,jy]at hy;split at hy
 ·simp[World.cell?,hb];simpa using hy
 ·cases hy
theorem N9{b p n:Nat}{vs:Array Value}{T:TypeId}{fr:Nat×Nat}(hb:w.heap[b]?=some (.cells vs T fr)):iW w b p (cX vs p n):=fun j y hy=>seg_cell hb hy
theorem dY.old{c:K.U}{l:List (K.El c)}{r:Value}{k:Nat}(h:dY D w' c l r k):(∀k,dY D w c l r k->w'.heap[k]?=w.heap[k]?)->dY D w c l r k:=by
 induction h with
 |here=>exact fun _=>.here
 |kid hx hj hy hk ih=>
  intro hw;have hy':=hy;rw[cell?_of_heap (w:=w) (hw _ .here)]at hy';exact .kid hx hj hy' (ih fun k hk=>hw k (.kid hx hj hy' hk))
theorem dY.new{c:K.U}{l:List (K.El c)}{r:Value}{k:Nat}(h:dY D w c l r k):(∀k,dY D w c l r k->w'.heap[k]?=w.heap[k]?)->dY D w' c l r k:=by
 induction h with
 |here=>exact fun _=>.here
 |kid hx hj hy hk ih=>
  intro hw;exact .kid hx hj (by rw[cell?_of_heap (w:=w) (hw _ .here)];exact hy) (ih fun k hk=>hw k (.kid hx hj hy hk))
theorem Iw{v:AV K}(h:v.pL=true):∃c l,v=.ax c l:=by
 cases v<;>first|exact⟨_,_,rfl⟩|cases h
theorem Tree.mono{c:K.U}{l:List (K.El c)}{r:Value}(h:Tree D w c l r):(∀k,dY D w c l r k->w'.heap[k]?=w.heap[k]?)->Tree D w' c l r:=by
 induction h with
 |nil=>exact fun _=>.nil
 | @mk c l b o cap vs T fr hb hcap hsz hfr hlen km cn hself hdis ih=>
   intro hw;have hk:∀(i:Nat)(x:K.El c),l[i]?=some x->∀(j:Nat)(c':K.U)(l':List (K.El c'))(y:Value),(D.cells c x)[j]?=some (.ax c' l')->(cX vs (o+i*K.sz c) (K.sz c))[j]?=some y->∀k,dY D w c' l' y k->w'.heap[k]?=w.heap[k]?:=fun i x hx j c' l' y hj hy k hk=>hw k (.kid hx hj (seg_cell hb hy) hk)
   refine .mk (by rw[hw _ .here];exact hb) hcap hsz hfr hlen (fun i x hx j v y hv hy hd=>⟨(km i x hx j v y hv hy hd).1,(km i x hx j v y hv hy hd).2.mono (fun _ h=>h) (fun _ h=>h.elim) (fun _ _ h=>h)⟩)
    (fun i x hx j c' l' y hj hy=>ih i x hx j c' l' y hj hy (hk i x hx j c' l' y hj hy)) (fun i x hx j c' l' y hj hy hf=>hself i x hx j c' l' y hj hy (hf.old (hk i x hx j c' l' y hj hy)))
    (fun i x hx j c' l' y hj hy i2 x2 hx2 j2 c2 l2 y2 hj2 hy2 k h1 h2=>hdis i x hx j c' l' y hj hy i2 x2 hx2 j2 c2 l2 y2 hj2 hy2 k (h1.old (hk i x hx j c' l' y hj hy)) (h2.old (hk i2 x2 hx2 j2 c2 l2 y2 hj2 hy2)))
theorem Tree.lt{c:K.U}{l:List (K.El c)}{r:Value}{k:Nat}(h:Tree D w c l r):dY D w c l r k->k<w.heap.size:=by
 induction h with
 |nil=>intro hf;cases hf
 |mk hb hcap hsz hfr hlen km cn hself hdis ih=>
  intro hf;cases hf with
  |here=>exact(ln.1 hb).1
  |kid hx hj hy hk=>
   have hj':=(cG.1 hj).1;rw[hlen _ _ hx]at hj';have hs:=cH hj';have hc:=seg_cell hb hs;rw[hc]at hy;cases hy;exact ih _ _ hx _ _ _ _ hj hs hk
theorem Tree.rep{c:K.U}{l:List (K.El c)}{r:Value}(h:Tree D w c l r):(∀k,dY D w c l r k->S k)->Rep D ρ S w (.ax c l) r:=by
 induction h with
 |nil=>exact fun _=>.fx _ _
 |mk hb hcap hsz hfr hlen km cn hself hdis ih=>
  intro hS;refine .ax (fun i=>cX _ (_+i*K.sz _) (K.sz _)) (hS _ .here) hcap.1 (fun i x hx=>(hlen i x hx).symm) (fun i _=>N9 hb) (fun i x hx j v y hv hy=>?_);cases hd:v.pL
  ·exact(km i x hx j v y hv hy hd).2.mono (fun _ h=>h.elim) (fun _ h=>h.elim) (fun _ _ h=>by simp at h)
  ·obtain⟨c',l',rfl⟩:=Iw hd;exact ih i x hx j c' l' y hv hy fun k hk=>hS k (.kid hx hv (seg_cell hb hy) hk)
theorem Oa{c:K.U}{l:List (K.El c)}{r:Value}(h:Tree D w c l r):∃a cp,r=.slice a l.length cp:=by
 cases h with
 |nil=>exact⟨_,_,rfl⟩
 |mk=>exact⟨_,_,rfl⟩
theorem mI.old{c:K.U}{l:List (K.El c)}{i off n:Nat}{r:Value}{k:Nat}(h:mI D w' c l i off n r k)(hw:∀k,mI D w c l i off n r k->w'.heap[k]?=w.heap[k]?):mI D w c l i off n r k:=by
 obtain⟨b,o,m,cap,rfl,h|⟨i',j',x,c',l',y,h1,h2,h3,h4,h5⟩⟩:=h
 ·exact⟨b,o,m,cap,rfl,.inl h⟩
 ·rw[cell?_of_heap (w:=w) (hw b ⟨b,o,m,cap,rfl,.inl rfl⟩)]at h4;exact⟨b,o,m,cap,rfl,.inr ⟨i',j',x,c',l',y,h1,h2,h3,h4,h5.old fun k hk=>hw k ⟨b,o,m,cap,rfl,.inr ⟨i',j',x,c',l',y,h1,h2,h3,h4,hk⟩⟩⟩⟩
theorem mI.new{c:K.U}{l:List (K.El c)}{i off n:Nat}{r:Value}{k:Nat}(h:mI D w c l i off n r k)(hw:∀k,mI D w c l i off n r k->w'.heap[k]?=w.heap[k]?):mI D w' c l i off n r k:=by
 obtain⟨b,o,m,cap,rfl,h|⟨i',j',x,c',l',y,h1,h2,h3,h4,h5⟩⟩:=h
 ·exact⟨b,o,m,cap,rfl,.inl h⟩
 ·exact⟨b,o,m,cap,rfl,.inr ⟨i',j',x,c',l',y,h1,h2,h3,by rw[cell?_of_heap (w:=w) (hw b ⟨b,o,m,cap,rfl,.inl rfl⟩)];exact h4,h5.new fun k hk=>hw k ⟨b,o,m,cap,rfl,.inr ⟨i',j',x,c',l',y,h1,h2,h3,h4,hk⟩⟩⟩⟩
theorem pM.keep{c:K.U}{l:List (K.El c)}{i off:Nat}{cs:List (AV K)}{r:Value}(hR:∀(j:Nat) v u,cs[j]?=some v->Rep D ρ S w v u->Rep D ρ' S' w' v u)
 (hb:∀k,mI D w c l i off cs.length r k->w'.heap[k]?=w.heap[k]?) (h:pM D ρ S w c l i off cs r):pM D ρ' S' w' c l i off cs r:=by
 obtain⟨b,o,cap,vs,T,fr,rfl,h1,h2,h3,h4,h5,h6,h7,h8,h9⟩:=h;have hbb:w'.heap[b]?=w.heap[b]?:=hb b ⟨b,o,_,cap,rfl,.inl rfl⟩;have hcell:∀k,w'.cell? ⟨b,k,none⟩=w.cell? ⟨b,k,none⟩:=fun k=>cell?_of_heap hbb
 have hk:∀(i' j':Nat)(x:K.El c)(c':K.U)(l':List (K.El c'))(y:Value),¬zU i off cs.length i' j'->l[i']?=some x->(D.cells c x)[j']?=some (.ax c' l')->w.cell? ⟨b,o+i'*K.sz c+j',none⟩=some y->∀k,dY D w c' l' y k->w'.heap[k]?=w.heap[k]?:=
  fun i' j' x c' l' y g1 g2 g3 g4 k hk=>hb k ⟨b,o,_,cap,rfl,.inr ⟨i',j',x,c',l',y,g1,g2,g3,g4,hk⟩⟩
 refine⟨b,o,cap,vs,T,fr,rfl,by rw[hbb];exact h1,h2,h3,h4,h5,h6,fun i' x hx j' v u hh hv hu=>?_,fun i1 j1 i2 j2 x1 x2 c1 l1 c2 l2 u1 u2 k a1 a2 a3 a4 a5 a6 a7 a8 a9 a10=>?_,fun j v hv=>?_⟩
 ·rw[hcell]at hu;obtain⟨g1,g2⟩:=h7 i' x hx j' v u hh hv hu;refine⟨fun e=>⟨(g1 e).1,(g1 e).2.mono (fun _ h=>h) (fun _ h=>h.elim) (fun _ _ h=>h)⟩,fun c' l' e=>?_⟩;obtain⟨k1,k2⟩:=g2 c' l' e;subst e;have hk':=hk i' j' x c' l' u hh hx hv hu;exact⟨k1.mono hk',fun hf=>k2 (hf.old hk')⟩
 ·rw[hcell]at a7 a8;exact h8 i1 j1 i2 j2 x1 x2 c1 l1 c2 l2 u1 u2 k a1 a2 a3 a4 a5 a6 a7 a8 (a9.old (hk _ _ _ _ _ _ a1 a3 a5 a7)) (a10.old (hk _ _ _ _ _ _ a2 a4 a6 a8))
 ·obtain⟨u,g1,g2⟩:=h9 j v hv;exact⟨u,by rw[hcell];exact g1,hR j v u hv g2⟩
theorem pM.mono{c:K.U}{l:List (K.El c)}{i off:Nat}{cs:List (AV K)}{r:Value}(hS:∀b,S b->S' b)(hw:∀b,S b->w'.heap[b]?=w.heap[b]?)(hρ:∀(h:Nat) r,ρ[h]?=some r->ρ'[h]?=some r)
 (hb:∀k,mI D w c l i off cs.length r k->w'.heap[k]?=w.heap[k]?) (h:pM D ρ S w c l i off cs r):pM D ρ' S' w' c l i off cs r:=
 h.keep (fun _ _ _ _ hr=>hr.mono hS hw hρ) hb
theorem cE.old{o:Ob K}{r:Value}{k:Nat}(h:cE D w' o r k)(hw:∀k,cE D w o r k->w'.heap[k]?=w.heap[k]?):cE D w o r k:=by
 cases o<;>first|exact h|exact dY.old h hw|exact mI.old h hw
theorem cE.new{o:Ob K}{r:Value}{k:Nat}(h:cE D w o r k)(hw:∀k,cE D w o r k->w'.heap[k]?=w.heap[k]?):cE D w' o r k:=by
 cases o<;>first|exact h|exact dY.new h hw|exact mI.new h hw
end Go.V
namespace Go.V
open Go
variable {K :df}{D:bE K}{n0:Nat}{ρ ρ':List Value}{S S':Nat->Prop}{w w':World}{H H':List (Ob K)}
theorem ie.mono(hS:∀b,S b->S' b)(hw:∀b,S b->w'.heap[b]?=w.heap[b]?)(hρ:∀(h:Nat) r,ρ[h]?=some r->ρ'[h]?=some r){o:Ob K}{r:Value}
 (hb:∀b,o.live=true->cE D w o r b->w'.heap[b]?=w.heap[b]?) (h:ie D ρ S w o r):ie D ρ' S' w' o r:=by
 cases o with
 |dead=>trivial
 |ic c l=>exact Rep.mono hS hw hρ h
 |box cs=>
  obtain⟨b,vs,T,rfl,h1,h2,h3⟩:=h;exact⟨b,vs,T,rfl,by rw[hb b rfl rfl];exact h1,h2.mono hS hw hρ,h3⟩
 |arr c l=>
  rcases h with h|⟨b,o,cap,vs,T,fr,rfl,h1,h2,h3,h4,h5⟩
  ·exact .inl h
  ·exact .inr ⟨b,o,cap,vs,T,fr,rfl,by rw[hb b rfl rfl];exact h1,h2,h3,h4,fun i x hx=>(h5 i x hx).mono hS hw hρ⟩
 |tree c l=>exact Tree.mono h fun k hk=>hb k rfl hk
 |opn c l i off cs=>exact pM.mono hS hw hρ (fun k hk=>hb k rfl hk) h
theorem Own.acb{h:Nat}{o:Ob K}{r:Value}{b:Nat}(h1:H[h]?=some o)(h2:o.live=true)(h3:ρ[h]?=some r)(h4:cE D w o r b):Own D w ρ H b:=⟨h,o,r,h1,h2,h3,h4⟩
theorem Own.old{b:Nat}(h:Own D w' ρ H b)(ho:∀b,Own D w ρ H b->w'.heap[b]?=w.heap[b]?):Own D w ρ H b:=by
 obtain⟨k,o,r,h1,h2,h3,h4⟩:=h;exact⟨k,o,r,h1,h2,h3,h4.old fun q hq=>ho q ⟨k,o,r,h1,h2,h3,hq⟩⟩
theorem Own.new{b:Nat}(h:Own D w ρ H b)(ho:∀b,Own D w ρ H b->w'.heap[b]?=w.heap[b]?):Own D w' ρ H b:=by
 obtain⟨k,o,r,h1,h2,h3,h4⟩:=h;exact⟨k,o,r,h1,h2,h3,h4.new fun q hq=>ho q ⟨k,o,r,h1,h2,h3,hq⟩⟩
theorem fJ{α:Type}{l:List α}{h k:Nat}{o x:α}(hx:(l.set h o)[k]?=some x):(k=h/\x=o/\h<l.length)\/(k≠h/\l[k]?=some x):=by
 rw[lr]at hx;by_cases hk:h=k
 ·subst hk;simp only[nc]at hx;split at hx
  ·rename_i hl;simp at hx;exact .inl ⟨rfl,hx.symm,hl⟩
  ·simp at hx
 ·rw[aP hk]at hx;exact .inr ⟨pF hk,hx⟩
theorem xp{h b:Nat}(hb:Own D w ρ (H.set h .dead) b):Own D w ρ H b:=by
 obtain⟨k,o,r,h1,h2,h3,h4⟩:=hb;rcases fJ h1 with⟨-,rfl,-⟩|⟨-,h1⟩
 ·cases h2
 ·exact⟨k,o,r,h1,h2,h3,h4⟩
theorem aL.kill(hs:aL D ρ S w H)(h:Nat):aL D ρ S w (H.set h .dead):={
 len:=by simp[hs.len]
 ob:=fun k o r h1 h2=>by
  rcases fJ h1 with⟨-,rfl,-⟩|⟨-,h1⟩
  ·trivial
  ·exact hs.ob k o r h1 h2
 fh:=fun k k' o o' r r' b h1 h2 h3 h4 g1 g2 g3 g4=>by
  rcases fJ h1 with⟨-,rfl,-⟩|⟨-,h1⟩
  ·cases h2
  ·rcases fJ g1 with⟨-,rfl,-⟩|⟨-,g1⟩
   ·cases g2
   ·exact hs.fh k k' o o' r r' b h1 h2 h3 h4 g1 g2 g3 g4
 lt:=fun b hb=>hs.lt b (xp hb)
 slt:=hs.slt
 base:=hs.base}
theorem Ix(hs:aL D ρ S w H){h:Nat}{o:Ob K}{r:Value}{b:Nat}(h1:H[h]?=some o)(h2:o.live=true)(h3:ρ[h]?=some r)(h4:cE D w o r b):¬Own D w ρ (H.set h .dead) b:=by
 rintro ⟨k,o',r',g1,g2,g3,g4⟩
 rcases fJ g1 with⟨-,rfl,-⟩|⟨hk,g1⟩
 ·cases g2
 ·exact hk (hs.fh k h o' o r' r b g1 g2 g3 g4 h1 h2 h3 h4)
theorem aL.world(hs:aL D ρ S w H)(hsz:w.heap.size<=w'.heap.size)(ho:∀b,Own D w ρ H b->w'.heap[b]?=w.heap[b]?)(hS:∀b,S b->w'.heap[b]?=w.heap[b]?):aL D ρ S w' H:={
 len:=hs.len
 ob:=fun k o r h1 h2=>(hs.ob k o r h1 h2).mono (fun _ h=>h) hS (fun _ _ h=>h) (fun b hl hb=>ho b ⟨k,o,r,h1,hl,h2,hb⟩)
 fh:=fun k k' o o' r r' b h1 h2 h3 h4 g1 g2 g3 g4=>hs.fh k k' o o' r r' b h1 h2 h3 (h4.old fun q hq=>ho q ⟨k,o,r,h1,h2,h3,hq⟩) g1 g2 g3 (g4.old fun q hq=>ho q ⟨k',o',r',g1,g2,g3,hq⟩)
 lt:=fun b hb=>⟨lq (hs.lt b (hb.old ho)).1 hsz,(hs.lt b (hb.old ho)).2⟩
 slt:=fun b hb=>lq (hs.slt b hb) hsz
 base:=D.base.mono (fun _ h=>h) hS hs.base}
theorem rf{α:Type}{l:List α}{x y:α}{k:Nat}(h:(l++[x])[k]?=some y):l[k]?=some y\/(k=l.length/\y=x):=by
 by_cases hk:k<l.length
 ·rw[d4 hk]at h;exact .inl h
 ·rw[ff (by omega)]at h;have:k-l.length=0:=by
   rcases pB (k-l.length)with h0|h0
   ·exact h0
   ·rw[lp (by simp;omega)]at h;cases h
  rw[this]at h;simp at h;exact .inr ⟨by omega,h.symm⟩
theorem vo{l m:List Value}{k:Nat}{y:Value}(h:l[k]?=some y):(l++m)[k]?=some y:=by
 rw[d4 (cG.1 h).1];exact h
theorem Dx{r:Value}{o:Ob K}{b:Nat}(hl:ρ.length=H.length)(h:Own D w (ρ++[r]) (H++[o]) b):Own D w ρ H b\/(o.live=true/\cE D w o r b):=by
 obtain⟨k,o',r',h1,h2,h3,h4⟩:=h;rcases rf h1 with h1|⟨rfl,rfl⟩
 ·rcases rf h3 with h3|⟨rfl,rfl⟩
  ·exact .inl ⟨k,o',r',h1,h2,h3,h4⟩
  ·have:=(cG.1 h1).1;omega
 ·rcases rf h3 with h3|⟨_,rfl⟩
  ·have:=(cG.1 h3).1;omega
  ·exact .inr ⟨h2,h4⟩
theorem aL.push(hs:aL D ρ S w H){o:Ob K}{r:Value}(ho:ie D (ρ++[r]) S w o r)(hb:∀b,o.live=true->cE D w o r b->b<w.heap.size/\¬S b/\¬Own D w ρ H b):
 aL D (ρ++[r]) S w (H++[o]):={
 len:=by simp[hs.len]
 ob:=fun k o' r' h1 h2=>by
  rcases rf h1 with h1|⟨rfl,rfl⟩
  ·rcases rf h2 with h2|⟨rfl,rfl⟩
   ·exact(hs.ob k o' r' h1 h2).mono (fun _ h=>h) (fun _ _=>rfl) (fun _ _ h=>vo h) (fun _ _ _=>rfl)
   ·have:=(cG.1 h1).1;have:=hs.len;omega
  ·rcases rf h2 with h2|⟨_,rfl⟩
   ·have:=(cG.1 h2).1;have:=hs.len;omega
   ·exact ho
 fh:=fun k k' o1 o2 r1 r2 b h1 h2 h3 h4 g1 g2 g3 g4=>by
  have hl:=hs.len;have key:∀{k:Nat}{o1:Ob K}{r1:Value},(H++[o])[k]?=some o1->(ρ++[r])[k]?=some r1->(H[k]?=some o1/\ρ[k]?=some r1)\/(k=H.length/\o1=o/\r1=r):=fun{k o1 r1} a b=>by
   rcases rf a with a|⟨rfl,rfl⟩
   ·rcases rf b with b|⟨hk,_⟩
    ·exact .inl ⟨a,b⟩
    ·have:=(cG.1 a).1;omega
   ·rcases rf b with b|⟨_,rfl⟩
    ·have:=(cG.1 b).1;omega
    ·exact .inr ⟨rfl,rfl,rfl⟩
  rcases key h1 h3 with⟨a1,a3⟩|⟨a0,a1,a2⟩
  ·rcases key g1 g3 with⟨c1,c3⟩|⟨c0,c1,c2⟩
   ·exact hs.fh k k' o1 o2 r1 r2 b a1 h2 a3 h4 c1 g2 c3 g4
   ·subst c1;subst c2;exact absurd ⟨k,o1,r1,a1,h2,a3,h4⟩ (hb b g2 g4).2.2
  ·rcases key g1 g3 with⟨c1,c3⟩|⟨c0,c1,c2⟩
   ·subst a1;subst a2;exact absurd ⟨k',o2,r2,c1,g2,c3,g4⟩ (hb b h2 h4).2.2
   ·omega
 lt:=fun b h=>by
  rcases Dx hs.len h with h|⟨hl,h⟩
  ·exact hs.lt b h
  ·exact⟨(hb b hl h).1,(hb b hl h).2.1⟩
 slt:=hs.slt
 base:=hs.base}
theorem aL.Oc(hs:aL D ρ S w H){h:Nat}{o:Ob K}{r:Value}(h0:H[h]?=some .dead)(hr:ρ[h]?=some r)(ho:ie D ρ S w o r)(hb:∀b,cE D w o r b->b<w.heap.size/\¬S b/\¬Own D w ρ H b):
 aL D ρ S w (H.set h o):={
 len:=by simp[hs.len]
 ob:=fun k o' r' h1 h2=>by
  rcases fJ h1 with⟨rfl,rfl,-⟩|⟨hk,h1⟩
  ·rw[hr]at h2;simp at h2;subst h2;exact ho
  ·exact hs.ob k o' r' h1 h2
 fh:=fun k k' o1 o2 r1 r2 b h1 h2 h3 h4 g1 g2 g3 g4=>by
  rcases fJ h1 with⟨rfl,rfl,-⟩|⟨hk,h1⟩
  ·rcases fJ g1 with⟨rfl,rfl,-⟩|⟨hk',g1⟩
   ·rfl
   ·rw[hr]at h3;simp at h3;subst h3;exact absurd ⟨k',o2,r2,g1,g2,g3,g4⟩ (hb b h4).2.2
  ·rcases fJ g1 with⟨rfl,rfl,-⟩|⟨hk',g1⟩
   ·rw[hr]at g3;simp at g3;subst g3;exact absurd (Own.acb (H:=H) ‹_› h2 h3 h4) (hb b g4).2.2
   ·exact hs.fh k k' o1 o2 r1 r2 b h1 h2 h3 h4 g1 g2 g3 g4
 lt:=fun b ⟨k,o',r',h1,h2,h3,h4⟩=>by
  rcases fJ h1 with⟨rfl,rfl,-⟩|⟨hk,h1⟩
  ·rw[hr]at h3;simp at h3;subst h3;exact⟨(hb b h4).1,(hb b h4).2.1⟩
  ·exact hs.lt b ⟨k,o',r',h1,h2,h3,h4⟩
 slt:=hs.slt
 base:=hs.base}
theorem aL.turn(hs:aL D ρ S w H){h b:Nat}{o o':Ob K}{r:Value}(h1:H[h]?=some o)(h2:o.live=true)(h3:ρ[h]?=some r)(h4:cE D w o r b)
 (hsz:w'.heap.size=w.heap.size) (hw:∀k,k≠b->w'.heap[k]?=w.heap[k]?) (hf:∀k,cE D w' o' r k->cE D w o r k) (ho:ie D ρ S w' o' r):aL D ρ S w' (H.set h o'):=by
 have hk:=hs.kill h;have hno:∀q,cE D w o r q->¬Own D w ρ (H.set h .dead) q:=fun q hq=>Ix hs h1 h2 h3 hq
 have hlt:∀q,cE D w o r q->q<w.heap.size/\¬S q:=fun q hq=>hs.lt q ⟨h,o,r,h1,h2,h3,hq⟩
 have hkeep:∀k,Own D w ρ (H.set h .dead) k->w'.heap[k]?=w.heap[k]?:=fun k hk'=>hw k (fun e=>by subst e;exact hno _ h4 hk')
 have hw1:aL D ρ S w' (H.set h .dead):=hk.world (by omega) hkeep (fun k hk'=>hw k (fun e=>by subst e;exact(hlt _ h4).2 hk'));have:=hw1.Oc (h:=h) (o:=o') (r:=r) (by rw[lr];simp[(cG.1 h1).1]) h3 ho (fun k hk'=>by
  have hk2:=hf k hk';exact⟨by have:=(hlt k hk2).1;omega,(hlt k hk2).2,fun hO=>hno k hk2 (hO.old hkeep)⟩)
 simpa using this
theorem acd(hs:aL D ρ S w H){h b:Nat}{o o':Ob K}{r:Value}(h1:H[h]?=some o)(h2:o.live=true)(h3:ρ[h]?=some r)(h4:cE D w o r b)
 (hw:∀k,k≠b->w'.heap[k]?=w.heap[k]?) (hf:∀k,cE D w' o' r k->cE D w o r k) {q:Nat} (hb:Own D w' ρ (H.set h o') q):Own D w ρ H q:=by
 obtain⟨k,o1,r1,g1,g2,g3,g4⟩:=hb;rcases fJ g1 with⟨rfl,rfl,-⟩|⟨hk,g1⟩
 ·rw[h3]at g3;simp at g3;subst g3;exact⟨k,o,r,h1,h2,h3,hf q g4⟩
 ·exact⟨k,o1,r1,g1,g2,g3,g4.old fun q hq=>hw q fun e=>by subst e;exact hk (hs.fh k h o1 o r1 r q g1 g2 g3 hq h1 h2 h3 h4)⟩
theorem Step.turn(hs:aL D ρ S w H){h b:Nat}{o o':Ob K}{r:Value}(h1:H[h]?=some o)(h2:o.live=true)(h3:ρ[h]?=some r)(h4:cE D w o r b)
 (hsz:w'.heap.size=w.heap.size) (hw:∀k,k≠b->w'.heap[k]?=w.heap[k]?) (hf:∀k,cE D w' o' r k->cE D w o r k) (e1:w'.os=w.os) (e2:w'.tape=w.tape) (e3:w'.output=w.output):Step D n0 ρ S H w ρ S (H.set h o') w':=
 ⟨e1,e2,e3,by omega,fun k hk hno=>hw k (fun e=>by subst e;exact hno ⟨h,o,r,h1,h2,h3,h4⟩),fun k hk=>.inl (acd hs h1 h2 h3 h4 hw hf hk),fun _ h=>h,fun _ h=>.inl h,fun _ _=>rfl⟩
theorem aL.new(hs:aL D ρ S w H){o:Ob K}{r:Value}(hsz:w.heap.size<=w'.heap.size)(hw:∀k,k<w.heap.size->w'.heap[k]?=w.heap[k]?)(ho:ie D (ρ++[r]) S w' o r)
 (hb:∀b,cE D w' o r b->w.heap.size<=b/\b<w'.heap.size):aL D (ρ++[r]) S w' (H++[o]):=by
 have hk:∀b,Own D w ρ H b->w'.heap[b]?=w.heap[b]?:=fun b h=>hw b (hs.lt b h).1
 have h1:aL D ρ S w' H:=hs.world hsz hk (fun b h=>hw b (hs.slt b h));exact h1.push ho fun b _ h=>⟨(hb b h).2,fun hS=>by have:=hs.slt b hS;have:=(hb b h).1;omega,fun hO=>by have:=(hs.lt b (hO.old hk)).1;have:=(hb b h).1;omega⟩
theorem Step.new(hs:aL D ρ S w H){o:Ob K}{r:Value}(hsz:w.heap.size<=w'.heap.size)(hw:∀k,k<w.heap.size->w'.heap[k]?=w.heap[k]?)
 (hb:∀b,cE D w' o r b->w.heap.size<=b) (e1:w'.os=w.os) (e2:w'.tape=w.tape) (e3:w'.output=w.output):Step D H.length ρ S H w (ρ++[r]) S (H++[o]) w':=
 ⟨e1,e2,e3,hsz,fun k hk _=>hw k hk,fun k hk=>by
   rcases Dx hs.len hk with h|⟨-,h⟩
   ·exact .inl (h.old fun b h=>hw b (hs.lt b h).1)
   ·exact .inr (hb k h),fun _ h=>h,fun _ h=>.inl h,fun k hk=>by rw[d4 (by rw[hs.len];exact hk)]⟩
theorem Dy(hs:aL D ρ S w H){h:Nat}{c:K.U}{l:List (K.El c)}(ho:H[h]?=some (.arr c l)){X:Value}(hp:ρ[h]?=some X):(X=.slice none 0 0/\l=[])\/∃b o cap vs T fr,X=.slice (some ⟨b,o,none⟩) l.length cap/\w.heap[b]?=some (.cells vs T fr)/\(l.length<=cap/\iI D c T o)/\o+cap*K.sz c<=vs.size/\
 (∀k,o<=k->k<o+cap*K.sz c->¬(fr.1<=k/\k<fr.2))/\∀i x,l[i]?=some x->bc D ρ S w (D.cells c x) (cX vs (o+i*K.sz c) (K.sz c)):=hs.ob h _ _ ho hp
theorem Oe(hs:aL D ρ S w H){h:Nat}{o:Ob K}{X:Value}{c:K.U}{l:List (K.El c)}(ho:H[h]?=some o)(hl:o.live=true)(hp:ρ[h]?=some X)
 (hr:Rep D ρ (fun b=>S b\/cE D w o X b) w (.ax c l) X):aL D ρ (fun b=>S b\/cE D w o X b) w (H.set h (.ic c l))/\Step D n0 ρ S H w ρ (fun b=>S b\/cE D w o X b) (H.set h (.ic c l)) w:=by
 have hlen:=hs.len;have hno:∀b,cE D w o X b->¬Own D w ρ (H.set h .dead) b:=fun b hb=>Ix hs ho hl hp hb
 have ace:∀b,Own D w ρ (H.set h (.ic c l)) b->Own D w ρ (H.set h .dead) b:=fun b ⟨k,o,r,g1,g2,g3,g4⟩=>by
  rcases fJ g1 with⟨-,rfl,-⟩|⟨hne,g1⟩
  ·cases g2
  ·exact⟨k,o,r,by rw[lr,aP (pF hne)];exact g1,g2,g3,g4⟩
 refine⟨⟨by simpa using hlen,fun k o' r h1 h2=>?_,fun k k' o o' r r' b h1 h2 h3 h4 g1 g2 g3 g4=>?_,fun b hb=>?_,fun b hb=>?_,D.base.mono (fun _ h=>.inl h) (fun _ _=>rfl) hs.base⟩,?_⟩
 ·rcases fJ h1 with⟨rfl,rfl,-⟩|⟨-,h1⟩
  ·rw[hp]at h2;simp at h2;subst h2;exact hr
  ·exact(hs.ob k o' r h1 h2).mono (fun _ h=>.inl h) (fun _ _=>rfl) (fun _ _ h=>h) (fun _ _ _=>rfl)
 ·rcases fJ h1 with⟨-,rfl,-⟩|⟨-,h1⟩
  ·cases h2
  ·rcases fJ g1 with⟨-,rfl,-⟩|⟨-,g1⟩
   ·cases g2
   ·exact hs.fh k k' o o' r r' b h1 h2 h3 h4 g1 g2 g3 g4
 ·have h1:=ace b hb;have:=hs.lt b (xp h1);exact⟨this.1,fun hS=>hS.elim this.2 fun h2=>hno b h2 h1⟩
 ·rcases hb with hb|hb
  ·exact hs.slt b hb
  ·exact(hs.lt b ⟨h,_,_,ho,hl,hp,hb⟩).1
 ·refine⟨rfl,rfl,rfl,cu _,fun _ _ _=>rfl,fun b ⟨k,o,r,g1,g2,g3,g4⟩=>?_,fun _ h=>.inl h,fun b hb=>?_,fun _ _=>rfl⟩
  ·rcases fJ g1 with⟨-,rfl,-⟩|⟨-,g1⟩
   ·cases g2
   ·exact .inl ⟨k,o,r,g1,g2,g3,g4⟩
  ·rcases hb with hb|hb
   ·exact .inl hb
   ·exact .inr (.inl ⟨h,_,_,ho,hl,hp,hb⟩)
theorem acf(hs:aL D ρ S w H)(h:Nat):∃S',aL D ρ S' w (u0 H h)/\Step D n0 ρ S H w ρ S' (u0 H h) w/\(u0 H h).length=H.length:=by
 have hlen:=hs.len;unfold u0;split
 ·rename_i c l ho;have hlt:h<H.length:=(cG.1 ho).1;have hp:ρ[h]?=some ρ[h]:=cH (by omega);generalize ρ[h]=X at hp;have hr:Rep D ρ (fun b=>S b\/cE D w (.arr c l) X b) w (.ax c l) X:=by
   rcases Dy hs ho hp with⟨e,rfl⟩|⟨b,o,cap,vs,T,fr,e,hblk,⟨hcap,gp⟩,hsz,hfr,hall⟩
   ·rw[e];exact .fx _ _
   ·rw[e];refine .ax (fun i=>cX vs (o+i*K.sz c) (K.sz c)) (.inr rfl) hcap (fun i x hx=>(hall i x hx).1.symm) (fun i _=>N9 hblk) (fun i x hx j v y hv hy=>?_);exact((hall i x hx).2 j v y hv hy).mono (fun _ h=>.inl h) (fun _ _=>rfl) (fun _ _ h=>h)
  obtain⟨h1,h2⟩:=Oe (n0:=n0) hs ho rfl hp hr;exact⟨_,h1,h2,by simp⟩
 ·rename_i c l ho;have hlt:h<H.length:=(cG.1 ho).1;have hp:ρ[h]?=some ρ[h]:=cH (by omega);generalize ρ[h]=X at hp;have hT:Tree D w c l X:=hs.ob h _ _ ho hp;obtain⟨h1,h2⟩:=Oe (n0:=n0) hs ho rfl hp (hT.rep fun k hk=>.inr hk);exact⟨_,h1,h2,by simp⟩
 ·exact⟨S,hs,Step.refl,rfl⟩
theorem Dz:∀(l:List Nat){S:Nat->Prop}{H:List (Ob K)},aL D ρ S w H->∃S',aL D ρ S' w (jC H l)/\Step D n0 ρ S H w ρ S' (jC H l) w/\(jC H l).length=H.length
 |[],S,H,hs=>⟨S,hs,Step.refl,rfl⟩
 |h::r,S,H,hs=>by
  obtain⟨S1,h1,h2,h3⟩:=acf (n0:=n0) hs h;obtain⟨S2,g1,g2,g3⟩:=Dz r h1;exact⟨S2,g1,h2.trans g2,by simp only[jC];rw[g3,h3]⟩
theorem acg{c:K.U}{l:List (K.El c)}{a a':Option Addr}{n cp lo hi c':Nat}(h:Rep D ρ S w (.ax c l) (.slice a n cp))(h1:lo<=hi)(h2:hi<=n)(ha:hi-lo=0\/∃b o,a=some ⟨b,o,none⟩/\a'=some ⟨b,o+lo*K.sz c,none⟩/\hi-lo<=c'):
 Rep D ρ S w (.ax c ((l.take hi).drop lo)) (.slice a' (hi-lo) c'):=by
 rcases ha with h0|⟨b,o,rfl,rfl,hc⟩
 ·have:(l.take hi).drop lo=[]:=mE (by simp;omega);rw[this,h0];exact .fx _ _
 ·by_cases h0:hi-lo=0
  ·have:(l.take hi).drop lo=[]:=mE (by simp;omega);rw[this,h0];exact .fx _ _
  ·cases h with
   |fx=>omega
   |ax val hS hcap hl' hca hr=>
    have hlen:((l.take hi).drop lo).length=hi-lo:=by simp;omega
    have hget:∀i x,((l.take hi).drop lo)[i]?=some x->l[lo+i]?=some x:=fun i x hi=>by
     simp only[jy,fq]at hi;split at hi
     ·exact hi
     ·simp at hi
    rw[<-hlen];exact .ax (fun i=>val (lo+i)) hS (by rw[hlen];omega) (fun i x hi=>hl' _ _ (hget i x hi))
     (fun i hi=>by
       have:=hca (lo+i) (by rw[hlen]at hi;omega)
       rwa [eA,<-jk]at this)
     (fun i x hi=>hr _ _ (hget i x hi))
mutual
theorem pO(hs:aL D ρ S w H):∀(x:AV K)(v:Value),Rep D ρ S w x v->Rep D ρ S w (eK H x) v
 |.sl h,v,hx=>by
   simp only[eK];split
   ·rename_i c l ho;cases hx with
    |sl hp=>exact hs.ob h _ _ ho hp
   ·exact hx
 |.vw h st lo hi,v,hx=>by
   cases hx with
   |vw hp h1 h2 ha=>
    simp only[eK];split
    ·rename_i c l ho;split
     ·rename_i hst;subst hst;exact acg (hs.ob h _ _ ho hp) h1 h2 ha
     ·exact .vw hp h1 h2 ha
    ·exact .vw hp h1 h2 ha
 |.agg l,v,hx=>by
   cases hx with
   |agg hl hr=>
    have:=zW hs l _ ⟨hl,hr⟩;exact .agg this.1 this.2
 |.bB l,v,hx=>by
   cases hx with
   |bB hl hr=>
    have:=zW hs l _ ⟨hl,hr⟩;exact .bB this.1 this.2
 |.any,v,hx|.int _ _,v,hx|.bool _,v,hx|.str _,v,hx|.dA,v,hx|.dn,v,hx|.mp,v,hx|.fn _ _,v,hx|.ptr _ _,v,hx|.ep _ _ _ _,v,hx|.ax _ _,v,hx|.rp _ _ _,v,hx|.np _,v,hx|.opt _ _ _,v,hx=>by simpa only[eK]using hx
theorem zW(hs:aL D ρ S w H):∀(l:List (AV K))(vs:List Value),bc D ρ S w l vs->bc D ρ S w (pG H l) vs
 |[],vs,h=>by rw[h.oL];exact .nil
 |x::r,vs,h=>by
  obtain⟨u,t,rfl,h1,h2⟩:=h.gP;exact .cons (pO hs x u h1) (zW hs r t h2)
end
def oM(b:Bool)(c:K.U):Ob K:=cond b (.tree c []) (.arr c [])
theorem Of(hs:aL D ρ S w H)(c:K.U)(b:Bool):aL D (ρ++[.slice none 0 0]) S w (H++[oM b c])/\Step D H.length ρ S H w (ρ++[.slice none 0 0]) S (H++[oM b c]) w:=by
 have hf:∀k,¬cE D w (oM b c:Ob K) (.slice none 0 0) k:=fun k h=>by
  cases b
  ·change lC (.slice none 0 0)=some k at h;simp[lC]at h
  ·change dY D w c [] (.slice none 0 0) k at h;cases h
 have ho:ie D (ρ++[.slice none 0 0]) S w (oM b c) (.slice none 0 0):=by
  cases b
  ·exact .inl ⟨rfl,rfl⟩
  ·exact Tree.nil
 exact⟨hs.push ho (fun k _ h=>(hf k h).elim),Step.new hs (cu _) (fun _ _=>rfl) (fun k h=>(hf k h).elim) rfl rfl rfl⟩
def xq(D:bE K)(S:Nat->Prop)(w:World)(H:List (Ob K))(ρ vs:List Value)(p:List (AV K)×List (Ob K)):Prop:=
 ∃ρ',aL D ρ' S w p.2/\bc D ρ' S w p.1 vs/\Step D H.length ρ S H w ρ' S p.2 w/\(∀(h:Nat) r,ρ[h]?=some r->ρ'[h]?=some r)/\H.length<=p.2.length/\(∀(h:Nat) o,H[h]?=some o->p.2[h]?=some o)
theorem vp(dp:K.U->Bool):∀(cs:List (Option K.U))(l:List (AV K))(H:List (Ob K))(ρ:List Value)(vs:List Value),aL D ρ S w H->bc D ρ S w l vs->xq D S w H ρ vs (thaw dp H cs l)
 |[],l,H,ρ,vs,hs,hr=>⟨ρ,by simpa [thaw]using hs,by simpa [thaw]using hr,by simpa [thaw]using Step.refl,fun _ _ h=>h,by simp[thaw],fun _ _ h=>by simpa [thaw]using h⟩
 |some c::cs,[],H,ρ,vs,hs,hr=>⟨ρ,by simpa [thaw]using hs,by simpa [thaw]using hr,by simpa [thaw]using Step.refl,fun _ _ h=>h,by simp[thaw],fun _ _ h=>by simpa [thaw]using h⟩
 |none::cs,[],H,ρ,vs,hs,hr=>⟨ρ,by simpa [thaw]using hs,by simpa [thaw]using hr,by simpa [thaw]using Step.refl,fun _ _ h=>h,by simp[thaw],fun _ _ h=>by simpa [thaw]using h⟩
 |oc::cs,v::r,H,ρ,vs,hs,hr=>by
  obtain⟨u,t,rfl,h1,h2⟩:=hr.gP;have keep:thaw dp H (oc::cs) (v::r)=(v::(thaw dp H cs r).1,(thaw dp H cs r).2)->xq D S w H ρ (u::t) (thaw dp H (oc::cs) (v::r)):=fun e=>by
   obtain⟨ρ',g1,g2,g3,g4,g5,g6⟩:=vp dp cs r H ρ t hs h2;rw[e];exact⟨ρ',g1,.cons (h1.mono (fun _ h=>h) (fun _ _=>rfl) g4) g2,g3,g4,g5,g6⟩
  cases oc with
  |none=>exact keep (by cases v<;>rfl)
  |some c=>
   cases v with
   |dn=>
    obtain⟨n1,n2⟩:=Of hs c (dp c);have hpre:∀(h:Nat) r,ρ[h]?=some r->(ρ++[.slice none 0 0])[h]?=some r:=fun _ _ h=>vo h
    obtain⟨ρ',g1,g2,g3,g4,g5,g6⟩:=vp dp cs r (H++[oM (dp c) c]) _ t n1 (h2.mono (fun _ h=>h) (fun _ _=>rfl) hpre);have e:thaw dp H (some c::cs) (.dn::r)=(.sl H.length::(thaw dp (H++[oM (dp c) c]) cs r).1,(thaw dp (H++[oM (dp c) c]) cs r).2):=rfl;rw[e];have hu:u=.slice none 0 0:=by cases h1;rfl
    refine⟨ρ',g1,.cons ?_ g2,n2.trans (g3.weaken (by simp)),fun h r hr=>g4 h r (hpre h r hr),by have g5:=g5;simp at g5;exact Nat.le_of_succ_le g5,fun h o ho=>g6 h o ?_⟩
    ·rw[hu];exact .sl (g4 _ _ (by rw[ff (by rw[hs.len];exact cu _)];simp[hs.len]))
    ·rw[d4 (cG.1 ho).1];exact ho
   |_=>exact keep rfl
end Go.V
namespace Go.V
open Go
variable {K :df}{D:bE K}{ρ:List Value}{S:Nat->Prop}{w:World}
theorem ig{k:IntKind}{n:Int}{X:Value}(h:Rep D ρ S w (.int k n) X):X=.int k n:=by cases h;rfl
theorem lD{b:Bool}{X:Value}(h:Rep D ρ S w (.bool b) X):X=.bool b:=by cases h;rfl
theorem iY{s:List UInt8}{X:Value}(h:Rep D ρ S w (.str s) X):X=.string ⟨s.toArray⟩:=by cases h;rfl
theorem Og{c:K.U}{x:K.El c}{off:Nat}{X:Value}(h:Rep D ρ S w (.rp c x off) X):∃b o vs,X=.pointer (some ⟨b,o+off,none⟩)/\vs.length=(D.cells c x).length/\iW w b o vs/\
 ∀(j:Nat) v y,(D.cells c x)[j]?=some v->vs[j]?=some y->Rep D ρ S w v y:=by
 cases h with|rp vs hS hl hc hr=>exact⟨_,_,vs,rfl,hl,hc,hr⟩
theorem sS{h off:Nat}{X:Value}(hp:Rep D ρ S w (.ptr h off) X):∃b,X=.pointer (some ⟨b,off,none⟩)/\ρ[h]?=some (.pointer (some ⟨b,0,none⟩)):=by
 cases hp with|ptr hp=>exact⟨_,rfl,hp⟩
theorem mJ{h:Nat}{X:Value}(hp:Rep D ρ S w (.sl h) X):ρ[h]?=some X/\∃a n c,X=.slice a n c:=by
 cases hp with|sl hp=>exact⟨hp,_,_,_,rfl⟩
theorem vq{h st i off:Nat}{X:Value}(hp:Rep D ρ S w (.ep h st i off) X):∃b o n c,X=.pointer (some ⟨b,o+i*st+off,none⟩)/\ρ[h]?=some (.slice (some ⟨b,o,none⟩) n c)/\i<n:=by
 cases hp with|ep hp hi=>exact⟨_,_,_,_,rfl,hp,hi⟩
theorem xr{H:List (Ob K)}(hs:aL D ρ S w H){h:Nat}{c:K.U}{l:List (K.El c)}{X:Value}(ho:H[h]?=some (.arr c l))(hp:ρ[h]?=some X):
 (X=.slice none 0 0/\l=[])\/∃b o cap vs T fr,X=.slice (some ⟨b,o,none⟩) l.length cap/\w.heap[b]?=some (.cells vs T fr)/\(l.length<=cap/\iI D c T o)/\o+cap*K.sz c<=vs.size/\
   (∀k,o<=k->k<o+cap*K.sz c->¬(fr.1<=k/\k<fr.2))/\∀i x,l[i]?=some x->bc D ρ S w (D.cells c x) (cX vs (o+i*K.sz c) (K.sz c)):=hs.ob _ _ _ ho hp
theorem getD_some{α:Type}{l:List α}{i:Nat}(d:α)(h:i<l.length):l[i]?=some (l.getD i d):=by simp[List.getD,h]
theorem Oh(s:List UInt8):(ByteArray.mk s.toArray).toList=s:=by rw[ByteArray.toList_eq]
theorem zX(s:List UInt8):(ByteArray.mk s.toArray).size=s.length:=by simp[ByteArray.size]
theorem ach(s t:List UInt8):(ByteArray.mk s.toArray)++(ByteArray.mk t.toArray)=⟨(s++t).toArray⟩:=by
 apply ByteArray.ext;simp
theorem aci{P:Program}{op:BinOp}{t:TypeId}{a b:List UInt8}{v:AV K}{c:Bool}(h:H9 op a b=some (v,c))(hc:c=true):
 ∃u,(binOp op t (.string ⟨a.toArray⟩) (.string ⟨b.toArray⟩)).run P w=.ok u w/\Rep D ρ S w v u:=by
 cases op<;>simp only[H9]at h<;>first
  |(cases h;done)
  |(simp only[av,aN]at h;obtain⟨rfl,rfl⟩:=h)
 case add=>
  refine⟨.string ⟨(a++b).toArray⟩,?_,.str _⟩;have hc':a.length+b.length<=4611686018427387904:=by simpa [ar]using hc
  simp only[binOp,Op.stringOp,zX];rw[aP (by simp[IntKind.max,IntKind.signed,IntKind.bits];omega)];simp[ach]
 all_goals
  refine⟨_,?_,.bool _⟩;simp[binOp,Op.stringOp,zI]
theorem acj{P:Program}{op:BinOp}{t:TypeId}{k:IntKind}{a b:Int}{v:AV K}{c:Bool}(h:H8 op k a b=some (v,c))(hc:c=true):
 ∃u,(binOp op t (.int k a) (.int k b)).run P w=.ok u w/\Rep D ρ S w v u:=by
 cases op<;>simp only[H8]at h<;>first
  |(cases h;done)
  |(simp only[av,aN]at h;obtain⟨rfl,rfl⟩:=h)
 case quo=>
  refine⟨_,?_,.int _ _⟩;have hb:b≠0:=by simpa using hc
  simp[binOp,Op.intDiv,hb]
 case rem=>
  refine⟨_,?_,.int _ _⟩;have hb:b≠0:=by simpa using hc
  simp[binOp,Op.intDiv,hb]
 case and=>exact⟨_,by simp[binOp,Op.intBits,oD],.int _ _⟩
 case or=>exact⟨_,by simp[binOp,Op.intBits,oD],.int _ _⟩
 case xor=>exact⟨_,by simp[binOp,Op.intBits,oD],.int _ _⟩
 case andNot=>exact⟨_,by simp[binOp,Op.intBits,oD],.int _ _⟩
 all_goals first
  |(refine⟨_,?_,.int _ _⟩;simp[binOp,Op.intArith];done)
  |(refine⟨_,?_,.bool _⟩;simp[binOp,Op.intCmp];done)
theorem Oi{P:Program}{t:TypeId}(h:Ia P t=true)(a b:Bool):(Op.equal t (.bool a) (.bool b)).run P w=.ok (a==b) w:=by
 have hu:P.underlying t=some .bool:=by
  unfold Ia at h;split at h
  ·assumption
  ·cases h
 show(Op.equalIn (9999+1) t (.bool a) (.bool b)).run P w=_
 rw[Op.equalIn];simp[underlying,hu,program,Sem.run]
theorem Iy{P:Program}{op:BinOp}{t:TypeId}{x y:Operand}{X Y:Value}(h:(∃k n,X=.int k n)\/(∃b,X=.bool b)\/(∃s,X=.string s)):
 (eqGuard op t x y X Y).run P w=.ok () w:=by
 rcases h with⟨k,n,rfl⟩|⟨b,rfl⟩|⟨s,rfl⟩<;>simp[eqGuard]
theorem DC{P:Program}{t:TypeId}{g:Bool}(h:Ic P t=some g):(isAgg t).run P w=.ok g w:=by
 unfold Ic at h;split at h<;>first|(cases h;done)|skip
 ·rename_i d hu;simp only[av]at h;subst h;simp[isAgg,underlying,hu]
 ·rename_i d e hu;simp only[av]at h;subst h;simp[isAgg,underlying,hu]
 ·rename_i d h1 h2 hu;simp only[av]at h;subst h;have:(underlying t).run P w=.ok d w:=by simp[underlying,hu]
  simp only[isAgg,Sem.run_bind,this,Result.andThen_ok];cases d<;>first|rfl|(exact absurd rfl (h1 _))|(exact absurd rfl (h2 _ _))
theorem rh{P:Program}{t:TypeId}{n:Nat}(h:fH P t=some n):(sizeOf t).run P w=.ok n w:=by
 unfold fH at h;cases hi:P.info? t with
 |none=>simp[hi]at h
 |some i=>simp[hi]at h;simp[sizeOf,typeInfo,hi,h]
theorem Iz{P:Program}{t:TypeId}{cs:List (AV K)}{vs:Array Value}{off:Nat}{v:AV K}(h:oG P t cs off=some v)(hr:bc D ρ S w cs vs.toList):
 ∃u,(part t vs off).run P w=.ok u w/\Rep D ρ S w v u:=by
 unfold oG at h;split at h
 ·rename_i n hg hn;split at h
  ·rename_i hle;simp only[av]at h;subst h;have hr':=(hr.drop off).take n;refine⟨.agg ((vs.toList.drop off).take n).toArray,?_,.agg hr'.1 hr'.2⟩;simp only[part,Sem.run_bind,DC hg,Result.andThen_ok,nc,rh hn,Sem.run_pure];congr 2;apply Array.toList_inj.1;simp[List.extract]
  ·cases h
 ·rename_i n hg hn;obtain⟨x,hx,hrep⟩:=hr.get h;refine⟨x,?_,hrep⟩;have hx':vs[off]?=some x:=by simpa using hx
  simp only[part,Sem.run_bind,DC hg,Result.andThen_ok,kF,lU,hx',Sem.run_pure]
 ·cases h
theorem DD{l:List (AV K)}{X:Value}(h:Rep D ρ S w (.agg l) X):∃vs:Array Value,X=.agg vs/\bc D ρ S w l vs.toList:=by
 cases h with|agg hl hr=>exact⟨_,rfl,by simpa using⟨hl,hr⟩⟩
theorem Oj{P:Program}{d:Nat}{rec:TypeId->AV K->AV K->Option Bool}
 (hrec:∀t x y e X Y,rec t x y=some e->Rep D ρ S w x X->Rep D ρ S w y Y->(Op.equalIn d t X Y).run P w=.ok e w)
 {xs ys:List (AV K)} {vs us:Array Value} (hx:bc D ρ S w xs vs.toList) (hy:bc D ρ S w ys us.toList):
 ∀(fs:List Field)(e:Bool),zK P rec xs ys fs=some e->(Op.eqFields d vs us fs).run P w=.ok e w
 |[],e,h=>by simp only[zK,av]at h;subst h;simp[Op.eqFields]
 |f::fs,e,h=>by
  unfold zK at h;split at h
  ·cases h
  ·rename_i hn;split at h
   ·rename_i a b ha hb;split at h
    ·rename_i p q hp hq;simp only[av]at h;subst h;obtain⟨u,hu,hru⟩:=Iz (P:=P) ha hx;obtain⟨u',hu',acm⟩:=Iz (P:=P) hb hy;have h3:=hrec _ _ _ _ _ _ hp hru acm;have h4:=Oj hrec hx hy fs q hq;simp only[Op.eqFields,ne_eq,hn,not_false_eq_true,nc,Sem.run_bind,hu,hu',h3,Result.andThen_ok];cases p
     ·simp
     ·simpa using h4
    ·cases h
   ·cases h
theorem acn{P:Program}{t:TypeId}{fs:Array Field}{d:Nat}{vs us:Array Value}(hu:P.underlying t=some (.struct fs))(hst:P.stoodInHeld t=false):
 (Op.equalIn (d+1) t (.agg vs) (.agg us)).run P w=(Op.eqFields d vs us fs.toList).run P w:=by
 have hf:P.fieldsOf t=fs:=by simp[Program.fieldsOf,hu]
 rw[run_equalIn_struct w d t vs us (by rw[hf];exact hu) hst,hf]
theorem IA{P:Program}(k:Nat):∀(n:Nat)(t:TypeId)(x y:AV K)(e:Bool)(X Y:Value),xd P n t x y=some e->Rep D ρ S w x X->Rep D ρ S w y Y->(Op.equalIn (n+k) t X Y).run P w=.ok e w
 |0,t,x,y,e,X,Y,h,hx,hy=>by simp[xd]at h
 |n+1,t,x,y,e,X,Y,h,hx,hy=>by
  rw[show n+1+k=(n+k)+1 by omega];unfold xd at h;split at h
  ·cases h
  ·rename_i heq;cases heq;split at h
   ·rename_i hk;subst hk;split at h
    ·rename_i hu;simp only[av]at h;subst h;cases ig hx;cases ig hy;exact run_equalIn_int w _ _ _ _ _ _ hu
    ·cases h
   ·cases h
  ·rename_i heq;cases heq;split at h
   ·rename_i hu;simp only[av]at h;subst h;cases lD hx;cases lD hy;exact run_equalIn_bool' w _ _ _ _ hu
   ·cases h
  ·rename_i heq;cases heq;split at h
   ·rename_i hu;simp only[av]at h;subst h;cases iY hx;cases iY hy;rw[run_equalIn_string w _ _ _ _ hu,Oh,Oh]
   ·cases h
  ·rename_i heq;cases heq;obtain⟨vs,rfl,hvs⟩:=DD hx;obtain⟨us,rfl,hus⟩:=DD hy;split at h
   ·rename_i fs hu;split at h
    ·cases h
    ·rename_i hst;rw[acn hu (by simpa using hst)];exact Oj (fun t x y e X Y=>IA k n t x y e X Y) hvs hus fs.toList e h
   ·cases h
  ·cases h
theorem Ol{P:Program}{t:TypeId}(h:Ie P t=true)(a:Option Addr):(Op.equal t (.pointer a) (.pointer none)).run P w=.ok a.isNone w:=by
 obtain⟨e,hu⟩:∃e,P.underlying t=some (.pointer e):=by
  unfold Ie at h;split at h
  ·rename_i e hu;exact⟨e,hu⟩
  ·cases h
 show(Op.equalIn (9999+1) t (.pointer a) (.pointer none)).run P w=_
 rw[Op.equalIn];cases a<;>simp[underlying,hu,program,Sem.run]
theorem DF{P:Program}{op:BinOp}{t:TypeId}{ex ey:Operand}{a:Option Addr}{v:AV K}{c:Bool}
 (h:xe P op t a.isNone=some (v,c)):∃u,(do eqGuard op t ex ey (.pointer a) (.pointer none);binOp op t (.pointer a) (.pointer none):Sem Value).run P w=.ok u w/\Rep D ρ S w v u:=by
 unfold xe at h;have hg:(eqGuard op t ex ey (.pointer a) (.pointer none)).run P w=.ok () w:=by simp[eqGuard]
 rw[Sem.run_bind,hg,Result.andThen_ok];split at h
 ·rename_i hp;split at h
  ·simp only[av,aN]at h;obtain⟨rfl,rfl⟩:=h;exact⟨_,by simp[binOp,Ol hp],.bool _⟩
  ·simp only[av,aN]at h;obtain⟨rfl,rfl⟩:=h;exact⟨_,by simp[binOp,Ol hp],.bool _⟩
  ·cases h
 ·cases h
theorem aco{P:Program}{op:BinOp}{t:TypeId}{x y:AV K}{ex ey:Operand}{X Y:Value}{v:AV K}{c:Bool}
 (h:Ig P op t x y=some (v,c)) (hc:c=true) (hx:Rep D ρ S w x X) (hy:Rep D ρ S w y Y):
 ∃u,(do eqGuard op t ex ey X Y;binOp op t X Y:Sem Value).run P w=.ok u w/\Rep D ρ S w v u:=by
 unfold Ig at h;split at h
 ·rename_i k a k' b;obtain rfl:=ig hx;obtain rfl:=ig hy;rw[Sem.run_bind,Iy (.inl ⟨_,_,rfl⟩),Result.andThen_ok];split at h
  ·simp only[av,aN]at h;obtain⟨rfl,rfl⟩:=h;have hb:¬b<0:=by simp at hc;omega
   exact⟨_,by simp[binOp,Op.shift,hb,NW],.int _ _⟩
  ·simp only[av,aN]at h;obtain⟨rfl,rfl⟩:=h;have hb:¬b<0:=by simp at hc;omega
   exact⟨_,by simp[binOp,Op.shift,hb,H7],.int _ _⟩
  ·split at h
   ·rename_i hk;subst hk;exact acj h hc
   ·cases h
 ·rename_i a b;obtain rfl:=lD hx;obtain rfl:=lD hy;rw[Sem.run_bind,Iy (.inr (.inl ⟨_,rfl⟩)),Result.andThen_ok];split at h
  ·rename_i hb;split at h
   ·simp only[av,aN]at h;obtain⟨rfl,rfl⟩:=h;exact⟨_,by simp[binOp,Oi hb],.bool _⟩
   ·simp only[av,aN]at h;obtain⟨rfl,rfl⟩:=h;exact⟨_,by simp[binOp,Oi hb],.bool _⟩
   ·cases h
  ·cases h
 ·rename_i a b;obtain rfl:=iY hx;obtain rfl:=iY hy;rw[Sem.run_bind,Iy (.inr (.inr ⟨_,rfl⟩)),Result.andThen_ok];exact aci h hc
 ·rename_i a b;obtain⟨vs,rfl,hvs⟩:=DD hx;obtain⟨us,rfl,hus⟩:=DD hy;split at h
  ·split at h
   ·cases h
   ·rename_i hg;simp only[fF,aN]at h;obtain⟨e,he,rfl,rfl⟩:=h;have:=IA 9994 6 t _ _ e _ _ he hx hy;refine⟨.bool e,?_,.bool _⟩;rw[Sem.run_bind,run_eqGuard_agg w _ t ex ey vs us (by simpa using hg),Result.andThen_ok,run_eql_struct,this];rfl
  ·split at h
   ·cases h
   ·rename_i hg;simp only[fF,aN]at h;obtain⟨e,he,rfl,rfl⟩:=h;have:=IA 9994 6 t _ _ e _ _ he hx hy;refine⟨.bool (!e),?_,.bool _⟩;rw[Sem.run_bind,run_eqGuard_agg w _ t ex ey vs us (by simpa using hg),Result.andThen_ok,run_neq_struct,this];rfl
  ·cases h
 ·cases hx;cases hy;exact DF (a:=none) h
 ·cases hx;cases hy;exact DF (a:=some _) h
 ·cases hx;cases hy;exact DF (a:=some _) h
 ·cases hx;cases hy;exact DF (a:=some _) h
 ·cases h
theorem acp{P:Program}{op:UnOp}{x:AV K}{X:Value}{v:AV K}{c:Bool}(h:Ib op x=some (v,c))(hx:Rep D ρ S w x X):
 ∃u,(Op.unary op X).run P w=.ok u w/\Rep D ρ S w v u:=by
 unfold Ib at h;split at h
 ·obtain rfl:=lD hx;split at h
  ·simp only[av,aN]at h;obtain⟨rfl,rfl⟩:=h;exact⟨_,by simp[Op.unary],.bool _⟩
  ·cases h
 ·obtain rfl:=ig hx;split at h
  ·simp only[av,aN]at h;obtain⟨rfl,rfl⟩:=h;exact⟨_,by simp[Op.unary,Op.intArith],.int _ _⟩
  ·simp only[av,aN]at h;obtain⟨rfl,rfl⟩:=h;exact⟨_,by simp[Op.unary,Op.intBits,oD],.int _ _⟩
  ·cases h
 ·cases h
mutual
theorem xt:∀(v:Value)(x:AV K),lV v=some x->Rep D ρ S w x v
 |.bool b,x,h=>by simp[lV]at h;subst h;exact .bool b
 |.int k n,x,h=>by simp[lV]at h;subst h;exact .int k n
 |.string s,x,h=>by simp[lV]at h;subst h;have:=Rep.str (D:=D) (ρ:=ρ) (S:=S) (w:=w) s.data.toList;simpa using this
 |.pointer none,x,h=>by simp[lV]at h;subst h;exact .dA
 |.slice none 0 0,x,h=>by simp[lV]at h;subst h;exact .dn
 |.map none,x,h=>by simp[lV]at h;subst h;exact .mp _
 |.agg ⟨cs⟩,x,h=>by
   simp only[lV,fF]at h;obtain⟨l,hl,rfl⟩:=h;have:=Om cs l hl;exact .agg this.1 this.2
 |.pointer (some _),x,h|.slice (some _) _ _,x,h|.slice none (_+1) _,x,h|.slice none 0 (_+1),x,h|.float _ _,x,h|.complex _ _ _,x,h|.map (some _),x,h|.chan _,x,h|.func _ _ _,x,h
 |.nilFunc,x,h|.iface _ _,x,h|.nilIface,x,h|.tuple _,x,h=>by simp[lV]at h
theorem Om:∀(vs:List Value)(l:List (AV K)),zH vs=some l->bc D ρ S w l vs
 |[],l,h=>by simp[zH]at h;subst h;exact .nil
 |v::r,l,h=>by
  simp only[zH]at h;split at h
  ·rename_i x m hx hm;simp at h;subst h;exact .cons (xt v x hx) (Om r m hm)
  ·cases h
end
@[simp] theorem add_plain (b k i:Nat):(⟨b,k,none⟩:Addr).add i=⟨b,k+i,none⟩:=by
  unfold Addr.add;split
  ·rename_i h;subst h;rfl
  ·rfl
theorem On{P:Program}{b k:Nat}:∀(vs:List Value)(i:Nat)(acc:Array Value),iW w b (k+i) vs->
 (loadCellsFrom ⟨b,k,none⟩ i vs.length acc).run P w=.ok (acc++vs.toArray) w
 |[],i,acc,_=>by simp[loadCellsFrom]
 |v::r,i,acc,h=>by
  have h0:w.cell? ⟨b,k+i,none⟩=some v:=by simpa using h 0 v rfl
  have ih:=On (P:=P) (b:=b) (k:=k) r (i+1) (acc.push v) (fun j x hx=>by have:=h (j+1) x (by simpa using hx);rw[show k+(i+1)+j=k+i+(j+1) by omega];exact this);simp only[aC,loadCellsFrom,Sem.run_bind,run_load,add_plain,h0];rw[Result.andThen_ok,ih];simp
theorem DG{P:Program}{b k:Nat}{vs:List Value}(h:iW w b k vs):(loadCells ⟨b,k,none⟩ vs.length).run P w=.ok vs.toArray w:=by
 have:=On (P:=P) vs 0 #[] (k:=k) (by simpa using h);simpa [loadCells]using this
theorem iW.cX{b k:Nat}{vs:List Value}(h:iW w b k vs)(off n:Nat):iW w b (k+off) ((vs.drop off).take n):=fun j v hv=>by
 simp only[fq]at hv;split at hv
 ·rw[jk];exact h (off+j) v (by simpa using hv)
 ·simp at hv
theorem DI{P:Program}{t:TypeId}{cs:List (AV K)}{vs:List Value}{b o off:Nat}{v:AV K}(h:oG P t cs off=some v)(hc:iW w b o vs)(hr:bc D ρ S w cs vs):
 ∃u,(loadVar t ⟨b,o+off,none⟩).run P w=.ok u w/\Rep D ρ S w v u:=by
 unfold oG at h;split at h
 ·rename_i n hg hn;split at h
  ·rename_i hle;simp only[av]at h;subst h;have hr':=(hr.drop off).take n;have hlen:((vs.drop off).take n).length=n:=by simp;rw[<-hr.1];omega
   have:=DG (P:=P) (hc.cX off n);rw[hlen]at this;refine⟨.agg ((vs.drop off).take n).toArray,?_,.agg hr'.1 hr'.2⟩;simp[loadVar,DC hg,rh hn,this]
  ·cases h
 ·rename_i n hg hn;obtain⟨x,hx,hrep⟩:=hr.get h;refine⟨x,?_,hrep⟩;have:=hc off x hx;simp[loadVar,DC hg,this]
 ·cases h
theorem xu{b:Nat}{vs:Array Value}{T:TypeId}{fr:Nat×Nat}(h:w.heap[b]?=some (.cells vs T fr))(k n:Nat):iW w b k (cX vs k n):=fun j v hv=>by
 simp only[cX,fq]at hv;split at hv
 ·simp only[jy]at hv;simp[World.cell?,h];simpa using hv
 ·simp at hv
theorem acr(vs:Array Value):cX vs 0 vs.size=vs.toList:=by simp only[cX,jj];rw[zA (by simp)]
mutual
theorem IB{S':Nat->Prop}{w':World}:∀(x:AV K)(v:Value),jl x=false->Rep D ρ S w x v->Rep D ρ S' w' x v
 |.any,v,_,h=>.any _
 |.int _ _,v,_,h=>by rw[ig h];exact .int _ _
 |.bool _,v,_,h=>by rw[lD h];exact .bool _
 |.str _,v,_,h=>by rw[iY h];exact .str _
 |.dA,v,_,h=>by cases h;exact .dA
 |.dn,v,_,h=>by cases h;exact .dn
 |.mp,v,_,h=>by cases h;exact .mp _
 |.ptr _ _,v,_,h=>by cases h with|ptr hp=>exact .ptr hp
 |.np _,v,_,h=>by
   cases h with
   |lB=>exact .lB
   |np hp=>exact .np hp
 |.sl _,v,_,h=>by cases h with|sl hp=>exact .sl hp
 |.ep _ _ _ _,v,_,h=>by cases h with|ep hp hi=>exact .ep hp hi
 |.vw _ _ _ _,v,_,h=>by cases h with|vw hp h1 h2 ha=>exact .vw hp h1 h2 ha
 |.opt _ _ _,v,_,h=>by cases h
 |.fn f l,v,hr,h=>by
   cases h with
   |fn hl hh=>
    have:=zY (S':=S') (w':=w') l _ (by simpa [jl]using hr) ⟨hl,hh⟩;exact .fn this.1 this.2
 |.agg l,v,hr,h=>by
   cases h with
   |agg hl hh=>
    have:=zY (S':=S') (w':=w') l _ (by simpa [jl]using hr) ⟨hl,hh⟩;exact .agg this.1 this.2
 |.bB l,v,hr,h=>by
   cases h with
   |bB hl hh=>
    have:=zY (S':=S') (w':=w') l _ (by simpa [jl]using hr) ⟨hl,hh⟩;exact .bB this.1 this.2
 |.ax _ _,v,hr,_|.rp _ _ _,v,hr,_=>by simp[jl]at hr
theorem zY{S':Nat->Prop}{w':World}:∀(l:List (AV K))(vs:List Value),jS l=false->bc D ρ S w l vs->bc D ρ S' w' l vs
 |[],vs,_,h=>by rw[h.oL];exact .nil
 |x::r,vs,hr,h=>by
  simp only[jS,lR]at hr;obtain⟨u,t,rfl,h1,h2⟩:=h.gP;exact .cons (IB x u hr.1 h1) (zY r t hr.2 h2)
end
theorem Oo{P:Program}{H:List (Ob K)}(hD:bT D)(hs:aL D ρ S w H){t:TypeId}{p v:AV K}{X:Value}(h:Dk P D H t p=some v)(hp:Rep D ρ S w p X):
 ∃u,(Instr.loadAt t X).run P w=.ok u w/\Rep D ρ S w v u:=by
 unfold Dk at h;split at h
 ·rename_i hh off;split at h
  ·rename_i cs hob;obtain⟨b,rfl,hb⟩:=sS hp;obtain⟨b',vs,T,e,hblk,DJ,-⟩:=hs.ob _ _ _ hob hb;simp only[Value.pointer.injEq,av,Addr.mk.injEq]at e;obtain⟨rfl,-,-⟩:=e;obtain⟨u,hu,hr⟩:=DI (o:=0) (b:=b) h (by have:=xu hblk 0 vs.size;rwa [acr]at this) DJ;exact⟨u,by simpa [Instr.loadAt,Instr.sureAddr]using hu,hr⟩
  ·cases h
 ·rename_i c x off;obtain⟨b,o,vs,rfl,hl,hc,hr⟩:=Og hp;obtain⟨u,hu,hr⟩:=DI (o:=o) (b:=b) h hc ⟨hl.symm,hr⟩;exact⟨u,by simpa [Instr.loadAt,Instr.sureAddr]using hu,hr⟩
 ·rename_i hh st i off;split at h
  ·rename_i c l hob;split at h
   ·rename_i hst;subst hst;obtain⟨b,o,n,cp,rfl,hb,hi⟩:=vq hp;rcases xr hs hob hb with⟨e,-⟩|⟨b',o',cap,vs,T,fr,e,hblk,⟨hcap,gp⟩,hsz,hfr,hall⟩
    ·cases e
    ·simp only[Value.slice.injEq,av,Addr.mk.injEq]at e;obtain⟨⟨rfl,rfl,-⟩,rfl,rfl⟩:=e;have hx:=hall i _ (getD_some (K.zero c) hi);obtain⟨u,hu,hr⟩:=DI (o:=o+i*K.sz c) (b:=b) h (xu hblk _ _) hx;exact⟨u,by simpa [Instr.loadAt,Instr.sureAddr]using hu,hr⟩
   ·cases h
  ·rename_i c l hob;split at h
   ·rename_i hst;subst hst;split at h
    ·rename_i v' htk;split at h
     ·cases h
     ·rename_i hnr;simp only[av]at h;subst h;obtain⟨b,o,n,cp,rfl,hb,hi⟩:=vq hp;have hT:Tree D w c l (.slice (some ⟨b,o,none⟩) n cp):=hs.ob _ _ _ hob hb;have hR:Rep D ρ (fun k=>S k\/dY D w c l (.slice (some ⟨b,o,none⟩) n cp) k) w (.ax c l) (.slice (some ⟨b,o,none⟩) n cp):=hT.rep fun k hk=>.inr hk
      cases hR with
      |fx a cap=>omega
      |ax val hS hcap hl hca hr=>
       have hg:=getD_some (K.zero c) hi;obtain⟨u,hu,hr'⟩:=DI (o:=o+i*K.sz c) (b:=b) htk (hca i hi) ⟨(hl i _ hg).symm,hr i _ hg⟩;exact⟨u,by simpa [Instr.loadAt,Instr.sureAddr]using hu,IB v' u (by simpa using hnr) hr'⟩
    ·cases h
   ·cases h
  ·cases h
 ·cases h
theorem acs{P:Program}{H:List (Ob K)}(hD:bT D)(hs:aL D ρ S w H){t:TypeId}{p v:AV K}{X:Value}(h:Ih P H t p=some (v,true))(hp:Rep D ρ S w p X):
 ∃u,(Instr.loadAt t X).run P w=.ok u w/\Rep D ρ S w v u:=by unfold Ih at h;cases h
theorem gI{P:Program}{t:TypeId}{d:TypeDesc}(h:P.underlying t=some d):(underlying t).run P w=.ok d w:=by simp[underlying,h]
theorem acu{P:Program}{s:TypeId}{f:Nat}{x v:AV K}{X:Value}(h:Ii P s f x=some v)(hx:Rep D ρ S w x X):
 ∃u,(Instr.fieldAt s X f).run P w=.ok u w/\Rep D ρ S w v u:=by
 unfold Ii at h;split at h
 ·rename_i fd hf;unfold Dj at hf;split at hf
  ·rename_i fs hu;split at h
   ·rename_i n hn;have key:∀a:Addr,a.spot=none->(Instr.fieldAt s (.pointer (some a)) f).run P w=.ok (.pointer (some (a.add fd.offset))) w:=fun a ha=>by
     simp[Instr.fieldAt,gI hu,hf,Instr.sureAddr,fieldPlace,rh hn]
    split at h
    ·simp only[av]at h;subst h;obtain⟨b,rfl,hb⟩:=sS hx;exact⟨_,key _ rfl,by rw[add_plain];exact .ptr hb⟩
    ·simp only[av]at h;subst h;cases hx with
     |rp vs hS hl hc hr=>exact⟨_,key _ rfl,by rw[add_plain,jk];exact .rp vs hS hl hc hr⟩
    ·simp only[av]at h;subst h;obtain⟨b,o,n,cp,rfl,hb,hi⟩:=vq hx;exact⟨_,key _ rfl,by rw[add_plain,jk];exact .ep hb hi⟩
    ·cases h
   ·cases h
  ·cases hf
 ·cases h
theorem zZ{n:Int}{len:Nat}(h:inB n len=true):0<=n/\n<len/\n.toNat<len:=by
 simp[inB]at h;omega
theorem acv{P:Program}{H:List (Ob K)}(hD:bT D)(hs:aL D ρ S w H){t:TypeId}{x i v:AV K}{c:Bool}{X I:Value}(h:Ij P H t x i=some (v,c))(hc:c=true)
 (hx:Rep D ρ S w x X) (hi:Rep D ρ S w i I):∃u,(Instr.indexAt t X I).run P w=.ok u w/\Rep D ρ S w v u:=by
 unfold Ij at h;split at h
 ·rename_i e k n he;obtain rfl:=ig hi;unfold elemOf? at he;split at he
  ·rename_i e' hu;simp only[av]at he;subst he;have key:∀(a:Addr)(len cap sz:Nat),fH P e'=some sz->inB n len=true->(Instr.indexAt t (.slice (some a) len cap) (.int k n)).run P w=.ok (.pointer (some (a.add (n.toNat*sz)))) w:=fun a len cap sz hsz hb=>by
    obtain⟨h1,h2,-⟩:=zZ hb;simp[Instr.indexAt,asIntOf,gI hu,rh hsz,h1,h2]
   split at h
   ·rename_i cc l;split at h
    ·rename_i hsz;simp only[av,aN]at h;obtain⟨rfl,rfl⟩:=h;obtain⟨-,-,hlt⟩:=zZ hc;cases hx with
     |fx a cap=>simp at hlt
     |ax val hS hcap hl hca hr=>
      have hg:=getD_some (K.zero cc) hlt;exact⟨_,key _ _ _ _ hsz hc,by rw[add_plain];exact .rp (off:=0) (val n.toNat) hS (hl _ _ hg) (hca _ hlt) (hr _ _ hg)⟩
    ·cases h
   ·rename_i hh;split at h
    ·rename_i cc l hob;split at h
     ·rename_i hsz;simp only[av,aN]at h;obtain⟨rfl,rfl⟩:=h;obtain⟨-,-,hlt⟩:=zZ hc;obtain⟨hb,-⟩:=mJ hx;rcases xr hs hob hb with⟨rfl,rfl⟩|⟨b,o,cap,vs,T,fr,rfl,hblk,⟨hcap,gp⟩,hsz',hfr,hall⟩
      ·simp at hlt
      ·exact⟨_,key _ _ _ _ hsz hc,by rw[add_plain];exact .ep (off:=0) hb hlt⟩
     ·cases h
    ·rename_i cc l hob;split at h
     ·rename_i hsz;simp only[av,aN]at h;obtain⟨rfl,rfl⟩:=h;obtain⟨-,-,hlt⟩:=zZ hc;obtain⟨hb,-⟩:=mJ hx;have hT:Tree D w cc l X:=hs.ob _ _ _ hob hb;cases hT with
      |nil=>simp at hlt
      |mk=>exact⟨_,key _ _ _ _ hsz hc,by rw[add_plain];exact .ep (off:=0) hb hlt⟩
     ·cases h
    ·cases h
   ·cases h
  ·cases he
 ·cases h
theorem Oq{lo hi:Int}{len:Nat}(h:bS lo hi len=true):0<=lo/\lo<=hi/\hi<=len:=by
 simp[bS]at h;omega
inductive ri (D:bE K) (ρ:List Value) (S:Nat->Prop) (w:World):Option (AV K)->Option Value->Prop
 |none:ri D ρ S w none none
 |some {x:AV K} {X:Value} (h:Rep D ρ S w x X):ri D ρ S w (some x) (some X)
theorem DK{P:Program}{k:IntKind}{n:Int}{y:Nat}{code:BoundsCode}(h:0<=n)(h':n<=y):(Instr.sliceBound (.int k n) y code).run P w=.ok n.toNat w:=by
 simp[Instr.sliceBound,asIntOf,h,h']
theorem IC{d:Int}{x:AV K}{n:Int}{X:Value}(h:oH d (some x)=some n)(hx:Rep D ρ S w x X):∃k,X=.int k n:=by
 cases x<;>simp[oH]at h;subst h;exact⟨_,ig hx⟩
theorem ID{P:Program}{isS:Bool}{len cap:Nat}{lo hi:Option (AV K)}{LO HI:Option Value}{l h:Int}
 (hl:oH 0 lo=some l) (hh:oH len hi=some h) (hlo:ri D ρ S w lo LO) (hhi:ri D ρ S w hi HI) (h1:0<=l) (h2:l<=h) (h3:h<=len) (hcap:len<=cap):
 (Instr.sliceBounds isS len cap LO HI none).run P w=.ok (l.toNat,h.toNat,cap) w:=by
 have e0:(l:Int)<=(h.toNat:Nat):=by omega
 have e1:h<=(cap:Nat):=by omega
 cases hlo with
 |none=>
  simp[oH]at hl;subst hl;cases hhi with
  |none=>simp[oH]at hh;subst hh;simp[Instr.sliceBounds]
  |some hx=>
   obtain⟨k,rfl⟩:=IC hh hx;simp[Instr.sliceBounds,DK (by omega:0<=h) e1]
 |some hy=>
  obtain⟨k',rfl⟩:=IC hl hy;cases hhi with
  |none=>
   simp[oH]at hh;subst hh;have:=DK (P:=P) (w:=w) (k:=k') (code:=.sliceB) h1 (by omega:l<=(len:Nat));simp[Instr.sliceBounds,this]
  |some hx=>
   obtain⟨k,rfl⟩:=IC hh hx;simp[Instr.sliceBounds,DK (by omega:0<=h) e1,DK h1 e0]
theorem Ot(s:List UInt8)(a b:Nat):(ByteArray.mk s.toArray).extract a b=⟨((s.take b).drop a).toArray⟩:=by
 rw[Lib.extract_eq];simp[List.drop_take]
theorem Ou{c:K.U}{l:List (K.El c)}{a a':Option Addr}{n cp lo hi c':Nat}(h:Rep D ρ S w (.ax c l) (.slice a n cp))(h1:lo<=hi)(h2:hi<=n)(ha:hi-lo=0\/∃b o,a=some ⟨b,o,none⟩/\a'=some ⟨b,o+lo*K.sz c,none⟩/\hi-lo<=c'):
 Rep D ρ S w (.ax c ((l.take hi).drop lo)) (.slice a' (hi-lo) c'):=by
 rcases ha with h0|⟨b,o,rfl,rfl,hc⟩
 ·have:(l.take hi).drop lo=[]:=mE (by simp;omega);rw[this,h0];exact .fx _ _
 ·by_cases h0:hi-lo=0
  ·have:(l.take hi).drop lo=[]:=mE (by simp;omega);rw[this,h0];exact .fx _ _
  ·cases h with
   |fx=>omega
   |ax val hS hcap hl' hca hr=>
    have hlen:((l.take hi).drop lo).length=hi-lo:=by simp;omega
    have hget:∀i x,((l.take hi).drop lo)[i]?=some x->l[lo+i]?=some x:=fun i x hi=>by
     simp only[jy,fq]at hi;split at hi
     ·exact hi
     ·simp at hi
    rw[<-hlen];exact .ax (fun i=>val (lo+i)) hS (by rw[hlen];omega) (fun i x hi=>hl' _ _ (hget i x hi))
     (fun i hi=>by
       have:=hca (lo+i) (by rw[hlen]at hi;omega)
       rwa [eA,<-jk]at this)
     (fun i x hi=>hr _ _ (hget i x hi))
theorem acw{P:Program}{H:List (Ob K)}(hs:aL D ρ S w H){t:TypeId}{x v:AV K}{lo hi:Option (AV K)}{c:Bool}{X:Value}{LO HI:Option Value}
 (h:Il P H t x lo hi=some (v,c)) (hc:c=true) (hx:Rep D ρ S w x X) (hlo:ri D ρ S w lo LO) (hhi:ri D ρ S w hi HI):
 ∃u,(Instr.sliceAt t X LO HI none).run P w=.ok u w/\Rep D ρ S w v u:=by unfold Il at h;cases h
theorem acx{P:Program}{H:List (Ob K)}(hD:bT D)(hs:aL D ρ S w H){t:TypeId}{x v:AV K}{lo hi:Option (AV K)}{c:Bool}{X:Value}{LO HI:Option Value}
 (h:Ik P t x lo hi=some (v,c)) (hc:c=true) (hx:Rep D ρ S w x X) (hlo:ri D ρ S w lo LO) (hhi:ri D ρ S w hi HI):
 ∃u,(Instr.sliceAt t X LO HI none).run P w=.ok u w/\Rep D ρ S w v u:=by
 unfold Ik at h;split at h
 ·rename_i s hu;obtain rfl:=iY hx;split at h
  ·rename_i l hh' hl hh;simp only[av,aN]at h;obtain⟨rfl,rfl⟩:=h;obtain⟨h1,h2,h3⟩:=Oq hc;refine⟨_,?_,.str _⟩;have:=ID (P:=P) (isS:=false) (len:=s.length) (cap:=s.length) hl hh hlo hhi h1 h2 h3 (cu _);simp[Instr.sliceAt,Instr.slice,gI hu,zX,this,Ot]
  ·cases h
 ·rename_i e cc s hu;split at h
  ·rename_i hsz;split at h
   ·rename_i l hh' hl hh;simp only[av,aN]at h;obtain⟨rfl,rfl⟩:=h;obtain⟨h1,h2,h3⟩:=Oq hc;have hlen:((s.take hh'.toNat).drop l.toNat).length=hh'.toNat-l.toNat:=by simp;omega
    cases hx with
    |fx a cap=>
     have:=ID (P:=P) (isS:=true) (len:=0) (cap:=cap) hl hh hlo hhi h1 h2 h3 (cM _);refine⟨_,by simp[Instr.sliceAt,Instr.slice,gI hu,rh hsz,this];rfl,?_⟩;have:hh'.toNat-l.toNat=0:=by simp at h3;omega
     simp only[List.take_nil,List.drop_nil];rw[this];exact .fx _ _
    |ax val hS hcap hl' hca hr=>
     rename_i b o cap;have hb:=ID (P:=P) (isS:=true) (len:=s.length) (cap:=cap) hl hh hlo hhi h1 h2 h3 hcap;refine⟨.slice (if cap=l.toNat then some ⟨b,o,none⟩else some ⟨b,o+l.toNat*K.sz cc,none⟩) (hh'.toNat-l.toNat) (cap-l.toNat),?_,?_⟩
     ·simp[Instr.sliceAt,Instr.slice,gI hu,rh hsz,hb]
     ·rw[<-hlen];by_cases h0:(s.take hh'.toNat).drop l.toNat=[]
      ·rw[h0];exact .fx _ _
      ·have hne:0<hh'.toNat-l.toNat:=by rw[<-hlen];exact List.length_pos_iff.2 h0
       rw[aP (by omega)];have hget:∀i x,((s.take hh'.toNat).drop l.toNat)[i]?=some x->s[l.toNat+i]?=some x:=fun i x hi=>by
        simp only[jy,fq]at hi;split at hi
        ·exact hi
        ·simp at hi
       exact .ax (fun i=>val (l.toNat+i)) hS (by rw[hlen];omega) (fun i x hi=>hl' _ _ (hget i x hi))
        (fun i hi=>by
          have:=hca (l.toNat+i) (by rw[hlen]at hi;omega)
          rwa [eA,<-jk]at this)
        (fun i x hi=>hr _ _ (hget i x hi))
   ·cases h
  ·cases h
 ·cases h
def SliceAt(D:bE K)(ρ:List Value)(S:Nat->Prop)(w:World)(c:K.U)(l:List (K.El c))(X:Value):Prop:=
 ∃a cap,X=.slice a l.length cap/\(l≠[]->∃b o,a=some ⟨b,o,none⟩/\∀i x,l[i]?=some x->∃vs,vs.length=K.sz c/\iW w b (o+i*K.sz c) vs/\bc D ρ S w (D.cells c x) vs)
theorem Ov(hD:bT D){c:K.U}{l:List (K.El c)}{X:Value}(h:Rep D ρ S w (.ax c l) X):SliceAt D ρ S w c l X:=by
 cases h with
 |fx a cap=>exact⟨a,cap,rfl,fun h=>absurd rfl h⟩
 |ax val hS hcap hl hc hr=>
  exact⟨_,_,rfl,fun _=>⟨_,_,rfl,fun i x hx=>⟨val i,by rw[hl i x hx,hD.len],hc i (cG.1 hx).1,(hl i x hx).symm,hr i x hx⟩⟩⟩
theorem Ox(hD:bT D){H:List (Ob K)}(hs:aL D ρ S w H){h:Nat}{c:K.U}{l:List (K.El c)}{X:Value}(ho:H[h]?=some (.arr c l))(hp:ρ[h]?=some X):SliceAt D ρ S w c l X:=by
 rcases xr hs ho hp with⟨rfl,rfl⟩|⟨b,o,cap,vs,T,fr,rfl,hblk,⟨hcap,gp⟩,hsz,hfr,hall⟩
 ·exact⟨none,0,rfl,fun h=>absurd rfl h⟩
 ·refine⟨_,_,rfl,fun _=>⟨b,o,rfl,fun i x hx=>⟨cX vs (o+i*K.sz c) (K.sz c),?_,xu hblk _ _,hall i x hx⟩⟩⟩;rw[<-(hall i x hx).1,hD.len]
theorem Oy(hD:bT D){H:List (Ob K)}(hs:aL D ρ S w H){c:K.U}{x:AV K}{l:List (K.El c)}{X:Value}(h:elems H c x=some l)(hx:Rep D ρ S w x X):SliceAt D ρ S w c l X:=by
 unfold elems at h;split at h
 ·simp only[av]at h;subst h;cases hx;exact⟨none,0,rfl,fun h=>absurd rfl h⟩
 ·rename_i c' l';cases hd:K.kG c' c with
  |isFalse hn=>simp[hd]at h
  |isTrue he=>subst he;simp[hd]at h;subst h;exact Ov hD hx
 ·rename_i hh;split at h
  ·rename_i c' l' hob;cases hd:K.kG c' c with
   |isFalse hn=>simp[hd]at h
   |isTrue he=>subst he;simp[hd]at h;subst h;exact Ox hD hs hob (mJ hx).1
  ·cases h
 ·cases h
theorem Oz{P:Program}{t ty e:TypeId}(ht:P.underlying t=some (.slice e)){c:K.U}{l:List (K.El c)}{X:Value}(h:SliceAt D ρ S w c l X):
 (Builtin.len_ #[t] ty #[X]).run P w=.ok (.int .i64 (l.length:Int)) w:=by
 obtain⟨a,cap,rfl,-⟩:=h;simp[Builtin.len_,gI ht,goInt]
theorem bytes_at(hD:bT D){c:K.U}{f:K.El c->UInt8}{g:UInt8->K.El c}(hb:D.byte c=some (f,g)){l:List (K.El c)}{a:Option Addr}{n cap:Nat}(h:SliceAt D ρ S w c l (.slice a n cap))(hne:l≠[]):
 n=l.length/\∃b o,a=some ⟨b,o,none⟩/\∀i,i<l.length->w.cell? ⟨b,o+i,none⟩=some (.int .u8 (((l.map f).map fun b=>(b.toNat:Int)).getD i 0)):=by
 obtain⟨a',cap',e,h⟩:=h;simp only[Value.slice.injEq]at e;obtain⟨rfl,rfl,rfl⟩:=e;obtain⟨b,o,rfl,h2⟩:=h hne;refine⟨rfl,b,o,rfl,fun i hi=>?_⟩;obtain⟨vs,hlen,hc,hr⟩:=h2 i l[i] (cH hi);have h1:K.sz c=1:=by rw[<-hD.len c l[i],(hD.byte c f g hb).1];rfl
 rw[h1,qP]at hc;rw[(hD.byte c f g hb).1]at hr;obtain⟨x,r,rfl,hx,-⟩:=hr.gP;have:=hc 0 x rfl;rw[Nat.add_zero]at this;rw[this,ig hx];simp[List.getD,hi]
theorem acy{P:Program}(hD:bT D){src dst e:TypeId}(h1:P.underlying src=some (.slice e))(h2:P.underlying dst=some .string)(h3:P.underlying e=some (.int .u8))
 {c:K.U} {f:K.El c->UInt8} {g:UInt8->K.El c} (hb:D.byte c=some (f,g)) {l:List (K.El c)} {X:Value} (h:SliceAt D ρ S w c l X):
 (convert src dst X).run P w=.ok (.string ⟨(l.map f).toArray⟩) w:=by
 obtain⟨a,cap,rfl,h'⟩:=h;by_cases hne:l=[]
 ·subst hne;cases a with
  |none=>rw[Go.run_convert_bytes_nil w src e h1 h3 _ _ dst h2];rfl
  |some a=>rw[run_convert_bytes_string w src dst e _ _ _ h1 h3 h2];simp[Conv.bytesToString,loadCells,loadCellsFrom,ByteArray.empty,ByteArray.emptyWithCapacity];rfl
 ·obtain⟨-,b,o,rfl,hc⟩:=bytes_at hD hb ⟨a,cap,rfl,h'⟩ hne;rw[run_convert_bytes_arg w src e h1 h3 b o l.length cap ((l.map f).map fun b=>(b.toNat:Int)) (by simp) hc dst h2];congr 2;apply ByteArray.ext;simp[strOfNums,List.map_map]
theorem OA{P:Program}{k:IntKind}{a b:Int}{ats:Array TypeId}{ty:TypeId}:
 (Builtin.min_ ats ty #[.int k a,.int k b]).run P w=.ok (.int k (cond (decide (b<a)) b a)) w/\(Builtin.max_ ats ty #[.int k a,.int k b]).run P w=.ok (.int k (cond (decide (a<b)) b a)) w:=by
 constructor
 ·simp[Builtin.min_,Builtin.min2,List.foldlM]
 ·simp[Builtin.max_,Builtin.max2,List.foldlM]
theorem OB{ev:Operand->AV K}{ρe:Operand->Value}(h:∀x,Rep D ρ S w (ev x) (ρe x))(l:List Operand):bc D ρ S w (l.map ev) (l.map ρe):=
 ⟨by simp,fun i v x hv hx=>by
   simp only[jQ,fF]at hv hx;obtain⟨o,ho,rfl⟩:=hv;obtain⟨o',ho',rfl⟩:=hx;rw[ho]at ho';simp at ho';subst ho';exact h o⟩
theorem DL{ev:Operand->AV K}{ρe:Operand->Value}(h:∀x,Rep D ρ S w (ev x) (ρe x))(o:Option Operand):ri D ρ S w (o.map ev) (o.map ρe):=by
 cases o with
 |none=>exact .none
 |some x=>exact .some (h x)
theorem lE{α:Type}{P:Program}{x:Sem α}{f:α->Next}{a:α}(h:x.run P w=.ok a w):(do pure (f (<-x)):Sem Next).run P w=.ok (f a) w:=by simp[h]
end Go.V
namespace Go.V
open Go
variable {K :df}{ρ:List Value}{S:Nat->Prop}{w:World}
theorem OC{cx:Cx K}{H:List (Ob K)}(hD:bT cx.D)(hs:aL cx.D ρ S w H){ev:Operand->AV K}{ρe:Operand->Value}(hev:∀x,Rep cx.D ρ S w (ev x) (ρe x)){o:Oper}{v:AV K}{c:Bool}
 (h:u4 cx ev H o.op=some (v,c)) (hc:c=true):∃u,(execOp ρe o).run cx.P w=.ok (.value u) w/\Rep cx.D ρ S w v u:=by
 unfold u4 at h;unfold execOp;split at h
 all_goals first|(cases h;done)|(rename_i hop;rw[hop];dsimp only)
 ·
  simp only[av,aN]at h;obtain⟨rfl,rfl⟩:=h;exact⟨_,rfl,hev _⟩
 ·simp only[av,aN]at h;obtain⟨rfl,rfl⟩:=h;exact⟨_,rfl,hev _⟩
 ·
  obtain⟨u,hu,hr⟩:=aco h hc (hev _) (hev _);exact⟨u,lE (f:=.value) hu,hr⟩
 ·
  obtain⟨u,hu,hr⟩:=acp (P:=cx.P) h (hev _);exact⟨u,lE (f:=.value) hu,hr⟩
 ·
  rename_i src dst x;have hx:=hev x;split at h
  ·rename_i d k k' n hsrc hd he;rw[he]at hx;simp only[av,aN]at h;obtain⟨rfl,rfl⟩:=h;rw[ig hx];refine⟨_,lE (f:=.value) (a:=.int k (k.wrap n)) ?_,.int _ _⟩;simp[convert,gI hd,gI hsrc,Conv.intToInt]
  ·rename_i d s hsrc hd he;rw[he]at hx;simp only[av,aN]at h;obtain⟨rfl,rfl⟩:=h;rw[iY hx];refine⟨_,lE (f:=.value) (a:=.string ⟨s.toArray⟩) ?_,.str _⟩;simp[convert,gI hd,gI hsrc]
  ·rename_i e h1 h2 hns;split at h
   ·rename_i cc h3 hty;split at h
    ·rename_i f g l hb hl;simp only[av,aN]at h;obtain⟨rfl,rfl⟩:=h;exact⟨_,lE (f:=.value) (acy hD h1 h2 h3 hb (Oy hD hs hl hx)),.str _⟩
    ·cases h
   ·cases h
  ·cases h
 ·
  rename_i t i;have hx:=hev t;split at h
  ·rename_i l he;rw[he]at hx;simp only[fF,aN]at h;obtain⟨y,hy,rfl,rfl⟩:=h;generalize ρe t=X at hx⊢;cases hx with
   |bB hl hr=>
    rename_i vs;have hi:i<vs.length:=by rw[<-hl];exact(cG.1 hy).1
    refine⟨vs[i],lE (f:=.value) ?_,hr i y _ hy (cH hi)⟩;simp[Instr.extract,hi]
  ·cases h
 ·
  rename_i s x f;simp only[fF,aN]at h;obtain⟨y,hy,rfl,rfl⟩:=h;obtain⟨u,hu,hr⟩:=acu hy (hev x);exact⟨u,lE (f:=.value) hu,hr⟩
 ·
  rename_i s x f;split at h
  ·rename_i fd cs hf he;simp only[fF,aN]at h;obtain⟨y,hy,rfl,rfl⟩:=h;have hx:=hev x;rw[he]at hx;generalize ρe x=X at hx⊢;cases hx with
   |agg hl hr=>
    rename_i vs;obtain⟨u,hu,hr'⟩:=Iz (P:=cx.P) (vs:=vs.toArray) hy ⟨by simpa using hl,by simpa using hr⟩;refine⟨u,lE (f:=.value) ?_,hr'⟩;unfold Dj at hf;split at hf
    ·rename_i fs hu';simp[Instr.field,gI hu',hf,asAgg,hu]
    ·cases hf
  ·cases h
 ·
  rename_i t p;split at h
  ·rename_i y hy;simp only[av,aN]at h;obtain⟨rfl,rfl⟩:=h;obtain⟨u,hu,hr⟩:=Oo hD hs hy (hev p);exact⟨u,lE (f:=.value) hu,hr⟩
  ·subst hc;obtain⟨u,hu,hr⟩:=acs hD hs h (hev p);exact⟨u,lE (f:=.value) hu,hr⟩
 ·
  rename_i t x i;obtain⟨u,hu,hr⟩:=acv hD hs h hc (hev x) (hev i);exact⟨u,lE (f:=.value) hu,hr⟩
 ·
  rename_i t x i;have hx:=hev x;have hi:=hev i;split at h
  ·rename_i s k n hu he hi';rw[he]at hx;rw[hi']at hi;simp only[av,aN]at h;obtain⟨rfl,rfl⟩:=h;rw[iY hx,ig hi];obtain⟨h1,h2,h3⟩:=zZ hc;refine⟨_,lE (f:=.value) (a:=.int .u8 ((s.getD n.toNat 0).toNat:Int)) ?_,.int _ _⟩;have hg:(ByteArray.mk s.toArray)[n.toNat]?=some (s.getD n.toNat 0):=by
    rw[getElem?_pos (c:=ByteArray.mk s.toArray) (i:=n.toNat) (h:=by simpa [ByteArray.size]using h3)];simp[List.getD,h3,ByteArray.getElem_eq_getElem_data]
   simp[Instr.index,asIntOf,gI hu,h1,hg]
  ·cases h
 ·
  rename_i t x lo hi;split at h
  ·rename_i r hr0;simp only[av]at h;subst h;obtain⟨u,hu,hr⟩:=acx hD hs hr0 hc (hev x) (DL hev lo) (DL hev hi);exact⟨u,lE (f:=.value) hu,hr⟩
  ·split at h
   ·obtain⟨u,hu,hr⟩:=acw hs h hc (hev x) (DL hev lo) (DL hev hi);exact⟨u,lE (f:=.value) hu,hr⟩
   ·cases h
 ·
  rename_i x;have hx:=hev x;split at h
  ·rename_i hh o he;simp only[av,aN]at h;obtain⟨rfl,rfl⟩:=h;rw[he]at hx;obtain⟨b,e,hb⟩:=sS hx;rw[e];exact⟨_,rfl,.ptr hb⟩
  ·rename_i c' y o he;simp only[av,aN]at h;obtain⟨rfl,rfl⟩:=h;rw[he]at hx;obtain⟨b,o',vs,e,-⟩:=Og hx;rw[e]at hx⊢;exact⟨_,rfl,hx⟩
  ·rename_i hh s i o he;simp only[av,aN]at h;obtain⟨rfl,rfl⟩:=h;rw[he]at hx;obtain⟨b,o',n,cp,e,hb,hi⟩:=vq hx;rw[e]at hx⊢;exact⟨_,rfl,hx⟩
  ·cases h
 ·
  rename_i f first caps
  split at h
  ·rename_i hf;simp only[av,aN]at h;obtain⟨rfl,rfl⟩:=h;have h0:first= #[]:=by simpa using hf
   subst h0;have:=OB hev caps.toList;refine⟨_,lE (f:=.value) (a:=.func (.func f) #[] (caps.toList.map ρe).toArray) ?_,.fn this.1 this.2⟩;simp[Instr.makeFunc];cases caps;simp
  ·cases h
 ·
  rename_i args argTypes;split at h
  ·rename_i x t hx ht;have hxx:=hev x;have ea:args= #[x]:=by rw[<-Array.toArray_toList (xs:=args),hx]
   have et:argTypes= #[t]:=by rw[<-Array.toArray_toList (xs:=argTypes),ht]
   subst ea;subst et;have key:∀(n:Nat),(Builtin.len_ #[t] o.type #[ρe x]).run cx.P w=.ok (.int .i64 (n:Int)) w->
    ((do let d<-resolve ρe {callee:=.builtin .len,args:= #[x],argTypes:= #[t]} o.type;invoke d.target d.args:Sem Next)).run cx.P w=.ok (.value (.int .i64 (n:Int))) w:=fun n hn=>by
    simp[resolve,invoke,builtin,hn]
   split at h
   ·rename_i s hu he;rw[he]at hxx;simp only[av,aN]at h;obtain⟨rfl,rfl⟩:=h;exact⟨_,key _ (by rw[iY hxx];simp[Builtin.len_,gI hu,goInt,zX]),.int _ _⟩
   ·rename_i e hu he;rw[he]at hxx;simp only[av,aN]at h;obtain⟨rfl,rfl⟩:=h;refine⟨_,key 0 ?_,.int _ _⟩;generalize ρe x=X at hxx⊢;cases hxx;simp[Builtin.len_,gI hu,goInt]
   ·rename_i e c' l hu he;rw[he]at hxx;simp only[av,aN]at h;obtain⟨rfl,rfl⟩:=h;exact⟨_,key _ (Oz hu (Ov hD hxx)),.int _ _⟩
   ·rename_i e v1 v2 v3 v4 hu he;rw[he]at hxx;simp only[av,aN]at h;obtain⟨rfl,rfl⟩:=h;refine⟨_,key (v4-v3) ?_,.int _ _⟩;generalize ρe x=X at hxx⊢;cases hxx;simp[Builtin.len_,gI hu,goInt]
   ·rename_i e hh hu he;rw[he]at hxx;split at h
    ·rename_i c' l hob;simp only[av,aN]at h;obtain⟨rfl,rfl⟩:=h;exact⟨_,key _ (Oz hu (Ox hD hs hob (mJ hxx).1)),.int _ _⟩
    ·rename_i c' l hob;simp only[av,aN]at h;obtain⟨rfl,rfl⟩:=h;have hT:Tree cx.D w c' l (ρe x):=hs.ob _ _ _ hob (mJ hxx).1;obtain⟨a,cp,e⟩:=Oa hT;exact⟨_,key _ (by rw[e];simp[Builtin.len_,gI hu,goInt]),.int _ _⟩
    ·cases h
   ·cases h
  ·cases h
 all_goals
  rename_i args argTypes;split at h
  ·rename_i x y hxy;have hxx:=hev x;have IE:=hev y;have ea:args= #[x,y]:=by rw[<-Array.toArray_toList (xs:=args),hxy]
   subst ea;split at h
   ·rename_i k a k' b he1 he2;rw[he1]at hxx;rw[he2]at IE;split at h
    ·rename_i hk;subst hk;simp only[av,aN]at h;obtain⟨rfl,rfl⟩:=h
     first
      |(refine⟨_,?_,.int _ _⟩;simp[resolve,invoke,builtin,ig hxx,ig IE,OA.1];done)
      |(refine⟨_,?_,.int _ _⟩;simp[resolve,invoke,builtin,ig hxx,ig IE,OA.2];done)
    ·cases h
   ·cases h
  ·cases h
end Go.V
