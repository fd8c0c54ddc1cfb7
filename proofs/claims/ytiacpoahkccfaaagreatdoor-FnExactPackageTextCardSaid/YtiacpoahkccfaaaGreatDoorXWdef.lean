/-
  A VALUE-LEVEL READING OF THE LOADED CODE: abstract values, objects, operations, and a function 'execC' that runs a body on them. Nothing here speaks of one program: the program is a parameter. The proofs that what it yields is what the machine does are in the texts that follow.
-/
import Derived.WalkKit
import Derived.KernelRfl
import Derived.Orders
universe u v
theorem al{α:Type u}{a:α}:(some a).isSome=true:=rfl
abbrev ay := @Option.some.injEq
theorem aw{α:Type u}{a b:α}:(some a).getD b=a:=rfl
abbrev ak := @Bool.and_self
theorem ae{α:Sort u}(a b:α):(bif true then a else b)=a:=rfl
abbrev aM := @List.length_append
theorem aU{α:Type u}{a:α}{as:List α}:(a::as).length=as.length+1:=rfl
theorem aj{α:Sort u}(a b:α):(bif false then a else b)=b:=rfl
theorem cu{α:Type u}:([]:List α).length=0:=rfl
abbrev aR := @Prod.mk.injEq
abbrev bg := @List.getElem?_eq_some_iff
abbrev cC := @Bool.and_eq_true
abbrev bB := @List.getElem?_eq_getElem
abbrev bq := @Bool.not_false
abbrev bu := @Bool.true_and
theorem cg(n:Nat):(n:Int).toNat=n:=rfl
abbrev cz := @decide_eq_true_eq
abbrev du := @Bool.true_or
abbrev bE := @beq_eq_false_iff_ne
abbrev dM := @List.getElem_mem
abbrev cT := @List.getElem?_append_left
abbrev cO := @Bool.not_true
abbrev cr := @Bool.false_and
abbrev cM := @List.getElem?_append_right
abbrev de := @beq_self_eq_true
abbrev cw := @Nat.le_refl
abbrev dR := @decide_eq_false_iff_not
abbrev eB := @Bool.and_true
abbrev fu := @Option.map_eq_some_iff
abbrev db := @decide_eq_false
abbrev cP := @Nat.lt_or_ge
abbrev fh := @List.getD_eq_getElem?_getD
abbrev aO := @decide_eq_true
abbrev gq := @if_neg
abbrev aQ := @List.mem_append
abbrev dJ := @beq_iff_eq
abbrev dP := @if_pos
abbrev dE := @List.getElem?_take
abbrev cL := @Nat.mul_le_mul_right
abbrev fb := @List.all_eq_true
abbrev fE := @Bool.not_eq_true'
abbrev fw := @List.append_assoc
abbrev dD := @List.length_map
abbrev fZ := @List.mem_of_getElem?
abbrev fy := @List.map_cons
abbrev jr := @Nat.zero_le
abbrev iz := @Bool.or_true
abbrev eS := @Array.getElem?_eq_some_iff
theorem lp{α:Type u}(as:List α):[]++as=as:=rfl
abbrev dS := @List.eq_nil_of_length_eq_zero
abbrev eO := @decide_true
abbrev kJ := @Nat.add_mul
abbrev fG := @Bool.or_eq_true
abbrev ej := @List.getElem?_drop
abbrev iP := @Option.some.inj
abbrev iC := @Nat.zero_add
abbrev iE := @List.mem_singleton
abbrev gV := @Int.ofNat_lt
abbrev f8 := @List.getElem?_eq_none
abbrev acN := @List.getElem?_replicate
abbrev ib := @Array.getD_eq_getD_getElem?
abbrev fF := @List.mem_cons
abbrev fU := @List.getElem?_map
abbrev nj := @Bool.false_eq_true
abbrev acP := @Array.getElem?_setIfInBounds
abbrev ox := @Bool.or_eq_false_iff
abbrev fS := @Nat.lt_of_lt_of_le
abbrev ll := @List.drop_zero
abbrev kD := @List.getElem?_set
abbrev iN := @of_decide_eq_true
abbrev ln := @Nat.one_mul
theorem lx{α:Type u}{β:Type v}(a:α)(f:α->β):Option.map f (some a)=some (f a):=rfl
abbrev im := @Array.getElem?_eq_none
abbrev js := @decide_eq_decide
abbrev ql := @Nat.add_assoc
abbrev qf := @Nat.eq_zero_or_pos
abbrev mz := @Bool.eq_iff_iff
abbrev adE := @List.size_toArray
abbrev rI := @Bool.or_false
abbrev mC := @decide_false
abbrev ot := @congrArg
abbrev oy := @List.getElem_of_mem
abbrev l6 := @Bool.false_or
abbrev ly := @Array.getElem?_eq_getElem
abbrev rN := @List.pairwise_iff_getElem
abbrev mD := @Nat.le_trans
abbrev wv := @Array.replicate_succ
abbrev wT := @List.append_toArray
abbrev l7 := @List.drop_length
abbrev qe := @List.length_take
abbrev uD := @Bool.false_ne_true
abbrev qc := @List.contains_eq_mem
abbrev uE := @List.append_nil
abbrev rP := @List.push_toArray
abbrev uy := @Bool.or_self
abbrev mw := @Bool.not_eq_true
abbrev wm := @List.take_of_length_le
abbrev rQ := @Nat.eq_of_beq_eq_true
abbrev uF := @List.ext_getElem?
abbrev oz := @if_false
abbrev zj := @bne_iff_ne
abbrev ui := @Array.getElem?_replicate
abbrev Dz := @Int.eq_ofNat_of_zero_le
theorem zk{α:Type u}{a:α}{as bs:List α}:(a::as)++bs=a::(as++bs):=rfl
abbrev lA := @Nat.mul_one
abbrev oC := @Nat.testBit_or
abbrev DC := @List.length_replicate
abbrev ou := @Iff.rfl
abbrev wU := @List.take_append_of_le_length
abbrev uu := @List.mem_cons_of_mem
abbrev uv := @decide_not
abbrev lj := @List.map_append
abbrev DD := @Nat.add_comm
abbrev rR := @List.drop_drop
abbrev zl := @List.take_add_one
abbrev zf := @List.take_length
abbrev wV := @List.getElem_map
abbrev wz := @Nat.not_lt_zero
abbrev wL := @Ne.symm
abbrev zm := @Nat.zero_mul
abbrev DF := @List.length_set
abbrev DG := @getElem!_pos
theorem DI{α:Type u}{a:α}{l:List α}{f:α->Bool}:(a::l).all f=(f a&&l.all f):=rfl
abbrev DJ := @if_true
abbrev oD := @Nat.sub_self
abbrev zi := @Nat.mul_comm
abbrev my := @List.not_mem_nil
abbrev qm := @List.nodup_cons
namespace Go.V
open Go
structure dh where
 U:Type
 El:U->Type
 jI:DecidableEq U
 sz:U->Nat
 zero:(c:U)->El c
inductive AV (K:dh) where
 |any
 |int (k:IntKind) (n:Int)
 |bool (b:Bool)
 |str (s:List UInt8)
 |dA
 |dn
 |fn (f:Nat) (caps:List (AV K))
 |ptr (h off:Nat)
 |sl (h:Nat)
 |ep (h st i off:Nat)
 |an (c:K.U) (l:List (K.El c))
 |rp (c:K.U) (x:K.El c) (off:Nat)
 |agg (l:List (AV K))
 |bD (l:List (AV K))
 |opt (g:Nat) (want:Bool) (v:AV K)
 |np (h:Nat)
 |vw (h st lo hi:Nat)
inductive Ob (K:dh) where
 |dead
 |box (cells:List (AV K))
 |arr (c:K.U) (l:List (K.El c))
 |gU (c:K.U) (l:List (K.El c))
 |tree (c:K.U) (l:List (K.El c))
 |opn (c:K.U) (l:List (K.El c)) (i off:Nat) (cs:List (AV K))
structure Base where
 inv:(Nat->Prop)->World->Prop
 mono:∀{S S':Nat->Prop}{w w':World},(∀b,S b->S' b)->(∀b,S b->w'.heap[b]?=w.heap[b]?)->inv S w->inv S' w'
def Base.N3:Base:=⟨fun _ _=>True,fun _ _ h=>h⟩
structure bF (K:dh) where
 cells:(c:K.U)->K.El c->List (AV K)
 dec:(c:K.U)->List (AV K)->Option (K.El c×Bool)
 byte:(c:K.U)->Option ((K.El c->UInt8)×(UInt8->K.El c))
 find:List (AV K)->Option K.U
 base:Base:=Base.N3
 qb:Option TypeId:=none
 mx:K.U->Option TypeId:=fun _=>none
variable {K :dh}
def AV.bR:AV K->List (AV K)
 |.agg l=>l
 |v=>[v]
def AV.known:AV K->Bool
 |.any|.opt ..=>false
 |_=>true
def AV.jt:AV K->Bool
 |.opt ..=>true
 |_=>false
def AV.one:AV K->Bool
 |.any|.opt .. |.agg _|.bD _|.vw ..=>false
 |_=>true
structure St (K:dh) where
 tm:List (AV K)
 H:List (Ob K)
 ok:Bool
inductive Ex where
 |normal
 |exit (id:Nat)
 |ret
def Ex.nw:Ex->Exit
 |.normal=>.normal
 |.exit id=>.exit id
 |.ret=>.ret
structure bG (K:dh) where
 n:Nat
 ins:List Nat
 outs:List Nat
 run:{R:Type}->List (AV K)->List (Ob K)->(Ex->List (AV K)->List (Ob K)->Option R)->Option R
inductive Mode where
 |plain|jq|jN|pass|bh|fresh
 deriving DecidableEq
def I0{R:Type}(a b:Option R):Option R:=match a with
 |none=>b
 |some r=>some r
theorem adR{R:Type}{a b:Option R}{r:R}(h:I0 a b=some r):a=some r\/b=some r:=by
 cases a with
 |none=>exact .inr h
 |some x=>exact .inl h
structure Cx (K:dh) where
 P:Program
 D:bF K
 ty:TypeId->Option K.U
 call:FuncId->List (AV K)->List (Ob K)->Option (AV K×List (Ob K)×Bool)
 mode:FuncId->Mode
 loop:Nat->Option (bG K)
 ny:TypeId->List (Option K.U)
 cut:Bool:=false
 iG:List (List (Option K.U)):=[]
 Oy:List Bool:=[]
 mv:Bool:=false
 deep:K.U->Bool:=fun _=>false
 opn:Bool:=false
 vws:Bool:=false
 vtl:Bool:=false
 lz:Bool:=false
 alt:Bool->FuncId->List (AV K)->List (Ob K)->Option (AV K×List (Ob K)×Bool):=fun _ _ _ _=>none
 qn:Bool->FuncId->Mode:=fun _=>mode
 y6:{R:Type}->Option R->Option R->Option R:=fun a b=>I0 a b
 gs:List (Nat×Bool):=[]
def known(cx:Cx K)(g:Nat):Option Bool:=(cx.gs.find? fun p=>p.1==g).map (·.2)
mutual
def lX:Value->Option (AV K)
 |.bool b=>some (.bool b)
 |.int k n=>some (.int k n)
 |.string s=>some (.str s.data.toList)
 |.pointer none=>some .dA
 |.slice none 0 0=>some .dn
 |.agg cs=>(zn cs.toList).map .agg
 |_=>none
def zn:List Value->Option (List (AV K))
 |[]=>some []
 |v::r=>match lX v,zn r with
  |some x,some l=>some (x::l)
  |_,_=>none
end
def covers(tm:List (AV K)):Nat->Nat×Bool->Nat×Bool->Bool
 |0,g,t=>g.1==t.1&&g.2==t.2
 |n+1,g,t=>(g.1==t.1&&g.2==t.2)||(match tm[g.1]? with
  |some (.opt g1 w1 _)=>covers tm n (g1,w1) t
  |_=>false)
def dT(tm:List (AV K))(gs:List (Nat×Bool)):Operand->AV K
 |.tmp t=>match tm[t]? with
   |some (.opt g w v)=>if gs.any (fun p=>covers tm 6 p (g,w))then v else .any
   |some v=>v
   |none=>.any
 |.const v=>(lX v).getD .any
 |.global _=>.any
 |.func f=>.fn f []
def wx(tm:List (AV K)):Nat->Nat×Bool->Option Bool
 |0,_=>none
 |n+1,(g,w)=>match tm[g]? with
  |some (.bool b)=>some (b==w)
  |some (.opt g1 w1 (.bool b))=>(wx tm n (g1,w1)).map fun e=>e&&(b==w)
  |_=>none
mutual
def merge(b:Bool):AV K->AV K->AV K
 |.int k m,.int k' n=>if k=k' then .int k (cond b m n)else .any
 |.bool m,.bool n=>.bool (cond b m n)
 |.str m,.str n=>.str (cond b m n)
 |.an c l,.an c' l'=>match K.jI c c' with
   |.isTrue h=>.an c' (cond b (h ▸ l) l')
   |.isFalse _=>.any
 |.agg l,.agg l'=>if l.length=l'.length then .agg (merges b l l')else .any
 |.dn,.dn=>.dn
 |.dA,.dA=>.dA
 |_,_=>.any
def merges(b:Bool):List (AV K)->List (AV K)->List (AV K)
 |x::r,y::s=>merge b x y::merges b r s
 |_,_=>[]
end
def uG(op:BinOp)(k:IntKind)(x y:Int):Int:=
 let a:=BitVec.ofInt k.bits x
 let b:=BitVec.ofInt k.bits y
 k.wrap ((match op with
   |.and=>(a&&& b)|.or=>(a|||b)|.xor=>(a^^^b)|_=>(a&&& ~~~b)).toNat)
def Oz(k:IntKind)(x y:Int):Int:=k.wrap (x*2^(min y.toNat k.bits))
def OA(k:IntKind)(x y:Int):Int:=x.fdiv (2^(min y.toNat k.bits))
def av(a b:List UInt8):Bool:=decide (a.length+b.length<=4611686018427387904)
def zo(a b:List UInt8):Bool:=Op.bytesLess a b
def I1(op:BinOp)(k:IntKind)(a b:Int):Option (AV K×Bool):=
 match op with
 |.add=>some (.int k (k.wrap (a+b)),true)
 |.sub=>some (.int k (k.wrap (a-b)),true)
 |.mul=>some (.int k (k.wrap (a*b)),true)
 |.quo=>some (.int k (k.wrap (a.tdiv b)),b !=0)
 |.rem=>some (.int k (a.tmod b),b !=0)
 |.and|.or|.xor|.andNot=>some (.int k (uG op k a b),true)
 |.eql=>some (.bool (a==b),true)
 |.neq=>some (.bool (a !=b),true)
 |.lss=>some (.bool (decide (a<b)),true)
 |.leq=>some (.bool (decide (a<=b)),true)
 |.gtr=>some (.bool (decide (b<a)),true)
 |.geq=>some (.bool (decide (b<=a)),true)
 |.shl|.shr=>none
def I2(op:BinOp)(a b:List UInt8):Option (AV K×Bool):=
 match op with
 |.add=>some (.str (a++b),av a b)
 |.eql=>some (.bool (a==b),true)
 |.neq=>some (.bool (!(a==b)),true)
 |.lss=>some (.bool (zo a b),true)
 |.leq=>some (.bool (zo a b||a==b),true)
 |.gtr=>some (.bool (!(zo a b||a==b)),true)
 |.geq=>some (.bool (!zo a b),true)
 |_=>none
def OB(P:Program)(t:TypeId):Bool:=P.underlying t matches some .string
def I3(P:Program)(t:TypeId):Bool:=P.underlying t matches some .bool
def I4(op:UnOp):AV K->Option (AV K×Bool)
 |.bool b=>match op with
   |.not=>some (.bool (!b),true)
   |_=>none
 |.int k n=>match op with
   |.neg=>some (.int k (k.wrap (0-n)),true)
   |.xor=>some (.int k (uG .xor k (if k.signed then -1 else k.max) n),true)
   |_=>none
 |_=>none
def dC(P:Program)(t:TypeId):Option Nat:=(P.info? t).map (·.size)
def DK(P:Program)(t:TypeId):Option Bool:=
 match P.underlying t with
 |some (.struct _)|some (.array _ _)=>some true
 |some _=>some false
 |none=>none
def DL(P:Program)(t:TypeId)(f:Nat):Option Field:=
 match P.underlying t with
 |some (.struct fs)=>fs[f]?
 |_=>none
def elemOf?(P:Program)(t:TypeId):Option TypeId:=
 match P.underlying t with
 |some (.slice e)=>some e
 |_=>none
def zeroOf(P:Program)(t:TypeId):Option (AV K):=
 match P.info? t with
 |some i=>match i.zero with
  |some v=>lX v
  |none=>none
 |none=>none
def wO(P:Program)(t:TypeId):Option IntKind:=
 match P.underlying t with
 |some (.int k)=>some k
 |_=>none
def lu(P:Program)(t:TypeId)(cs:List (AV K))(off:Nat):Option (AV K):=
 match DK P t,dC P t with
 |some true,some n=>if off+n<=cs.length then some (.agg ((cs.drop off).take n))else none
 |some false,some _=>cs[off]?
 |_,_=>none
def zp(P:Program)(rec:TypeId->AV K->AV K->Option Bool)(xs ys:List (AV K)):List Field->Option Bool
 |[]=>some true
 |f::fs=>if f.name= "_" then none else
  match lu P f.type xs f.offset,lu P f.type ys f.offset with
  |some a,some b=>match rec f.type a b,zp P rec xs ys fs with
   |some p,some q=>some (p&&q)
   |_,_=>none
  |_,_=>none
def wW(P:Program):Nat->TypeId->AV K->AV K->Option Bool
 |0,_,_,_=>none
 |n+1,t,.int k a,.int k' b=>if k=k' then(match P.underlying t with
  |some (.int _)=>some (a==b)
  |_=>none)else none
 |n+1,t,.bool a,.bool b=>(match P.underlying t with
  |some .bool=>some (a==b)
  |_=>none)
 |n+1,t,.str a,.str b=>(match P.underlying t with
  |some .string=>some (a==b)
  |_=>none)
 |n+1,t,.agg xs,.agg ys=>(match P.underlying t with
  |some (.struct fs)=>if P.stoodInHeld t then none else zp P (wW P n) xs ys fs.toList
  |_=>none)
 |_+1,_,_,_=>none
def I5(P:Program)(t:TypeId):Bool:=P.underlying t matches some (.pointer _)
def wX(P:Program)(op:BinOp)(t:TypeId)(e:Bool):Option (AV K×Bool):=if I5 P t then(match op with
 |.eql=>some (.bool e,true)
 |.neq=>some (.bool (!e),true)
 |_=>none)else none
def I6(P:Program)(op:BinOp)(t:TypeId):AV K->AV K->Option (AV K×Bool)
 |.int k a,.int k' b=>match op with
   |.shl=>some (.int k (Oz k a b),decide (0<=b))
   |.shr=>some (.int k (OA k a b),decide (0<=b))
   |_=>if k=k' then I1 op k a b else none
 |.bool a,.bool b=>if I3 P t then(match op with
   |.eql=>some (.bool (a==b),true)
   |.neq=>some (.bool (!(a==b)),true)
   |_=>none)else none
 |.str a,.str b=>I2 op a b
 |.agg a,.agg b=>match op with
   |.eql=>if P.eqGuardType P.depth t then none else(wW P 6 t (.agg a) (.agg b)).map fun e=>(.bool e,true)
   |.neq=>if P.eqGuardType P.depth t then none else(wW P 6 t (.agg a) (.agg b)).map fun e=>(.bool (!e),true)
   |_=>none
 |.dA,.dA=>wX P op t true
 |.ptr _ _,.dA=>wX P op t false
 |.rp _ _ _,.dA=>wX P op t false
 |.ep _ _ _ _,.dA=>wX P op t false
 |_,_=>none
def inB(n:Int)(len:Nat):Bool:=decide (0<=n)&&decide (n<len)
def bS(lo hi:Int)(len:Nat):Bool:=decide (0<=lo)&&(decide (lo<=hi)&&decide (hi<=len))
mutual
def AV.closed:AV K->Bool
 |.int .. |.bool _|.str _|.dA|.dn|.an .. |.rp .. |.any=>true
 |.ptr .. |.sl _|.ep .. |.opt .. |.np _|.vw ..=>false
 |.fn _ l|.agg l|.bD l=>ia l
def ia:List (AV K)->Bool
 |[]=>true
 |v::r=>v.closed&&ia r
end
def um(H:List (Ob K)):AV K->AV K
 |.sl h=>match H[h]? with
   |some (.arr c l)=>.an c l
   |some (.gU c l)=>.an c l
   |some (.tree c l)=>.an c l
   |_=>.any
 |v=>v
mutual
def jq(D:bF K)(H:List (Ob K)):AV K->AV K
 |.sl h=>match H[h]? with
   |some (.arr c l)=>.an c l
   |some (.gU c l)=>.an c l
   |some (.tree c l)=>.an c l
   |_=>.any
 |.ptr h off=>match H[h]? with
   |some (.box cs)=>match D.find (cs.map (um H))with
    |some c=>match D.dec c (cs.map (um H))with
     |some (x,true)=>.rp c x off
     |_=>.any
    |none=>.any
   |_=>.any
 |.vw h st lo hi=>match H[h]? with
   |some (.arr c l)=>if st=K.sz c then .an c ((l.take hi).drop lo)else .any
   |some (.tree c l)=>if st=K.sz c then .an c ((l.take hi).drop lo)else .any
   |_=>.any
 |.fn g l=>.fn g (lY D H l)
 |.agg l=>.agg (lY D H l)
 |.bD l=>.bD (lY D H l)
 |v=>v
def lY(D:bF K)(H:List (Ob K)):List (AV K)->List (AV K)
 |[]=>[]
 |v::r=>jq D H v::lY D H r
end
def elems(H:List (Ob K))(c:K.U):AV K->Option (List (K.El c))
 |.dn=>some []
 |.an c' l=>match K.jI c' c with
   |.isTrue h=>some (h ▸ l)
   |.isFalse _=>none
 |.sl h=>match H[h]? with
   |some (.arr c' l)=>match K.jI c' c with
    |.isTrue h=>some (h ▸ l)
    |.isFalse _=>none
   |_=>none
 |_=>none
def setCells(cs:List (AV K))(off:Nat):List (AV K)->List (AV K)
 |[]=>cs
 |v::r=>setCells (cs.set off v) (off+1) r
mutual
def hands:AV K->List Nat
 |.ptr h _|.sl h|.ep h _ _ _|.np h|.vw h _ _ _=>[h]
 |.agg l|.bD l|.fn _ l=>bT l
 |_=>[]
def bT:List (AV K)->List Nat
 |[]=>[]
 |v::r=>hands v++bT r
end
def uH(H:List (Ob K))(h:Nat):List (Ob K):=
 match H[h]? with
 |some (.arr c l)=>H.set h (.gU c l)
 |some (.tree c l)=>H.set h (.gU c l)
 |_=>H
def ja(H:List (Ob K)):List Nat->List (Ob K)
 |[]=>H
 |h::r=>ja (uH H h) r
mutual
def eE(H:List (Ob K)):AV K->AV K
 |.sl h=>match H[h]? with
   |some (.gU c l)=>.an c l
   |_=>.sl h
 |.vw h st lo hi=>match H[h]? with
   |some (.gU c l)=>if st=K.sz c then .an c ((l.take hi).drop lo)else .vw h st lo hi
   |_=>.vw h st lo hi
 |.agg l=>.agg (oG H l)
 |.bD l=>.bD (oG H l)
 |v=>v
def oG(H:List (Ob K)):List (AV K)->List (AV K)
 |[]=>[]
 |v::r=>eE H v::oG H r
end
def thaw(dp:K.U->Bool)(H:List (Ob K)):List (Option K.U)->List (AV K)->List (AV K)×List (Ob K)
 |some c::cs,.dn::r=>match thaw dp (H++[cond (dp c) (.tree c []) (.arr c [])]) cs r with
  |(l,H')=>(.sl H.length::l,H')
 |_::cs,v::r=>match thaw dp H cs r with
  |(l,H')=>(v::l,H')
 |[],l=>(l,H)
 |_,[]=>([],H)
def fV(dp:K.U->Bool)(H:List (Ob K)):List (List (Option K.U))->List (AV K)->List (AV K)×List (Ob K)
 |cs::css,.agg l::r=>match thaw dp H cs l with
  |(l',H1)=>match fV dp H1 css r with
   |(s,H2)=>(.agg l'::s,H2)
 |cs::css,v::r=>match thaw dp H cs [v]with
  |(l',H1)=>match fV dp H1 css r with
   |(s,H2)=>(l'.headD v::s,H2)
 |[],l=>(l,H)
 |_,[]=>([],H)
def kC:List (AV K)->Bool
 |.np _::_=>true
 |_=>false
def zq(b:Bool)(h:Nat):List (AV K)->List (AV K)
 |.dA::r=>cond b (.np h) .dA::r
 |l=>l
mutual
def iM:AV K->Bool
 |.an .. |.rp ..=>true
 |.agg l|.bD l|.fn _ l=>eN l
 |_=>false
def eN:List (AV K)->Bool
 |[]=>false
 |v::r=>iM v||eN r
end
def DN(P:Program)(D:bF K)(H:List (Ob K))(t:TypeId):AV K->Option (AV K)
 |.ptr h off=>match H[h]? with
   |some (.box cs)=>lu P t cs off
   |_=>none
 |.rp c x off=>lu P t (D.cells c x) off
 |.ep h st i off=>match H[h]? with
   |some (.arr c l)=>if st=K.sz c then lu P t (D.cells c (l.getD i (K.zero c))) off else none
   |some (.tree c l)=>if st=K.sz c then(match lu P t (D.cells c (l.getD i (K.zero c))) off with
     |some v=>if iM v then none else some v
     |none=>none)else none
   |_=>none
 |_=>none
def I7(_P:Program)(_H:List (Ob K))(_t:TypeId):AV K->Option (AV K×Bool):=fun _=>none
def I8(P:Program)(s:TypeId)(f:Nat)(x:AV K):Option (AV K):=
 match DL P s f with
 |some fd=>match dC P fd.type with
  |some (_+1)=>match x with
   |.ptr h off=>some (.ptr h (off+fd.offset))
   |.rp c x off=>some (.rp c x (off+fd.offset))
   |.ep h st i off=>some (.ep h st i (off+fd.offset))
   |_=>none
  |_=>none
 |none=>none
def I9(P:Program)(H:List (Ob K))(t:TypeId)(x i:AV K):Option (AV K×Bool):=
 match elemOf? P t,i with
 |some e,.int _ n=>match x with
  |.an c l=>if dC P e=some (K.sz c)then some (.rp c (l.getD n.toNat (K.zero c)) 0,inB n l.length)else none
  |.sl h=>match H[h]? with
    |some (.arr c l)=>if dC P e=some (K.sz c)then some (.ep h (K.sz c) n.toNat 0,inB n l.length)else none
    |some (.tree c l)=>if dC P e=some (K.sz c)then some (.ep h (K.sz c) n.toNat 0,inB n l.length)else none
    |_=>none
  |_=>none
 |_,_=>none
def jO(d:Int):Option (AV K)->Option Int
 |none=>some d
 |some (.int _ n)=>some n
 |some _=>none
def Ja(P:Program)(t:TypeId)(x:AV K)(lo hi:Option (AV K)):Option (AV K×Bool):=
 match P.underlying t,x with
 |some .string,.str s=>match jO 0 lo,jO s.length hi with
  |some l,some h=>some (.str ((s.take h.toNat).drop l.toNat),bS l h s.length)
  |_,_=>none
 |some (.slice e),.an c s=>if dC P e=some (K.sz c)then match jO 0 lo,jO s.length hi with
  |some l,some h=>some (.an c ((s.take h.toNat).drop l.toNat),bS l h s.length)
  |_,_=>none else none
 |_,_=>none
def Jb(_P:Program)(_H:List (Ob K))(_t:TypeId)(_x:AV K)(_lo _hi:Option (AV K)):Option (AV K×Bool):=none
def uI(cx:Cx K)(ev:Operand->AV K)(H:List (Ob K)):Op->Option (AV K×Bool)
 |.move x|.assign x=>some (ev x,true)
 |.binOp op t x y _=>I6 cx.P op t (ev x) (ev y)
 |.unOp op _ x=>I4 op (ev x)
 |.convert src dst x=>match cx.P.underlying src,cx.P.underlying dst,ev x with
   |some _,some (.int k),.int _ n=>some (.int k (k.wrap n),true)
   |some _,some .string,.str s=>some (.str s,true)
   |some (.slice e),some .string,x=>match cx.P.underlying e,cx.ty e with
    |some (.int .u8),some c=>match cx.D.byte c,elems H c x with
     |some (f,_),some l=>some (.str (l.map f),true)
     |_,_=>none
    |_,_=>none
   |_,_,_=>none
 |.extract t i=>match ev t with
   |.bD l=>(l[i]?).map fun v=>(v,true)
   |_=>none
 |.fieldAddr s x f=>(I8 cx.P s f (ev x)).map fun v=>(v,true)
 |.field s x f=>match DL cx.P s f,ev x with
   |some fd,.agg cs=>(lu cx.P fd.type cs fd.offset).map fun v=>(v,true)
   |_,_=>none
 |.load t p=>match DN cx.P cx.D H t (ev p)with
   |some v=>some (v,true)
   |none=>I7 cx.P H t (ev p)
 |.indexAddr t x i=>I9 cx.P H t (ev x) (ev i)
 |.index t x i=>match cx.P.underlying t,ev x,ev i with
   |some .string,.str s,.int _ n=>some (.int .u8 ((s.getD n.toNat 0).toNat:Int),inB n s.length)
   |_,_,_=>none
 |.slice t x lo hi none=>match Ja cx.P t (ev x) (lo.map ev) (hi.map ev)with
   |some r=>some r
   |none=>if cx.vws&&cond cx.vtl hi.isNone (hi.isSome|| !cx.cut)then Jb cx.P H t (ev x) (lo.map ev) (hi.map ev)else none
 |.nilCheck x=>match ev x with
   |.ptr h o=>some (.ptr h o,true)
   |.rp c x o=>some (.rp c x o,true)
   |.ep h s i o=>some (.ep h s i o,true)
   |_=>none
 |.makeFunc (.func f) first caps=>if first.isEmpty then some (.fn f (caps.toList.map ev),true)else none
 |.call {callee:=.builtin .len,args,argTypes}=>match args.toList,argTypes.toList with
   |[x],[t]=>match cx.P.underlying t,ev x with
     |some .string,.str s=>some (.int .i64 (s.length:Int),true)
     |some (.slice _),.dn=>some (.int .i64 0,true)
     |some (.slice _),.an _ l=>some (.int .i64 (l.length:Int),true)
     |some (.slice _),.vw _ _ a b=>some (.int .i64 ((b-a:Nat):Int),true)
     |some (.slice _),.sl h=>match H[h]? with
      |some (.arr _ l)=>some (.int .i64 (l.length:Int),true)
      |some (.tree _ l)=>some (.int .i64 (l.length:Int),true)
      |_=>none
     |_,_=>none
   |_,_=>none
 |.call {callee:=.builtin .min,args, ..}=>match args.toList with
   |[x,y]=>match ev x,ev y with
     |.int k a,.int k' b=>if k=k' then some (.int k (cond (decide (b<a)) b a),true)else none
     |_,_=>none
   |_=>none
 |.call {callee:=.builtin .max,args, ..}=>match args.toList with
   |[x,y]=>match ev x,ev y with
     |.int k a,.int k' b=>if k=k' then some (.int k (cond (decide (a<b)) b a),true)else none
     |_,_=>none
   |_=>none
 |_=>none
def OC(D:bF K)(c:K.U)(e:TypeId):Bool:=match D.mx c with
 |none=>true
 |some t=>t==e
def oH(cx:Cx K)(e:TypeId):Option K.U:=match cx.ty e with
 |some c=>if OC cx.D c e then some c else none
 |none=>none
def room(e:TypeId)(P:Program):Bool:=match P.info? e with
 |some i=>decide (i.bytes<=4096)
 |none=>false
def ov(D:bF K)(c:K.U):List (AV K)->Option (List (K.El c)×Bool)
 |[]=>some ([],true)
 |v::r=>match D.dec c v.bR,ov D c r with
  |some (x,b),some (l,b')=>some (x::l,b&&b')
  |_,_=>none
def inOrder(ev:Operand->AV K):Nat->List (Nat×Operand)->Option (List (AV K))
 |_,[]=>some []
 |n,(i,x)::r=>if i=n then(inOrder ev (n+1) r).map (ev x::·)else none
def placesOf(P:Program)(t:TypeId):Option (List (Nat×Nat)):=
 match P.underlying t with
 |some (.struct fs)=>fs.toList.mapM (fun f=>(P.info? f.type).map fun i=>(f.offset,i.size))
 |_=>none
def wY(places:List (Nat×Nat))(ev:Operand->AV K)(cs:List (AV K)):List (Nat×Operand)->Option (List (AV K))
 |[]=>some cs
 |(i,x)::r=>match places[i]? with
  |some (off,n)=>if(ev x).known=true/\(ev x).bR.length=n/\off+n<=cs.length then wY places ev (setCells cs off (ev x).bR) r else none
  |none=>none
def ns(P:Program)(t:TypeId):Bool:=match P.info? t with
 |some i=>match i.zero with
  |some v=>v.cells.size==i.size
  |none=>false
 |none=>false
def source(D:bF K)(H:List (Ob K))(c:K.U):AV K->Option (List (K.El c))
 |.str s=>match D.byte c with
   |some (_,g)=>some (s.map g)
   |none=>none
 |v=>elems H c v
def DO(cx:Cx K)(H:List (Ob K))(sT:TypeId)(s x:AV K):Option (AV K×List (Ob K)×Bool×List Nat):=
 match elemOf? cx.P sT with
 |none=>none
 |some e=>match oH cx e with
  |none=>none
  |some c=>if dC cx.P e=some (K.sz c)/\room e cx.P=true/\ns cx.P e=true then
    match source cx.D H c x with
    |none=>none
    |some m=>match s with
     |.dn=>some (.sl H.length,H++[.arr c m],decide (m.length<=1073741824),[])
     |.sl h=>match x with
       |.sl h'=>if h=h' then none else match elems H c (.sl h)with
         |some l=>some (.sl H.length,H.set h .dead++[.arr c (l++m)],decide (l.length+m.length<=1073741824),[h])
         |none=>none
       |_=>match elems H c (.sl h)with
        |some l=>some (.sl H.length,H.set h .dead++[.arr c (l++m)],decide (l.length+m.length<=1073741824),[h])
        |none=>none
     |_=>none
   else none
def zr(_cx:Cx K)(_H:List (Ob K))(_sT:TypeId)(_s _x:AV K):Option (AV K×List (Ob K)×Bool×List Nat):=none
def lr(ev:Operand->AV K):Op->List Nat
 |.buildSlice _ _ parts=>bT (parts.toList.map fun p=>ev p.2)
 |.store _ p x=>match ev p with
   |.ep ..=>hands (ev x)
   |_=>[]
 |.slice _ x _ _ _=>match ev x with
   |.sl h=>[h]
   |_=>[]
 |_=>[]
def OD(P:Program)(t:TypeId):Bool:=match P.info? t with
 |some i=>(match i.zero with
  |some .nilFunc=>true
  |_=>false)
 |none=>false
def uJ(cx:Cx K)(ev:Operand->AV K)(H:List (Ob K)):Op->Option (AV K×List (Ob K)×Bool×List Nat)
 |.box t x=>if(ev x).known then match thaw cx.deep H (cx.ny t) (ev x).bR with
     |(cs,H1)=>if kC cs then none else some (.ptr H1.length 0,H1++[.box cs],true,[])else none
 |.alloc t=>match(zeroOf cx.P t:Option (AV K))with
   |some z=>if z.known then match thaw cx.deep H (cx.ny t) z.bR with
    |(cs,H1)=>if kC cs then none else some (.ptr H1.length 0,H1++[.box (zq (cx.D.qb==some t) H1.length cs)],true,[])else none
   |none=>if OD cx.P t then some (.ptr H.length 0,H++[.box [.any]],true,[])else none
 |.build t parts=>match placesOf cx.P t,(zeroOf cx.P t:Option (AV K))with
   |some ps,some z=>if z.known then(wY ps ev z.bR parts.toList).map fun cs=>(.agg cs,H,true,[])else none
   |_,_=>none
 |.store t p x=>match dC cx.P t with
   |some n=>if(ev x).bR.length=n/\(ev x).bR.all AV.one=true then match ev p with
    |.ptr h off=>match H[h]? with
      |some (.box cs)=>if off+n<=cs.length then match thaw cx.deep H (cx.ny t) (ev x).bR with
       |(xs,H1)=>if kC (setCells cs off xs)&& !kC cs then none else some (.any,H1.set h (.box (setCells cs off xs)),true,[h])else none
      |_=>none
    |.ep h st i off=>match H[h]? with
      |some (.arr c l)=>if st=K.sz c/\ia (ev x).bR=true/\off+n<=K.sz c then
        match cx.D.dec c (setCells (cx.D.cells c (l.getD i (K.zero c))) off (ev x).bR)with
        |some (y,b)=>some (.any,H.set h (.arr c (l.set i y)),b,[h])
        |none=>none
       else none
      |_=>none
    |_=>none else none
   |none=>none
 |.makeSlice t len cap=>match elemOf? cx.P t with
   |none=>none
   |some e=>match oH cx e,(zeroOf cx.P e:Option (AV K)),ev len,ev cap with
    |some c,some z,.int _ n,.int _ m=>if dC cx.P e=some (K.sz c)/\room e cx.P=true/\ia z.bR=true/\z.known=true then
      match cx.D.dec c z.bR with
      |some (y,b)=>some (.sl H.length,H++[.arr c (List.replicate n.toNat y)],b&&(decide (0<=n)&&(decide (n<=m)&&decide (m<=1073741824))),[])
      |none=>none
     else none
    |_,_,_,_=>none
 |.buildSlice t len parts=>match elemOf? cx.P t with
   |none=>none
   |some e=>match oH cx e,inOrder ev 0 parts.toList with
    |some c,some l=>if dC cx.P e=some (K.sz c)/\ns cx.P e=true/\l.length=len/\len<=4096/\K.sz c<=4096/\l.all (fun v=>ia v.bR&&(v.known&&decide (v.bR.length=K.sz c)))=true then
      match ov cx.D c l with
      |some (y,b)=>some (.sl H.length,H++[.arr c y],b,[])
      |none=>none
     else none
    |_,_=>none
 |.convert src dst x=>match cx.P.underlying src,elemOf? cx.P dst,ev x with
   |some .string,some e,.str s=>match cx.P.underlying e,oH cx e with
    |some (.int .u8),some c=>match cx.D.byte c with
     |some (_,g)=>if dC cx.P e=some (K.sz c)then some (.sl H.length,H++[.arr c (s.map g)],decide (s.length<=1073741824),[])else none
     |none=>none
    |_,_=>none
   |_,_,_=>none
 |.call {callee:=.builtin .append,args,argTypes}=>match args.toList,argTypes.toList with
   |[s,x],[sT,xT]=>if(cx.P.underlying xT).isNone then none else if(wO cx.P xT).isSome then zr cx H sT (ev s) (ev x)else DO cx H sT (ev s) (ev x)
   |_,_=>none
 |_=>none
mutual
def pZ:AV K->Bool
 |.sl _|.ptr .. |.ep .. |.np _|.vw ..=>true
 |.agg l|.bD l|.fn _ l=>uh l
 |_=>false
def uh:List (AV K)->Bool
 |[]=>false
 |v::r=>pZ v||uh r
end
mutual
def fP(f:Nat->Option Nat):AV K->Option (AV K)
 |.ptr h o=>(f h).map (.ptr · o)
 |.sl h=>(f h).map .sl
 |.np h=>(f h).map .np
 |.ep h s i o=>(f h).map (.ep · s i o)
 |.vw h s a b=>(f h).map (.vw · s a b)
 |.fn g l=>(jm f l).map (.fn g)
 |.agg l=>(jm f l).map .agg
 |.bD l=>(jm f l).map .bD
 |.opt ..=>none
 |v=>some v
def jm(f:Nat->Option Nat):List (AV K)->Option (List (AV K))
 |[]=>some []
 |v::r=>match fP f v,jm f r with
  |some x,some l=>some (x::l)
  |_,_=>none
end
def ren(m:List Nat):AV K->Option (AV K):=fP fun h=>m.idxOf? h
def OE(m:List Nat):List (AV K)->Option (List (AV K)):=jm fun h=>m.idxOf? h
def back(m:List Nat):AV K->Option (AV K):=fP fun h=>m[h]?
def adU(m:List Nat):List (AV K)->Option (List (AV K)):=jm fun h=>m[h]?
def kB(f:Nat->Option Nat):Ob K->Option (Ob K)
 |.box cs=>(jm f cs).map .box
 |.opn ..=>none
 |o=>some o
def Dc(m:List Nat):Ob K->Option (Ob K):=kB fun h=>m.idxOf? h
def uf(m:List Nat):Ob K->Option (Ob K):=kB fun h=>m[h]?
def mr(f:Ob K->Option (Ob K)):List (Ob K)->Option (List (Ob K))
 |[]=>some []
 |o::r=>match f o,mr f r with
  |some x,some l=>some (x::l)
  |_,_=>none
def reach(H:List (Ob K)):Nat->List Nat->List Nat->List Nat
 |0,_,acc=>acc
 |_,[],acc=>acc
 |n+1,h::r,acc=>if acc.contains h then reach H n r acc else
   reach H n (r++(match H[h]? with|some (.box cs)=>bT cs|_=>[])) (acc++[h])
def ue(H:List (Ob K)):List Nat->Bool
 |[]=>true
 |h::m=>decide (h<H.length)&&(!m.contains h&&ue H m)
def jo:List (Ob K)->List Nat->List (Ob K)->List (Ob K)
 |H,h::m,o::r=>jo (H.set h o) m r
 |H,_,_=>H
def NP(D:bF K):Ob K->Bool
 |.arr c _=> !eN (D.cells c (K.zero c))
 |.tree ..=>true
 |_=>false
def lk(cx:Cx K)(m:Mode)(H:List (Ob K))(f:FuncId)(args:List (AV K)):Option (AV K×List (Ob K)×Bool×List Nat):=
 match m with
 |.plain=>if ia (lY cx.D H args)then match cx.call f (lY cx.D H args) []with
     |some (r,[],c)=>if r.closed&&(!iM r|| !uh args)then some (r,H,c,[])else none
     |_=>none else none
 |.jq=>if ia (lY cx.D H args)&& !uh args then match cx.call f (lY cx.D H args) []with
     |some (r,Hn,c)=>match back ((List.range Hn.length).map (H.length+·)) r,mr (uf ((List.range Hn.length).map (H.length+·))) Hn with
      |some r',some uj=>some (r',H++uj,c,[])
      |_,_=>none
     |none=>none else none
 |.fresh=>if ia (lY cx.D H args)then match cx.call f (lY cx.D H args) []with
     |some (r,Hn,c)=>if !iM r&&Hn.all (NP cx.D)then match back ((List.range Hn.length).map (H.length+·)) r,mr (uf ((List.range Hn.length).map (H.length+·))) Hn with
      |some r',some uj=>some (r',H++uj,c,[])
      |_,_=>none else none
     |none=>none else none
 |.jN|.bh=>none
 |.pass=>if !ue H (reach H 64 (bT args) [])then none else match OE (reach H 64 (bT args) []) args,mr (Dc (reach H 64 (bT args) [])) ((reach H 64 (bT args) []).map fun h=>H.getD h .dead)with
     |some args',some Hi=>match cx.call f args' Hi with
      |some (r,Ho,c)=>
       match back (reach H 64 (bT args) []++(List.range (Ho.length-Hi.length)).map (H.length+·)) r,mr (uf (reach H 64 (bT args) []++(List.range (Ho.length-Hi.length)).map (H.length+·))) Ho with
       |some r',some il=>if Hi.length<=Ho.length then some (r',jo H (reach H 64 (bT args) []) (il.take Hi.length)++il.drop Hi.length,c,reach H 64 (bT args) [])else none
       |_,_=>none
      |none=>none
     |_,_=>none
def uk(cx:Cx K)(m:Mode)(H:List (Ob K))(f:FuncId)(args:List (AV K)):Option (AV K×List (Ob K)×Bool×List Nat):=
 lk cx m (ja H (bT args)) f (oG (ja H (bT args)) args)
def pY(q:Bool)(cx:Cx K)(H:List (Ob K))(f:FuncId)(args:List (AV K)):Option (AV K×List (Ob K)×Bool×List Nat):=
 match cx.mode f with
 |.plain=>lk cx .plain H f args
 |.jN=>match lk cx .plain H f args with
   |some r=>some r
   |none=>if q then none else uk cx .plain H f args
 |.jq=>if q then none else uk cx .jq H f args
 |.pass=>if q then none else lk cx .pass H f args
 |.bh=>if q then none else uk cx .pass H f args
 |.fresh=>if q then none else match lk cx .jq H f args with
   |some r=>some r
   |none=>match lk cx .fresh H f args with
    |some r=>some r
    |none=>uk cx .jq H f args
def kG:List Nat->Bool
 |[]=>true
 |x::r=> !r.contains x&&kG r
def Dp(D:bF K)(H:List (Ob K)):AV K->Option (AV K)
 |.sl h=>match H[h]? with
   |some (.arr c l)=>if eN (D.cells c (K.zero c))then none else some (.an c l)
   |some (.tree c l)=>some (.an c l)
   |_=>none
 |.dn=>some .dn
 |.int k n=>some (.int k n)
 |.bool b=>some (.bool b)
 |.str s=>some (.str s)
 |.dA=>some .dA
 |_=>none
def lq(D:bF K)(H:List (Ob K)):List (AV K)->Option (List (AV K))
 |[]=>some []
 |v::r=>match Dp D H v,lq D H r with
  |some x,some l=>some (x::l)
  |_,_=>none
def wI(D:bF K)(H:List (Ob K)):List (AV K)->Option (List (AV K))
 |[]=>some []
 |v::r=>match lq D H v.bR,wI D H r with
  |some cs,some l=>some (.agg cs::l)
  |_,_=>none
def fx(H:List (Ob K)):List Nat->List (Ob K)
 |[]=>H
 |h::r=>fx (H.set h .dead) r
def qh(H:List (Ob K))(c:K.U):AV K->Option (List (K.El c)×List Nat)
 |.dn=>some ([],[])
 |.sl h=>match H[h]? with
   |some (.tree c' l)=>match K.jI c' c with
    |.isTrue e=>some (e ▸ l,[h])
    |.isFalse _=>none
   |_=>none
 |_=>none
def wN(cx:Cx K)(ev:Operand->AV K)(H:List (Ob K)):Op->Option (AV K×List (Ob K)×Bool×List Nat)
 |.makeSlice t len cap=>match elemOf? cx.P t with
   |none=>none
   |some e=>match oH cx e,(zeroOf cx.P e:Option (AV K)),ev len,ev cap with
    |some c,some z,.int _ n,.int _ m=>if cx.deep c=true/\dC cx.P e=some (K.sz c)/\room e cx.P=true/\z.known=true then
      match lq cx.D [] z.bR with
      |some zs=>match cx.D.dec c zs with
       |some (y,b)=>some (.sl H.length,H++[.tree c (List.replicate n.toNat y)],b&&(decide (0<=n)&&(decide (n<=m)&&decide (m<=1073741824))),[])
       |none=>none
      |none=>none
     else none
    |_,_,_,_=>none
 |.buildSlice t len parts=>match elemOf? cx.P t with
   |none=>none
   |some e=>match oH cx e,inOrder ev 0 parts.toList with
    |some c,some l=>if cx.deep c=true/\dC cx.P e=some (K.sz c)/\ns cx.P e=true/\l.length=len/\len<=4096/\K.sz c<=4096/\l.all (fun v=>v.known&&decide (v.bR.length=K.sz c))=true/\kG (bT l)=true then
      match wI cx.D H l with
      |some l'=>match ov cx.D c l' with
       |some (y,b)=>some (.sl H.length,fx H (bT l)++[.tree c y],b,bT l)
       |none=>none
      |none=>none
     else none
    |_,_=>none
 |.store t p x=>match ev p,dC cx.P t with
   |.ep h st i off,some n=>match H[h]? with
     |some (.tree c l)=>if st=K.sz c/\off+n<=K.sz c/\(ev x).bR.length=n/\(ev x).bR.all AV.one=true/\kG (h::bT (ev x).bR)=true then
       match lq cx.D H (ev x).bR with
       |some xs=>match cx.D.dec c (setCells (cx.D.cells c (l.getD i (K.zero c))) off xs)with
        |some (y,b)=>some (.any,(fx H (h::bT (ev x).bR)).set h (.tree c (l.set i y)),b,h::bT (ev x).bR)
        |none=>none
       |none=>none
      else none
     |_=>none
   |_,_=>none
 |.call {callee:=.builtin .append,args,argTypes}=>match args.toList,argTypes.toList with
   |[s,x],[sT,xT]=>if(wO cx.P xT).isSome||(cx.P.underlying xT).isNone then none else match elemOf? cx.P sT with
     |none=>none
     |some e=>match oH cx e with
      |none=>none
      |some c=>if cx.deep c=true/\dC cx.P e=some (K.sz c)/\room e cx.P=true/\ns cx.P e=true then
        match qh H c (ev s),qh H c (ev x)with
        |some (l,hs),some (m,hs')=>if kG (hs++hs')then some (.sl H.length,fx H (hs++hs')++[.tree c (l++m)],decide (l.length+m.length<=1073741824),hs++hs')else none
        |_,_=>none
       else none
   |_,_=>none
 |_=>none
def wQ(_cx:Cx K)(_ev:Operand->AV K)(_H:List (Ob K)):Op->Option (AV K×List (Ob K)×Bool×List Nat):=fun _=>none
def Jc:List (Ob K)->Option Nat
 |[]=>none
 |.opn ..::_=>some 0
 |_::r=>(Jc r).map (· +1)
def shut(_D:bF K)(H:List (Ob K)):Option (List (Ob K)×Bool×List Nat):=
 match Jc H with
 |none=>some (H,true,[])
 |some _=>none
def wS(q:Bool)(cx:Cx K)(H:List (Ob K))(f:FuncId)(args:List (AV K)):Option (AV K×List (Ob K)×Bool×List Nat):=
 if cx.opn&& !cx.lz&& !q then match pY q cx H f args with
  |some (r,H1,c,t)=>match shut cx.D H1 with
   |some (H2,b,t2)=>some (r,H2,c&&b,t++t2)
   |none=>none
  |none=>none
 else pY q cx H f args
def guardOf(ops:List Oper)(o:Oper):Option (Option (Nat×Bool)):=
 match o.guard with
 |none=>some none
 |some (j,w)=>match ops[j]? with
  |some g=>match g.dst with
   |some t=>some (some (t,w))
   |none=>none
  |none=>none
def uK(st:St K)(wr:List Nat)(dst:Option Nat)(v:AV K)(H:List (Ob K))(ok:Bool):Option (St K×List Nat):=
 match dst with
 |none=>some (⟨st.tm,H,ok⟩,wr)
 |some d=>if wr.contains d||decide (st.tm.length<=d)then none else some (⟨st.tm.set d v,H,ok⟩,d::wr)
def wP(cx:Cx K)(ev:Operand->AV K)(H:List (Ob K))(op:Op):Option (AV K×List (Ob K)×Bool×List Nat):=
 match wN cx (fun x=>eE H (ev x)) H op with
 |some r=>some r
 |none=>match lr ev op with
 |[]=>uJ cx (fun x=>eE H (ev x)) H op
 |hs=>match uI cx (fun x=>eE (ja H hs) (ev x)) (ja H hs) op with
  |some (v,c)=>some (v,ja H hs,c,[])
  |none=>uJ cx (fun x=>eE (ja H hs) (ev x)) (ja H hs) op
def Jd:Operand->Bool
 |.const (.slice none 0 0)=>true
 |_=>false
def jb(cx:Cx K):Op->Bool
 |.assign x=> !Jd x
 |.slice t ..=>OB cx.P t
 |.load t _=> !cx.opn||(cx.lz&&(cx.ny t).all Option.isNone)
 |.makeFunc .. |.move _|.pick .. |.binOp .. |.unOp .. |.extract .. |.field .. |.fieldAddr .. |.indexAddr .. |.index .. |.nilCheck _=>true
 |.convert _ dst _=>(elemOf? cx.P dst).isNone
 |.call {callee:=.builtin .len, ..}|.call {callee:=.builtin .min, ..}|.call {callee:=.builtin .max, ..}=>true
 |.call {callee:=.value (.func f), ..}=>cx.mode f== .plain&&(!cx.opn||cx.lz)
 |_=>false
def cutV(_cx:Cx K)(_ev:Operand->AV K)(_H:List (Ob K)):Op->Option (AV K×List (Ob K)×Bool×List Nat):=fun _=>none
def zt(cx:Cx K)(ev:Operand->AV K)(H:List (Ob K)):Op->Option (AV K×List (Ob K)×Bool×List Nat)
 |.buildSlice t len parts=>match elemOf? cx.P t with
   |none=>none
   |some e=>match cx.ty e,inOrder ev 0 parts.toList with
    |some c,some l=>if dC cx.P e=some (K.sz c)/\ns cx.P e=true/\l.length=len/\len<=4096/\K.sz c<=4096/\l.all (fun v=>ia v.bR&&(v.known&&decide (v.bR.length=K.sz c)))=true then
      match ov cx.D c l with
      |some (y,b)=>some (.an c y,H,b,[])
      |none=>none
     else none
    |_,_=>none
 |_=>none
def lB(q:Bool)(cx:Cx K)(tm:List (AV K))(gs:List (Nat×Bool))(H:List (Ob K))(T:TypeId):Op->Option (AV K×List (Ob K)×Bool×List Nat)
 |.pick c x y=>match c,dT tm gs c with
   |.tmp t,.bool b=>match known cx t with
     |some b0=>some (cond b0 (dT tm gs x) (dT tm gs y),H,b==b0,[])
     |none=>some (merge b (dT tm ((t,true)::gs) x) (dT tm ((t,false)::gs) y),H,true,[])
   |.const _,.bool b=>some (merge b (dT tm gs x) (dT tm gs y),H,true,[])
   |_,_=>none
 |.call {callee:=.value f,args, ..}=>match dT tm gs f with
   |.fn g caps=>wS q cx H g (args.toList.map (fun x=>eE H (dT tm gs x))++caps)
   |_=>none
 |.assign x=>if !q&&Jd x then match elemOf? cx.P T with
     |some e=>match cx.ty e with
      |some c=>some (.sl H.length,H++[cond (cx.deep c) (.tree c []) (.arr c [])],true,[])
      |none=>some (dT tm gs x,H,true,[])
     |none=>some (dT tm gs x,H,true,[])
   else some (eE H (dT tm gs x),H,true,[])
 |op=>match uI cx (fun x=>eE H (dT tm gs x)) H op with
  |some (v,c)=>some (v,H,c,[])
  |none=>if q then zt cx (fun x=>eE H (dT tm gs x)) H op else if jb cx op then none else match wQ cx (dT tm gs) H op with
   |some r=>some r
   |none=>match cutV cx (dT tm gs) H op with
   |some r=>some r
   |none=>wP cx (dT tm gs) H op
def nz(cx:Cx K):Op->Bool
 |.assign _=>true
 |.slice t ..=> !cx.cut||OB cx.P t
 |.call {callee:=.value (.func f), ..}=>cx.mode f== .plain||cx.mode f== .jN
 |op=>jb cx op
def adV(cx:Cx K):Op->Bool
 |.buildSlice ..=>true
 |op=>nz cx op
def iQ(q:Bool)(cx:Cx K)(ops:List Oper)(tm:List (AV K))(H:List (Ob K))(wr:List Nat)(o:Oper):Option (AV K×List (Ob K)×Bool):=
 match guardOf ops o with
 |none=>none
 |some none=>match lB q cx tm [] H o.type o.op with
  |some (v,H',c,_)=>if v.jt then none else some (v,H',c)
  |none=>none
 |some (some (g,w))=>match known cx g with
  |some b0=>match tm[g]? with
   |some (.bool b)=>if b0=w then match lB q cx tm [] H o.type o.op with
     |some (v,H',c,_)=>if v.jt then none else some (v,H',c&&(b==b0))
     |none=>none
    else some (.any,H,b==b0)
   |_=>none
  |none=>match wx tm 6 (g,w)with
   |none=>none
   |some b=>if adV cx o.op&&wr.contains g then match lB true cx tm [(g,w)] H o.type o.op with
     |some (v,_,c,_)=>some (.opt g w v,H,c|| !b)
     |none=>none else none
def uL(cx:Cx K)(ops:List Oper)(st:St K)(wr:List Nat)(o:Oper):Option (St K×List Nat):=
 match iQ false cx ops st.tm st.H wr o with
 |some (v,H',c)=>uK st wr o.dst v H' (c&&st.ok)
 |none=>none
def lC(cx:Cx K)(ops:List Oper):List Oper->St K->List Nat->Option (St K×List Nat)
 |[],st,wr=>some (st,wr)
 |o::r,st,wr=>match uL cx ops st wr o with
  |some (st',wr')=>lC cx ops r st' wr'
  |none=>none
def ju(tm:List (AV K)):List Nat->List (AV K)
 |[]=>tm
 |d::r=>match tm[d]? with
  |some (.opt ..)=>ju (tm.set d .any) r
  |_=>ju tm r
def iH:List Oper->List Nat->List Nat
 |[],acc=>acc
 |o::r,acc=>iH r (acc++[o.after.toList.foldl (fun s e=>s|||2^e.on|||acc.getD e.on 0) 0])
def eV(bits:Nat):List Oper->Nat->List (AV K)->List (AV K)
 |[],_,tm=>tm
 |o::r,i,tm=>eV bits r (i+1) (match o.dst with
  |some d=>if bits.testBit i then tm else tm.set d .any
  |none=>tm)
def zu(i:Nat):Nat->List Nat->Nat
 |_,[]=>0
 |k,b::r=>(cond (b.testBit i) (2^k) 0)|||zu i (k+1) r
def fk(bs:List Nat)(i:Nat):Nat:=bs.getD i 0|||zu i 0 bs
def mE(cx:Cx K)(ops:List Oper)(bs:List Nat):List Oper->Nat->St K->List Nat->Option (St K×List Nat)
 |[],_,st,wr=>some (st,wr)
 |o::r,i,st,wr=>match iQ true cx ops (eV (fk bs i) ops 0 st.tm) st.H wr o with
  |some (v,_,c)=>match uK st wr o.dst v st.H (c&&st.ok)with
   |some (st',wr')=>mE cx ops bs r (i+1) st' wr'
   |none=>none
  |none=>none
def kx:List Oper->Nat->Bool
 |[],_=>true
 |o::r,i=>(o.after.toList.all fun e=>decide (e.on<i)&&Region.binds .any e)&&kx r (i+1)
def iR(bits:Nat):Nat->List (Ob K)->List (Ob K)
 |_,[]=>[]
 |i,o::r=>(if bits.testBit i then .dead else o)::iR bits (i+1) r
def kK(bits:Nat):Nat->List (Ob K)->List (Ob K)->List (Ob K)
 |i,o::r,o'::r'=>(if bits.testBit i then o else o')::kK bits (i+1) r r'
 |_,[],r'=>r'
 |_,_::_,[]=>[]
mutual
def AV.upto(n:Nat):AV K->Bool
 |.ptr h _|.sl h|.ep h _ _ _|.np h|.vw h _ _ _=>decide (h<n)
 |.fn _ l|.agg l|.bD l=>oI n l
 |.opt _ _ v=>v.upto n
 |_=>true
def oI(n:Nat):List (AV K)->Bool
 |[]=>true
 |v::r=>v.upto n&&oI n r
end
def Ob.upto(n:Nat):Ob K->Bool
 |.box cs=>oI n cs
 |.opn _ _ _ _ cs=>oI n cs
 |_=>true
def jv(ev:Operand->AV K)(op:Op):List Nat:=
 lr ev op++(match op with
  |.store _ p _=>hands (ev p)
  |.call {callee:=.builtin .append,args, ..}=>(match args.toList with
    |s::x::_=>hands (ev s)++hands (ev x)
    |[s]=>hands (ev s)
    |[]=>[])
  |.call {callee:=.builtin .clear,args, ..}=>(match args.toList with
    |s::_=>hands (ev s)
    |[]=>[])
  |.call {callee:=.builtin .copy,args, ..}=>(match args.toList with
    |s::_=>hands (ev s)
    |[]=>[])
  |_=>[])
def rS(cx:Cx K):Op->Bool
 |.box .. |.alloc _|.build .. |.store .. |.makeSlice .. |.buildSlice .. |.convert .. |.slice ..=>true
 |.call {callee:=.builtin .append, ..}=>true
 |.call {callee:=.value (.func f), ..}=>(cx.mode f== .fresh||(cx.mode f== .pass||cx.mode f== .bh))&&(!cx.opn||cx.lz)
 |.load ..=>cx.opn&&cx.lz
 |_=>false
def Je(ev:Operand->AV K):Op->List Nat
 |.call {callee:=.value _,args, ..}=>bT (args.toList.map ev)
 |_=>[]
def wZ(cx:Cx K)(H:List (Ob K))(ev:Operand->AV K):Op->List Nat
 |.call {callee:=.value (.func f),args, ..}=>(match cx.mode f with
   |.pass=>reach H 64 (bT (args.toList.map fun y=>eE H (ev y))) []
   |.bh=>bT (args.toList.map fun y=>eE H (ev y))++reach (ja H (bT (args.toList.map fun y=>eE H (ev y)))) 64 (bT (oG (ja H (bT (args.toList.map fun y=>eE H (ev y)))) (args.toList.map fun y=>eE H (ev y)))) []
   |_=>[])
 |_=>[]
def bitsOf:List Nat->Nat
 |[]=>0
 |h::r=>2^h|||bitsOf r
def w8(cx:Cx K)(ops:List Oper)(tm:List (AV K))(H:List (Ob K))(wr:List Nat)(o:Oper):Option (AV K×List (Ob K)×Bool):=
 if nz cx o.op then iQ true cx ops tm H wr o else if rS cx o.op then iQ false cx ops tm H wr o else none
def oJ(cx:Cx K)(tm:List (AV K))(H:List (Ob K))(op:Op):List Nat:=if nz cx op then[]else match op with
 |.load t p=>(match uI cx (fun x=>eE H (dT tm [] x)) H (.load t p)with
   |some _=>[]
   |none=>hands (dT tm [] p))
 |op=>(jv (dT tm []) op++Je (dT tm []) op)++wZ cx H (dT tm []) op
def w9(A:Nat):Nat->List Nat->Nat
 |_,[]=>0
 |k,b::r=>(if A.testBit k then 0 else b)|||w9 A (k+1) r
def DR(A:Nat)(T:List Nat):Nat->List (Nat×Nat)->Bool
 |_,[]=>true
 |i,(m,n)::r=>(A.testBit i||T.all fun h=>decide (n<=h)||m.testBit h)&&DR A T (i+1) r
def adW:Op->Option (List Operand)
 |.slice _ x _ _ _=>some [x]
 |.move _=>some []
 |.load _ p=>some [p]
 |.fieldAddr ..=>some []
 |.indexAddr _ x _=>some [x]
 |.nilCheck _=>some []
 |.store _ p x=>some [p,x]
 |.binOp ..=>some []
 |.unOp ..=>some []
 |_=>none
def OF(tm:List (AV K))(n:Nat)(op:Op):Nat:=
 match adW op with
 |none=>0
 |some l=>bitsOf ((List.range n).filter fun h=> !(bT (l.map (dT tm []))).contains h)
def qo(bs ws:List Nat)(i:Nat)(tm:List (AV K))(n:Nat)(op:Op):Nat:=w9 (bs.getD i 0) 0 ws|||OF tm n op
def qp(cx:Cx K)(ops:List Oper)(bs:List Nat):List Oper->Nat->St K->List Nat->List (Nat×Nat)->List Nat->Option (St K×List Nat)
 |[],_,st,wr,_,_=>some (st,wr)
 |o::r,i,st,wr,ms,ws=>
  if oI st.H.length (eV (fk bs i) ops 0 st.tm)&&(iR (qo bs ws i (eV (fk bs i) ops 0 st.tm) st.H.length o.op) 0 st.H).all (Ob.upto st.H.length)then
   match w8 cx ops (eV (fk bs i) ops 0 st.tm) (iR (qo bs ws i (eV (fk bs i) ops 0 st.tm) st.H.length o.op) 0 st.H) wr o with
   |none=>none
   |some (v,H',c)=>
    if(DR (bs.getD i 0) (oJ cx (eV (fk bs i) ops 0 st.tm) (iR (qo bs ws i (eV (fk bs i) ops 0 st.tm) st.H.length o.op) 0 st.H) o.op) 0 ms&&(oJ cx (eV (fk bs i) ops 0 st.tm) (iR (qo bs ws i (eV (fk bs i) ops 0 st.tm) st.H.length o.op) 0 st.H) o.op).all fun h=> !(qo bs ws i (eV (fk bs i) ops 0 st.tm) st.H.length o.op).testBit h&&decide (h<st.H.length))&&decide (st.H.length<=H'.length)then
     match uK st wr o.dst v (kK (qo bs ws i (eV (fk bs i) ops 0 st.tm) st.H.length o.op) 0 st.H H') (c&&st.ok)with
     |some (st',wr')=>qp cx ops bs r (i+1) st' wr' (ms++[(qo bs ws i (eV (fk bs i) ops 0 st.tm) st.H.length o.op,st.H.length)])
       (ws++[bitsOf (oJ cx (eV (fk bs i) ops 0 st.tm) (iR (qo bs ws i (eV (fk bs i) ops 0 st.tm) st.H.length o.op) 0 st.H) o.op++List.range' st.H.length (H'.length-st.H.length))])
     |none=>none
    else none
  else none
def oK(cx:Cx K)(ops:List Oper)(st:St K):Option (St K):=
 if(ops.all fun o=>nz cx o.op)&&kx ops 0 then match mE cx ops (iH ops []) ops 0 st []with
     |some (st',wr)=>some ⟨ju st'.tm wr,st'.H,st'.ok⟩
     |none=>none
  else if kx ops 0 then match qp cx ops (iH ops []) ops 0 st [] [] []with
   |some (st',wr)=>some ⟨ju st'.tm wr,st'.H,st'.ok⟩
   |none=>none
  else none
def zw(π:List Nat)(n:Nat):Bool:=decide (π.length=n)&&(π.all (fun i=>decide (i<n))&&((List.range n).all (fun i=>π.contains i)&&kG π))
def uM(π:List Nat)(n:Nat)(o:Oper):Oper:=
 {o with after:=(o.after.filter (Region.binds .any)).map (fun e=>{e with on:=(π.idxOf? e.on).getD n}),guard:=o.guard.map fun g=>((π.idxOf? g.1).getD n,g.2)}
def permuted(π:List Nat)(ops:List Oper):List Oper:=π.map fun i=>match ops[i]? with
 |some o=>uM π ops.length o
 |none=>{dst:=none,op:=.move (.const .nilIface),type:=0,pos:= "",after:= #[],guard:=none}
def OG(cx:Cx K)(ops:List Oper)(bs:List Nat):List Nat:=
 match(List.range ops.length).foldl (fun acc i=>match ops[i]? with
  |some o=>if rS cx o.op&&(!nz cx o.op&& !acc.contains i)then acc++((List.range ops.length).filter fun j=>(bs.getD i 0).testBit j&& !acc.contains j)++[i]else acc
  |none=>acc) []with
 |acc=>acc++(List.range ops.length).filter fun j=> !acc.contains j
def zx(cx:Cx K)(ops:List Oper)(π:List Nat)(st:St K):Option (St K):=
 if zw π ops.length then oK cx (permuted π ops) st else none
def Jf(cx:Cx K)(ops:List Oper)(st:St K):Option (St K):=
 if kx ops 0 then match oK cx ops st with
  |some r=>some r
  |none=>zx cx ops (OG cx ops (iH ops [])) st
 else match zx cx ops (List.range ops.length) st with
  |some r=>some r
  |none=>zx cx ops (OG cx ops (iH (permuted (List.range ops.length) ops) [])) st
def iS(cx:Cx K)(ops:List Oper)(draw:Bool)(st:St K):Option (St K):=
 if draw then Jf cx ops st
 else match lC cx ops ops st []with
  |some (st',wr)=>some ⟨ju st'.tm wr,st'.H,st'.ok⟩
  |none=>none
def writes:Code->List Nat
 |.region _ ops _=>ops.toList.filterMap (·.dst)
 |.seq a b=>writes a++writes b
 |.cond _ a b=>writes a++writes b
 |.block _ c=>writes c
 |.loop c=>writes c
 |.scope c=>writes c
 |.rangeFunc _ ps a c=>ps.toList++writes a++writes c
 |_=>[]
def simple(cx:Cx K):Code->Bool
 |.skip=>true
 |.region _ ops _=>ops.toList.all fun o=>jb cx o.op
 |.seq a b=>simple cx a&&simple cx b
 |.cond _ a b=>simple cx a&&simple cx b
 |_=>false
def jw(b:Bool)(wr:List Nat):Nat->List (AV K)->List (AV K)->List (AV K)->List (AV K)
 |n,v::r,x::s,y::t=>(if wr.contains n then merge b x y else v)::jw b wr (n+1) r s t
 |_,_,_,_=>[]
def eG(tm:List (AV K)):List Nat->List (AV K)->List (AV K)
 |d::r,v::s=>eG (tm.set d v) r s
 |_,_=>tm
def keyOf:Code->Nat
 |.region id _ _=>id
 |.seq a _=>keyOf a
 |.cond _ a _=>keyOf a
 |.block _ c=>keyOf c
 |.loop c=>keyOf c
 |_=>0
def inLoop(H:List (Ob K))(vals:List (AV K)):Option (List Nat×List (AV K)×List (Ob K)):=
 if ue H (reach H 64 (bT vals) [])then match OE (reach H 64 (bT vals) []) vals,mr (Dc (reach H 64 (bT vals) [])) ((reach H 64 (bT vals) []).map fun h=>H.getD h .dead)with
  |some kL,some Hi=>some (reach H 64 (bT vals) [],kL,Hi)
  |_,_=>none
 else none
def hZ(m:List Nat)(n k:Nat):List Nat:=m++(List.range (k-m.length)).map (n+·)
def DT(L:bG K)(m:List Nat)(st:St K)(vs:List (AV K))(Ho:List (Ob K)):Option (St K):=
 match adU (hZ m st.H.length Ho.length) vs,mr (uf (hZ m st.H.length Ho.length)) Ho with
 |some vs',some il=>if m.length<=Ho.length then some ⟨eG (List.replicate L.n .any) L.outs vs',jo st.H m (il.take m.length)++il.drop m.length,st.ok⟩else none
 |_,_=>none
def Jg(ops:List Oper):List Nat:=(ops.filterMap fun o=>match guardOf ops o with
 |some (some (g,_))=>some g
 |_=>none).eraseDups
def zy(cx:Cx K)(ops:List Oper)(draw:Bool)(st:St K):List Nat->Option (Bool×St K×St K)
 |[]=>none
 |t::r=>match iS {cx with gs:=[(t,true)]} ops draw st,iS {cx with gs:=[(t,false)]} ops draw st with
  |some s1,some s2=>match s1.tm.getD t .any with
   |.bool b=>some (b,s1,s2)
   |_=>zy cx ops draw st r
  |_,_=>zy cx ops draw st r
inductive ir (K:dh) where
 |no
 |leaf (s:St K)
 |node (b:Bool) (x y:ir K)
 |two (x y:St K)
def ir.go(cx:Cx K):ir K->{R:Type}->(St K->Option R)->Option R
 |.no,_,_=>none
 |.leaf s,_,k=>k s
 |.node b x y,_,k=>cond b (x.go cx k) (y.go cx k)
 |.two x y,_,k=>cx.y6 (k x) (k y)
def uN(cx:Cx K)(ops:List Oper):List Oper->St K->List Nat->St K×List Oper
 |[],st,_=>(st,[])
 |o::r,st,wr=>match uL cx ops st wr o with
  |some (st',wr')=>uN cx ops r st' wr'
  |none=>(st,o::r)
def DU(cx:Cx K)(st:St K):List Nat->Option (Nat×Bool)
 |[]=>none
 |t::r=>match known cx t with
  |some _=>DU cx st r
  |none=>match st.tm[t]? with
   |some (.bool b)=>some (t,b)
   |_=>DU cx st r
def OH(st:St K):List Oper->Bool
 |[]=>false
 |o::_=>match o.op with
  |.nilCheck (.tmp t)=>match st.tm[t]? with
    |some .dA=>true
    |some (.opt _ _ .dA)=>true
    |_=>false
  |_=>false
def zz(cx:Cx K)(ops:List Oper)(draw:Bool)(st:St K):Nat->List (Nat×Bool)->Option (ir K)
 |0,_=>none
 |n+1,gs=>match iS {cx with gs:=gs} ops draw st with
  |some s=>some (.leaf s)
  |none=>match iS {cx with call:=cx.alt true,mode:=cx.qn true,gs:=gs} ops draw st,iS {cx with call:=cx.alt false,mode:=cx.qn false,gs:=gs} ops draw st with
   |some s1,some s2=>some (.two s1 s2)
   |_,_=>match DU {cx with gs:=gs} (uN {cx with gs:=gs} ops ops st []).1 (Jg ops)with
    |some (t,b)=>match zz cx ops draw st n ((t,true)::gs),zz cx ops draw st n ((t,false)::gs)with
     |some x,some y=>some (.node b x y)
     |_,_=>none
    |none=>if OH (uN {cx with gs:=gs} ops ops st []).1 (uN {cx with gs:=gs} ops ops st []).2 then some .no else none
def zA(cx:Cx K)(ops:List Oper)(draw:Bool)(st:St K):Nat->List (Nat×Bool)->Option (ir K)
 |0,_=>none
 |n+1,gs=>match iS {cx with gs:=gs} ops draw st with
  |some s=>some (.leaf s)
  |none=>match DU {cx with gs:=gs} (uN {cx with gs:=gs} ops ops st []).1 (Jg ops)with
   |some (t,b)=>match zA cx ops draw st n ((t,true)::gs),zA cx ops draw st n ((t,false)::gs)with
    |some x,some y=>some (.node b x y)
    |_,_=>none
   |none=>if OH (uN {cx with gs:=gs} ops ops st []).1 (uN {cx with gs:=gs} ops ops st []).2 then some .no else none
def ir.DV:ir K->{R:Type}->(St K->Option R)->Option R
 |.leaf s,_,k=>k s
 |.node b x y,_,k=>cond b (x.DV k) (y.DV k)
 |_,_,_=>none
def xa:Ex->St K->Option (St K)
 |.normal,st=>some st
 |_,_=>none
def gw(cx:Cx K):Code->{R:Type}->St K->(Ex->St K->Option R)->Option R
 |.skip,_,st,k=>k .normal st
 |.region _ ops draw,_,st,k=>match iS cx ops.toList draw st with
   |some st'=>k .normal st'
   |none=>match zy cx ops.toList draw st (Jg ops.toList)with
    |some (b,s1,s2)=>cond b (k .normal s1) (k .normal s2)
    |none=>if(ops.toList.all fun o=>jb cx o.op)=true then match zA cx ops.toList draw st 4 []with
      |some T=>T.DV (k .normal)
      |none=>none
     else match iS {cx with call:=cx.alt true,mode:=cx.qn true} ops.toList draw st,iS {cx with call:=cx.alt false,mode:=cx.qn false} ops.toList draw st with
     |some s1,some s2=>cx.y6 (k .normal s1) (k .normal s2)
     |_,_=>match zz cx ops.toList draw st 4 []with
      |some T=>T.go cx (k .normal)
      |none=>none
 |.seq a b,_,st,k=>gw cx a st fun e s=>match e with
   |.normal=>gw cx b s k
   |e=>k e s
 |.cond c a b,_,st,k=>match dT st.tm [] c with
   |.bool t=>if simple cx a&&simple cx b then
       match gw cx a st xa,gw cx b st xa with
       |some sa,some sb=>k .normal ⟨jw t (writes a++writes b) 0 st.tm sa.tm sb.tm,st.H,(sa.ok|| !t)&&(sb.ok||t)⟩
       |_,_=>none
     else cond t (gw cx a st k) (gw cx b st k)
   |_=>none
 |.block id c,_,st,k=>gw cx c st fun e s=>match e with
   |.exit i=>if i=id then k .normal s else k (.exit i) s
   |e=>k e s
 |.loop c,_,st,k=>match cx.loop (keyOf c)with
   |some L=>if st.tm.length=L.n then match inLoop st.H (L.ins.map fun t=>st.tm.getD t .any)with
     |some (m,vals,Hi)=>L.run vals Hi fun e vs Ho=>match DT L m st vs Ho with
      |some st'=>k e st'
      |none=>none
     |none=>none else none
   |none=>none
 |.exit id,_,st,k=>k (.exit id) st
 |.ret,_,st,k=>k .ret st
 |_,_,_,_=>none
def rT(cx:Cx K)(st:St K):List ResultVar->Option (List (AV K))
 |[]=>some []
 |.tmp t::r=>match rT cx st r with
   |some l=>some (st.tm.getD t .any::l)
   |none=>none
 |.cell a t::r=>match DN cx.P cx.D st.H t (st.tm.getD a .any),rT cx st r with
   |some v,some l=>some (v::l)
   |_,_=>none
def resV(cx:Cx K)(fn:Func)(st:St K):Option (AV K):=
 match rT cx st fn.results.toList with
 |some [v]=>some (eE st.H v)
 |some l=>some (.bD (oG st.H l))
 |none=>none
def uO{α β:Type}(f:α->Option β):List α->Option (List β)
 |[]=>some []
 |x::r=>match f x,uO f r with
  |some y,some l=>some (y::l)
  |_,_=>none
def rU(src:List (Option Nat))(h:Nat):Option Nat:=src.idxOf? (some h)
def rV(n0 n:Nat):Nat->List (Option Nat)->Bool
 |_,[]=>true
 |i,none::r=>decide (i<n0)&&rV n0 n (i+1) r
 |i,some h::r=>decide (h<n)&&((decide (n0<=i)||decide (h=i))&&(!r.contains (some h)&&rV n0 n (i+1) r))
def uP(src:List (Option Nat))(H:List (Ob K)):Option Nat->Option (Ob K)
 |none=>some .dead
 |some h=>match H[h]? with
  |some o=>kB (rU src) o
  |none=>none
def qq(n0:Nat)(src:List (Option Nat))(keep:List Nat)(st:St K):Option (St K):=
 if rV n0 st.H.length 0 src&&decide (n0<=src.length)then
  match jm (rU src) (keep.map fun t=>st.tm.getD t .any),uO (uP src st.H) src with
  |some vs,some H=>some ⟨eG (List.replicate st.tm.length .any) keep vs,H,st.ok⟩
  |_,_=>none
 else none
def uQ(n0:Nat)(keep:List Nat)(st:St K):Option (St K):=
 qq n0 ((reach st.H 64 (List.range n0++bT (keep.map fun t=>st.tm.getD t .any)) []).map some) keep st
def rW(cx:Cx K)(s:St K):Option (Bool×St K):=match Jc s.H with
 |none=>some (true,s)
 |some _=>match shut cx.D s.H with
  |some (H',b,_)=>some (b,⟨s.tm,H',s.ok⟩)
  |none=>none
def DW(cx:Cx K)(n0:Nat)(keep outs:List Nat)(body:Code)(st:St K):Option (St K⊕Ex×St K):=
 gw cx body st fun e s=>cond s.ok (match e with
  |.normal=>match rW cx s with
    |some (b,s1)=>cond b (match uQ n0 keep s1 with
     |some s'=>some (.inl s')
     |none=>none) none
    |none=>none
  |e=>match rW cx s with
   |some (b,s1)=>cond b (match uQ n0 outs s1 with
    |some s'=>some (.inr (e,s'))
    |none=>none) none
   |none=>none) none
def Jh(n0:Nat)(src:List (Option Nat))(v:AV K)(H:List (Ob K)):Option (AV K×List (Ob K)):=
 if rV n0 H.length 0 src&&decide (n0<=src.length)then
  match fP (rU src) v,uO (uP src H) src with
  |some v',some H'=>some (v',H')
  |_,_=>none
 else none
def pack(n0:Nat)(v:AV K)(H:List (Ob K)):Option (AV K×List (Ob K)):=
 Jh n0 ((reach H 64 (List.range n0++hands v) []).map some) v H
def Ji(H:List (Ob K))(h:Nat):Bool:=match H[h]? with
 |some (.arr ..)=>false
 |some (.gU ..)=>false
 |some (.tree ..)=>false
 |_=>true
def adX(n0:Nat)(v:AV K)(H:List (Ob K)):List (Option Nat):=
 ((List.range n0).map fun h=>cond (Ji H h) (some h) none)++((reach H 64 ((List.range n0).filter (Ji H)++hands v) []).filter fun h=> !(decide (h<n0)&&Ji H h)).map some
def DX(mv:Bool)(n0:Nat)(v:AV K)(H:List (Ob K)):Option (AV K×List (Ob K)):=
 Jh n0 (cond mv (adX n0 v H) ((reach H 64 (List.range n0++hands v) []).map some)) v H
def adY(cx:Cx K)(fn:Func)(n0:Nat)(e:Ex)(st:St K):Option (AV K×List (Ob K)):=
 match e with
 |.exit _=>none
 |_=>match resV cx fn st with
  |some v=>cond st.ok (pack n0 v st.H) none
  |none=>none
def asI(cx:Cx K)(fn:Func)(args:List (AV K))(H:List (Ob K)):Option (AV K×List (Ob K)):=
 match fn.body with
 |some c=>gw cx c ⟨args++List.replicate (fn.ntmps-args.length) .any,H,true⟩ (adY cx fn H.length)
 |none=>none
end Go.V
