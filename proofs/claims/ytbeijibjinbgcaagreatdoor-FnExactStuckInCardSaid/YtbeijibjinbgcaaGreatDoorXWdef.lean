/-
  A VALUE-LEVEL READING OF THE LOADED CODE: abstract values, objects, operations, and a function 'execC' that runs a body on them. Nothing here speaks of one program: the program is a parameter. The proofs that what it yields is what the machine does are in the texts that follow.
-/
import Derived.WalkKit
import Derived.KernelRfl
import Derived.Orders
universe u v
abbrev av := @Option.some.injEq
theorem bf{α:Type u}{a:α}:(some a).isSome=true:=rfl
abbrev bB := @List.getElem?_eq_some_iff
theorem aQ{α:Type u}{a b:α}:(some a).getD b=a:=rfl
abbrev bc := @Prod.mk.injEq
abbrev bW := @List.getElem?_eq_getElem
abbrev bk := @Bool.and_eq_true
theorem aE{α:Sort u}(a b:α):(bif true then a else b)=a:=rfl
abbrev bC := @decide_eq_true_eq
abbrev cD := @List.getElem?_append_left
abbrev cO := @List.getElem?_append_right
abbrev bn := @Bool.and_self
theorem bV(n:Nat):(n:Int).toNat=n:=rfl
theorem aZ{α:Sort u}(a b:α):(bif false then a else b)=b:=rfl
abbrev cn := @List.getElem_mem
abbrev bJ := @Bool.true_and
abbrev aD := @Bool.and_true
abbrev bF := @if_neg
abbrev cQ := @Bool.true_or
abbrev ca := @List.getElem?_take
abbrev aF := @if_pos
abbrev dj := @decide_eq_false
abbrev cy := @decide_eq_true
abbrev cH := @Nat.le_refl
abbrev bT := @Nat.mul_le_mul_right
abbrev dS := @Option.map_eq_some_iff
theorem cr{α:Type u}{a:α}{as:List α}:(a::as).length=as.length+1:=rfl
abbrev cY := @List.getD_eq_getElem?_getD
abbrev cI := @decide_true
abbrev dY := @Int.ofNat_lt
abbrev dA := @List.length_append
abbrev fY := @Nat.lt_or_ge
abbrev ed := @beq_eq_false_iff_ne
abbrev dW := @List.all_eq_true
abbrev dC := @List.getElem?_drop
abbrev fR := @List.mem_append
abbrev dR := @List.getElem?_replicate
abbrev cP := @decide_eq_decide
abbrev dh := @Nat.add_mul
abbrev eQ := @Bool.not_eq_true'
abbrev fN := @List.mem_of_getElem?
abbrev ja := @List.eq_nil_of_length_eq_zero
abbrev iO := @List.getElem?_set
abbrev dG := @Bool.not_true
abbrev iP := @Array.getElem?_eq_some_iff
abbrev fO := @decide_eq_false_iff_not
abbrev dJ := @Nat.zero_le
abbrev f0 := @List.length_set
abbrev kW := @Nat.zero_add
abbrev fG := @List.getElem?_map
abbrev iD := @Array.getD_eq_getD_getElem?
abbrev mm := @Option.some.inj
abbrev dV := @List.getElem?_eq_none
abbrev ee := @Bool.false_eq_true
abbrev fi := @Array.getElem?_setIfInBounds
abbrev fH := @Nat.one_mul
abbrev jw := @Bool.false_or
abbrev fA := @Bool.not_false
abbrev fc := @List.length_replicate
abbrev gC := @List.mem_cons
abbrev gJ := @Nat.eq_zero_or_pos
abbrev fh := @Nat.le_trans
abbrev jf := @Bool.or_true
abbrev fU := @Bool.or_eq_true
abbrev ej := @Bool.or_false
abbrev gj := @List.map_cons
abbrev jc := @beq_iff_eq
abbrev iy := @List.drop_zero
abbrev jY := @List.length_take
abbrev lx := @Nat.not_lt_zero
abbrev kK := @List.ext_getElem?
abbrev ik := @Nat.lt_of_lt_of_le
abbrev jx := @List.getElem_of_mem
abbrev jH := @Nat.add_assoc
theorem hU{α:Type u}:([]:List α).length=0:=rfl
abbrev kB := @Bool.or_self
abbrev eu := @Bool.eq_iff_iff
abbrev jC := @List.drop_length
abbrev i9 := @if_false
abbrev lu := @Bool.false_and
abbrev lB := @List.size_toArray
abbrev rX := @Array.getElem?_eq_none
abbrev dZ := @if_true
abbrev hQ := @decide_not
abbrev vR := @Array.getElem?_eq_getElem
abbrev tI := @List.pairwise_iff_getElem
abbrev qu := @Bool.or_eq_false_iff
abbrev qi := @Array.replicate_succ
abbrev tN := @List.not_all_eq_any_not
abbrev fF := @congrArg
abbrev nX := @List.append_assoc
abbrev qk := @List.append_toArray
abbrev vP := @List.take_of_length_le
theorem kz{α:Type u}(as:List α):[]++as=as:=rfl
abbrev qR := @List.mem_singleton
abbrev r6 := @Bool.false_ne_true
abbrev mK := @List.mem_range
abbrev vX := @List.contains_eq_mem
abbrev tQ := @List.mem_cons_of_mem
abbrev qj := @List.push_toArray
abbrev qH := @Bool.not_eq_true
abbrev CH := @List.take_append_of_le_length
abbrev yC := @Nat.eq_of_beq_eq_true
abbrev tg := @Bool.eq_false_iff
abbrev nw := @Nat.mul_one
abbrev nR := @Nat.zero_mul
abbrev CJ := @Array.getElem?_replicate
abbrev sQ := @List.append_nil
abbrev uy := @List.nodup_cons
abbrev j8 := @or_false
abbrev wB := @Nat.testBit_or
abbrev rh := @Nat.sub_self
abbrev qO := @Nat.mul_comm
abbrev r7 := @getElem!_pos
abbrev xc := @Iff.rfl
theorem jL{α:Type u}{β:Type v}(a:α)(f:α->β):Option.map f (some a)=some (f a):=rfl
abbrev kV := @List.mem_map
theorem sZ{α:Type u}{a:α}{as bs:List α}:(a::as)++bs=a::(as++bs):=rfl
theorem mD{α:Type u}{a:α}{l:List α}{f:α->Bool}:(a::l).all f=(f a&&l.all f):=rfl
abbrev jG := @List.take_add_one
abbrev yO := @Int.eq_ofNat_of_zero_le
abbrev mn := @List.take_length
abbrev xh := @beq_self_eq_true
abbrev D4 := @Nat.add_comm
abbrev DC := @Ne.symm
abbrev HO := @decide_false
abbrev lD := @List.mem_cons_self
abbrev DF := @of_decide_eq_true
abbrev Ee := @not_or
abbrev HY := @List.length_map
abbrev LW := @List.drop_drop
namespace Go.V
open Go
structure cA where
 U:Type
 El:U->Type
 ig:DecidableEq U
 sz:U->Nat
 zero:(c:U)->El c
inductive AV (K:cA) where
 |any
 |int (k:IntKind) (n:Int)
 |bool (b:Bool)
 |str (s:List UInt8)
 |cG
 |cF
 |fn (f:Nat) (caps:List (AV K))
 |ptr (h off:Nat)
 |sl (h:Nat)
 |ep (h st i off:Nat)
 |ah (c:K.U) (l:List (K.El c))
 |rp (c:K.U) (x:K.El c) (off:Nat)
 |agg (l:List (AV K))
 |bu (l:List (AV K))
 |opt (g:Nat) (want:Bool) (v:AV K)
 |np (h:Nat)
 |vw (h st lo hi:Nat)
inductive Ob (K:cA) where
 |dead
 |box (cells:List (AV K))
 |arr (c:K.U) (l:List (K.El c))
 |fg (c:K.U) (l:List (K.El c))
 |tree (c:K.U) (l:List (K.El c))
 |opn (c:K.U) (l:List (K.El c)) (i off:Nat) (cs:List (AV K))
structure Base where
 inv:(Nat->Prop)->World->Prop
 mono:∀{S S':Nat->Prop}{w w':World},(∀b,S b->S' b)->(∀b,S b->w'.heap[b]?=w.heap[b]?)->inv S w->inv S' w'
def Base.Vk:Base:=⟨fun _ _=>True,fun _ _ h=>h⟩
structure bj (K:cA) where
 cells:(c:K.U)->K.El c->List (AV K)
 dec:(c:K.U)->List (AV K)->Option (K.El c×Bool)
 byte:(c:K.U)->Option ((K.El c->UInt8)×(UInt8->K.El c))
 find:List (AV K)->Option K.U
 base:Base:=Base.Vk
 ny:Option TypeId:=none
 km:K.U->Option TypeId:=fun _=>none
variable {K :cA}
def AV.bp:AV K->List (AV K)
 |.agg l=>l
 |v=>[v]
def AV.known:AV K->Bool
 |.any|.opt ..=>false
 |_=>true
def AV.gY:AV K->Bool
 |.opt ..=>true
 |_=>false
def AV.one:AV K->Bool
 |.any|.opt .. |.agg _|.bu _|.vw ..=>false
 |_=>true
structure St (K:cA) where
 tm:List (AV K)
 H:List (Ob K)
 ok:Bool
inductive Ex where
 |normal
 |exit (id:Nat)
 |ret
def Ex.k9:Ex->Exit
 |.normal=>.normal
 |.exit id=>.exit id
 |.ret=>.ret
structure bD (K:cA) where
 n:Nat
 ins:List Nat
 outs:List Nat
 run:{R:Type}->List (AV K)->List (Ob K)->(Ex->List (AV K)->List (Ob K)->Option R)->Option R
inductive Mode where
 |plain|gV|gU|pass|cL|fresh
 deriving DecidableEq
def rZ{R:Type}(a b:Option R):Option R:=match a with
 |none=>b
 |some r=>some r
theorem VH{R:Type}{a b:Option R}{r:R}(h:rZ a b=some r):a=some r\/b=some r:=by
 cases a with
 |none=>exact .inr h
 |some x=>exact .inl h
structure Cx (K:cA) where
 P:Program
 D:bj K
 ty:TypeId->Option K.U
 call:FuncId->List (AV K)->List (Ob K)->Option (AV K×List (Ob K)×Bool)
 mode:FuncId->Mode
 loop:Nat->Option (bD K)
 kd:TypeId->List (Option K.U)
 cut:Bool:=false
 d5:List (List (Option K.U)):=[]
 VI:List Bool:=[]
 mv:Bool:=false
 deep:K.U->Bool:=fun _=>false
 opn:Bool:=false
 Ta:Bool:=false
 vtl:Bool:=false
 lz:Bool:=false
 alt:Bool->FuncId->List (AV K)->List (Ob K)->Option (AV K×List (Ob K)×Bool):=fun _ _ _ _=>none
 nF:Bool->FuncId->Mode:=fun _=>mode
 vY:{R:Type}->Option R->Option R->Option R:=fun a b=>rZ a b
 gs:List (Nat×Bool):=[]
def known(cx:Cx K)(g:Nat):Option Bool:=(cx.gs.find? fun p=>p.1==g).map (·.2)
mutual
def jM:Value->Option (AV K)
 |.bool b=>some (.bool b)
 |.int k n=>some (.int k n)
 |.string s=>some (.str s.data.toList)
 |.pointer none=>some .cG
 |.slice none 0 0=>some .cF
 |.agg cs=>(yP cs.toList).map .agg
 |_=>none
def yP:List Value->Option (List (AV K))
 |[]=>some []
 |v::r=>match jM v,yP r with
  |some x,some l=>some (x::l)
  |_,_=>none
end
def covers(tm:List (AV K)):Nat->Nat×Bool->Nat×Bool->Bool
 |0,g,t=>g.1==t.1&&g.2==t.2
 |n+1,g,t=>(g.1==t.1&&g.2==t.2)||(match tm[g.1]? with
  |some (.opt g1 w1 _)=>covers tm n (g1,w1) t
  |_=>false)
def cX(tm:List (AV K))(gs:List (Nat×Bool)):Operand->AV K
 |.tmp t=>match tm[t]? with
   |some (.opt g w v)=>if gs.any (fun p=>covers tm 6 p (g,w))then v else .any
   |some v=>v
   |none=>.any
 |.const v=>(jM v).getD .any
 |.global _=>.any
 |.func f=>.fn f []
def vS(tm:List (AV K)):Nat->Nat×Bool->Option Bool
 |0,_=>none
 |n+1,(g,w)=>match tm[g]? with
  |some (.bool b)=>some (b==w)
  |some (.opt g1 w1 (.bool b))=>(vS tm n (g1,w1)).map fun e=>e&&(b==w)
  |_=>none
mutual
def merge(b:Bool):AV K->AV K->AV K
 |.int k m,.int k' n=>if k=k' then .int k (cond b m n)else .any
 |.bool m,.bool n=>.bool (cond b m n)
 |.str m,.str n=>.str (cond b m n)
 |.ah c l,.ah c' l'=>match K.ig c c' with
   |.isTrue h=>.ah c' (cond b (h ▸ l) l')
   |.isFalse _=>.any
 |.agg l,.agg l'=>if l.length=l'.length then .agg (merges b l l')else .any
 |.cF,.cF=>.cF
 |.cG,.cG=>.cG
 |_,_=>.any
def merges(b:Bool):List (AV K)->List (AV K)->List (AV K)
 |x::r,y::s=>merge b x y::merges b r s
 |_,_=>[]
end
def gp(op:BinOp)(k:IntKind)(x y:Int):Int:=
 let a:=BitVec.ofInt k.bits x
 let b:=BitVec.ofInt k.bits y
 k.wrap ((match op with
   |.and=>(a&&& b)|.or=>(a|||b)|.xor=>(a^^^b)|_=>(a&&& ~~~b)).toNat)
def mY(k:IntKind)(x y:Int):Int:=k.wrap (x*2^(min y.toNat k.bits))
def jg(k:IntKind)(x y:Int):Int:=x.fdiv (2^(min y.toNat k.bits))
def VJ(a b:List UInt8):Bool:=decide (a.length+b.length<=4611686018427387904)
def yQ(a b:List UInt8):Bool:=Op.bytesLess a b
def II(op:BinOp)(k:IntKind)(a b:Int):Option (AV K×Bool):=
 match op with
 |.add=>some (.int k (k.wrap (a+b)),true)
 |.sub=>some (.int k (k.wrap (a-b)),true)
 |.mul=>some (.int k (k.wrap (a*b)),true)
 |.quo=>some (.int k (k.wrap (a.tdiv b)),b !=0)
 |.rem=>some (.int k (a.tmod b),b !=0)
 |.and|.or|.xor|.andNot=>some (.int k (gp op k a b),true)
 |.eql=>some (.bool (a==b),true)
 |.neq=>some (.bool (a !=b),true)
 |.lss=>some (.bool (decide (a<b)),true)
 |.leq=>some (.bool (decide (a<=b)),true)
 |.gtr=>some (.bool (decide (b<a)),true)
 |.geq=>some (.bool (decide (b<=a)),true)
 |.shl|.shr=>none
def IJ(op:BinOp)(a b:List UInt8):Option (AV K×Bool):=
 match op with
 |.add=>some (.str (a++b),VJ a b)
 |.eql=>some (.bool (a==b),true)
 |.neq=>some (.bool (!(a==b)),true)
 |.lss=>some (.bool (yQ a b),true)
 |.leq=>some (.bool (yQ a b||a==b),true)
 |.gtr=>some (.bool (!(yQ a b||a==b)),true)
 |.geq=>some (.bool (!yQ a b),true)
 |_=>none
def VK(P:Program)(t:TypeId):Bool:=P.underlying t matches some .string
def IK(P:Program)(t:TypeId):Bool:=P.underlying t matches some .bool
def IL(op:UnOp):AV K->Option (AV K×Bool)
 |.bool b=>match op with
   |.not=>some (.bool (!b),true)
   |_=>none
 |.int k n=>match op with
   |.neg=>some (.int k (k.wrap (0-n)),true)
   |.xor=>some (.int k (gp .xor k (if k.signed then -1 else k.max) n),true)
   |_=>none
 |_=>none
def cM(P:Program)(t:TypeId):Option Nat:=(P.info? t).map (·.size)
def CL(P:Program)(t:TypeId):Option Bool:=
 match P.underlying t with
 |some (.struct _)|some (.array _ _)=>some true
 |some _=>some false
 |none=>none
def VL(P:Program)(t:TypeId)(f:Nat):Option Field:=
 match P.underlying t with
 |some (.struct fs)=>fs[f]?
 |_=>none
def elemOf?(P:Program)(t:TypeId):Option TypeId:=
 match P.underlying t with
 |some (.slice e)=>some e
 |_=>none
def zeroOf(P:Program)(t:TypeId):Option (AV K):=
 match P.info? t with
 |some i=>match i.zero with
  |some v=>jM v
  |none=>none
 |none=>none
def wu(P:Program)(t:TypeId):Option IntKind:=
 match P.underlying t with
 |some (.int k)=>some k
 |_=>none
def jS(P:Program)(t:TypeId)(cs:List (AV K))(off:Nat):Option (AV K):=
 match CL P t,cM P t with
 |some true,some n=>if off+n<=cs.length then some (.agg ((cs.drop off).take n))else none
 |some false,some _=>cs[off]?
 |_,_=>none
def yR(P:Program)(rec:TypeId->AV K->AV K->Option Bool)(xs ys:List (AV K)):List Field->Option Bool
 |[]=>some true
 |f::fs=>if f.name= "_" then none else
  match jS P f.type xs f.offset,jS P f.type ys f.offset with
  |some a,some b=>match rec f.type a b,yR P rec xs ys fs with
   |some p,some q=>some (p&&q)
   |_,_=>none
  |_,_=>none
def wC(P:Program):Nat->TypeId->AV K->AV K->Option Bool
 |0,_,_,_=>none
 |n+1,t,.int k a,.int k' b=>if k=k' then(match P.underlying t with
  |some (.int _)=>some (a==b)
  |_=>none)else none
 |n+1,t,.bool a,.bool b=>(match P.underlying t with
  |some .bool=>some (a==b)
  |_=>none)
 |n+1,t,.str a,.str b=>(match P.underlying t with
  |some .string=>some (a==b)
  |_=>none)
 |n+1,t,.agg xs,.agg ys=>(match P.underlying t with
  |some (.struct fs)=>if P.stoodInHeld t then none else yR P (wC P n) xs ys fs.toList
  |_=>none)
 |_+1,_,_,_=>none
def IM(P:Program)(t:TypeId):Bool:=P.underlying t matches some (.pointer _)
def wE(P:Program)(op:BinOp)(t:TypeId)(e:Bool):Option (AV K×Bool):=if IM P t then(match op with
 |.eql=>some (.bool e,true)
 |.neq=>some (.bool (!e),true)
 |_=>none)else none
def IN(P:Program)(op:BinOp)(t:TypeId):AV K->AV K->Option (AV K×Bool)
 |.int k a,.int k' b=>match op with
   |.shl=>some (.int k (mY k a b),decide (0<=b))
   |.shr=>some (.int k (jg k a b),decide (0<=b))
   |_=>if k=k' then II op k a b else none
 |.bool a,.bool b=>if IK P t then(match op with
   |.eql=>some (.bool (a==b),true)
   |.neq=>some (.bool (!(a==b)),true)
   |_=>none)else none
 |.str a,.str b=>IJ op a b
 |.agg a,.agg b=>match op with
   |.eql=>if P.eqGuardType P.depth t then none else(wC P 6 t (.agg a) (.agg b)).map fun e=>(.bool e,true)
   |.neq=>if P.eqGuardType P.depth t then none else(wC P 6 t (.agg a) (.agg b)).map fun e=>(.bool (!e),true)
   |_=>none
 |.cG,.cG=>wE P op t true
 |.ptr _ _,.cG=>wE P op t false
 |.rp _ _ _,.cG=>wE P op t false
 |.ep _ _ _ _,.cG=>wE P op t false
 |_,_=>none
def inB(n:Int)(len:Nat):Bool:=decide (0<=n)&&decide (n<len)
def cC(lo hi:Int)(len:Nat):Bool:=decide (0<=lo)&&(decide (lo<=hi)&&decide (hi<=len))
mutual
def AV.closed:AV K->Bool
 |.int .. |.bool _|.str _|.cG|.cF|.ah .. |.rp .. |.any=>true
 |.ptr .. |.sl _|.ep .. |.opt .. |.np _|.vw ..=>false
 |.fn _ l|.agg l|.bu l=>fl l
def fl:List (AV K)->Bool
 |[]=>true
 |v::r=>v.closed&&fl r
end
def sc(H:List (Ob K)):AV K->AV K
 |.sl h=>match H[h]? with
   |some (.arr c l)=>.ah c l
   |some (.fg c l)=>.ah c l
   |some (.tree c l)=>.ah c l
   |_=>.any
 |v=>v
mutual
def gV(D:bj K)(H:List (Ob K)):AV K->AV K
 |.sl h=>match H[h]? with
   |some (.arr c l)=>.ah c l
   |some (.fg c l)=>.ah c l
   |some (.tree c l)=>.ah c l
   |_=>.any
 |.ptr h off=>match H[h]? with
   |some (.box cs)=>match D.find (cs.map (sc H))with
    |some c=>match D.dec c (cs.map (sc H))with
     |some (x,true)=>.rp c x off
     |_=>.any
    |none=>.any
   |_=>.any
 |.vw h st lo hi=>match H[h]? with
   |some (.arr c l)=>if st=K.sz c then .ah c ((l.take hi).drop lo)else .any
   |some (.tree c l)=>if st=K.sz c then .ah c ((l.take hi).drop lo)else .any
   |_=>.any
 |.fn g l=>.fn g (jN D H l)
 |.agg l=>.agg (jN D H l)
 |.bu l=>.bu (jN D H l)
 |v=>v
def jN(D:bj K)(H:List (Ob K)):List (AV K)->List (AV K)
 |[]=>[]
 |v::r=>gV D H v::jN D H r
end
def elems(H:List (Ob K))(c:K.U):AV K->Option (List (K.El c))
 |.cF=>some []
 |.ah c' l=>match K.ig c' c with
   |.isTrue h=>some (h ▸ l)
   |.isFalse _=>none
 |.sl h=>match H[h]? with
   |some (.arr c' l)=>match K.ig c' c with
    |.isTrue h=>some (h ▸ l)
    |.isFalse _=>none
   |_=>none
 |_=>none
def setCells(cs:List (AV K))(off:Nat):List (AV K)->List (AV K)
 |[]=>cs
 |v::r=>setCells (cs.set off v) (off+1) r
mutual
def hands:AV K->List Nat
 |.ptr h _|.sl h|.ep h _ _ _|.np h|.vw h _ _ _=>[h]
 |.agg l|.bu l|.fn _ l=>bq l
 |_=>[]
def bq:List (AV K)->List Nat
 |[]=>[]
 |v::r=>hands v++bq r
end
def su(H:List (Ob K))(h:Nat):List (Ob K):=
 match H[h]? with
 |some (.arr c l)=>H.set h (.fg c l)
 |some (.tree c l)=>H.set h (.fg c l)
 |_=>H
def gz(H:List (Ob K)):List Nat->List (Ob K)
 |[]=>H
 |h::r=>gz (su H h) r
mutual
def dr(H:List (Ob K)):AV K->AV K
 |.sl h=>match H[h]? with
   |some (.fg c l)=>.ah c l
   |_=>.sl h
 |.vw h st lo hi=>match H[h]? with
   |some (.fg c l)=>if st=K.sz c then .ah c ((l.take hi).drop lo)else .vw h st lo hi
   |_=>.vw h st lo hi
 |.agg l=>.agg (mo H l)
 |.bu l=>.bu (mo H l)
 |v=>v
def mo(H:List (Ob K)):List (AV K)->List (AV K)
 |[]=>[]
 |v::r=>dr H v::mo H r
end
def thaw(dp:K.U->Bool)(H:List (Ob K)):List (Option K.U)->List (AV K)->List (AV K)×List (Ob K)
 |some c::cs,.cF::r=>match thaw dp (H++[cond (dp c) (.tree c []) (.arr c [])]) cs r with
  |(l,H')=>(.sl H.length::l,H')
 |_::cs,v::r=>match thaw dp H cs r with
  |(l,H')=>(v::l,H')
 |[],l=>(l,H)
 |_,[]=>([],H)
def eg(dp:K.U->Bool)(H:List (Ob K)):List (List (Option K.U))->List (AV K)->List (AV K)×List (Ob K)
 |cs::css,.agg l::r=>match thaw dp H cs l with
  |(l',H1)=>match eg dp H1 css r with
   |(s,H2)=>(.agg l'::s,H2)
 |cs::css,v::r=>match thaw dp H cs [v]with
  |(l',H1)=>match eg dp H1 css r with
   |(s,H2)=>(l'.headD v::s,H2)
 |[],l=>(l,H)
 |_,[]=>([],H)
def jm:List (AV K)->Bool
 |.np _::_=>true
 |_=>false
def yS(b:Bool)(h:Nat):List (AV K)->List (AV K)
 |.cG::r=>cond b (.np h) .cG::r
 |l=>l
mutual
def ga:AV K->Bool
 |.ah .. |.rp ..=>true
 |.agg l|.bu l|.fn _ l=>dn l
 |_=>false
def dn:List (AV K)->Bool
 |[]=>false
 |v::r=>ga v||dn r
end
def CM(P:Program)(D:bj K)(H:List (Ob K))(t:TypeId):AV K->Option (AV K)
 |.ptr h off=>match H[h]? with
   |some (.box cs)=>jS P t cs off
   |_=>none
 |.rp c x off=>jS P t (D.cells c x) off
 |.ep h st i off=>match H[h]? with
   |some (.arr c l)=>if st=K.sz c then jS P t (D.cells c (l.getD i (K.zero c))) off else none
   |some (.tree c l)=>if st=K.sz c then(match jS P t (D.cells c (l.getD i (K.zero c))) off with
     |some v=>if ga v then none else some v
     |none=>none)else none
   |_=>none
 |_=>none
def IP(P:Program)(H:List (Ob K))(t:TypeId):AV K->Option (AV K×Bool)
 |.ep h st i off=>match H[h]? with
   |some (.opn c l i' off' cs)=>if st=K.sz c/\off'<=off then(match jS P t (List.replicate off' .any++cs) off with
    |some v=>some (v,decide (i=i'))
    |none=>none)else none
   |_=>none
 |_=>none
def IQ(P:Program)(s:TypeId)(f:Nat)(x:AV K):Option (AV K):=
 match VL P s f with
 |some fd=>match cM P fd.type with
  |some (_+1)=>match x with
   |.ptr h off=>some (.ptr h (off+fd.offset))
   |.rp c x off=>some (.rp c x (off+fd.offset))
   |.ep h st i off=>some (.ep h st i (off+fd.offset))
   |_=>none
  |_=>none
 |none=>none
def IS(P:Program)(H:List (Ob K))(t:TypeId)(x i:AV K):Option (AV K×Bool):=
 match elemOf? P t,i with
 |some e,.int _ n=>match x with
  |.ah c l=>if cM P e=some (K.sz c)then some (.rp c (l.getD n.toNat (K.zero c)) 0,inB n l.length)else none
  |.sl h=>match H[h]? with
    |some (.arr c l)=>if cM P e=some (K.sz c)then some (.ep h (K.sz c) n.toNat 0,inB n l.length)else none
    |some (.tree c l)=>if cM P e=some (K.sz c)then some (.ep h (K.sz c) n.toNat 0,inB n l.length)else none
    |_=>none
  |_=>none
 |_,_=>none
def ip(d:Int):Option (AV K)->Option Int
 |none=>some d
 |some (.int _ n)=>some n
 |some _=>none
def IT(P:Program)(t:TypeId)(x:AV K)(lo hi:Option (AV K)):Option (AV K×Bool):=
 match P.underlying t,x with
 |some .string,.str s=>match ip 0 lo,ip s.length hi with
  |some l,some h=>some (.str ((s.take h.toNat).drop l.toNat),cC l h s.length)
  |_,_=>none
 |some (.slice e),.ah c s=>if cM P e=some (K.sz c)then match ip 0 lo,ip s.length hi with
  |some l,some h=>some (.ah c ((s.take h.toNat).drop l.toNat),cC l h s.length)
  |_,_=>none else none
 |_,_=>none
def IU(P:Program)(H:List (Ob K))(t:TypeId)(x:AV K)(lo hi:Option (AV K)):Option (AV K×Bool):=
 match elemOf? P t,x with
 |some e,.sl h=>match H[h]? with
  |some (.arr c l)=>if cM P e=some (K.sz c)then match ip 0 lo,ip l.length hi with
   |some a,some b=>some (.vw h (K.sz c) a.toNat b.toNat,cC a b l.length)
   |_,_=>none else none
  |some (.tree c l)=>if cM P e=some (K.sz c)then match ip 0 lo,ip l.length hi with
   |some a,some b=>some (.vw h (K.sz c) a.toNat b.toNat,cC a b l.length)
   |_,_=>none else none
  |_=>none
 |_,_=>none
def sw(cx:Cx K)(ev:Operand->AV K)(H:List (Ob K)):Op->Option (AV K×Bool)
 |.move x|.assign x=>some (ev x,true)
 |.binOp op t x y _=>IN cx.P op t (ev x) (ev y)
 |.unOp op _ x=>IL op (ev x)
 |.convert src dst x=>match cx.P.underlying src,cx.P.underlying dst,ev x with
   |some _,some (.int k),.int _ n=>some (.int k (k.wrap n),true)
   |some _,some .string,.str s=>some (.str s,true)
   |some (.slice e),some .string,x=>match cx.P.underlying e,cx.ty e with
    |some (.int .u8),some c=>match cx.D.byte c,elems H c x with
     |some (f,_),some l=>some (.str (l.map f),true)
     |_,_=>none
    |_,_=>none
   |_,_,_=>none
 |.extract t i=>match ev t with
   |.bu l=>(l[i]?).map fun v=>(v,true)
   |_=>none
 |.fieldAddr s x f=>(IQ cx.P s f (ev x)).map fun v=>(v,true)
 |.load t p=>match CM cx.P cx.D H t (ev p)with
   |some v=>some (v,true)
   |none=>IP cx.P H t (ev p)
 |.indexAddr t x i=>IS cx.P H t (ev x) (ev i)
 |.index t x i=>match cx.P.underlying t,ev x,ev i with
   |some .string,.str s,.int _ n=>some (.int .u8 ((s.getD n.toNat 0).toNat:Int),inB n s.length)
   |_,_,_=>none
 |.slice t x lo hi none=>match IT cx.P t (ev x) (lo.map ev) (hi.map ev)with
   |some r=>some r
   |none=>if cx.Ta&&cond cx.vtl hi.isNone (hi.isSome|| !cx.cut)then IU cx.P H t (ev x) (lo.map ev) (hi.map ev)else none
 |.nilCheck x=>match ev x with
   |.ptr h o=>some (.ptr h o,true)
   |.rp c x o=>some (.rp c x o,true)
   |.ep h s i o=>some (.ep h s i o,true)
   |_=>none
 |.makeFunc (.func f) first caps=>if first.isEmpty then some (.fn f (caps.toList.map ev),true)else none
 |.call {callee:=.builtin .len,args,argTypes}=>match args.toList,argTypes.toList with
   |[x],[t]=>match cx.P.underlying t,ev x with
     |some .string,.str s=>some (.int .i64 (s.length:Int),true)
     |some (.slice _),.cF=>some (.int .i64 0,true)
     |some (.slice _),.ah _ l=>some (.int .i64 (l.length:Int),true)
     |some (.slice _),.vw _ _ a b=>some (.int .i64 ((b-a:Nat):Int),true)
     |some (.slice _),.sl h=>match H[h]? with
      |some (.arr _ l)=>some (.int .i64 (l.length:Int),true)
      |some (.tree _ l)=>some (.int .i64 (l.length:Int),true)
      |_=>none
     |_,_=>none
   |_,_=>none
 |.call {callee:=.builtin .min,args, ..}=>match args.toList with
   |[x,y]=>match ev x,ev y with
     |.int k a,.int k' b=>if k=k' then some (.int k (cond (decide (b<a)) b a),true)else none
     |_,_=>none
   |_=>none
 |.call {callee:=.builtin .max,args, ..}=>match args.toList with
   |[x,y]=>match ev x,ev y with
     |.int k a,.int k' b=>if k=k' then some (.int k (cond (decide (a<b)) b a),true)else none
     |_,_=>none
   |_=>none
 |_=>none
def VM(D:bj K)(c:K.U)(e:TypeId):Bool:=match D.km c with
 |none=>true
 |some t=>t==e
def mq(cx:Cx K)(e:TypeId):Option K.U:=match cx.ty e with
 |some c=>if VM cx.D c e then some c else none
 |none=>none
def room(e:TypeId)(P:Program):Bool:=match P.info? e with
 |some i=>decide (i.bytes<=4096)
 |none=>false
def mj(D:bj K)(c:K.U):List (AV K)->Option (List (K.El c)×Bool)
 |[]=>some ([],true)
 |v::r=>match D.dec c v.bp,mj D c r with
  |some (x,b),some (l,b')=>some (x::l,b&&b')
  |_,_=>none
def inOrder(ev:Operand->AV K):Nat->List (Nat×Operand)->Option (List (AV K))
 |_,[]=>some []
 |n,(i,x)::r=>if i=n then(inOrder ev (n+1) r).map (ev x::·)else none
def placesOf(P:Program)(t:TypeId):Option (List (Nat×Nat)):=
 match P.underlying t with
 |some (.struct fs)=>fs.toList.mapM (fun f=>(P.info? f.type).map fun i=>(f.offset,i.size))
 |_=>none
def wF(places:List (Nat×Nat))(ev:Operand->AV K)(cs:List (AV K)):List (Nat×Operand)->Option (List (AV K))
 |[]=>some cs
 |(i,x)::r=>match places[i]? with
  |some (off,n)=>if(ev x).known=true/\(ev x).bp.length=n/\off+n<=cs.length then wF places ev (setCells cs off (ev x).bp) r else none
  |none=>none
def kY(P:Program)(t:TypeId):Bool:=match P.info? t with
 |some i=>match i.zero with
  |some v=>v.cells.size==i.size
  |none=>false
 |none=>false
def source(D:bj K)(H:List (Ob K))(c:K.U):AV K->Option (List (K.El c))
 |.str s=>match D.byte c with
   |some (_,g)=>some (s.map g)
   |none=>none
 |v=>elems H c v
def CN(cx:Cx K)(H:List (Ob K))(sT:TypeId)(s x:AV K):Option (AV K×List (Ob K)×Bool×List Nat):=
 match elemOf? cx.P sT with
 |none=>none
 |some e=>match mq cx e with
  |none=>none
  |some c=>if cM cx.P e=some (K.sz c)/\room e cx.P=true/\kY cx.P e=true then
    match source cx.D H c x with
    |none=>none
    |some m=>match s with
     |.cF=>some (.sl H.length,H++[.arr c m],decide (m.length<=1073741824),[])
     |.sl h=>match x with
       |.sl h'=>if h=h' then none else match elems H c (.sl h)with
         |some l=>some (.sl H.length,H.set h .dead++[.arr c (l++m)],decide (l.length+m.length<=1073741824),[h])
         |none=>none
       |_=>match elems H c (.sl h)with
        |some l=>some (.sl H.length,H.set h .dead++[.arr c (l++m)],decide (l.length+m.length<=1073741824),[h])
        |none=>none
     |_=>none
   else none
def yT(cx:Cx K)(H:List (Ob K))(sT:TypeId)(s x:AV K):Option (AV K×List (Ob K)×Bool×List Nat):=
 match elemOf? cx.P sT,x with
 |some e,.int _ n=>match mq cx e,(zeroOf cx.P e:Option (AV K))with
  |some c,some z=>if cM cx.P e=some (K.sz c)/\room e cx.P=true/\0<K.sz c/\z.known=true/\z.bp.all AV.one=true then
    match cx.D.dec c z.bp,s with
    |some (y,b),.sl h=>match elems H c (.sl h)with
     |some l=>some (.sl H.length,H.set h .dead++[.arr c (l++List.replicate n.toNat y)],b&&(decide (0<=n)&&decide (l.length+n.toNat<=1073741824)),[h])
     |none=>none
    |_,_=>none
   else none
  |_,_=>none
 |_,_=>none
def jq(ev:Operand->AV K):Op->List Nat
 |.buildSlice _ _ parts=>bq (parts.toList.map fun p=>ev p.2)
 |.store _ p x=>match ev p with
   |.ep ..=>hands (ev x)
   |_=>[]
 |.slice _ x _ _ _=>match ev x with
   |.sl h=>[h]
   |_=>[]
 |_=>[]
def sx(cx:Cx K)(ev:Operand->AV K)(H:List (Ob K)):Op->Option (AV K×List (Ob K)×Bool×List Nat)
 |.box t x=>if(ev x).known then match thaw cx.deep H (cx.kd t) (ev x).bp with
     |(cs,H1)=>if jm cs then none else some (.ptr H1.length 0,H1++[.box cs],true,[])else none
 |.alloc t=>match(zeroOf cx.P t:Option (AV K))with
   |some z=>if z.known then match thaw cx.deep H (cx.kd t) z.bp with
    |(cs,H1)=>if jm cs then none else some (.ptr H1.length 0,H1++[.box (yS (cx.D.ny==some t) H1.length cs)],true,[])else none
   |none=>none
 |.build t parts=>match placesOf cx.P t,(zeroOf cx.P t:Option (AV K))with
   |some ps,some z=>if z.known then(wF ps ev z.bp parts.toList).map fun cs=>(.agg cs,H,true,[])else none
   |_,_=>none
 |.store t p x=>match cM cx.P t with
   |some n=>if(ev x).bp.length=n/\(ev x).bp.all AV.one=true then match ev p with
    |.ptr h off=>match H[h]? with
      |some (.box cs)=>if off+n<=cs.length then match thaw cx.deep H (cx.kd t) (ev x).bp with
       |(xs,H1)=>if jm (setCells cs off xs)&& !jm cs then none else some (.any,H1.set h (.box (setCells cs off xs)),true,[h])else none
      |_=>none
    |.ep h st i off=>match H[h]? with
      |some (.arr c l)=>if st=K.sz c/\fl (ev x).bp=true/\off+n<=K.sz c then
        match cx.D.dec c (setCells (cx.D.cells c (l.getD i (K.zero c))) off (ev x).bp)with
        |some (y,b)=>some (.any,H.set h (.arr c (l.set i y)),b,[h])
        |none=>none
       else none
      |_=>none
    |_=>none else none
   |none=>none
 |.makeSlice t len cap=>match elemOf? cx.P t with
   |none=>none
   |some e=>match mq cx e,(zeroOf cx.P e:Option (AV K)),ev len,ev cap with
    |some c,some z,.int _ n,.int _ m=>if cM cx.P e=some (K.sz c)/\room e cx.P=true/\fl z.bp=true/\z.known=true then
      match cx.D.dec c z.bp with
      |some (y,b)=>some (.sl H.length,H++[.arr c (List.replicate n.toNat y)],b&&(decide (0<=n)&&(decide (n<=m)&&decide (m<=1073741824))),[])
      |none=>none
     else none
    |_,_,_,_=>none
 |.buildSlice t len parts=>match elemOf? cx.P t with
   |none=>none
   |some e=>match mq cx e,inOrder ev 0 parts.toList with
    |some c,some l=>if cM cx.P e=some (K.sz c)/\kY cx.P e=true/\l.length=len/\len<=4096/\K.sz c<=4096/\l.all (fun v=>fl v.bp&&(v.known&&decide (v.bp.length=K.sz c)))=true then
      match mj cx.D c l with
      |some (y,b)=>some (.sl H.length,H++[.arr c y],b,[])
      |none=>none
     else none
    |_,_=>none
 |.convert src dst x=>match cx.P.underlying src,elemOf? cx.P dst,ev x with
   |some .string,some e,.str s=>match cx.P.underlying e,mq cx e with
    |some (.int .u8),some c=>match cx.D.byte c with
     |some (_,g)=>if cM cx.P e=some (K.sz c)then some (.sl H.length,H++[.arr c (s.map g)],decide (s.length<=1073741824),[])else none
     |none=>none
    |_,_=>none
   |_,_,_=>none
 |.call {callee:=.builtin .append,args,argTypes}=>match args.toList,argTypes.toList with
   |[s,x],[sT,xT]=>if(cx.P.underlying xT).isNone then none else if(wu cx.P xT).isSome then yT cx H sT (ev s) (ev x)else CN cx H sT (ev s) (ev x)
   |_,_=>none
 |.call {callee:=.builtin .clear,args,argTypes}=>match args.toList,argTypes.toList with
   |[x],[T]=>match ev x,elemOf? cx.P T with
     |.vw h st lo hi,some e=>match H[h]?,(zeroOf cx.P e:Option (AV K))with
       |some (.arr c l),some z=>if st=K.sz c/\cM cx.P e=some (K.sz c)/\z.bp.all AV.one=true then match cx.D.dec c z.bp with
         |some (y,b)=>some (.any,H.set h (.arr c (l.take lo++List.replicate (hi-lo) y++l.drop hi)),b&&decide (hi<=l.length),[h])
         |none=>none
        else none
       |_,_=>none
     |_,_=>none
   |_,_=>none
 |.call {callee:=.builtin .copy,args,argTypes}=>match args.toList,argTypes.toList with
   |[x,y],[T,_]=>match ev x,ev y,elemOf? cx.P T with
     |.vw h st lo hi,.str s,some e=>match H[h]? with
       |some (.arr c l)=>match cx.D.byte c with
        |some (_,g)=>if st=K.sz c/\cM cx.P e=some (K.sz c)then some (.int .i64 (s.length:Int),H.set h (.arr c (l.take lo++s.map g++l.drop (lo+s.length))),decide (hi<=l.length)&&decide (s.length<=hi-lo),[h])else none
        |none=>none
       |_=>none
     |_,_,_=>none
   |_,_=>none
 |_=>none
mutual
def nr:AV K->Bool
 |.sl _|.ptr .. |.ep .. |.np _|.vw ..=>true
 |.agg l|.bu l|.fn _ l=>se l
 |_=>false
def se:List (AV K)->Bool
 |[]=>false
 |v::r=>nr v||se r
end
mutual
def d6(f:Nat->Option Nat):AV K->Option (AV K)
 |.ptr h o=>(f h).map (.ptr · o)
 |.sl h=>(f h).map .sl
 |.np h=>(f h).map .np
 |.ep h s i o=>(f h).map (.ep · s i o)
 |.vw h s a b=>(f h).map (.vw · s a b)
 |.fn g l=>(gW f l).map (.fn g)
 |.agg l=>(gW f l).map .agg
 |.bu l=>(gW f l).map .bu
 |.opt ..=>none
 |v=>some v
def gW(f:Nat->Option Nat):List (AV K)->Option (List (AV K))
 |[]=>some []
 |v::r=>match d6 f v,gW f r with
  |some x,some l=>some (x::l)
  |_,_=>none
end
def ren(m:List Nat):AV K->Option (AV K):=d6 fun h=>m.idxOf? h
def VN(m:List Nat):List (AV K)->Option (List (AV K)):=gW fun h=>m.idxOf? h
def back(m:List Nat):AV K->Option (AV K):=d6 fun h=>m[h]?
def ajL(m:List Nat):List (AV K)->Option (List (AV K)):=gW fun h=>m[h]?
def iY(f:Nat->Option Nat):Ob K->Option (Ob K)
 |.box cs=>(gW f cs).map .box
 |.opn ..=>none
 |o=>some o
def B7(m:List Nat):Ob K->Option (Ob K):=iY fun h=>m.idxOf? h
def sg(m:List Nat):Ob K->Option (Ob K):=iY fun h=>m[h]?
def kj(f:Ob K->Option (Ob K)):List (Ob K)->Option (List (Ob K))
 |[]=>some []
 |o::r=>match f o,kj f r with
  |some x,some l=>some (x::l)
  |_,_=>none
def reach(H:List (Ob K)):Nat->List Nat->List Nat->List Nat
 |0,_,acc=>acc
 |_,[],acc=>acc
 |n+1,h::r,acc=>if acc.contains h then reach H n r acc else
   reach H n (r++(match H[h]? with|some (.box cs)=>bq cs|_=>[])) (acc++[h])
def sf(H:List (Ob K)):List Nat->Bool
 |[]=>true
 |h::m=>decide (h<H.length)&&(!m.contains h&&sf H m)
def gX:List (Ob K)->List Nat->List (Ob K)->List (Ob K)
 |H,h::m,o::r=>gX (H.set h o) m r
 |H,_,_=>H
def Vh(D:bj K):Ob K->Bool
 |.arr c _=> !dn (D.cells c (K.zero c))
 |.tree ..=>true
 |_=>false
def jn(cx:Cx K)(m:Mode)(H:List (Ob K))(f:FuncId)(args:List (AV K)):Option (AV K×List (Ob K)×Bool×List Nat):=
 match m with
 |.plain=>if fl (jN cx.D H args)then match cx.call f (jN cx.D H args) []with
     |some (r,[],c)=>if r.closed&&(!ga r|| !se args)then some (r,H,c,[])else none
     |_=>none else none
 |.gV=>if fl (jN cx.D H args)&& !se args then match cx.call f (jN cx.D H args) []with
     |some (r,Hn,c)=>match back ((List.range Hn.length).map (H.length+·)) r,kj (sg ((List.range Hn.length).map (H.length+·))) Hn with
      |some r',some si=>some (r',H++si,c,[])
      |_,_=>none
     |none=>none else none
 |.fresh=>if fl (jN cx.D H args)then match cx.call f (jN cx.D H args) []with
     |some (r,Hn,c)=>if !ga r&&Hn.all (Vh cx.D)then match back ((List.range Hn.length).map (H.length+·)) r,kj (sg ((List.range Hn.length).map (H.length+·))) Hn with
      |some r',some si=>some (r',H++si,c,[])
      |_,_=>none else none
     |none=>none else none
 |.gU|.cL=>none
 |.pass=>if !sf H (reach H 64 (bq args) [])then none else match VN (reach H 64 (bq args) []) args,kj (B7 (reach H 64 (bq args) [])) ((reach H 64 (bq args) []).map fun h=>H.getD h .dead)with
     |some args',some Hi=>match cx.call f args' Hi with
      |some (r,Ho,c)=>
       match back (reach H 64 (bq args) []++(List.range (Ho.length-Hi.length)).map (H.length+·)) r,kj (sg (reach H 64 (bq args) []++(List.range (Ho.length-Hi.length)).map (H.length+·))) Ho with
       |some r',some fB=>if Hi.length<=Ho.length then some (r',gX H (reach H 64 (bq args) []) (fB.take Hi.length)++fB.drop Hi.length,c,reach H 64 (bq args) [])else none
       |_,_=>none
      |none=>none
     |_,_=>none
def sj(cx:Cx K)(m:Mode)(H:List (Ob K))(f:FuncId)(args:List (AV K)):Option (AV K×List (Ob K)×Bool×List Nat):=
 jn cx m (gz H (bq args)) f (mo (gz H (bq args)) args)
def nu(q:Bool)(cx:Cx K)(H:List (Ob K))(f:FuncId)(args:List (AV K)):Option (AV K×List (Ob K)×Bool×List Nat):=
 match cx.mode f with
 |.plain=>jn cx .plain H f args
 |.gU=>match jn cx .plain H f args with
   |some r=>some r
   |none=>if q then none else sj cx .plain H f args
 |.gV=>if q then none else sj cx .gV H f args
 |.pass=>if q then none else jn cx .pass H f args
 |.cL=>if q then none else sj cx .pass H f args
 |.fresh=>if q then none else match jn cx .gV H f args with
   |some r=>some r
   |none=>match jn cx .fresh H f args with
    |some r=>some r
    |none=>sj cx .gV H f args
def iZ:List Nat->Bool
 |[]=>true
 |x::r=> !r.contains x&&iZ r
def Cf(D:bj K)(H:List (Ob K)):AV K->Option (AV K)
 |.sl h=>match H[h]? with
   |some (.arr c l)=>if dn (D.cells c (K.zero c))then none else some (.ah c l)
   |some (.tree c l)=>some (.ah c l)
   |_=>none
 |.cF=>some .cF
 |.int k n=>some (.int k n)
 |.bool b=>some (.bool b)
 |.str s=>some (.str s)
 |.cG=>some .cG
 |_=>none
def jo(D:bj K)(H:List (Ob K)):List (AV K)->Option (List (AV K))
 |[]=>some []
 |v::r=>match Cf D H v,jo D H r with
  |some x,some l=>some (x::l)
  |_,_=>none
def wi(D:bj K)(H:List (Ob K)):List (AV K)->Option (List (AV K))
 |[]=>some []
 |v::r=>match jo D H v.bp,wi D H r with
  |some cs,some l=>some (.agg cs::l)
  |_,_=>none
def dO(H:List (Ob K)):List Nat->List (Ob K)
 |[]=>H
 |h::r=>dO (H.set h .dead) r
def nB(H:List (Ob K))(c:K.U):AV K->Option (List (K.El c)×List Nat)
 |.cF=>some ([],[])
 |.sl h=>match H[h]? with
   |some (.tree c' l)=>match K.ig c' c with
    |.isTrue e=>some (e ▸ l,[h])
    |.isFalse _=>none
   |_=>none
 |_=>none
def wq(cx:Cx K)(ev:Operand->AV K)(H:List (Ob K)):Op->Option (AV K×List (Ob K)×Bool×List Nat)
 |.makeSlice t len cap=>match elemOf? cx.P t with
   |none=>none
   |some e=>match mq cx e,(zeroOf cx.P e:Option (AV K)),ev len,ev cap with
    |some c,some z,.int _ n,.int _ m=>if cx.deep c=true/\cM cx.P e=some (K.sz c)/\room e cx.P=true/\z.known=true then
      match jo cx.D [] z.bp with
      |some zs=>match cx.D.dec c zs with
       |some (y,b)=>some (.sl H.length,H++[.tree c (List.replicate n.toNat y)],b&&(decide (0<=n)&&(decide (n<=m)&&decide (m<=1073741824))),[])
       |none=>none
      |none=>none
     else none
    |_,_,_,_=>none
 |.buildSlice t len parts=>match elemOf? cx.P t with
   |none=>none
   |some e=>match mq cx e,inOrder ev 0 parts.toList with
    |some c,some l=>if cx.deep c=true/\cM cx.P e=some (K.sz c)/\kY cx.P e=true/\l.length=len/\len<=4096/\K.sz c<=4096/\l.all (fun v=>v.known&&decide (v.bp.length=K.sz c))=true/\iZ (bq l)=true then
      match wi cx.D H l with
      |some l'=>match mj cx.D c l' with
       |some (y,b)=>some (.sl H.length,dO H (bq l)++[.tree c y],b,bq l)
       |none=>none
      |none=>none
     else none
    |_,_=>none
 |.store t p x=>match ev p,cM cx.P t with
   |.ep h st i off,some n=>match H[h]? with
     |some (.tree c l)=>if st=K.sz c/\off+n<=K.sz c/\(ev x).bp.length=n/\(ev x).bp.all AV.one=true/\iZ (h::bq (ev x).bp)=true then
       match jo cx.D H (ev x).bp with
       |some xs=>match cx.D.dec c (setCells (cx.D.cells c (l.getD i (K.zero c))) off xs)with
        |some (y,b)=>some (.any,(dO H (h::bq (ev x).bp)).set h (.tree c (l.set i y)),b,h::bq (ev x).bp)
        |none=>none
       |none=>none
      else none
     |some (.opn c l i' off' cs)=>if st=K.sz c/\off=off'/\n=cs.length/\(ev x).bp.length=n/\(ev x).bp.all AV.one=true/\iZ (h::bq (ev x).bp)=true then
       match jo cx.D H (ev x).bp with
       |some xs=>match cx.D.dec c (setCells (cx.D.cells c (l.getD i (K.zero c))) off xs)with
        |some (y,b)=>some (.any,(dO H (h::bq (ev x).bp)).set h (.tree c (l.set i y)),b&&decide (i=i'),h::bq (ev x).bp)
        |none=>none
       |none=>none
      else none
     |_=>none
   |_,_=>none
 |.call {callee:=.builtin .append,args,argTypes}=>match args.toList,argTypes.toList with
   |[s,x],[sT,xT]=>if(wu cx.P xT).isSome||(cx.P.underlying xT).isNone then none else match elemOf? cx.P sT with
     |none=>none
     |some e=>match mq cx e with
      |none=>none
      |some c=>if cx.deep c=true/\cM cx.P e=some (K.sz c)/\room e cx.P=true/\kY cx.P e=true then
        match nB H c (ev s),nB H c (ev x)with
        |some (l,hs),some (m,hs')=>if iZ (hs++hs')then some (.sl H.length,dO H (hs++hs')++[.tree c (l++m)],decide (l.length+m.length<=1073741824),hs++hs')else none
        |_,_=>none
       else none
   |_,_=>none
 |_=>none
def pV(D:bj K)(dp:K.U->Bool):Nat->List (AV K)->Option (List (AV K)×List (Ob K))
 |_,[]=>some ([],[])
 |n,.ah c l::r=>if dp c|| !dn (D.cells c (K.zero c))then match pV D dp (n+1) r with
    |some (cs,os)=>some (.sl n::cs,cond (dp c) (.tree c l) (.arr c l)::os)
    |none=>none
  else none
 |n,v::r=>match pV D dp n r with
    |some (cs,os)=>some (v::cs,os)
    |none=>none
def wy(cx:Cx K)(ev:Operand->AV K)(H:List (Ob K)):Op->Option (AV K×List (Ob K)×Bool×List Nat)
 |.load t p=>if cx.opn then match ev p,CL cx.P t,cM cx.P t with
     |.ep h st i off,some ag,some n=>match H[h]? with
       |some (.tree c l)=>if st=K.sz c/\off+n<=K.sz c/\0<n then match pV cx.D cx.deep H.length (((cx.D.cells c (l.getD i (K.zero c))).drop off).take n)with
         |some (cs,os)=>some (cond ag (.agg cs) (cs.getD 0 .any),H.set h (.opn c l i off cs)++os,true,[h])
         |none=>none
        else none
       |_=>none
     |_,_,_=>none
   else none
 |_=>none
def IV:List (Ob K)->Option Nat
 |[]=>none
 |.opn ..::_=>some 0
 |_::r=>(IV r).map (· +1)
def shut(D:bj K)(H:List (Ob K)):Option (List (Ob K)×Bool×List Nat):=
 match IV H with
 |none=>some (H,true,[])
 |some h=>match H[h]? with
  |some (.opn c l i off cs)=>if iZ (h::bq cs)=true then match jo D H cs with
    |some xs=>match D.dec c (setCells (D.cells c (l.getD i (K.zero c))) off xs)with
     |some (y,b)=>some ((dO H (h::bq cs)).set h (.tree c (l.set i y)),b,h::bq cs)
     |none=>none
    |none=>none
   else none
  |_=>none
def wA(q:Bool)(cx:Cx K)(H:List (Ob K))(f:FuncId)(args:List (AV K)):Option (AV K×List (Ob K)×Bool×List Nat):=
 if cx.opn&& !cx.lz&& !q then match nu q cx H f args with
  |some (r,H1,c,t)=>match shut cx.D H1 with
   |some (H2,b,t2)=>some (r,H2,c&&b,t++t2)
   |none=>none
  |none=>none
 else nu q cx H f args
def guardOf(ops:List Oper)(o:Oper):Option (Option (Nat×Bool)):=
 match o.guard with
 |none=>some none
 |some (j,w)=>match ops[j]? with
  |some g=>match g.dst with
   |some t=>some (some (t,w))
   |none=>none
  |none=>none
def sy(st:St K)(wr:List Nat)(dst:Option Nat)(v:AV K)(H:List (Ob K))(ok:Bool):Option (St K×List Nat):=
 match dst with
 |none=>some (⟨st.tm,H,ok⟩,wr)
 |some d=>if wr.contains d||decide (st.tm.length<=d)then none else some (⟨st.tm.set d v,H,ok⟩,d::wr)
def wv(cx:Cx K)(ev:Operand->AV K)(H:List (Ob K))(op:Op):Option (AV K×List (Ob K)×Bool×List Nat):=
 match wq cx (fun x=>dr H (ev x)) H op with
 |some r=>some r
 |none=>match jq ev op with
 |[]=>sx cx (fun x=>dr H (ev x)) H op
 |hs=>match sw cx (fun x=>dr (gz H hs) (ev x)) (gz H hs) op with
  |some (v,c)=>some (v,gz H hs,c,[])
  |none=>sx cx (fun x=>dr (gz H hs) (ev x)) (gz H hs) op
def IW:Operand->Bool
 |.const (.slice none 0 0)=>true
 |_=>false
def gA(cx:Cx K):Op->Bool
 |.assign x=> !IW x
 |.slice t ..=>VK cx.P t
 |.load t _=> !cx.opn||(cx.lz&&(cx.kd t).all Option.isNone)
 |.makeFunc .. |.move _|.pick .. |.binOp .. |.unOp .. |.extract .. |.fieldAddr .. |.indexAddr .. |.index .. |.nilCheck _=>true
 |.convert _ dst _=>(elemOf? cx.P dst).isNone
 |.call {callee:=.builtin .len, ..}|.call {callee:=.builtin .min, ..}|.call {callee:=.builtin .max, ..}=>true
 |.call {callee:=.value (.func f), ..}=>cx.mode f== .plain&&(!cx.opn||cx.lz)
 |_=>false
def cutV(cx:Cx K)(ev:Operand->AV K)(H:List (Ob K)):Op->Option (AV K×List (Ob K)×Bool×List Nat)
 |.slice t x none (some y) none=>if cx.cut then match ev x,ev y,elemOf? cx.P t with
   |.sl h,.int _ n,some e=>match H[h]? with
     |some (.arr c l)=>if cM cx.P e=some (K.sz c)then some (.sl H.length,H.set h .dead++[.arr c (l.take n.toNat)],cC 0 n l.length,[h])else none
     |some (.tree c l)=>if cM cx.P e=some (K.sz c)then some (.sl H.length,H.set h .dead++[.tree c (l.take n.toNat)],cC 0 n l.length,[h])else none
     |_=>none
   |_,_,_=>none else none
 |.slice t x (some y) none none=>if cx.cut then match ev x,ev y,elemOf? cx.P t with
   |.sl h,.int _ n,some e=>match H[h]? with
     |some (.arr c l)=>if cM cx.P e=some (K.sz c)/\cx.D.km c=none then some (.sl H.length,H.set h .dead++[.arr c (l.drop n.toNat)],cC n l.length l.length,[h])else none
     |some (.tree c l)=>if cM cx.P e=some (K.sz c)/\cx.D.km c=none then some (.sl H.length,H.set h .dead++[.tree c (l.drop n.toNat)],cC n l.length l.length,[h])else none
     |_=>none
   |_,_,_=>none else none
 |_=>none
def yU(cx:Cx K)(ev:Operand->AV K)(H:List (Ob K)):Op->Option (AV K×List (Ob K)×Bool×List Nat)
 |.buildSlice t len parts=>match elemOf? cx.P t with
   |none=>none
   |some e=>match cx.ty e,inOrder ev 0 parts.toList with
    |some c,some l=>if cM cx.P e=some (K.sz c)/\kY cx.P e=true/\l.length=len/\len<=4096/\K.sz c<=4096/\l.all (fun v=>fl v.bp&&(v.known&&decide (v.bp.length=K.sz c)))=true then
      match mj cx.D c l with
      |some (y,b)=>some (.ah c y,H,b,[])
      |none=>none
     else none
    |_,_=>none
 |_=>none
def jr(q:Bool)(cx:Cx K)(tm:List (AV K))(gs:List (Nat×Bool))(H:List (Ob K))(T:TypeId):Op->Option (AV K×List (Ob K)×Bool×List Nat)
 |.pick c x y=>match c,cX tm gs c with
   |.tmp t,.bool b=>match known cx t with
     |some b0=>some (cond b0 (cX tm gs x) (cX tm gs y),H,b==b0,[])
     |none=>some (merge b (cX tm ((t,true)::gs) x) (cX tm ((t,false)::gs) y),H,true,[])
   |.const _,.bool b=>some (merge b (cX tm gs x) (cX tm gs y),H,true,[])
   |_,_=>none
 |.call {callee:=.value f,args, ..}=>match cX tm gs f with
   |.fn g caps=>wA q cx H g (args.toList.map (fun x=>dr H (cX tm gs x))++caps)
   |_=>none
 |.assign x=>if !q&&IW x then match elemOf? cx.P T with
     |some e=>match cx.ty e with
      |some c=>some (.sl H.length,H++[cond (cx.deep c) (.tree c []) (.arr c [])],true,[])
      |none=>some (cX tm gs x,H,true,[])
     |none=>some (cX tm gs x,H,true,[])
   else some (dr H (cX tm gs x),H,true,[])
 |op=>match sw cx (fun x=>dr H (cX tm gs x)) H op with
  |some (v,c)=>some (v,H,c,[])
  |none=>if q then yU cx (fun x=>dr H (cX tm gs x)) H op else if gA cx op then none else match wy cx (cX tm gs) H op with
   |some r=>some r
   |none=>match cutV cx (cX tm gs) H op with
   |some r=>some r
   |none=>wv cx (cX tm gs) H op
def lg(cx:Cx K):Op->Bool
 |.assign _=>true
 |.slice t ..=> !cx.cut||VK cx.P t
 |.call {callee:=.value (.func f), ..}=>cx.mode f== .plain||cx.mode f== .gU
 |op=>gA cx op
def ajM(cx:Cx K):Op->Bool
 |.buildSlice ..=>true
 |op=>lg cx op
def gd(q:Bool)(cx:Cx K)(ops:List Oper)(tm:List (AV K))(H:List (Ob K))(wr:List Nat)(o:Oper):Option (AV K×List (Ob K)×Bool):=
 match guardOf ops o with
 |none=>none
 |some none=>match jr q cx tm [] H o.type o.op with
  |some (v,H',c,_)=>if v.gY then none else some (v,H',c)
  |none=>none
 |some (some (g,w))=>match known cx g with
  |some b0=>match tm[g]? with
   |some (.bool b)=>if b0=w then match jr q cx tm [] H o.type o.op with
     |some (v,H',c,_)=>if v.gY then none else some (v,H',c&&(b==b0))
     |none=>none
    else some (.any,H,b==b0)
   |_=>none
  |none=>match vS tm 6 (g,w)with
   |none=>none
   |some b=>if ajM cx o.op&&wr.contains g then match jr true cx tm [(g,w)] H o.type o.op with
     |some (v,_,c,_)=>some (.opt g w v,H,c|| !b)
     |none=>none else none
def sA(cx:Cx K)(ops:List Oper)(st:St K)(wr:List Nat)(o:Oper):Option (St K×List Nat):=
 match gd false cx ops st.tm st.H wr o with
 |some (v,H',c)=>sy st wr o.dst v H' (c&&st.ok)
 |none=>none
def js(cx:Cx K)(ops:List Oper):List Oper->St K->List Nat->Option (St K×List Nat)
 |[],st,wr=>some (st,wr)
 |o::r,st,wr=>match sA cx ops st wr o with
  |some (st',wr')=>js cx ops r st' wr'
  |none=>none
def gZ(tm:List (AV K)):List Nat->List (AV K)
 |[]=>tm
 |d::r=>match tm[d]? with
  |some (.opt ..)=>gZ (tm.set d .any) r
  |_=>gZ tm r
def fP:List Oper->List Nat->List Nat
 |[],acc=>acc
 |o::r,acc=>fP r (acc++[o.after.toList.foldl (fun s e=>s|||2^e.on|||acc.getD e.on 0) 0])
def dD(bits:Nat):List Oper->Nat->List (AV K)->List (AV K)
 |[],_,tm=>tm
 |o::r,i,tm=>dD bits r (i+1) (match o.dst with
  |some d=>if bits.testBit i then tm else tm.set d .any
  |none=>tm)
def yV(i:Nat):Nat->List Nat->Nat
 |_,[]=>0
 |k,b::r=>(cond (b.testBit i) (2^k) 0)|||yV i (k+1) r
def dM(bs:List Nat)(i:Nat):Nat:=bs.getD i 0|||yV i 0 bs
def kn(cx:Cx K)(ops:List Oper)(bs:List Nat):List Oper->Nat->St K->List Nat->Option (St K×List Nat)
 |[],_,st,wr=>some (st,wr)
 |o::r,i,st,wr=>match gd true cx ops (dD (dM bs i) ops 0 st.tm) st.H wr o with
  |some (v,_,c)=>match sy st wr o.dst v st.H (c&&st.ok)with
   |some (st',wr')=>kn cx ops bs r (i+1) st' wr'
   |none=>none
  |none=>none
def iL:List Oper->Nat->Bool
 |[],_=>true
 |o::r,i=>(o.after.toList.all fun e=>decide (e.on<i)&&Region.binds .any e)&&iL r (i+1)
def gh(bits:Nat):Nat->List (Ob K)->List (Ob K)
 |_,[]=>[]
 |i,o::r=>(if bits.testBit i then .dead else o)::gh bits (i+1) r
def i4(bits:Nat):Nat->List (Ob K)->List (Ob K)->List (Ob K)
 |i,o::r,o'::r'=>(if bits.testBit i then o else o')::i4 bits (i+1) r r'
 |_,[],r'=>r'
 |_,_::_,[]=>[]
mutual
def AV.upto(n:Nat):AV K->Bool
 |.ptr h _|.sl h|.ep h _ _ _|.np h|.vw h _ _ _=>decide (h<n)
 |.fn _ l|.agg l|.bu l=>mr n l
 |.opt _ _ v=>v.upto n
 |_=>true
def mr(n:Nat):List (AV K)->Bool
 |[]=>true
 |v::r=>v.upto n&&mr n r
end
def Ob.upto(n:Nat):Ob K->Bool
 |.box cs=>mr n cs
 |.opn _ _ _ _ cs=>mr n cs
 |_=>true
def g9(ev:Operand->AV K)(op:Op):List Nat:=
 jq ev op++(match op with
  |.store _ p _=>hands (ev p)
  |.call {callee:=.builtin .append,args, ..}=>(match args.toList with
    |s::x::_=>hands (ev s)++hands (ev x)
    |[s]=>hands (ev s)
    |[]=>[])
  |.call {callee:=.builtin .clear,args, ..}=>(match args.toList with
    |s::_=>hands (ev s)
    |[]=>[])
  |.call {callee:=.builtin .copy,args, ..}=>(match args.toList with
    |s::_=>hands (ev s)
    |[]=>[])
  |_=>[])
def pW(cx:Cx K):Op->Bool
 |.box .. |.alloc _|.build .. |.store .. |.makeSlice .. |.buildSlice .. |.convert .. |.slice ..=>true
 |.call {callee:=.builtin .append, ..}=>true
 |.call {callee:=.value (.func f), ..}=>(cx.mode f== .fresh||(cx.mode f== .pass||cx.mode f== .cL))&&(!cx.opn||cx.lz)
 |.load ..=>cx.opn&&cx.lz
 |_=>false
def IX(ev:Operand->AV K):Op->List Nat
 |.call {callee:=.value _,args, ..}=>bq (args.toList.map ev)
 |_=>[]
def wG(cx:Cx K)(H:List (Ob K))(ev:Operand->AV K):Op->List Nat
 |.call {callee:=.value (.func f),args, ..}=>(match cx.mode f with
   |.pass=>reach H 64 (bq (args.toList.map fun y=>dr H (ev y))) []
   |.cL=>bq (args.toList.map fun y=>dr H (ev y))++reach (gz H (bq (args.toList.map fun y=>dr H (ev y)))) 64 (bq (mo (gz H (bq (args.toList.map fun y=>dr H (ev y)))) (args.toList.map fun y=>dr H (ev y)))) []
   |_=>[])
 |_=>[]
def bitsOf:List Nat->Nat
 |[]=>0
 |h::r=>2^h|||bitsOf r
def wH(cx:Cx K)(ops:List Oper)(tm:List (AV K))(H:List (Ob K))(wr:List Nat)(o:Oper):Option (AV K×List (Ob K)×Bool):=
 if lg cx o.op then gd true cx ops tm H wr o else if pW cx o.op then gd false cx ops tm H wr o else none
def mw(cx:Cx K)(tm:List (AV K))(H:List (Ob K))(op:Op):List Nat:=if lg cx op then[]else match op with
 |.load t p=>(match sw cx (fun x=>dr H (cX tm [] x)) H (.load t p)with
   |some _=>[]
   |none=>hands (cX tm [] p))
 |op=>(g9 (cX tm []) op++IX (cX tm []) op)++wG cx H (cX tm []) op
def wI(A:Nat):Nat->List Nat->Nat
 |_,[]=>0
 |k,b::r=>(if A.testBit k then 0 else b)|||wI A (k+1) r
def CO(A:Nat)(T:List Nat):Nat->List (Nat×Nat)->Bool
 |_,[]=>true
 |i,(m,n)::r=>(A.testBit i||T.all fun h=>decide (n<=h)||m.testBit h)&&CO A T (i+1) r
def ajN:Op->Option (List Operand)
 |.slice _ x _ _ _=>some [x]
 |.move _=>some []
 |.load _ p=>some [p]
 |.fieldAddr ..=>some []
 |.indexAddr _ x _=>some [x]
 |.nilCheck _=>some []
 |.store _ p x=>some [p,x]
 |.binOp ..=>some []
 |.unOp ..=>some []
 |_=>none
def VO(tm:List (AV K))(n:Nat)(op:Op):Nat:=
 match ajN op with
 |none=>0
 |some l=>bitsOf ((List.range n).filter fun h=> !(bq (l.map (cX tm []))).contains h)
def nG(bs ws:List Nat)(i:Nat)(tm:List (AV K))(n:Nat)(op:Op):Nat:=wI (bs.getD i 0) 0 ws|||VO tm n op
def nH(cx:Cx K)(ops:List Oper)(bs:List Nat):List Oper->Nat->St K->List Nat->List (Nat×Nat)->List Nat->Option (St K×List Nat)
 |[],_,st,wr,_,_=>some (st,wr)
 |o::r,i,st,wr,ms,ws=>
  if mr st.H.length (dD (dM bs i) ops 0 st.tm)&&(gh (nG bs ws i (dD (dM bs i) ops 0 st.tm) st.H.length o.op) 0 st.H).all (Ob.upto st.H.length)then
   match wH cx ops (dD (dM bs i) ops 0 st.tm) (gh (nG bs ws i (dD (dM bs i) ops 0 st.tm) st.H.length o.op) 0 st.H) wr o with
   |none=>none
   |some (v,H',c)=>
    if(CO (bs.getD i 0) (mw cx (dD (dM bs i) ops 0 st.tm) (gh (nG bs ws i (dD (dM bs i) ops 0 st.tm) st.H.length o.op) 0 st.H) o.op) 0 ms&&(mw cx (dD (dM bs i) ops 0 st.tm) (gh (nG bs ws i (dD (dM bs i) ops 0 st.tm) st.H.length o.op) 0 st.H) o.op).all fun h=> !(nG bs ws i (dD (dM bs i) ops 0 st.tm) st.H.length o.op).testBit h&&decide (h<st.H.length))&&decide (st.H.length<=H'.length)then
     match sy st wr o.dst v (i4 (nG bs ws i (dD (dM bs i) ops 0 st.tm) st.H.length o.op) 0 st.H H') (c&&st.ok)with
     |some (st',wr')=>nH cx ops bs r (i+1) st' wr' (ms++[(nG bs ws i (dD (dM bs i) ops 0 st.tm) st.H.length o.op,st.H.length)])
       (ws++[bitsOf (mw cx (dD (dM bs i) ops 0 st.tm) (gh (nG bs ws i (dD (dM bs i) ops 0 st.tm) st.H.length o.op) 0 st.H) o.op++List.range' st.H.length (H'.length-st.H.length))])
     |none=>none
    else none
  else none
def my(cx:Cx K)(ops:List Oper)(st:St K):Option (St K):=
 if(ops.all fun o=>lg cx o.op)&&iL ops 0 then match kn cx ops (fP ops []) ops 0 st []with
     |some (st',wr)=>some ⟨gZ st'.tm wr,st'.H,st'.ok⟩
     |none=>none
  else if iL ops 0 then match nH cx ops (fP ops []) ops 0 st [] [] []with
   |some (st',wr)=>some ⟨gZ st'.tm wr,st'.H,st'.ok⟩
   |none=>none
  else none
def yW(π:List Nat)(n:Nat):Bool:=decide (π.length=n)&&(π.all (fun i=>decide (i<n))&&((List.range n).all (fun i=>π.contains i)&&iZ π))
def sB(π:List Nat)(n:Nat)(o:Oper):Oper:=
 {o with after:=(o.after.filter (Region.binds .any)).map (fun e=>{e with on:=(π.idxOf? e.on).getD n}),guard:=o.guard.map fun g=>((π.idxOf? g.1).getD n,g.2)}
def permuted(π:List Nat)(ops:List Oper):List Oper:=π.map fun i=>match ops[i]? with
 |some o=>sB π ops.length o
 |none=>{dst:=none,op:=.move (.const .nilIface),type:=0,pos:= "",after:= #[],guard:=none}
def VP(cx:Cx K)(ops:List Oper)(bs:List Nat):List Nat:=
 match(List.range ops.length).foldl (fun acc i=>match ops[i]? with
  |some o=>if pW cx o.op&&(!lg cx o.op&& !acc.contains i)then acc++((List.range ops.length).filter fun j=>(bs.getD i 0).testBit j&& !acc.contains j)++[i]else acc
  |none=>acc) []with
 |acc=>acc++(List.range ops.length).filter fun j=> !acc.contains j
def yX(cx:Cx K)(ops:List Oper)(π:List Nat)(st:St K):Option (St K):=
 if yW π ops.length then my cx (permuted π ops) st else none
def IY(cx:Cx K)(ops:List Oper)(st:St K):Option (St K):=
 if iL ops 0 then match my cx ops st with
  |some r=>some r
  |none=>yX cx ops (VP cx ops (fP ops [])) st
 else match yX cx ops (List.range ops.length) st with
  |some r=>some r
  |none=>yX cx ops (VP cx ops (fP (permuted (List.range ops.length) ops) [])) st
def gi(cx:Cx K)(ops:List Oper)(draw:Bool)(st:St K):Option (St K):=
 if draw then IY cx ops st
 else match js cx ops ops st []with
  |some (st',wr)=>some ⟨gZ st'.tm wr,st'.H,st'.ok⟩
  |none=>none
def writes:Code->List Nat
 |.region _ ops _=>ops.toList.filterMap (·.dst)
 |.seq a b=>writes a++writes b
 |.cond _ a b=>writes a++writes b
 |.block _ c=>writes c
 |.loop c=>writes c
 |.scope c=>writes c
 |.rangeFunc _ ps a c=>ps.toList++writes a++writes c
 |_=>[]
def simple(cx:Cx K):Code->Bool
 |.skip=>true
 |.region _ ops _=>ops.toList.all fun o=>gA cx o.op
 |.seq a b=>simple cx a&&simple cx b
 |.cond _ a b=>simple cx a&&simple cx b
 |_=>false
def hC(b:Bool)(wr:List Nat):Nat->List (AV K)->List (AV K)->List (AV K)->List (AV K)
 |n,v::r,x::s,y::t=>(if wr.contains n then merge b x y else v)::hC b wr (n+1) r s t
 |_,_,_,_=>[]
def dt(tm:List (AV K)):List Nat->List (AV K)->List (AV K)
 |d::r,v::s=>dt (tm.set d v) r s
 |_,_=>tm
def keyOf:Code->Nat
 |.region id _ _=>id
 |.seq a _=>keyOf a
 |.cond _ a _=>keyOf a
 |.block _ c=>keyOf c
 |.loop c=>keyOf c
 |_=>0
def inLoop(H:List (Ob K))(vals:List (AV K)):Option (List Nat×List (AV K)×List (Ob K)):=
 if sf H (reach H 64 (bq vals) [])then match VN (reach H 64 (bq vals) []) vals,kj (B7 (reach H 64 (bq vals) [])) ((reach H 64 (bq vals) []).map fun h=>H.getD h .dead)with
  |some i5,some Hi=>some (reach H 64 (bq vals) [],i5,Hi)
  |_,_=>none
 else none
def fm(m:List Nat)(n k:Nat):List Nat:=m++(List.range (k-m.length)).map (n+·)
def CP(L:bD K)(m:List Nat)(st:St K)(vs:List (AV K))(Ho:List (Ob K)):Option (St K):=
 match ajL (fm m st.H.length Ho.length) vs,kj (sg (fm m st.H.length Ho.length)) Ho with
 |some vs',some fB=>if m.length<=Ho.length then some ⟨dt (List.replicate L.n .any) L.outs vs',gX st.H m (fB.take m.length)++fB.drop m.length,st.ok⟩else none
 |_,_=>none
def IZ(ops:List Oper):List Nat:=(ops.filterMap fun o=>match guardOf ops o with
 |some (some (g,_))=>some g
 |_=>none).eraseDups
def yY(cx:Cx K)(ops:List Oper)(draw:Bool)(st:St K):List Nat->Option (Bool×St K×St K)
 |[]=>none
 |t::r=>match gi {cx with gs:=[(t,true)]} ops draw st,gi {cx with gs:=[(t,false)]} ops draw st with
  |some s1,some s2=>match s1.tm.getD t .any with
   |.bool b=>some (b,s1,s2)
   |_=>yY cx ops draw st r
  |_,_=>yY cx ops draw st r
inductive fD (K:cA) where
 |no
 |leaf (s:St K)
 |node (b:Bool) (x y:fD K)
 |two (x y:St K)
def fD.go(cx:Cx K):fD K->{R:Type}->(St K->Option R)->Option R
 |.no,_,_=>none
 |.leaf s,_,k=>k s
 |.node b x y,_,k=>cond b (x.go cx k) (y.go cx k)
 |.two x y,_,k=>cx.vY (k x) (k y)
def sC(cx:Cx K)(ops:List Oper):List Oper->St K->List Nat->St K×List Oper
 |[],st,_=>(st,[])
 |o::r,st,wr=>match sA cx ops st wr o with
  |some (st',wr')=>sC cx ops r st' wr'
  |none=>(st,o::r)
def CQ(cx:Cx K)(st:St K):List Nat->Option (Nat×Bool)
 |[]=>none
 |t::r=>match known cx t with
  |some _=>CQ cx st r
  |none=>match st.tm[t]? with
   |some (.bool b)=>some (t,b)
   |_=>CQ cx st r
def VQ(st:St K):List Oper->Bool
 |[]=>false
 |o::_=>match o.op with
  |.nilCheck (.tmp t)=>match st.tm[t]? with
    |some .cG=>true
    |some (.opt _ _ .cG)=>true
    |_=>false
  |_=>false
def yZ(cx:Cx K)(ops:List Oper)(draw:Bool)(st:St K):Nat->List (Nat×Bool)->Option (fD K)
 |0,_=>none
 |n+1,gs=>match gi {cx with gs:=gs} ops draw st with
  |some s=>some (.leaf s)
  |none=>match gi {cx with call:=cx.alt true,mode:=cx.nF true,gs:=gs} ops draw st,gi {cx with call:=cx.alt false,mode:=cx.nF false,gs:=gs} ops draw st with
   |some s1,some s2=>some (.two s1 s2)
   |_,_=>match CQ {cx with gs:=gs} (sC {cx with gs:=gs} ops ops st []).1 (IZ ops)with
    |some (t,b)=>match yZ cx ops draw st n ((t,true)::gs),yZ cx ops draw st n ((t,false)::gs)with
     |some x,some y=>some (.node b x y)
     |_,_=>none
    |none=>if VQ (sC {cx with gs:=gs} ops ops st []).1 (sC {cx with gs:=gs} ops ops st []).2 then some .no else none
def y8(cx:Cx K)(ops:List Oper)(draw:Bool)(st:St K):Nat->List (Nat×Bool)->Option (fD K)
 |0,_=>none
 |n+1,gs=>match gi {cx with gs:=gs} ops draw st with
  |some s=>some (.leaf s)
  |none=>match CQ {cx with gs:=gs} (sC {cx with gs:=gs} ops ops st []).1 (IZ ops)with
   |some (t,b)=>match y8 cx ops draw st n ((t,true)::gs),y8 cx ops draw st n ((t,false)::gs)with
    |some x,some y=>some (.node b x y)
    |_,_=>none
   |none=>if VQ (sC {cx with gs:=gs} ops ops st []).1 (sC {cx with gs:=gs} ops ops st []).2 then some .no else none
def fD.CS:fD K->{R:Type}->(St K->Option R)->Option R
 |.leaf s,_,k=>k s
 |.node b x y,_,k=>cond b (x.CS k) (y.CS k)
 |_,_,_=>none
def wJ:Ex->St K->Option (St K)
 |.normal,st=>some st
 |_,_=>none
def fa(cx:Cx K):Code->{R:Type}->St K->(Ex->St K->Option R)->Option R
 |.skip,_,st,k=>k .normal st
 |.region _ ops draw,_,st,k=>match gi cx ops.toList draw st with
   |some st'=>k .normal st'
   |none=>match yY cx ops.toList draw st (IZ ops.toList)with
    |some (b,s1,s2)=>cond b (k .normal s1) (k .normal s2)
    |none=>if(ops.toList.all fun o=>gA cx o.op)=true then match y8 cx ops.toList draw st 4 []with
      |some T=>T.CS (k .normal)
      |none=>none
     else match gi {cx with call:=cx.alt true,mode:=cx.nF true} ops.toList draw st,gi {cx with call:=cx.alt false,mode:=cx.nF false} ops.toList draw st with
     |some s1,some s2=>cx.vY (k .normal s1) (k .normal s2)
     |_,_=>match yZ cx ops.toList draw st 4 []with
      |some T=>T.go cx (k .normal)
      |none=>none
 |.seq a b,_,st,k=>fa cx a st fun e s=>match e with
   |.normal=>fa cx b s k
   |e=>k e s
 |.cond c a b,_,st,k=>match cX st.tm [] c with
   |.bool t=>if simple cx a&&simple cx b then
       match fa cx a st wJ,fa cx b st wJ with
       |some sa,some sb=>k .normal ⟨hC t (writes a++writes b) 0 st.tm sa.tm sb.tm,st.H,(sa.ok|| !t)&&(sb.ok||t)⟩
       |_,_=>none
     else cond t (fa cx a st k) (fa cx b st k)
   |_=>none
 |.block id c,_,st,k=>fa cx c st fun e s=>match e with
   |.exit i=>if i=id then k .normal s else k (.exit i) s
   |e=>k e s
 |.loop c,_,st,k=>match cx.loop (keyOf c)with
   |some L=>if st.tm.length=L.n then match inLoop st.H (L.ins.map fun t=>st.tm.getD t .any)with
     |some (m,vals,Hi)=>L.run vals Hi fun e vs Ho=>match CP L m st vs Ho with
      |some st'=>k e st'
      |none=>none
     |none=>none else none
   |none=>none
 |.exit id,_,st,k=>k (.exit id) st
 |.ret,_,st,k=>k .ret st
 |_,_,_,_=>none
def pX(cx:Cx K)(st:St K):List ResultVar->Option (List (AV K))
 |[]=>some []
 |.tmp t::r=>match pX cx st r with
   |some l=>some (st.tm.getD t .any::l)
   |none=>none
 |.cell a t::r=>match CM cx.P cx.D st.H t (st.tm.getD a .any),pX cx st r with
   |some v,some l=>some (v::l)
   |_,_=>none
def resV(cx:Cx K)(fn:Func)(st:St K):Option (AV K):=
 match pX cx st fn.results.toList with
 |some [v]=>some (dr st.H v)
 |some l=>some (.bu (mo st.H l))
 |none=>none
def sD{α β:Type}(f:α->Option β):List α->Option (List β)
 |[]=>some []
 |x::r=>match f x,sD f r with
  |some y,some l=>some (y::l)
  |_,_=>none
def pY(src:List (Option Nat))(h:Nat):Option Nat:=src.idxOf? (some h)
def pZ(n0 n:Nat):Nat->List (Option Nat)->Bool
 |_,[]=>true
 |i,none::r=>decide (i<n0)&&pZ n0 n (i+1) r
 |i,some h::r=>decide (h<n)&&((decide (n0<=i)||decide (h=i))&&(!r.contains (some h)&&pZ n0 n (i+1) r))
def sE(src:List (Option Nat))(H:List (Ob K)):Option Nat->Option (Ob K)
 |none=>some .dead
 |some h=>match H[h]? with
  |some o=>iY (pY src) o
  |none=>none
def nI(n0:Nat)(src:List (Option Nat))(keep:List Nat)(st:St K):Option (St K):=
 if pZ n0 st.H.length 0 src&&decide (n0<=src.length)then
  match gW (pY src) (keep.map fun t=>st.tm.getD t .any),sD (sE src st.H) src with
  |some vs,some H=>some ⟨dt (List.replicate st.tm.length .any) keep vs,H,st.ok⟩
  |_,_=>none
 else none
def sF(n0:Nat)(keep:List Nat)(st:St K):Option (St K):=
 nI n0 ((reach st.H 64 (List.range n0++bq (keep.map fun t=>st.tm.getD t .any)) []).map some) keep st
def qa(cx:Cx K)(s:St K):Option (Bool×St K):=match IV s.H with
 |none=>some (true,s)
 |some _=>match shut cx.D s.H with
  |some (H',b,_)=>some (b,⟨s.tm,H',s.ok⟩)
  |none=>none
def CU(cx:Cx K)(n0:Nat)(keep outs:List Nat)(body:Code)(st:St K):Option (St K⊕Ex×St K):=
 fa cx body st fun e s=>cond s.ok (match e with
  |.normal=>match qa cx s with
    |some (b,s1)=>cond b (match sF n0 keep s1 with
     |some s'=>some (.inl s')
     |none=>none) none
    |none=>none
  |e=>match qa cx s with
   |some (b,s1)=>cond b (match sF n0 outs s1 with
    |some s'=>some (.inr (e,s'))
    |none=>none) none
   |none=>none) none
def I0(n0:Nat)(src:List (Option Nat))(v:AV K)(H:List (Ob K)):Option (AV K×List (Ob K)):=
 if pZ n0 H.length 0 src&&decide (n0<=src.length)then
  match d6 (pY src) v,sD (sE src H) src with
  |some v',some H'=>some (v',H')
  |_,_=>none
 else none
def pack(n0:Nat)(v:AV K)(H:List (Ob K)):Option (AV K×List (Ob K)):=
 I0 n0 ((reach H 64 (List.range n0++hands v) []).map some) v H
def I1(H:List (Ob K))(h:Nat):Bool:=match H[h]? with
 |some (.arr ..)=>false
 |some (.fg ..)=>false
 |some (.tree ..)=>false
 |_=>true
def ajO(n0:Nat)(v:AV K)(H:List (Ob K)):List (Option Nat):=
 ((List.range n0).map fun h=>cond (I1 H h) (some h) none)++((reach H 64 ((List.range n0).filter (I1 H)++hands v) []).filter fun h=> !(decide (h<n0)&&I1 H h)).map some
def CV(mv:Bool)(n0:Nat)(v:AV K)(H:List (Ob K)):Option (AV K×List (Ob K)):=
 I0 n0 (cond mv (ajO n0 v H) ((reach H 64 (List.range n0++hands v) []).map some)) v H
def ajP(cx:Cx K)(fn:Func)(n0:Nat)(e:Ex)(st:St K):Option (AV K×List (Ob K)):=
 match e with
 |.exit _=>none
 |_=>match resV cx fn st with
  |some v=>cond st.ok (pack n0 v st.H) none
  |none=>none
def amc(cx:Cx K)(fn:Func)(args:List (AV K))(H:List (Ob K)):Option (AV K×List (Ob K)):=
 match fn.body with
 |some c=>fa cx c ⟨args++List.replicate (fn.ntmps-args.length) .any,H,true⟩ (ajP cx fn H.length)
 |none=>none
end Go.V
