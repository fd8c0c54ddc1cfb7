/-
  A VALUE-LEVEL READING OF THE LOADED CODE: abstract values, objects, operations, and a function 'execC' that runs a body on them. Nothing here speaks of one program: the program is a parameter. The proofs that what it yields is what the machine does are in the texts that follow.
-/
import Derived.WalkKit
import Derived.KernelRfl
import Derived.Orders
universe u v
theorem aB{α:Type u}{a:α}:(some a).isSome=true:=rfl
abbrev av := @Option.some.injEq
theorem ay{α:Type u}{a b:α}:(some a).getD b=a:=rfl
abbrev al := @Bool.and_self
theorem ae{α:Sort u}(a b:α):(bif true then a else b)=a:=rfl
abbrev aN := @List.length_append
theorem aR{α:Sort u}(a b:α):(bif false then a else b)=b:=rfl
theorem ak{α:Type u}{a:α}{as:List α}:(a::as).length=as.length+1:=rfl
theorem bf{α:Type u}:([]:List α).length=0:=rfl
abbrev aZ := @Prod.mk.injEq
abbrev cG := @Bool.and_eq_true
abbrev bD := @List.getElem?_eq_some_iff
abbrev cH := @List.getElem?_eq_getElem
abbrev bu := @Bool.not_false
theorem bw(n:Nat):(n:Int).toNat=n:=rfl
abbrev bU := @Bool.true_and
abbrev bB := @decide_eq_true_eq
abbrev cq := @Bool.true_or
abbrev cQ := @beq_eq_false_iff_ne
abbrev cE := @List.getElem_mem
abbrev dT := @Bool.not_true
abbrev b9 := @List.getElem?_append_left
abbrev cL := @Bool.false_and
abbrev eR := @List.getElem?_append_right
abbrev df := @beq_self_eq_true
abbrev cA := @decide_eq_false
abbrev fi := @decide_eq_false_iff_not
abbrev da := @decide_eq_true
abbrev dB := @Bool.and_true
abbrev fh := @Nat.le_refl
abbrev cP := @Nat.lt_or_ge
abbrev gn := @List.getD_eq_getElem?_getD
abbrev dy := @Option.map_eq_some_iff
abbrev aT := @if_neg
abbrev dO := @List.mem_append
abbrev cK := @beq_iff_eq
abbrev aY := @if_pos
abbrev fa := @List.getElem?_take
abbrev ga := @Nat.mul_le_mul_right
abbrev fk := @Bool.not_eq_true'
abbrev fN := @List.all_eq_true
abbrev fO := @List.append_assoc
abbrev fq := @List.length_map
abbrev dN := @Nat.zero_le
abbrev iz := @Bool.or_true
abbrev eN := @List.mem_of_getElem?
abbrev eG := @List.map_cons
abbrev kE := @Array.getElem?_eq_some_iff
theorem fB{α:Type u}(as:List α):[]++as=as:=rfl
abbrev lS := @List.eq_nil_of_length_eq_zero
abbrev ed := @decide_true
abbrev ej := @Bool.or_eq_true
abbrev gP := @Nat.add_mul
abbrev iY := @List.getElem?_drop
abbrev hZ := @List.getElem?_eq_none
abbrev fA := @Option.some.inj
abbrev jq := @Nat.zero_add
abbrev fJ := @List.mem_singleton
abbrev kD := @Int.ofNat_lt
abbrev lR := @List.drop_zero
abbrev m8 := @List.getElem?_replicate
abbrev gu := @Array.getD_eq_getD_getElem?
abbrev jm := @List.mem_cons
abbrev ik := @List.getElem?_map
abbrev jU := @Bool.or_eq_false_iff
abbrev oj := @Bool.false_eq_true
abbrev kY := @Nat.lt_of_lt_of_le
abbrev kx := @Array.getElem?_setIfInBounds
abbrev kC := @List.getElem?_set
abbrev kZ := @of_decide_eq_true
abbrev il := @Nat.one_mul
theorem iC{α:Type u}{β:Type v}(a:α)(f:α->β):Option.map f (some a)=some (f a):=rfl
abbrev pV := @Array.getElem?_eq_none
abbrev mm := @Bool.false_or
abbrev kA := @decide_eq_decide
abbrev oh := @Nat.add_assoc
abbrev mn := @Nat.eq_zero_or_pos
abbrev nc := @Bool.eq_iff_iff
abbrev om := @List.length_take
abbrev lU := @Nat.le_trans
abbrev lV := @Bool.or_self
abbrev k9 := @List.size_toArray
abbrev lg := @Bool.or_false
abbrev gU := @decide_false
abbrev rB := @congrArg
abbrev vY := @List.getElem_of_mem
abbrev wm := @Array.getElem?_eq_getElem
abbrev uc := @List.pairwise_iff_getElem
abbrev ud := @Array.replicate_succ
abbrev rE := @List.append_toArray
abbrev tY := @List.drop_length
abbrev vU := @Bool.false_ne_true
abbrev rF := @List.contains_eq_mem
abbrev ue := @List.append_nil
abbrev oo := @List.push_toArray
abbrev tQ := @Bool.not_eq_true
abbrev yN := @bne_iff_ne
abbrev yO := @List.take_of_length_le
abbrev wo := @Nat.eq_of_beq_eq_true
abbrev lh := @List.ext_getElem?
abbrev oq := @if_false
abbrev Dp := @Array.getElem?_replicate
abbrev Dq := @Int.eq_ofNat_of_zero_le
theorem od{α:Type u}{a:α}{as bs:List α}:(a::as)++bs=a::(as++bs):=rfl
abbrev rG := @Nat.mul_one
abbrev wq := @Nat.testBit_or
abbrev Di := @List.length_replicate
abbrev kW := @Iff.rfl
abbrev I4 := @List.take_append_of_le_length
abbrev Ds := @List.mem_cons_of_mem
abbrev rH := @decide_not
abbrev yP := @List.map_append
abbrev wu := @Nat.add_comm
abbrev yQ := @List.drop_drop
abbrev Dt := @List.take_add_one
abbrev Du := @List.take_length
abbrev Dv := @List.getElem_map
abbrev Dw := @Nat.not_lt_zero
abbrev ot := @Ne.symm
abbrev yL := @Nat.zero_mul
abbrev C4 := @List.length_set
abbrev yR := @getElem!_pos
theorem mj{α:Type u}{a:α}{l:List α}{f:α->Bool}:(a::l).all f=(f a&&l.all f):=rfl
abbrev pW := @if_true
abbrev Dx := @Nat.sub_self
abbrev Dl := @Nat.mul_comm
abbrev I5 := @List.not_mem_nil
abbrev IM := @List.nodup_cons
namespace Go.V
open Go
structure dh where
 U:Type
 El:U->Type
 jS:DecidableEq U
 sz:U->Nat
 zero:(c:U)->El c
inductive AV (K:dh) where
 |any
 |int (k:IntKind) (n:Int)
 |bool (b:Bool)
 |str (s:List UInt8)
 |dx
 |dn
 |fn (f:Nat) (caps:List (AV K))
 |ptr (h off:Nat)
 |sl (h:Nat)
 |ep (h st i off:Nat)
 |an (c:K.U) (l:List (K.El c))
 |rp (c:K.U) (x:K.El c) (off:Nat)
 |agg (l:List (AV K))
 |bC (l:List (AV K))
 |opt (g:Nat) (want:Bool) (v:AV K)
 |np (h:Nat)
 |vw (h st lo hi:Nat)
inductive Ob (K:dh) where
 |dead
 |box (cells:List (AV K))
 |arr (c:K.U) (l:List (K.El c))
 |gK (c:K.U) (l:List (K.El c))
 |tree (c:K.U) (l:List (K.El c))
 |opn (c:K.U) (l:List (K.El c)) (i off:Nat) (cs:List (AV K))
structure Base where
 inv:(Nat->Prop)->World->Prop
 mono:∀{S S':Nat->Prop}{w w':World},(∀b,S b->S' b)->(∀b,S b->w'.heap[b]?=w.heap[b]?)->inv S w->inv S' w'
def Base.Og:Base:=⟨fun _ _=>True,fun _ _ h=>h⟩
structure bH (K:dh) where
 cells:(c:K.U)->K.El c->List (AV K)
 dec:(c:K.U)->List (AV K)->Option (K.El c×Bool)
 byte:(c:K.U)->Option ((K.El c->UInt8)×(UInt8->K.El c))
 find:List (AV K)->Option K.U
 base:Base:=Base.Og
 pP:Option TypeId:=none
 rn:K.U->Option TypeId:=fun _=>none
variable {K :dh}
def AV.cw:AV K->List (AV K)
 |.agg l=>l
 |v=>[v]
def AV.known:AV K->Bool
 |.any|.opt ..=>false
 |_=>true
def AV.jr:AV K->Bool
 |.opt ..=>true
 |_=>false
def AV.one:AV K->Bool
 |.any|.opt .. |.agg _|.bC _|.vw ..=>false
 |_=>true
structure St (K:dh) where
 tm:List (AV K)
 H:List (Ob K)
 ok:Bool
inductive Ex where
 |normal
 |exit (id:Nat)
 |ret
def Ex.ng:Ex->Exit
 |.normal=>.normal
 |.exit id=>.exit id
 |.ret=>.ret
structure bE (K:dh) where
 n:Nat
 ins:List Nat
 outs:List Nat
 run:{R:Type}->List (AV K)->List (Ob K)->(Ex->List (AV K)->List (Ob K)->Option R)->Option R
inductive Mode where
 |plain|jo|jH|pass|bg|fresh
 deriving DecidableEq
def I6{R:Type}(a b:Option R):Option R:=match a with
 |none=>b
 |some r=>some r
theorem aes{R:Type}{a b:Option R}{r:R}(h:I6 a b=some r):a=some r\/b=some r:=by
 cases a with
 |none=>exact .inr h
 |some x=>exact .inl h
structure Cx (K:dh) where
 P:Program
 D:bH K
 ty:TypeId->Option K.U
 call:FuncId->List (AV K)->List (Ob K)->Option (AV K×List (Ob K)×Bool)
 mode:FuncId->Mode
 loop:Nat->Option (bE K)
 ni:TypeId->List (Option K.U)
 cut:Bool:=false
 iq:List (List (Option K.U)):=[]
 ON:List Bool:=[]
 mv:Bool:=false
 deep:K.U->Bool:=fun _=>false
 opn:Bool:=false
 vws:Bool:=false
 vtl:Bool:=false
 lz:Bool:=false
 alt:Bool->FuncId->List (AV K)->List (Ob K)->Option (AV K×List (Ob K)×Bool):=fun _ _ _ _=>none
 pX:Bool->FuncId->Mode:=fun _=>mode
 yD:{R:Type}->Option R->Option R->Option R:=fun a b=>I6 a b
 gs:List (Nat×Bool):=[]
def known(cx:Cx K)(g:Nat):Option Bool:=(cx.gs.find? fun p=>p.1==g).map (·.2)
mutual
def lN:Value->Option (AV K)
 |.bool b=>some (.bool b)
 |.int k n=>some (.int k n)
 |.string s=>some (.str s.data.toList)
 |.pointer none=>some .dx
 |.slice none 0 0=>some .dn
 |.agg cs=>(yS cs.toList).map .agg
 |_=>none
def yS:List Value->Option (List (AV K))
 |[]=>some []
 |v::r=>match lN v,yS r with
  |some x,some l=>some (x::l)
  |_,_=>none
end
def covers(tm:List (AV K)):Nat->Nat×Bool->Nat×Bool->Bool
 |0,g,t=>g.1==t.1&&g.2==t.2
 |n+1,g,t=>(g.1==t.1&&g.2==t.2)||(match tm[g.1]? with
  |some (.opt g1 w1 _)=>covers tm n (g1,w1) t
  |_=>false)
def dP(tm:List (AV K))(gs:List (Nat×Bool)):Operand->AV K
 |.tmp t=>match tm[t]? with
   |some (.opt g w v)=>if gs.any (fun p=>covers tm 6 p (g,w))then v else .any
   |some v=>v
   |none=>.any
 |.const v=>(lN v).getD .any
 |.global _=>.any
 |.func f=>.fn f []
def vZ(tm:List (AV K)):Nat->Nat×Bool->Option Bool
 |0,_=>none
 |n+1,(g,w)=>match tm[g]? with
  |some (.bool b)=>some (b==w)
  |some (.opt g1 w1 (.bool b))=>(vZ tm n (g1,w1)).map fun e=>e&&(b==w)
  |_=>none
mutual
def merge(b:Bool):AV K->AV K->AV K
 |.int k m,.int k' n=>if k=k' then .int k (cond b m n)else .any
 |.bool m,.bool n=>.bool (cond b m n)
 |.str m,.str n=>.str (cond b m n)
 |.an c l,.an c' l'=>match K.jS c c' with
   |.isTrue h=>.an c' (cond b (h ▸ l) l')
   |.isFalse _=>.any
 |.agg l,.agg l'=>if l.length=l'.length then .agg (merges b l l')else .any
 |.dn,.dn=>.dn
 |.dx,.dx=>.dx
 |_,_=>.any
def merges(b:Bool):List (AV K)->List (AV K)->List (AV K)
 |x::r,y::s=>merge b x y::merges b r s
 |_,_=>[]
end
def uf(op:BinOp)(k:IntKind)(x y:Int):Int:=
 let a:=BitVec.ofInt k.bits x
 let b:=BitVec.ofInt k.bits y
 k.wrap ((match op with
   |.and=>(a&&& b)|.or=>(a|||b)|.xor=>(a^^^b)|_=>(a&&& ~~~b)).toNat)
def OO(k:IntKind)(x y:Int):Int:=k.wrap (x*2^(min y.toNat k.bits))
def OP(k:IntKind)(x y:Int):Int:=x.fdiv (2^(min y.toNat k.bits))
def aw(a b:List UInt8):Bool:=decide (a.length+b.length<=4611686018427387904)
def yT(a b:List UInt8):Bool:=Op.bytesLess a b
def I7(op:BinOp)(k:IntKind)(a b:Int):Option (AV K×Bool):=
 match op with
 |.add=>some (.int k (k.wrap (a+b)),true)
 |.sub=>some (.int k (k.wrap (a-b)),true)
 |.mul=>some (.int k (k.wrap (a*b)),true)
 |.quo=>some (.int k (k.wrap (a.tdiv b)),b !=0)
 |.rem=>some (.int k (a.tmod b),b !=0)
 |.and|.or|.xor|.andNot=>some (.int k (uf op k a b),true)
 |.eql=>some (.bool (a==b),true)
 |.neq=>some (.bool (a !=b),true)
 |.lss=>some (.bool (decide (a<b)),true)
 |.leq=>some (.bool (decide (a<=b)),true)
 |.gtr=>some (.bool (decide (b<a)),true)
 |.geq=>some (.bool (decide (b<=a)),true)
 |.shl|.shr=>none
def I8(op:BinOp)(a b:List UInt8):Option (AV K×Bool):=
 match op with
 |.add=>some (.str (a++b),aw a b)
 |.eql=>some (.bool (a==b),true)
 |.neq=>some (.bool (!(a==b)),true)
 |.lss=>some (.bool (yT a b),true)
 |.leq=>some (.bool (yT a b||a==b),true)
 |.gtr=>some (.bool (!(yT a b||a==b)),true)
 |.geq=>some (.bool (!yT a b),true)
 |_=>none
def OQ(P:Program)(t:TypeId):Bool:=P.underlying t matches some .string
def I9(P:Program)(t:TypeId):Bool:=P.underlying t matches some .bool
def Ja(op:UnOp):AV K->Option (AV K×Bool)
 |.bool b=>match op with
   |.not=>some (.bool (!b),true)
   |_=>none
 |.int k n=>match op with
   |.neg=>some (.int k (k.wrap (0-n)),true)
   |.xor=>some (.int k (uf .xor k (if k.signed then -1 else k.max) n),true)
   |_=>none
 |_=>none
def fm(P:Program)(t:TypeId):Option Nat:=(P.info? t).map (·.size)
def Jb(P:Program)(t:TypeId):Option Bool:=
 match P.underlying t with
 |some (.struct _)|some (.array _ _)=>some true
 |some _=>some false
 |none=>none
def Dy(P:Program)(t:TypeId)(f:Nat):Option Field:=
 match P.underlying t with
 |some (.struct fs)=>fs[f]?
 |_=>none
def elemOf?(P:Program)(t:TypeId):Option TypeId:=
 match P.underlying t with
 |some (.slice e)=>some e
 |_=>none
def zeroOf(P:Program)(t:TypeId):Option (AV K):=
 match P.info? t with
 |some i=>match i.zero with
  |some v=>lN v
  |none=>none
 |none=>none
def yM(P:Program)(t:TypeId):Option IntKind:=
 match P.underlying t with
 |some (.int k)=>some k
 |_=>none
def nj(P:Program)(t:TypeId)(cs:List (AV K))(off:Nat):Option (AV K):=
 match Jb P t,fm P t with
 |some true,some n=>if off+n<=cs.length then some (.agg ((cs.drop off).take n))else none
 |some false,some _=>cs[off]?
 |_,_=>none
def yU(P:Program)(rec:TypeId->AV K->AV K->Option Bool)(xs ys:List (AV K)):List Field->Option Bool
 |[]=>some true
 |f::fs=>if f.name= "_" then none else
  match nj P f.type xs f.offset,nj P f.type ys f.offset with
  |some a,some b=>match rec f.type a b,yU P rec xs ys fs with
   |some p,some q=>some (p&&q)
   |_,_=>none
  |_,_=>none
def wv(P:Program):Nat->TypeId->AV K->AV K->Option Bool
 |0,_,_,_=>none
 |n+1,t,.int k a,.int k' b=>if k=k' then(match P.underlying t with
  |some (.int _)=>some (a==b)
  |_=>none)else none
 |n+1,t,.bool a,.bool b=>(match P.underlying t with
  |some .bool=>some (a==b)
  |_=>none)
 |n+1,t,.str a,.str b=>(match P.underlying t with
  |some .string=>some (a==b)
  |_=>none)
 |n+1,t,.agg xs,.agg ys=>(match P.underlying t with
  |some (.struct fs)=>if P.stoodInHeld t then none else yU P (wv P n) xs ys fs.toList
  |_=>none)
 |_+1,_,_,_=>none
def Jc(P:Program)(t:TypeId):Bool:=P.underlying t matches some (.pointer _)
def wx(P:Program)(op:BinOp)(t:TypeId)(e:Bool):Option (AV K×Bool):=if Jc P t then(match op with
 |.eql=>some (.bool e,true)
 |.neq=>some (.bool (!e),true)
 |_=>none)else none
def Jd(P:Program)(op:BinOp)(t:TypeId):AV K->AV K->Option (AV K×Bool)
 |.int k a,.int k' b=>match op with
   |.shl=>some (.int k (OO k a b),decide (0<=b))
   |.shr=>some (.int k (OP k a b),decide (0<=b))
   |_=>if k=k' then I7 op k a b else none
 |.bool a,.bool b=>if I9 P t then(match op with
   |.eql=>some (.bool (a==b),true)
   |.neq=>some (.bool (!(a==b)),true)
   |_=>none)else none
 |.str a,.str b=>I8 op a b
 |.agg a,.agg b=>match op with
   |.eql=>if P.eqGuardType P.depth t then none else(wv P 6 t (.agg a) (.agg b)).map fun e=>(.bool e,true)
   |.neq=>if P.eqGuardType P.depth t then none else(wv P 6 t (.agg a) (.agg b)).map fun e=>(.bool (!e),true)
   |_=>none
 |.dx,.dx=>wx P op t true
 |.ptr _ _,.dx=>wx P op t false
 |.rp _ _ _,.dx=>wx P op t false
 |.ep _ _ _ _,.dx=>wx P op t false
 |_,_=>none
def inB(n:Int)(len:Nat):Bool:=decide (0<=n)&&decide (n<len)
def cg(lo hi:Int)(len:Nat):Bool:=decide (0<=lo)&&(decide (lo<=hi)&&decide (hi<=len))
mutual
def AV.closed:AV K->Bool
 |.int .. |.bool _|.str _|.dx|.dn|.an .. |.rp .. |.any=>true
 |.ptr .. |.sl _|.ep .. |.opt .. |.np _|.vw ..=>false
 |.fn _ l|.agg l|.bC l=>g9 l
def g9:List (AV K)->Bool
 |[]=>true
 |v::r=>v.closed&&g9 r
end
def tV(H:List (Ob K)):AV K->AV K
 |.sl h=>match H[h]? with
   |some (.arr c l)=>.an c l
   |some (.gK c l)=>.an c l
   |some (.tree c l)=>.an c l
   |_=>.any
 |v=>v
mutual
def jo(D:bH K)(H:List (Ob K)):AV K->AV K
 |.sl h=>match H[h]? with
   |some (.arr c l)=>.an c l
   |some (.gK c l)=>.an c l
   |some (.tree c l)=>.an c l
   |_=>.any
 |.ptr h off=>match H[h]? with
   |some (.box cs)=>match D.find (cs.map (tV H))with
    |some c=>match D.dec c (cs.map (tV H))with
     |some (x,true)=>.rp c x off
     |_=>.any
    |none=>.any
   |_=>.any
 |.vw h st lo hi=>match H[h]? with
   |some (.arr c l)=>if st=K.sz c then .an c ((l.take hi).drop lo)else .any
   |some (.tree c l)=>if st=K.sz c then .an c ((l.take hi).drop lo)else .any
   |_=>.any
 |.fn g l=>.fn g (lP D H l)
 |.agg l=>.agg (lP D H l)
 |.bC l=>.bC (lP D H l)
 |v=>v
def lP(D:bH K)(H:List (Ob K)):List (AV K)->List (AV K)
 |[]=>[]
 |v::r=>jo D H v::lP D H r
end
def elems(H:List (Ob K))(c:K.U):AV K->Option (List (K.El c))
 |.dn=>some []
 |.an c' l=>match K.jS c' c with
   |.isTrue h=>some (h ▸ l)
   |.isFalse _=>none
 |.sl h=>match H[h]? with
   |some (.arr c' l)=>match K.jS c' c with
    |.isTrue h=>some (h ▸ l)
    |.isFalse _=>none
   |_=>none
 |_=>none
def setCells(cs:List (AV K))(off:Nat):List (AV K)->List (AV K)
 |[]=>cs
 |v::r=>setCells (cs.set off v) (off+1) r
mutual
def hands:AV K->List Nat
 |.ptr h _|.sl h|.ep h _ _ _|.np h|.vw h _ _ _=>[h]
 |.agg l|.bC l|.fn _ l=>cr l
 |_=>[]
def cr:List (AV K)->List Nat
 |[]=>[]
 |v::r=>hands v++cr r
end
def ug(H:List (Ob K))(h:Nat):List (Ob K):=
 match H[h]? with
 |some (.arr c l)=>H.set h (.gK c l)
 |some (.tree c l)=>H.set h (.gK c l)
 |_=>H
def iZ(H:List (Ob K)):List Nat->List (Ob K)
 |[]=>H
 |h::r=>iZ (ug H h) r
mutual
def eE(H:List (Ob K)):AV K->AV K
 |.sl h=>match H[h]? with
   |some (.gK c l)=>.an c l
   |_=>.sl h
 |.vw h st lo hi=>match H[h]? with
   |some (.gK c l)=>if st=K.sz c then .an c ((l.take hi).drop lo)else .vw h st lo hi
   |_=>.vw h st lo hi
 |.agg l=>.agg (ou H l)
 |.bC l=>.bC (ou H l)
 |v=>v
def ou(H:List (Ob K)):List (AV K)->List (AV K)
 |[]=>[]
 |v::r=>eE H v::ou H r
end
def thaw(dp:K.U->Bool)(H:List (Ob K)):List (Option K.U)->List (AV K)->List (AV K)×List (Ob K)
 |some c::cs,.dn::r=>match thaw dp (H++[cond (dp c) (.tree c []) (.arr c [])]) cs r with
  |(l,H')=>(.sl H.length::l,H')
 |_::cs,v::r=>match thaw dp H cs r with
  |(l,H')=>(v::l,H')
 |[],l=>(l,H)
 |_,[]=>([],H)
def fK(dp:K.U->Bool)(H:List (Ob K)):List (List (Option K.U))->List (AV K)->List (AV K)×List (Ob K)
 |cs::css,.agg l::r=>match thaw dp H cs l with
  |(l',H1)=>match fK dp H1 css r with
   |(s,H2)=>(.agg l'::s,H2)
 |cs::css,v::r=>match thaw dp H cs [v]with
  |(l',H1)=>match fK dp H1 css r with
   |(s,H2)=>(l'.headD v::s,H2)
 |[],l=>(l,H)
 |_,[]=>([],H)
def ku:List (AV K)->Bool
 |.np _::_=>true
 |_=>false
def yV(b:Bool)(h:Nat):List (AV K)->List (AV K)
 |.dx::r=>cond b (.np h) .dx::r
 |l=>l
mutual
def iL:AV K->Bool
 |.an .. |.rp ..=>true
 |.agg l|.bC l|.fn _ l=>eI l
 |_=>false
def eI:List (AV K)->Bool
 |[]=>false
 |v::r=>iL v||eI r
end
def Dz(P:Program)(D:bH K)(H:List (Ob K))(t:TypeId):AV K->Option (AV K)
 |.ptr h off=>match H[h]? with
   |some (.box cs)=>nj P t cs off
   |_=>none
 |.rp c x off=>nj P t (D.cells c x) off
 |.ep h st i off=>match H[h]? with
   |some (.arr c l)=>if st=K.sz c then nj P t (D.cells c (l.getD i (K.zero c))) off else none
   |some (.tree c l)=>if st=K.sz c then(match nj P t (D.cells c (l.getD i (K.zero c))) off with
     |some v=>if iL v then none else some v
     |none=>none)else none
   |_=>none
 |_=>none
def Je(_P:Program)(_H:List (Ob K))(_t:TypeId):AV K->Option (AV K×Bool):=fun _=>none
def Jf(P:Program)(s:TypeId)(f:Nat)(x:AV K):Option (AV K):=
 match Dy P s f with
 |some fd=>match fm P fd.type with
  |some (_+1)=>match x with
   |.ptr h off=>some (.ptr h (off+fd.offset))
   |.rp c x off=>some (.rp c x (off+fd.offset))
   |.ep h st i off=>some (.ep h st i (off+fd.offset))
   |_=>none
  |_=>none
 |none=>none
def Jg(P:Program)(H:List (Ob K))(t:TypeId)(x i:AV K):Option (AV K×Bool):=
 match elemOf? P t,i with
 |some e,.int _ n=>match x with
  |.an c l=>if fm P e=some (K.sz c)then some (.rp c (l.getD n.toNat (K.zero c)) 0,inB n l.length)else none
  |.sl h=>match H[h]? with
    |some (.arr c l)=>if fm P e=some (K.sz c)then some (.ep h (K.sz c) n.toNat 0,inB n l.length)else none
    |some (.tree c l)=>if fm P e=some (K.sz c)then some (.ep h (K.sz c) n.toNat 0,inB n l.length)else none
    |_=>none
  |_=>none
 |_,_=>none
def nk(d:Int):Option (AV K)->Option Int
 |none=>some d
 |some (.int _ n)=>some n
 |some _=>none
def Jh(P:Program)(t:TypeId)(x:AV K)(lo hi:Option (AV K)):Option (AV K×Bool):=
 match P.underlying t,x with
 |some .string,.str s=>match nk 0 lo,nk s.length hi with
  |some l,some h=>some (.str ((s.take h.toNat).drop l.toNat),cg l h s.length)
  |_,_=>none
 |some (.slice e),.an c s=>if fm P e=some (K.sz c)then match nk 0 lo,nk s.length hi with
  |some l,some h=>some (.an c ((s.take h.toNat).drop l.toNat),cg l h s.length)
  |_,_=>none else none
 |_,_=>none
def Ji(_P:Program)(_H:List (Ob K))(_t:TypeId)(_x:AV K)(_lo _hi:Option (AV K)):Option (AV K×Bool):=none
def uh(cx:Cx K)(ev:Operand->AV K)(H:List (Ob K)):Op->Option (AV K×Bool)
 |.move x|.assign x=>some (ev x,true)
 |.binOp op t x y _=>Jd cx.P op t (ev x) (ev y)
 |.unOp op _ x=>Ja op (ev x)
 |.convert src dst x=>match cx.P.underlying src,cx.P.underlying dst,ev x with
   |some _,some (.int k),.int _ n=>some (.int k (k.wrap n),true)
   |some _,some .string,.str s=>some (.str s,true)
   |some (.slice e),some .string,x=>match cx.P.underlying e,cx.ty e with
    |some (.int .u8),some c=>match cx.D.byte c,elems H c x with
     |some (f,_),some l=>some (.str (l.map f),true)
     |_,_=>none
    |_,_=>none
   |_,_,_=>none
 |.extract t i=>match ev t with
   |.bC l=>(l[i]?).map fun v=>(v,true)
   |_=>none
 |.fieldAddr s x f=>(Jf cx.P s f (ev x)).map fun v=>(v,true)
 |.field s x f=>match Dy cx.P s f,ev x with
   |some fd,.agg cs=>(nj cx.P fd.type cs fd.offset).map fun v=>(v,true)
   |_,_=>none
 |.load t p=>match Dz cx.P cx.D H t (ev p)with
   |some v=>some (v,true)
   |none=>Je cx.P H t (ev p)
 |.indexAddr t x i=>Jg cx.P H t (ev x) (ev i)
 |.index t x i=>match cx.P.underlying t,ev x,ev i with
   |some .string,.str s,.int _ n=>some (.int .u8 ((s.getD n.toNat 0).toNat:Int),inB n s.length)
   |_,_,_=>none
 |.slice t x lo hi none=>match Jh cx.P t (ev x) (lo.map ev) (hi.map ev)with
   |some r=>some r
   |none=>if cx.vws&&cond cx.vtl hi.isNone (hi.isSome|| !cx.cut)then Ji cx.P H t (ev x) (lo.map ev) (hi.map ev)else none
 |.nilCheck x=>match ev x with
   |.ptr h o=>some (.ptr h o,true)
   |.rp c x o=>some (.rp c x o,true)
   |.ep h s i o=>some (.ep h s i o,true)
   |_=>none
 |.makeFunc (.func f) first caps=>if first.isEmpty then some (.fn f (caps.toList.map ev),true)else none
 |.call {callee:=.builtin .len,args,argTypes}=>match args.toList,argTypes.toList with
   |[x],[t]=>match cx.P.underlying t,ev x with
     |some .string,.str s=>some (.int .i64 (s.length:Int),true)
     |some (.slice _),.dn=>some (.int .i64 0,true)
     |some (.slice _),.an _ l=>some (.int .i64 (l.length:Int),true)
     |some (.slice _),.vw _ _ a b=>some (.int .i64 ((b-a:Nat):Int),true)
     |some (.slice _),.sl h=>match H[h]? with
      |some (.arr _ l)=>some (.int .i64 (l.length:Int),true)
      |some (.tree _ l)=>some (.int .i64 (l.length:Int),true)
      |_=>none
     |_,_=>none
   |_,_=>none
 |.call {callee:=.builtin .min,args, ..}=>match args.toList with
   |[x,y]=>match ev x,ev y with
     |.int k a,.int k' b=>if k=k' then some (.int k (cond (decide (b<a)) b a),true)else none
     |_,_=>none
   |_=>none
 |.call {callee:=.builtin .max,args, ..}=>match args.toList with
   |[x,y]=>match ev x,ev y with
     |.int k a,.int k' b=>if k=k' then some (.int k (cond (decide (a<b)) b a),true)else none
     |_,_=>none
   |_=>none
 |_=>none
def OR(D:bH K)(c:K.U)(e:TypeId):Bool:=match D.rn c with
 |none=>true
 |some t=>t==e
def pY(cx:Cx K)(e:TypeId):Option K.U:=match cx.ty e with
 |some c=>if OR cx.D c e then some c else none
 |none=>none
def room(e:TypeId)(P:Program):Bool:=match P.info? e with
 |some i=>decide (i.bytes<=4096)
 |none=>false
def oe(D:bH K)(c:K.U):List (AV K)->Option (List (K.El c)×Bool)
 |[]=>some ([],true)
 |v::r=>match D.dec c v.cw,oe D c r with
  |some (x,b),some (l,b')=>some (x::l,b&&b')
  |_,_=>none
def inOrder(ev:Operand->AV K):Nat->List (Nat×Operand)->Option (List (AV K))
 |_,[]=>some []
 |n,(i,x)::r=>if i=n then(inOrder ev (n+1) r).map (ev x::·)else none
def placesOf(P:Program)(t:TypeId):Option (List (Nat×Nat)):=
 match P.underlying t with
 |some (.struct fs)=>fs.toList.mapM (fun f=>(P.info? f.type).map fun i=>(f.offset,i.size))
 |_=>none
def wy(places:List (Nat×Nat))(ev:Operand->AV K)(cs:List (AV K)):List (Nat×Operand)->Option (List (AV K))
 |[]=>some cs
 |(i,x)::r=>match places[i]? with
  |some (off,n)=>if(ev x).known=true/\(ev x).cw.length=n/\off+n<=cs.length then wy places ev (setCells cs off (ev x).cw) r else none
  |none=>none
def nf(P:Program)(t:TypeId):Bool:=match P.info? t with
 |some i=>match i.zero with
  |some v=>v.cells.size==i.size
  |none=>false
 |none=>false
def source(D:bH K)(H:List (Ob K))(c:K.U):AV K->Option (List (K.El c))
 |.str s=>match D.byte c with
   |some (_,g)=>some (s.map g)
   |none=>none
 |v=>elems H c v
def DC(cx:Cx K)(H:List (Ob K))(sT:TypeId)(s x:AV K):Option (AV K×List (Ob K)×Bool×List Nat):=
 match elemOf? cx.P sT with
 |none=>none
 |some e=>match pY cx e with
  |none=>none
  |some c=>if fm cx.P e=some (K.sz c)/\room e cx.P=true/\nf cx.P e=true then
    match source cx.D H c x with
    |none=>none
    |some m=>match s with
     |.dn=>some (.sl H.length,H++[.arr c m],decide (m.length<=1073741824),[])
     |.sl h=>match x with
       |.sl h'=>if h=h' then none else match elems H c (.sl h)with
         |some l=>some (.sl H.length,H.set h .dead++[.arr c (l++m)],decide (l.length+m.length<=1073741824),[h])
         |none=>none
       |_=>match elems H c (.sl h)with
        |some l=>some (.sl H.length,H.set h .dead++[.arr c (l++m)],decide (l.length+m.length<=1073741824),[h])
        |none=>none
     |_=>none
   else none
def yW(_cx:Cx K)(_H:List (Ob K))(_sT:TypeId)(_s _x:AV K):Option (AV K×List (Ob K)×Bool×List Nat):=none
def pT(ev:Operand->AV K):Op->List Nat
 |.buildSlice _ _ parts=>cr (parts.toList.map fun p=>ev p.2)
 |.store _ p x=>match ev p with
   |.ep ..=>hands (ev x)
   |_=>[]
 |.slice _ x _ _ _=>match ev x with
   |.sl h=>[h]
   |_=>[]
 |_=>[]
def OS(P:Program)(t:TypeId):Bool:=match P.info? t with
 |some i=>(match i.zero with
  |some .nilFunc=>true
  |_=>false)
 |none=>false
def ui(cx:Cx K)(ev:Operand->AV K)(H:List (Ob K)):Op->Option (AV K×List (Ob K)×Bool×List Nat)
 |.box t x=>if(ev x).known then match thaw cx.deep H (cx.ni t) (ev x).cw with
     |(cs,H1)=>if ku cs then none else some (.ptr H1.length 0,H1++[.box cs],true,[])else none
 |.alloc t=>match(zeroOf cx.P t:Option (AV K))with
   |some z=>if z.known then match thaw cx.deep H (cx.ni t) z.cw with
    |(cs,H1)=>if ku cs then none else some (.ptr H1.length 0,H1++[.box (yV (cx.D.pP==some t) H1.length cs)],true,[])else none
   |none=>if OS cx.P t then some (.ptr H.length 0,H++[.box [.any]],true,[])else none
 |.build t parts=>match placesOf cx.P t,(zeroOf cx.P t:Option (AV K))with
   |some ps,some z=>if z.known then(wy ps ev z.cw parts.toList).map fun cs=>(.agg cs,H,true,[])else none
   |_,_=>none
 |.store t p x=>match fm cx.P t with
   |some n=>if(ev x).cw.length=n/\(ev x).cw.all AV.one=true then match ev p with
    |.ptr h off=>match H[h]? with
      |some (.box cs)=>if off+n<=cs.length then match thaw cx.deep H (cx.ni t) (ev x).cw with
       |(xs,H1)=>if ku (setCells cs off xs)&& !ku cs then none else some (.any,H1.set h (.box (setCells cs off xs)),true,[h])else none
      |_=>none
    |.ep h st i off=>match H[h]? with
      |some (.arr c l)=>if st=K.sz c/\g9 (ev x).cw=true/\off+n<=K.sz c then
        match cx.D.dec c (setCells (cx.D.cells c (l.getD i (K.zero c))) off (ev x).cw)with
        |some (y,b)=>some (.any,H.set h (.arr c (l.set i y)),b,[h])
        |none=>none
       else none
      |_=>none
    |_=>none else none
   |none=>none
 |.makeSlice t len cap=>match elemOf? cx.P t with
   |none=>none
   |some e=>match pY cx e,(zeroOf cx.P e:Option (AV K)),ev len,ev cap with
    |some c,some z,.int _ n,.int _ m=>if fm cx.P e=some (K.sz c)/\room e cx.P=true/\g9 z.cw=true/\z.known=true then
      match cx.D.dec c z.cw with
      |some (y,b)=>some (.sl H.length,H++[.arr c (List.replicate n.toNat y)],b&&(decide (0<=n)&&(decide (n<=m)&&decide (m<=1073741824))),[])
      |none=>none
     else none
    |_,_,_,_=>none
 |.buildSlice t len parts=>match elemOf? cx.P t with
   |none=>none
   |some e=>match pY cx e,inOrder ev 0 parts.toList with
    |some c,some l=>if fm cx.P e=some (K.sz c)/\nf cx.P e=true/\l.length=len/\len<=4096/\K.sz c<=4096/\l.all (fun v=>g9 v.cw&&(v.known&&decide (v.cw.length=K.sz c)))=true then
      match oe cx.D c l with
      |some (y,b)=>some (.sl H.length,H++[.arr c y],b,[])
      |none=>none
     else none
    |_,_=>none
 |.convert src dst x=>match cx.P.underlying src,elemOf? cx.P dst,ev x with
   |some .string,some e,.str s=>match cx.P.underlying e,pY cx e with
    |some (.int .u8),some c=>match cx.D.byte c with
     |some (_,g)=>if fm cx.P e=some (K.sz c)then some (.sl H.length,H++[.arr c (s.map g)],decide (s.length<=1073741824),[])else none
     |none=>none
    |_,_=>none
   |_,_,_=>none
 |.call {callee:=.builtin .append,args,argTypes}=>match args.toList,argTypes.toList with
   |[s,x],[sT,xT]=>if(cx.P.underlying xT).isNone then none else if(yM cx.P xT).isSome then yW cx H sT (ev s) (ev x)else DC cx H sT (ev s) (ev x)
   |_,_=>none
 |_=>none
mutual
def pO:AV K->Bool
 |.sl _|.ptr .. |.ep .. |.np _|.vw ..=>true
 |.agg l|.bC l|.fn _ l=>tP l
 |_=>false
def tP:List (AV K)->Bool
 |[]=>false
 |v::r=>pO v||tP r
end
mutual
def fH(f:Nat->Option Nat):AV K->Option (AV K)
 |.ptr h o=>(f h).map (.ptr · o)
 |.sl h=>(f h).map .sl
 |.np h=>(f h).map .np
 |.ep h s i o=>(f h).map (.ep · s i o)
 |.vw h s a b=>(f h).map (.vw · s a b)
 |.fn g l=>(jk f l).map (.fn g)
 |.agg l=>(jk f l).map .agg
 |.bC l=>(jk f l).map .bC
 |.opt ..=>none
 |v=>some v
def jk(f:Nat->Option Nat):List (AV K)->Option (List (AV K))
 |[]=>some []
 |v::r=>match fH f v,jk f r with
  |some x,some l=>some (x::l)
  |_,_=>none
end
def ren(m:List Nat):AV K->Option (AV K):=fH fun h=>m.idxOf? h
def OT(m:List Nat):List (AV K)->Option (List (AV K)):=jk fun h=>m.idxOf? h
def back(m:List Nat):AV K->Option (AV K):=fH fun h=>m[h]?
def aev(m:List Nat):List (AV K)->Option (List (AV K)):=jk fun h=>m[h]?
def kt(f:Nat->Option Nat):Ob K->Option (Ob K)
 |.box cs=>(jk f cs).map .box
 |.opn ..=>none
 |o=>some o
def CW(m:List Nat):Ob K->Option (Ob K):=kt fun h=>m.idxOf? h
def tM(m:List Nat):Ob K->Option (Ob K):=kt fun h=>m[h]?
def mi(f:Ob K->Option (Ob K)):List (Ob K)->Option (List (Ob K))
 |[]=>some []
 |o::r=>match f o,mi f r with
  |some x,some l=>some (x::l)
  |_,_=>none
def reach(H:List (Ob K)):Nat->List Nat->List Nat->List Nat
 |0,_,acc=>acc
 |_,[],acc=>acc
 |n+1,h::r,acc=>if acc.contains h then reach H n r acc else
   reach H n (r++(match H[h]? with|some (.box cs)=>cr cs|_=>[])) (acc++[h])
def tL(H:List (Ob K)):List Nat->Bool
 |[]=>true
 |h::m=>decide (h<H.length)&&(!m.contains h&&tL H m)
def jl:List (Ob K)->List Nat->List (Ob K)->List (Ob K)
 |H,h::m,o::r=>jl (H.set h o) m r
 |H,_,_=>H
def N2(D:bH K):Ob K->Bool
 |.arr c _=> !eI (D.cells c (K.zero c))
 |.tree ..=>true
 |_=>false
def kX(cx:Cx K)(m:Mode)(H:List (Ob K))(f:FuncId)(args:List (AV K)):Option (AV K×List (Ob K)×Bool×List Nat):=
 match m with
 |.plain=>if g9 (lP cx.D H args)then match cx.call f (lP cx.D H args) []with
     |some (r,[],c)=>if r.closed&&(!iL r|| !tP args)then some (r,H,c,[])else none
     |_=>none else none
 |.jo=>if g9 (lP cx.D H args)&& !tP args then match cx.call f (lP cx.D H args) []with
     |some (r,Hn,c)=>match back ((List.range Hn.length).map (H.length+·)) r,mi (tM ((List.range Hn.length).map (H.length+·))) Hn with
      |some r',some tR=>some (r',H++tR,c,[])
      |_,_=>none
     |none=>none else none
 |.fresh=>if g9 (lP cx.D H args)then match cx.call f (lP cx.D H args) []with
     |some (r,Hn,c)=>if !iL r&&Hn.all (N2 cx.D)then match back ((List.range Hn.length).map (H.length+·)) r,mi (tM ((List.range Hn.length).map (H.length+·))) Hn with
      |some r',some tR=>some (r',H++tR,c,[])
      |_,_=>none else none
     |none=>none else none
 |.jH|.bg=>none
 |.pass=>if !tL H (reach H 64 (cr args) [])then none else match OT (reach H 64 (cr args) []) args,mi (CW (reach H 64 (cr args) [])) ((reach H 64 (cr args) []).map fun h=>H.getD h .dead)with
     |some args',some Hi=>match cx.call f args' Hi with
      |some (r,Ho,c)=>
       match back (reach H 64 (cr args) []++(List.range (Ho.length-Hi.length)).map (H.length+·)) r,mi (tM (reach H 64 (cr args) []++(List.range (Ho.length-Hi.length)).map (H.length+·))) Ho with
       |some r',some ij=>if Hi.length<=Ho.length then some (r',jl H (reach H 64 (cr args) []) (ij.take Hi.length)++ij.drop Hi.length,c,reach H 64 (cr args) [])else none
       |_,_=>none
      |none=>none
     |_,_=>none
def tU(cx:Cx K)(m:Mode)(H:List (Ob K))(f:FuncId)(args:List (AV K)):Option (AV K×List (Ob K)×Bool×List Nat):=
 kX cx m (iZ H (cr args)) f (ou (iZ H (cr args)) args)
def pN(q:Bool)(cx:Cx K)(H:List (Ob K))(f:FuncId)(args:List (AV K)):Option (AV K×List (Ob K)×Bool×List Nat):=
 match cx.mode f with
 |.plain=>kX cx .plain H f args
 |.jH=>match kX cx .plain H f args with
   |some r=>some r
   |none=>if q then none else tU cx .plain H f args
 |.jo=>if q then none else tU cx .jo H f args
 |.pass=>if q then none else kX cx .pass H f args
 |.bg=>if q then none else tU cx .pass H f args
 |.fresh=>if q then none else match kX cx .jo H f args with
   |some r=>some r
   |none=>match kX cx .fresh H f args with
    |some r=>some r
    |none=>tU cx .jo H f args
def ml:List Nat->Bool
 |[]=>true
 |x::r=> !r.contains x&&ml r
def C9(D:bH K)(H:List (Ob K)):AV K->Option (AV K)
 |.sl h=>match H[h]? with
   |some (.arr c l)=>if eI (D.cells c (K.zero c))then none else some (.an c l)
   |some (.tree c l)=>some (.an c l)
   |_=>none
 |.dn=>some .dn
 |.int k n=>some (.int k n)
 |.bool b=>some (.bool b)
 |.str s=>some (.str s)
 |.dx=>some .dx
 |_=>none
def nb(D:bH K)(H:List (Ob K)):List (AV K)->Option (List (AV K))
 |[]=>some []
 |v::r=>match C9 D H v,nb D H r with
  |some x,some l=>some (x::l)
  |_,_=>none
def wb(D:bH K)(H:List (Ob K)):List (AV K)->Option (List (AV K))
 |[]=>some []
 |v::r=>match nb D H v.cw,wb D H r with
  |some cs,some l=>some (.agg cs::l)
  |_,_=>none
def gd(H:List (Ob K)):List Nat->List (Ob K)
 |[]=>H
 |h::r=>gd (H.set h .dead) r
def pS(H:List (Ob K))(c:K.U):AV K->Option (List (K.El c)×List Nat)
 |.dn=>some ([],[])
 |.sl h=>match H[h]? with
   |some (.tree c' l)=>match K.jS c' c with
    |.isTrue e=>some (e ▸ l,[h])
    |.isFalse _=>none
   |_=>none
 |_=>none
def wh(cx:Cx K)(ev:Operand->AV K)(H:List (Ob K)):Op->Option (AV K×List (Ob K)×Bool×List Nat)
 |.makeSlice t len cap=>match elemOf? cx.P t with
   |none=>none
   |some e=>match pY cx e,(zeroOf cx.P e:Option (AV K)),ev len,ev cap with
    |some c,some z,.int _ n,.int _ m=>if cx.deep c=true/\fm cx.P e=some (K.sz c)/\room e cx.P=true/\z.known=true then
      match nb cx.D [] z.cw with
      |some zs=>match cx.D.dec c zs with
       |some (y,b)=>some (.sl H.length,H++[.tree c (List.replicate n.toNat y)],b&&(decide (0<=n)&&(decide (n<=m)&&decide (m<=1073741824))),[])
       |none=>none
      |none=>none
     else none
    |_,_,_,_=>none
 |.buildSlice t len parts=>match elemOf? cx.P t with
   |none=>none
   |some e=>match pY cx e,inOrder ev 0 parts.toList with
    |some c,some l=>if cx.deep c=true/\fm cx.P e=some (K.sz c)/\nf cx.P e=true/\l.length=len/\len<=4096/\K.sz c<=4096/\l.all (fun v=>v.known&&decide (v.cw.length=K.sz c))=true/\ml (cr l)=true then
      match wb cx.D H l with
      |some l'=>match oe cx.D c l' with
       |some (y,b)=>some (.sl H.length,gd H (cr l)++[.tree c y],b,cr l)
       |none=>none
      |none=>none
     else none
    |_,_=>none
 |.store t p x=>match ev p,fm cx.P t with
   |.ep h st i off,some n=>match H[h]? with
     |some (.tree c l)=>if st=K.sz c/\off+n<=K.sz c/\(ev x).cw.length=n/\(ev x).cw.all AV.one=true/\ml (h::cr (ev x).cw)=true then
       match nb cx.D H (ev x).cw with
       |some xs=>match cx.D.dec c (setCells (cx.D.cells c (l.getD i (K.zero c))) off xs)with
        |some (y,b)=>some (.any,(gd H (h::cr (ev x).cw)).set h (.tree c (l.set i y)),b,h::cr (ev x).cw)
        |none=>none
       |none=>none
      else none
     |_=>none
   |_,_=>none
 |.call {callee:=.builtin .append,args,argTypes}=>match args.toList,argTypes.toList with
   |[s,x],[sT,xT]=>if(yM cx.P xT).isSome||(cx.P.underlying xT).isNone then none else match elemOf? cx.P sT with
     |none=>none
     |some e=>match pY cx e with
      |none=>none
      |some c=>if cx.deep c=true/\fm cx.P e=some (K.sz c)/\room e cx.P=true/\nf cx.P e=true then
        match pS H c (ev s),pS H c (ev x)with
        |some (l,hs),some (m,hs')=>if ml (hs++hs')then some (.sl H.length,gd H (hs++hs')++[.tree c (l++m)],decide (l.length+m.length<=1073741824),hs++hs')else none
        |_,_=>none
       else none
   |_,_=>none
 |_=>none
def wj(_cx:Cx K)(_ev:Operand->AV K)(_H:List (Ob K)):Op->Option (AV K×List (Ob K)×Bool×List Nat):=fun _=>none
def Jj:List (Ob K)->Option Nat
 |[]=>none
 |.opn ..::_=>some 0
 |_::r=>(Jj r).map (· +1)
def shut(_D:bH K)(H:List (Ob K)):Option (List (Ob K)×Bool×List Nat):=
 match Jj H with
 |none=>some (H,true,[])
 |some _=>none
def ae5(q:Bool)(cx:Cx K)(H:List (Ob K))(f:FuncId)(args:List (AV K)):Option (AV K×List (Ob K)×Bool×List Nat):=
 if cx.opn&& !cx.lz&& !q then match pN q cx H f args with
  |some (r,H1,c,t)=>match shut cx.D H1 with
   |some (H2,b,t2)=>some (r,H2,c&&b,t++t2)
   |none=>none
  |none=>none
 else pN q cx H f args
def guardOf(ops:List Oper)(o:Oper):Option (Option (Nat×Bool)):=
 match o.guard with
 |none=>some none
 |some (j,w)=>match ops[j]? with
  |some g=>match g.dst with
   |some t=>some (some (t,w))
   |none=>none
  |none=>none
def uj(st:St K)(wr:List Nat)(dst:Option Nat)(v:AV K)(H:List (Ob K))(ok:Bool):Option (St K×List Nat):=
 match dst with
 |none=>some (⟨st.tm,H,ok⟩,wr)
 |some d=>if wr.contains d||decide (st.tm.length<=d)then none else some (⟨st.tm.set d v,H,ok⟩,d::wr)
def wi(cx:Cx K)(ev:Operand->AV K)(H:List (Ob K))(op:Op):Option (AV K×List (Ob K)×Bool×List Nat):=
 match wh cx (fun x=>eE H (ev x)) H op with
 |some r=>some r
 |none=>match pT ev op with
 |[]=>ui cx (fun x=>eE H (ev x)) H op
 |hs=>match uh cx (fun x=>eE (iZ H hs) (ev x)) (iZ H hs) op with
  |some (v,c)=>some (v,iZ H hs,c,[])
  |none=>ui cx (fun x=>eE (iZ H hs) (ev x)) (iZ H hs) op
def Jk:Operand->Bool
 |.const (.slice none 0 0)=>true
 |_=>false
def ja(cx:Cx K):Op->Bool
 |.assign x=> !Jk x
 |.slice t ..=>OQ cx.P t
 |.load t _=> !cx.opn||(cx.lz&&(cx.ni t).all Option.isNone)
 |.makeFunc .. |.move _|.pick .. |.binOp .. |.unOp .. |.extract .. |.field .. |.fieldAddr .. |.indexAddr .. |.index .. |.nilCheck _=>true
 |.convert _ dst _=>(elemOf? cx.P dst).isNone
 |.call {callee:=.builtin .len, ..}|.call {callee:=.builtin .min, ..}|.call {callee:=.builtin .max, ..}=>true
 |.call {callee:=.value (.func f), ..}=>cx.mode f== .plain&&(!cx.opn||cx.lz)
 |_=>false
def cutV(_cx:Cx K)(_ev:Operand->AV K)(_H:List (Ob K)):Op->Option (AV K×List (Ob K)×Bool×List Nat):=fun _=>none
def yX(cx:Cx K)(ev:Operand->AV K)(H:List (Ob K)):Op->Option (AV K×List (Ob K)×Bool×List Nat)
 |.buildSlice t len parts=>match elemOf? cx.P t with
   |none=>none
   |some e=>match cx.ty e,inOrder ev 0 parts.toList with
    |some c,some l=>if fm cx.P e=some (K.sz c)/\nf cx.P e=true/\l.length=len/\len<=4096/\K.sz c<=4096/\l.all (fun v=>g9 v.cw&&(v.known&&decide (v.cw.length=K.sz c)))=true then
      match oe cx.D c l with
      |some (y,b)=>some (.an c y,H,b,[])
      |none=>none
     else none
    |_,_=>none
 |_=>none
def lj(q:Bool)(cx:Cx K)(tm:List (AV K))(gs:List (Nat×Bool))(H:List (Ob K))(T:TypeId):Op->Option (AV K×List (Ob K)×Bool×List Nat)
 |.pick c x y=>match c,dP tm gs c with
   |.tmp t,.bool b=>match known cx t with
     |some b0=>some (cond b0 (dP tm gs x) (dP tm gs y),H,b==b0,[])
     |none=>some (merge b (dP tm ((t,true)::gs) x) (dP tm ((t,false)::gs) y),H,true,[])
   |.const _,.bool b=>some (merge b (dP tm gs x) (dP tm gs y),H,true,[])
   |_,_=>none
 |.call {callee:=.value f,args, ..}=>match dP tm gs f with
   |.fn g caps=>ae5 q cx H g (args.toList.map (fun x=>eE H (dP tm gs x))++caps)
   |_=>none
 |.assign x=>if !q&&Jk x then match elemOf? cx.P T with
     |some e=>match cx.ty e with
      |some c=>some (.sl H.length,H++[cond (cx.deep c) (.tree c []) (.arr c [])],true,[])
      |none=>some (dP tm gs x,H,true,[])
     |none=>some (dP tm gs x,H,true,[])
   else some (eE H (dP tm gs x),H,true,[])
 |op=>match uh cx (fun x=>eE H (dP tm gs x)) H op with
  |some (v,c)=>some (v,H,c,[])
  |none=>if q then yX cx (fun x=>eE H (dP tm gs x)) H op else if ja cx op then none else match wj cx (dP tm gs) H op with
   |some r=>some r
   |none=>match cutV cx (dP tm gs) H op with
   |some r=>some r
   |none=>wi cx (dP tm gs) H op
def nq(cx:Cx K):Op->Bool
 |.assign _=>true
 |.slice t ..=> !cx.cut||OQ cx.P t
 |.call {callee:=.value (.func f), ..}=>cx.mode f== .plain||cx.mode f== .jH
 |op=>ja cx op
def aew(cx:Cx K):Op->Bool
 |.buildSlice ..=>true
 |op=>nq cx op
def iM(q:Bool)(cx:Cx K)(ops:List Oper)(tm:List (AV K))(H:List (Ob K))(wr:List Nat)(o:Oper):Option (AV K×List (Ob K)×Bool):=
 match guardOf ops o with
 |none=>none
 |some none=>match lj q cx tm [] H o.type o.op with
  |some (v,H',c,_)=>if v.jr then none else some (v,H',c)
  |none=>none
 |some (some (g,w))=>match known cx g with
  |some b0=>match tm[g]? with
   |some (.bool b)=>if b0=w then match lj q cx tm [] H o.type o.op with
     |some (v,H',c,_)=>if v.jr then none else some (v,H',c&&(b==b0))
     |none=>none
    else some (.any,H,b==b0)
   |_=>none
  |none=>match vZ tm 6 (g,w)with
   |none=>none
   |some b=>if aew cx o.op&&wr.contains g then match lj true cx tm [(g,w)] H o.type o.op with
     |some (v,_,c,_)=>some (.opt g w v,H,c|| !b)
     |none=>none else none
def uk(cx:Cx K)(ops:List Oper)(st:St K)(wr:List Nat)(o:Oper):Option (St K×List Nat):=
 match iM false cx ops st.tm st.H wr o with
 |some (v,H',c)=>uj st wr o.dst v H' (c&&st.ok)
 |none=>none
def aeO(cx:Cx K)(ops:List Oper):List Oper->St K->List Nat->Option (St K×List Nat)
 |[],st,wr=>some (st,wr)
 |o::r,st,wr=>match uk cx ops st wr o with
  |some (st',wr')=>aeO cx ops r st' wr'
  |none=>none
def js(tm:List (AV K)):List Nat->List (AV K)
 |[]=>tm
 |d::r=>match tm[d]? with
  |some (.opt ..)=>js (tm.set d .any) r
  |_=>js tm r
def iF:List Oper->List Nat->List Nat
 |[],acc=>acc
 |o::r,acc=>iF r (acc++[o.after.toList.foldl (fun s e=>s|||2^e.on|||acc.getD e.on 0) 0])
def eO(bits:Nat):List Oper->Nat->List (AV K)->List (AV K)
 |[],_,tm=>tm
 |o::r,i,tm=>eO bits r (i+1) (match o.dst with
  |some d=>if bits.testBit i then tm else tm.set d .any
  |none=>tm)
def yY(i:Nat):Nat->List Nat->Nat
 |_,[]=>0
 |k,b::r=>(cond (b.testBit i) (2^k) 0)|||yY i (k+1) r
def fe(bs:List Nat)(i:Nat):Nat:=bs.getD i 0|||yY i 0 bs
def mo(cx:Cx K)(ops:List Oper)(bs:List Nat):List Oper->Nat->St K->List Nat->Option (St K×List Nat)
 |[],_,st,wr=>some (st,wr)
 |o::r,i,st,wr=>match iM true cx ops (eO (fe bs i) ops 0 st.tm) st.H wr o with
  |some (v,_,c)=>match uj st wr o.dst v st.H (c&&st.ok)with
   |some (st',wr')=>mo cx ops bs r (i+1) st' wr'
   |none=>none
  |none=>none
def jV:List Oper->Nat->Bool
 |[],_=>true
 |o::r,i=>(o.after.toList.all fun e=>decide (e.on<i)&&Region.binds .any e)&&jV r (i+1)
def iN(bits:Nat):Nat->List (Ob K)->List (Ob K)
 |_,[]=>[]
 |i,o::r=>(if bits.testBit i then .dead else o)::iN bits (i+1) r
def kF(bits:Nat):Nat->List (Ob K)->List (Ob K)->List (Ob K)
 |i,o::r,o'::r'=>(if bits.testBit i then o else o')::kF bits (i+1) r r'
 |_,[],r'=>r'
 |_,_::_,[]=>[]
mutual
def AV.upto(n:Nat):AV K->Bool
 |.ptr h _|.sl h|.ep h _ _ _|.np h|.vw h _ _ _=>decide (h<n)
 |.fn _ l|.agg l|.bC l=>ov n l
 |.opt _ _ v=>v.upto n
 |_=>true
def ov(n:Nat):List (AV K)->Bool
 |[]=>true
 |v::r=>v.upto n&&ov n r
end
def Ob.upto(n:Nat):Ob K->Bool
 |.box cs=>ov n cs
 |.opn _ _ _ _ cs=>ov n cs
 |_=>true
def mq(ev:Operand->AV K)(op:Op):List Nat:=
 pT ev op++(match op with
  |.store _ p _=>hands (ev p)
  |.call {callee:=.builtin .append,args, ..}=>(match args.toList with
    |s::x::_=>hands (ev s)++hands (ev x)
    |[s]=>hands (ev s)
    |[]=>[])
  |.call {callee:=.builtin .clear,args, ..}=>(match args.toList with
    |s::_=>hands (ev s)
    |[]=>[])
  |.call {callee:=.builtin .copy,args, ..}=>(match args.toList with
    |s::_=>hands (ev s)
    |[]=>[])
  |_=>[])
def rI(cx:Cx K):Op->Bool
 |.box .. |.alloc _|.build .. |.store .. |.makeSlice .. |.buildSlice .. |.convert .. |.slice ..=>true
 |.call {callee:=.builtin .append, ..}=>true
 |.call {callee:=.value (.func f), ..}=>(cx.mode f== .fresh||(cx.mode f== .pass||cx.mode f== .bg))&&(!cx.opn||cx.lz)
 |.load ..=>cx.opn&&cx.lz
 |_=>false
def Jl(ev:Operand->AV K):Op->List Nat
 |.call {callee:=.value _,args, ..}=>cr (args.toList.map ev)
 |_=>[]
def wz(cx:Cx K)(H:List (Ob K))(ev:Operand->AV K):Op->List Nat
 |.call {callee:=.value (.func f),args, ..}=>(match cx.mode f with
   |.pass=>reach H 64 (cr (args.toList.map fun y=>eE H (ev y))) []
   |.bg=>cr (args.toList.map fun y=>eE H (ev y))++reach (iZ H (cr (args.toList.map fun y=>eE H (ev y)))) 64 (cr (ou (iZ H (cr (args.toList.map fun y=>eE H (ev y)))) (args.toList.map fun y=>eE H (ev y)))) []
   |_=>[])
 |_=>[]
def bitsOf:List Nat->Nat
 |[]=>0
 |h::r=>2^h|||bitsOf r
def wA(cx:Cx K)(ops:List Oper)(tm:List (AV K))(H:List (Ob K))(wr:List Nat)(o:Oper):Option (AV K×List (Ob K)×Bool):=
 if nq cx o.op then iM true cx ops tm H wr o else if rI cx o.op then iM false cx ops tm H wr o else none
def ow(cx:Cx K)(tm:List (AV K))(H:List (Ob K))(op:Op):List Nat:=if nq cx op then[]else match op with
 |.load t p=>(match uh cx (fun x=>eE H (dP tm [] x)) H (.load t p)with
   |some _=>[]
   |none=>hands (dP tm [] p))
 |op=>(mq (dP tm []) op++Jl (dP tm []) op)++wz cx H (dP tm []) op
def wB(A:Nat):Nat->List Nat->Nat
 |_,[]=>0
 |k,b::r=>(if A.testBit k then 0 else b)|||wB A (k+1) r
def DD(A:Nat)(T:List Nat):Nat->List (Nat×Nat)->Bool
 |_,[]=>true
 |i,(m,n)::r=>(A.testBit i||T.all fun h=>decide (n<=h)||m.testBit h)&&DD A T (i+1) r
def aex:Op->Option (List Operand)
 |.slice _ x _ _ _=>some [x]
 |.move _=>some []
 |.load _ p=>some [p]
 |.fieldAddr ..=>some []
 |.indexAddr _ x _=>some [x]
 |.nilCheck _=>some []
 |.store _ p x=>some [p,x]
 |.binOp ..=>some []
 |.unOp ..=>some []
 |_=>none
def OU(tm:List (AV K))(n:Nat)(op:Op):Nat:=
 match aex op with
 |none=>0
 |some l=>bitsOf ((List.range n).filter fun h=> !(cr (l.map (dP tm []))).contains h)
def pZ(bs ws:List Nat)(i:Nat)(tm:List (AV K))(n:Nat)(op:Op):Nat:=wB (bs.getD i 0) 0 ws|||OU tm n op
def qa(cx:Cx K)(ops:List Oper)(bs:List Nat):List Oper->Nat->St K->List Nat->List (Nat×Nat)->List Nat->Option (St K×List Nat)
 |[],_,st,wr,_,_=>some (st,wr)
 |o::r,i,st,wr,ms,ws=>
  if ov st.H.length (eO (fe bs i) ops 0 st.tm)&&(iN (pZ bs ws i (eO (fe bs i) ops 0 st.tm) st.H.length o.op) 0 st.H).all (Ob.upto st.H.length)then
   match wA cx ops (eO (fe bs i) ops 0 st.tm) (iN (pZ bs ws i (eO (fe bs i) ops 0 st.tm) st.H.length o.op) 0 st.H) wr o with
   |none=>none
   |some (v,H',c)=>
    if(DD (bs.getD i 0) (ow cx (eO (fe bs i) ops 0 st.tm) (iN (pZ bs ws i (eO (fe bs i) ops 0 st.tm) st.H.length o.op) 0 st.H) o.op) 0 ms&&(ow cx (eO (fe bs i) ops 0 st.tm) (iN (pZ bs ws i (eO (fe bs i) ops 0 st.tm) st.H.length o.op) 0 st.H) o.op).all fun h=> !(pZ bs ws i (eO (fe bs i) ops 0 st.tm) st.H.length o.op).testBit h&&decide (h<st.H.length))&&decide (st.H.length<=H'.length)then
     match uj st wr o.dst v (kF (pZ bs ws i (eO (fe bs i) ops 0 st.tm) st.H.length o.op) 0 st.H H') (c&&st.ok)with
     |some (st',wr')=>qa cx ops bs r (i+1) st' wr' (ms++[(pZ bs ws i (eO (fe bs i) ops 0 st.tm) st.H.length o.op,st.H.length)])
       (ws++[bitsOf (ow cx (eO (fe bs i) ops 0 st.tm) (iN (pZ bs ws i (eO (fe bs i) ops 0 st.tm) st.H.length o.op) 0 st.H) o.op++List.range' st.H.length (H'.length-st.H.length))])
     |none=>none
    else none
  else none
def ox(cx:Cx K)(ops:List Oper)(st:St K):Option (St K):=
 if(ops.all fun o=>nq cx o.op)&&jV ops 0 then match mo cx ops (iF ops []) ops 0 st []with
     |some (st',wr)=>some ⟨js st'.tm wr,st'.H,st'.ok⟩
     |none=>none
  else if jV ops 0 then match qa cx ops (iF ops []) ops 0 st [] [] []with
   |some (st',wr)=>some ⟨js st'.tm wr,st'.H,st'.ok⟩
   |none=>none
  else none
def yZ(π:List Nat)(n:Nat):Bool:=decide (π.length=n)&&(π.all (fun i=>decide (i<n))&&((List.range n).all (fun i=>π.contains i)&&ml π))
def um(π:List Nat)(n:Nat)(o:Oper):Oper:=
 {o with after:=(o.after.filter (Region.binds .any)).map (fun e=>{e with on:=(π.idxOf? e.on).getD n}),guard:=o.guard.map fun g=>((π.idxOf? g.1).getD n,g.2)}
def permuted(π:List Nat)(ops:List Oper):List Oper:=π.map fun i=>match ops[i]? with
 |some o=>um π ops.length o
 |none=>{dst:=none,op:=.move (.const .nilIface),type:=0,pos:= "",after:= #[],guard:=none}
def OV(cx:Cx K)(ops:List Oper)(bs:List Nat):List Nat:=
 match(List.range ops.length).foldl (fun acc i=>match ops[i]? with
  |some o=>if rI cx o.op&&(!nq cx o.op&& !acc.contains i)then acc++((List.range ops.length).filter fun j=>(bs.getD i 0).testBit j&& !acc.contains j)++[i]else acc
  |none=>acc) []with
 |acc=>acc++(List.range ops.length).filter fun j=> !acc.contains j
def y6(cx:Cx K)(ops:List Oper)(π:List Nat)(st:St K):Option (St K):=
 if yZ π ops.length then ox cx (permuted π ops) st else none
def Jm(cx:Cx K)(ops:List Oper)(st:St K):Option (St K):=
 if jV ops 0 then match ox cx ops st with
  |some r=>some r
  |none=>y6 cx ops (OV cx ops (iF ops [])) st
 else match y6 cx ops (List.range ops.length) st with
  |some r=>some r
  |none=>y6 cx ops (OV cx ops (iF (permuted (List.range ops.length) ops) [])) st
def iO(cx:Cx K)(ops:List Oper)(draw:Bool)(st:St K):Option (St K):=
 if draw then Jm cx ops st
 else match aeO cx ops ops st []with
  |some (st',wr)=>some ⟨js st'.tm wr,st'.H,st'.ok⟩
  |none=>none
def writes:Code->List Nat
 |.region _ ops _=>ops.toList.filterMap (·.dst)
 |.seq a b=>writes a++writes b
 |.cond _ a b=>writes a++writes b
 |.block _ c=>writes c
 |.loop c=>writes c
 |.scope c=>writes c
 |.rangeFunc _ ps a c=>ps.toList++writes a++writes c
 |_=>[]
def simple(cx:Cx K):Code->Bool
 |.skip=>true
 |.region _ ops _=>ops.toList.all fun o=>ja cx o.op
 |.seq a b=>simple cx a&&simple cx b
 |.cond _ a b=>simple cx a&&simple cx b
 |_=>false
def jt(b:Bool)(wr:List Nat):Nat->List (AV K)->List (AV K)->List (AV K)->List (AV K)
 |n,v::r,x::s,y::t=>(if wr.contains n then merge b x y else v)::jt b wr (n+1) r s t
 |_,_,_,_=>[]
def ek(tm:List (AV K)):List Nat->List (AV K)->List (AV K)
 |d::r,v::s=>ek (tm.set d v) r s
 |_,_=>tm
def keyOf:Code->Nat
 |.region id _ _=>id
 |.seq a _=>keyOf a
 |.cond _ a _=>keyOf a
 |.block _ c=>keyOf c
 |.loop c=>keyOf c
 |_=>0
def inLoop(H:List (Ob K))(vals:List (AV K)):Option (List Nat×List (AV K)×List (Ob K)):=
 if tL H (reach H 64 (cr vals) [])then match OT (reach H 64 (cr vals) []) vals,mi (CW (reach H 64 (cr vals) [])) ((reach H 64 (cr vals) []).map fun h=>H.getD h .dead)with
  |some kG,some Hi=>some (reach H 64 (cr vals) [],kG,Hi)
  |_,_=>none
 else none
def gZ(m:List Nat)(n k:Nat):List Nat:=m++(List.range (k-m.length)).map (n+·)
def DF(L:bE K)(m:List Nat)(st:St K)(vs:List (AV K))(Ho:List (Ob K)):Option (St K):=
 match aev (gZ m st.H.length Ho.length) vs,mi (tM (gZ m st.H.length Ho.length)) Ho with
 |some vs',some ij=>if m.length<=Ho.length then some ⟨ek (List.replicate L.n .any) L.outs vs',jl st.H m (ij.take m.length)++ij.drop m.length,st.ok⟩else none
 |_,_=>none
def Jn(ops:List Oper):List Nat:=(ops.filterMap fun o=>match guardOf ops o with
 |some (some (g,_))=>some g
 |_=>none).eraseDups
def y8(cx:Cx K)(ops:List Oper)(draw:Bool)(st:St K):List Nat->Option (Bool×St K×St K)
 |[]=>none
 |t::r=>match iO {cx with gs:=[(t,true)]} ops draw st,iO {cx with gs:=[(t,false)]} ops draw st with
  |some s1,some s2=>match s1.tm.getD t .any with
   |.bool b=>some (b,s1,s2)
   |_=>y8 cx ops draw st r
  |_,_=>y8 cx ops draw st r
inductive ir (K:dh) where
 |no
 |leaf (s:St K)
 |node (b:Bool) (x y:ir K)
 |two (x y:St K)
def ir.go(cx:Cx K):ir K->{R:Type}->(St K->Option R)->Option R
 |.no,_,_=>none
 |.leaf s,_,k=>k s
 |.node b x y,_,k=>cond b (x.go cx k) (y.go cx k)
 |.two x y,_,k=>cx.yD (k x) (k y)
def uo(cx:Cx K)(ops:List Oper):List Oper->St K->List Nat->St K×List Oper
 |[],st,_=>(st,[])
 |o::r,st,wr=>match uk cx ops st wr o with
  |some (st',wr')=>uo cx ops r st' wr'
  |none=>(st,o::r)
def DG(cx:Cx K)(st:St K):List Nat->Option (Nat×Bool)
 |[]=>none
 |t::r=>match known cx t with
  |some _=>DG cx st r
  |none=>match st.tm[t]? with
   |some (.bool b)=>some (t,b)
   |_=>DG cx st r
def OW(st:St K):List Oper->Bool
 |[]=>false
 |o::_=>match o.op with
  |.nilCheck (.tmp t)=>match st.tm[t]? with
    |some .dx=>true
    |some (.opt _ _ .dx)=>true
    |_=>false
  |_=>false
def y9(cx:Cx K)(ops:List Oper)(draw:Bool)(st:St K):Nat->List (Nat×Bool)->Option (ir K)
 |0,_=>none
 |n+1,gs=>match iO {cx with gs:=gs} ops draw st with
  |some s=>some (.leaf s)
  |none=>match iO {cx with call:=cx.alt true,mode:=cx.pX true,gs:=gs} ops draw st,iO {cx with call:=cx.alt false,mode:=cx.pX false,gs:=gs} ops draw st with
   |some s1,some s2=>some (.two s1 s2)
   |_,_=>match DG {cx with gs:=gs} (uo {cx with gs:=gs} ops ops st []).1 (Jn ops)with
    |some (t,b)=>match y9 cx ops draw st n ((t,true)::gs),y9 cx ops draw st n ((t,false)::gs)with
     |some x,some y=>some (.node b x y)
     |_,_=>none
    |none=>if OW (uo {cx with gs:=gs} ops ops st []).1 (uo {cx with gs:=gs} ops ops st []).2 then some .no else none
def za(cx:Cx K)(ops:List Oper)(draw:Bool)(st:St K):Nat->List (Nat×Bool)->Option (ir K)
 |0,_=>none
 |n+1,gs=>match iO {cx with gs:=gs} ops draw st with
  |some s=>some (.leaf s)
  |none=>match DG {cx with gs:=gs} (uo {cx with gs:=gs} ops ops st []).1 (Jn ops)with
   |some (t,b)=>match za cx ops draw st n ((t,true)::gs),za cx ops draw st n ((t,false)::gs)with
    |some x,some y=>some (.node b x y)
    |_,_=>none
   |none=>if OW (uo {cx with gs:=gs} ops ops st []).1 (uo {cx with gs:=gs} ops ops st []).2 then some .no else none
def ir.DI:ir K->{R:Type}->(St K->Option R)->Option R
 |.leaf s,_,k=>k s
 |.node b x y,_,k=>cond b (x.DI k) (y.DI k)
 |_,_,_=>none
def wC:Ex->St K->Option (St K)
 |.normal,st=>some st
 |_,_=>none
def gi(cx:Cx K):Code->{R:Type}->St K->(Ex->St K->Option R)->Option R
 |.skip,_,st,k=>k .normal st
 |.region _ ops draw,_,st,k=>match iO cx ops.toList draw st with
   |some st'=>k .normal st'
   |none=>match y8 cx ops.toList draw st (Jn ops.toList)with
    |some (b,s1,s2)=>cond b (k .normal s1) (k .normal s2)
    |none=>if(ops.toList.all fun o=>ja cx o.op)=true then match za cx ops.toList draw st 4 []with
      |some T=>T.DI (k .normal)
      |none=>none
     else match iO {cx with call:=cx.alt true,mode:=cx.pX true} ops.toList draw st,iO {cx with call:=cx.alt false,mode:=cx.pX false} ops.toList draw st with
     |some s1,some s2=>cx.yD (k .normal s1) (k .normal s2)
     |_,_=>match y9 cx ops.toList draw st 4 []with
      |some T=>T.go cx (k .normal)
      |none=>none
 |.seq a b,_,st,k=>gi cx a st fun e s=>match e with
   |.normal=>gi cx b s k
   |e=>k e s
 |.cond c a b,_,st,k=>match dP st.tm [] c with
   |.bool t=>if simple cx a&&simple cx b then
       match gi cx a st wC,gi cx b st wC with
       |some sa,some sb=>k .normal ⟨jt t (writes a++writes b) 0 st.tm sa.tm sb.tm,st.H,(sa.ok|| !t)&&(sb.ok||t)⟩
       |_,_=>none
     else cond t (gi cx a st k) (gi cx b st k)
   |_=>none
 |.block id c,_,st,k=>gi cx c st fun e s=>match e with
   |.exit i=>if i=id then k .normal s else k (.exit i) s
   |e=>k e s
 |.loop c,_,st,k=>match cx.loop (keyOf c)with
   |some L=>if st.tm.length=L.n then match inLoop st.H (L.ins.map fun t=>st.tm.getD t .any)with
     |some (m,vals,Hi)=>L.run vals Hi fun e vs Ho=>match DF L m st vs Ho with
      |some st'=>k e st'
      |none=>none
     |none=>none else none
   |none=>none
 |.exit id,_,st,k=>k (.exit id) st
 |.ret,_,st,k=>k .ret st
 |_,_,_,_=>none
def rJ(cx:Cx K)(st:St K):List ResultVar->Option (List (AV K))
 |[]=>some []
 |.tmp t::r=>match rJ cx st r with
   |some l=>some (st.tm.getD t .any::l)
   |none=>none
 |.cell a t::r=>match Dz cx.P cx.D st.H t (st.tm.getD a .any),rJ cx st r with
   |some v,some l=>some (v::l)
   |_,_=>none
def resV(cx:Cx K)(fn:Func)(st:St K):Option (AV K):=
 match rJ cx st fn.results.toList with
 |some [v]=>some (eE st.H v)
 |some l=>some (.bC (ou st.H l))
 |none=>none
def uu{α β:Type}(f:α->Option β):List α->Option (List β)
 |[]=>some []
 |x::r=>match f x,uu f r with
  |some y,some l=>some (y::l)
  |_,_=>none
def rK(src:List (Option Nat))(h:Nat):Option Nat:=src.idxOf? (some h)
def rL(n0 n:Nat):Nat->List (Option Nat)->Bool
 |_,[]=>true
 |i,none::r=>decide (i<n0)&&rL n0 n (i+1) r
 |i,some h::r=>decide (h<n)&&((decide (n0<=i)||decide (h=i))&&(!r.contains (some h)&&rL n0 n (i+1) r))
def uv(src:List (Option Nat))(H:List (Ob K)):Option Nat->Option (Ob K)
 |none=>some .dead
 |some h=>match H[h]? with
  |some o=>kt (rK src) o
  |none=>none
def qb(n0:Nat)(src:List (Option Nat))(keep:List Nat)(st:St K):Option (St K):=
 if rL n0 st.H.length 0 src&&decide (n0<=src.length)then
  match jk (rK src) (keep.map fun t=>st.tm.getD t .any),uu (uv src st.H) src with
  |some vs,some H=>some ⟨ek (List.replicate st.tm.length .any) keep vs,H,st.ok⟩
  |_,_=>none
 else none
def uw(n0:Nat)(keep:List Nat)(st:St K):Option (St K):=
 qb n0 ((reach st.H 64 (List.range n0++cr (keep.map fun t=>st.tm.getD t .any)) []).map some) keep st
def rM(cx:Cx K)(s:St K):Option (Bool×St K):=match Jj s.H with
 |none=>some (true,s)
 |some _=>match shut cx.D s.H with
  |some (H',b,_)=>some (b,⟨s.tm,H',s.ok⟩)
  |none=>none
def DJ(cx:Cx K)(n0:Nat)(keep outs:List Nat)(body:Code)(st:St K):Option (St K⊕Ex×St K):=
 gi cx body st fun e s=>cond s.ok (match e with
  |.normal=>match rM cx s with
    |some (b,s1)=>cond b (match uw n0 keep s1 with
     |some s'=>some (.inl s')
     |none=>none) none
    |none=>none
  |e=>match rM cx s with
   |some (b,s1)=>cond b (match uw n0 outs s1 with
    |some s'=>some (.inr (e,s'))
    |none=>none) none
   |none=>none) none
def Jo(n0:Nat)(src:List (Option Nat))(v:AV K)(H:List (Ob K)):Option (AV K×List (Ob K)):=
 if rL n0 H.length 0 src&&decide (n0<=src.length)then
  match fH (rK src) v,uu (uv src H) src with
  |some v',some H'=>some (v',H')
  |_,_=>none
 else none
def pack(n0:Nat)(v:AV K)(H:List (Ob K)):Option (AV K×List (Ob K)):=
 Jo n0 ((reach H 64 (List.range n0++hands v) []).map some) v H
def Jp(H:List (Ob K))(h:Nat):Bool:=match H[h]? with
 |some (.arr ..)=>false
 |some (.gK ..)=>false
 |some (.tree ..)=>false
 |_=>true
def aey(n0:Nat)(v:AV K)(H:List (Ob K)):List (Option Nat):=
 ((List.range n0).map fun h=>cond (Jp H h) (some h) none)++((reach H 64 ((List.range n0).filter (Jp H)++hands v) []).filter fun h=> !(decide (h<n0)&&Jp H h)).map some
def DK(mv:Bool)(n0:Nat)(v:AV K)(H:List (Ob K)):Option (AV K×List (Ob K)):=
 Jo n0 (cond mv (aey n0 v H) ((reach H 64 (List.range n0++hands v) []).map some)) v H
def aez(cx:Cx K)(fn:Func)(n0:Nat)(e:Ex)(st:St K):Option (AV K×List (Ob K)):=
 match e with
 |.exit _=>none
 |_=>match resV cx fn st with
  |some v=>cond st.ok (pack n0 v st.H) none
  |none=>none
def atI(cx:Cx K)(fn:Func)(args:List (AV K))(H:List (Ob K)):Option (AV K×List (Ob K)):=
 match fn.body with
 |some c=>gi cx c ⟨args++List.replicate (fn.ntmps-args.length) .any,H,true⟩ (aez cx fn H.length)
 |none=>none
end Go.V
