/-
  A VALUE-LEVEL READING OF THE LOADED CODE: abstract values, objects, operations, and a function 'execC' that runs a body on them. Nothing here speaks of one program: the program is a parameter. The proofs that what it yields is what the machine does are in the texts that follow.
-/
import Derived.WalkKit
import Derived.KernelRfl
import Derived.Orders
universe u v
abbrev av := @Option.some.injEq
abbrev bk := @List.getElem?_eq_some_iff
abbrev aJ := @Prod.mk.injEq
abbrev bL := @List.getElem?_eq_getElem
abbrev bc := @Bool.and_eq_true
abbrev cn := @List.getElem?_append_left
abbrev cB := @List.getElem?_append_right
theorem bQ{α:Type u}{a:α}:(some a).isSome=true:=rfl
abbrev bP := @decide_eq_true_eq
theorem bH{α:Type u}{a b:α}:(some a).getD b=a:=rfl
theorem aT{α:Sort u}(a b:α):(bif true then a else b)=a:=rfl
theorem bY(n:Nat):(n:Int).toNat=n:=rfl
abbrev ca := @List.getElem_mem
abbrev ax := @if_neg
abbrev bU := @Bool.true_and
abbrev aC := @if_pos
abbrev bu := @Nat.le_refl
abbrev cG := @List.getElem?_take
abbrev bX := @Bool.and_true
abbrev dc := @Nat.mul_le_mul_right
abbrev dH := @Option.map_eq_some_iff
abbrev bZ := @Bool.true_or
theorem bF{α:Sort u}(a b:α):(bif false then a else b)=b:=rfl
abbrev eK := @List.getD_eq_getElem?_getD
theorem cV{α:Type u}{a:α}{as:List α}:(a::as).length=as.length+1:=rfl
abbrev cI := @Bool.and_self
abbrev cZ := @decide_eq_true
abbrev cz := @decide_true
abbrev du := @List.mem_append
abbrev eu := @List.getElem?_drop
abbrev dw := @decide_eq_false
abbrev cM := @Nat.lt_or_ge
abbrev fD := @List.getElem?_replicate
abbrev cF := @Nat.add_mul
abbrev dW := @List.all_eq_true
abbrev cX := @Int.ofNat_lt
abbrev gB := @Array.getElem?_eq_some_iff
abbrev fj := @List.mem_of_getElem?
abbrev ej := @decide_eq_decide
abbrev eE := @List.getElem?_set
abbrev iW := @List.eq_nil_of_length_eq_zero
abbrev eZ := @Bool.not_eq_true'
abbrev fm := @List.length_append
abbrev dB := @Nat.zero_add
abbrev iD := @decide_eq_false_iff_not
abbrev d5 := @Bool.not_true
abbrev fL := @List.getElem?_map
abbrev eQ := @Option.some.inj
abbrev j7 := @Array.getD_eq_getD_getElem?
abbrev gi := @Bool.false_eq_true
abbrev lr := @Array.getElem?_setIfInBounds
abbrev gZ := @beq_eq_false_iff_ne
abbrev eJ := @List.mem_cons
abbrev i3 := @List.getElem?_eq_none
abbrev dZ := @Nat.one_mul
abbrev fU := @Bool.or_eq_true
abbrev ew := @Nat.zero_le
abbrev iz := @Nat.eq_zero_or_pos
abbrev eU := @Nat.le_trans
abbrev iZ := @Nat.lt_of_lt_of_le
abbrev fF := @List.map_cons
abbrev jO := @List.length_replicate
abbrev gG := @List.length_set
abbrev iw := @List.length_take
abbrev gh := @Nat.add_assoc
abbrev jx := @List.ext_getElem?
abbrev fO := @Bool.or_self
abbrev kY := @List.getElem_of_mem
abbrev i4 := @Nat.not_lt_zero
abbrev jd := @Bool.eq_iff_iff
abbrev ix := @List.drop_zero
abbrev iE := @Bool.not_false
abbrev dN := @if_false
abbrev jQ := @List.drop_length
abbrev km := @List.size_toArray
abbrev dC := @if_true
abbrev qm := @Array.getElem?_eq_none
abbrev uo := @Array.getElem?_eq_getElem
abbrev tV := @List.pairwise_iff_getElem
abbrev jg := @Bool.or_true
abbrev ve := @List.take_append_of_le_length
abbrev oL := @Array.replicate_succ
abbrev tW := @List.not_all_eq_any_not
abbrev fe := @congrArg
abbrev ia := @decide_not
abbrev oN := @List.append_toArray
abbrev ue := @List.take_of_length_le
abbrev iH := @beq_iff_eq
abbrev kq := @Bool.or_false
abbrev qs := @List.mem_singleton
abbrev qz := @Bool.false_ne_true
abbrev ui := @List.contains_eq_mem
abbrev tX := @List.mem_cons_of_mem
abbrev qJ := @List.append_assoc
abbrev oM := @List.push_toArray
theorem kn{α:Type u}:([]:List α).length=0:=rfl
abbrev qp := @Bool.not_eq_true
abbrev od := @Bool.false_and
abbrev nX := @List.mem_range
abbrev wb := @Nat.eq_of_beq_eq_true
abbrev oQ := @List.append_nil
abbrev lI := @Nat.zero_mul
abbrev nY := @Bool.false_or
abbrev vX := @Bool.or_eq_false_iff
theorem lG{α:Type u}(as:List α):[]++as=as:=rfl
abbrev mr := @Nat.mul_one
abbrev zL := @Array.getElem?_replicate
abbrev iY := @or_false
abbrev uc := @List.nodup_cons
abbrev uM := @Nat.testBit_or
abbrev oO := @Nat.add_comm
abbrev qu := @Nat.sub_self
abbrev i9 := @Iff.rfl
abbrev tZ := @Nat.mul_comm
abbrev ug := @getElem!_pos
theorem jc{α:Type u}{a:α}{l:List α}{f:α->Bool}:(a::l).all f=(f a&&l.all f):=rfl
abbrev xc := @List.take_add_one
abbrev za := @Bool.eq_false_iff
abbrev lu := @Ne.symm
abbrev vf := @decide_false
theorem lh{α:Type u}{β:Type v}(a:α)(f:α->β):Option.map f (some a)=some (f a):=rfl
abbrev wY := @List.drop_drop
theorem mM{α:Type u}{a:α}{as bs:List α}:(a::as)++bs=a::(as++bs):=rfl
abbrev D8 := @List.mem_cons_self
abbrev DW := @of_decide_eq_true
abbrev zj := @List.mem_map
abbrev k9 := @not_or
abbrev AG := @List.take_length
abbrev AH := @beq_self_eq_true
abbrev Ej := @List.length_map
abbrev Hm := @Int.eq_ofNat_of_zero_le
namespace Go.V
open Go
structure cq where
 U:Type
 El:U->Type
 gP:DecidableEq U
 sz:U->Nat
 zero:(c:U)->El c
inductive AV (K:cq) where
 |any
 |int (k:IntKind) (n:Int)
 |bool (b:Bool)
 |str (s:List UInt8)
 |cL
 |ct
 |fn (f:Nat) (caps:List (AV K))
 |ptr (h off:Nat)
 |sl (h:Nat)
 |ep (h st i off:Nat)
 |ai (c:K.U) (l:List (K.El c))
 |rp (c:K.U) (x:K.El c) (off:Nat)
 |agg (l:List (AV K))
 |bG (l:List (AV K))
 |opt (g:Nat) (want:Bool) (v:AV K)
 |np (h:Nat)
 |vw (h st lo hi:Nat)
inductive Ob (K:cq) where
 |dead
 |box (cells:List (AV K))
 |arr (c:K.U) (l:List (K.El c))
 |fa (c:K.U) (l:List (K.El c))
 |tree (c:K.U) (l:List (K.El c))
 |opn (c:K.U) (l:List (K.El c)) (i off:Nat) (cs:List (AV K))
structure Base where
 inv:(Nat->Prop)->World->Prop
 mono:∀{S S':Nat->Prop}{w w':World},(∀b,S b->S' b)->(∀b,S b->w'.heap[b]?=w.heap[b]?)->inv S w->inv S' w'
def Base.QH:Base:=⟨fun _ _=>True,fun _ _ h=>h⟩
structure aY (K:cq) where
 cells:(c:K.U)->K.El c->List (AV K)
 dec:(c:K.U)->List (AV K)->Option (K.El c×Bool)
 byte:(c:K.U)->Option ((K.El c->UInt8)×(UInt8->K.El c))
 find:List (AV K)->Option K.U
 base:Base:=Base.QH
 mw:Option TypeId:=none
 jG:K.U->Option TypeId:=fun _=>none
variable{K :cq}
def AV.bf:AV K->List (AV K)
 |.agg l=>l
 |v=>[v]
def AV.known:AV K->Bool
 |.any|.opt ..=>false
 |_=>true
def AV.fZ:AV K->Bool
 |.opt ..=>true
 |_=>false
def AV.one:AV K->Bool
 |.any|.opt .. |.agg _|.bG _|.vw ..=>false
 |_=>true
structure St (K:cq) where
 tm:List (AV K)
 H:List (Ob K)
 ok:Bool
inductive Ex where
 |normal
 |exit (id:Nat)
 |ret
def Ex.kd:Ex->Exit
 |.normal=>.normal
 |.exit id=>.exit id
 |.ret=>.ret
structure bo (K:cq) where
 n:Nat
 ins:List Nat
 outs:List Nat
 run:{R:Type}->List (AV K)->List (Ob K)->(Ex->List (AV K)->List (Ob K)->Option R)->Option R
inductive Mode where
 |plain|fX|nC|pass|qc|fresh
 deriving DecidableEq
def Fa{R:Type}(a b:Option R):Option R:=match a with
 |none=>b
 |some r=>some r
theorem ae8{R:Type}{a b:Option R}{r:R}(h:Fa a b=some r):a=some r\/b=some r:=by
 cases a with
 |none=>exact .inr h
 |some x=>exact .inl h
structure Cx (K:cq) where
 P:Program
 D:aY K
 ty:TypeId->Option K.U
 call:FuncId->List (AV K)->List (Ob K)->Option (AV K×List (Ob K)×Bool)
 mode:FuncId->Mode
 loop:Nat->Option (bo K)
 jR:TypeId->List (Option K.U)
 cut:Bool:=false
 eV:List (List (Option K.U)):=[]
 Q4:List Bool:=[]
 mv:Bool:=false
 deep:K.U->Bool:=fun _=>false
 opn:Bool:=false
 Oz:Bool:=false
 OA:Bool:=false
 lz:Bool:=false
 alt:Bool->FuncId->List (AV K)->List (Ob K)->Option (AV K×List (Ob K)×Bool):=fun _ _ _ _=>none
 zM:Bool->FuncId->Mode:=fun _=>mode
 EJ:{R:Type}->Option R->Option R->Option R:=fun a b=>Fa a b
 gs:Option (Nat×Bool):=none
def known(cx:Cx K)(g:Nat):Option Bool:=match cx.gs with
 |some (t,b)=>if t=g then some b else none
 |none=>none
mutual
def jj:Value->Option (AV K)
 |.bool b=>some (.bool b)
 |.int k n=>some (.int k n)
 |.string s=>some (.str s.data.toList)
 |.pointer none=>some .cL
 |.slice none 0 0=>some .ct
 |.agg cs=>(wz cs.toList).map .agg
 |_=>none
def wz:List Value->Option (List (AV K))
 |[]=>some []
 |v::r=>match jj v,wz r with
  |some x,some l=>some (x::l)
  |_,_=>none
end
def covers(tm:List (AV K)):Nat->Nat×Bool->Nat×Bool->Bool
 |0,g,t=>g.1==t.1&&g.2==t.2
 |n+1,g,t=>(g.1==t.1&&g.2==t.2)||(match tm[g.1]? with
  |some (.opt g1 w1 _)=>covers tm n (g1,w1) t
  |_=>false)
def cK(tm:List (AV K))(gs:List (Nat×Bool)):Operand->AV K
 |.tmp t=>match tm[t]? with
   |some (.opt g w v)=>if gs.any (fun p=>covers tm 6 p (g,w))then v else .any
   |some v=>v
   |none=>.any
 |.const v=>(jj v).getD .any
 |.global _=>.any
 |.func f=>.fn f []
def uu(tm:List (AV K)):Nat->Nat×Bool->Option Bool
 |0,_=>none
 |n+1,(g,w)=>match tm[g]? with
  |some (.bool b)=>some (b==w)
  |some (.opt g1 w1 (.bool b))=>(uu tm n (g1,w1)).map fun e=>e&&(b==w)
  |_=>none
mutual
def merge(b:Bool):AV K->AV K->AV K
 |.int k m,.int k' n=>if k=k' then .int k (cond b m n)else .any
 |.bool m,.bool n=>.bool (cond b m n)
 |.str m,.str n=>.str (cond b m n)
 |.ai c l,.ai c' l'=>match K.gP c c' with
   |.isTrue h=>.ai c' (cond b (h ▸ l) l')
   |.isFalse _=>.any
 |.agg l,.agg l'=>if l.length=l'.length then .agg (merges b l l')else .any
 |.ct,.ct=>.ct
 |.cL,.cL=>.cL
 |_,_=>.any
def merges(b:Bool):List (AV K)->List (AV K)->List (AV K)
 |x::r,y::s=>merge b x y::merges b r s
 |_,_=>[]
end
def fH(op:BinOp)(k:IntKind)(x y:Int):Int:=
 let a:=BitVec.ofInt k.bits x
 let b:=BitVec.ofInt k.bits y
 k.wrap ((match op with
   |.and=>(a&&& b)|.or=>(a|||b)|.xor=>(a^^^b)|_=>(a&&& ~~~b)).toNat)
def md(k:IntKind)(x y:Int):Int:=k.wrap (x*2^(min y.toNat k.bits))
def iF(k:IntKind)(x y:Int):Int:=x.fdiv (2^(min y.toNat k.bits))
def rm(a b:List UInt8):Bool:=decide (a.length+b.length<=4611686018427387904)
def wA(a b:List UInt8):Bool:=Op.bytesLess a b
def Fb(op:BinOp)(k:IntKind)(a b:Int):Option (AV K×Bool):=
 match op with
 |.add=>some (.int k (k.wrap (a+b)),true)
 |.sub=>some (.int k (k.wrap (a-b)),true)
 |.mul=>some (.int k (k.wrap (a*b)),true)
 |.quo=>some (.int k (k.wrap (a.tdiv b)),b !=0)
 |.rem=>some (.int k (a.tmod b),b !=0)
 |.and|.or|.xor|.andNot=>some (.int k (fH op k a b),true)
 |.eql=>some (.bool (a==b),true)
 |.neq=>some (.bool (a !=b),true)
 |.lss=>some (.bool (decide (a<b)),true)
 |.leq=>some (.bool (decide (a<=b)),true)
 |.gtr=>some (.bool (decide (b<a)),true)
 |.geq=>some (.bool (decide (b<=a)),true)
 |.shl|.shr=>none
def Fe(op:BinOp)(a b:List UInt8):Option (AV K×Bool):=
 match op with
 |.add=>some (.str (a++b),rm a b)
 |.eql=>some (.bool (a==b),true)
 |.neq=>some (.bool (!(a==b)),true)
 |.lss=>some (.bool (wA a b),true)
 |.leq=>some (.bool (wA a b||a==b),true)
 |.gtr=>some (.bool (!(wA a b||a==b)),true)
 |.geq=>some (.bool (!wA a b),true)
 |_=>none
def Q5(P:Program)(t:TypeId):Bool:=P.underlying t matches some .string
def Ff(P:Program)(t:TypeId):Bool:=P.underlying t matches some .bool
def Fg(op:UnOp):AV K->Option (AV K×Bool)
 |.bool b=>match op with
   |.not=>some (.bool (!b),true)
   |_=>none
 |.int k n=>match op with
   |.neg=>some (.int k (k.wrap (0-n)),true)
   |.xor=>some (.int k (fH .xor k (if k.signed then -1 else k.max) n),true)
   |_=>none
 |_=>none
def cD(P:Program)(t:TypeId):Option Nat:=(P.info? t).map (·.size)
def zN(P:Program)(t:TypeId):Option Bool:=
 match P.underlying t with
 |some (.struct _)|some (.array _ _)=>some true
 |some _=>some false
 |none=>none
def Q6(P:Program)(t:TypeId)(f:Nat):Option Field:=
 match P.underlying t with
 |some (.struct fs)=>fs[f]?
 |_=>none
def elemOf?(P:Program)(t:TypeId):Option TypeId:=
 match P.underlying t with
 |some (.slice e)=>some e
 |_=>none
def zeroOf(P:Program)(t:TypeId):Option (AV K):=
 match P.info? t with
 |some i=>match i.zero with
  |some v=>jj v
  |none=>none
 |none=>none
def zK(P:Program)(t:TypeId):Option IntKind:=
 match P.underlying t with
 |some (.int k)=>some k
 |_=>none
def jq(P:Program)(t:TypeId)(cs:List (AV K))(off:Nat):Option (AV K):=
 match zN P t,cD P t with
 |some true,some n=>if off+n<=cs.length then some (.agg ((cs.drop off).take n))else none
 |some false,some _=>cs[off]?
 |_,_=>none
def wB(P:Program)(rec:TypeId->AV K->AV K->Option Bool)(xs ys:List (AV K)):List Field->Option Bool
 |[]=>some true
 |f::fs=>if f.name= "_" then none else
  match jq P f.type xs f.offset,jq P f.type ys f.offset with
  |some a,some b=>match rec f.type a b,wB P rec xs ys fs with
   |some p,some q=>some (p&&q)
   |_,_=>none
  |_,_=>none
def uN(P:Program):Nat->TypeId->AV K->AV K->Option Bool
 |0,_,_,_=>none
 |n+1,t,.int k a,.int k' b=>if k=k' then(match P.underlying t with
  |some (.int _)=>some (a==b)
  |_=>none)else none
 |n+1,t,.bool a,.bool b=>(match P.underlying t with
  |some .bool=>some (a==b)
  |_=>none)
 |n+1,t,.str a,.str b=>(match P.underlying t with
  |some .string=>some (a==b)
  |_=>none)
 |n+1,t,.agg xs,.agg ys=>(match P.underlying t with
  |some (.struct fs)=>if P.stoodInHeld t then none else wB P (uN P n) xs ys fs.toList
  |_=>none)
 |_+1,_,_,_=>none
def Fh(P:Program)(op:BinOp)(t:TypeId):AV K->AV K->Option (AV K×Bool)
 |.int k a,.int k' b=>match op with
   |.shl=>some (.int k (md k a b),decide (0<=b))
   |.shr=>some (.int k (iF k a b),decide (0<=b))
   |_=>if k=k' then Fb op k a b else none
 |.bool a,.bool b=>if Ff P t then(match op with
   |.eql=>some (.bool (a==b),true)
   |.neq=>some (.bool (!(a==b)),true)
   |_=>none)else none
 |.str a,.str b=>Fe op a b
 |.agg a,.agg b=>match op with
   |.eql=>if P.eqGuardType P.depth t then none else(uN P 6 t (.agg a) (.agg b)).map fun e=>(.bool e,true)
   |.neq=>if P.eqGuardType P.depth t then none else(uN P 6 t (.agg a) (.agg b)).map fun e=>(.bool (!e),true)
   |_=>none
 |_,_=>none
def inB(n:Int)(len:Nat):Bool:=decide (0<=n)&&decide (n<len)
def cu(lo hi:Int)(len:Nat):Bool:=decide (0<=lo)&&(decide (lo<=hi)&&decide (hi<=len))
mutual
def AV.closed:AV K->Bool
 |.int .. |.bool _|.str _|.cL|.ct|.ai .. |.rp .. |.any=>true
 |.ptr .. |.sl _|.ep .. |.opt .. |.np _|.vw ..=>false
 |.fn _ l|.agg l|.bG l=>eO l
def eO:List (AV K)->Bool
 |[]=>true
 |v::r=>v.closed&&eO r
end
def qG(H:List (Ob K)):AV K->AV K
 |.sl h=>match H[h]? with
   |some (.arr c l)=>.ai c l
   |some (.fa c l)=>.ai c l
   |some (.tree c l)=>.ai c l
   |_=>.any
 |v=>v
mutual
def fX(D:aY K)(H:List (Ob K)):AV K->AV K
 |.sl h=>match H[h]? with
   |some (.arr c l)=>.ai c l
   |some (.fa c l)=>.ai c l
   |some (.tree c l)=>.ai c l
   |_=>.any
 |.ptr h off=>match H[h]? with
   |some (.box cs)=>match D.find (cs.map (qG H))with
    |some c=>match D.dec c (cs.map (qG H))with
     |some (x,true)=>.rp c x off
     |_=>.any
    |none=>.any
   |_=>.any
 |.vw h st lo hi=>match H[h]? with
   |some (.arr c l)=>if st=K.sz c then .ai c ((l.take hi).drop lo)else .any
   |some (.tree c l)=>if st=K.sz c then .ai c ((l.take hi).drop lo)else .any
   |_=>.any
 |.fn g l=>.fn g (jk D H l)
 |.agg l=>.agg (jk D H l)
 |.bG l=>.bG (jk D H l)
 |v=>v
def jk(D:aY K)(H:List (Ob K)):List (AV K)->List (AV K)
 |[]=>[]
 |v::r=>fX D H v::jk D H r
end
def elems(H:List (Ob K))(c:K.U):AV K->Option (List (K.El c))
 |.ct=>some []
 |.ai c' l=>match K.gP c' c with
   |.isTrue h=>some (h ▸ l)
   |.isFalse _=>none
 |.sl h=>match H[h]? with
   |some (.arr c' l)=>match K.gP c' c with
    |.isTrue h=>some (h ▸ l)
    |.isFalse _=>none
   |_=>none
 |_=>none
def setCells(cs:List (AV K))(off:Nat):List (AV K)->List (AV K)
 |[]=>cs
 |v::r=>setCells (cs.set off v) (off+1) r
mutual
def hands:AV K->List Nat
 |.ptr h _|.sl h|.ep h _ _ _|.np h|.vw h _ _ _=>[h]
 |.agg l|.bG l|.fn _ l=>bh l
 |_=>[]
def bh:List (AV K)->List Nat
 |[]=>[]
 |v::r=>hands v++bh r
end
def qO(H:List (Ob K))(h:Nat):List (Ob K):=
 match H[h]? with
 |some (.arr c l)=>H.set h (.fa c l)
 |some (.tree c l)=>H.set h (.fa c l)
 |_=>H
def fM(H:List (Ob K)):List Nat->List (Ob K)
 |[]=>H
 |h::r=>fM (qO H h) r
mutual
def di(H:List (Ob K)):AV K->AV K
 |.sl h=>match H[h]? with
   |some (.fa c l)=>.ai c l
   |_=>.sl h
 |.agg l=>.agg (lv H l)
 |.bG l=>.bG (lv H l)
 |v=>v
def lv(H:List (Ob K)):List (AV K)->List (AV K)
 |[]=>[]
 |v::r=>di H v::lv H r
end
def thaw(dp:K.U->Bool)(H:List (Ob K)):List (Option K.U)->List (AV K)->List (AV K)×List (Ob K)
 |some c::cs,.ct::r=>match thaw dp (H++[cond (dp c) (.tree c []) (.arr c [])]) cs r with
  |(l,H')=>(.sl H.length::l,H')
 |_::cs,v::r=>match thaw dp H cs r with
  |(l,H')=>(v::l,H')
 |[],l=>(l,H)
 |_,[]=>([],H)
def dP(dp:K.U->Bool)(H:List (Ob K)):List (List (Option K.U))->List (AV K)->List (AV K)×List (Ob K)
 |cs::css,.agg l::r=>match thaw dp H cs l with
  |(l',H1)=>match dP dp H1 css r with
   |(s,H2)=>(.agg l'::s,H2)
 |cs::css,v::r=>match thaw dp H cs [v]with
  |(l',H1)=>match dP dp H1 css r with
   |(s,H2)=>(l'.headD v::s,H2)
 |[],l=>(l,H)
 |_,[]=>([],H)
def iM:List (AV K)->Bool
 |.np _::_=>true
 |_=>false
def wC(b:Bool)(h:Nat):List (AV K)->List (AV K)
 |.cL::r=>cond b (.np h) .cL::r
 |l=>l
mutual
def fy:AV K->Bool
 |.ai .. |.rp ..=>true
 |.agg l|.bG l|.fn _ l=>cC l
 |_=>false
def cC:List (AV K)->Bool
 |[]=>false
 |v::r=>fy v||cC r
end
def zO(P:Program)(D:aY K)(H:List (Ob K))(t:TypeId):AV K->Option (AV K)
 |.ptr h off=>match H[h]? with
   |some (.box cs)=>jq P t cs off
   |_=>none
 |.rp c x off=>jq P t (D.cells c x) off
 |.ep h st i off=>match H[h]? with
   |some (.arr c l)=>if st=K.sz c then jq P t (D.cells c (l.getD i (K.zero c))) off else none
   |some (.tree c l)=>if st=K.sz c then(match jq P t (D.cells c (l.getD i (K.zero c))) off with
     |some v=>if fy v then none else some v
     |none=>none)else none
   |_=>none
 |_=>none
def Fj(P:Program)(H:List (Ob K))(t:TypeId):AV K->Option (AV K×Bool)
 |.ep h st i off=>match H[h]? with
   |some (.opn c l i' off' cs)=>if st=K.sz c/\off'<=off then(match jq P t (List.replicate off' .any++cs) off with
    |some v=>some (v,decide (i=i'))
    |none=>none)else none
   |_=>none
 |_=>none
def Fo(P:Program)(s:TypeId)(f:Nat)(x:AV K):Option (AV K):=
 match Q6 P s f with
 |some fd=>match cD P fd.type with
  |some (_+1)=>match x with
   |.ptr h off=>some (.ptr h (off+fd.offset))
   |.rp c x off=>some (.rp c x (off+fd.offset))
   |.ep h st i off=>some (.ep h st i (off+fd.offset))
   |_=>none
  |_=>none
 |none=>none
def Fp(P:Program)(H:List (Ob K))(t:TypeId)(x i:AV K):Option (AV K×Bool):=
 match elemOf? P t,i with
 |some e,.int _ n=>match x with
  |.ai c l=>if cD P e=some (K.sz c)then some (.rp c (l.getD n.toNat (K.zero c)) 0,inB n l.length)else none
  |.sl h=>match H[h]? with
    |some (.arr c l)=>if cD P e=some (K.sz c)then some (.ep h (K.sz c) n.toNat 0,inB n l.length)else none
    |some (.tree c l)=>if cD P e=some (K.sz c)then some (.ep h (K.sz c) n.toNat 0,inB n l.length)else none
    |_=>none
  |_=>none
 |_,_=>none
def gw(d:Int):Option (AV K)->Option Int
 |none=>some d
 |some (.int _ n)=>some n
 |some _=>none
def Fq(P:Program)(t:TypeId)(x:AV K)(lo hi:Option (AV K)):Option (AV K×Bool):=
 match P.underlying t,x with
 |some .string,.str s=>match gw 0 lo,gw s.length hi with
  |some l,some h=>some (.str ((s.take h.toNat).drop l.toNat),cu l h s.length)
  |_,_=>none
 |some (.slice e),.ai c s=>if cD P e=some (K.sz c)then match gw 0 lo,gw s.length hi with
  |some l,some h=>some (.ai c ((s.take h.toNat).drop l.toNat),cu l h s.length)
  |_,_=>none else none
 |_,_=>none
def Ft(P:Program)(H:List (Ob K))(t:TypeId)(x:AV K)(lo hi:Option (AV K)):Option (AV K×Bool):=
 match elemOf? P t,x with
 |some e,.sl h=>match H[h]? with
  |some (.arr c l)=>if cD P e=some (K.sz c)then match gw 0 lo,gw l.length hi with
   |some a,some b=>some (.vw h (K.sz c) a.toNat b.toNat,cu a b l.length)
   |_,_=>none else none
  |some (.tree c l)=>if cD P e=some (K.sz c)then match gw 0 lo,gw l.length hi with
   |some a,some b=>some (.vw h (K.sz c) a.toNat b.toNat,cu a b l.length)
   |_,_=>none else none
  |_=>none
 |_,_=>none
def qP(cx:Cx K)(ev:Operand->AV K)(H:List (Ob K)):Op->Option (AV K×Bool)
 |.move x|.assign x=>some (ev x,true)
 |.binOp op t x y _=>Fh cx.P op t (ev x) (ev y)
 |.unOp op _ x=>Fg op (ev x)
 |.convert src dst x=>match cx.P.underlying src,cx.P.underlying dst,ev x with
   |some _,some (.int k),.int _ n=>some (.int k (k.wrap n),true)
   |some _,some .string,.str s=>some (.str s,true)
   |some (.slice e),some .string,x=>match cx.P.underlying e,cx.ty e with
    |some (.int .u8),some c=>match cx.D.byte c,elems H c x with
     |some (f,_),some l=>some (.str (l.map f),true)
     |_,_=>none
    |_,_=>none
   |_,_,_=>none
 |.extract t i=>match ev t with
   |.bG l=>(l[i]?).map fun v=>(v,true)
   |_=>none
 |.fieldAddr s x f=>(Fo cx.P s f (ev x)).map fun v=>(v,true)
 |.load t p=>match zO cx.P cx.D H t (ev p)with
   |some v=>some (v,true)
   |none=>Fj cx.P H t (ev p)
 |.indexAddr t x i=>Fp cx.P H t (ev x) (ev i)
 |.index t x i=>match cx.P.underlying t,ev x,ev i with
   |some .string,.str s,.int _ n=>some (.int .u8 ((s.getD n.toNat 0).toNat:Int),inB n s.length)
   |_,_,_=>none
 |.slice t x lo hi none=>match Fq cx.P t (ev x) (lo.map ev) (hi.map ev)with
   |some r=>some r
   |none=>if cx.Oz&&cond cx.OA hi.isNone (hi.isSome|| !cx.cut)then Ft cx.P H t (ev x) (lo.map ev) (hi.map ev)else none
 |.nilCheck x=>match ev x with
   |.ptr h o=>some (.ptr h o,true)
   |.rp c x o=>some (.rp c x o,true)
   |.ep h s i o=>some (.ep h s i o,true)
   |_=>none
 |.makeFunc (.func f) first caps=>if first.isEmpty then some (.fn f (caps.toList.map ev),true)else none
 |.call {callee:=.builtin .len,args,argTypes}=>match args.toList,argTypes.toList with
   |[x],[t]=>match cx.P.underlying t,ev x with
     |some .string,.str s=>some (.int .i64 (s.length:Int),true)
     |some (.slice _),.ct=>some (.int .i64 0,true)
     |some (.slice _),.ai _ l=>some (.int .i64 (l.length:Int),true)
     |some (.slice _),.vw _ _ a b=>some (.int .i64 ((b-a:Nat):Int),true)
     |some (.slice _),.sl h=>match H[h]? with
      |some (.arr _ l)=>some (.int .i64 (l.length:Int),true)
      |some (.tree _ l)=>some (.int .i64 (l.length:Int),true)
      |_=>none
     |_,_=>none
   |_,_=>none
 |.call {callee:=.builtin .min,args, ..}=>match args.toList with
   |[x,y]=>match ev x,ev y with
     |.int k a,.int k' b=>if k=k' then some (.int k (cond (decide (b<a)) b a),true)else none
     |_,_=>none
   |_=>none
 |.call {callee:=.builtin .max,args, ..}=>match args.toList with
   |[x,y]=>match ev x,ev y with
     |.int k a,.int k' b=>if k=k' then some (.int k (cond (decide (a<b)) b a),true)else none
     |_,_=>none
   |_=>none
 |_=>none
def Q7(D:aY K)(c:K.U)(e:TypeId):Bool:=match D.jG c with
 |none=>true
 |some t=>t==e
def mD(cx:Cx K)(e:TypeId):Option K.U:=match cx.ty e with
 |some c=>if Q7 cx.D c e then some c else none
 |none=>none
def room(e:TypeId)(P:Program):Bool:=match P.info? e with
 |some i=>decide (i.bytes<=4096)
 |none=>false
def lp(D:aY K)(c:K.U):List (AV K)->Option (List (K.El c)×Bool)
 |[]=>some ([],true)
 |v::r=>match D.dec c v.bf,lp D c r with
  |some (x,b),some (l,b')=>some (x::l,b&&b')
  |_,_=>none
def inOrder(ev:Operand->AV K):Nat->List (Nat×Operand)->Option (List (AV K))
 |_,[]=>some []
 |n,(i,x)::r=>if i=n then(inOrder ev (n+1) r).map (ev x::·)else none
def placesOf(P:Program)(t:TypeId):Option (List (Nat×Nat)):=
 match P.underlying t with
 |some (.struct fs)=>fs.toList.mapM (fun f=>(P.info? f.type).map fun i=>(f.offset,i.size))
 |_=>none
def uO(places:List (Nat×Nat))(ev:Operand->AV K)(cs:List (AV K)):List (Nat×Operand)->Option (List (AV K))
 |[]=>some cs
 |(i,x)::r=>match places[i]? with
  |some (off,n)=>if(ev x).known=true/\(ev x).bf.length=n/\off+n<=cs.length then uO places ev (setCells cs off (ev x).bf) r else none
  |none=>none
def j8(P:Program)(t:TypeId):Bool:=match P.info? t with
 |some i=>match i.zero with
  |some v=>v.cells.size==i.size
  |none=>false
 |none=>false
def source(D:aY K)(H:List (Ob K))(c:K.U):AV K->Option (List (K.El c))
 |.str s=>match D.byte c with
   |some (_,g)=>some (s.map g)
   |none=>none
 |v=>elems H c v
def zP(cx:Cx K)(H:List (Ob K))(sT:TypeId)(s x:AV K):Option (AV K×List (Ob K)×Bool×List Nat):=
 match elemOf? cx.P sT with
 |none=>none
 |some e=>match mD cx e with
  |none=>none
  |some c=>if cD cx.P e=some (K.sz c)/\room e cx.P=true/\j8 cx.P e=true then
    match source cx.D H c x with
    |none=>none
    |some m=>match s with
     |.ct=>some (.sl H.length,H++[.arr c m],decide (m.length<=1073741824),[])
     |.sl h=>match x with
       |.sl h'=>if h=h' then none else match elems H c (.sl h)with
         |some l=>some (.sl H.length,H.set h .dead++[.arr c (l++m)],decide (l.length+m.length<=1073741824),[h])
         |none=>none
       |_=>match elems H c (.sl h)with
        |some l=>some (.sl H.length,H.set h .dead++[.arr c (l++m)],decide (l.length+m.length<=1073741824),[h])
        |none=>none
     |_=>none
   else none
def iQ(ev:Operand->AV K):Op->List Nat
 |.buildSlice _ _ parts=>bh (parts.toList.map fun p=>ev p.2)
 |.store _ p x=>match ev p with
   |.ep ..=>hands (ev x)
   |_=>[]
 |.slice _ x _ _ _=>match ev x with
   |.sl h=>[h]
   |_=>[]
 |_=>[]
def qQ(cx:Cx K)(ev:Operand->AV K)(H:List (Ob K)):Op->Option (AV K×List (Ob K)×Bool×List Nat)
 |.box t x=>if(ev x).known then match thaw cx.deep H (cx.jR t) (ev x).bf with
     |(cs,H1)=>if iM cs then none else some (.ptr H1.length 0,H1++[.box cs],true,[])else none
 |.alloc t=>match(zeroOf cx.P t:Option (AV K))with
   |some z=>if z.known then match thaw cx.deep H (cx.jR t) z.bf with
    |(cs,H1)=>if iM cs then none else some (.ptr H1.length 0,H1++[.box (wC (cx.D.mw==some t) H1.length cs)],true,[])else none
   |none=>none
 |.build t parts=>match placesOf cx.P t,(zeroOf cx.P t:Option (AV K))with
   |some ps,some z=>if z.known then(uO ps ev z.bf parts.toList).map fun cs=>(.agg cs,H,true,[])else none
   |_,_=>none
 |.store t p x=>match cD cx.P t with
   |some n=>if(ev x).bf.length=n/\(ev x).bf.all AV.one=true then match ev p with
    |.ptr h off=>match H[h]? with
      |some (.box cs)=>if off+n<=cs.length then match thaw cx.deep H (cx.jR t) (ev x).bf with
       |(xs,H1)=>if iM (setCells cs off xs)&& !iM cs then none else some (.any,H1.set h (.box (setCells cs off xs)),true,[h])else none
      |_=>none
    |.ep h st i off=>match H[h]? with
      |some (.arr c l)=>if st=K.sz c/\eO (ev x).bf=true/\off+n<=K.sz c then
        match cx.D.dec c (setCells (cx.D.cells c (l.getD i (K.zero c))) off (ev x).bf)with
        |some (y,b)=>some (.any,H.set h (.arr c (l.set i y)),b,[h])
        |none=>none
       else none
      |_=>none
    |_=>none else none
   |none=>none
 |.makeSlice t len cap=>match elemOf? cx.P t with
   |none=>none
   |some e=>match mD cx e,(zeroOf cx.P e:Option (AV K)),ev len,ev cap with
    |some c,some z,.int _ n,.int _ m=>if cD cx.P e=some (K.sz c)/\room e cx.P=true/\eO z.bf=true/\z.known=true then
      match cx.D.dec c z.bf with
      |some (y,b)=>some (.sl H.length,H++[.arr c (List.replicate n.toNat y)],b&&(decide (0<=n)&&(decide (n<=m)&&decide (m<=1073741824))),[])
      |none=>none
     else none
    |_,_,_,_=>none
 |.buildSlice t len parts=>match elemOf? cx.P t with
   |none=>none
   |some e=>match mD cx e,inOrder ev 0 parts.toList with
    |some c,some l=>if cD cx.P e=some (K.sz c)/\j8 cx.P e=true/\l.length=len/\len<=4096/\K.sz c<=4096/\l.all (fun v=>eO v.bf&&(v.known&&decide (v.bf.length=K.sz c)))=true then
      match lp cx.D c l with
      |some (y,b)=>some (.sl H.length,H++[.arr c y],b,[])
      |none=>none
     else none
    |_,_=>none
 |.convert src dst x=>match cx.P.underlying src,elemOf? cx.P dst,ev x with
   |some .string,some e,.str s=>match cx.P.underlying e,mD cx e with
    |some (.int .u8),some c=>match cx.D.byte c with
     |some (_,g)=>if cD cx.P e=some (K.sz c)then some (.sl H.length,H++[.arr c (s.map g)],decide (s.length<=1073741824),[])else none
     |none=>none
    |_,_=>none
   |_,_,_=>none
 |.call {callee:=.builtin .append,args,argTypes}=>match args.toList,argTypes.toList with
   |[s,x],[sT,xT]=>if(zK cx.P xT).isSome||(cx.P.underlying xT).isNone then none else zP cx H sT (ev s) (ev x)
   |_,_=>none
 |.call {callee:=.builtin .clear,args,argTypes}=>match args.toList,argTypes.toList with
   |[x],[T]=>match ev x,elemOf? cx.P T with
     |.vw h st lo hi,some e=>match H[h]?,(zeroOf cx.P e:Option (AV K))with
       |some (.arr c l),some z=>if st=K.sz c/\cD cx.P e=some (K.sz c)/\z.bf.all AV.one=true then match cx.D.dec c z.bf with
         |some (y,b)=>some (.any,H.set h (.arr c (l.take lo++List.replicate (hi-lo) y++l.drop hi)),b&&decide (hi<=l.length),[h])
         |none=>none
        else none
       |_,_=>none
     |_,_=>none
   |_,_=>none
 |.call {callee:=.builtin .copy,args,argTypes}=>match args.toList,argTypes.toList with
   |[x,y],[T,_]=>match ev x,ev y,elemOf? cx.P T with
     |.vw h st lo hi,.str s,some e=>match H[h]? with
       |some (.arr c l)=>match cx.D.byte c with
        |some (_,g)=>if st=K.sz c/\cD cx.P e=some (K.sz c)then some (.int .i64 (s.length:Int),H.set h (.arr c (l.take lo++s.map g++l.drop (lo+s.length))),decide (hi<=l.length)&&decide (s.length<=hi-lo),[h])else none
        |none=>none
       |_=>none
     |_,_,_=>none
   |_,_=>none
 |_=>none
mutual
def mq:AV K->Bool
 |.sl _|.ptr .. |.ep .. |.np _|.vw ..=>true
 |.agg l|.bG l|.fn _ l=>qC l
 |_=>false
def qC:List (AV K)->Bool
 |[]=>false
 |v::r=>mq v||qC r
end
mutual
def dO(f:Nat->Option Nat):AV K->Option (AV K)
 |.ptr h o=>(f h).map (.ptr · o)
 |.sl h=>(f h).map .sl
 |.np h=>(f h).map .np
 |.ep h s i o=>(f h).map (.ep · s i o)
 |.vw h s a b=>(f h).map (.vw · s a b)
 |.fn g l=>(fV f l).map (.fn g)
 |.agg l=>(fV f l).map .agg
 |.bG l=>(fV f l).map .bG
 |.opt ..=>none
 |v=>some v
def fV(f:Nat->Option Nat):List (AV K)->Option (List (AV K))
 |[]=>some []
 |v::r=>match dO f v,fV f r with
  |some x,some l=>some (x::l)
  |_,_=>none
end
def ren(m:List Nat):AV K->Option (AV K):=dO fun h=>m.idxOf? h
def Q8(m:List Nat):List (AV K)->Option (List (AV K)):=fV fun h=>m.idxOf? h
def back(m:List Nat):AV K->Option (AV K):=dO fun h=>m[h]?
def ae9(m:List Nat):List (AV K)->Option (List (AV K)):=fV fun h=>m[h]?
def ik(f:Nat->Option Nat):Ob K->Option (Ob K)
 |.box cs=>(fV f cs).map .box
 |.opn ..=>none
 |o=>some o
def zq(m:List Nat):Ob K->Option (Ob K):=ik fun h=>m.idxOf? h
def qB(m:List Nat):Ob K->Option (Ob K):=ik fun h=>m[h]?
def jF(f:Ob K->Option (Ob K)):List (Ob K)->Option (List (Ob K))
 |[]=>some []
 |o::r=>match f o,jF f r with
  |some x,some l=>some (x::l)
  |_,_=>none
def reach(H:List (Ob K)):Nat->List Nat->List Nat->List Nat
 |0,_,acc=>acc
 |_,[],acc=>acc
 |n+1,h::r,acc=>if acc.contains h then reach H n r acc else
   reach H n (r++(match H[h]? with|some (.box cs)=>bh cs|_=>[])) (acc++[h])
def qA(H:List (Ob K)):List Nat->Bool
 |[]=>true
 |h::m=>decide (h<H.length)&&(!m.contains h&&qA H m)
def fW:List (Ob K)->List Nat->List (Ob K)->List (Ob K)
 |H,h::m,o::r=>fW (H.set h o) m r
 |H,_,_=>H
def Qv(D:aY K):Ob K->Bool
 |.arr c _=> !cC (D.cells c (K.zero c))
 |.tree ..=>true
 |_=>false
def iN(cx:Cx K)(m:Mode)(H:List (Ob K))(f:FuncId)(args:List (AV K)):Option (AV K×List (Ob K)×Bool×List Nat):=
 match m with
 |.plain=>if eO (jk cx.D H args)then match cx.call f (jk cx.D H args) []with
     |some (r,[],c)=>if r.closed&&(!fy r|| !qC args)then some (r,H,c,[])else none
     |_=>none else none
 |.fX=>if eO (jk cx.D H args)&& !qC args then match cx.call f (jk cx.D H args) []with
     |some (r,Hn,c)=>match back ((List.range Hn.length).map (H.length+·)) r,jF (qB ((List.range Hn.length).map (H.length+·))) Hn with
      |some r',some qD=>some (r',H++qD,c,[])
      |_,_=>none
     |none=>none else none
 |.fresh=>if eO (jk cx.D H args)then match cx.call f (jk cx.D H args) []with
     |some (r,Hn,c)=>if !fy r&&Hn.all (Qv cx.D)then match back ((List.range Hn.length).map (H.length+·)) r,jF (qB ((List.range Hn.length).map (H.length+·))) Hn with
      |some r',some qD=>some (r',H++qD,c,[])
      |_,_=>none else none
     |none=>none else none
 |.nC|.qc=>none
 |.pass=>if !qA H (reach H 64 (bh args) [])then none else match Q8 (reach H 64 (bh args) []) args,jF (zq (reach H 64 (bh args) [])) ((reach H 64 (bh args) []).map fun h=>H.getD h .dead)with
     |some args',some Hi=>match cx.call f args' Hi with
      |some (r,Ho,c)=>
       match back (reach H 64 (bh args) []++(List.range (Ho.length-Hi.length)).map (H.length+·)) r,jF (qB (reach H 64 (bh args) []++(List.range (Ho.length-Hi.length)).map (H.length+·))) Ho with
       |some r',some fb=>if Hi.length<=Ho.length then some (r',fW H (reach H 64 (bh args) []) (fb.take Hi.length)++fb.drop Hi.length,c,reach H 64 (bh args) [])else none
       |_,_=>none
      |none=>none
     |_,_=>none
def qE(cx:Cx K)(m:Mode)(H:List (Ob K))(f:FuncId)(args:List (AV K)):Option (AV K×List (Ob K)×Bool×List Nat):=
 iN cx m (fM H (bh args)) f (lv (fM H (bh args)) args)
def mo(q:Bool)(cx:Cx K)(H:List (Ob K))(f:FuncId)(args:List (AV K)):Option (AV K×List (Ob K)×Bool×List Nat):=
 match cx.mode f with
 |.plain=>iN cx .plain H f args
 |.nC=>match iN cx .plain H f args with
   |some r=>some r
   |none=>if q then none else qE cx .plain H f args
 |.fX=>if q then none else qE cx .fX H f args
 |.pass=>if q then none else iN cx .pass H f args
 |.qc=>if q then none else qE cx .pass H f args
 |.fresh=>if q then none else match iN cx .fX H f args with
   |some r=>some r
   |none=>match iN cx .fresh H f args with
    |some r=>some r
    |none=>qE cx .fX H f args
def ip:List Nat->Bool
 |[]=>true
 |x::r=> !r.contains x&&ip r
def zB(D:aY K)(H:List (Ob K)):AV K->Option (AV K)
 |.sl h=>match H[h]? with
   |some (.arr c l)=>if cC (D.cells c (K.zero c))then none else some (.ai c l)
   |some (.tree c l)=>some (.ai c l)
   |_=>none
 |.ct=>some .ct
 |.int k n=>some (.int k n)
 |.bool b=>some (.bool b)
 |.str s=>some (.str s)
 |.cL=>some .cL
 |_=>none
def iP(D:aY K)(H:List (Ob K)):List (AV K)->Option (List (AV K))
 |[]=>some []
 |v::r=>match zB D H v,iP D H r with
  |some x,some l=>some (x::l)
  |_,_=>none
def uD(D:aY K)(H:List (Ob K)):List (AV K)->Option (List (AV K))
 |[]=>some []
 |v::r=>match iP D H v.bf,uD D H r with
  |some cs,some l=>some (.agg cs::l)
  |_,_=>none
def dK(H:List (Ob K)):List Nat->List (Ob K)
 |[]=>H
 |h::r=>dK (H.set h .dead) r
def mA(H:List (Ob K))(c:K.U):AV K->Option (List (K.El c)×List Nat)
 |.ct=>some ([],[])
 |.sl h=>match H[h]? with
   |some (.tree c' l)=>match K.gP c' c with
    |.isTrue e=>some (e ▸ l,[h])
    |.isFalse _=>none
   |_=>none
 |_=>none
def uH(cx:Cx K)(ev:Operand->AV K)(H:List (Ob K)):Op->Option (AV K×List (Ob K)×Bool×List Nat)
 |.makeSlice t len cap=>match elemOf? cx.P t with
   |none=>none
   |some e=>match mD cx e,(zeroOf cx.P e:Option (AV K)),ev len,ev cap with
    |some c,some z,.int _ n,.int _ m=>if cx.deep c=true/\cD cx.P e=some (K.sz c)/\room e cx.P=true/\z.known=true then
      match iP cx.D [] z.bf with
      |some zs=>match cx.D.dec c zs with
       |some (y,b)=>some (.sl H.length,H++[.tree c (List.replicate n.toNat y)],b&&(decide (0<=n)&&(decide (n<=m)&&decide (m<=1073741824))),[])
       |none=>none
      |none=>none
     else none
    |_,_,_,_=>none
 |.buildSlice t len parts=>match elemOf? cx.P t with
   |none=>none
   |some e=>match mD cx e,inOrder ev 0 parts.toList with
    |some c,some l=>if cx.deep c=true/\cD cx.P e=some (K.sz c)/\j8 cx.P e=true/\l.length=len/\len<=4096/\K.sz c<=4096/\l.all (fun v=>v.known&&decide (v.bf.length=K.sz c))=true/\ip (bh l)=true then
      match uD cx.D H l with
      |some l'=>match lp cx.D c l' with
       |some (y,b)=>some (.sl H.length,dK H (bh l)++[.tree c y],b,bh l)
       |none=>none
      |none=>none
     else none
    |_,_=>none
 |.store t p x=>match ev p,cD cx.P t with
   |.ep h st i off,some n=>match H[h]? with
     |some (.tree c l)=>if st=K.sz c/\off+n<=K.sz c/\(ev x).bf.length=n/\(ev x).bf.all AV.one=true/\ip (h::bh (ev x).bf)=true then
       match iP cx.D H (ev x).bf with
       |some xs=>match cx.D.dec c (setCells (cx.D.cells c (l.getD i (K.zero c))) off xs)with
        |some (y,b)=>some (.any,(dK H (h::bh (ev x).bf)).set h (.tree c (l.set i y)),b,h::bh (ev x).bf)
        |none=>none
       |none=>none
      else none
     |some (.opn c l i' off' cs)=>if st=K.sz c/\off=off'/\n=cs.length/\(ev x).bf.length=n/\(ev x).bf.all AV.one=true/\ip (h::bh (ev x).bf)=true then
       match iP cx.D H (ev x).bf with
       |some xs=>match cx.D.dec c (setCells (cx.D.cells c (l.getD i (K.zero c))) off xs)with
        |some (y,b)=>some (.any,(dK H (h::bh (ev x).bf)).set h (.tree c (l.set i y)),b&&decide (i=i'),h::bh (ev x).bf)
        |none=>none
       |none=>none
      else none
     |_=>none
   |_,_=>none
 |.call {callee:=.builtin .append,args,argTypes}=>match args.toList,argTypes.toList with
   |[s,x],[sT,xT]=>if(zK cx.P xT).isSome||(cx.P.underlying xT).isNone then none else match elemOf? cx.P sT with
     |none=>none
     |some e=>match mD cx e with
      |none=>none
      |some c=>if cx.deep c=true/\cD cx.P e=some (K.sz c)/\room e cx.P=true/\j8 cx.P e=true then
        match mA H c (ev s),mA H c (ev x)with
        |some (l,hs),some (m,hs')=>if ip (hs++hs')then some (.sl H.length,dK H (hs++hs')++[.tree c (l++m)],decide (l.length+m.length<=1073741824),hs++hs')else none
        |_,_=>none
       else none
   |_,_=>none
 |_=>none
def ou(D:aY K)(dp:K.U->Bool):Nat->List (AV K)->Option (List (AV K)×List (Ob K))
 |_,[]=>some ([],[])
 |n,.ai c l::r=>if dp c|| !cC (D.cells c (K.zero c))then match ou D dp (n+1) r with
    |some (cs,os)=>some (.sl n::cs,cond (dp c) (.tree c l) (.arr c l)::os)
    |none=>none
  else none
 |n,v::r=>match ou D dp n r with
    |some (cs,os)=>some (v::cs,os)
    |none=>none
def uJ(cx:Cx K)(ev:Operand->AV K)(H:List (Ob K)):Op->Option (AV K×List (Ob K)×Bool×List Nat)
 |.load t p=>if cx.opn then match ev p,zN cx.P t,cD cx.P t with
     |.ep h st i off,some ag,some n=>match H[h]? with
       |some (.tree c l)=>if st=K.sz c/\off+n<=K.sz c/\0<n then match ou cx.D cx.deep H.length (((cx.D.cells c (l.getD i (K.zero c))).drop off).take n)with
         |some (cs,os)=>some (cond ag (.agg cs) (cs.getD 0 .any),H.set h (.opn c l i off cs)++os,true,[h])
         |none=>none
        else none
       |_=>none
     |_,_,_=>none
   else none
 |_=>none
def Fv:List (Ob K)->Option Nat
 |[]=>none
 |.opn ..::_=>some 0
 |_::r=>(Fv r).map (· +1)
def shut(D:aY K)(H:List (Ob K)):Option (List (Ob K)×Bool×List Nat):=
 match Fv H with
 |none=>some (H,true,[])
 |some h=>match H[h]? with
  |some (.opn c l i off cs)=>if ip (h::bh cs)=true then match iP D H cs with
    |some xs=>match D.dec c (setCells (D.cells c (l.getD i (K.zero c))) off xs)with
     |some (y,b)=>some ((dK H (h::bh cs)).set h (.tree c (l.set i y)),b,h::bh cs)
     |none=>none
    |none=>none
   else none
  |_=>none
def uL(q:Bool)(cx:Cx K)(H:List (Ob K))(f:FuncId)(args:List (AV K)):Option (AV K×List (Ob K)×Bool×List Nat):=
 if cx.opn&& !cx.lz&& !q then match mo q cx H f args with
  |some (r,H1,c,t)=>match shut cx.D H1 with
   |some (H2,b,t2)=>some (r,H2,c&&b,t++t2)
   |none=>none
  |none=>none
 else mo q cx H f args
def guardOf(ops:List Oper)(o:Oper):Option (Option (Nat×Bool)):=
 match o.guard with
 |none=>some none
 |some (j,w)=>match ops[j]? with
  |some g=>match g.dst with
   |some t=>some (some (t,w))
   |none=>none
  |none=>none
def qR(st:St K)(wr:List Nat)(dst:Option Nat)(v:AV K)(H:List (Ob K))(ok:Bool):Option (St K×List Nat):=
 match dst with
 |none=>some (⟨st.tm,H,ok⟩,wr)
 |some d=>if wr.contains d||decide (st.tm.length<=d)then none else some (⟨st.tm.set d v,H,ok⟩,d::wr)
def uI(cx:Cx K)(ev:Operand->AV K)(H:List (Ob K))(op:Op):Option (AV K×List (Ob K)×Bool×List Nat):=
 match uH cx (fun x=>di H (ev x)) H op with
 |some r=>some r
 |none=>match iQ ev op with
 |[]=>qQ cx (fun x=>di H (ev x)) H op
 |hs=>match qP cx (fun x=>di (fM H hs) (ev x)) (fM H hs) op with
  |some (v,c)=>some (v,fM H hs,c,[])
  |none=>qQ cx (fun x=>di (fM H hs) (ev x)) (fM H hs) op
def Fz:Operand->Bool
 |.const (.slice none 0 0)=>true
 |_=>false
def fN(cx:Cx K):Op->Bool
 |.assign x=> !Fz x
 |.slice t ..=>Q5 cx.P t
 |.load t _=> !cx.opn||(cx.lz&&(cx.jR t).all Option.isNone)
 |.makeFunc .. |.move _|.pick .. |.binOp .. |.unOp .. |.extract .. |.fieldAddr .. |.indexAddr .. |.index .. |.nilCheck _=>true
 |.convert _ dst _=>(elemOf? cx.P dst).isNone
 |.call {callee:=.builtin .len, ..}|.call {callee:=.builtin .min, ..}|.call {callee:=.builtin .max, ..}=>true
 |.call {callee:=.value (.func f), ..}=>cx.mode f== .plain&&(!cx.opn||cx.lz)
 |_=>false
def cutV(cx:Cx K)(ev:Operand->AV K)(H:List (Ob K)):Op->Option (AV K×List (Ob K)×Bool×List Nat)
 |.slice t x none (some y) none=>if cx.cut then match ev x,ev y,elemOf? cx.P t with
   |.sl h,.int _ n,some e=>match H[h]? with
     |some (.arr c l)=>if cD cx.P e=some (K.sz c)then some (.sl H.length,H.set h .dead++[.arr c (l.take n.toNat)],cu 0 n l.length,[h])else none
     |some (.tree c l)=>if cD cx.P e=some (K.sz c)then some (.sl H.length,H.set h .dead++[.tree c (l.take n.toNat)],cu 0 n l.length,[h])else none
     |_=>none
   |_,_,_=>none else none
 |.slice t x (some y) none none=>if cx.cut then match ev x,ev y,elemOf? cx.P t with
   |.sl h,.int _ n,some e=>match H[h]? with
     |some (.arr c l)=>if cD cx.P e=some (K.sz c)/\cx.D.jG c=none then some (.sl H.length,H.set h .dead++[.arr c (l.drop n.toNat)],cu n l.length l.length,[h])else none
     |some (.tree c l)=>if cD cx.P e=some (K.sz c)/\cx.D.jG c=none then some (.sl H.length,H.set h .dead++[.tree c (l.drop n.toNat)],cu n l.length l.length,[h])else none
     |_=>none
   |_,_,_=>none else none
 |_=>none
def wE(cx:Cx K)(ev:Operand->AV K)(H:List (Ob K)):Op->Option (AV K×List (Ob K)×Bool×List Nat)
 |.buildSlice t len parts=>match elemOf? cx.P t with
   |none=>none
   |some e=>match cx.ty e,inOrder ev 0 parts.toList with
    |some c,some l=>if cD cx.P e=some (K.sz c)/\j8 cx.P e=true/\l.length=len/\len<=4096/\K.sz c<=4096/\l.all (fun v=>eO v.bf&&(v.known&&decide (v.bf.length=K.sz c)))=true then
      match lp cx.D c l with
      |some (y,b)=>some (.ai c y,H,b,[])
      |none=>none
     else none
    |_,_=>none
 |_=>none
def iR(q:Bool)(cx:Cx K)(tm:List (AV K))(gs:List (Nat×Bool))(H:List (Ob K))(T:TypeId):Op->Option (AV K×List (Ob K)×Bool×List Nat)
 |.pick c x y=>match c,cK tm gs c with
   |.tmp t,.bool b=>match known cx t with
     |some b0=>some (cond b0 (cK tm gs x) (cK tm gs y),H,b==b0,[])
     |none=>some (merge b (cK tm ((t,true)::gs) x) (cK tm ((t,false)::gs) y),H,true,[])
   |.const _,.bool b=>some (merge b (cK tm gs x) (cK tm gs y),H,true,[])
   |_,_=>none
 |.call {callee:=.value f,args, ..}=>match cK tm gs f with
   |.fn g caps=>uL q cx H g (args.toList.map (fun x=>di H (cK tm gs x))++caps)
   |_=>none
 |.assign x=>if !q&&Fz x then match elemOf? cx.P T with
     |some e=>match cx.ty e with
      |some c=>some (.sl H.length,H++[cond (cx.deep c) (.tree c []) (.arr c [])],true,[])
      |none=>some (cK tm gs x,H,true,[])
     |none=>some (cK tm gs x,H,true,[])
   else some (di H (cK tm gs x),H,true,[])
 |op=>match qP cx (fun x=>di H (cK tm gs x)) H op with
  |some (v,c)=>some (v,H,c,[])
  |none=>if q then wE cx (fun x=>di H (cK tm gs x)) H op else if fN cx op then none else match uJ cx (cK tm gs) H op with
   |some r=>some r
   |none=>match cutV cx (cK tm gs) H op with
   |some r=>some r
   |none=>uI cx (cK tm gs) H op
def ke(cx:Cx K):Op->Bool
 |.assign _=>true
 |.slice t ..=> !cx.cut||Q5 cx.P t
 |.call {callee:=.value (.func f), ..}=>cx.mode f== .plain||cx.mode f== .nC
 |op=>fN cx op
def afa(cx:Cx K):Op->Bool
 |.buildSlice ..=>true
 |op=>ke cx op
def fA(q:Bool)(cx:Cx K)(ops:List Oper)(tm:List (AV K))(H:List (Ob K))(wr:List Nat)(o:Oper):Option (AV K×List (Ob K)×Bool):=
 match guardOf ops o with
 |none=>none
 |some none=>match iR q cx tm [] H o.type o.op with
  |some (v,H',c,_)=>if v.fZ then none else some (v,H',c)
  |none=>none
 |some (some (g,w))=>match known cx g with
  |some b0=>match tm[g]? with
   |some (.bool b)=>if b0=w then match iR q cx tm [] H o.type o.op with
     |some (v,H',c,_)=>if v.fZ then none else some (v,H',c&&(b==b0))
     |none=>none
    else some (.any,H,b==b0)
   |_=>none
  |none=>match uu tm 6 (g,w)with
   |none=>none
   |some b=>if afa cx o.op&&wr.contains g then match iR true cx tm [(g,w)] H o.type o.op with
     |some (v,_,c,_)=>some (.opt g w v,H,c|| !b)
     |none=>none else none
def uP(cx:Cx K)(ops:List Oper)(st:St K)(wr:List Nat)(o:Oper):Option (St K×List Nat):=
 match fA false cx ops st.tm st.H wr o with
 |some (v,H',c)=>qR st wr o.dst v H' (c&&st.ok)
 |none=>none
def iS(cx:Cx K)(ops:List Oper):List Oper->St K->List Nat->Option (St K×List Nat)
 |[],st,wr=>some (st,wr)
 |o::r,st,wr=>match uP cx ops st wr o with
  |some (st',wr')=>iS cx ops r st' wr'
  |none=>none
def f0(tm:List (AV K)):List Nat->List (AV K)
 |[]=>tm
 |d::r=>match tm[d]? with
  |some (.opt ..)=>f0 (tm.set d .any) r
  |_=>f0 tm r
def fk:List Oper->List Nat->List Nat
 |[],acc=>acc
 |o::r,acc=>fk r (acc++[o.after.toList.foldl (fun s e=>s|||2^e.on|||acc.getD e.on 0) 0])
def dm(bits:Nat):List Oper->Nat->List (AV K)->List (AV K)
 |[],_,tm=>tm
 |o::r,i,tm=>dm bits r (i+1) (match o.dst with
  |some d=>if bits.testBit i then tm else tm.set d .any
  |none=>tm)
def wF(i:Nat):Nat->List Nat->Nat
 |_,[]=>0
 |k,b::r=>(cond (b.testBit i) (2^k) 0)|||wF i (k+1) r
def dE(bs:List Nat)(i:Nat):Nat:=bs.getD i 0|||wF i 0 bs
def jH(cx:Cx K)(ops:List Oper)(bs:List Nat):List Oper->Nat->St K->List Nat->Option (St K×List Nat)
 |[],_,st,wr=>some (st,wr)
 |o::r,i,st,wr=>match fA true cx ops (dm (dE bs i) ops 0 st.tm) st.H wr o with
  |some (v,_,c)=>match qR st wr o.dst v st.H (c&&st.ok)with
   |some (st',wr')=>jH cx ops bs r (i+1) st' wr'
   |none=>none
  |none=>none
def gW:List Oper->Nat->Bool
 |[],_=>true
 |o::r,i=>(o.after.toList.all fun e=>decide (e.on<i)&&Region.binds .any e)&&gW r (i+1)
def fB(bits:Nat):Nat->List (Ob K)->List (Ob K)
 |_,[]=>[]
 |i,o::r=>(if bits.testBit i then .dead else o)::fB bits (i+1) r
def iq(bits:Nat):Nat->List (Ob K)->List (Ob K)->List (Ob K)
 |i,o::r,o'::r'=>(if bits.testBit i then o else o')::iq bits (i+1) r r'
 |_,[],r'=>r'
 |_,_::_,[]=>[]
mutual
def AV.upto(n:Nat):AV K->Bool
 |.ptr h _|.sl h|.ep h _ _ _|.np h|.vw h _ _ _=>decide (h<n)
 |.fn _ l|.agg l|.bG l=>lx n l
 |.opt _ _ v=>v.upto n
 |_=>true
def lx(n:Nat):List (AV K)->Bool
 |[]=>true
 |v::r=>v.upto n&&lx n r
end
def Ob.upto(n:Nat):Ob K->Bool
 |.box cs=>lx n cs
 |.opn _ _ _ _ cs=>lx n cs
 |_=>true
def ga(ev:Operand->AV K)(op:Op):List Nat:=
 iQ ev op++(match op with
  |.store _ p _=>hands (ev p)
  |.call {callee:=.builtin .append,args, ..}=>(match args.toList with
    |s::x::_=>hands (ev s)++hands (ev x)
    |[s]=>hands (ev s)
    |[]=>[])
  |.call {callee:=.builtin .clear,args, ..}=>(match args.toList with
    |s::_=>hands (ev s)
    |[]=>[])
  |.call {callee:=.builtin .copy,args, ..}=>(match args.toList with
    |s::_=>hands (ev s)
    |[]=>[])
  |_=>[])
def ov(cx:Cx K):Op->Bool
 |.box .. |.alloc _|.build .. |.store .. |.makeSlice .. |.buildSlice .. |.convert .. |.slice ..=>true
 |.call {callee:=.builtin .append, ..}=>true
 |.call {callee:=.value (.func f), ..}=>(cx.mode f== .fresh||(cx.mode f== .pass||cx.mode f== .qc))&&(!cx.opn||cx.lz)
 |.load ..=>cx.opn&&cx.lz
 |_=>false
def FA(ev:Operand->AV K):Op->List Nat
 |.call {callee:=.value _,args, ..}=>bh (args.toList.map ev)
 |_=>[]
def uQ(cx:Cx K)(H:List (Ob K))(ev:Operand->AV K):Op->List Nat
 |.call {callee:=.value (.func f),args, ..}=>(match cx.mode f with
   |.pass=>reach H 64 (bh (args.toList.map fun y=>di H (ev y))) []
   |.qc=>bh (args.toList.map fun y=>di H (ev y))++reach (fM H (bh (args.toList.map fun y=>di H (ev y)))) 64 (bh (lv (fM H (bh (args.toList.map fun y=>di H (ev y)))) (args.toList.map fun y=>di H (ev y)))) []
   |_=>[])
 |_=>[]
def bitsOf:List Nat->Nat
 |[]=>0
 |h::r=>2^h|||bitsOf r
def uR(cx:Cx K)(ops:List Oper)(tm:List (AV K))(H:List (Ob K))(wr:List Nat)(o:Oper):Option (AV K×List (Ob K)×Bool):=
 if ke cx o.op then fA true cx ops tm H wr o else if ov cx o.op then fA false cx ops tm H wr o else none
def ly(cx:Cx K)(tm:List (AV K))(H:List (Ob K))(op:Op):List Nat:=if ke cx op then[]else match op with
 |.load t p=>(match qP cx (fun x=>di H (cK tm [] x)) H (.load t p)with
   |some _=>[]
   |none=>hands (cK tm [] p))
 |op=>(ga (cK tm []) op++FA (cK tm []) op)++uQ cx H (cK tm []) op
def uS(A:Nat):Nat->List Nat->Nat
 |_,[]=>0
 |k,b::r=>(if A.testBit k then 0 else b)|||uS A (k+1) r
def zQ(A:Nat)(T:List Nat):Nat->List (Nat×Nat)->Bool
 |_,[]=>true
 |i,(m,n)::r=>(A.testBit i||T.all fun h=>decide (n<=h)||m.testBit h)&&zQ A T (i+1) r
def afb:Op->Option (List Operand)
 |.slice _ x _ _ _=>some [x]
 |.move _=>some []
 |.load _ p=>some [p]
 |.fieldAddr ..=>some []
 |.indexAddr _ x _=>some [x]
 |.nilCheck _=>some []
 |.store _ p x=>some [p,x]
 |.binOp ..=>some []
 |.unOp ..=>some []
 |_=>none
def Q9(tm:List (AV K))(n:Nat)(op:Op):Nat:=
 match afb op with
 |none=>0
 |some l=>bitsOf ((List.range n).filter fun h=> !(bh (l.map (cK tm []))).contains h)
def mE(bs ws:List Nat)(i:Nat)(tm:List (AV K))(n:Nat)(op:Op):Nat:=uS (bs.getD i 0) 0 ws|||Q9 tm n op
def mF(cx:Cx K)(ops:List Oper)(bs:List Nat):List Oper->Nat->St K->List Nat->List (Nat×Nat)->List Nat->Option (St K×List Nat)
 |[],_,st,wr,_,_=>some (st,wr)
 |o::r,i,st,wr,ms,ws=>
  if lx st.H.length (dm (dE bs i) ops 0 st.tm)&&(fB (mE bs ws i (dm (dE bs i) ops 0 st.tm) st.H.length o.op) 0 st.H).all (Ob.upto st.H.length)then
   match uR cx ops (dm (dE bs i) ops 0 st.tm) (fB (mE bs ws i (dm (dE bs i) ops 0 st.tm) st.H.length o.op) 0 st.H) wr o with
   |none=>none
   |some (v,H',c)=>
    if(zQ (bs.getD i 0) (ly cx (dm (dE bs i) ops 0 st.tm) (fB (mE bs ws i (dm (dE bs i) ops 0 st.tm) st.H.length o.op) 0 st.H) o.op) 0 ms&&(ly cx (dm (dE bs i) ops 0 st.tm) (fB (mE bs ws i (dm (dE bs i) ops 0 st.tm) st.H.length o.op) 0 st.H) o.op).all fun h=> !(mE bs ws i (dm (dE bs i) ops 0 st.tm) st.H.length o.op).testBit h&&decide (h<st.H.length))&&decide (st.H.length<=H'.length)then
     match qR st wr o.dst v (iq (mE bs ws i (dm (dE bs i) ops 0 st.tm) st.H.length o.op) 0 st.H H') (c&&st.ok)with
     |some (st',wr')=>mF cx ops bs r (i+1) st' wr' (ms++[(mE bs ws i (dm (dE bs i) ops 0 st.tm) st.H.length o.op,st.H.length)])
       (ws++[bitsOf (ly cx (dm (dE bs i) ops 0 st.tm) (fB (mE bs ws i (dm (dE bs i) ops 0 st.tm) st.H.length o.op) 0 st.H) o.op++List.range' st.H.length (H'.length-st.H.length))])
     |none=>none
    else none
  else none
def lA(cx:Cx K)(ops:List Oper)(st:St K):Option (St K):=
 if(ops.all fun o=>ke cx o.op)&&gW ops 0 then match jH cx ops (fk ops []) ops 0 st []with
     |some (st',wr)=>some ⟨f0 st'.tm wr,st'.H,st'.ok⟩
     |none=>none
  else if gW ops 0 then match mF cx ops (fk ops []) ops 0 st [] [] []with
   |some (st',wr)=>some ⟨f0 st'.tm wr,st'.H,st'.ok⟩
   |none=>none
  else none
def wG(π:List Nat)(n:Nat):Bool:=decide (π.length=n)&&(π.all (fun i=>decide (i<n))&&((List.range n).all (fun i=>π.contains i)&&ip π))
def qS(π:List Nat)(n:Nat)(o:Oper):Oper:=
 {o with after:=(o.after.filter (Region.binds .any)).map (fun e=>{e with on:=(π.idxOf? e.on).getD n}),guard:=o.guard.map fun g=>((π.idxOf? g.1).getD n,g.2)}
def permuted(π:List Nat)(ops:List Oper):List Oper:=π.map fun i=>match ops[i]? with
 |some o=>qS π ops.length o
 |none=>{dst:=none,op:=.move (.const .nilIface),type:=0,pos:= "",after:= #[],guard:=none}
def Rb(cx:Cx K)(ops:List Oper)(bs:List Nat):List Nat:=
 match(List.range ops.length).foldl (fun acc i=>match ops[i]? with
  |some o=>if ov cx o.op&&(!ke cx o.op&& !acc.contains i)then acc++((List.range ops.length).filter fun j=>(bs.getD i 0).testBit j&& !acc.contains j)++[i]else acc
  |none=>acc) []with
 |acc=>acc++(List.range ops.length).filter fun j=> !acc.contains j
def wH(cx:Cx K)(ops:List Oper)(π:List Nat)(st:St K):Option (St K):=
 if wG π ops.length then lA cx (permuted π ops) st else none
def FB(cx:Cx K)(ops:List Oper)(st:St K):Option (St K):=
 if gW ops 0 then match lA cx ops st with
  |some r=>some r
  |none=>wH cx ops (Rb cx ops (fk ops [])) st
 else match wH cx ops (List.range ops.length) st with
  |some r=>some r
  |none=>wH cx ops (Rb cx ops (fk (permuted (List.range ops.length) ops) [])) st
def jr(cx:Cx K)(ops:List Oper)(draw:Bool)(st:St K):Option (St K):=
 if draw then FB cx ops st
 else match iS cx ops ops st []with
  |some (st',wr)=>some ⟨f0 st'.tm wr,st'.H,st'.ok⟩
  |none=>none
def writes:Code->List Nat
 |.region _ ops _=>ops.toList.filterMap (·.dst)
 |.seq a b=>writes a++writes b
 |.cond _ a b=>writes a++writes b
 |.block _ c=>writes c
 |.loop c=>writes c
 |.scope c=>writes c
 |.rangeFunc _ ps a c=>ps.toList++writes a++writes c
 |_=>[]
def simple(cx:Cx K):Code->Bool
 |.skip=>true
 |.region _ ops _=>ops.toList.all fun o=>fN cx o.op
 |.seq a b=>simple cx a&&simple cx b
 |.cond _ a b=>simple cx a&&simple cx b
 |_=>false
def gd(b:Bool)(wr:List Nat):Nat->List (AV K)->List (AV K)->List (AV K)->List (AV K)
 |n,v::r,x::s,y::t=>(if wr.contains n then merge b x y else v)::gd b wr (n+1) r s t
 |_,_,_,_=>[]
def df(tm:List (AV K)):List Nat->List (AV K)->List (AV K)
 |d::r,v::s=>df (tm.set d v) r s
 |_,_=>tm
def keyOf:Code->Nat
 |.region id _ _=>id
 |.seq a _=>keyOf a
 |.cond _ a _=>keyOf a
 |.block _ c=>keyOf c
 |.loop c=>keyOf c
 |_=>0
def inLoop(H:List (Ob K))(vals:List (AV K)):Option (List Nat×List (AV K)×List (Ob K)):=
 if qA H (reach H 64 (bh vals) [])then match Q8 (reach H 64 (bh vals) []) vals,jF (zq (reach H 64 (bh vals) [])) ((reach H 64 (bh vals) []).map fun h=>H.getD h .dead)with
  |some ir,some Hi=>some (reach H 64 (bh vals) [],ir,Hi)
  |_,_=>none
 else none
def eN(m:List Nat)(n k:Nat):List Nat:=m++(List.range (k-m.length)).map (n+·)
def zR(L:bo K)(m:List Nat)(st:St K)(vs:List (AV K))(Ho:List (Ob K)):Option (St K):=
 match ae9 (eN m st.H.length Ho.length) vs,jF (qB (eN m st.H.length Ho.length)) Ho with
 |some vs',some fb=>if m.length<=Ho.length then some ⟨df (List.replicate L.n .any) L.outs vs',fW st.H m (fb.take m.length)++fb.drop m.length,st.ok⟩else none
 |_,_=>none
def afc(ops:List Oper):List Nat:=(ops.filterMap fun o=>match guardOf ops o with
 |some (some (g,_))=>some g
 |_=>none).eraseDups
def wI(cx:Cx K)(ops:List Oper)(draw:Bool)(st:St K):List Nat->Option (Bool×St K×St K)
 |[]=>none
 |t::r=>match jr {cx with gs:=some (t,true)} ops draw st,jr {cx with gs:=some (t,false)} ops draw st with
  |some s1,some s2=>match s1.tm.getD t .any with
   |.bool b=>some (b,s1,s2)
   |_=>wI cx ops draw st r
  |_,_=>wI cx ops draw st r
def uT:Ex->St K->Option (St K)
 |.normal,st=>some st
 |_,_=>none
def eD(cx:Cx K):Code->{R:Type}->St K->(Ex->St K->Option R)->Option R
 |.skip,_,st,k=>k .normal st
 |.region _ ops draw,_,st,k=>match jr cx ops.toList draw st with
   |some st'=>k .normal st'
   |none=>match wI cx ops.toList draw st (afc ops.toList)with
    |some (b,s1,s2)=>cond b (k .normal s1) (k .normal s2)
    |none=>if(ops.toList.all fun o=>fN cx o.op)=true then none else match jr {cx with call:=cx.alt true,mode:=cx.zM true} ops.toList draw st,jr {cx with call:=cx.alt false,mode:=cx.zM false} ops.toList draw st with
     |some s1,some s2=>cx.EJ (k .normal s1) (k .normal s2)
     |_,_=>none
 |.seq a b,_,st,k=>eD cx a st fun e s=>match e with
   |.normal=>eD cx b s k
   |e=>k e s
 |.cond c a b,_,st,k=>match cK st.tm [] c with
   |.bool t=>if simple cx a&&simple cx b then
       match eD cx a st uT,eD cx b st uT with
       |some sa,some sb=>k .normal ⟨gd t (writes a++writes b) 0 st.tm sa.tm sb.tm,st.H,(sa.ok|| !t)&&(sb.ok||t)⟩
       |_,_=>none
     else cond t (eD cx a st k) (eD cx b st k)
   |_=>none
 |.block id c,_,st,k=>eD cx c st fun e s=>match e with
   |.exit i=>if i=id then k .normal s else k (.exit i) s
   |e=>k e s
 |.loop c,_,st,k=>match cx.loop (keyOf c)with
   |some L=>if st.tm.length=L.n then match inLoop st.H (L.ins.map fun t=>st.tm.getD t .any)with
     |some (m,vals,Hi)=>L.run vals Hi fun e vs Ho=>match zR L m st vs Ho with
      |some st'=>k e st'
      |none=>none
     |none=>none else none
   |none=>none
 |.exit id,_,st,k=>k (.exit id) st
 |.ret,_,st,k=>k .ret st
 |_,_,_,_=>none
def ow(cx:Cx K)(st:St K):List ResultVar->Option (List (AV K))
 |[]=>some []
 |.tmp t::r=>match ow cx st r with
   |some l=>some (st.tm.getD t .any::l)
   |none=>none
 |.cell a t::r=>match zO cx.P cx.D st.H t (st.tm.getD a .any),ow cx st r with
   |some v,some l=>some (v::l)
   |_,_=>none
def resV(cx:Cx K)(fn:Func)(st:St K):Option (AV K):=
 match ow cx st fn.results.toList with
 |some [v]=>some (di st.H v)
 |some l=>some (.bG (lv st.H l))
 |none=>none
def qT{α β:Type}(f:α->Option β):List α->Option (List β)
 |[]=>some []
 |x::r=>match f x,qT f r with
  |some y,some l=>some (y::l)
  |_,_=>none
def ox(src:List (Option Nat))(h:Nat):Option Nat:=src.idxOf? (some h)
def oy(n0 n:Nat):Nat->List (Option Nat)->Bool
 |_,[]=>true
 |i,none::r=>decide (i<n0)&&oy n0 n (i+1) r
 |i,some h::r=>decide (h<n)&&((decide (n0<=i)||decide (h=i))&&(!r.contains (some h)&&oy n0 n (i+1) r))
def qU(src:List (Option Nat))(H:List (Ob K)):Option Nat->Option (Ob K)
 |none=>some .dead
 |some h=>match H[h]? with
  |some o=>ik (ox src) o
  |none=>none
def mG(n0:Nat)(src:List (Option Nat))(keep:List Nat)(st:St K):Option (St K):=
 if oy n0 st.H.length 0 src&&decide (n0<=src.length)then
  match fV (ox src) (keep.map fun t=>st.tm.getD t .any),qT (qU src st.H) src with
  |some vs,some H=>some ⟨df (List.replicate st.tm.length .any) keep vs,H,st.ok⟩
  |_,_=>none
 else none
def qV(n0:Nat)(keep:List Nat)(st:St K):Option (St K):=
 mG n0 ((reach st.H 64 (List.range n0++bh (keep.map fun t=>st.tm.getD t .any)) []).map some) keep st
def oz(cx:Cx K)(s:St K):Option (Bool×St K):=match Fv s.H with
 |none=>some (true,s)
 |some _=>match shut cx.D s.H with
  |some (H',b,_)=>some (b,⟨s.tm,H',s.ok⟩)
  |none=>none
def zS(cx:Cx K)(n0:Nat)(keep outs:List Nat)(body:Code)(st:St K):Option (St K⊕Ex×St K):=
 eD cx body st fun e s=>cond s.ok (match e with
  |.normal=>match oz cx s with
    |some (b,s1)=>cond b (match qV n0 keep s1 with
     |some s'=>some (.inl s')
     |none=>none) none
    |none=>none
  |e=>match oz cx s with
   |some (b,s1)=>cond b (match qV n0 outs s1 with
    |some s'=>some (.inr (e,s'))
    |none=>none) none
   |none=>none) none
def FC(n0:Nat)(src:List (Option Nat))(v:AV K)(H:List (Ob K)):Option (AV K×List (Ob K)):=
 if oy n0 H.length 0 src&&decide (n0<=src.length)then
  match dO (ox src) v,qT (qU src H) src with
  |some v',some H'=>some (v',H')
  |_,_=>none
 else none
def pack(n0:Nat)(v:AV K)(H:List (Ob K)):Option (AV K×List (Ob K)):=
 FC n0 ((reach H 64 (List.range n0++hands v) []).map some) v H
def FD(H:List (Ob K))(h:Nat):Bool:=match H[h]? with
 |some (.arr ..)=>false
 |some (.tree ..)=>false
 |_=>true
def afd(n0:Nat)(v:AV K)(H:List (Ob K)):List (Option Nat):=
 ((List.range n0).map fun h=>cond (FD H h) (some h) none)++((reach H 64 ((List.range n0).filter (FD H)++hands v) []).filter fun h=> !(decide (h<n0)&&FD H h)).map some
def zT(mv:Bool)(n0:Nat)(v:AV K)(H:List (Ob K)):Option (AV K×List (Ob K)):=
 FC n0 (cond mv (afd n0 v H) ((reach H 64 (List.range n0++hands v) []).map some)) v H
def afe(cx:Cx K)(fn:Func)(n0:Nat)(e:Ex)(st:St K):Option (AV K×List (Ob K)):=
 match e with
 |.exit _=>none
 |_=>match resV cx fn st with
  |some v=>cond st.ok (pack n0 v st.H) none
  |none=>none
def ahn(cx:Cx K)(fn:Func)(args:List (AV K))(H:List (Ob K)):Option (AV K×List (Ob K)):=
 match fn.body with
 |some c=>eD cx c ⟨args++List.replicate (fn.ntmps-args.length) .any,H,true⟩ (afe cx fn H.length)
 |none=>none
end Go.V
