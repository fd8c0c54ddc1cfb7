/-
  A VALUE-LEVEL READING OF THE LOADED CODE: abstract values, objects, operations, and a function 'execC' that runs a body on them. Nothing here speaks of one program: the program is a parameter. The proofs that what it yields is what the machine does are in the texts that follow.
-/
import Derived.WalkKit
import Derived.KernelRfl
import Derived.Orders
universe u v
abbrev dS := @Option.some.injEq
theorem jY{α:Type u}{a:α}:(some a).isSome=true:=rfl
abbrev jX := @decide_eq_true_eq
theorem kE(n:Nat):(n:Int).toNat=n:=rfl
abbrev wG := @List.getElem?_eq_some_iff
theorem jR{α:Type u}{a b:α}:(some a).getD b=a:=rfl
abbrev wH := @List.getElem?_eq_getElem
abbrev iQ := @Prod.mk.injEq
abbrev jg := @Bool.and_true
abbrev lS := @Bool.and_eq_true
theorem bQ{α:Sort u}(a b:α):(bif true then a else b)=a:=rfl
abbrev dY := @Bool.true_and
abbrev gp := @List.getElem_mem
abbrev qV := @List.getElem?_append_left
abbrev eG := @decide_true
abbrev uS := @List.getElem?_append_right
abbrev bu := @if_neg
abbrev xA := @List.getD_eq_getElem?_getD
theorem jA{α:Type u}{a:α}{as:List α}:(a::as).length=as.length+1:=rfl
abbrev gZ := @Int.ofNat_lt
abbrev bI := @if_pos
abbrev jc := @Bool.true_or
abbrev iM := @Nat.le_refl
theorem gG{α:Sort u}(a b:α):(bif false then a else b)=b:=rfl
abbrev AO := @decide_eq_false_iff_not
abbrev kF := @Nat.lt_or_ge
abbrev yl := @List.getElem?_take
abbrev qC := @List.mem_append
theorem qh{α:Type u}:([]:List α).length=0:=rfl
abbrev zH := @List.length_append
abbrev Fg := @Option.map_eq_some_iff
abbrev lH := @Nat.le_trans
abbrev AP := @beq_eq_false_iff_ne
abbrev CY := @Nat.mul_le_mul_right
abbrev pq := @Bool.and_self
abbrev zG := @List.all_eq_true
abbrev xE := @List.length_map
abbrev oG := @Nat.zero_le
abbrev EY := @Bool.not_eq_true'
abbrev CG := @Bool.or_eq_true
abbrev EZ := @decide_eq_decide
abbrev PS := @List.mem_of_getElem?
abbrev Ad := @Bool.not_true
abbrev Nu := @List.getElem?_drop
abbrev adV := @Array.getElem?_eq_some_iff
abbrev AB := @List.mem_cons
abbrev PN := @Bool.false_eq_true
abbrev sD := @beq_iff_eq
abbrev xB := @Nat.add_mul
abbrev Ae := @Nat.zero_add
abbrev Np := @List.getElem?_map
abbrev Nr := @List.getElem?_set
abbrev adX := @List.getElem?_replicate
abbrev KA := @Bool.eq_iff_iff
abbrev aob := @List.eq_nil_of_length_eq_zero
abbrev Sl := @List.drop_length
abbrev Nk := @List.drop_zero
abbrev VB := @List.length_take
abbrev aqF := @Array.getD_eq_getD_getElem?
abbrev ali := @List.drop_of_length_le
abbrev VG := @Option.some.inj
abbrev as3 := @Array.getElem?_setIfInBounds
abbrev NT := @Bool.false_or
abbrev WI := @List.length_set
abbrev agJ := @Nat.lt_of_lt_of_le
abbrev agM := @Nat.eq_zero_or_pos
abbrev Kt := @Nat.one_mul
abbrev agN := @Bool.eq_false_iff
abbrev ach := @Nat.not_lt_zero
abbrev ap8 := @List.getElem?_eq_none
abbrev ajP := @List.take_add_one
abbrev YW := @Nat.add_assoc
abbrev YY := @List.map_cons
abbrev asY := @List.mem_cons_of_mem
abbrev asX := @List.getElem_of_mem
abbrev ajQ := @decide_eq_false
abbrev ahb := @decide_eq_true
abbrev aoI := @List.append_assoc
abbrev Ti := @bne_iff_ne
abbrev ayD := @List.pairwise_iff_getElem
abbrev aoD := @beq_self_eq_true
abbrev asW := @List.size_toArray
abbrev am9 := @Bool.not_false
abbrev aym := @List.not_all_eq_any_not
abbrev avj := @List.mem_cons_self
abbrev Nl := @if_false
abbrev ayX := @Array.getElem?_eq_none
abbrev Fh := @if_true
abbrev aBB := @Array.getElem?_eq_getElem
abbrev ajM := @List.mem_map
abbrev ay0 := @List.length_replicate
abbrev ayy := @Array.replicate_succ
abbrev aoH := @Bool.or_false
abbrev awZ := @List.ext_getElem?
abbrev auj := @List.map_append
abbrev ayz := @List.append_toArray
abbrev ayL := @congrArg
abbrev aBz := @Bool.false_ne_true
abbrev aAV := @List.contains_eq_mem
abbrev alf := @Bool.or_eq_false_iff
abbrev alL := @decide_not
abbrev ap4 := @List.nodup_cons
abbrev ad1 := @List.push_toArray
abbrev ad3 := @Nat.sub_self
abbrev ad4 := @decide_false
theorem aAs{α:Type u}(as:List α):[]++as=as:=rfl
abbrev alO := @List.take_append_of_le_length
abbrev ati := @Bool.false_and
abbrev axd := @List.mem_singleton
abbrev YV := @Nat.eq_of_beq_eq_true
theorem Hw{α:Type u}{a:α}{as bs:List α}:(a::as)++bs=a::(as++bs):=rfl
abbrev atc := @Iff.rfl
abbrev atz := @List.take_length
abbrev RF := @Bool.not_eq_true
abbrev alR := @Bool.or_true
abbrev amz := @Nat.le_of_lt
abbrev aAt := @Array.getElem?_replicate
abbrev az2 := @Int.eq_ofNat_of_zero_le
abbrev aAh := @List.take_of_length_le
abbrev amG := @Nat.mul_one
abbrev atA := @List.mem_range
abbrev atU := @Nat.testBit_or
abbrev apW := @Bool.or_self
abbrev aqc := @Bool.not_not
theorem P8{α:Type u}{a:α}{l:List α}{f:α->Bool}:(a::l).all f=(f a&&l.all f):=rfl
abbrev awE := @Nat.lt_succ_self
abbrev avQ := @List.getElem_map
abbrev aAe := @of_decide_eq_true
abbrev acg := @Ne.symm
abbrev az1 := @List.not_mem_nil
abbrev axy := @Nat.add_comm
abbrev awX := @List.map_map
abbrev aAi := @List.append_nil
abbrev axt := @Nat.zero_mul
abbrev axe := @getElem!_pos
theorem afx{α:Type u}{β:Type v}(a:α)(f:α->β):Option.map f (some a)=some (f a):=rfl
abbrev azI := @List.drop_drop
abbrev apK := @true_and
abbrev aAq := @Nat.mul_comm
abbrev azG := @List.all_map
abbrev awG := @or_false
namespace Go.V
open Go
structure Jc where
 U:Type
 El:U->Type
 deq:DecidableEq U
 sz:U->Nat
 zero:(c:U)->El c
inductive AV (K:Jc) where
 |any
 |int (k:IntKind) (n:Int)
 |bool (b:Bool)
 |str (s:List UInt8)
 |vP
 |jf
 |fn (f:Nat) (caps:List (AV K))
 |ptr (h off:Nat)
 |sl (h:Nat)
 |ep (h st i off:Nat)
 |bY (c:K.U) (l:List (K.El c))
 |rp (c:K.U) (x:K.El c) (off:Nat)
 |agg (l:List (AV K))
 |sO (l:List (AV K))
 |opt (g:Nat) (want:Bool) (v:AV K)
 |np (h:Nat)
 |vw (h st lo hi:Nat)
inductive Ob (K:Jc) where
 |dead
 |box (cells:List (AV K))
 |arr (c:K.U) (l:List (K.El c))
 |fro (c:K.U) (l:List (K.El c))
 |tree (c:K.U) (l:List (K.El c))
 |opn (c:K.U) (l:List (K.El c)) (i off:Nat) (cs:List (AV K))
structure Base where
 inv:(Nat->Prop)->World->Prop
 mono:∀{S S':Nat->Prop}{w w':World},(∀b,S b->S' b)->(∀b,S b->w'.heap[b]?=w.heap[b]?)->inv S w->inv S' w'
def Base.aJC:Base:=⟨fun _ _=>True,fun _ _ h=>h⟩
structure nz (K:Jc) where
 cells:(c:K.U)->K.El c->List (AV K)
 dec:(c:K.U)->List (AV K)->Option (K.El c×Bool)
 byte:(c:K.U)->Option ((K.El c->UInt8)×(UInt8->K.El c))
 find:List (AV K)->Option K.U
 base:Base:=Base.aJC
 ajk:Option TypeId:=none
 elT:K.U->Option TypeId:=fun _=>none
variable{K :Jc}
def AV.bW:AV K->List (AV K)
 |.agg l=>l
 |v=>[v]
def AV.known:AV K->Bool
 |.any|.opt ..=>false
 |_=>true
def AV.Hz:AV K->Bool
 |.opt ..=>true
 |_=>false
def AV.one:AV K->Bool
 |.any|.opt .. |.agg _|.sO _|.vw ..=>false
 |_=>true
structure St (K:Jc) where
 tm:List (AV K)
 H:List (Ob K)
 ok:Bool
inductive Ex where
 |normal
 |exit (id:Nat)
 |ret
def Ex.PW:Ex->Exit
 |.normal=>.normal
 |.exit id=>.exit id
 |.ret=>.ret
structure cO (K:Jc) where
 n:Nat
 ins:List Nat
 outs:List Nat
 run:{R:Type}->List (AV K)->List (Ob K)->(Ex->List (AV K)->List (Ob K)->Option R)->Option R
inductive Mode where
 |plain|VL|lF|pass|abg|fresh
 deriving DecidableEq
def orE{R:Type}(a b:Option R):Option R:=match a with
 |none=>b
 |some r=>some r
theorem aBI{R:Type}{a b:Option R}{r:R}(h:orE a b=some r):a=some r\/b=some r:=by
 cases a with
 |none=>exact .inr h
 |some x=>exact .inl h
structure Cx (K:Jc) where
 P:Program
 D:nz K
 ty:TypeId->Option K.U
 call:FuncId->List (AV K)->List (Ob K)->Option (AV K×List (Ob K)×Bool)
 mode:FuncId->Mode
 loop:Nat->Option (cO K)
 sls:TypeId->List (Option K.U)
 cut:Bool:=false
 rsl:List (List (Option K.U)):=[]
 aEA:List Bool:=[]
 mv:Bool:=false
 deep:K.U->Bool:=fun _=>false
 opn:Bool:=false
 vws:Bool:=false
 lz:Bool:=false
 alt:Bool->FuncId->List (AV K)->List (Ob K)->Option (AV K×List (Ob K)×Bool):=fun _ _ _ _=>none
 aAu:Bool->FuncId->Mode:=fun _=>mode
 orF:{R:Type}->Option R->Option R->Option R:=fun a b=>orE a b
 gs:Option (Nat×Bool):=none
def known(cx:Cx K)(g:Nat):Option Bool:=match cx.gs with
 |some (t,b)=>if t=g then some b else none
 |none=>none
mutual
def VK:Value->Option (AV K)
 |.bool b=>some (.bool b)
 |.int k n=>some (.int k n)
 |.string s=>some (.str s.data.toList)
 |.pointer none=>some .vP
 |.slice none 0 0=>some .jf
 |.agg cs=>(aqT cs.toList).map .agg
 |_=>none
def aqT:List Value->Option (List (AV K))
 |[]=>some []
 |v::r=>match VK v,aqT r with
  |some x,some l=>some (x::l)
  |_,_=>none
end
def covers(tm:List (AV K)):Nat->Nat×Bool->Nat×Bool->Bool
 |0,g,t=>g.1==t.1&&g.2==t.2
 |n+1,g,t=>(g.1==t.1&&g.2==t.2)||(match tm[g.1]? with
  |some (.opt g1 w1 _)=>covers tm n (g1,w1) t
  |_=>false)
def SG(tm:List (AV K))(gs:List (Nat×Bool)):Operand->AV K
 |.tmp t=>match tm[t]? with
   |some (.opt g w v)=>if gs.any (fun p=>covers tm 6 p (g,w))then v else .any
   |some v=>v
   |none=>.any
 |.const v=>(VK v).getD .any
 |.global _=>.any
 |.func f=>.fn f []
def aBC(tm:List (AV K)):Nat->Nat×Bool->Option Bool
 |0,_=>none
 |n+1,(g,w)=>match tm[g]? with
  |some (.bool b)=>some (b==w)
  |some (.opt g1 w1 (.bool b))=>(aBC tm n (g1,w1)).map fun e=>e&&(b==w)
  |_=>none
mutual
def merge(b:Bool):AV K->AV K->AV K
 |.int k m,.int k' n=>if k=k' then .int k (cond b m n)else .any
 |.bool m,.bool n=>.bool (cond b m n)
 |.str m,.str n=>.str (cond b m n)
 |.bY c l,.bY c' l'=>match K.deq c c' with
   |.isTrue h=>.bY c' (cond b (h ▸ l) l')
   |.isFalse _=>.any
 |.agg l,.agg l'=>if l.length=l'.length then .agg (merges b l l')else .any
 |.jf,.jf=>.jf
 |.vP,.vP=>.vP
 |_,_=>.any
def merges(b:Bool):List (AV K)->List (AV K)->List (AV K)
 |x::r,y::s=>merge b x y::merges b r s
 |_,_=>[]
end
def aqU(op:BinOp)(k:IntKind)(x y:Int):Int:=
 let a:=BitVec.ofInt k.bits x
 let b:=BitVec.ofInt k.bits y
 k.wrap ((match op with
   |.and=>(a&&& b)|.or=>(a|||b)|.xor=>(a^^^b)|_=>(a&&& ~~~b)).toNat)
def aJG(k:IntKind)(x y:Int):Int:=k.wrap (x*2^(min y.toNat k.bits))
def aJH(k:IntKind)(x y:Int):Int:=x.fdiv (2^(min y.toNat k.bits))
def agI(a b:List UInt8):Bool:=decide (a.length+b.length<=4611686018427387904)
def ltS(a b:List UInt8):Bool:=Op.bytesLess a b
def aIi(op:BinOp)(k:IntKind)(a b:Int):Option (AV K×Bool):=
 match op with
 |.add=>some (.int k (k.wrap (a+b)),true)
 |.sub=>some (.int k (k.wrap (a-b)),true)
 |.mul=>some (.int k (k.wrap (a*b)),true)
 |.quo=>some (.int k (k.wrap (a.tdiv b)),b !=0)
 |.rem=>some (.int k (a.tmod b),b !=0)
 |.and|.or|.xor|.andNot=>some (.int k (aqU op k a b),true)
 |.eql=>some (.bool (a==b),true)
 |.neq=>some (.bool (a !=b),true)
 |.lss=>some (.bool (decide (a<b)),true)
 |.leq=>some (.bool (decide (a<=b)),true)
 |.gtr=>some (.bool (decide (b<a)),true)
 |.geq=>some (.bool (decide (b<=a)),true)
 |.shl|.shr=>none
def aIj(op:BinOp)(a b:List UInt8):Option (AV K×Bool):=
 match op with
 |.add=>some (.str (a++b),agI a b)
 |.eql=>some (.bool (a==b),true)
 |.neq=>some (.bool (!(a==b)),true)
 |.lss=>some (.bool (ltS a b),true)
 |.leq=>some (.bool (ltS a b||a==b),true)
 |.gtr=>some (.bool (!(ltS a b||a==b)),true)
 |.geq=>some (.bool (!ltS a b),true)
 |_=>none
def aDx(P:Program)(t:TypeId):Bool:=P.underlying t matches some .string
def avs(P:Program)(t:TypeId):Bool:=P.underlying t matches some .bool
def unV(op:UnOp):AV K->Option (AV K×Bool)
 |.bool b=>match op with
   |.not=>some (.bool (!b),true)
   |_=>none
 |.int k n=>match op with
   |.neg=>some (.int k (k.wrap (0-n)),true)
   |.xor=>some (.int k (aqU .xor k (if k.signed then -1 else k.max) n),true)
   |_=>none
 |_=>none
def wB(P:Program)(t:TypeId):Option Nat:=(P.info? t).map (·.size)
def aAv(P:Program)(t:TypeId):Option Bool:=
 match P.underlying t with
 |some (.struct _)|some (.array _ _)=>some true
 |some _=>some false
 |none=>none
def aAw(P:Program)(t:TypeId)(f:Nat):Option Field:=
 match P.underlying t with
 |some (.struct fs)=>fs[f]?
 |_=>none
def elemOf?(P:Program)(t:TypeId):Option TypeId:=
 match P.underlying t with
 |some (.slice e)=>some e
 |_=>none
def zeroOf(P:Program)(t:TypeId):Option (AV K):=
 match P.info? t with
 |some i=>match i.zero with
  |some v=>VK v
  |none=>none
 |none=>none
def ac9(P:Program)(t:TypeId):Option IntKind:=
 match P.underlying t with
 |some (.int k)=>some k
 |_=>none
def VP(P:Program)(t:TypeId)(cs:List (AV K))(off:Nat):Option (AV K):=
 match aAv P t,wB P t with
 |some true,some n=>if off+n<=cs.length then some (.agg ((cs.drop off).take n))else none
 |some false,some _=>cs[off]?
 |_,_=>none
def axz(P:Program)(rec:TypeId->AV K->AV K->Option Bool)(xs ys:List (AV K)):List Field->Option Bool
 |[]=>some true
 |f::fs=>if f.name= "_" then none else
  match VP P f.type xs f.offset,VP P f.type ys f.offset with
  |some a,some b=>match rec f.type a b,axz P rec xs ys fs with
   |some p,some q=>some (p&&q)
   |_,_=>none
  |_,_=>none
def eqA(P:Program):Nat->TypeId->AV K->AV K->Option Bool
 |0,_,_,_=>none
 |n+1,t,.int k a,.int k' b=>if k=k' then(match P.underlying t with
  |some (.int _)=>some (a==b)
  |_=>none)else none
 |n+1,t,.bool a,.bool b=>(match P.underlying t with
  |some .bool=>some (a==b)
  |_=>none)
 |n+1,t,.str a,.str b=>(match P.underlying t with
  |some .string=>some (a==b)
  |_=>none)
 |n+1,t,.agg xs,.agg ys=>(match P.underlying t with
  |some (.struct fs)=>if P.stoodInHeld t then none else axz P (eqA P n) xs ys fs.toList
  |_=>none)
 |_+1,_,_,_=>none
def aIk(P:Program)(op:BinOp)(t:TypeId):AV K->AV K->Option (AV K×Bool)
 |.int k a,.int k' b=>match op with
   |.shl=>some (.int k (aJG k a b),decide (0<=b))
   |.shr=>some (.int k (aJH k a b),decide (0<=b))
   |_=>if k=k' then aIi op k a b else none
 |.bool a,.bool b=>if avs P t then(match op with
   |.eql=>some (.bool (a==b),true)
   |.neq=>some (.bool (!(a==b)),true)
   |_=>none)else none
 |.str a,.str b=>aIj op a b
 |.agg a,.agg b=>match op with
   |.eql=>if P.eqGuardType P.depth t then none else(eqA P 6 t (.agg a) (.agg b)).map fun e=>(.bool e,true)
   |.neq=>if P.eqGuardType P.depth t then none else(eqA P 6 t (.agg a) (.agg b)).map fun e=>(.bool (!e),true)
   |_=>none
 |_,_=>none
def inB(n:Int)(len:Nat):Bool:=decide (0<=n)&&decide (n<len)
def yx(lo hi:Int)(len:Nat):Bool:=decide (0<=lo)&&(decide (lo<=hi)&&decide (hi<=len))
mutual
def AV.closed:AV K->Bool
 |.int .. |.bool _|.str _|.vP|.jf|.bY .. |.rp .. |.any=>true
 |.ptr .. |.sl _|.ep .. |.opt .. |.np _|.vw ..=>false
 |.fn _ l|.agg l|.sO l=>nD l
def nD:List (AV K)->Bool
 |[]=>true
 |v::r=>v.closed&&nD r
end
def aqH(H:List (Ob K)):AV K->AV K
 |.sl h=>match H[h]? with
   |some (.arr c l)=>.bY c l
   |some (.fro c l)=>.bY c l
   |some (.tree c l)=>.bY c l
   |_=>.any
 |v=>v
mutual
def VL(D:nz K)(H:List (Ob K)):AV K->AV K
 |.sl h=>match H[h]? with
   |some (.arr c l)=>.bY c l
   |some (.fro c l)=>.bY c l
   |some (.tree c l)=>.bY c l
   |_=>.any
 |.ptr h off=>match H[h]? with
   |some (.box cs)=>match D.find (cs.map (aqH H))with
    |some c=>match D.dec c (cs.map (aqH H))with
     |some (x,true)=>.rp c x off
     |_=>.any
    |none=>.any
   |_=>.any
 |.vw h st lo hi=>match H[h]? with
   |some (.arr c l)=>if st=K.sz c then .bY c ((l.take hi).drop lo)else .any
   |some (.tree c l)=>if st=K.sz c then .bY c ((l.take hi).drop lo)else .any
   |_=>.any
 |.fn g l=>.fn g (VM D H l)
 |.agg l=>.agg (VM D H l)
 |.sO l=>.sO (VM D H l)
 |v=>v
def VM(D:nz K)(H:List (Ob K)):List (AV K)->List (AV K)
 |[]=>[]
 |v::r=>VL D H v::VM D H r
end
def elems(H:List (Ob K))(c:K.U):AV K->Option (List (K.El c))
 |.jf=>some []
 |.bY c' l=>match K.deq c' c with
   |.isTrue h=>some (h ▸ l)
   |.isFalse _=>none
 |.sl h=>match H[h]? with
   |some (.arr c' l)=>match K.deq c' c with
    |.isTrue h=>some (h ▸ l)
    |.isFalse _=>none
   |_=>none
 |_=>none
def setCells(cs:List (AV K))(off:Nat):List (AV K)->List (AV K)
 |[]=>cs
 |v::r=>setCells (cs.set off v) (off+1) r
mutual
def hands:AV K->List Nat
 |.ptr h _|.sl h|.ep h _ _ _|.np h|.vw h _ _ _=>[h]
 |.agg l|.sO l|.fn _ l=>dF l
 |_=>[]
def dF:List (AV K)->List Nat
 |[]=>[]
 |v::r=>hands v++dF r
end
def ay2(H:List (Ob K))(h:Nat):List (Ob K):=
 match H[h]? with
 |some (.arr c l)=>H.set h (.fro c l)
 |some (.tree c l)=>H.set h (.fro c l)
 |_=>H
def zD(H:List (Ob K)):List Nat->List (Ob K)
 |[]=>H
 |h::r=>zD (ay2 H h) r
mutual
def oD(H:List (Ob K)):AV K->AV K
 |.sl h=>match H[h]? with
   |some (.fro c l)=>.bY c l
   |_=>.sl h
 |.agg l=>.agg (SK H l)
 |.sO l=>.sO (SK H l)
 |v=>v
def SK(H:List (Ob K)):List (AV K)->List (AV K)
 |[]=>[]
 |v::r=>oD H v::SK H r
end
def thaw(dp:K.U->Bool)(H:List (Ob K)):List (Option K.U)->List (AV K)->List (AV K)×List (Ob K)
 |some c::cs,.jf::r=>match thaw dp (H++[cond (dp c) (.tree c []) (.arr c [])]) cs r with
  |(l,H')=>(.sl H.length::l,H')
 |_::cs,v::r=>match thaw dp H cs r with
  |(l,H')=>(v::l,H')
 |[],l=>(l,H)
 |_,[]=>([],H)
def wE(dp:K.U->Bool)(H:List (Ob K)):List (List (Option K.U))->List (AV K)->List (AV K)×List (Ob K)
 |cs::css,.agg l::r=>match thaw dp H cs l with
  |(l',H1)=>match wE dp H1 css r with
   |(s,H2)=>(.agg l'::s,H2)
 |cs::css,v::r=>match thaw dp H cs [v]with
  |(l',H1)=>match wE dp H1 css r with
   |(s,H2)=>(l'.headD v::s,H2)
 |[],l=>(l,H)
 |_,[]=>([],H)
def GR:List (AV K)->Bool
 |.np _::_=>true
 |_=>false
def aqV(b:Bool)(h:Nat):List (AV K)->List (AV K)
 |.vP::r=>cond b (.np h) .vP::r
 |l=>l
mutual
def qA:AV K->Bool
 |.bY .. |.rp ..=>true
 |.agg l|.sO l|.fn _ l=>dK l
 |_=>false
def dK:List (AV K)->Bool
 |[]=>false
 |v::r=>qA v||dK r
end
def aAx(P:Program)(D:nz K)(H:List (Ob K))(t:TypeId):AV K->Option (AV K)
 |.ptr h off=>match H[h]? with
   |some (.box cs)=>VP P t cs off
   |_=>none
 |.rp c x off=>VP P t (D.cells c x) off
 |.ep h st i off=>match H[h]? with
   |some (.arr c l)=>if st=K.sz c then VP P t (D.cells c (l.getD i (K.zero c))) off else none
   |some (.tree c l)=>if st=K.sz c then(match VP P t (D.cells c (l.getD i (K.zero c))) off with
     |some v=>if qA v then none else some v
     |none=>none)else none
   |_=>none
 |_=>none
def aDy(P:Program)(H:List (Ob K))(t:TypeId):AV K->Option (AV K×Bool)
 |.ep h st i off=>match H[h]? with
   |some (.opn c l i' off' cs)=>if st=K.sz c/\off'<=off then(match VP P t (List.replicate off' .any++cs) off with
    |some v=>some (v,decide (i=i'))
    |none=>none)else none
   |_=>none
 |_=>none
def ag0(P:Program)(s:TypeId)(f:Nat)(x:AV K):Option (AV K):=
 match aAw P s f with
 |some fd=>match wB P fd.type with
  |some (_+1)=>match x with
   |.ptr h off=>some (.ptr h (off+fd.offset))
   |.rp c x off=>some (.rp c x (off+fd.offset))
   |.ep h st i off=>some (.ep h st i (off+fd.offset))
   |_=>none
  |_=>none
 |none=>none
def ag1(P:Program)(H:List (Ob K))(t:TypeId)(x i:AV K):Option (AV K×Bool):=
 match elemOf? P t,i with
 |some e,.int _ n=>match x with
  |.bY c l=>if wB P e=some (K.sz c)then some (.rp c (l.getD n.toNat (K.zero c)) 0,inB n l.length)else none
  |.sl h=>match H[h]? with
    |some (.arr c l)=>if wB P e=some (K.sz c)then some (.ep h (K.sz c) n.toNat 0,inB n l.length)else none
    |some (.tree c l)=>if wB P e=some (K.sz c)then some (.ep h (K.sz c) n.toNat 0,inB n l.length)else none
    |_=>none
  |_=>none
 |_,_=>none
def acz(d:Int):Option (AV K)->Option Int
 |none=>some d
 |some (.int _ n)=>some n
 |some _=>none
def ay3(P:Program)(t:TypeId)(x:AV K)(lo hi:Option (AV K)):Option (AV K×Bool):=
 match P.underlying t,x with
 |some .string,.str s=>match acz 0 lo,acz s.length hi with
  |some l,some h=>some (.str ((s.take h.toNat).drop l.toNat),yx l h s.length)
  |_,_=>none
 |some (.slice e),.bY c s=>if wB P e=some (K.sz c)then match acz 0 lo,acz s.length hi with
  |some l,some h=>some (.bY c ((s.take h.toNat).drop l.toNat),yx l h s.length)
  |_,_=>none else none
 |_,_=>none
def aDz(P:Program)(H:List (Ob K))(t:TypeId)(x:AV K)(lo hi:Option (AV K)):Option (AV K×Bool):=
 match elemOf? P t,x with
 |some e,.sl h=>match H[h]? with
  |some (.arr c l)=>if wB P e=some (K.sz c)then match acz 0 lo,acz l.length hi with
   |some a,some b=>some (.vw h (K.sz c) a.toNat b.toNat,yx a b l.length)
   |_,_=>none else none
  |some (.tree c l)=>if wB P e=some (K.sz c)then match acz 0 lo,acz l.length hi with
   |some a,some b=>some (.vw h (K.sz c) a.toNat b.toNat,yx a b l.length)
   |_,_=>none else none
  |_=>none
 |_,_=>none
def aqW(cx:Cx K)(ev:Operand->AV K)(H:List (Ob K)):Op->Option (AV K×Bool)
 |.move x|.assign x=>some (ev x,true)
 |.binOp op t x y _=>aIk cx.P op t (ev x) (ev y)
 |.unOp op _ x=>unV op (ev x)
 |.convert src dst x=>match cx.P.underlying src,cx.P.underlying dst,ev x with
   |some _,some (.int k),.int _ n=>some (.int k (k.wrap n),true)
   |some _,some .string,.str s=>some (.str s,true)
   |some (.slice e),some .string,x=>match cx.P.underlying e,cx.ty e with
    |some (.int .u8),some c=>match cx.D.byte c,elems H c x with
     |some (f,_),some l=>some (.str (l.map f),true)
     |_,_=>none
    |_,_=>none
   |_,_,_=>none
 |.extract t i=>match ev t with
   |.sO l=>(l[i]?).map fun v=>(v,true)
   |_=>none
 |.fieldAddr s x f=>(ag0 cx.P s f (ev x)).map fun v=>(v,true)
 |.load t p=>match aAx cx.P cx.D H t (ev p)with
   |some v=>some (v,true)
   |none=>aDy cx.P H t (ev p)
 |.indexAddr t x i=>ag1 cx.P H t (ev x) (ev i)
 |.index t x i=>match cx.P.underlying t,ev x,ev i with
   |some .string,.str s,.int _ n=>some (.int .u8 ((s.getD n.toNat 0).toNat:Int),inB n s.length)
   |_,_,_=>none
 |.slice t x lo hi none=>match ay3 cx.P t (ev x) (lo.map ev) (hi.map ev)with
   |some r=>some r
   |none=>if cx.vws&&(hi.isSome|| !cx.cut)then aDz cx.P H t (ev x) (lo.map ev) (hi.map ev)else none
 |.nilCheck x=>match ev x with
   |.ptr h o=>some (.ptr h o,true)
   |.rp c x o=>some (.rp c x o,true)
   |.ep h s i o=>some (.ep h s i o,true)
   |_=>none
 |.makeFunc (.func f) first caps=>if first.isEmpty then some (.fn f (caps.toList.map ev),true)else none
 |.call {callee:=.builtin .len,args,argTypes}=>match args.toList,argTypes.toList with
   |[x],[t]=>match cx.P.underlying t,ev x with
     |some .string,.str s=>some (.int .i64 (s.length:Int),true)
     |some (.slice _),.jf=>some (.int .i64 0,true)
     |some (.slice _),.bY _ l=>some (.int .i64 (l.length:Int),true)
     |some (.slice _),.vw _ _ a b=>some (.int .i64 ((b-a:Nat):Int),true)
     |some (.slice _),.sl h=>match H[h]? with
      |some (.arr _ l)=>some (.int .i64 (l.length:Int),true)
      |some (.tree _ l)=>some (.int .i64 (l.length:Int),true)
      |_=>none
     |_,_=>none
   |_,_=>none
 |.call {callee:=.builtin .min,args, ..}=>match args.toList with
   |[x,y]=>match ev x,ev y with
     |.int k a,.int k' b=>if k=k' then some (.int k (cond (decide (b<a)) b a),true)else none
     |_,_=>none
   |_=>none
 |.call {callee:=.builtin .max,args, ..}=>match args.toList with
   |[x,y]=>match ev x,ev y with
     |.int k a,.int k' b=>if k=k' then some (.int k (cond (decide (a<b)) b a),true)else none
     |_,_=>none
   |_=>none
 |_=>none
def aJI(D:nz K)(c:K.U)(e:TypeId):Bool:=match D.elT c with
 |none=>true
 |some t=>t==e
def tyE(cx:Cx K)(e:TypeId):Option K.U:=match cx.ty e with
 |some c=>if aJI cx.D c e then some c else none
 |none=>none
def room(e:TypeId)(P:Program):Bool:=match P.info? e with
 |some i=>decide (i.bytes<=4096)
 |none=>false
def SI(D:nz K)(c:K.U):List (AV K)->Option (List (K.El c)×Bool)
 |[]=>some ([],true)
 |v::r=>match D.dec c v.bW,SI D c r with
  |some (x,b),some (l,b')=>some (x::l,b&&b')
  |_,_=>none
def inOrder(ev:Operand->AV K):Nat->List (Nat×Operand)->Option (List (AV K))
 |_,[]=>some []
 |n,(i,x)::r=>if i=n then(inOrder ev (n+1) r).map (ev x::·)else none
def placesOf(P:Program)(t:TypeId):Option (List (Nat×Nat)):=
 match P.underlying t with
 |some (.struct fs)=>fs.toList.mapM (fun f=>(P.info? f.type).map fun i=>(f.offset,i.size))
 |_=>none
def atV(places:List (Nat×Nat))(ev:Operand->AV K)(cs:List (AV K)):List (Nat×Operand)->Option (List (AV K))
 |[]=>some cs
 |(i,x)::r=>match places[i]? with
  |some (off,n)=>if(ev x).known=true/\(ev x).bW.length=n/\off+n<=cs.length then atV places ev (setCells cs off (ev x).bW) r else none
  |none=>none
def GZ(P:Program)(t:TypeId):Bool:=match P.info? t with
 |some i=>match i.zero with
  |some v=>v.cells.size==i.size
  |none=>false
 |none=>false
def source(D:nz K)(H:List (Ob K))(c:K.U):AV K->Option (List (K.El c))
 |.str s=>match D.byte c with
   |some (_,g)=>some (s.map g)
   |none=>none
 |v=>elems H c v
def aoy(cx:Cx K)(H:List (Ob K))(sT:TypeId)(s x:AV K):Option (AV K×List (Ob K)×Bool×List Nat):=
 match elemOf? cx.P sT with
 |none=>none
 |some e=>match tyE cx e with
  |none=>none
  |some c=>if wB cx.P e=some (K.sz c)/\room e cx.P=true/\GZ cx.P e=true then
    match source cx.D H c x with
    |none=>none
    |some m=>match s with
     |.jf=>some (.sl H.length,H++[.arr c m],decide (m.length<=1073741824),[])
     |.sl h=>match x with
       |.sl h'=>if h=h' then none else match elems H c (.sl h)with
         |some l=>some (.sl H.length,H.set h .dead++[.arr c (l++m)],decide (l.length+m.length<=1073741824),[h])
         |none=>none
       |_=>match elems H c (.sl h)with
        |some l=>some (.sl H.length,H.set h .dead++[.arr c (l++m)],decide (l.length+m.length<=1073741824),[h])
        |none=>none
     |_=>none
   else none
def RV(ev:Operand->AV K):Op->List Nat
 |.buildSlice _ _ parts=>dF (parts.toList.map fun p=>ev p.2)
 |.store _ p x=>match ev p with
   |.ep ..=>hands (ev x)
   |_=>[]
 |.slice _ x _ _ _=>match ev x with
   |.sl h=>[h]
   |_=>[]
 |_=>[]
def ay4(cx:Cx K)(ev:Operand->AV K)(H:List (Ob K)):Op->Option (AV K×List (Ob K)×Bool×List Nat)
 |.box t x=>if(ev x).known then match thaw cx.deep H (cx.sls t) (ev x).bW with
     |(cs,H1)=>if GR cs then none else some (.ptr H1.length 0,H1++[.box cs],true,[])else none
 |.alloc t=>match(zeroOf cx.P t:Option (AV K))with
   |some z=>if z.known then match thaw cx.deep H (cx.sls t) z.bW with
    |(cs,H1)=>if GR cs then none else some (.ptr H1.length 0,H1++[.box (aqV (cx.D.ajk==some t) H1.length cs)],true,[])else none
   |none=>none
 |.build t parts=>match placesOf cx.P t,(zeroOf cx.P t:Option (AV K))with
   |some ps,some z=>if z.known then(atV ps ev z.bW parts.toList).map fun cs=>(.agg cs,H,true,[])else none
   |_,_=>none
 |.store t p x=>match wB cx.P t with
   |some n=>if(ev x).bW.length=n/\(ev x).bW.all AV.one=true then match ev p with
    |.ptr h off=>match H[h]? with
      |some (.box cs)=>if off+n<=cs.length then match thaw cx.deep H (cx.sls t) (ev x).bW with
       |(xs,H1)=>if GR (setCells cs off xs)&& !GR cs then none else some (.any,H1.set h (.box (setCells cs off xs)),true,[h])else none
      |_=>none
    |.ep h st i off=>match H[h]? with
      |some (.arr c l)=>if st=K.sz c/\nD (ev x).bW=true/\off+n<=K.sz c then
        match cx.D.dec c (setCells (cx.D.cells c (l.getD i (K.zero c))) off (ev x).bW)with
        |some (y,b)=>some (.any,H.set h (.arr c (l.set i y)),b,[h])
        |none=>none
       else none
      |_=>none
    |_=>none else none
   |none=>none
 |.makeSlice t len cap=>match elemOf? cx.P t with
   |none=>none
   |some e=>match tyE cx e,(zeroOf cx.P e:Option (AV K)),ev len,ev cap with
    |some c,some z,.int _ n,.int _ m=>if wB cx.P e=some (K.sz c)/\room e cx.P=true/\nD z.bW=true/\z.known=true then
      match cx.D.dec c z.bW with
      |some (y,b)=>some (.sl H.length,H++[.arr c (List.replicate n.toNat y)],b&&(decide (0<=n)&&(decide (n<=m)&&decide (m<=1073741824))),[])
      |none=>none
     else none
    |_,_,_,_=>none
 |.buildSlice t len parts=>match elemOf? cx.P t with
   |none=>none
   |some e=>match tyE cx e,inOrder ev 0 parts.toList with
    |some c,some l=>if wB cx.P e=some (K.sz c)/\GZ cx.P e=true/\l.length=len/\len<=4096/\K.sz c<=4096/\l.all (fun v=>nD v.bW&&(v.known&&decide (v.bW.length=K.sz c)))=true then
      match SI cx.D c l with
      |some (y,b)=>some (.sl H.length,H++[.arr c y],b,[])
      |none=>none
     else none
    |_,_=>none
 |.convert src dst x=>match cx.P.underlying src,elemOf? cx.P dst,ev x with
   |some .string,some e,.str s=>match cx.P.underlying e,tyE cx e with
    |some (.int .u8),some c=>match cx.D.byte c with
     |some (_,g)=>if wB cx.P e=some (K.sz c)then some (.sl H.length,H++[.arr c (s.map g)],decide (s.length<=1073741824),[])else none
     |none=>none
    |_,_=>none
   |_,_,_=>none
 |.call {callee:=.builtin .append,args,argTypes}=>match args.toList,argTypes.toList with
   |[s,x],[sT,xT]=>if(ac9 cx.P xT).isSome||(cx.P.underlying xT).isNone then none else aoy cx H sT (ev s) (ev x)
   |_,_=>none
 |_=>none
mutual
def ajj:AV K->Bool
 |.sl _|.ptr .. |.ep .. |.np _|.vw ..=>true
 |.agg l|.sO l|.fn _ l=>agY l
 |_=>false
def agY:List (AV K)->Bool
 |[]=>false
 |v::r=>ajj v||agY r
end
mutual
def reH(f:Nat->Option Nat):AV K->Option (AV K)
 |.ptr h o=>(f h).map (.ptr · o)
 |.sl h=>(f h).map .sl
 |.np h=>(f h).map .np
 |.ep h s i o=>(f h).map (.ep · s i o)
 |.vw h s a b=>(f h).map (.vw · s a b)
 |.fn g l=>(YT f l).map (.fn g)
 |.agg l=>(YT f l).map .agg
 |.sO l=>(YT f l).map .sO
 |.opt ..=>none
 |v=>some v
def YT(f:Nat->Option Nat):List (AV K)->Option (List (AV K))
 |[]=>some []
 |v::r=>match reH f v,YT f r with
  |some x,some l=>some (x::l)
  |_,_=>none
end
def ren(m:List Nat):AV K->Option (AV K):=reH fun h=>m.idxOf? h
def aJJ(m:List Nat):List (AV K)->Option (List (AV K)):=YT fun h=>m.idxOf? h
def back(m:List Nat):AV K->Option (AV K):=reH fun h=>m[h]?
def aJK(m:List Nat):List (AV K)->Option (List (AV K)):=YT fun h=>m[h]?
def agT(f:Nat->Option Nat):Ob K->Option (Ob K)
 |.box cs=>(YT f cs).map .box
 |.opn ..=>none
 |o=>some o
def aAl(m:List Nat):Ob K->Option (Ob K):=agT fun h=>m.idxOf? h
def agX(m:List Nat):Ob K->Option (Ob K):=agT fun h=>m[h]?
def Yy(f:Ob K->Option (Ob K)):List (Ob K)->Option (List (Ob K))
 |[]=>some []
 |o::r=>match f o,Yy f r with
  |some x,some l=>some (x::l)
  |_,_=>none
def reach(H:List (Ob K)):Nat->List Nat->List Nat->List Nat
 |0,_,acc=>acc
 |_,[],acc=>acc
 |n+1,h::r,acc=>if acc.contains h then reach H n r acc else
   reach H n (r++(match H[h]? with|some (.box cs)=>dF cs|_=>[])) (acc++[h])
def agW(H:List (Ob K)):List Nat->Bool
 |[]=>true
 |h::m=>decide (h<H.length)&&(!m.contains h&&agW H m)
def uB:List (Ob K)->List Nat->List (Ob K)->List (Ob K)
 |H,h::m,o::r=>uB (H.set h o) m r
 |H,_,_=>H
def aDt(D:nz K):Ob K->Bool
 |.arr c _=> !dK (D.cells c (K.zero c))
 |.tree ..=>true
 |_=>false
def RH(cx:Cx K)(m:Mode)(H:List (Ob K))(f:FuncId)(args:List (AV K)):Option (AV K×List (Ob K)×Bool×List Nat):=
 match m with
 |.plain=>if nD (VM cx.D H args)then match cx.call f (VM cx.D H args) []with
     |some (r,[],c)=>if r.closed&&(!qA r|| !agY args)then some (r,H,c,[])else none
     |_=>none else none
 |.VL=>if nD (VM cx.D H args)&& !agY args then match cx.call f (VM cx.D H args) []with
     |some (r,Hn,c)=>match back ((List.range Hn.length).map (H.length+·)) r,Yy (agX ((List.range Hn.length).map (H.length+·))) Hn with
      |some r',some Hn'=>some (r',H++Hn',c,[])
      |_,_=>none
     |none=>none else none
 |.fresh=>if nD (VM cx.D H args)then match cx.call f (VM cx.D H args) []with
     |some (r,Hn,c)=>if !qA r&&Hn.all (aDt cx.D)then match back ((List.range Hn.length).map (H.length+·)) r,Yy (agX ((List.range Hn.length).map (H.length+·))) Hn with
      |some r',some Hn'=>some (r',H++Hn',c,[])
      |_,_=>none else none
     |none=>none else none
 |.lF|.abg=>none
 |.pass=>if !agW H (reach H 64 (dF args) [])then none else match aJJ (reach H 64 (dF args) []) args,Yy (aAl (reach H 64 (dF args) [])) ((reach H 64 (dF args) []).map fun h=>H.getD h .dead)with
     |some args',some Hi=>match cx.call f args' Hi with
      |some (r,Ho,c)=>
       match back (reach H 64 (dF args) []++(List.range (Ho.length-Hi.length)).map (H.length+·)) r,Yy (agX (reach H 64 (dF args) []++(List.range (Ho.length-Hi.length)).map (H.length+·))) Ho with
       |some r',some Ho'=>if Hi.length<=Ho.length then some (r',uB H (reach H 64 (dF args) []) (Ho'.take Hi.length)++Ho'.drop Hi.length,c,reach H 64 (dF args) [])else none
       |_,_=>none
      |none=>none
     |_,_=>none
def aqD(cx:Cx K)(m:Mode)(H:List (Ob K))(f:FuncId)(args:List (AV K)):Option (AV K×List (Ob K)×Bool×List Nat):=
 RH cx m (zD H (dF args)) f (SK (zD H (dF args)) args)
def ajg(q:Bool)(cx:Cx K)(H:List (Ob K))(f:FuncId)(args:List (AV K)):Option (AV K×List (Ob K)×Bool×List Nat):=
 match cx.mode f with
 |.plain=>RH cx .plain H f args
 |.lF=>match RH cx .plain H f args with
   |some r=>some r
   |none=>if q then none else aqD cx .plain H f args
 |.VL=>if q then none else aqD cx .VL H f args
 |.pass=>if q then none else RH cx .pass H f args
 |.abg=>if q then none else aqD cx .pass H f args
 |.fresh=>if q then none else match RH cx .VL H f args with
   |some r=>some r
   |none=>match RH cx .fresh H f args with
    |some r=>some r
    |none=>aqD cx .VL H f args
def Ew:List Nat->Bool
 |[]=>true
 |x::r=> !r.contains x&&Ew r
def aAo(D:nz K)(H:List (Ob K)):AV K->Option (AV K)
 |.sl h=>match H[h]? with
   |some (.arr c l)=>if dK (D.cells c (K.zero c))then none else some (.bY c l)
   |some (.tree c l)=>some (.bY c l)
   |_=>none
 |.jf=>some .jf
 |.int k n=>some (.int k n)
 |.bool b=>some (.bool b)
 |.str s=>some (.str s)
 |.vP=>some .vP
 |_=>none
def GY(D:nz K)(H:List (Ob K)):List (AV K)->Option (List (AV K))
 |[]=>some []
 |v::r=>match aAo D H v,GY D H r with
  |some x,some l=>some (x::l)
  |_,_=>none
def ac6(D:nz K)(H:List (Ob K)):List (AV K)->Option (List (AV K))
 |[]=>some []
 |v::r=>match GY D H v.bW,ac6 D H r with
  |some cs,some l=>some (.agg cs::l)
  |_,_=>none
def jw(H:List (Ob K)):List Nat->List (Ob K)
 |[]=>H
 |h::r=>jw (H.set h .dead) r
def WO(H:List (Ob K))(c:K.U):AV K->Option (List (K.El c)×List Nat)
 |.jf=>some ([],[])
 |.sl h=>match H[h]? with
   |some (.tree c' l)=>match K.deq c' c with
    |.isTrue e=>some (e ▸ l,[h])
    |.isFalse _=>none
   |_=>none
 |_=>none
def atQ(cx:Cx K)(ev:Operand->AV K)(H:List (Ob K)):Op->Option (AV K×List (Ob K)×Bool×List Nat)
 |.makeSlice t len cap=>match elemOf? cx.P t with
   |none=>none
   |some e=>match tyE cx e,(zeroOf cx.P e:Option (AV K)),ev len,ev cap with
    |some c,some z,.int _ n,.int _ m=>if cx.deep c=true/\wB cx.P e=some (K.sz c)/\room e cx.P=true/\z.known=true then
      match GY cx.D [] z.bW with
      |some zs=>match cx.D.dec c zs with
       |some (y,b)=>some (.sl H.length,H++[.tree c (List.replicate n.toNat y)],b&&(decide (0<=n)&&(decide (n<=m)&&decide (m<=1073741824))),[])
       |none=>none
      |none=>none
     else none
    |_,_,_,_=>none
 |.buildSlice t len parts=>match elemOf? cx.P t with
   |none=>none
   |some e=>match tyE cx e,inOrder ev 0 parts.toList with
    |some c,some l=>if cx.deep c=true/\wB cx.P e=some (K.sz c)/\GZ cx.P e=true/\l.length=len/\len<=4096/\K.sz c<=4096/\l.all (fun v=>v.known&&decide (v.bW.length=K.sz c))=true/\Ew (dF l)=true then
      match ac6 cx.D H l with
      |some l'=>match SI cx.D c l' with
       |some (y,b)=>some (.sl H.length,jw H (dF l)++[.tree c y],b,dF l)
       |none=>none
      |none=>none
     else none
    |_,_=>none
 |.store t p x=>match ev p,wB cx.P t with
   |.ep h st i off,some n=>match H[h]? with
     |some (.tree c l)=>if st=K.sz c/\off+n<=K.sz c/\(ev x).bW.length=n/\(ev x).bW.all AV.one=true/\Ew (h::dF (ev x).bW)=true then
       match GY cx.D H (ev x).bW with
       |some xs=>match cx.D.dec c (setCells (cx.D.cells c (l.getD i (K.zero c))) off xs)with
        |some (y,b)=>some (.any,(jw H (h::dF (ev x).bW)).set h (.tree c (l.set i y)),b,h::dF (ev x).bW)
        |none=>none
       |none=>none
      else none
     |some (.opn c l i' off' cs)=>if st=K.sz c/\off=off'/\n=cs.length/\(ev x).bW.length=n/\(ev x).bW.all AV.one=true/\Ew (h::dF (ev x).bW)=true then
       match GY cx.D H (ev x).bW with
       |some xs=>match cx.D.dec c (setCells (cx.D.cells c (l.getD i (K.zero c))) off xs)with
        |some (y,b)=>some (.any,(jw H (h::dF (ev x).bW)).set h (.tree c (l.set i y)),b&&decide (i=i'),h::dF (ev x).bW)
        |none=>none
       |none=>none
      else none
     |_=>none
   |_,_=>none
 |.call {callee:=.builtin .append,args,argTypes}=>match args.toList,argTypes.toList with
   |[s,x],[sT,xT]=>if(ac9 cx.P xT).isSome||(cx.P.underlying xT).isNone then none else match elemOf? cx.P sT with
     |none=>none
     |some e=>match tyE cx e with
      |none=>none
      |some c=>if cx.deep c=true/\wB cx.P e=some (K.sz c)/\room e cx.P=true/\GZ cx.P e=true then
        match WO H c (ev s),WO H c (ev x)with
        |some (l,hs),some (m,hs')=>if Ew (hs++hs')then some (.sl H.length,jw H (hs++hs')++[.tree c (l++m)],decide (l.length+m.length<=1073741824),hs++hs')else none
        |_,_=>none
       else none
   |_,_=>none
 |_=>none
def acy(D:nz K)(dp:K.U->Bool):Nat->List (AV K)->Option (List (AV K)×List (Ob K))
 |_,[]=>some ([],[])
 |n,.bY c l::r=>if dp c|| !dK (D.cells c (K.zero c))then match acy D dp (n+1) r with
    |some (cs,os)=>some (.sl n::cs,cond (dp c) (.tree c l) (.arr c l)::os)
    |none=>none
  else none
 |n,v::r=>match acy D dp n r with
    |some (cs,os)=>some (v::cs,os)
    |none=>none
def atS(cx:Cx K)(ev:Operand->AV K)(H:List (Ob K)):Op->Option (AV K×List (Ob K)×Bool×List Nat)
 |.load t p=>if cx.opn then match ev p,aAv cx.P t,wB cx.P t with
     |.ep h st i off,some ag,some n=>match H[h]? with
       |some (.tree c l)=>if st=K.sz c/\off+n<=K.sz c/\0<n then match acy cx.D cx.deep H.length (((cx.D.cells c (l.getD i (K.zero c))).drop off).take n)with
         |some (cs,os)=>some (cond ag (.agg cs) (cs.getD 0 .any),H.set h (.opn c l i off cs)++os,true,[h])
         |none=>none
        else none
       |_=>none
     |_,_,_=>none
   else none
 |_=>none
def ay5:List (Ob K)->Option Nat
 |[]=>none
 |.opn ..::_=>some 0
 |_::r=>(ay5 r).map (· +1)
def shut(D:nz K)(H:List (Ob K)):Option (List (Ob K)×Bool×List Nat):=
 match ay5 H with
 |none=>some (H,true,[])
 |some h=>match H[h]? with
  |some (.opn c l i off cs)=>if Ew (h::dF cs)=true then match GY D H cs with
    |some xs=>match D.dec c (setCells (D.cells c (l.getD i (K.zero c))) off xs)with
     |some (y,b)=>some ((jw H (h::dF cs)).set h (.tree c (l.set i y)),b,h::dF cs)
     |none=>none
    |none=>none
   else none
  |_=>none
def atT(q:Bool)(cx:Cx K)(H:List (Ob K))(f:FuncId)(args:List (AV K)):Option (AV K×List (Ob K)×Bool×List Nat):=
 if cx.opn&& !cx.lz&& !q then match ajg q cx H f args with
  |some (r,H1,c,t)=>match shut cx.D H1 with
   |some (H2,b,t2)=>some (r,H2,c&&b,t++t2)
   |none=>none
  |none=>none
 else ajg q cx H f args
def guardOf(ops:List Oper)(o:Oper):Option (Option (Nat×Bool)):=
 match o.guard with
 |none=>some none
 |some (j,w)=>match ops[j]? with
  |some g=>match g.dst with
   |some t=>some (some (t,w))
   |none=>none
  |none=>none
def ay6(st:St K)(wr:List Nat)(dst:Option Nat)(v:AV K)(H:List (Ob K))(ok:Bool):Option (St K×List Nat):=
 match dst with
 |none=>some (⟨st.tm,H,ok⟩,wr)
 |some d=>if wr.contains d||decide (st.tm.length<=d)then none else some (⟨st.tm.set d v,H,ok⟩,d::wr)
def aBH(cx:Cx K)(ev:Operand->AV K)(H:List (Ob K))(op:Op):Option (AV K×List (Ob K)×Bool×List Nat):=
 match atQ cx (fun x=>oD H (ev x)) H op with
 |some r=>some r
 |none=>match RV ev op with
 |[]=>ay4 cx (fun x=>oD H (ev x)) H op
 |hs=>match aqW cx (fun x=>oD (zD H hs) (ev x)) (zD H hs) op with
  |some (v,c)=>some (v,zD H hs,c,[])
  |none=>ay4 cx (fun x=>oD (zD H hs) (ev x)) (zD H hs) op
def aqX:Operand->Bool
 |.const (.slice none 0 0)=>true
 |_=>false
def nG(cx:Cx K):Op->Bool
 |.assign x=> !aqX x
 |.slice t ..=>aDx cx.P t
 |.load t _=> !cx.opn||(cx.lz&&(cx.sls t).all Option.isNone)
 |.makeFunc .. |.move _|.pick .. |.binOp .. |.unOp .. |.extract .. |.fieldAddr .. |.indexAddr .. |.index .. |.nilCheck _=>true
 |.convert _ dst _=>(elemOf? cx.P dst).isNone
 |.call {callee:=.builtin .len, ..}|.call {callee:=.builtin .min, ..}|.call {callee:=.builtin .max, ..}=>true
 |.call {callee:=.value (.func f), ..}=>cx.mode f== .plain&&(!cx.opn||cx.lz)
 |_=>false
def cutV(cx:Cx K)(ev:Operand->AV K)(H:List (Ob K)):Op->Option (AV K×List (Ob K)×Bool×List Nat)
 |.slice t x none (some y) none=>if cx.cut then match ev x,ev y,elemOf? cx.P t with
   |.sl h,.int _ n,some e=>match H[h]? with
     |some (.arr c l)=>if wB cx.P e=some (K.sz c)then some (.sl H.length,H.set h .dead++[.arr c (l.take n.toNat)],yx 0 n l.length,[h])else none
     |some (.tree c l)=>if wB cx.P e=some (K.sz c)then some (.sl H.length,H.set h .dead++[.tree c (l.take n.toNat)],yx 0 n l.length,[h])else none
     |_=>none
   |_,_,_=>none else none
 |.slice t x (some y) none none=>if cx.cut then match ev x,ev y,elemOf? cx.P t with
   |.sl h,.int _ n,some e=>match H[h]? with
     |some (.arr c l)=>if wB cx.P e=some (K.sz c)/\cx.D.elT c=none then some (.sl H.length,H.set h .dead++[.arr c (l.drop n.toNat)],yx n l.length l.length,[h])else none
     |some (.tree c l)=>if wB cx.P e=some (K.sz c)/\cx.D.elT c=none then some (.sl H.length,H.set h .dead++[.tree c (l.drop n.toNat)],yx n l.length l.length,[h])else none
     |_=>none
   |_,_,_=>none else none
 |_=>none
def aDA(cx:Cx K)(ev:Operand->AV K)(H:List (Ob K)):Op->Option (AV K×List (Ob K)×Bool×List Nat)
 |.buildSlice t len parts=>match elemOf? cx.P t with
   |none=>none
   |some e=>match cx.ty e,inOrder ev 0 parts.toList with
    |some c,some l=>if wB cx.P e=some (K.sz c)/\GZ cx.P e=true/\l.length=len/\len<=4096/\K.sz c<=4096/\l.all (fun v=>nD v.bW&&(v.known&&decide (v.bW.length=K.sz c)))=true then
      match SI cx.D c l with
      |some (y,b)=>some (.bY c y,H,b,[])
      |none=>none
     else none
    |_,_=>none
 |_=>none
def G5(q:Bool)(cx:Cx K)(tm:List (AV K))(gs:List (Nat×Bool))(H:List (Ob K))(T:TypeId):Op->Option (AV K×List (Ob K)×Bool×List Nat)
 |.pick c x y=>match c,SG tm gs c with
   |.tmp t,.bool b=>match known cx t with
     |some b0=>some (cond b0 (SG tm gs x) (SG tm gs y),H,b==b0,[])
     |none=>some (merge b (SG tm ((t,true)::gs) x) (SG tm ((t,false)::gs) y),H,true,[])
   |.const _,.bool b=>some (merge b (SG tm gs x) (SG tm gs y),H,true,[])
   |_,_=>none
 |.call {callee:=.value f,args, ..}=>match SG tm gs f with
   |.fn g caps=>atT q cx H g (args.toList.map (fun x=>oD H (SG tm gs x))++caps)
   |_=>none
 |.assign x=>if !q&&aqX x then match elemOf? cx.P T with
     |some e=>match cx.ty e with
      |some c=>some (.sl H.length,H++[cond (cx.deep c) (.tree c []) (.arr c [])],true,[])
      |none=>some (SG tm gs x,H,true,[])
     |none=>some (SG tm gs x,H,true,[])
   else some (oD H (SG tm gs x),H,true,[])
 |op=>match aqW cx (fun x=>oD H (SG tm gs x)) H op with
  |some (v,c)=>some (v,H,c,[])
  |none=>if q then aDA cx (fun x=>oD H (SG tm gs x)) H op else if nG cx op then none else match atS cx (SG tm gs) H op with
   |some r=>some r
   |none=>match cutV cx (SG tm gs) H op with
   |some r=>some r
   |none=>aBH cx (SG tm gs) H op
def G6(cx:Cx K):Op->Bool
 |.assign _=>true
 |.slice t ..=> !cx.cut||aDx cx.P t
 |.call {callee:=.value (.func f), ..}=>cx.mode f== .plain||cx.mode f== .lF
 |op=>nG cx op
def aFp(cx:Cx K):Op->Bool
 |.buildSlice ..=>true
 |op=>G6 cx op
def ET(q:Bool)(cx:Cx K)(ops:List Oper)(tm:List (AV K))(H:List (Ob K))(wr:List Nat)(o:Oper):Option (AV K×List (Ob K)×Bool):=
 match guardOf ops o with
 |none=>none
 |some none=>match G5 q cx tm [] H o.type o.op with
  |some (v,H',c,_)=>if v.Hz then none else some (v,H',c)
  |none=>none
 |some (some (g,w))=>match known cx g with
  |some b0=>match tm[g]? with
   |some (.bool b)=>if b0=w then match G5 q cx tm [] H o.type o.op with
     |some (v,H',c,_)=>if v.Hz then none else some (v,H',c&&(b==b0))
     |none=>none
    else some (.any,H,b==b0)
   |_=>none
  |none=>match aBC tm 6 (g,w)with
   |none=>none
   |some b=>if aFp cx o.op&&wr.contains g then match G5 true cx tm [(g,w)] H o.type o.op with
     |some (v,_,c,_)=>some (.opt g w v,H,c|| !b)
     |none=>none else none
def atW(cx:Cx K)(ops:List Oper)(st:St K)(wr:List Nat)(o:Oper):Option (St K×List Nat):=
 match ET false cx ops st.tm st.H wr o with
 |some (v,H',c)=>ay6 st wr o.dst v H' (c&&st.ok)
 |none=>none
def G7(cx:Cx K)(ops:List Oper):List Oper->St K->List Nat->Option (St K×List Nat)
 |[],st,wr=>some (st,wr)
 |o::r,st,wr=>match atW cx ops st wr o with
  |some (st',wr')=>G7 cx ops r st' wr'
  |none=>none
def uC(tm:List (AV K)):List Nat->List (AV K)
 |[]=>tm
 |d::r=>match tm[d]? with
  |some (.opt ..)=>uC (tm.set d .any) r
  |_=>uC tm r
def pg:List Oper->List Nat->List Nat
 |[],acc=>acc
 |o::r,acc=>pg r (acc++[o.after.toList.foldl (fun s e=>s|||2^e.on|||acc.getD e.on 0) 0])
def kC(bits:Nat):List Oper->Nat->List (AV K)->List (AV K)
 |[],_,tm=>tm
 |o::r,i,tm=>kC bits r (i+1) (match o.dst with
  |some d=>if bits.testBit i then tm else tm.set d .any
  |none=>tm)
def aqY(i:Nat):Nat->List Nat->Nat
 |_,[]=>0
 |k,b::r=>(cond (b.testBit i) (2^k) 0)|||aqY i (k+1) r
def DJ(bs:List Nat)(i:Nat):Nat:=bs.getD i 0|||aqY i 0 bs
def D9(cx:Cx K)(ops:List Oper)(bs:List Nat):List Oper->Nat->St K->List Nat->Option (St K×List Nat)
 |[],_,st,wr=>some (st,wr)
 |o::r,i,st,wr=>match ET true cx ops (kC (DJ bs i) ops 0 st.tm) st.H wr o with
  |some (v,_,c)=>match ay6 st wr o.dst v st.H (c&&st.ok)with
   |some (st',wr')=>D9 cx ops bs r (i+1) st' wr'
   |none=>none
  |none=>none
def xC:List Oper->Nat->Bool
 |[],_=>true
 |o::r,i=>(o.after.toList.all fun e=>decide (e.on<i)&&Region.binds .any e)&&xC r (i+1)
def EU(bits:Nat):Nat->List (Ob K)->List (Ob K)
 |_,[]=>[]
 |i,o::r=>(if bits.testBit i then .dead else o)::EU bits (i+1) r
def ag2(bits:Nat):Nat->List (Ob K)->List (Ob K)->List (Ob K)
 |i,o::r,o'::r'=>(if bits.testBit i then o else o')::ag2 bits (i+1) r r'
 |_,[],r'=>r'
 |_,_::_,[]=>[]
mutual
def AV.upto(n:Nat):AV K->Bool
 |.ptr h _|.sl h|.ep h _ _ _|.np h|.vw h _ _ _=>decide (h<n)
 |.fn _ l|.agg l|.sO l=>afA n l
 |.opt _ _ v=>v.upto n
 |_=>true
def afA(n:Nat):List (AV K)->Bool
 |[]=>true
 |v::r=>v.upto n&&afA n r
end
def Ob.upto(n:Nat):Ob K->Bool
 |.box cs=>afA n cs
 |.opn _ _ _ _ cs=>afA n cs
 |_=>true
def uD(ev:Operand->AV K)(op:Op):List Nat:=
 RV ev op++(match op with
  |.store _ p _=>hands (ev p)
  |.call {callee:=.builtin .append,args, ..}=>(match args.toList with
    |s::x::_=>hands (ev s)++hands (ev x)
    |[s]=>hands (ev s)
    |[]=>[])
  |_=>[])
def amS(cx:Cx K):Op->Bool
 |.box .. |.alloc _|.build .. |.store .. |.makeSlice .. |.buildSlice .. |.convert .. |.slice ..=>true
 |.call {callee:=.builtin .append, ..}=>true
 |.call {callee:=.value (.func f), ..}=>(cx.mode f== .fresh||(cx.mode f== .pass||cx.mode f== .abg))&&(!cx.opn||cx.lz)
 |.load ..=>cx.opn&&cx.lz
 |_=>false
def aqZ(ev:Operand->AV K):Op->List Nat
 |.call {callee:=.value _,args, ..}=>dF (args.toList.map ev)
 |_=>[]
def VQ(cx:Cx K)(H:List (Ob K))(ev:Operand->AV K):Op->List Nat
 |.call {callee:=.value (.func f),args, ..}=>(match cx.mode f with
   |.pass=>reach H 64 (dF (args.toList.map fun y=>oD H (ev y))) []
   |.abg=>dF (args.toList.map fun y=>oD H (ev y))++reach (zD H (dF (args.toList.map fun y=>oD H (ev y)))) 64 (dF (SK (zD H (dF (args.toList.map fun y=>oD H (ev y)))) (args.toList.map fun y=>oD H (ev y)))) []
   |_=>[])
 |_=>[]
def bitsOf:List Nat->Nat
 |[]=>0
 |h::r=>2^h|||bitsOf r
def atX(cx:Cx K)(ops:List Oper)(tm:List (AV K))(H:List (Ob K))(wr:List Nat)(o:Oper):Option (AV K×List (Ob K)×Bool):=
 if G6 cx o.op then ET true cx ops tm H wr o else if amS cx o.op then ET false cx ops tm H wr o else none
def SL(cx:Cx K)(tm:List (AV K))(H:List (Ob K))(op:Op):List Nat:=if G6 cx op then[]else match op with
 |.load t p=>(match aqW cx (fun x=>oD H (SG tm [] x)) H (.load t p)with
   |some _=>[]
   |none=>hands (SG tm [] p))
 |op=>(uD (SG tm []) op++aqZ (SG tm []) op)++VQ cx H (SG tm []) op
def alA(A:Nat):Nat->List Nat->Nat
 |_,[]=>0
 |k,b::r=>(if A.testBit k then 0 else b)|||alA A (k+1) r
def ada(A:Nat)(T:List Nat):Nat->List (Nat×Nat)->Bool
 |_,[]=>true
 |i,(m,n)::r=>(A.testBit i||T.all fun h=>decide (n<=h)||m.testBit h)&&ada A T (i+1) r
def aIl:Op->Option (List Operand)
 |.slice _ x _ _ _=>some [x]
 |.move _=>some []
 |.load _ p=>some [p]
 |.fieldAddr ..=>some []
 |.indexAddr _ x _=>some [x]
 |.nilCheck _=>some []
 |.store _ p x=>some [p,x]
 |.binOp ..=>some []
 |.unOp ..=>some []
 |_=>none
def aHj(tm:List (AV K))(n:Nat)(op:Op):Nat:=
 match aIl op with
 |none=>0
 |some l=>bitsOf ((List.range n).filter fun h=> !(dF (l.map (SG tm []))).contains h)
def ajq(bs ws:List Nat)(i:Nat)(tm:List (AV K))(n:Nat)(op:Op):Nat:=alA (bs.getD i 0) 0 ws|||aHj tm n op
def Nz(cx:Cx K)(ops:List Oper)(bs:List Nat):List Oper->Nat->St K->List Nat->List (Nat×Nat)->List Nat->Option (St K×List Nat)
 |[],_,st,wr,_,_=>some (st,wr)
 |o::r,i,st,wr,ms,ws=>
  if afA st.H.length (kC (DJ bs i) ops 0 st.tm)&&(EU (ajq bs ws i (kC (DJ bs i) ops 0 st.tm) st.H.length o.op) 0 st.H).all (Ob.upto st.H.length)then
   match atX cx ops (kC (DJ bs i) ops 0 st.tm) (EU (ajq bs ws i (kC (DJ bs i) ops 0 st.tm) st.H.length o.op) 0 st.H) wr o with
   |none=>none
   |some (v,H',c)=>
    if(ada (bs.getD i 0) (SL cx (kC (DJ bs i) ops 0 st.tm) (EU (ajq bs ws i (kC (DJ bs i) ops 0 st.tm) st.H.length o.op) 0 st.H) o.op) 0 ms&&(SL cx (kC (DJ bs i) ops 0 st.tm) (EU (ajq bs ws i (kC (DJ bs i) ops 0 st.tm) st.H.length o.op) 0 st.H) o.op).all fun h=> !(ajq bs ws i (kC (DJ bs i) ops 0 st.tm) st.H.length o.op).testBit h&&decide (h<st.H.length))&&decide (st.H.length<=H'.length)then
     match ay6 st wr o.dst v (ag2 (ajq bs ws i (kC (DJ bs i) ops 0 st.tm) st.H.length o.op) 0 st.H H') (c&&st.ok)with
     |some (st',wr')=>Nz cx ops bs r (i+1) st' wr' (ms++[(ajq bs ws i (kC (DJ bs i) ops 0 st.tm) st.H.length o.op,st.H.length)])
       (ws++[bitsOf (SL cx (kC (DJ bs i) ops 0 st.tm) (EU (ajq bs ws i (kC (DJ bs i) ops 0 st.tm) st.H.length o.op) 0 st.H) o.op++List.range' st.H.length (H'.length-st.H.length))])
     |none=>none
    else none
  else none
def DK(cx:Cx K)(ops:List Oper)(st:St K):Option (St K):=
 if(ops.all fun o=>G6 cx o.op)&&xC ops 0 then match D9 cx ops (pg ops []) ops 0 st []with
     |some (st',wr)=>some ⟨uC st'.tm wr,st'.H,st'.ok⟩
     |none=>none
  else if xC ops 0 then match Nz cx ops (pg ops []) ops 0 st [] [] []with
   |some (st',wr)=>some ⟨uC st'.tm wr,st'.H,st'.ok⟩
   |none=>none
  else none
def axA(π:List Nat)(n:Nat):Bool:=decide (π.length=n)&&(π.all (fun i=>decide (i<n))&&((List.range n).all (fun i=>π.contains i)&&Ew π))
def ay7(π:List Nat)(n:Nat)(o:Oper):Oper:=
 {o with after:=(o.after.filter (Region.binds .any)).map (fun e=>{e with on:=(π.idxOf? e.on).getD n}),guard:=o.guard.map fun g=>((π.idxOf? g.1).getD n,g.2)}
def permuted(π:List Nat)(ops:List Oper):List Oper:=π.map fun i=>match ops[i]? with
 |some o=>ay7 π ops.length o
 |none=>{dst:=none,op:=.move (.const .nilIface),type:=0,pos:= "",after:= #[],guard:=none}
def aJL(cx:Cx K)(ops:List Oper)(bs:List Nat):List Nat:=
 match(List.range ops.length).foldl (fun acc i=>match ops[i]? with
  |some o=>if amS cx o.op&&(!G6 cx o.op&& !acc.contains i)then acc++((List.range ops.length).filter fun j=>(bs.getD i 0).testBit j&& !acc.contains j)++[i]else acc
  |none=>acc) []with
 |acc=>acc++(List.range ops.length).filter fun j=> !acc.contains j
def ajr(cx:Cx K)(ops:List Oper)(π:List Nat)(st:St K):Option (St K):=
 if axA π ops.length then DK cx (permuted π ops) st else none
def ay8(cx:Cx K)(ops:List Oper)(st:St K):Option (St K):=
 if xC ops 0 then match DK cx ops st with
  |some r=>some r
  |none=>ajr cx ops (aJL cx ops (pg ops [])) st
 else match ajr cx ops (List.range ops.length) st with
  |some r=>some r
  |none=>ajr cx ops (aJL cx ops (pg (permuted (List.range ops.length) ops) [])) st
def sN(cx:Cx K)(ops:List Oper)(draw:Bool)(st:St K):Option (St K):=
 if draw then ay8 cx ops st
 else match G7 cx ops ops st []with
  |some (st',wr)=>some ⟨uC st'.tm wr,st'.H,st'.ok⟩
  |none=>none
def writes:Code->List Nat
 |.region _ ops _=>ops.toList.filterMap (·.dst)
 |.seq a b=>writes a++writes b
 |.cond _ a b=>writes a++writes b
 |.block _ c=>writes c
 |.loop c=>writes c
 |.scope c=>writes c
 |.rangeFunc _ ps a c=>ps.toList++writes a++writes c
 |_=>[]
def simple(cx:Cx K):Code->Bool
 |.skip=>true
 |.region _ ops _=>ops.toList.all fun o=>nG cx o.op
 |.seq a b=>simple cx a&&simple cx b
 |.cond _ a b=>simple cx a&&simple cx b
 |_=>false
def uF(b:Bool)(wr:List Nat):Nat->List (AV K)->List (AV K)->List (AV K)->List (AV K)
 |n,v::r,x::s,y::t=>(if wr.contains n then merge b x y else v)::uF b wr (n+1) r s t
 |_,_,_,_=>[]
def iE(tm:List (AV K)):List Nat->List (AV K)->List (AV K)
 |d::r,v::s=>iE (tm.set d v) r s
 |_,_=>tm
def keyOf:Code->Nat
 |.region id _ _=>id
 |.seq a _=>keyOf a
 |.cond _ a _=>keyOf a
 |.block _ c=>keyOf c
 |.loop c=>keyOf c
 |_=>0
def inLoop(H:List (Ob K))(vals:List (AV K)):Option (List Nat×List (AV K)×List (Ob K)):=
 if agW H (reach H 64 (dF vals) [])then match aJJ (reach H 64 (dF vals) []) vals,Yy (aAl (reach H 64 (dF vals) [])) ((reach H 64 (dF vals) []).map fun h=>H.getD h .dead)with
  |some PX,some Hi=>some (reach H 64 (dF vals) [],PX,Hi)
  |_,_=>none
 else none
def nC(m:List Nat)(n k:Nat):List Nat:=m++(List.range (k-m.length)).map (n+·)
def aoz(L:cO K)(m:List Nat)(st:St K)(vs:List (AV K))(Ho:List (Ob K)):Option (St K):=
 match aJK (nC m st.H.length Ho.length) vs,Yy (agX (nC m st.H.length Ho.length)) Ho with
 |some vs',some Ho'=>if m.length<=Ho.length then some ⟨iE (List.replicate L.n .any) L.outs vs',uB st.H m (Ho'.take m.length)++Ho'.drop m.length,st.ok⟩else none
 |_,_=>none
def aFq(ops:List Oper):List Nat:=(ops.filterMap fun o=>match guardOf ops o with
 |some (some (g,_))=>some g
 |_=>none).eraseDups
def acA(cx:Cx K)(ops:List Oper)(draw:Bool)(st:St K):List Nat->Option (Bool×St K×St K)
 |[]=>none
 |t::r=>match sN {cx with gs:=some (t,true)} ops draw st,sN {cx with gs:=some (t,false)} ops draw st with
  |some s1,some s2=>match s1.tm.getD t .any with
   |.bool b=>some (b,s1,s2)
   |_=>acA cx ops draw st r
  |_,_=>acA cx ops draw st r
def Iu:Ex->St K->Option (St K)
 |.normal,st=>some st
 |_,_=>none
def yR(cx:Cx K):Code->{R:Type}->St K->(Ex->St K->Option R)->Option R
 |.skip,_,st,k=>k .normal st
 |.region _ ops draw,_,st,k=>match sN cx ops.toList draw st with
   |some st'=>k .normal st'
   |none=>match acA cx ops.toList draw st (aFq ops.toList)with
    |some (b,s1,s2)=>cond b (k .normal s1) (k .normal s2)
    |none=>if(ops.toList.all fun o=>nG cx o.op)=true then none else match sN {cx with call:=cx.alt true,mode:=cx.aAu true} ops.toList draw st,sN {cx with call:=cx.alt false,mode:=cx.aAu false} ops.toList draw st with
     |some s1,some s2=>cx.orF (k .normal s1) (k .normal s2)
     |_,_=>none
 |.seq a b,_,st,k=>yR cx a st fun e s=>match e with
   |.normal=>yR cx b s k
   |e=>k e s
 |.cond c a b,_,st,k=>match SG st.tm [] c with
   |.bool t=>if simple cx a&&simple cx b then
       match yR cx a st Iu,yR cx b st Iu with
       |some sa,some sb=>k .normal ⟨uF t (writes a++writes b) 0 st.tm sa.tm sb.tm,st.H,(sa.ok|| !t)&&(sb.ok||t)⟩
       |_,_=>none
     else cond t (yR cx a st k) (yR cx b st k)
   |_=>none
 |.block id c,_,st,k=>yR cx c st fun e s=>match e with
   |.exit i=>if i=id then k .normal s else k (.exit i) s
   |e=>k e s
 |.loop c,_,st,k=>match cx.loop (keyOf c)with
   |some L=>if st.tm.length=L.n then match inLoop st.H (L.ins.map fun t=>st.tm.getD t .any)with
     |some (m,vals,Hi)=>L.run vals Hi fun e vs Ho=>match aoz L m st vs Ho with
      |some st'=>k e st'
      |none=>none
     |none=>none else none
   |none=>none
 |.exit id,_,st,k=>k (.exit id) st
 |.ret,_,st,k=>k .ret st
 |_,_,_,_=>none
def RX(cx:Cx K)(st:St K):List ResultVar->Option (List (AV K))
 |[]=>some []
 |.tmp t::r=>match RX cx st r with
   |some l=>some (st.tm.getD t .any::l)
   |none=>none
 |.cell a t::r=>match aAx cx.P cx.D st.H t (st.tm.getD a .any),RX cx st r with
   |some v,some l=>some (v::l)
   |_,_=>none
def resV(cx:Cx K)(fn:Func)(st:St K):Option (AV K):=
 match RX cx st fn.results.toList with
 |some [v]=>some (oD st.H v)
 |some l=>some (.sO (SK st.H l))
 |none=>none
def ay9{α β:Type}(f:α->Option β):List α->Option (List β)
 |[]=>some []
 |x::r=>match f x,ay9 f r with
  |some y,some l=>some (y::l)
  |_,_=>none
def axB(src:List (Option Nat))(h:Nat):Option Nat:=src.idxOf? (some h)
def amT(n0 n:Nat):Nat->List (Option Nat)->Bool
 |_,[]=>true
 |i,none::r=>decide (i<n0)&&amT n0 n (i+1) r
 |i,some h::r=>decide (h<n)&&((decide (n0<=i)||decide (h=i))&&(!r.contains (some h)&&amT n0 n (i+1) r))
def aq0(src:List (Option Nat))(H:List (Ob K)):Option Nat->Option (Ob K)
 |none=>some .dead
 |some h=>match H[h]? with
  |some o=>agT (axB src) o
  |none=>none
def avt(n0:Nat)(src:List (Option Nat))(keep:List Nat)(st:St K):Option (St K):=
 if amT n0 st.H.length 0 src&&decide (n0<=src.length)then
  match YT (axB src) (keep.map fun t=>st.tm.getD t .any),ay9 (aq0 src st.H) src with
  |some vs,some H=>some ⟨iE (List.replicate st.tm.length .any) keep vs,H,st.ok⟩
  |_,_=>none
 else none
def ag3(n0:Nat)(keep:List Nat)(st:St K):Option (St K):=
 avt n0 ((reach st.H 64 (List.range n0++dF (keep.map fun t=>st.tm.getD t .any)) []).map some) keep st
def RY(cx:Cx K)(s:St K):Option (Bool×St K):=match ay5 s.H with
 |none=>some (true,s)
 |some _=>match shut cx.D s.H with
  |some (H',b,_)=>some (b,⟨s.tm,H',s.ok⟩)
  |none=>none
def avu(cx:Cx K)(n0:Nat)(keep outs:List Nat)(body:Code)(st:St K):Option (St K⊕Ex×St K):=
 yR cx body st fun e s=>cond s.ok (match e with
  |.normal=>match RY cx s with
    |some (b,s1)=>cond b (match ag3 n0 keep s1 with
     |some s'=>some (.inl s')
     |none=>none) none
    |none=>none
  |e=>match RY cx s with
   |some (b,s1)=>cond b (match ag3 n0 outs s1 with
    |some s'=>some (.inr (e,s'))
    |none=>none) none
   |none=>none) none
def aDB(n0:Nat)(src:List (Option Nat))(v:AV K)(H:List (Ob K)):Option (AV K×List (Ob K)):=
 if amT n0 H.length 0 src&&decide (n0<=src.length)then
  match reH (axB src) v,ay9 (aq0 src H) src with
  |some v',some H'=>some (v',H')
  |_,_=>none
 else none
def pack(n0:Nat)(v:AV K)(H:List (Ob K)):Option (AV K×List (Ob K)):=
 aDB n0 ((reach H 64 (List.range n0++hands v) []).map some) v H
def aza(H:List (Ob K))(h:Nat):Bool:=match H[h]? with
 |some (.arr ..)=>false
 |some (.tree ..)=>false
 |_=>true
def aKr(n0:Nat)(v:AV K)(H:List (Ob K)):List (Option Nat):=
 ((List.range n0).map fun h=>cond (aza H h) (some h) none)++((reach H 64 ((List.range n0).filter (aza H)++hands v) []).filter fun h=> !(decide (h<n0)&&aza H h)).map some
def aAy(mv:Bool)(n0:Nat)(v:AV K)(H:List (Ob K)):Option (AV K×List (Ob K)):=
 aDB n0 (cond mv (aKr n0 v H) ((reach H 64 (List.range n0++hands v) []).map some)) v H
def aKs(cx:Cx K)(fn:Func)(n0:Nat)(e:Ex)(st:St K):Option (AV K×List (Ob K)):=
 match e with
 |.exit _=>none
 |_=>match resV cx fn st with
  |some v=>cond st.ok (pack n0 v st.H) none
  |none=>none
def aLr(cx:Cx K)(fn:Func)(args:List (AV K))(H:List (Ob K)):Option (AV K×List (Ob K)):=
 match fn.body with
 |some c=>yR cx c ⟨args++List.replicate (fn.ntmps-args.length) .any,H,true⟩ (aKs cx fn H.length)
 |none=>none
end Go.V
