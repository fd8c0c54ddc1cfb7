/-
  A VALUE-LEVEL READING OF THE LOADED CODE: abstract values, objects, operations, and a function 'execC' that runs a body on them. Nothing here speaks of one program: the program is a parameter. The proofs that what it yields is what the machine does are in the texts that follow.
-/
import Derived.WalkKit
import Derived.KernelRfl
import Derived.Orders
import Derived.Lib.Strings
import Derived.Laws.BytesArg
import Derived.Laws.StructEq
universe u v
abbrev aD := @Option.some.injEq
theorem aO{α:Type u}{a:α}{as:List α}:(a::as).length=as.length+1:=rfl
theorem aX{α:Type u}{a:α}:(some a).isSome=true:=rfl
theorem aV{α:Type u}{a b:α}:(some a).getD b=a:=rfl
abbrev bA := @List.length_append
theorem aU{α:Type u}:([]:List α).length=0:=rfl
abbrev bq := @decide_eq_true_eq
theorem bz(n:Nat):(n:Int).toNat=n:=rfl
abbrev aR := @Bool.and_true
abbrev bC := @Bool.and_eq_true
abbrev bG := @List.getElem_mem
theorem aA{α:Sort u}(a b:α):(bif true then a else b)=a:=rfl
abbrev aZ := @Bool.true_and
abbrev cz := @List.getElem?_eq_some_iff
abbrev ct := @List.getElem?_eq_getElem
abbrev bj := @Prod.mk.injEq
abbrev bg := @decide_true
abbrev bJ := @Int.ofNat_lt
abbrev cr := @List.length_map
abbrev dG := @List.getD_eq_getElem?_getD
abbrev av := @if_neg
abbrev dD := @List.getElem?_append_left
abbrev d5 := @List.getElem?_append_right
abbrev aE := @if_pos
abbrev bZ := @Bool.true_or
abbrev dR := @decide_eq_false_iff_not
theorem bN{α:Sort u}(a b:α):(bif false then a else b)=b:=rfl
abbrev bY := @Nat.le_refl
abbrev cK := @Bool.and_self
abbrev cD := @Nat.le_trans
abbrev cA := @Nat.lt_or_ge
abbrev dS := @beq_eq_false_iff_ne
abbrev dz := @List.all_eq_true
abbrev eN := @Option.map_eq_some_iff
abbrev dx := @List.mem_append
abbrev eI := @List.getElem?_take
abbrev eL := @Bool.not_eq_true'
abbrev abo := @Nat.zero_le
abbrev ja := @List.eq_nil_of_length_eq_zero
abbrev dE := @Bool.not_true
abbrev eC := @Bool.or_eq_true
abbrev jd := @Array.getElem?_eq_some_iff
abbrev de := @beq_iff_eq
abbrev eZ := @decide_eq_decide
abbrev gG := @List.mem_of_getElem?
abbrev dI := @Nat.zero_add
abbrev g9 := @Nat.mul_le_mul_right
abbrev eu := @List.map_cons
abbrev f5 := @List.getElem?_map
abbrev gz := @Bool.false_eq_true
abbrev ek := @Nat.add_mul
abbrev fW := @Bool.eq_iff_iff
abbrev f6 := @Option.some.inj
abbrev fi := @List.mem_cons
abbrev fK := @decide_eq_true
abbrev gP := @List.drop_length
abbrev iK := @List.getElem?_drop
abbrev ib := @List.length_take
abbrev gm := @List.drop_zero
abbrev nD := @Array.getD_eq_getD_getElem?
abbrev ju := @Nat.lt_of_lt_of_le
abbrev iR := @List.append_assoc
abbrev lY := @List.drop_of_length_le
abbrev pN := @Array.getElem?_setIfInBounds
abbrev jy := @List.getElem?_set
abbrev mo := @List.getElem?_replicate
abbrev gq := @Bool.false_or
abbrev iS := @decide_eq_false
abbrev ka := @List.take_add_one
abbrev kq := @Bool.eq_false_iff
abbrev lg := @Nat.eq_zero_or_pos
abbrev iP := @Bool.not_false
abbrev ml := @List.mem_cons_of_mem
abbrev jQ := @Nat.not_lt_zero
abbrev m9 := @List.getElem?_eq_none
abbrev ij := @Nat.one_mul
abbrev lF := @beq_self_eq_true
abbrev qK := @Array.getElem?_eq_none
abbrev jC := @Bool.or_false
abbrev nq := @List.mem_cons_self
abbrev pK := @List.getElem_of_mem
abbrev jY := @Nat.add_assoc
abbrev jB := @List.mem_map
abbrev iq := @bne_iff_ne
abbrev wU := @List.pairwise_iff_getElem
abbrev mY := @Nat.lt_succ_self
theorem kP{α:Type u}(as:List α):[]++as=as:=rfl
abbrev j0 := @decide_false
abbrev pG := @List.size_toArray
abbrev fZ := @if_false
abbrev wK := @List.not_all_eq_any_not
abbrev kN := @Bool.or_true
abbrev eY := @if_true
abbrev mE := @Bool.false_and
abbrev zW := @Array.getElem?_eq_getElem
theorem kJ{α:Type u}{a:α}{as bs:List α}:(a::as)++bs=a::(as++bs):=rfl
abbrev wH := @congrArg
abbrev wO := @Bool.or_eq_false_iff
abbrev tW := @Array.replicate_succ
abbrev qg := @List.ext_getElem?
abbrev wQ := @List.map_append
abbrev rH := @List.append_toArray
abbrev iJ := @List.take_length
abbrev xg := @Bool.false_ne_true
abbrev zX := @List.contains_eq_mem
abbrev lW := @decide_not
abbrev wP := @List.push_toArray
abbrev m8 := @Nat.mul_one
abbrev uK := @List.getElem_map
abbrev wS := @Bool.not_eq_true
abbrev ET := @List.take_of_length_le
abbrev zo := @List.mem_singleton
abbrev E9 := @Nat.eq_of_beq_eq_true
abbrev zt := @of_decide_eq_true
abbrev jc := @Iff.rfl
abbrev rF := @Nat.sub_self
abbrev tP := @Nat.le_of_lt
abbrev tQ := @Bool.or_self
abbrev La := @Array.getElem?_replicate
abbrev KG := @Int.eq_ofNat_of_zero_le
abbrev zN := @List.mem_range
abbrev zY := @Nat.testBit_or
abbrev wX := @Bool.not_not
theorem kK{α:Type u}{a:α}{l:List α}{f:α->Bool}:(a::l).all f=(f a&&l.all f):=rfl
abbrev Qj := @List.take_append_of_le_length
abbrev AM := @List.nodup_cons
abbrev zz := @List.map_map
abbrev nk := @Ne.symm
abbrev KD := @List.not_mem_nil
abbrev Ff := @Nat.add_comm
abbrev K7 := @List.append_nil
abbrev ES := @Nat.zero_mul
abbrev Fa := @getElem!_pos
theorem pM{α:Type u}{β:Type v}(a:α)(f:α->β):Option.map f (some a)=some (f a):=rfl
abbrev Gj := @List.drop_drop
abbrev wF := @true_and
abbrev Lc := @Nat.mul_comm
abbrev Gi := @List.all_map
abbrev uD := @dif_neg
abbrev EM := @or_false
abbrev xP := @dif_pos
namespace Go.V
open Go
structure db where
 U:Type
 El:U->Type
 jR:DecidableEq U
 sz:U->Nat
 zero:(c:U)->El c
inductive AV (K:db) where
 |any
 |int (k:IntKind) (n:Int)
 |bool (b:Bool)
 |str (s:List UInt8)
 |dt
 |dj
 |mp
 |fn (f:Nat) (caps:List (AV K))
 |ptr (h off:Nat)
 |sl (h:Nat)
 |ep (h st i off:Nat)
 |ah (c:K.U) (l:List (K.El c))
 |rp (c:K.U) (x:K.El c) (off:Nat)
 |agg (l:List (AV K))
 |bU (l:List (AV K))
 |opt (g:Nat) (want:Bool) (v:AV K)
 |np (h:Nat)
 |vw (h st lo hi:Nat)
inductive Ob (K:db) where
 |dead
 |box (cells:List (AV K))
 |arr (c:K.U) (l:List (K.El c))
 |gp (c:K.U) (l:List (K.El c))
 |tree (c:K.U) (l:List (K.El c))
 |opn (c:K.U) (l:List (K.El c)) (i off:Nat) (cs:List (AV K))
structure Base where
 inv:(Nat->Prop)->World->Prop
 mono:∀{S S':Nat->Prop}{w w':World},(∀b,S b->S' b)->(∀b,S b->w'.heap[b]?=w.heap[b]?)->inv S w->inv S' w'
def Base.aka:Base:=⟨fun _ _=>True,fun _ _ h=>h⟩
structure bP (K:db) where
 cells:(c:K.U)->K.El c->List (AV K)
 dec:(c:K.U)->List (AV K)->Option (K.El c×Bool)
 byte:(c:K.U)->Option ((K.El c->UInt8)×(UInt8->K.El c))
 find:List (AV K)->Option K.U
 base:Base:=Base.aka
 rf:Option TypeId:=none
 pO:K.U->Option TypeId:=fun _=>none
variable {K :db}
def AV.df:AV K->List (AV K)
 |.agg l=>l
 |v=>[v]
def AV.known:AV K->Bool
 |.any|.opt ..=>false
 |_=>true
def AV.jh:AV K->Bool
 |.opt ..=>true
 |_=>false
def AV.one:AV K->Bool
 |.any|.opt .. |.agg _|.bU _|.vw ..=>false
 |_=>true
structure St (K:db) where
 tm:List (AV K)
 H:List (Ob K)
 ok:Bool
inductive Ex where
 |normal
 |exit (id:Nat)
 |ret
def Ex.nE:Ex->Exit
 |.normal=>.normal
 |.exit id=>.exit id
 |.ret=>.ret
structure bo (K:db) where
 n:Nat
 ins:List Nat
 outs:List Nat
 run:{R:Type}->List (AV K)->List (Ob K)->(Ex->List (AV K)->List (Ob K)->Option R)->Option R
inductive Mode where
 |plain|iz|cT|pass|kW|fresh
 deriving DecidableEq
def Qk{R:Type}(a b:Option R):Option R:=match a with
 |none=>b
 |some r=>some r
theorem aCy{R:Type}{a b:Option R}{r:R}(h:Qk a b=some r):a=some r\/b=some r:=by
 cases a with
 |none=>exact .inr h
 |some x=>exact .inl h
structure Cx (K:db) where
 P:Program
 D:bP K
 ty:TypeId->Option K.U
 call:FuncId->List (AV K)->List (Ob K)->Option (AV K×List (Ob K)×Bool)
 mode:FuncId->Mode
 loop:Nat->Option (bo K)
 mU:TypeId->List (Option K.U)
 cut:Bool:=false
 mN:List (List (Option K.U)):=[]
 I8:List Bool:=[]
 mv:Bool:=false
 deep:K.U->Bool:=fun _=>false
 opn:Bool:=false
 vws:Bool:=false
 vtl:Bool:=false
 lz:Bool:=false
 alt:Bool->FuncId->List (AV K)->List (Ob K)->Option (AV K×List (Ob K)×Bool):=fun _ _ _ _=>none
 rh:Bool->FuncId->Mode:=fun _=>mode
 Fg:{R:Type}->Option R->Option R->Option R:=fun a b=>Qk a b
 gs:List (Nat×Bool):=[]
def known(cx:Cx K)(g:Nat):Option Bool:=(cx.gs.find? fun p=>p.1==g).map (·.2)
mutual
def ly:Value->Option (AV K)
 |.bool b=>some (.bool b)
 |.int k n=>some (.int k n)
 |.string s=>some (.str s.data.toList)
 |.pointer none=>some .dt
 |.slice none 0 0=>some .dj
 |.map none=>some .mp
 |.agg cs=>(Fh cs.toList).map .agg
 |_=>none
def Fh:List Value->Option (List (AV K))
 |[]=>some []
 |v::r=>match ly v,Fh r with
  |some x,some l=>some (x::l)
  |_,_=>none
end
def covers(tm:List (AV K)):Nat->Nat×Bool->Nat×Bool->Bool
 |0,g,t=>g.1==t.1&&g.2==t.2
 |n+1,g,t=>(g.1==t.1&&g.2==t.2)||(match tm[g.1]? with
  |some (.opt g1 w1 _)=>covers tm n (g1,w1) t
  |_=>false)
def dH(tm:List (AV K))(gs:List (Nat×Bool)):Operand->AV K
 |.tmp t=>match tm[t]? with
   |some (.opt g w v)=>if gs.any (fun p=>covers tm 6 p (g,w))then v else .any
   |some v=>v
   |none=>.any
 |.const v=>(ly v).getD .any
 |.global _=>.any
 |.func f=>.fn f []
def zZ(tm:List (AV K)):Nat->Nat×Bool->Option Bool
 |0,_=>none
 |n+1,(g,w)=>match tm[g]? with
  |some (.bool b)=>some (b==w)
  |some (.opt g1 w1 (.bool b))=>(zZ tm n (g1,w1)).map fun e=>e&&(b==w)
  |_=>none
mutual
def merge(b:Bool):AV K->AV K->AV K
 |.int k m,.int k' n=>if k=k' then .int k (cond b m n)else .any
 |.bool m,.bool n=>.bool (cond b m n)
 |.str m,.str n=>.str (cond b m n)
 |.ah c l,.ah c' l'=>match K.jR c c' with
   |.isTrue h=>.ah c' (cond b (h ▸ l) l')
   |.isFalse _=>.any
 |.agg l,.agg l'=>if l.length=l'.length then .agg (merges b l l')else .any
 |.dj,.dj=>.dj
 |.dt,.dt=>.dt
 |_,_=>.any
def merges(b:Bool):List (AV K)->List (AV K)->List (AV K)
 |x::r,y::s=>merge b x y::merges b r s
 |_,_=>[]
end
def xh(op:BinOp)(k:IntKind)(x y:Int):Int:=
 let a:=BitVec.ofInt k.bits x
 let b:=BitVec.ofInt k.bits y
 k.wrap ((match op with
   |.and=>(a&&& b)|.or=>(a|||b)|.xor=>(a^^^b)|_=>(a&&& ~~~b)).toNat)
def akb(k:IntKind)(x y:Int):Int:=k.wrap (x*2^(min y.toNat k.bits))
def akc(k:IntKind)(x y:Int):Int:=x.fdiv (2^(min y.toNat k.bits))
def aW(a b:List UInt8):Bool:=decide (a.length+b.length<=4611686018427387904)
def eU(a b:List UInt8):Bool:=Op.bytesLess a b
def Ql(op:BinOp)(k:IntKind)(a b:Int):Option (AV K×Bool):=
 match op with
 |.add=>some (.int k (k.wrap (a+b)),true)
 |.sub=>some (.int k (k.wrap (a-b)),true)
 |.mul=>some (.int k (k.wrap (a*b)),true)
 |.quo=>some (.int k (k.wrap (a.tdiv b)),b !=0)
 |.rem=>some (.int k (a.tmod b),b !=0)
 |.and|.or|.xor|.andNot=>some (.int k (xh op k a b),true)
 |.eql=>some (.bool (a==b),true)
 |.neq=>some (.bool (a !=b),true)
 |.lss=>some (.bool (decide (a<b)),true)
 |.leq=>some (.bool (decide (a<=b)),true)
 |.gtr=>some (.bool (decide (b<a)),true)
 |.geq=>some (.bool (decide (b<=a)),true)
 |.shl|.shr=>none
def Qm(op:BinOp)(a b:List UInt8):Option (AV K×Bool):=
 match op with
 |.add=>some (.str (a++b),aW a b)
 |.eql=>some (.bool (a==b),true)
 |.neq=>some (.bool (!(a==b)),true)
 |.lss=>some (.bool (eU a b),true)
 |.leq=>some (.bool (eU a b||a==b),true)
 |.gtr=>some (.bool (!(eU a b||a==b)),true)
 |.geq=>some (.bool (!eU a b),true)
 |_=>none
def akd(P:Program)(t:TypeId):Bool:=P.underlying t matches some .string
def Qn(P:Program)(t:TypeId):Bool:=P.underlying t matches some .bool
def Qo(op:UnOp):AV K->Option (AV K×Bool)
 |.bool b=>match op with
   |.not=>some (.bool (!b),true)
   |_=>none
 |.int k n=>match op with
   |.neg=>some (.int k (k.wrap (0-n)),true)
   |.xor=>some (.int k (xh .xor k (if k.signed then -1 else k.max) n),true)
   |_=>none
 |_=>none
def fk(P:Program)(t:TypeId):Option Nat:=(P.info? t).map (·.size)
def Qp(P:Program)(t:TypeId):Option Bool:=
 match P.underlying t with
 |some (.struct _)|some (.array _ _)=>some true
 |some _=>some false
 |none=>none
def Ld(P:Program)(t:TypeId)(f:Nat):Option Field:=
 match P.underlying t with
 |some (.struct fs)=>fs[f]?
 |_=>none
def elemOf?(P:Program)(t:TypeId):Option TypeId:=
 match P.underlying t with
 |some (.slice e)=>some e
 |_=>none
def zeroOf(P:Program)(t:TypeId):Option (AV K):=
 match P.info? t with
 |some i=>match i.zero with
  |some v=>ly v
  |none=>none
 |none=>none
def Fj(P:Program)(t:TypeId):Option IntKind:=
 match P.underlying t with
 |some (.int k)=>some k
 |_=>none
def nF(P:Program)(t:TypeId)(cs:List (AV K))(off:Nat):Option (AV K):=
 match Qp P t,fk P t with
 |some true,some n=>if off+n<=cs.length then some (.agg ((cs.drop off).take n))else none
 |some false,some _=>cs[off]?
 |_,_=>none
def Fo(P:Program)(rec:TypeId->AV K->AV K->Option Bool)(xs ys:List (AV K)):List Field->Option Bool
 |[]=>some true
 |f::fs=>if f.name= "_" then none else
  match nF P f.type xs f.offset,nF P f.type ys f.offset with
  |some a,some b=>match rec f.type a b,Fo P rec xs ys fs with
   |some p,some q=>some (p&&q)
   |_,_=>none
  |_,_=>none
def Aa(P:Program):Nat->TypeId->AV K->AV K->Option Bool
 |0,_,_,_=>none
 |n+1,t,.int k a,.int k' b=>if k=k' then(match P.underlying t with
  |some (.int _)=>some (a==b)
  |_=>none)else none
 |n+1,t,.bool a,.bool b=>(match P.underlying t with
  |some .bool=>some (a==b)
  |_=>none)
 |n+1,t,.str a,.str b=>(match P.underlying t with
  |some .string=>some (a==b)
  |_=>none)
 |n+1,t,.agg xs,.agg ys=>(match P.underlying t with
  |some (.struct fs)=>if P.stoodInHeld t then none else Fo P (Aa P n) xs ys fs.toList
  |_=>none)
 |_+1,_,_,_=>none
def Qq(P:Program)(t:TypeId):Bool:=P.underlying t matches some (.pointer _)
def Ab(P:Program)(op:BinOp)(t:TypeId)(e:Bool):Option (AV K×Bool):=if Qq P t then(match op with
 |.eql=>some (.bool e,true)
 |.neq=>some (.bool (!e),true)
 |_=>none)else none
def Qr(P:Program)(op:BinOp)(t:TypeId):AV K->AV K->Option (AV K×Bool)
 |.int k a,.int k' b=>match op with
   |.shl=>some (.int k (akb k a b),decide (0<=b))
   |.shr=>some (.int k (akc k a b),decide (0<=b))
   |_=>if k=k' then Ql op k a b else none
 |.bool a,.bool b=>if Qn P t then(match op with
   |.eql=>some (.bool (a==b),true)
   |.neq=>some (.bool (!(a==b)),true)
   |_=>none)else none
 |.str a,.str b=>Qm op a b
 |.agg a,.agg b=>match op with
   |.eql=>if P.eqGuardType P.depth t then none else(Aa P 6 t (.agg a) (.agg b)).map fun e=>(.bool e,true)
   |.neq=>if P.eqGuardType P.depth t then none else(Aa P 6 t (.agg a) (.agg b)).map fun e=>(.bool (!e),true)
   |_=>none
 |.dt,.dt=>Ab P op t true
 |.ptr _ _,.dt=>Ab P op t false
 |.rp _ _ _,.dt=>Ab P op t false
 |.ep _ _ _ _,.dt=>Ab P op t false
 |_,_=>none
def inB(n:Int)(len:Nat):Bool:=decide (0<=n)&&decide (n<len)
def cF(lo hi:Int)(len:Nat):Bool:=decide (0<=lo)&&(decide (lo<=hi)&&decide (hi<=len))
mutual
def AV.closed:AV K->Bool
 |.int .. |.bool _|.str _|.dt|.dj|.mp|.ah .. |.rp .. |.any=>true
 |.ptr .. |.sl _|.ep .. |.opt .. |.np _|.vw ..=>false
 |.fn _ l|.agg l|.bU l=>gI l
def gI:List (AV K)->Bool
 |[]=>true
 |v::r=>v.closed&&gI r
end
def xi(H:List (Ob K)):AV K->AV K
 |.sl h=>match H[h]? with
   |some (.arr c l)=>.ah c l
   |some (.gp c l)=>.ah c l
   |some (.tree c l)=>.ah c l
   |_=>.any
 |v=>v
mutual
def iz(D:bP K)(H:List (Ob K)):AV K->AV K
 |.sl h=>match H[h]? with
   |some (.arr c l)=>.ah c l
   |some (.gp c l)=>.ah c l
   |some (.tree c l)=>.ah c l
   |_=>.any
 |.ptr h off=>match H[h]? with
   |some (.box cs)=>match D.find (cs.map (xi H))with
    |some c=>match D.dec c (cs.map (xi H))with
     |some (x,true)=>.rp c x off
     |_=>.any
    |none=>.any
   |_=>.any
 |.vw h st lo hi=>match H[h]? with
   |some (.arr c l)=>if st=K.sz c then .ah c ((l.take hi).drop lo)else .any
   |some (.tree c l)=>if st=K.sz c then .ah c ((l.take hi).drop lo)else .any
   |_=>.any
 |.fn g l=>.fn g (lZ D H l)
 |.agg l=>.agg (lZ D H l)
 |.bU l=>.bU (lZ D H l)
 |v=>v
def lZ(D:bP K)(H:List (Ob K)):List (AV K)->List (AV K)
 |[]=>[]
 |v::r=>iz D H v::lZ D H r
end
def elems(H:List (Ob K))(c:K.U):AV K->Option (List (K.El c))
 |.dj=>some []
 |.ah c' l=>match K.jR c' c with
   |.isTrue h=>some (h ▸ l)
   |.isFalse _=>none
 |.sl h=>match H[h]? with
   |some (.arr c' l)=>match K.jR c' c with
    |.isTrue h=>some (h ▸ l)
    |.isFalse _=>none
   |_=>none
 |_=>none
def setCells(cs:List (AV K))(off:Nat):List (AV K)->List (AV K)
 |[]=>cs
 |v::r=>setCells (cs.set off v) (off+1) r
mutual
def hands:AV K->List Nat
 |.ptr h _|.sl h|.ep h _ _ _|.np h|.vw h _ _ _=>[h]
 |.agg l|.bU l|.fn _ l=>cJ l
 |_=>[]
def cJ:List (AV K)->List Nat
 |[]=>[]
 |v::r=>hands v++cJ r
end
def xj(H:List (Ob K))(h:Nat):List (Ob K):=
 match H[h]? with
 |some (.arr c l)=>H.set h (.gp c l)
 |some (.tree c l)=>H.set h (.gp c l)
 |_=>H
def iN(H:List (Ob K)):List Nat->List (Ob K)
 |[]=>H
 |h::r=>iN (xj H h) r
mutual
def eK(H:List (Ob K)):AV K->AV K
 |.sl h=>match H[h]? with
   |some (.gp c l)=>.ah c l
   |_=>.sl h
 |.vw h st lo hi=>match H[h]? with
   |some (.gp c l)=>if st=K.sz c then .ah c ((l.take hi).drop lo)else .vw h st lo hi
   |_=>.vw h st lo hi
 |.agg l=>.agg (pP H l)
 |.bU l=>.bU (pP H l)
 |v=>v
def pP(H:List (Ob K)):List (AV K)->List (AV K)
 |[]=>[]
 |v::r=>eK H v::pP H r
end
def thaw(dp:K.U->Bool)(H:List (Ob K)):List (Option K.U)->List (AV K)->List (AV K)×List (Ob K)
 |some c::cs,.dj::r=>match thaw dp (H++[cond (dp c) (.tree c []) (.arr c [])]) cs r with
  |(l,H')=>(.sl H.length::l,H')
 |_::cs,v::r=>match thaw dp H cs r with
  |(l,H')=>(v::l,H')
 |[],l=>(l,H)
 |_,[]=>([],H)
def fl(dp:K.U->Bool)(H:List (Ob K)):List (List (Option K.U))->List (AV K)->List (AV K)×List (Ob K)
 |cs::css,.agg l::r=>match thaw dp H cs l with
  |(l',H1)=>match fl dp H1 css r with
   |(s,H2)=>(.agg l'::s,H2)
 |cs::css,v::r=>match thaw dp H cs [v]with
  |(l',H1)=>match fl dp H1 css r with
   |(s,H2)=>(l'.headD v::s,H2)
 |[],l=>(l,H)
 |_,[]=>([],H)
def kC:List (AV K)->Bool
 |.np _::_=>true
 |_=>false
def Fp(b:Bool)(h:Nat):List (AV K)->List (AV K)
 |.dt::r=>cond b (.np h) .dt::r
 |l=>l
mutual
def iC:AV K->Bool
 |.ah .. |.rp ..=>true
 |.agg l|.bU l|.fn _ l=>iw l
 |_=>false
def iw:List (AV K)->Bool
 |[]=>false
 |v::r=>iC v||iw r
end
def Le(P:Program)(D:bP K)(H:List (Ob K))(t:TypeId):AV K->Option (AV K)
 |.ptr h off=>match H[h]? with
   |some (.box cs)=>nF P t cs off
   |_=>none
 |.rp c x off=>nF P t (D.cells c x) off
 |.ep h st i off=>match H[h]? with
   |some (.arr c l)=>if st=K.sz c then nF P t (D.cells c (l.getD i (K.zero c))) off else none
   |some (.tree c l)=>if st=K.sz c then(match nF P t (D.cells c (l.getD i (K.zero c))) off with
     |some v=>if iC v then none else some v
     |none=>none)else none
   |_=>none
 |_=>none
def Qs(_P:Program)(_H:List (Ob K))(_t:TypeId):AV K->Option (AV K×Bool):=fun _=>none
def Qu(P:Program)(s:TypeId)(f:Nat)(x:AV K):Option (AV K):=
 match Ld P s f with
 |some fd=>match fk P fd.type with
  |some (_+1)=>match x with
   |.ptr h off=>some (.ptr h (off+fd.offset))
   |.rp c x off=>some (.rp c x (off+fd.offset))
   |.ep h st i off=>some (.ep h st i (off+fd.offset))
   |_=>none
  |_=>none
 |none=>none
def Qv(P:Program)(H:List (Ob K))(t:TypeId)(x i:AV K):Option (AV K×Bool):=
 match elemOf? P t,i with
 |some e,.int _ n=>match x with
  |.ah c l=>if fk P e=some (K.sz c)then some (.rp c (l.getD n.toNat (K.zero c)) 0,inB n l.length)else none
  |.sl h=>match H[h]? with
    |some (.arr c l)=>if fk P e=some (K.sz c)then some (.ep h (K.sz c) n.toNat 0,inB n l.length)else none
    |some (.tree c l)=>if fk P e=some (K.sz c)then some (.ep h (K.sz c) n.toNat 0,inB n l.length)else none
    |_=>none
  |_=>none
 |_,_=>none
def nG(d:Int):Option (AV K)->Option Int
 |none=>some d
 |some (.int _ n)=>some n
 |some _=>none
def Qw(P:Program)(t:TypeId)(x:AV K)(lo hi:Option (AV K)):Option (AV K×Bool):=
 match P.underlying t,x with
 |some .string,.str s=>match nG 0 lo,nG s.length hi with
  |some l,some h=>some (.str ((s.take h.toNat).drop l.toNat),cF l h s.length)
  |_,_=>none
 |some (.slice e),.ah c s=>if fk P e=some (K.sz c)then match nG 0 lo,nG s.length hi with
  |some l,some h=>some (.ah c ((s.take h.toNat).drop l.toNat),cF l h s.length)
  |_,_=>none else none
 |_,_=>none
def Qx(_P:Program)(_H:List (Ob K))(_t:TypeId)(_x:AV K)(_lo _hi:Option (AV K)):Option (AV K×Bool):=none
def xk(cx:Cx K)(ev:Operand->AV K)(H:List (Ob K)):Op->Option (AV K×Bool)
 |.move x|.assign x=>some (ev x,true)
 |.binOp op t x y _=>Qr cx.P op t (ev x) (ev y)
 |.unOp op _ x=>Qo op (ev x)
 |.convert src dst x=>match cx.P.underlying src,cx.P.underlying dst,ev x with
   |some _,some (.int k),.int _ n=>some (.int k (k.wrap n),true)
   |some _,some .string,.str s=>some (.str s,true)
   |some (.slice e),some .string,x=>match cx.P.underlying e,cx.ty e with
    |some (.int .u8),some c=>match cx.D.byte c,elems H c x with
     |some (f,_),some l=>some (.str (l.map f),true)
     |_,_=>none
    |_,_=>none
   |_,_,_=>none
 |.extract t i=>match ev t with
   |.bU l=>(l[i]?).map fun v=>(v,true)
   |_=>none
 |.fieldAddr s x f=>(Qu cx.P s f (ev x)).map fun v=>(v,true)
 |.field s x f=>match Ld cx.P s f,ev x with
   |some fd,.agg cs=>(nF cx.P fd.type cs fd.offset).map fun v=>(v,true)
   |_,_=>none
 |.load t p=>match Le cx.P cx.D H t (ev p)with
   |some v=>some (v,true)
   |none=>Qs cx.P H t (ev p)
 |.indexAddr t x i=>Qv cx.P H t (ev x) (ev i)
 |.index t x i=>match cx.P.underlying t,ev x,ev i with
   |some .string,.str s,.int _ n=>some (.int .u8 ((s.getD n.toNat 0).toNat:Int),inB n s.length)
   |_,_,_=>none
 |.slice t x lo hi none=>match Qw cx.P t (ev x) (lo.map ev) (hi.map ev)with
   |some r=>some r
   |none=>if cx.vws&&cond cx.vtl hi.isNone (hi.isSome|| !cx.cut)then Qx cx.P H t (ev x) (lo.map ev) (hi.map ev)else none
 |.nilCheck x=>match ev x with
   |.ptr h o=>some (.ptr h o,true)
   |.rp c x o=>some (.rp c x o,true)
   |.ep h s i o=>some (.ep h s i o,true)
   |_=>none
 |.makeFunc (.func f) first caps=>if first.isEmpty then some (.fn f (caps.toList.map ev),true)else none
 |.call {callee:=.builtin .len,args,argTypes}=>match args.toList,argTypes.toList with
   |[x],[t]=>match cx.P.underlying t,ev x with
     |some .string,.str s=>some (.int .i64 (s.length:Int),true)
     |some (.slice _),.dj=>some (.int .i64 0,true)
     |some (.slice _),.ah _ l=>some (.int .i64 (l.length:Int),true)
     |some (.slice _),.vw _ _ a b=>some (.int .i64 ((b-a:Nat):Int),true)
     |some (.slice _),.sl h=>match H[h]? with
      |some (.arr _ l)=>some (.int .i64 (l.length:Int),true)
      |some (.tree _ l)=>some (.int .i64 (l.length:Int),true)
      |_=>none
     |_,_=>none
   |_,_=>none
 |.call {callee:=.builtin .min,args, ..}=>match args.toList with
   |[x,y]=>match ev x,ev y with
     |.int k a,.int k' b=>if k=k' then some (.int k (cond (decide (b<a)) b a),true)else none
     |_,_=>none
   |_=>none
 |.call {callee:=.builtin .max,args, ..}=>match args.toList with
   |[x,y]=>match ev x,ev y with
     |.int k a,.int k' b=>if k=k' then some (.int k (cond (decide (a<b)) b a),true)else none
     |_,_=>none
   |_=>none
 |_=>none
def ake(D:bP K)(c:K.U)(e:TypeId):Bool:=match D.pO c with
 |none=>true
 |some t=>t==e
def uf(cx:Cx K)(e:TypeId):Option K.U:=match cx.ty e with
 |some c=>if ake cx.D c e then some c else none
 |none=>none
def room(e:TypeId)(P:Program):Bool:=match P.info? e with
 |some i=>decide (i.bytes<=4096)
 |none=>false
def pQ(D:bP K)(c:K.U):List (AV K)->Option (List (K.El c)×Bool)
 |[]=>some ([],true)
 |v::r=>match D.dec c v.df,pQ D c r with
  |some (x,b),some (l,b')=>some (x::l,b&&b')
  |_,_=>none
def inOrder(ev:Operand->AV K):Nat->List (Nat×Operand)->Option (List (AV K))
 |_,[]=>some []
 |n,(i,x)::r=>if i=n then(inOrder ev (n+1) r).map (ev x::·)else none
def placesOf(P:Program)(t:TypeId):Option (List (Nat×Nat)):=
 match P.underlying t with
 |some (.struct fs)=>fs.toList.mapM (fun f=>(P.info? f.type).map fun i=>(f.offset,i.size))
 |_=>none
def Ac(places:List (Nat×Nat))(ev:Operand->AV K)(cs:List (AV K)):List (Nat×Operand)->Option (List (AV K))
 |[]=>some cs
 |(i,x)::r=>match places[i]? with
  |some (off,n)=>if(ev x).known=true/\(ev x).df.length=n/\off+n<=cs.length then Ac places ev (setCells cs off (ev x).df) r else none
  |none=>none
def nH(P:Program)(t:TypeId):Bool:=match P.info? t with
 |some i=>match i.zero with
  |some v=>v.cells.size==i.size
  |none=>false
 |none=>false
def source(D:bP K)(H:List (Ob K))(c:K.U):AV K->Option (List (K.El c))
 |.str s=>match D.byte c with
   |some (_,g)=>some (s.map g)
   |none=>none
 |v=>elems H c v
def Lh(cx:Cx K)(H:List (Ob K))(sT:TypeId)(s x:AV K):Option (AV K×List (Ob K)×Bool×List Nat):=
 match elemOf? cx.P sT with
 |none=>none
 |some e=>match uf cx e with
  |none=>none
  |some c=>if fk cx.P e=some (K.sz c)/\room e cx.P=true/\nH cx.P e=true then
    match source cx.D H c x with
    |none=>none
    |some m=>match s with
     |.dj=>some (.sl H.length,H++[.arr c m],decide (m.length<=1073741824),[])
     |.sl h=>match x with
       |.sl h'=>if h=h' then none else match elems H c (.sl h)with
         |some l=>some (.sl H.length,H.set h .dead++[.arr c (l++m)],decide (l.length+m.length<=1073741824),[h])
         |none=>none
       |_=>match elems H c (.sl h)with
        |some l=>some (.sl H.length,H.set h .dead++[.arr c (l++m)],decide (l.length+m.length<=1073741824),[h])
        |none=>none
     |_=>none
   else none
def Fq(_cx:Cx K)(_H:List (Ob K))(_sT:TypeId)(_s _x:AV K):Option (AV K×List (Ob K)×Bool×List Nat):=none
def ri(ev:Operand->AV K):Op->List Nat
 |.buildSlice _ _ parts=>cJ (parts.toList.map fun p=>ev p.2)
 |.store _ p x=>match ev p with
   |.ep ..=>hands (ev x)
   |_=>[]
 |.slice _ x _ _ _=>match ev x with
   |.sl h=>[h]
   |_=>[]
 |_=>[]
def akf(P:Program)(t:TypeId):Bool:=match P.info? t with
 |some i=>(match i.zero with
  |some .nilFunc=>true
  |_=>false)
 |none=>false
def xl(cx:Cx K)(ev:Operand->AV K)(H:List (Ob K)):Op->Option (AV K×List (Ob K)×Bool×List Nat)
 |.box t x=>if(ev x).known then match thaw cx.deep H (cx.mU t) (ev x).df with
     |(cs,H1)=>if kC cs then none else some (.ptr H1.length 0,H1++[.box cs],true,[])else none
 |.alloc t=>match(zeroOf cx.P t:Option (AV K))with
   |some z=>if z.known then match thaw cx.deep H (cx.mU t) z.df with
    |(cs,H1)=>if kC cs then none else some (.ptr H1.length 0,H1++[.box (Fp (cx.D.rf==some t) H1.length cs)],true,[])else none
   |none=>if akf cx.P t then some (.ptr H.length 0,H++[.box [.any]],true,[])else none
 |.build t parts=>match placesOf cx.P t,(zeroOf cx.P t:Option (AV K))with
   |some ps,some z=>if z.known then(Ac ps ev z.df parts.toList).map fun cs=>(.agg cs,H,true,[])else none
   |_,_=>none
 |.store t p x=>match fk cx.P t with
   |some n=>if(ev x).df.length=n/\(ev x).df.all AV.one=true then match ev p with
    |.ptr h off=>match H[h]? with
      |some (.box cs)=>if off+n<=cs.length then match thaw cx.deep H (cx.mU t) (ev x).df with
       |(xs,H1)=>if kC (setCells cs off xs)&& !kC cs then none else some (.any,H1.set h (.box (setCells cs off xs)),true,[h])else none
      |_=>none
    |.ep h st i off=>match H[h]? with
      |some (.arr c l)=>if st=K.sz c/\gI (ev x).df=true/\off+n<=K.sz c then
        match cx.D.dec c (setCells (cx.D.cells c (l.getD i (K.zero c))) off (ev x).df)with
        |some (y,b)=>some (.any,H.set h (.arr c (l.set i y)),b,[h])
        |none=>none
       else none
      |_=>none
    |_=>none else none
   |none=>none
 |.makeSlice t len cap=>match elemOf? cx.P t with
   |none=>none
   |some e=>match uf cx e,(zeroOf cx.P e:Option (AV K)),ev len,ev cap with
    |some c,some z,.int _ n,.int _ m=>if fk cx.P e=some (K.sz c)/\room e cx.P=true/\gI z.df=true/\z.known=true then
      match cx.D.dec c z.df with
      |some (y,b)=>some (.sl H.length,H++[.arr c (List.replicate n.toNat y)],b&&(decide (0<=n)&&(decide (n<=m)&&decide (m<=1073741824))),[])
      |none=>none
     else none
    |_,_,_,_=>none
 |.buildSlice t len parts=>match elemOf? cx.P t with
   |none=>none
   |some e=>match uf cx e,inOrder ev 0 parts.toList with
    |some c,some l=>if fk cx.P e=some (K.sz c)/\nH cx.P e=true/\l.length=len/\len<=4096/\K.sz c<=4096/\l.all (fun v=>gI v.df&&(v.known&&decide (v.df.length=K.sz c)))=true then
      match pQ cx.D c l with
      |some (y,b)=>some (.sl H.length,H++[.arr c y],b,[])
      |none=>none
     else none
    |_,_=>none
 |.convert src dst x=>match cx.P.underlying src,elemOf? cx.P dst,ev x with
   |some .string,some e,.str s=>match cx.P.underlying e,uf cx e with
    |some (.int .u8),some c=>match cx.D.byte c with
     |some (_,g)=>if fk cx.P e=some (K.sz c)then some (.sl H.length,H++[.arr c (s.map g)],decide (s.length<=1073741824),[])else none
     |none=>none
    |_,_=>none
   |some (.slice _),some e,.sl h=>match cx.P.underlying e,H[h]? with
    |some (.int .u8),some (.arr c l)=>if src=dst/\(cx.D.pO c).isSome=true then some (.sl h,H,decide (1<=l.length),[])else none
    |_,_=>none
   |_,_,_=>none
 |.makeMap _ none=>some (.mp,H++[.dead],true,[])
 |.call {callee:=.builtin .append,args,argTypes}=>match args.toList,argTypes.toList with
   |[s,x],[sT,xT]=>if(cx.P.underlying xT).isNone then none else if(Fj cx.P xT).isSome then Fq cx H sT (ev s) (ev x)else Lh cx H sT (ev s) (ev x)
   |_,_=>none
 |_=>none
mutual
def rj:AV K->Bool
 |.sl _|.ptr .. |.ep .. |.np _|.vw ..=>true
 |.agg l|.bU l|.fn _ l=>xm l
 |_=>false
def xm:List (AV K)->Bool
 |[]=>false
 |v::r=>rj v||xm r
end
mutual
def fe(f:Nat->Option Nat):AV K->Option (AV K)
 |.ptr h o=>(f h).map (.ptr · o)
 |.sl h=>(f h).map .sl
 |.np h=>(f h).map .np
 |.ep h s i o=>(f h).map (.ep · s i o)
 |.vw h s a b=>(f h).map (.vw · s a b)
 |.fn g l=>(ji f l).map (.fn g)
 |.agg l=>(ji f l).map .agg
 |.bU l=>(ji f l).map .bU
 |.opt ..=>none
 |v=>some v
def ji(f:Nat->Option Nat):List (AV K)->Option (List (AV K))
 |[]=>some []
 |v::r=>match fe f v,ji f r with
  |some x,some l=>some (x::l)
  |_,_=>none
end
def ren(m:List Nat):AV K->Option (AV K):=fe fun h=>m.idxOf? h
def akg(m:List Nat):List (AV K)->Option (List (AV K)):=ji fun h=>m.idxOf? h
def back(m:List Nat):AV K->Option (AV K):=fe fun h=>m[h]?
def aCB(m:List Nat):List (AV K)->Option (List (AV K)):=ji fun h=>m[h]?
def kD(f:Nat->Option Nat):Ob K->Option (Ob K)
 |.box cs=>(ji f cs).map .box
 |.opn ..=>none
 |o=>some o
def Lj(m:List Nat):Ob K->Option (Ob K):=kD fun h=>m.idxOf? h
def xn(m:List Nat):Ob K->Option (Ob K):=kD fun h=>m[h]?
def mq(f:Ob K->Option (Ob K)):List (Ob K)->Option (List (Ob K))
 |[]=>some []
 |o::r=>match f o,mq f r with
  |some x,some l=>some (x::l)
  |_,_=>none
def reach(H:List (Ob K)):Nat->List Nat->List Nat->List Nat
 |0,_,acc=>acc
 |_,[],acc=>acc
 |n+1,h::r,acc=>if acc.contains h then reach H n r acc else
   reach H n (r++(match H[h]? with|some (.box cs)=>cJ cs|_=>[])) (acc++[h])
def xo(H:List (Ob K)):List Nat->Bool
 |[]=>true
 |h::m=>decide (h<H.length)&&(!m.contains h&&xo H m)
def jj:List (Ob K)->List Nat->List (Ob K)->List (Ob K)
 |H,h::m,o::r=>jj (H.set h o) m r
 |H,_,_=>H
def akh(D:bP K):Ob K->Bool
 |.arr c _=> !iw (D.cells c (K.zero c))
 |.tree ..=>true
 |_=>false
def lA(cx:Cx K)(m:Mode)(H:List (Ob K))(f:FuncId)(args:List (AV K)):Option (AV K×List (Ob K)×Bool×List Nat):=
 match m with
 |.plain=>if gI (lZ cx.D H args)then match cx.call f (lZ cx.D H args) []with
     |some (r,[],c)=>if r.closed&&(!iC r|| !xm args)then some (r,H,c,[])else none
     |_=>none else none
 |.iz=>if gI (lZ cx.D H args)&& !xm args then match cx.call f (lZ cx.D H args) []with
     |some (r,Hn,c)=>match back ((List.range Hn.length).map (H.length+·)) r,mq (xn ((List.range Hn.length).map (H.length+·))) Hn with
      |some r',some xp=>some (r',H++xp,c,[])
      |_,_=>none
     |none=>none else none
 |.fresh=>if gI (lZ cx.D H args)then match cx.call f (lZ cx.D H args) []with
     |some (r,Hn,c)=>if !iC r&&Hn.all (akh cx.D)then match back ((List.range Hn.length).map (H.length+·)) r,mq (xn ((List.range Hn.length).map (H.length+·))) Hn with
      |some r',some xp=>some (r',H++xp,c,[])
      |_,_=>none else none
     |none=>none else none
 |.cT|.kW=>none
 |.pass=>if !xo H (reach H 64 (cJ args) [])then none else match akg (reach H 64 (cJ args) []) args,mq (Lj (reach H 64 (cJ args) [])) ((reach H 64 (cJ args) []).map fun h=>H.getD h .dead)with
     |some args',some Hi=>match cx.call f args' Hi with
      |some (r,Ho,c)=>
       match back (reach H 64 (cJ args) []++(List.range (Ho.length-Hi.length)).map (H.length+·)) r,mq (xn (reach H 64 (cJ args) []++(List.range (Ho.length-Hi.length)).map (H.length+·))) Ho with
       |some r',some hC=>if Hi.length<=Ho.length then some (r',jj H (reach H 64 (cJ args) []) (hC.take Hi.length)++hC.drop Hi.length,c,reach H 64 (cJ args) [])else none
       |_,_=>none
      |none=>none
     |_,_=>none
def xq(cx:Cx K)(m:Mode)(H:List (Ob K))(f:FuncId)(args:List (AV K)):Option (AV K×List (Ob K)×Bool×List Nat):=
 lA cx m (iN H (cJ args)) f (pP (iN H (cJ args)) args)
def rk(q:Bool)(cx:Cx K)(H:List (Ob K))(f:FuncId)(args:List (AV K)):Option (AV K×List (Ob K)×Bool×List Nat):=
 match cx.mode f with
 |.plain=>lA cx .plain H f args
 |.cT=>match lA cx .plain H f args with
   |some r=>some r
   |none=>if q then none else xq cx .plain H f args
 |.iz=>if q then none else xq cx .iz H f args
 |.pass=>if q then none else lA cx .pass H f args
 |.kW=>if q then none else xq cx .pass H f args
 |.fresh=>if q then none else match lA cx .iz H f args with
   |some r=>some r
   |none=>match lA cx .fresh H f args with
    |some r=>some r
    |none=>xq cx .iz H f args
def pR:List Nat->Bool
 |[]=>true
 |x::r=> !r.contains x&&pR r
def Ll(D:bP K)(H:List (Ob K)):AV K->Option (AV K)
 |.sl h=>match H[h]? with
   |some (.arr c l)=>if iw (D.cells c (K.zero c))then none else some (.ah c l)
   |some (.tree c l)=>some (.ah c l)
   |_=>none
 |.dj=>some .dj
 |.int k n=>some (.int k n)
 |.bool b=>some (.bool b)
 |.str s=>some (.str s)
 |.dt=>some .dt
 |_=>none
def xt(D:bP K)(H:List (Ob K)):List (AV K)->Option (List (AV K))
 |[]=>some []
 |v::r=>match Ll D H v,xt D H r with
  |some x,some l=>some (x::l)
  |_,_=>none
def Ad(D:bP K)(H:List (Ob K)):List (AV K)->Option (List (AV K))
 |[]=>some []
 |v::r=>match xt D H v.df,Ad D H r with
  |some cs,some l=>some (.agg cs::l)
  |_,_=>none
def jk(H:List (Ob K)):List Nat->List (Ob K)
 |[]=>H
 |h::r=>jk (H.set h .dead) r
def rl(H:List (Ob K))(c:K.U):AV K->Option (List (K.El c)×List Nat)
 |.dj=>some ([],[])
 |.sl h=>match H[h]? with
   |some (.tree c' l)=>match K.jR c' c with
    |.isTrue e=>some (e ▸ l,[h])
    |.isFalse _=>none
   |_=>none
 |_=>none
def Ae(cx:Cx K)(ev:Operand->AV K)(H:List (Ob K)):Op->Option (AV K×List (Ob K)×Bool×List Nat)
 |.buildSlice t len parts=>match elemOf? cx.P t with
   |none=>none
   |some e=>match uf cx e,inOrder ev 0 parts.toList with
    |some c,some l=>if cx.deep c=true/\fk cx.P e=some (K.sz c)/\nH cx.P e=true/\l.length=len/\len<=4096/\K.sz c<=4096/\l.all (fun v=>v.known&&decide (v.df.length=K.sz c))=true/\pR (cJ l)=true then
      match Ad cx.D H l with
      |some l'=>match pQ cx.D c l' with
       |some (y,b)=>some (.sl H.length,jk H (cJ l)++[.tree c y],b,cJ l)
       |none=>none
      |none=>none
     else none
    |_,_=>none
 |.call {callee:=.builtin .append,args,argTypes}=>match args.toList,argTypes.toList with
   |[s,x],[sT,xT]=>if(Fj cx.P xT).isSome||(cx.P.underlying xT).isNone then none else match elemOf? cx.P sT with
     |none=>none
     |some e=>match uf cx e with
      |none=>none
      |some c=>if cx.deep c=true/\fk cx.P e=some (K.sz c)/\room e cx.P=true/\nH cx.P e=true then
        match rl H c (ev s),rl H c (ev x)with
        |some (l,hs),some (m,hs')=>if pR (hs++hs')then some (.sl H.length,jk H (hs++hs')++[.tree c (l++m)],decide (l.length+m.length<=1073741824),hs++hs')else none
        |_,_=>none
       else none
   |_,_=>none
 |_=>none
def Af(_cx:Cx K)(_ev:Operand->AV K)(_H:List (Ob K)):Op->Option (AV K×List (Ob K)×Bool×List Nat):=fun _=>none
def Qy:List (Ob K)->Option Nat
 |[]=>none
 |.opn ..::_=>some 0
 |_::r=>(Qy r).map (· +1)
def shut(_D:bP K)(H:List (Ob K)):Option (List (Ob K)×Bool×List Nat):=
 match Qy H with
 |none=>some (H,true,[])
 |some _=>none
def Ag(q:Bool)(cx:Cx K)(H:List (Ob K))(f:FuncId)(args:List (AV K)):Option (AV K×List (Ob K)×Bool×List Nat):=
 if cx.opn&& !cx.lz&& !q then match rk q cx H f args with
  |some (r,H1,c,t)=>match shut cx.D H1 with
   |some (H2,b,t2)=>some (r,H2,c&&b,t++t2)
   |none=>none
  |none=>none
 else rk q cx H f args
def guardOf(ops:List Oper)(o:Oper):Option (Option (Nat×Bool)):=
 match o.guard with
 |none=>some none
 |some (j,w)=>match ops[j]? with
  |some g=>match g.dst with
   |some t=>some (some (t,w))
   |none=>none
  |none=>none
def xu(st:St K)(wr:List Nat)(dst:Option Nat)(v:AV K)(H:List (Ob K))(ok:Bool):Option (St K×List Nat):=
 match dst with
 |none=>some (⟨st.tm,H,ok⟩,wr)
 |some d=>if wr.contains d||decide (st.tm.length<=d)then none else some (⟨st.tm.set d v,H,ok⟩,d::wr)
def Ah(cx:Cx K)(ev:Operand->AV K)(H:List (Ob K))(op:Op):Option (AV K×List (Ob K)×Bool×List Nat):=
 match Ae cx (fun x=>eK H (ev x)) H op with
 |some r=>some r
 |none=>match ri ev op with
 |[]=>xl cx (fun x=>eK H (ev x)) H op
 |hs=>match xk cx (fun x=>eK (iN H hs) (ev x)) (iN H hs) op with
  |some (v,c)=>some (v,iN H hs,c,[])
  |none=>xl cx (fun x=>eK (iN H hs) (ev x)) (iN H hs) op
def Qz:Operand->Bool
 |.const (.slice none 0 0)=>true
 |_=>false
def iO(cx:Cx K):Op->Bool
 |.assign x=> !Qz x
 |.slice t ..=>akd cx.P t
 |.load t _=> !cx.opn||(cx.lz&&(cx.mU t).all Option.isNone)
 |.makeFunc .. |.move _|.pick .. |.binOp .. |.unOp .. |.extract .. |.field .. |.fieldAddr .. |.indexAddr .. |.index .. |.nilCheck _=>true
 |.convert _ dst _=>(elemOf? cx.P dst).isNone
 |.call {callee:=.builtin .len, ..}|.call {callee:=.builtin .min, ..}|.call {callee:=.builtin .max, ..}=>true
 |.call {callee:=.value (.func f), ..}=>cx.mode f== .plain&&(!cx.opn||cx.lz)
 |_=>false
def cutV(cx:Cx K)(ev:Operand->AV K)(H:List (Ob K)):Op->Option (AV K×List (Ob K)×Bool×List Nat)
 |.slice t x none (some y) none=>if cx.cut then match ev x,ev y,elemOf? cx.P t with
   |.sl h,.int _ n,some e=>match H[h]? with
     |some (.arr c l)=>if fk cx.P e=some (K.sz c)then some (.sl H.length,H.set h .dead++[.arr c (l.take n.toNat)],cF 0 n l.length,[h])else none
     |_=>none
   |_,_,_=>none else none
 |_=>none
def Ft(cx:Cx K)(ev:Operand->AV K)(H:List (Ob K)):Op->Option (AV K×List (Ob K)×Bool×List Nat)
 |.buildSlice t len parts=>match elemOf? cx.P t with
   |none=>none
   |some e=>match cx.ty e,inOrder ev 0 parts.toList with
    |some c,some l=>if fk cx.P e=some (K.sz c)/\nH cx.P e=true/\l.length=len/\len<=4096/\K.sz c<=4096/\l.all (fun v=>gI v.df&&(v.known&&decide (v.df.length=K.sz c)))=true then
      match pQ cx.D c l with
      |some (y,b)=>some (.ah c y,H,b,[])
      |none=>none
     else none
    |_,_=>none
 |_=>none
def lB(q:Bool)(cx:Cx K)(tm:List (AV K))(gs:List (Nat×Bool))(H:List (Ob K))(T:TypeId):Op->Option (AV K×List (Ob K)×Bool×List Nat)
 |.pick c x y=>match c,dH tm gs c with
   |.tmp t,.bool b=>match known cx t with
     |some b0=>some (cond b0 (dH tm gs x) (dH tm gs y),H,b==b0,[])
     |none=>some (merge b (dH tm ((t,true)::gs) x) (dH tm ((t,false)::gs) y),H,true,[])
   |.const _,.bool b=>some (merge b (dH tm gs x) (dH tm gs y),H,true,[])
   |_,_=>none
 |.call {callee:=.value f,args, ..}=>match dH tm gs f with
   |.fn g caps=>Ag q cx H g (args.toList.map (fun x=>eK H (dH tm gs x))++caps)
   |_=>none
 |.assign x=>if !q&&Qz x then match elemOf? cx.P T with
     |some e=>match cx.ty e with
      |some c=>some (.sl H.length,H++[cond (cx.deep c) (.tree c []) (.arr c [])],true,[])
      |none=>some (dH tm gs x,H,true,[])
     |none=>some (dH tm gs x,H,true,[])
   else some (eK H (dH tm gs x),H,true,[])
 |op=>match xk cx (fun x=>eK H (dH tm gs x)) H op with
  |some (v,c)=>some (v,H,c,[])
  |none=>if q then Ft cx (fun x=>eK H (dH tm gs x)) H op else if iO cx op then none else match Af cx (dH tm gs) H op with
   |some r=>some r
   |none=>match cutV cx (dH tm gs) H op with
   |some r=>some r
   |none=>Ah cx (dH tm gs) H op
def nI(cx:Cx K):Op->Bool
 |.assign _=>true
 |.slice t ..=> !cx.cut||akd cx.P t
 |.call {callee:=.value (.func f), ..}=>cx.mode f== .plain||cx.mode f== .cT
 |op=>iO cx op
def aCC(cx:Cx K):Op->Bool
 |.buildSlice ..=>true
 |op=>nI cx op
def iD(q:Bool)(cx:Cx K)(ops:List Oper)(tm:List (AV K))(H:List (Ob K))(wr:List Nat)(o:Oper):Option (AV K×List (Ob K)×Bool):=
 match guardOf ops o with
 |none=>none
 |some none=>match lB q cx tm [] H o.type o.op with
  |some (v,H',c,_)=>if v.jh then none else some (v,H',c)
  |none=>none
 |some (some (g,w))=>match known cx g with
  |some b0=>match tm[g]? with
   |some (.bool b)=>if b0=w then match lB q cx tm [] H o.type o.op with
     |some (v,H',c,_)=>if v.jh then none else some (v,H',c&&(b==b0))
     |none=>none
    else some (.any,H,b==b0)
   |_=>none
  |none=>match zZ tm 6 (g,w)with
   |none=>none
   |some b=>if aCC cx o.op&&wr.contains g then match lB true cx tm [(g,w)] H o.type o.op with
     |some (v,_,c,_)=>some (.opt g w v,H,c|| !b)
     |none=>none else none
def xw(cx:Cx K)(ops:List Oper)(st:St K)(wr:List Nat)(o:Oper):Option (St K×List Nat):=
 match iD false cx ops st.tm st.H wr o with
 |some (v,H',c)=>xu st wr o.dst v H' (c&&st.ok)
 |none=>none
def lC(cx:Cx K)(ops:List Oper):List Oper->St K->List Nat->Option (St K×List Nat)
 |[],st,wr=>some (st,wr)
 |o::r,st,wr=>match xw cx ops st wr o with
  |some (st',wr')=>lC cx ops r st' wr'
  |none=>none
def jl(tm:List (AV K)):List Nat->List (AV K)
 |[]=>tm
 |d::r=>match tm[d]? with
  |some (.opt ..)=>jl (tm.set d .any) r
  |_=>jl tm r
def ik:List Oper->List Nat->List Nat
 |[],acc=>acc
 |o::r,acc=>ik r (acc++[o.after.toList.foldl (fun s e=>s|||2^e.on|||acc.getD e.on 0) 0])
def eE(bits:Nat):List Oper->Nat->List (AV K)->List (AV K)
 |[],_,tm=>tm
 |o::r,i,tm=>eE bits r (i+1) (match o.dst with
  |some d=>if bits.testBit i then tm else tm.set d .any
  |none=>tm)
def Fv(i:Nat):Nat->List Nat->Nat
 |_,[]=>0
 |k,b::r=>(cond (b.testBit i) (2^k) 0)|||Fv i (k+1) r
def eO(bs:List Nat)(i:Nat):Nat:=bs.getD i 0|||Fv i 0 bs
def mr(cx:Cx K)(ops:List Oper)(bs:List Nat):List Oper->Nat->St K->List Nat->Option (St K×List Nat)
 |[],_,st,wr=>some (st,wr)
 |o::r,i,st,wr=>match iD true cx ops (eE (eO bs i) ops 0 st.tm) st.H wr o with
  |some (v,_,c)=>match xu st wr o.dst v st.H (c&&st.ok)with
   |some (st',wr')=>mr cx ops bs r (i+1) st' wr'
   |none=>none
  |none=>none
def jU:List Oper->Nat->Bool
 |[],_=>true
 |o::r,i=>(o.after.toList.all fun e=>decide (e.on<i)&&Region.binds .any e)&&jU r (i+1)
def iE(bits:Nat):Nat->List (Ob K)->List (Ob K)
 |_,[]=>[]
 |i,o::r=>(if bits.testBit i then .dead else o)::iE bits (i+1) r
def kE(bits:Nat):Nat->List (Ob K)->List (Ob K)->List (Ob K)
 |i,o::r,o'::r'=>(if bits.testBit i then o else o')::kE bits (i+1) r r'
 |_,[],r'=>r'
 |_,_::_,[]=>[]
mutual
def AV.upto(n:Nat):AV K->Bool
 |.ptr h _|.sl h|.ep h _ _ _|.np h|.vw h _ _ _=>decide (h<n)
 |.fn _ l|.agg l|.bU l=>pS n l
 |.opt _ _ v=>v.upto n
 |_=>true
def pS(n:Nat):List (AV K)->Bool
 |[]=>true
 |v::r=>v.upto n&&pS n r
end
def Ob.upto(n:Nat):Ob K->Bool
 |.box cs=>pS n cs
 |.opn _ _ _ _ cs=>pS n cs
 |_=>true
def nJ(ev:Operand->AV K)(op:Op):List Nat:=
 ri ev op++(match op with
  |.store _ p _=>hands (ev p)
  |.convert _ _ x=>hands (ev x)
  |.call {callee:=.builtin .append,args, ..}=>(match args.toList with
    |s::x::_=>hands (ev s)++hands (ev x)
    |[s]=>hands (ev s)
    |[]=>[])
  |.call {callee:=.builtin .clear,args, ..}=>(match args.toList with
    |s::_=>hands (ev s)
    |[]=>[])
  |.call {callee:=.builtin .copy,args, ..}=>(match args.toList with
    |s::_=>hands (ev s)
    |[]=>[])
  |_=>[])
def ug(cx:Cx K):Op->Bool
 |.box .. |.alloc _|.build .. |.store .. |.makeSlice .. |.buildSlice .. |.convert .. |.slice ..=>true
 |.call {callee:=.builtin .append, ..}=>true
 |.call {callee:=.value (.func f), ..}=>(cx.mode f== .fresh||(cx.mode f== .pass||cx.mode f== .kW))&&(!cx.opn||cx.lz)
 |.load ..=>cx.opn&&cx.lz
 |_=>false
def QA(ev:Operand->AV K):Op->List Nat
 |.call {callee:=.value _,args, ..}=>cJ (args.toList.map ev)
 |_=>[]
def Ai(cx:Cx K)(H:List (Ob K))(ev:Operand->AV K):Op->List Nat
 |.call {callee:=.value (.func f),args, ..}=>(match cx.mode f with
   |.pass=>reach H 64 (cJ (args.toList.map fun y=>eK H (ev y))) []
   |.kW=>cJ (args.toList.map fun y=>eK H (ev y))++reach (iN H (cJ (args.toList.map fun y=>eK H (ev y)))) 64 (cJ (pP (iN H (cJ (args.toList.map fun y=>eK H (ev y)))) (args.toList.map fun y=>eK H (ev y)))) []
   |_=>[])
 |_=>[]
def bitsOf:List Nat->Nat
 |[]=>0
 |h::r=>2^h|||bitsOf r
def Aj(cx:Cx K)(ops:List Oper)(tm:List (AV K))(H:List (Ob K))(wr:List Nat)(o:Oper):Option (AV K×List (Ob K)×Bool):=
 if nI cx o.op then iD true cx ops tm H wr o else if ug cx o.op then iD false cx ops tm H wr o else none
def pT(cx:Cx K)(tm:List (AV K))(H:List (Ob K))(op:Op):List Nat:=if nI cx op then[]else match op with
 |.load t p=>(match xk cx (fun x=>eK H (dH tm [] x)) H (.load t p)with
   |some _=>[]
   |none=>hands (dH tm [] p))
 |op=>(nJ (dH tm []) op++QA (dH tm []) op)++Ai cx H (dH tm []) op
def Ak(A:Nat):Nat->List Nat->Nat
 |_,[]=>0
 |k,b::r=>(if A.testBit k then 0 else b)|||Ak A (k+1) r
def Lm(A:Nat)(T:List Nat):Nat->List (Nat×Nat)->Bool
 |_,[]=>true
 |i,(m,n)::r=>(A.testBit i||T.all fun h=>decide (n<=h)||m.testBit h)&&Lm A T (i+1) r
def aCD:Op->Option (List Operand)
 |.slice _ x _ _ _=>some [x]
 |.move _=>some []
 |.load _ p=>some [p]
 |.fieldAddr ..=>some []
 |.indexAddr _ x _=>some [x]
 |.nilCheck _=>some []
 |.store _ p x=>some [p,x]
 |.binOp ..=>some []
 |.unOp ..=>some []
 |.build _ parts=>some (parts.toList.map (·.2))
 |.extract x _=>some [x]
 |.assign x=>some [x]
 |_=>none
def aki(tm:List (AV K))(n:Nat)(op:Op):Nat:=
 match aCD op with
 |none=>0
 |some l=>bitsOf ((List.range n).filter fun h=> !(cJ (l.map (dH tm []))).contains h)
def rm(bs ws:List Nat)(i:Nat)(tm:List (AV K))(n:Nat)(op:Op):Nat:=Ak (bs.getD i 0) 0 ws|||aki tm n op
def rn(cx:Cx K)(ops:List Oper)(bs:List Nat):List Oper->Nat->St K->List Nat->List (Nat×Nat)->List Nat->Option (St K×List Nat)
 |[],_,st,wr,_,_=>some (st,wr)
 |o::r,i,st,wr,ms,ws=>
  if pS st.H.length (eE (eO bs i) ops 0 st.tm)&&(iE (rm bs ws i (eE (eO bs i) ops 0 st.tm) st.H.length o.op) 0 st.H).all (Ob.upto st.H.length)then
   match Aj cx ops (eE (eO bs i) ops 0 st.tm) (iE (rm bs ws i (eE (eO bs i) ops 0 st.tm) st.H.length o.op) 0 st.H) wr o with
   |none=>none
   |some (v,H',c)=>
    if(Lm (bs.getD i 0) (pT cx (eE (eO bs i) ops 0 st.tm) (iE (rm bs ws i (eE (eO bs i) ops 0 st.tm) st.H.length o.op) 0 st.H) o.op) 0 ms&&(pT cx (eE (eO bs i) ops 0 st.tm) (iE (rm bs ws i (eE (eO bs i) ops 0 st.tm) st.H.length o.op) 0 st.H) o.op).all fun h=> !(rm bs ws i (eE (eO bs i) ops 0 st.tm) st.H.length o.op).testBit h&&decide (h<st.H.length))&&decide (st.H.length<=H'.length)then
     match xu st wr o.dst v (kE (rm bs ws i (eE (eO bs i) ops 0 st.tm) st.H.length o.op) 0 st.H H') (c&&st.ok)with
     |some (st',wr')=>rn cx ops bs r (i+1) st' wr' (ms++[(rm bs ws i (eE (eO bs i) ops 0 st.tm) st.H.length o.op,st.H.length)])
       (ws++[bitsOf (pT cx (eE (eO bs i) ops 0 st.tm) (iE (rm bs ws i (eE (eO bs i) ops 0 st.tm) st.H.length o.op) 0 st.H) o.op++List.range' st.H.length (H'.length-st.H.length))])
     |none=>none
    else none
  else none
def pU(cx:Cx K)(ops:List Oper)(st:St K):Option (St K):=
 if(ops.all fun o=>nI cx o.op)&&jU ops 0 then match mr cx ops (ik ops []) ops 0 st []with
     |some (st',wr)=>some ⟨jl st'.tm wr,st'.H,st'.ok⟩
     |none=>none
  else if jU ops 0 then match rn cx ops (ik ops []) ops 0 st [] [] []with
   |some (st',wr)=>some ⟨jl st'.tm wr,st'.H,st'.ok⟩
   |none=>none
  else none
def Fz(π:List Nat)(n:Nat):Bool:=decide (π.length=n)&&(π.all (fun i=>decide (i<n))&&((List.range n).all (fun i=>π.contains i)&&pR π))
def xx(π:List Nat)(n:Nat)(o:Oper):Oper:=
 {o with after:=(o.after.filter (Region.binds .any)).map (fun e=>{e with on:=(π.idxOf? e.on).getD n}),guard:=o.guard.map fun g=>((π.idxOf? g.1).getD n,g.2)}
def permuted(π:List Nat)(ops:List Oper):List Oper:=π.map fun i=>match ops[i]? with
 |some o=>xx π ops.length o
 |none=>{dst:=none,op:=.move (.const .nilIface),type:=0,pos:= "",after:= #[],guard:=none}
def akj(cx:Cx K)(ops:List Oper)(bs:List Nat):List Nat:=
 match(List.range ops.length).foldl (fun acc i=>match ops[i]? with
  |some o=>if ug cx o.op&&(!nI cx o.op&& !acc.contains i)then acc++((List.range ops.length).filter fun j=>(bs.getD i 0).testBit j&& !acc.contains j)++[i]else acc
  |none=>acc) []with
 |acc=>acc++(List.range ops.length).filter fun j=> !acc.contains j
def FA(cx:Cx K)(ops:List Oper)(π:List Nat)(st:St K):Option (St K):=
 if Fz π ops.length then pU cx (permuted π ops) st else none
def QB(cx:Cx K)(ops:List Oper)(st:St K):Option (St K):=
 if jU ops 0 then match pU cx ops st with
  |some r=>some r
  |none=>FA cx ops (akj cx ops (ik ops [])) st
 else match FA cx ops (List.range ops.length) st with
  |some r=>some r
  |none=>FA cx ops (akj cx ops (ik (permuted (List.range ops.length) ops) [])) st
def iF(cx:Cx K)(ops:List Oper)(draw:Bool)(st:St K):Option (St K):=
 if draw then QB cx ops st
 else match lC cx ops ops st []with
  |some (st',wr)=>some ⟨jl st'.tm wr,st'.H,st'.ok⟩
  |none=>none
def writes:Code->List Nat
 |.region _ ops _=>ops.toList.filterMap (·.dst)
 |.seq a b=>writes a++writes b
 |.cond _ a b=>writes a++writes b
 |.block _ c=>writes c
 |.loop c=>writes c
 |.scope c=>writes c
 |.rangeFunc _ ps a c=>ps.toList++writes a++writes c
 |_=>[]
def simple(cx:Cx K):Code->Bool
 |.skip=>true
 |.region _ ops _=>ops.toList.all fun o=>iO cx o.op
 |.seq a b=>simple cx a&&simple cx b
 |.cond _ a b=>simple cx a&&simple cx b
 |_=>false
def jm(b:Bool)(wr:List Nat):Nat->List (AV K)->List (AV K)->List (AV K)->List (AV K)
 |n,v::r,x::s,y::t=>(if wr.contains n then merge b x y else v)::jm b wr (n+1) r s t
 |_,_,_,_=>[]
def ee(tm:List (AV K)):List Nat->List (AV K)->List (AV K)
 |d::r,v::s=>ee (tm.set d v) r s
 |_,_=>tm
def keyOf:Code->Nat
 |.region id _ _=>id
 |.seq a _=>keyOf a
 |.cond _ a _=>keyOf a
 |.block _ c=>keyOf c
 |.loop c=>keyOf c
 |_=>0
def inLoop(H:List (Ob K))(vals:List (AV K)):Option (List Nat×List (AV K)×List (Ob K)):=
 if xo H (reach H 64 (cJ vals) [])then match akg (reach H 64 (cJ vals) []) vals,mq (Lj (reach H 64 (cJ vals) [])) ((reach H 64 (cJ vals) []).map fun h=>H.getD h .dead)with
  |some kF,some Hi=>some (reach H 64 (cJ vals) [],kF,Hi)
  |_,_=>none
 else none
def gJ(m:List Nat)(n k:Nat):List Nat:=m++(List.range (k-m.length)).map (n+·)
def Ln(L:bo K)(m:List Nat)(st:St K)(vs:List (AV K))(Ho:List (Ob K)):Option (St K):=
 match aCB (gJ m st.H.length Ho.length) vs,mq (xn (gJ m st.H.length Ho.length)) Ho with
 |some vs',some hC=>if m.length<=Ho.length then some ⟨ee (List.replicate L.n .any) L.outs vs',jj st.H m (hC.take m.length)++hC.drop m.length,st.ok⟩else none
 |_,_=>none
def QC(ops:List Oper):List Nat:=(ops.filterMap fun o=>match guardOf ops o with
 |some (some (g,_))=>some g
 |_=>none).eraseDups
def FC(cx:Cx K)(ops:List Oper)(draw:Bool)(st:St K):List Nat->Option (Bool×St K×St K)
 |[]=>none
 |t::r=>match iF {cx with gs:=[(t,true)]} ops draw st,iF {cx with gs:=[(t,false)]} ops draw st with
  |some s1,some s2=>match s1.tm.getD t .any with
   |.bool b=>some (b,s1,s2)
   |_=>FC cx ops draw st r
  |_,_=>FC cx ops draw st r
inductive hQ (K:db) where
 |no
 |leaf (s:St K)
 |node (b:Bool) (x y:hQ K)
 |two (x y:St K)
def hQ.go(cx:Cx K):hQ K->{R:Type}->(St K->Option R)->Option R
 |.no,_,_=>none
 |.leaf s,_,k=>k s
 |.node b x y,_,k=>cond b (x.go cx k) (y.go cx k)
 |.two x y,_,k=>cx.Fg (k x) (k y)
def xy(cx:Cx K)(ops:List Oper):List Oper->St K->List Nat->St K×List Oper
 |[],st,_=>(st,[])
 |o::r,st,wr=>match xw cx ops st wr o with
  |some (st',wr')=>xy cx ops r st' wr'
  |none=>(st,o::r)
def Lo(cx:Cx K)(st:St K):List Nat->Option (Nat×Bool)
 |[]=>none
 |t::r=>match known cx t with
  |some _=>Lo cx st r
  |none=>match st.tm[t]? with
   |some (.bool b)=>some (t,b)
   |_=>Lo cx st r
def akk(st:St K):List Oper->Bool
 |[]=>false
 |o::_=>match o.op with
  |.nilCheck (.tmp t)=>match st.tm[t]? with
    |some .dt=>true
    |some (.opt _ _ .dt)=>true
    |_=>false
  |_=>false
def FD(cx:Cx K)(ops:List Oper)(draw:Bool)(st:St K):Nat->List (Nat×Bool)->Option (hQ K)
 |0,_=>none
 |n+1,gs=>match iF {cx with gs:=gs} ops draw st with
  |some s=>some (.leaf s)
  |none=>match iF {cx with call:=cx.alt true,mode:=cx.rh true,gs:=gs} ops draw st,iF {cx with call:=cx.alt false,mode:=cx.rh false,gs:=gs} ops draw st with
   |some s1,some s2=>some (.two s1 s2)
   |_,_=>match Lo {cx with gs:=gs} (xy {cx with gs:=gs} ops ops st []).1 (QC ops)with
    |some (t,b)=>match FD cx ops draw st n ((t,true)::gs),FD cx ops draw st n ((t,false)::gs)with
     |some x,some y=>some (.node b x y)
     |_,_=>none
    |none=>if akk (xy {cx with gs:=gs} ops ops st []).1 (xy {cx with gs:=gs} ops ops st []).2 then some .no else none
def FG(cx:Cx K)(ops:List Oper)(draw:Bool)(st:St K):Nat->List (Nat×Bool)->Option (hQ K)
 |0,_=>none
 |n+1,gs=>match iF {cx with gs:=gs} ops draw st with
  |some s=>some (.leaf s)
  |none=>match Lo {cx with gs:=gs} (xy {cx with gs:=gs} ops ops st []).1 (QC ops)with
   |some (t,b)=>match FG cx ops draw st n ((t,true)::gs),FG cx ops draw st n ((t,false)::gs)with
    |some x,some y=>some (.node b x y)
    |_,_=>none
   |none=>if akk (xy {cx with gs:=gs} ops ops st []).1 (xy {cx with gs:=gs} ops ops st []).2 then some .no else none
def hQ.Lp:hQ K->{R:Type}->(St K->Option R)->Option R
 |.leaf s,_,k=>k s
 |.node b x y,_,k=>cond b (x.Lp k) (y.Lp k)
 |_,_,_=>none
def Am:Ex->St K->Option (St K)
 |.normal,st=>some st
 |_,_=>none
def fw(cx:Cx K):Code->{R:Type}->St K->(Ex->St K->Option R)->Option R
 |.skip,_,st,k=>k .normal st
 |.region _ ops draw,_,st,k=>match iF cx ops.toList draw st with
   |some st'=>k .normal st'
   |none=>match FC cx ops.toList draw st (QC ops.toList)with
    |some (b,s1,s2)=>cond b (k .normal s1) (k .normal s2)
    |none=>if(ops.toList.all fun o=>iO cx o.op)=true then match FG cx ops.toList draw st 4 []with
      |some T=>T.Lp (k .normal)
      |none=>none
     else match iF {cx with call:=cx.alt true,mode:=cx.rh true} ops.toList draw st,iF {cx with call:=cx.alt false,mode:=cx.rh false} ops.toList draw st with
     |some s1,some s2=>cx.Fg (k .normal s1) (k .normal s2)
     |_,_=>match FD cx ops.toList draw st 4 []with
      |some T=>T.go cx (k .normal)
      |none=>none
 |.seq a b,_,st,k=>fw cx a st fun e s=>match e with
   |.normal=>fw cx b s k
   |e=>k e s
 |.cond c a b,_,st,k=>match dH st.tm [] c with
   |.bool t=>if simple cx a&&simple cx b then
       match fw cx a st Am,fw cx b st Am with
       |some sa,some sb=>k .normal ⟨jm t (writes a++writes b) 0 st.tm sa.tm sb.tm,st.H,(sa.ok|| !t)&&(sb.ok||t)⟩
       |_,_=>none
     else cond t (fw cx a st k) (fw cx b st k)
   |_=>none
 |.block id c,_,st,k=>fw cx c st fun e s=>match e with
   |.exit i=>if i=id then k .normal s else k (.exit i) s
   |e=>k e s
 |.loop c,_,st,k=>match cx.loop (keyOf c)with
   |some L=>if st.tm.length=L.n then match inLoop st.H (L.ins.map fun t=>st.tm.getD t .any)with
     |some (m,vals,Hi)=>L.run vals Hi fun e vs Ho=>match Ln L m st vs Ho with
      |some st'=>k e st'
      |none=>none
     |none=>none else none
   |none=>none
 |.exit id,_,st,k=>k (.exit id) st
 |.ret,_,st,k=>k .ret st
 |_,_,_,_=>none
def uh(cx:Cx K)(st:St K):List ResultVar->Option (List (AV K))
 |[]=>some []
 |.tmp t::r=>match uh cx st r with
   |some l=>some (st.tm.getD t .any::l)
   |none=>none
 |.cell a t::r=>match Le cx.P cx.D st.H t (st.tm.getD a .any),uh cx st r with
   |some v,some l=>some (v::l)
   |_,_=>none
def resV(cx:Cx K)(fn:Func)(st:St K):Option (AV K):=
 match uh cx st fn.results.toList with
 |some [v]=>some (eK st.H v)
 |some l=>some (.bU (pP st.H l))
 |none=>none
def xz{α β:Type}(f:α->Option β):List α->Option (List β)
 |[]=>some []
 |x::r=>match f x,xz f r with
  |some y,some l=>some (y::l)
  |_,_=>none
def ui(src:List (Option Nat))(h:Nat):Option Nat:=src.idxOf? (some h)
def uj(n0 n:Nat):Nat->List (Option Nat)->Bool
 |_,[]=>true
 |i,none::r=>decide (i<n0)&&uj n0 n (i+1) r
 |i,some h::r=>decide (h<n)&&((decide (n0<=i)||decide (h=i))&&(!r.contains (some h)&&uj n0 n (i+1) r))
def xA(src:List (Option Nat))(H:List (Ob K)):Option Nat->Option (Ob K)
 |none=>some .dead
 |some h=>match H[h]? with
  |some o=>kD (ui src) o
  |none=>none
def rq(n0:Nat)(src:List (Option Nat))(keep:List Nat)(st:St K):Option (St K):=
 if uj n0 st.H.length 0 src&&decide (n0<=src.length)then
  match ji (ui src) (keep.map fun t=>st.tm.getD t .any),xz (xA src st.H) src with
  |some vs,some H=>some ⟨ee (List.replicate st.tm.length .any) keep vs,H,st.ok⟩
  |_,_=>none
 else none
def xB(n0:Nat)(keep:List Nat)(st:St K):Option (St K):=
 rq n0 ((reach st.H 64 (List.range n0++cJ (keep.map fun t=>st.tm.getD t .any)) []).map some) keep st
def uk(cx:Cx K)(s:St K):Option (Bool×St K):=match Qy s.H with
 |none=>some (true,s)
 |some _=>match shut cx.D s.H with
  |some (H',b,_)=>some (b,⟨s.tm,H',s.ok⟩)
  |none=>none
def Lq(cx:Cx K)(n0:Nat)(keep outs:List Nat)(body:Code)(st:St K):Option (St K⊕Ex×St K):=
 fw cx body st fun e s=>cond s.ok (match e with
  |.normal=>match uk cx s with
    |some (b,s1)=>cond b (match xB n0 keep s1 with
     |some s'=>some (.inl s')
     |none=>none) none
    |none=>none
  |e=>match uk cx s with
   |some (b,s1)=>cond b (match xB n0 outs s1 with
    |some s'=>some (.inr (e,s'))
    |none=>none) none
   |none=>none) none
def QD(n0:Nat)(src:List (Option Nat))(v:AV K)(H:List (Ob K)):Option (AV K×List (Ob K)):=
 if uj n0 H.length 0 src&&decide (n0<=src.length)then
  match fe (ui src) v,xz (xA src H) src with
  |some v',some H'=>some (v',H')
  |_,_=>none
 else none
def pack(n0:Nat)(v:AV K)(H:List (Ob K)):Option (AV K×List (Ob K)):=
 QD n0 ((reach H 64 (List.range n0++hands v) []).map some) v H
def QE(H:List (Ob K))(h:Nat):Bool:=match H[h]? with
 |some (.arr ..)=>false
 |some (.gp ..)=>false
 |some (.tree ..)=>false
 |_=>true
def aCE(n0:Nat)(v:AV K)(H:List (Ob K)):List (Option Nat):=
 ((List.range n0).map fun h=>cond (QE H h) (some h) none)++((reach H 64 ((List.range n0).filter (QE H)++hands v) []).filter fun h=> !(decide (h<n0)&&QE H h)).map some
def Lr(mv:Bool)(n0:Nat)(v:AV K)(H:List (Ob K)):Option (AV K×List (Ob K)):=
 QD n0 (cond mv (aCE n0 v H) ((reach H 64 (List.range n0++hands v) []).map some)) v H
def aCF(cx:Cx K)(fn:Func)(n0:Nat)(e:Ex)(st:St K):Option (AV K×List (Ob K)):=
 match e with
 |.exit _=>none
 |_=>match resV cx fn st with
  |some v=>cond st.ok (pack n0 v st.H) none
  |none=>none
def aE8(cx:Cx K)(fn:Func)(args:List (AV K))(H:List (Ob K)):Option (AV K×List (Ob K)):=
 match fn.body with
 |some c=>fw cx c ⟨args++List.replicate (fn.ntmps-args.length) .any,H,true⟩ (aCF cx fn H.length)
 |none=>none
end Go.V
namespace Go.V
open Go
variable {K :db}
def il(w:World)(b k:Nat)(vs:List Value):Prop:=∀j v,vs[j]?=some v->w.cell? ⟨b,k+j,none⟩=some v
inductive Rep (D:bP K) (ρ:List Value) (S:Nat->Prop) (w:World):AV K->Value->Prop
 |any (v:Value):Rep D ρ S w .any v
 |int (k:IntKind) (n:Int):Rep D ρ S w (.int k n) (.int k n)
 |bool (b:Bool):Rep D ρ S w (.bool b) (.bool b)
 |str (s:List UInt8):Rep D ρ S w (.str s) (.string ⟨s.toArray⟩)
 |dt:Rep D ρ S w .dt (.pointer none)
 |ko {h:Nat}:Rep D ρ S w (.np h) (.pointer none)
 |np {h b:Nat} (hp:ρ[h]?=some (.pointer (some ⟨b,0,none⟩))):Rep D ρ S w (.np h) (.pointer (some ⟨b,0,none⟩))
 |dj:Rep D ρ S w .dj (.slice none 0 0)
 |mp (r:Option Nat):Rep D ρ S w .mp (.map r)
 |fn {f:Nat} {caps:List (AV K)} {vs:List Value} (hl:caps.length=vs.length) (hr:∀(i:Nat) v x,caps[i]?=some v->vs[i]?=some x->Rep D ρ S w v x):
   Rep D ρ S w (.fn f caps) (.func (.func f) #[] vs.toArray)
 |ptr {h off b:Nat} (hp:ρ[h]?=some (.pointer (some ⟨b,0,none⟩))):Rep D ρ S w (.ptr h off) (.pointer (some ⟨b,off,none⟩))
 |sl {h:Nat} {a:Option Addr} {n c:Nat} (hp:ρ[h]?=some (.slice a n c)):Rep D ρ S w (.sl h) (.slice a n c)
 |ep {h st i off b o n c:Nat} (hp:ρ[h]?=some (.slice (some ⟨b,o,none⟩) n c)) (hi:i<n):Rep D ρ S w (.ep h st i off) (.pointer (some ⟨b,o+i*st+off,none⟩))
 |vw {h st lo hi n c c':Nat} {a a':Option Addr} (hp:ρ[h]?=some (.slice a n c)) (h1:lo<=hi) (h2:hi<=n) (ha:hi-lo=0\/∃b o,a=some ⟨b,o,none⟩/\a'=some ⟨b,o+lo*st,none⟩/\hi-lo<=c'):Rep D ρ S w (.vw h st lo hi) (.slice a' (hi-lo) c')
 |eM {c:K.U} (a:Option Addr) (cap:Nat):Rep D ρ S w (.ah c []) (.slice a 0 cap)
 |ah {c:K.U} {l:List (K.El c)} {b o cap:Nat} (val:Nat->List Value) (hS:S b) (hcap:l.length<=cap)
   (hl:∀i x,l[i]?=some x->(val i).length=(D.cells c x).length)
   (hc:∀i,i<l.length->il w b (o+i*K.sz c) (val i))
   (hr:∀i x,l[i]?=some x->∀(j:Nat) v y,(D.cells c x)[j]?=some v->(val i)[j]?=some y->Rep D ρ S w v y):
   Rep D ρ S w (.ah c l) (.slice (some ⟨b,o,none⟩) l.length cap)
 |rp {c:K.U} {x:K.El c} {b o off:Nat} (vs:List Value) (hS:S b) (hl:vs.length=(D.cells c x).length) (hc:il w b o vs)
   (hr:∀(j:Nat) v y,(D.cells c x)[j]?=some v->vs[j]?=some y->Rep D ρ S w v y):
   Rep D ρ S w (.rp c x off) (.pointer (some ⟨b,o+off,none⟩))
 |agg {l:List (AV K)} {vs:List Value} (hl:l.length=vs.length) (hr:∀(i:Nat) v x,l[i]?=some v->vs[i]?=some x->Rep D ρ S w v x):
   Rep D ρ S w (.agg l) (.agg vs.toArray)
 |bU {l:List (AV K)} {vs:List Value} (hl:l.length=vs.length) (hr:∀(i:Nat) v x,l[i]?=some v->vs[i]?=some x->Rep D ρ S w v x):
   Rep D ρ S w (.bU l) (.tuple vs.toArray)
def bE(D:bP K)(ρ:List Value)(S:Nat->Prop)(w:World)(l:List (AV K))(vs:List Value):Prop:=
 l.length=vs.length/\∀(i:Nat) v x,l[i]?=some v->vs[i]?=some x->Rep D ρ S w v x
section
variable {D :bP K}{ρ ρ':List Value}{S S':Nat->Prop}{w w':World}
theorem bE.nil:bE D ρ S w [] []:=⟨rfl,fun i v x h=>by simp at h⟩
theorem bE.cons{v:AV K}{x:Value}{l:List (AV K)}{vs:List Value}(h:Rep D ρ S w v x)(t:bE D ρ S w l vs):bE D ρ S w (v::l) (x::vs):=
 ⟨by simp[t.1],fun i u y hu hy=>by
   cases i with
   |zero=>simp at hu hy;subst hu;subst hy;exact h
   |succ i=>exact t.2 i u y (by simpa using hu) (by simpa using hy)⟩
theorem bE.head{v:AV K}{x:Value}{l:List (AV K)}{vs:List Value}(h:bE D ρ S w (v::l) (x::vs)):Rep D ρ S w v x:=h.2 0 v x rfl rfl
theorem bE.tail{v:AV K}{x:Value}{l:List (AV K)}{vs:List Value}(h:bE D ρ S w (v::l) (x::vs)):bE D ρ S w l vs:=
 ⟨by simpa using h.1,fun i u y hu hy=>h.2 (i+1) u y (by simpa using hu) (by simpa using hy)⟩
theorem bE.fE{v:AV K}{l:List (AV K)}{vs:List Value}(h:bE D ρ S w (v::l) vs):∃x r,vs=x::r/\Rep D ρ S w v x/\bE D ρ S w l r:=by
 cases vs with
 |nil=>simp[bE]at h
 |cons x r=>exact⟨x,r,rfl,h.head,h.tail⟩
theorem bE.lS{vs:List Value}(h:bE D ρ S w [] vs):vs=[]:=by
 have:=h.1;simp at this;exact ja this.symm
theorem bE.append{l m:List (AV K)}{vs us:List Value}(h:bE D ρ S w l vs)(k:bE D ρ S w m us):bE D ρ S w (l++m) (vs++us):=by
 refine⟨by simp[h.1,k.1],fun i v x hv hx=>?_⟩;by_cases hi:i<l.length
 ·rw[dD hi]at hv;rw[dD (by rw[<-h.1];exact hi)]at hx;exact h.2 i v x hv hx
 ·rw[d5 (by omega)]at hv;rw[d5 (by rw[<-h.1];omega)]at hx;exact k.2 (i-l.length) v x hv (by rw[h.1];exact hx)
theorem bE.drop{l:List (AV K)}{vs:List Value}(h:bE D ρ S w l vs)(n:Nat):bE D ρ S w (l.drop n) (vs.drop n):=
 ⟨by simp[h.1],fun i v x hv hx=>h.2 (n+i) v x (by simpa using hv) (by simpa using hx)⟩
theorem bE.take{l:List (AV K)}{vs:List Value}(h:bE D ρ S w l vs)(n:Nat):bE D ρ S w (l.take n) (vs.take n):=
 ⟨by simp[h.1],fun i v x hv hx=>by
   simp only[eI]at hv hx;split at hv
   ·rename_i hi;rw[aE hi]at hx;exact h.2 i v x hv hx
   ·simp at hv⟩
theorem bE.get{l:List (AV K)}{vs:List Value}(h:bE D ρ S w l vs){i:Nat}{v:AV K}(hv:l[i]?=some v):∃x,vs[i]?=some x/\Rep D ρ S w v x:=by
 have hi:i<vs.length:=by rw[<-h.1];exact(cz.1 hv).1
 exact⟨vs[i],ct hi,h.2 i v _ hv (ct hi)⟩
theorem bE.set{l:List (AV K)}{vs:List Value}(h:bE D ρ S w l vs){n:Nat}{v:AV K}{x:Value}(hv:Rep D ρ S w v x):bE D ρ S w (l.set n v) (vs.set n x):=by
 refine⟨by simp[h.1],fun i u y hu hy=>?_⟩;rw[jy]at hu hy;by_cases hn:n=i
 ·subst hn;simp only[eY]at hu hy;split at hu
  ·rename_i hl;rw[aE (by rw[<-h.1];exact hl)]at hy;simp at hu hy;subst hu;subst hy;exact hv
  ·simp at hu
 ·rw[av hn]at hu hy;exact h.2 i u y hu hy
theorem cell?_of_heap{a:Addr}(h:w'.heap[a.block]?=w.heap[a.block]?):w'.cell? a=w.cell? a:=by simp[World.cell?,h]
theorem il.keep{b k:Nat}{vs:List Value}(h:il w b k vs)(hb:w'.heap[b]?=w.heap[b]?):il w' b k vs:=fun j v hv=>by
 rw[cell?_of_heap (w:=w) (a:=⟨b,k+j,none⟩) hb];exact h j v hv
theorem Rep.mono(hS:∀b,S b->S' b)(hw:∀b,S b->w'.heap[b]?=w.heap[b]?)(hρ:∀(h:Nat) r,ρ[h]?=some r->ρ'[h]?=some r){v:AV K}{x:Value}
 (h:Rep D ρ S w v x):Rep D ρ' S' w' v x:=by
 induction h with
 |any v=>exact .any v
 |int k n=>exact .int k n
 |bool b=>exact .bool b
 |str s=>exact .str s
 |dt=>exact .dt
 |dj=>exact .dj
 |mp r=>exact .mp r
 |fn hl _ ih=>exact .fn hl ih
 |ko=>exact .ko
 |np hp=>exact .np (hρ _ _ hp)
 |ptr hp=>exact .ptr (hρ _ _ hp)
 |sl hp=>exact .sl (hρ _ _ hp)
 |ep hp hi=>exact .ep (hρ _ _ hp) hi
 |vw hp h1 h2 ha=>exact .vw (hρ _ _ hp) h1 h2 ha
 |eM a cap=>exact .eM a cap
 |ah val h1 h2 h3 h4 _ ih=>exact .ah val (hS _ h1) h2 h3 (fun i hi=>(h4 i hi).keep (hw _ h1)) ih
 |rp vs h1 h2 h3 _ ih=>exact .rp vs (hS _ h1) h2 (h3.keep (hw _ h1)) ih
 |agg hl _ ih=>exact .agg hl ih
 |bU hl _ ih=>exact .bU hl ih
theorem bE.mono(hS:∀b,S b->S' b)(hw:∀b,S b->w'.heap[b]?=w.heap[b]?)(hρ:∀(h:Nat) r,ρ[h]?=some r->ρ'[h]?=some r){l:List (AV K)}{vs:List Value}
 (h:bE D ρ S w l vs):bE D ρ' S' w' l vs:=⟨h.1,fun i v x hv hx=>(h.2 i v x hv hx).mono hS hw hρ⟩
def AV.pV:AV K->Bool
 |.ah ..=>true
 |_=>false
structure bW (D:bP K):Prop where
 len:∀c x,(D.cells c x).length=K.sz c
 closed:∀c x,gI (D.cells c x)=true
 one:∀c x,(D.cells c x).all AV.one=true
 dec:∀c l x,D.dec c l=some (x,true)->∀ρ S w vs,bE D ρ S w l vs->bE D ρ S w (D.cells c x) vs
 byte:∀c f g,D.byte c=some (f,g)->(∀x,D.cells c x=[.int .u8 ((f x).toNat:Int)])/\∀b,f (g b)=b
 flat:∀c x,iw (D.cells c x)=iw (D.cells c (K.zero c))
 kinds:∀c x (j:Nat) v,(D.cells c x)[j]?=some v->v≠.dj/\(v.pV=false->iC v=false)
 akl:∀c l x,D.dec c l=some (x,true)->l.length=K.sz c/\∀(j:Nat) v v',l[j]?=some v->(D.cells c x)[j]?=some v'->v'=v\/(v=.dj/\∃c',v'=.ah c' [])
theorem xC{l:List (AV K)}(h:gI l=true){i:Nat}{v:AV K}(hv:l[i]?=some v):v.closed=true:=by
 induction l generalizing i with
 |nil=>simp at hv
 |cons u r ih=>
  simp only[gI,bC]at h;cases i with
  |zero=>simp at hv;subst hv;exact h.1
  |succ i=>exact ih h.2 (by simpa using hv)
theorem Rep.closed(hD:bW D){v:AV K}{x:Value}(h:Rep D ρ S w v x)(hv:v.closed=true):Rep D ρ' S w v x:=by
 induction h with
 |any v=>exact .any v
 |int k n=>exact .int k n
 |bool b=>exact .bool b
 |str s=>exact .str s
 |dt=>exact .dt
 |dj=>exact .dj
 |mp r=>exact .mp r
 |fn hl _ ih=>exact .fn hl fun i u y hu hy=>ih i u y hu hy (xC (by simpa [AV.closed]using hv) hu)
 |ko=>simp[AV.closed]at hv
 |np hp=>simp[AV.closed]at hv
 |ptr hp=>simp[AV.closed]at hv
 |sl hp=>simp[AV.closed]at hv
 |ep hp hi=>simp[AV.closed]at hv
 |vw hp h1 h2 ha=>simp[AV.closed]at hv
 |eM a cap=>exact .eM a cap
 |ah val h1 h2 h3 h4 _ ih=>exact .ah val h1 h2 h3 h4 fun i x hx j v y hv hy=>ih i x hx j v y hv hy (xC (hD.closed _ _) hv)
 |rp vs h1 h2 h3 _ ih=>exact .rp vs h1 h2 h3 fun j v y hv hy=>ih j v y hv hy (xC (hD.closed _ _) hv)
 |agg hl _ ih=>exact .agg hl fun i u y hu hy=>ih i u y hu hy (xC (by simpa [AV.closed]using hv) hu)
 |bU hl _ ih=>exact .bU hl fun i u y hu hy=>ih i u y hu hy (xC (by simpa [AV.closed]using hv) hu)
theorem bE.closed(hD:bW D){l:List (AV K)}{vs:List Value}(h:bE D ρ S w l vs)(hv:gI l=true):bE D ρ' S w l vs:=
 ⟨h.1,fun i v x hi hx=>(h.2 i v x hi hx).closed hD (xC hv hi)⟩
end
def iM:Value->Option Nat
 |.pointer (some a)=>some a.block
 |.slice (some a) _ _=>some a.block
 |_=>none
def cQ(vs:Array Value)(k n:Nat):List Value:=(vs.toList.drop k).take n
def QF(D:bP K)(cs:List (AV K))(T:TypeId):Prop:=kC cs=true->D.rf=some T
def kA(D:bP K)(c:K.U)(T:TypeId)(o:Nat):Prop:=∀t,D.pO c=some t->T=t/\o=0
abbrev um(D:bP K)(c:K.U)(T:TypeId)(o:Nat)(fr:Nat×Nat):Prop:=kA D c T o/\fr.1<=fr.2
inductive dW (D:bP K) (w:World):(c:K.U)->List (K.El c)->Value->Nat->Prop
 |here {c:K.U} {l:List (K.El c)} {b o n cap:Nat}:dW D w c l (.slice (some ⟨b,o,none⟩) n cap) b
 |kid {c:K.U} {l:List (K.El c)} {b o n cap i j k:Nat} {x:K.El c} {c':K.U} {l':List (K.El c')} {y:Value} (hx:l[i]?=some x) (hj:(D.cells c x)[j]?=some (.ah c' l'))
   (hy:w.cell? ⟨b,o+i*K.sz c+j,none⟩=some y) (hk:dW D w c' l' y k):dW D w c l (.slice (some ⟨b,o,none⟩) n cap) k
inductive Tree (D:bP K) (w:World):(c:K.U)->List (K.El c)->Value->Prop
 |nil {c:K.U}:Tree D w c [] (.slice none 0 0)
 |mk {c:K.U} {l:List (K.El c)} {b o cap:Nat} {vs:Array Value} {T:TypeId} {fr:Nat×Nat} (hb:w.heap[b]?=some (.cells vs T fr)) (hcap:l.length<=cap/\um D c T o fr) (hsz:o+cap*K.sz c<=vs.size)
   (hfr:∀k,o<=k->k<o+cap*K.sz c->¬(fr.1<=k/\k<fr.2))
   (hlen:∀i x,l[i]?=some x->(D.cells c x).length=(cQ vs (o+i*K.sz c) (K.sz c)).length)
   (jz:∀i x,l[i]?=some x->∀(j:Nat) v y,(D.cells c x)[j]?=some v->(cQ vs (o+i*K.sz c) (K.sz c))[j]?=some y->v.pV=false->iC v=false/\Rep D [] (fun _=>False) w v y)
   (pW:∀i x,l[i]?=some x->∀(j:Nat) c' l' y,(D.cells c x)[j]?=some (.ah c' l')->(cQ vs (o+i*K.sz c) (K.sz c))[j]?=some y->Tree D w c' l' y)
   (hself:∀i x,l[i]?=some x->∀(j:Nat) c' l' y,(D.cells c x)[j]?=some (.ah c' l')->(cQ vs (o+i*K.sz c) (K.sz c))[j]?=some y->¬dW D w c' l' y b)
   (hdis:∀i x,l[i]?=some x->∀(j:Nat) c' l' y,(D.cells c x)[j]?=some (.ah c' l')->(cQ vs (o+i*K.sz c) (K.sz c))[j]?=some y->
     ∀i2 x2,l[i2]?=some x2->∀(j2:Nat) c2 l2 y2,(D.cells c x2)[j2]?=some (.ah c2 l2)->(cQ vs (o+i2*K.sz c) (K.sz c))[j2]?=some y2->∀k,dW D w c' l' y k->dW D w c2 l2 y2 k->i=i2/\j=j2):
   Tree D w c l (.slice (some ⟨b,o,none⟩) l.length cap)
def FH(i off n i' j':Nat):Prop:=i'=i/\off<=j'/\j'<off+n
def l4(D:bP K)(w:World)(c:K.U)(l:List (K.El c))(i off n:Nat)(r:Value)(k:Nat):Prop:=
 ∃b o m cap,r=.slice (some ⟨b,o,none⟩) m cap/\(k=b\/∃(i' j':Nat)(x:K.El c)(c':K.U)(l':List (K.El c'))(y:Value),¬FH i off n i' j'/\l[i']?=some x/\(D.cells c x)[j']?=some (.ah c' l')/\w.cell? ⟨b,o+i'*K.sz c+j',none⟩=some y/\dW D w c' l' y k)
def pX(D:bP K)(ρ:List Value)(S:Nat->Prop)(w:World)(c:K.U)(l:List (K.El c))(i off:Nat)(cs:List (AV K))(r:Value):Prop:=
 ∃(b o cap:Nat)(vs:Array Value)(T:TypeId)(fr:Nat×Nat),r=.slice (some ⟨b,o,none⟩) l.length cap/\w.heap[b]?=some (.cells vs T fr)/\(l.length<=cap/\um D c T o fr)/\o+cap*K.sz c<=vs.size/\
  (∀k,o<=k->k<o+cap*K.sz c->¬(fr.1<=k/\k<fr.2))/\i<l.length/\off+cs.length<=K.sz c/\
  (∀(i':Nat) x,l[i']?=some x->∀(j':Nat) v u,¬FH i off cs.length i' j'->(D.cells c x)[j']?=some v->w.cell? ⟨b,o+i'*K.sz c+j',none⟩=some u->
    (v.pV=false->iC v=false/\Rep D [] (fun _=>False) w v u)/\∀(c':K.U)(l':List (K.El c')),v=.ah c' l'->Tree D w c' l' u/\¬dW D w c' l' u b)/\
  (∀(i1 j1 i2 j2:Nat) x1 x2 (c1:K.U) (l1:List (K.El c1)) (c2:K.U) (l2:List (K.El c2)) u1 u2 k,¬FH i off cs.length i1 j1->¬FH i off cs.length i2 j2->l[i1]?=some x1->l[i2]?=some x2->(D.cells c x1)[j1]?=some (.ah c1 l1)->(D.cells c x2)[j2]?=some (.ah c2 l2)->
    w.cell? ⟨b,o+i1*K.sz c+j1,none⟩=some u1->w.cell? ⟨b,o+i2*K.sz c+j2,none⟩=some u2->dW D w c1 l1 u1 k->dW D w c2 l2 u2 k->i1=i2/\j1=j2)/\
  ∀(j:Nat) v,cs[j]?=some v->∃u,w.cell? ⟨b,o+i*K.sz c+off+j,none⟩=some u/\Rep D ρ S w v u
def cu(D:bP K)(w:World):Ob K->Value->Nat->Prop
 |.tree c l,r,b=>dW D w c l r b
 |.opn c l i off cs,r,b=>l4 D w c l i off cs.length r b
 |_,r,b=>iM r=some b
def Ob.live:Ob K->Bool
 |.dead|.gp ..=>false
 |_=>true
def f8(D:bP K)(ρ:List Value)(S:Nat->Prop)(w:World):Ob K->Value->Prop
 |.dead,_=>True
 |.gp c l,r=>Rep D ρ S w (.ah c l) r
 |.box cs,r=>∃b vs T,r=.pointer (some ⟨b,0,none⟩)/\w.heap[b]?=some (.cells vs T (0,0))/\bE D ρ S w cs vs.toList/\QF D cs T
 |.arr c l,r=>(r=.slice none 0 0/\l=[])\/∃b o cap vs T fr,r=.slice (some ⟨b,o,none⟩) l.length cap/\w.heap[b]?=some (.cells vs T fr)/\(l.length<=cap/\um D c T o fr)/\o+cap*K.sz c<=vs.size/\
     (∀k,o<=k->k<o+cap*K.sz c->¬(fr.1<=k/\k<fr.2))/\∀i x,l[i]?=some x->bE D ρ S w (D.cells c x) (cQ vs (o+i*K.sz c) (K.sz c))
 |.tree c l,r=>Tree D w c l r
 |.opn c l i off cs,r=>pX D ρ S w c l i off cs r
def Own(D:bP K)(w:World)(ρ:List Value)(H:List (Ob K))(b:Nat):Prop:=∃(h:Nat)(o:Ob K)(r:Value),H[h]?=some o/\o.live=true/\ρ[h]?=some r/\cu D w o r b
structure aY (D:bP K) (ρ:List Value) (S:Nat->Prop) (w:World) (H:List (Ob K)):Prop where
 len:ρ.length=H.length
 ob:∀(h:Nat) o r,H[h]?=some o->ρ[h]?=some r->f8 D ρ S w o r
 eX:∀(h h':Nat) o o' r r' b,H[h]?=some o->o.live=true->ρ[h]?=some r->cu D w o r b->H[h']?=some o'->o'.live=true->ρ[h']?=some r'->cu D w o' r' b->h=h'
 lt:∀b,Own D w ρ H b->b<w.heap.size/\¬S b
 slt:∀b,S b->b<w.heap.size
 base:D.base.inv S w
structure Step (D:bP K) (n0:Nat) (ρ:List Value) (S:Nat->Prop) (H:List (Ob K)) (w:World) (ρ':List Value) (S':Nat->Prop) (H':List (Ob K)) (w':World):Prop where
 os:w'.os=w.os
 tape:w'.tape=w.tape
 output:w'.output=w.output
 size:w.heap.size<=w'.heap.size
 old:∀b,b<w.heap.size->¬Own D w ρ H b->w'.heap[b]?=w.heap[b]?
 own:∀b,Own D w' ρ' H' b->Own D w ρ H b\/w.heap.size<=b
 s1:∀b,S b->S' b
 s2:∀b,S' b->S b\/Own D w ρ H b\/w.heap.size<=b
 pre:∀h,h<n0->ρ'[h]?=ρ[h]?
section
variable {D :bP K}{n0:Nat}{ρ ρ' akm:List Value}{S S' S'':Nat->Prop}{w w' w'':World}{H H' pY:List (Ob K)}
theorem Step.refl:Step D n0 ρ S H w ρ S H w:=⟨rfl,rfl,rfl,bY _,fun _ _ _=>rfl,fun _ h=>.inl h,fun _ h=>h,fun _ h=>.inl h,fun _ _=>rfl⟩
theorem Step.trans(a:Step D n0 ρ S H w ρ' S' H' w')(b:Step D n0 ρ' S' H' w' akm S'' pY w''):Step D n0 ρ S H w akm S'' pY w'':={
 os:=b.os.trans a.os
 tape:=b.tape.trans a.tape
 output:=b.output.trans a.output
 size:=cD a.size b.size
 old:=fun k hk ho=>by
  rw[b.old k (ju hk a.size) (fun h=>by rcases a.own k h with h|h;exact ho h;omega),a.old k hk ho]
 own:=fun k h=>by
  rcases b.own k h with h|h
  ·exact a.own k h
  ·exact .inr (cD a.size h)
 s1:=fun k h=>b.s1 k (a.s1 k h)
 s2:=fun k h=>by
  rcases b.s2 k h with h|h|h
  ·exact a.s2 k h
  ·rcases a.own k h with h|h
   ·exact .inr (.inl h)
   ·exact .inr (.inr h)
  ·exact .inr (.inr (cD a.size h))
 pre:=fun h hh=>(b.pre h hh).trans (a.pre h hh)}
theorem Step.weaken{m:Nat}(a:Step D n0 ρ S H w ρ' S' H' w')(h:m<=n0):Step D m ρ S H w ρ' S' H' w':=
 ⟨a.os,a.tape,a.output,a.size,a.old,a.own,a.s1,a.s2,fun k hk=>a.pre k (ju hk h)⟩
theorem Step.FI(hs:aY D ρ S w H)(a:Step D n0 ρ S H w ρ' S' H' w'):∀b,S b->w'.heap[b]?=w.heap[b]?:=
 fun b hb=>a.old b (hs.slt b hb) fun h=>(hs.lt b h).2 hb
theorem Step.rep(hs:aY D ρ S w H)(a:Step D n0 ρ S H w ρ' S' H' w')(hρ:∀(h:Nat) r,ρ[h]?=some r->ρ'[h]?=some r){v:AV K}{x:Value}(h:Rep D ρ S w v x):Rep D ρ' S' w' v x:=
 h.mono a.s1 (a.FI hs) hρ
end
end Go.V
set_option linter.unusedVariables false
namespace Go.V
open Go
variable {K :db}{D:bP K}{ρ ρ':List Value}{S S':Nat->Prop}{w w':World}{H H':List (Ob K)}
theorem seg_cell{b p n j:Nat}{vs:Array Value}{T:TypeId}{fr:Nat×Nat}{y:Value}(hb:w.heap[b]?=some (.cells vs T fr))(hy:(cQ vs p n)[j]?=some y):w.cell? ⟨b,p+j,none⟩=some y:=by
 simp only[cQ,eI,iK]at hy;split at hy
 ·simp[World.cell?,hb];simpa using hy
 ·cases hy
theorem ako{b p n:Nat}{vs:Array Value}{T:TypeId}{fr:Nat×Nat}(hb:w.heap[b]?=some (.cells vs T fr)):il w b p (cQ vs p n):=fun j y hy=>seg_cell hb hy
theorem dW.old{c:K.U}{l:List (K.El c)}{r:Value}{k:Nat}(h:dW D w' c l r k):(∀k,dW D w c l r k->w'.heap[k]?=w.heap[k]?)->dW D w c l r k:=by
 induction h with
 |here=>exact fun _=>.here
 |kid hx hj hy hk ih=>
  intro hw;have hy':=hy;rw[cell?_of_heap (w:=w) (hw _ .here)]at hy';exact .kid hx hj hy' (ih fun k hk=>hw k (.kid hx hj hy' hk))
theorem dW.new{c:K.U}{l:List (K.El c)}{r:Value}{k:Nat}(h:dW D w c l r k):(∀k,dW D w c l r k->w'.heap[k]?=w.heap[k]?)->dW D w' c l r k:=by
 induction h with
 |here=>exact fun _=>.here
 |kid hx hj hy hk ih=>
  intro hw;exact .kid hx hj (by rw[cell?_of_heap (w:=w) (hw _ .here)];exact hy) (ih fun k hk=>hw k (.kid hx hj hy hk))
theorem QG{v:AV K}(h:v.pV=true):∃c l,v=.ah c l:=by
 cases v<;>first|exact⟨_,_,rfl⟩|cases h
theorem Tree.mono{c:K.U}{l:List (K.El c)}{r:Value}(h:Tree D w c l r):(∀k,dW D w c l r k->w'.heap[k]?=w.heap[k]?)->Tree D w' c l r:=by
 induction h with
 |nil=>exact fun _=>.nil
 | @mk c l b o cap vs T fr hb hcap hsz hfr hlen jz pW hself hdis ih=>
   intro hw;have hk:∀(i:Nat)(x:K.El c),l[i]?=some x->∀(j:Nat)(c':K.U)(l':List (K.El c'))(y:Value),(D.cells c x)[j]?=some (.ah c' l')->(cQ vs (o+i*K.sz c) (K.sz c))[j]?=some y->∀k,dW D w c' l' y k->w'.heap[k]?=w.heap[k]?:=fun i x hx j c' l' y hj hy k hk=>hw k (.kid hx hj (seg_cell hb hy) hk)
   refine .mk (by rw[hw _ .here];exact hb) hcap hsz hfr hlen (fun i x hx j v y hv hy hd=>⟨(jz i x hx j v y hv hy hd).1,(jz i x hx j v y hv hy hd).2.mono (fun _ h=>h) (fun _ h=>h.elim) (fun _ _ h=>h)⟩)
    (fun i x hx j c' l' y hj hy=>ih i x hx j c' l' y hj hy (hk i x hx j c' l' y hj hy)) (fun i x hx j c' l' y hj hy hf=>hself i x hx j c' l' y hj hy (hf.old (hk i x hx j c' l' y hj hy)))
    (fun i x hx j c' l' y hj hy i2 x2 hx2 j2 c2 l2 y2 hj2 hy2 k h1 h2=>hdis i x hx j c' l' y hj hy i2 x2 hx2 j2 c2 l2 y2 hj2 hy2 k (h1.old (hk i x hx j c' l' y hj hy)) (h2.old (hk i2 x2 hx2 j2 c2 l2 y2 hj2 hy2)))
theorem Tree.lt{c:K.U}{l:List (K.El c)}{r:Value}{k:Nat}(h:Tree D w c l r):dW D w c l r k->k<w.heap.size:=by
 induction h with
 |nil=>intro hf;cases hf
 |mk hb hcap hsz hfr hlen jz pW hself hdis ih=>
  intro hf;cases hf with
  |here=>exact(jd.1 hb).1
  |kid hx hj hy hk=>
   have hj':=(cz.1 hj).1;rw[hlen _ _ hx]at hj';have hs:=ct hj';have hc:=seg_cell hb hs;rw[hc]at hy;cases hy;exact ih _ _ hx _ _ _ _ hj hs hk
theorem Tree.rep{c:K.U}{l:List (K.El c)}{r:Value}(h:Tree D w c l r):(∀k,dW D w c l r k->S k)->Rep D ρ S w (.ah c l) r:=by
 induction h with
 |nil=>exact fun _=>.eM _ _
 |mk hb hcap hsz hfr hlen jz pW hself hdis ih=>
  intro hS;refine .ah (fun i=>cQ _ (_+i*K.sz _) (K.sz _)) (hS _ .here) hcap.1 (fun i x hx=>(hlen i x hx).symm) (fun i _=>ako hb) (fun i x hx j v y hv hy=>?_);cases hd:v.pV
  ·exact(jz i x hx j v y hv hy hd).2.mono (fun _ h=>h.elim) (fun _ h=>h.elim) (fun _ _ h=>by simp at h)
  ·obtain⟨c',l',rfl⟩:=QG hd;exact ih i x hx j c' l' y hv hy fun k hk=>hS k (.kid hx hv (seg_cell hb hy) hk)
theorem akp{c:K.U}{l:List (K.El c)}{r:Value}(h:Tree D w c l r):∃a cp,r=.slice a l.length cp:=by
 cases h with
 |nil=>exact⟨_,_,rfl⟩
 |mk=>exact⟨_,_,rfl⟩
theorem l4.old{c:K.U}{l:List (K.El c)}{i off n:Nat}{r:Value}{k:Nat}(h:l4 D w' c l i off n r k)(hw:∀k,l4 D w c l i off n r k->w'.heap[k]?=w.heap[k]?):l4 D w c l i off n r k:=by
 obtain⟨b,o,m,cap,rfl,h|⟨i',j',x,c',l',y,h1,h2,h3,h4,h5⟩⟩:=h
 ·exact⟨b,o,m,cap,rfl,.inl h⟩
 ·rw[cell?_of_heap (w:=w) (hw b ⟨b,o,m,cap,rfl,.inl rfl⟩)]at h4;exact⟨b,o,m,cap,rfl,.inr ⟨i',j',x,c',l',y,h1,h2,h3,h4,h5.old fun k hk=>hw k ⟨b,o,m,cap,rfl,.inr ⟨i',j',x,c',l',y,h1,h2,h3,h4,hk⟩⟩⟩⟩
theorem l4.new{c:K.U}{l:List (K.El c)}{i off n:Nat}{r:Value}{k:Nat}(h:l4 D w c l i off n r k)(hw:∀k,l4 D w c l i off n r k->w'.heap[k]?=w.heap[k]?):l4 D w' c l i off n r k:=by
 obtain⟨b,o,m,cap,rfl,h|⟨i',j',x,c',l',y,h1,h2,h3,h4,h5⟩⟩:=h
 ·exact⟨b,o,m,cap,rfl,.inl h⟩
 ·exact⟨b,o,m,cap,rfl,.inr ⟨i',j',x,c',l',y,h1,h2,h3,by rw[cell?_of_heap (w:=w) (hw b ⟨b,o,m,cap,rfl,.inl rfl⟩)];exact h4,h5.new fun k hk=>hw k ⟨b,o,m,cap,rfl,.inr ⟨i',j',x,c',l',y,h1,h2,h3,h4,hk⟩⟩⟩⟩
theorem pX.keep{c:K.U}{l:List (K.El c)}{i off:Nat}{cs:List (AV K)}{r:Value}(hR:∀(j:Nat) v u,cs[j]?=some v->Rep D ρ S w v u->Rep D ρ' S' w' v u)
 (hb:∀k,l4 D w c l i off cs.length r k->w'.heap[k]?=w.heap[k]?) (h:pX D ρ S w c l i off cs r):pX D ρ' S' w' c l i off cs r:=by
 obtain⟨b,o,cap,vs,T,fr,rfl,h1,h2,h3,h4,h5,h6,h7,h8,h9⟩:=h;have hbb:w'.heap[b]?=w.heap[b]?:=hb b ⟨b,o,_,cap,rfl,.inl rfl⟩;have hcell:∀k,w'.cell? ⟨b,k,none⟩=w.cell? ⟨b,k,none⟩:=fun k=>cell?_of_heap hbb
 have hk:∀(i' j':Nat)(x:K.El c)(c':K.U)(l':List (K.El c'))(y:Value),¬FH i off cs.length i' j'->l[i']?=some x->(D.cells c x)[j']?=some (.ah c' l')->w.cell? ⟨b,o+i'*K.sz c+j',none⟩=some y->∀k,dW D w c' l' y k->w'.heap[k]?=w.heap[k]?:=
  fun i' j' x c' l' y g1 g2 g3 g4 k hk=>hb k ⟨b,o,_,cap,rfl,.inr ⟨i',j',x,c',l',y,g1,g2,g3,g4,hk⟩⟩
 refine⟨b,o,cap,vs,T,fr,rfl,by rw[hbb];exact h1,h2,h3,h4,h5,h6,fun i' x hx j' v u hh hv hu=>?_,fun i1 j1 i2 j2 x1 x2 c1 l1 c2 l2 u1 u2 k a1 a2 a3 a4 a5 a6 a7 a8 a9 a10=>?_,fun j v hv=>?_⟩
 ·rw[hcell]at hu;obtain⟨g1,g2⟩:=h7 i' x hx j' v u hh hv hu;refine⟨fun e=>⟨(g1 e).1,(g1 e).2.mono (fun _ h=>h) (fun _ h=>h.elim) (fun _ _ h=>h)⟩,fun c' l' e=>?_⟩;obtain⟨k1,k2⟩:=g2 c' l' e;subst e;have hk':=hk i' j' x c' l' u hh hx hv hu;exact⟨k1.mono hk',fun hf=>k2 (hf.old hk')⟩
 ·rw[hcell]at a7 a8;exact h8 i1 j1 i2 j2 x1 x2 c1 l1 c2 l2 u1 u2 k a1 a2 a3 a4 a5 a6 a7 a8 (a9.old (hk _ _ _ _ _ _ a1 a3 a5 a7)) (a10.old (hk _ _ _ _ _ _ a2 a4 a6 a8))
 ·obtain⟨u,g1,g2⟩:=h9 j v hv;exact⟨u,by rw[hcell];exact g1,hR j v u hv g2⟩
theorem pX.mono{c:K.U}{l:List (K.El c)}{i off:Nat}{cs:List (AV K)}{r:Value}(hS:∀b,S b->S' b)(hw:∀b,S b->w'.heap[b]?=w.heap[b]?)(hρ:∀(h:Nat) r,ρ[h]?=some r->ρ'[h]?=some r)
 (hb:∀k,l4 D w c l i off cs.length r k->w'.heap[k]?=w.heap[k]?) (h:pX D ρ S w c l i off cs r):pX D ρ' S' w' c l i off cs r:=
 h.keep (fun _ _ _ _ hr=>hr.mono hS hw hρ) hb
theorem cu.old{o:Ob K}{r:Value}{k:Nat}(h:cu D w' o r k)(hw:∀k,cu D w o r k->w'.heap[k]?=w.heap[k]?):cu D w o r k:=by
 cases o<;>first|exact h|exact dW.old h hw|exact l4.old h hw
theorem cu.new{o:Ob K}{r:Value}{k:Nat}(h:cu D w o r k)(hw:∀k,cu D w o r k->w'.heap[k]?=w.heap[k]?):cu D w' o r k:=by
 cases o<;>first|exact h|exact dW.new h hw|exact l4.new h hw
end Go.V
namespace Go.V
open Go
variable {K :db}{D:bP K}{n0:Nat}{ρ ρ':List Value}{S S':Nat->Prop}{w w':World}{H H':List (Ob K)}
theorem f8.mono(hS:∀b,S b->S' b)(hw:∀b,S b->w'.heap[b]?=w.heap[b]?)(hρ:∀(h:Nat) r,ρ[h]?=some r->ρ'[h]?=some r){o:Ob K}{r:Value}
 (hb:∀b,o.live=true->cu D w o r b->w'.heap[b]?=w.heap[b]?) (h:f8 D ρ S w o r):f8 D ρ' S' w' o r:=by
 cases o with
 |dead=>trivial
 |gp c l=>exact Rep.mono hS hw hρ h
 |box cs=>
  obtain⟨b,vs,T,rfl,h1,h2,h3⟩:=h;exact⟨b,vs,T,rfl,by rw[hb b rfl rfl];exact h1,h2.mono hS hw hρ,h3⟩
 |arr c l=>
  rcases h with h|⟨b,o,cap,vs,T,fr,rfl,h1,h2,h3,h4,h5⟩
  ·exact .inl h
  ·exact .inr ⟨b,o,cap,vs,T,fr,rfl,by rw[hb b rfl rfl];exact h1,h2,h3,h4,fun i x hx=>(h5 i x hx).mono hS hw hρ⟩
 |tree c l=>exact Tree.mono h fun k hk=>hb k rfl hk
 |opn c l i off cs=>exact pX.mono hS hw hρ (fun k hk=>hb k rfl hk) h
theorem Own.aCG{h:Nat}{o:Ob K}{r:Value}{b:Nat}(h1:H[h]?=some o)(h2:o.live=true)(h3:ρ[h]?=some r)(h4:cu D w o r b):Own D w ρ H b:=⟨h,o,r,h1,h2,h3,h4⟩
theorem Own.old{b:Nat}(h:Own D w' ρ H b)(ho:∀b,Own D w ρ H b->w'.heap[b]?=w.heap[b]?):Own D w ρ H b:=by
 obtain⟨k,o,r,h1,h2,h3,h4⟩:=h;exact⟨k,o,r,h1,h2,h3,h4.old fun q hq=>ho q ⟨k,o,r,h1,h2,h3,hq⟩⟩
theorem Own.new{b:Nat}(h:Own D w ρ H b)(ho:∀b,Own D w ρ H b->w'.heap[b]?=w.heap[b]?):Own D w' ρ H b:=by
 obtain⟨k,o,r,h1,h2,h3,h4⟩:=h;exact⟨k,o,r,h1,h2,h3,h4.new fun q hq=>ho q ⟨k,o,r,h1,h2,h3,hq⟩⟩
theorem ff{α:Type}{l:List α}{h k:Nat}{o x:α}(hx:(l.set h o)[k]?=some x):(k=h/\x=o/\h<l.length)\/(k≠h/\l[k]?=some x):=by
 rw[jy]at hx;by_cases hk:h=k
 ·subst hk;simp only[eY]at hx;split at hx
  ·rename_i hl;simp at hx;exact .inl ⟨rfl,hx.symm,hl⟩
  ·simp at hx
 ·rw[av hk]at hx;exact .inr ⟨nk hk,hx⟩
theorem xE{h b:Nat}(hb:Own D w ρ (H.set h .dead) b):Own D w ρ H b:=by
 obtain⟨k,o,r,h1,h2,h3,h4⟩:=hb;rcases ff h1 with⟨-,rfl,-⟩|⟨-,h1⟩
 ·cases h2
 ·exact⟨k,o,r,h1,h2,h3,h4⟩
theorem aY.kill(hs:aY D ρ S w H)(h:Nat):aY D ρ S w (H.set h .dead):={
 len:=by simp[hs.len]
 ob:=fun k o r h1 h2=>by
  rcases ff h1 with⟨-,rfl,-⟩|⟨-,h1⟩
  ·trivial
  ·exact hs.ob k o r h1 h2
 eX:=fun k k' o o' r r' b h1 h2 h3 h4 g1 g2 g3 g4=>by
  rcases ff h1 with⟨-,rfl,-⟩|⟨-,h1⟩
  ·cases h2
  ·rcases ff g1 with⟨-,rfl,-⟩|⟨-,g1⟩
   ·cases g2
   ·exact hs.eX k k' o o' r r' b h1 h2 h3 h4 g1 g2 g3 g4
 lt:=fun b hb=>hs.lt b (xE hb)
 slt:=hs.slt
 base:=hs.base}
theorem Ls(hs:aY D ρ S w H){h:Nat}{o:Ob K}{r:Value}{b:Nat}(h1:H[h]?=some o)(h2:o.live=true)(h3:ρ[h]?=some r)(h4:cu D w o r b):¬Own D w ρ (H.set h .dead) b:=by
 rintro ⟨k,o',r',g1,g2,g3,g4⟩
 rcases ff g1 with⟨-,rfl,-⟩|⟨hk,g1⟩
 ·cases g2
 ·exact hk (hs.eX k h o' o r' r b g1 g2 g3 g4 h1 h2 h3 h4)
theorem aY.world(hs:aY D ρ S w H)(hsz:w.heap.size<=w'.heap.size)(ho:∀b,Own D w ρ H b->w'.heap[b]?=w.heap[b]?)(hS:∀b,S b->w'.heap[b]?=w.heap[b]?):aY D ρ S w' H:={
 len:=hs.len
 ob:=fun k o r h1 h2=>(hs.ob k o r h1 h2).mono (fun _ h=>h) hS (fun _ _ h=>h) (fun b hl hb=>ho b ⟨k,o,r,h1,hl,h2,hb⟩)
 eX:=fun k k' o o' r r' b h1 h2 h3 h4 g1 g2 g3 g4=>hs.eX k k' o o' r r' b h1 h2 h3 (h4.old fun q hq=>ho q ⟨k,o,r,h1,h2,h3,hq⟩) g1 g2 g3 (g4.old fun q hq=>ho q ⟨k',o',r',g1,g2,g3,hq⟩)
 lt:=fun b hb=>⟨ju (hs.lt b (hb.old ho)).1 hsz,(hs.lt b (hb.old ho)).2⟩
 slt:=fun b hb=>ju (hs.slt b hb) hsz
 base:=D.base.mono (fun _ h=>h) hS hs.base}
theorem ru{α:Type}{l:List α}{x y:α}{k:Nat}(h:(l++[x])[k]?=some y):l[k]?=some y\/(k=l.length/\y=x):=by
 by_cases hk:k<l.length
 ·rw[dD hk]at h;exact .inl h
 ·rw[d5 (by omega)]at h;have:k-l.length=0:=by
   rcases lg (k-l.length)with h0|h0
   ·exact h0
   ·rw[m9 (by simp;omega)]at h;cases h
  rw[this]at h;simp at h;exact .inr ⟨by omega,h.symm⟩
theorem uo{l m:List Value}{k:Nat}{y:Value}(h:l[k]?=some y):(l++m)[k]?=some y:=by
 rw[dD (cz.1 h).1];exact h
theorem FK{r:Value}{o:Ob K}{b:Nat}(hl:ρ.length=H.length)(h:Own D w (ρ++[r]) (H++[o]) b):Own D w ρ H b\/(o.live=true/\cu D w o r b):=by
 obtain⟨k,o',r',h1,h2,h3,h4⟩:=h;rcases ru h1 with h1|⟨rfl,rfl⟩
 ·rcases ru h3 with h3|⟨rfl,rfl⟩
  ·exact .inl ⟨k,o',r',h1,h2,h3,h4⟩
  ·have:=(cz.1 h1).1;omega
 ·rcases ru h3 with h3|⟨_,rfl⟩
  ·have:=(cz.1 h3).1;omega
  ·exact .inr ⟨h2,h4⟩
theorem aY.push(hs:aY D ρ S w H){o:Ob K}{r:Value}(ho:f8 D (ρ++[r]) S w o r)(hb:∀b,o.live=true->cu D w o r b->b<w.heap.size/\¬S b/\¬Own D w ρ H b):
 aY D (ρ++[r]) S w (H++[o]):={
 len:=by simp[hs.len]
 ob:=fun k o' r' h1 h2=>by
  rcases ru h1 with h1|⟨rfl,rfl⟩
  ·rcases ru h2 with h2|⟨rfl,rfl⟩
   ·exact(hs.ob k o' r' h1 h2).mono (fun _ h=>h) (fun _ _=>rfl) (fun _ _ h=>uo h) (fun _ _ _=>rfl)
   ·have:=(cz.1 h1).1;have:=hs.len;omega
  ·rcases ru h2 with h2|⟨_,rfl⟩
   ·have:=(cz.1 h2).1;have:=hs.len;omega
   ·exact ho
 eX:=fun k k' o1 o2 r1 r2 b h1 h2 h3 h4 g1 g2 g3 g4=>by
  have hl:=hs.len;have key:∀{k:Nat}{o1:Ob K}{r1:Value},(H++[o])[k]?=some o1->(ρ++[r])[k]?=some r1->(H[k]?=some o1/\ρ[k]?=some r1)\/(k=H.length/\o1=o/\r1=r):=fun{k o1 r1} a b=>by
   rcases ru a with a|⟨rfl,rfl⟩
   ·rcases ru b with b|⟨hk,_⟩
    ·exact .inl ⟨a,b⟩
    ·have:=(cz.1 a).1;omega
   ·rcases ru b with b|⟨_,rfl⟩
    ·have:=(cz.1 b).1;omega
    ·exact .inr ⟨rfl,rfl,rfl⟩
  rcases key h1 h3 with⟨a1,a3⟩|⟨a0,a1,a2⟩
  ·rcases key g1 g3 with⟨c1,c3⟩|⟨c0,c1,c2⟩
   ·exact hs.eX k k' o1 o2 r1 r2 b a1 h2 a3 h4 c1 g2 c3 g4
   ·subst c1;subst c2;exact absurd ⟨k,o1,r1,a1,h2,a3,h4⟩ (hb b g2 g4).2.2
  ·rcases key g1 g3 with⟨c1,c3⟩|⟨c0,c1,c2⟩
   ·subst a1;subst a2;exact absurd ⟨k',o2,r2,c1,g2,c3,g4⟩ (hb b h2 h4).2.2
   ·omega
 lt:=fun b h=>by
  rcases FK hs.len h with h|⟨hl,h⟩
  ·exact hs.lt b h
  ·exact⟨(hb b hl h).1,(hb b hl h).2.1⟩
 slt:=hs.slt
 base:=hs.base}
theorem aY.aCH(hs:aY D ρ S w H){h:Nat}{o:Ob K}{r:Value}(h0:H[h]?=some .dead)(hr:ρ[h]?=some r)(ho:f8 D ρ S w o r)(hb:∀b,cu D w o r b->b<w.heap.size/\¬S b/\¬Own D w ρ H b):
 aY D ρ S w (H.set h o):={
 len:=by simp[hs.len]
 ob:=fun k o' r' h1 h2=>by
  rcases ff h1 with⟨rfl,rfl,-⟩|⟨hk,h1⟩
  ·rw[hr]at h2;simp at h2;subst h2;exact ho
  ·exact hs.ob k o' r' h1 h2
 eX:=fun k k' o1 o2 r1 r2 b h1 h2 h3 h4 g1 g2 g3 g4=>by
  rcases ff h1 with⟨rfl,rfl,-⟩|⟨hk,h1⟩
  ·rcases ff g1 with⟨rfl,rfl,-⟩|⟨hk',g1⟩
   ·rfl
   ·rw[hr]at h3;simp at h3;subst h3;exact absurd ⟨k',o2,r2,g1,g2,g3,g4⟩ (hb b h4).2.2
  ·rcases ff g1 with⟨rfl,rfl,-⟩|⟨hk',g1⟩
   ·rw[hr]at g3;simp at g3;subst g3;exact absurd (Own.aCG (H:=H) ‹_› h2 h3 h4) (hb b g4).2.2
   ·exact hs.eX k k' o1 o2 r1 r2 b h1 h2 h3 h4 g1 g2 g3 g4
 lt:=fun b ⟨k,o',r',h1,h2,h3,h4⟩=>by
  rcases ff h1 with⟨rfl,rfl,-⟩|⟨hk,h1⟩
  ·rw[hr]at h3;simp at h3;subst h3;exact⟨(hb b h4).1,(hb b h4).2.1⟩
  ·exact hs.lt b ⟨k,o',r',h1,h2,h3,h4⟩
 slt:=hs.slt
 base:=hs.base}
theorem aY.turn(hs:aY D ρ S w H){h b:Nat}{o o':Ob K}{r:Value}(h1:H[h]?=some o)(h2:o.live=true)(h3:ρ[h]?=some r)(h4:cu D w o r b)
 (hsz:w'.heap.size=w.heap.size) (hw:∀k,k≠b->w'.heap[k]?=w.heap[k]?) (hf:∀k,cu D w' o' r k->cu D w o r k) (ho:f8 D ρ S w' o' r):aY D ρ S w' (H.set h o'):=by
 have hk:=hs.kill h;have hno:∀q,cu D w o r q->¬Own D w ρ (H.set h .dead) q:=fun q hq=>Ls hs h1 h2 h3 hq
 have hlt:∀q,cu D w o r q->q<w.heap.size/\¬S q:=fun q hq=>hs.lt q ⟨h,o,r,h1,h2,h3,hq⟩
 have hkeep:∀k,Own D w ρ (H.set h .dead) k->w'.heap[k]?=w.heap[k]?:=fun k hk'=>hw k (fun e=>by subst e;exact hno _ h4 hk')
 have hw1:aY D ρ S w' (H.set h .dead):=hk.world (by omega) hkeep (fun k hk'=>hw k (fun e=>by subst e;exact(hlt _ h4).2 hk'));have:=hw1.aCH (h:=h) (o:=o') (r:=r) (by rw[jy];simp[(cz.1 h1).1]) h3 ho (fun k hk'=>by
  have hk2:=hf k hk';exact⟨by have:=(hlt k hk2).1;omega,(hlt k hk2).2,fun hO=>hno k hk2 (hO.old hkeep)⟩)
 simpa using this
theorem aCI(hs:aY D ρ S w H){h b:Nat}{o o':Ob K}{r:Value}(h1:H[h]?=some o)(h2:o.live=true)(h3:ρ[h]?=some r)(h4:cu D w o r b)
 (hw:∀k,k≠b->w'.heap[k]?=w.heap[k]?) (hf:∀k,cu D w' o' r k->cu D w o r k) {q:Nat} (hb:Own D w' ρ (H.set h o') q):Own D w ρ H q:=by
 obtain⟨k,o1,r1,g1,g2,g3,g4⟩:=hb;rcases ff g1 with⟨rfl,rfl,-⟩|⟨hk,g1⟩
 ·rw[h3]at g3;simp at g3;subst g3;exact⟨k,o,r,h1,h2,h3,hf q g4⟩
 ·exact⟨k,o1,r1,g1,g2,g3,g4.old fun q hq=>hw q fun e=>by subst e;exact hk (hs.eX k h o1 o r1 r q g1 g2 g3 hq h1 h2 h3 h4)⟩
theorem Step.turn(hs:aY D ρ S w H){h b:Nat}{o o':Ob K}{r:Value}(h1:H[h]?=some o)(h2:o.live=true)(h3:ρ[h]?=some r)(h4:cu D w o r b)
 (hsz:w'.heap.size=w.heap.size) (hw:∀k,k≠b->w'.heap[k]?=w.heap[k]?) (hf:∀k,cu D w' o' r k->cu D w o r k) (e1:w'.os=w.os) (e2:w'.tape=w.tape) (e3:w'.output=w.output):Step D n0 ρ S H w ρ S (H.set h o') w':=
 ⟨e1,e2,e3,by omega,fun k hk hno=>hw k (fun e=>by subst e;exact hno ⟨h,o,r,h1,h2,h3,h4⟩),fun k hk=>.inl (aCI hs h1 h2 h3 h4 hw hf hk),fun _ h=>h,fun _ h=>.inl h,fun _ _=>rfl⟩
theorem aY.new(hs:aY D ρ S w H){o:Ob K}{r:Value}(hsz:w.heap.size<=w'.heap.size)(hw:∀k,k<w.heap.size->w'.heap[k]?=w.heap[k]?)(ho:f8 D (ρ++[r]) S w' o r)
 (hb:∀b,cu D w' o r b->w.heap.size<=b/\b<w'.heap.size):aY D (ρ++[r]) S w' (H++[o]):=by
 have hk:∀b,Own D w ρ H b->w'.heap[b]?=w.heap[b]?:=fun b h=>hw b (hs.lt b h).1
 have h1:aY D ρ S w' H:=hs.world hsz hk (fun b h=>hw b (hs.slt b h));exact h1.push ho fun b _ h=>⟨(hb b h).2,fun hS=>by have:=hs.slt b hS;have:=(hb b h).1;omega,fun hO=>by have:=(hs.lt b (hO.old hk)).1;have:=(hb b h).1;omega⟩
theorem Step.new(hs:aY D ρ S w H){o:Ob K}{r:Value}(hsz:w.heap.size<=w'.heap.size)(hw:∀k,k<w.heap.size->w'.heap[k]?=w.heap[k]?)
 (hb:∀b,cu D w' o r b->w.heap.size<=b) (e1:w'.os=w.os) (e2:w'.tape=w.tape) (e3:w'.output=w.output):Step D H.length ρ S H w (ρ++[r]) S (H++[o]) w':=
 ⟨e1,e2,e3,hsz,fun k hk _=>hw k hk,fun k hk=>by
   rcases FK hs.len hk with h|⟨-,h⟩
   ·exact .inl (h.old fun b h=>hw b (hs.lt b h).1)
   ·exact .inr (hb k h),fun _ h=>h,fun _ h=>.inl h,fun k hk=>by rw[dD (by rw[hs.len];exact hk)]⟩
theorem An(hs:aY D ρ S w H){h:Nat}{c:K.U}{l:List (K.El c)}(ho:H[h]?=some (.arr c l)){X:Value}(hp:ρ[h]?=some X):(X=.slice none 0 0/\l=[])\/∃b o cap vs T fr,X=.slice (some ⟨b,o,none⟩) l.length cap/\w.heap[b]?=some (.cells vs T fr)/\(l.length<=cap/\um D c T o fr)/\o+cap*K.sz c<=vs.size/\
 (∀k,o<=k->k<o+cap*K.sz c->¬(fr.1<=k/\k<fr.2))/\∀i x,l[i]?=some x->bE D ρ S w (D.cells c x) (cQ vs (o+i*K.sz c) (K.sz c)):=hs.ob h _ _ ho hp
theorem akq(hs:aY D ρ S w H){h:Nat}{o:Ob K}{X:Value}{c:K.U}{l:List (K.El c)}(ho:H[h]?=some o)(hl:o.live=true)(hp:ρ[h]?=some X)
 (hr:Rep D ρ (fun b=>S b\/cu D w o X b) w (.ah c l) X):aY D ρ (fun b=>S b\/cu D w o X b) w (H.set h (.gp c l))/\Step D n0 ρ S H w ρ (fun b=>S b\/cu D w o X b) (H.set h (.gp c l)) w:=by
 have hlen:=hs.len;have hno:∀b,cu D w o X b->¬Own D w ρ (H.set h .dead) b:=fun b hb=>Ls hs ho hl hp hb
 have aCJ:∀b,Own D w ρ (H.set h (.gp c l)) b->Own D w ρ (H.set h .dead) b:=fun b ⟨k,o,r,g1,g2,g3,g4⟩=>by
  rcases ff g1 with⟨-,rfl,-⟩|⟨hne,g1⟩
  ·cases g2
  ·exact⟨k,o,r,by rw[jy,av (nk hne)];exact g1,g2,g3,g4⟩
 refine⟨⟨by simpa using hlen,fun k o' r h1 h2=>?_,fun k k' o o' r r' b h1 h2 h3 h4 g1 g2 g3 g4=>?_,fun b hb=>?_,fun b hb=>?_,D.base.mono (fun _ h=>.inl h) (fun _ _=>rfl) hs.base⟩,?_⟩
 ·rcases ff h1 with⟨rfl,rfl,-⟩|⟨-,h1⟩
  ·rw[hp]at h2;simp at h2;subst h2;exact hr
  ·exact(hs.ob k o' r h1 h2).mono (fun _ h=>.inl h) (fun _ _=>rfl) (fun _ _ h=>h) (fun _ _ _=>rfl)
 ·rcases ff h1 with⟨-,rfl,-⟩|⟨-,h1⟩
  ·cases h2
  ·rcases ff g1 with⟨-,rfl,-⟩|⟨-,g1⟩
   ·cases g2
   ·exact hs.eX k k' o o' r r' b h1 h2 h3 h4 g1 g2 g3 g4
 ·have h1:=aCJ b hb;have:=hs.lt b (xE h1);exact⟨this.1,fun hS=>hS.elim this.2 fun h2=>hno b h2 h1⟩
 ·rcases hb with hb|hb
  ·exact hs.slt b hb
  ·exact(hs.lt b ⟨h,_,_,ho,hl,hp,hb⟩).1
 ·refine⟨rfl,rfl,rfl,bY _,fun _ _ _=>rfl,fun b ⟨k,o,r,g1,g2,g3,g4⟩=>?_,fun _ h=>.inl h,fun b hb=>?_,fun _ _=>rfl⟩
  ·rcases ff g1 with⟨-,rfl,-⟩|⟨-,g1⟩
   ·cases g2
   ·exact .inl ⟨k,o,r,g1,g2,g3,g4⟩
  ·rcases hb with hb|hb
   ·exact .inl hb
   ·exact .inr (.inl ⟨h,_,_,ho,hl,hp,hb⟩)
theorem aCK(hs:aY D ρ S w H)(h:Nat):∃S',aY D ρ S' w (xj H h)/\Step D n0 ρ S H w ρ S' (xj H h) w/\(xj H h).length=H.length:=by
 have hlen:=hs.len;unfold xj;split
 ·rename_i c l ho;have hlt:h<H.length:=(cz.1 ho).1;have hp:ρ[h]?=some ρ[h]:=ct (by omega);generalize ρ[h]=X at hp;have hr:Rep D ρ (fun b=>S b\/cu D w (.arr c l) X b) w (.ah c l) X:=by
   rcases An hs ho hp with⟨e,rfl⟩|⟨b,o,cap,vs,T,fr,e,hblk,⟨hcap,eV⟩,hsz,hfr,hall⟩
   ·rw[e];exact .eM _ _
   ·rw[e];refine .ah (fun i=>cQ vs (o+i*K.sz c) (K.sz c)) (.inr rfl) hcap (fun i x hx=>(hall i x hx).1.symm) (fun i _=>ako hblk) (fun i x hx j v y hv hy=>?_);exact((hall i x hx).2 j v y hv hy).mono (fun _ h=>.inl h) (fun _ _=>rfl) (fun _ _ h=>h)
  obtain⟨h1,h2⟩:=akq (n0:=n0) hs ho rfl hp hr;exact⟨_,h1,h2,by simp⟩
 ·rename_i c l ho;have hlt:h<H.length:=(cz.1 ho).1;have hp:ρ[h]?=some ρ[h]:=ct (by omega);generalize ρ[h]=X at hp;have hT:Tree D w c l X:=hs.ob h _ _ ho hp;obtain⟨h1,h2⟩:=akq (n0:=n0) hs ho rfl hp (hT.rep fun k hk=>.inr hk);exact⟨_,h1,h2,by simp⟩
 ·exact⟨S,hs,Step.refl,rfl⟩
theorem Lt:∀(l:List Nat){S:Nat->Prop}{H:List (Ob K)},aY D ρ S w H->∃S',aY D ρ S' w (iN H l)/\Step D n0 ρ S H w ρ S' (iN H l) w/\(iN H l).length=H.length
 |[],S,H,hs=>⟨S,hs,Step.refl,rfl⟩
 |h::r,S,H,hs=>by
  obtain⟨S1,h1,h2,h3⟩:=aCK (n0:=n0) hs h;obtain⟨S2,g1,g2,g3⟩:=Lt r h1;exact⟨S2,g1,h2.trans g2,by simp only[iN];rw[g3,h3]⟩
theorem aCL{c:K.U}{l:List (K.El c)}{a a':Option Addr}{n cp lo hi c':Nat}(h:Rep D ρ S w (.ah c l) (.slice a n cp))(h1:lo<=hi)(h2:hi<=n)(ha:hi-lo=0\/∃b o,a=some ⟨b,o,none⟩/\a'=some ⟨b,o+lo*K.sz c,none⟩/\hi-lo<=c'):
 Rep D ρ S w (.ah c ((l.take hi).drop lo)) (.slice a' (hi-lo) c'):=by
 rcases ha with h0|⟨b,o,rfl,rfl,hc⟩
 ·have:(l.take hi).drop lo=[]:=ja (by simp;omega);rw[this,h0];exact .eM _ _
 ·by_cases h0:hi-lo=0
  ·have:(l.take hi).drop lo=[]:=ja (by simp;omega);rw[this,h0];exact .eM _ _
  ·cases h with
   |eM=>omega
   |ah val hS hcap hl' hca hr=>
    have hlen:((l.take hi).drop lo).length=hi-lo:=by simp;omega
    have hget:∀i x,((l.take hi).drop lo)[i]?=some x->l[lo+i]?=some x:=fun i x hi=>by
     simp only[iK,eI]at hi;split at hi
     ·exact hi
     ·simp at hi
    rw[<-hlen];exact .ah (fun i=>val (lo+i)) hS (by rw[hlen];omega) (fun i x hi=>hl' _ _ (hget i x hi))
     (fun i hi=>by
       have:=hca (lo+i) (by rw[hlen]at hi;omega)
       rwa [ek,<-jY]at this)
     (fun i x hi=>hr _ _ (hget i x hi))
mutual
theorem pZ(hs:aY D ρ S w H):∀(x:AV K)(v:Value),Rep D ρ S w x v->Rep D ρ S w (eK H x) v
 |.sl h,v,hx=>by
   simp only[eK];split
   ·rename_i c l ho;cases hx with
    |sl hp=>exact hs.ob h _ _ ho hp
   ·exact hx
 |.vw h st lo hi,v,hx=>by
   cases hx with
   |vw hp h1 h2 ha=>
    simp only[eK];split
    ·rename_i c l ho;split
     ·rename_i hst;subst hst;exact aCL (hs.ob h _ _ ho hp) h1 h2 ha
     ·exact .vw hp h1 h2 ha
    ·exact .vw hp h1 h2 ha
 |.agg l,v,hx=>by
   cases hx with
   |agg hl hr=>
    have:=FM hs l _ ⟨hl,hr⟩;exact .agg this.1 this.2
 |.bU l,v,hx=>by
   cases hx with
   |bU hl hr=>
    have:=FM hs l _ ⟨hl,hr⟩;exact .bU this.1 this.2
 |.any,v,hx|.int _ _,v,hx|.bool _,v,hx|.str _,v,hx|.dt,v,hx|.dj,v,hx|.mp,v,hx|.fn _ _,v,hx|.ptr _ _,v,hx|.ep _ _ _ _,v,hx|.ah _ _,v,hx|.rp _ _ _,v,hx|.np _,v,hx|.opt _ _ _,v,hx=>by simpa only[eK]using hx
theorem FM(hs:aY D ρ S w H):∀(l:List (AV K))(vs:List Value),bE D ρ S w l vs->bE D ρ S w (pP H l) vs
 |[],vs,h=>by rw[h.lS];exact .nil
 |x::r,vs,h=>by
  obtain⟨u,t,rfl,h1,h2⟩:=h.fE;exact .cons (pZ hs x u h1) (FM hs r t h2)
end
def mw(b:Bool)(c:K.U):Ob K:=cond b (.tree c []) (.arr c [])
theorem QH(hs:aY D ρ S w H)(c:K.U)(b:Bool):aY D (ρ++[.slice none 0 0]) S w (H++[mw b c])/\Step D H.length ρ S H w (ρ++[.slice none 0 0]) S (H++[mw b c]) w:=by
 have hf:∀k,¬cu D w (mw b c:Ob K) (.slice none 0 0) k:=fun k h=>by
  cases b
  ·change iM (.slice none 0 0)=some k at h;simp[iM]at h
  ·change dW D w c [] (.slice none 0 0) k at h;cases h
 have ho:f8 D (ρ++[.slice none 0 0]) S w (mw b c) (.slice none 0 0):=by
  cases b
  ·exact .inl ⟨rfl,rfl⟩
  ·exact Tree.nil
 exact⟨hs.push ho (fun k _ h=>(hf k h).elim),Step.new hs (bY _) (fun _ _=>rfl) (fun k h=>(hf k h).elim) rfl rfl rfl⟩
def Ao(D:bP K)(S:Nat->Prop)(w:World)(H:List (Ob K))(ρ vs:List Value)(p:List (AV K)×List (Ob K)):Prop:=
 ∃ρ',aY D ρ' S w p.2/\bE D ρ' S w p.1 vs/\Step D H.length ρ S H w ρ' S p.2 w/\(∀(h:Nat) r,ρ[h]?=some r->ρ'[h]?=some r)/\H.length<=p.2.length/\(∀(h:Nat) o,H[h]?=some o->p.2[h]?=some o)
theorem xF(dp:K.U->Bool):∀(cs:List (Option K.U))(l:List (AV K))(H:List (Ob K))(ρ:List Value)(vs:List Value),aY D ρ S w H->bE D ρ S w l vs->Ao D S w H ρ vs (thaw dp H cs l)
 |[],l,H,ρ,vs,hs,hr=>⟨ρ,by simpa [thaw]using hs,by simpa [thaw]using hr,by simpa [thaw]using Step.refl,fun _ _ h=>h,by simp[thaw],fun _ _ h=>by simpa [thaw]using h⟩
 |some c::cs,[],H,ρ,vs,hs,hr=>⟨ρ,by simpa [thaw]using hs,by simpa [thaw]using hr,by simpa [thaw]using Step.refl,fun _ _ h=>h,by simp[thaw],fun _ _ h=>by simpa [thaw]using h⟩
 |none::cs,[],H,ρ,vs,hs,hr=>⟨ρ,by simpa [thaw]using hs,by simpa [thaw]using hr,by simpa [thaw]using Step.refl,fun _ _ h=>h,by simp[thaw],fun _ _ h=>by simpa [thaw]using h⟩
 |oc::cs,v::r,H,ρ,vs,hs,hr=>by
  obtain⟨u,t,rfl,h1,h2⟩:=hr.fE;have keep:thaw dp H (oc::cs) (v::r)=(v::(thaw dp H cs r).1,(thaw dp H cs r).2)->Ao D S w H ρ (u::t) (thaw dp H (oc::cs) (v::r)):=fun e=>by
   obtain⟨ρ',g1,g2,g3,g4,g5,g6⟩:=xF dp cs r H ρ t hs h2;rw[e];exact⟨ρ',g1,.cons (h1.mono (fun _ h=>h) (fun _ _=>rfl) g4) g2,g3,g4,g5,g6⟩
  cases oc with
  |none=>exact keep (by cases v<;>rfl)
  |some c=>
   cases v with
   |dj=>
    obtain⟨n1,n2⟩:=QH hs c (dp c);have hpre:∀(h:Nat) r,ρ[h]?=some r->(ρ++[.slice none 0 0])[h]?=some r:=fun _ _ h=>uo h
    obtain⟨ρ',g1,g2,g3,g4,g5,g6⟩:=xF dp cs r (H++[mw (dp c) c]) _ t n1 (h2.mono (fun _ h=>h) (fun _ _=>rfl) hpre);have e:thaw dp H (some c::cs) (.dj::r)=(.sl H.length::(thaw dp (H++[mw (dp c) c]) cs r).1,(thaw dp (H++[mw (dp c) c]) cs r).2):=rfl;rw[e];have hu:u=.slice none 0 0:=by cases h1;rfl
    refine⟨ρ',g1,.cons ?_ g2,n2.trans (g3.weaken (by simp)),fun h r hr=>g4 h r (hpre h r hr),by have g5:=g5;simp at g5;exact Nat.le_of_succ_le g5,fun h o ho=>g6 h o ?_⟩
    ·rw[hu];exact .sl (g4 _ _ (by rw[d5 (by rw[hs.len];exact bY _)];simp[hs.len]))
    ·rw[dD (cz.1 ho).1];exact ho
   |_=>exact keep rfl
end Go.V
namespace Go.V
open Go
variable {K :db}{D:bP K}{ρ:List Value}{S:Nat->Prop}{w:World}
theorem f7{k:IntKind}{n:Int}{X:Value}(h:Rep D ρ S w (.int k n) X):X=.int k n:=by cases h;rfl
theorem kB{b:Bool}{X:Value}(h:Rep D ρ S w (.bool b) X):X=.bool b:=by cases h;rfl
theorem gX{s:List UInt8}{X:Value}(h:Rep D ρ S w (.str s) X):X=.string ⟨s.toArray⟩:=by cases h;rfl
theorem akr{c:K.U}{x:K.El c}{off:Nat}{X:Value}(h:Rep D ρ S w (.rp c x off) X):∃b o vs,X=.pointer (some ⟨b,o+off,none⟩)/\vs.length=(D.cells c x).length/\il w b o vs/\
 ∀(j:Nat) v y,(D.cells c x)[j]?=some v->vs[j]?=some y->Rep D ρ S w v y:=by
 cases h with|rp vs hS hl hc hr=>exact⟨_,_,vs,rfl,hl,hc,hr⟩
theorem tU{h off:Nat}{X:Value}(hp:Rep D ρ S w (.ptr h off) X):∃b,X=.pointer (some ⟨b,off,none⟩)/\ρ[h]?=some (.pointer (some ⟨b,0,none⟩)):=by
 cases hp with|ptr hp=>exact⟨_,rfl,hp⟩
theorem lj{h:Nat}{X:Value}(hp:Rep D ρ S w (.sl h) X):ρ[h]?=some X/\∃a n c,X=.slice a n c:=by
 cases hp with|sl hp=>exact⟨hp,_,_,_,rfl⟩
theorem Ap{h st i off:Nat}{X:Value}(hp:Rep D ρ S w (.ep h st i off) X):∃b o n c,X=.pointer (some ⟨b,o+i*st+off,none⟩)/\ρ[h]?=some (.slice (some ⟨b,o,none⟩) n c)/\i<n:=by
 cases hp with|ep hp hi=>exact⟨_,_,_,_,rfl,hp,hi⟩
theorem zx{H:List (Ob K)}(hs:aY D ρ S w H){h:Nat}{c:K.U}{l:List (K.El c)}{X:Value}(ho:H[h]?=some (.arr c l))(hp:ρ[h]?=some X):
 (X=.slice none 0 0/\l=[])\/∃b o cap vs T fr,X=.slice (some ⟨b,o,none⟩) l.length cap/\w.heap[b]?=some (.cells vs T fr)/\(l.length<=cap/\um D c T o fr)/\o+cap*K.sz c<=vs.size/\
   (∀k,o<=k->k<o+cap*K.sz c->¬(fr.1<=k/\k<fr.2))/\∀i x,l[i]?=some x->bE D ρ S w (D.cells c x) (cQ vs (o+i*K.sz c) (K.sz c)):=hs.ob _ _ _ ho hp
theorem getD_some{α:Type}{l:List α}{i:Nat}(d:α)(h:i<l.length):l[i]?=some (l.getD i d):=by simp[List.getD,h]
theorem aks(s:List UInt8):(ByteArray.mk s.toArray).toList=s:=by rw[ByteArray.toList_eq]
theorem FN(s:List UInt8):(ByteArray.mk s.toArray).size=s.length:=by simp[ByteArray.size]
theorem aCM(s t:List UInt8):(ByteArray.mk s.toArray)++(ByteArray.mk t.toArray)=⟨(s++t).toArray⟩:=by
 apply ByteArray.ext;simp
theorem aCN{P:Program}{op:BinOp}{t:TypeId}{a b:List UInt8}{v:AV K}{c:Bool}(h:Qm op a b=some (v,c))(hc:c=true):
 ∃u,(binOp op t (.string ⟨a.toArray⟩) (.string ⟨b.toArray⟩)).run P w=.ok u w/\Rep D ρ S w v u:=by
 cases op<;>simp only[Qm]at h<;>first
  |(cases h;done)
  |(simp only[aD,bj]at h;obtain⟨rfl,rfl⟩:=h)
 case add=>
  refine⟨.string ⟨(a++b).toArray⟩,?_,.str _⟩;have hc':a.length+b.length<=4611686018427387904:=by simpa [aW]using hc
  simp only[binOp,Op.stringOp,FN];rw[av (by simp[IntKind.max,IntKind.signed,IntKind.bits];omega)];simp[aCM]
 all_goals
  refine⟨_,?_,.bool _⟩;simp[binOp,Op.stringOp,eU]
theorem aCO{P:Program}{op:BinOp}{t:TypeId}{k:IntKind}{a b:Int}{v:AV K}{c:Bool}(h:Ql op k a b=some (v,c))(hc:c=true):
 ∃u,(binOp op t (.int k a) (.int k b)).run P w=.ok u w/\Rep D ρ S w v u:=by
 cases op<;>simp only[Ql]at h<;>first
  |(cases h;done)
  |(simp only[aD,bj]at h;obtain⟨rfl,rfl⟩:=h)
 case quo=>
  refine⟨_,?_,.int _ _⟩;have hb:b≠0:=by simpa using hc
  simp[binOp,Op.intDiv,hb]
 case rem=>
  refine⟨_,?_,.int _ _⟩;have hb:b≠0:=by simpa using hc
  simp[binOp,Op.intDiv,hb]
 case and=>exact⟨_,by simp[binOp,Op.intBits,xh],.int _ _⟩
 case or=>exact⟨_,by simp[binOp,Op.intBits,xh],.int _ _⟩
 case xor=>exact⟨_,by simp[binOp,Op.intBits,xh],.int _ _⟩
 case andNot=>exact⟨_,by simp[binOp,Op.intBits,xh],.int _ _⟩
 all_goals first
  |(refine⟨_,?_,.int _ _⟩;simp[binOp,Op.intArith];done)
  |(refine⟨_,?_,.bool _⟩;simp[binOp,Op.intCmp];done)
theorem akt{P:Program}{t:TypeId}(h:Qn P t=true)(a b:Bool):(Op.equal t (.bool a) (.bool b)).run P w=.ok (a==b) w:=by
 have hu:P.underlying t=some .bool:=by
  unfold Qn at h;split at h
  ·assumption
  ·cases h
 show(Op.equalIn (9999+1) t (.bool a) (.bool b)).run P w=_
 rw[Op.equalIn];simp[underlying,hu,program,Sem.run]
theorem QI{P:Program}{op:BinOp}{t:TypeId}{x y:Operand}{X Y:Value}(h:(∃k n,X=.int k n)\/(∃b,X=.bool b)\/(∃s,X=.string s)):
 (eqGuard op t x y X Y).run P w=.ok () w:=by
 rcases h with⟨k,n,rfl⟩|⟨b,rfl⟩|⟨s,rfl⟩<;>simp[eqGuard]
theorem Lu{P:Program}{t:TypeId}{g:Bool}(h:Qp P t=some g):(isAgg t).run P w=.ok g w:=by
 unfold Qp at h;split at h<;>first|(cases h;done)|skip
 ·rename_i d hu;simp only[aD]at h;subst h;simp[isAgg,underlying,hu]
 ·rename_i d e hu;simp only[aD]at h;subst h;simp[isAgg,underlying,hu]
 ·rename_i d h1 h2 hu;simp only[aD]at h;subst h;have:(underlying t).run P w=.ok d w:=by simp[underlying,hu]
  simp only[isAgg,Sem.run_bind,this,Result.andThen_ok];cases d<;>first|rfl|(exact absurd rfl (h1 _))|(exact absurd rfl (h2 _ _))
theorem nK{P:Program}{t:TypeId}{n:Nat}(h:fk P t=some n):(sizeOf t).run P w=.ok n w:=by
 unfold fk at h;cases hi:P.info? t with
 |none=>simp[hi]at h
 |some i=>simp[hi]at h;simp[sizeOf,typeInfo,hi,h]
theorem QJ{P:Program}{t:TypeId}{cs:List (AV K)}{vs:Array Value}{off:Nat}{v:AV K}(h:nF P t cs off=some v)(hr:bE D ρ S w cs vs.toList):
 ∃u,(part t vs off).run P w=.ok u w/\Rep D ρ S w v u:=by
 unfold nF at h;split at h
 ·rename_i n hg hn;split at h
  ·rename_i hle;simp only[aD]at h;subst h;have hr':=(hr.drop off).take n;refine⟨.agg ((vs.toList.drop off).take n).toArray,?_,.agg hr'.1 hr'.2⟩;simp only[part,Sem.run_bind,Lu hg,Result.andThen_ok,eY,nK hn,Sem.run_pure];congr 2;apply Array.toList_inj.1;simp[List.extract]
  ·cases h
 ·rename_i n hg hn;obtain⟨x,hx,hrep⟩:=hr.get h;refine⟨x,?_,hrep⟩;have hx':vs[off]?=some x:=by simpa using hx
  simp only[part,Sem.run_bind,Lu hg,Result.andThen_ok,gz,fZ,hx',Sem.run_pure]
 ·cases h
theorem Lx{l:List (AV K)}{X:Value}(h:Rep D ρ S w (.agg l) X):∃vs:Array Value,X=.agg vs/\bE D ρ S w l vs.toList:=by
 cases h with|agg hl hr=>exact⟨_,rfl,by simpa using⟨hl,hr⟩⟩
theorem aku{P:Program}{d:Nat}{rec:TypeId->AV K->AV K->Option Bool}
 (hrec:∀t x y e X Y,rec t x y=some e->Rep D ρ S w x X->Rep D ρ S w y Y->(Op.equalIn d t X Y).run P w=.ok e w)
 {xs ys:List (AV K)} {vs us:Array Value} (hx:bE D ρ S w xs vs.toList) (hy:bE D ρ S w ys us.toList):
 ∀(fs:List Field)(e:Bool),Fo P rec xs ys fs=some e->(Op.eqFields d vs us fs).run P w=.ok e w
 |[],e,h=>by simp only[Fo,aD]at h;subst h;simp[Op.eqFields]
 |f::fs,e,h=>by
  unfold Fo at h;split at h
  ·cases h
  ·rename_i hn;split at h
   ·rename_i a b ha hb;split at h
    ·rename_i p q hp hq;simp only[aD]at h;subst h;obtain⟨u,hu,hru⟩:=QJ (P:=P) ha hx;obtain⟨u',hu',aCQ⟩:=QJ (P:=P) hb hy;have h3:=hrec _ _ _ _ _ _ hp hru aCQ;have h4:=aku hrec hx hy fs q hq;simp only[Op.eqFields,ne_eq,hn,not_false_eq_true,eY,Sem.run_bind,hu,hu',h3,Result.andThen_ok];cases p
     ·simp
     ·simpa using h4
    ·cases h
   ·cases h
theorem aCR{P:Program}{t:TypeId}{fs:Array Field}{d:Nat}{vs us:Array Value}(hu:P.underlying t=some (.struct fs))(hst:P.stoodInHeld t=false):
 (Op.equalIn (d+1) t (.agg vs) (.agg us)).run P w=(Op.eqFields d vs us fs.toList).run P w:=by
 have hf:P.fieldsOf t=fs:=by simp[Program.fieldsOf,hu]
 rw[run_equalIn_struct w d t vs us (by rw[hf];exact hu) hst,hf]
theorem QK{P:Program}(k:Nat):∀(n:Nat)(t:TypeId)(x y:AV K)(e:Bool)(X Y:Value),Aa P n t x y=some e->Rep D ρ S w x X->Rep D ρ S w y Y->(Op.equalIn (n+k) t X Y).run P w=.ok e w
 |0,t,x,y,e,X,Y,h,hx,hy=>by simp[Aa]at h
 |n+1,t,x,y,e,X,Y,h,hx,hy=>by
  rw[show n+1+k=(n+k)+1 by omega];unfold Aa at h;split at h
  ·cases h
  ·rename_i heq;cases heq;split at h
   ·rename_i hk;subst hk;split at h
    ·rename_i hu;simp only[aD]at h;subst h;cases f7 hx;cases f7 hy;exact run_equalIn_int w _ _ _ _ _ _ hu
    ·cases h
   ·cases h
  ·rename_i heq;cases heq;split at h
   ·rename_i hu;simp only[aD]at h;subst h;cases kB hx;cases kB hy;exact run_equalIn_bool' w _ _ _ _ hu
   ·cases h
  ·rename_i heq;cases heq;split at h
   ·rename_i hu;simp only[aD]at h;subst h;cases gX hx;cases gX hy;rw[run_equalIn_string w _ _ _ _ hu,aks,aks]
   ·cases h
  ·rename_i heq;cases heq;obtain⟨vs,rfl,hvs⟩:=Lx hx;obtain⟨us,rfl,hus⟩:=Lx hy;split at h
   ·rename_i fs hu;split at h
    ·cases h
    ·rename_i hst;rw[aCR hu (by simpa using hst)];exact aku (fun t x y e X Y=>QK k n t x y e X Y) hvs hus fs.toList e h
   ·cases h
  ·cases h
theorem akv{P:Program}{t:TypeId}(h:Qq P t=true)(a:Option Addr):(Op.equal t (.pointer a) (.pointer none)).run P w=.ok a.isNone w:=by
 obtain⟨e,hu⟩:∃e,P.underlying t=some (.pointer e):=by
  unfold Qq at h;split at h
  ·rename_i e hu;exact⟨e,hu⟩
  ·cases h
 show(Op.equalIn (9999+1) t (.pointer a) (.pointer none)).run P w=_
 rw[Op.equalIn];cases a<;>simp[underlying,hu,program,Sem.run]
theorem Ly{P:Program}{op:BinOp}{t:TypeId}{ex ey:Operand}{a:Option Addr}{v:AV K}{c:Bool}
 (h:Ab P op t a.isNone=some (v,c)):∃u,(do eqGuard op t ex ey (.pointer a) (.pointer none);binOp op t (.pointer a) (.pointer none):Sem Value).run P w=.ok u w/\Rep D ρ S w v u:=by
 unfold Ab at h;have hg:(eqGuard op t ex ey (.pointer a) (.pointer none)).run P w=.ok () w:=by simp[eqGuard]
 rw[Sem.run_bind,hg,Result.andThen_ok];split at h
 ·rename_i hp;split at h
  ·simp only[aD,bj]at h;obtain⟨rfl,rfl⟩:=h;exact⟨_,by simp[binOp,akv hp],.bool _⟩
  ·simp only[aD,bj]at h;obtain⟨rfl,rfl⟩:=h;exact⟨_,by simp[binOp,akv hp],.bool _⟩
  ·cases h
 ·cases h
theorem aCS{P:Program}{op:BinOp}{t:TypeId}{x y:AV K}{ex ey:Operand}{X Y:Value}{v:AV K}{c:Bool}
 (h:Qr P op t x y=some (v,c)) (hc:c=true) (hx:Rep D ρ S w x X) (hy:Rep D ρ S w y Y):
 ∃u,(do eqGuard op t ex ey X Y;binOp op t X Y:Sem Value).run P w=.ok u w/\Rep D ρ S w v u:=by
 unfold Qr at h;split at h
 ·rename_i k a k' b;obtain rfl:=f7 hx;obtain rfl:=f7 hy;rw[Sem.run_bind,QI (.inl ⟨_,_,rfl⟩),Result.andThen_ok];split at h
  ·simp only[aD,bj]at h;obtain⟨rfl,rfl⟩:=h;have hb:¬b<0:=by simp at hc;omega
   exact⟨_,by simp[binOp,Op.shift,hb,akb],.int _ _⟩
  ·simp only[aD,bj]at h;obtain⟨rfl,rfl⟩:=h;have hb:¬b<0:=by simp at hc;omega
   exact⟨_,by simp[binOp,Op.shift,hb,akc],.int _ _⟩
  ·split at h
   ·rename_i hk;subst hk;exact aCO h hc
   ·cases h
 ·rename_i a b;obtain rfl:=kB hx;obtain rfl:=kB hy;rw[Sem.run_bind,QI (.inr (.inl ⟨_,rfl⟩)),Result.andThen_ok];split at h
  ·rename_i hb;split at h
   ·simp only[aD,bj]at h;obtain⟨rfl,rfl⟩:=h;exact⟨_,by simp[binOp,akt hb],.bool _⟩
   ·simp only[aD,bj]at h;obtain⟨rfl,rfl⟩:=h;exact⟨_,by simp[binOp,akt hb],.bool _⟩
   ·cases h
  ·cases h
 ·rename_i a b;obtain rfl:=gX hx;obtain rfl:=gX hy;rw[Sem.run_bind,QI (.inr (.inr ⟨_,rfl⟩)),Result.andThen_ok];exact aCN h hc
 ·rename_i a b;obtain⟨vs,rfl,hvs⟩:=Lx hx;obtain⟨us,rfl,hus⟩:=Lx hy;split at h
  ·split at h
   ·cases h
   ·rename_i hg;simp only[eN,bj]at h;obtain⟨e,he,rfl,rfl⟩:=h;have:=QK 9994 6 t _ _ e _ _ he hx hy;refine⟨.bool e,?_,.bool _⟩;rw[Sem.run_bind,run_eqGuard_agg w _ t ex ey vs us (by simpa using hg),Result.andThen_ok,run_eql_struct,this];rfl
  ·split at h
   ·cases h
   ·rename_i hg;simp only[eN,bj]at h;obtain⟨e,he,rfl,rfl⟩:=h;have:=QK 9994 6 t _ _ e _ _ he hx hy;refine⟨.bool (!e),?_,.bool _⟩;rw[Sem.run_bind,run_eqGuard_agg w _ t ex ey vs us (by simpa using hg),Result.andThen_ok,run_neq_struct,this];rfl
  ·cases h
 ·cases hx;cases hy;exact Ly (a:=none) h
 ·cases hx;cases hy;exact Ly (a:=some _) h
 ·cases hx;cases hy;exact Ly (a:=some _) h
 ·cases hx;cases hy;exact Ly (a:=some _) h
 ·cases h
theorem aCT{P:Program}{op:UnOp}{x:AV K}{X:Value}{v:AV K}{c:Bool}(h:Qo op x=some (v,c))(hx:Rep D ρ S w x X):
 ∃u,(Op.unary op X).run P w=.ok u w/\Rep D ρ S w v u:=by
 unfold Qo at h;split at h
 ·obtain rfl:=kB hx;split at h
  ·simp only[aD,bj]at h;obtain⟨rfl,rfl⟩:=h;exact⟨_,by simp[Op.unary],.bool _⟩
  ·cases h
 ·obtain rfl:=f7 hx;split at h
  ·simp only[aD,bj]at h;obtain⟨rfl,rfl⟩:=h;exact⟨_,by simp[Op.unary,Op.intArith],.int _ _⟩
  ·simp only[aD,bj]at h;obtain⟨rfl,rfl⟩:=h;exact⟨_,by simp[Op.unary,Op.intBits,xh],.int _ _⟩
  ·cases h
 ·cases h
mutual
theorem FO:∀(v:Value)(x:AV K),ly v=some x->Rep D ρ S w x v
 |.bool b,x,h=>by simp[ly]at h;subst h;exact .bool b
 |.int k n,x,h=>by simp[ly]at h;subst h;exact .int k n
 |.string s,x,h=>by simp[ly]at h;subst h;have:=Rep.str (D:=D) (ρ:=ρ) (S:=S) (w:=w) s.data.toList;simpa using this
 |.pointer none,x,h=>by simp[ly]at h;subst h;exact .dt
 |.slice none 0 0,x,h=>by simp[ly]at h;subst h;exact .dj
 |.map none,x,h=>by simp[ly]at h;subst h;exact .mp _
 |.agg ⟨cs⟩,x,h=>by
   simp only[ly,eN]at h;obtain⟨l,hl,rfl⟩:=h;have:=akw cs l hl;exact .agg this.1 this.2
 |.pointer (some _),x,h|.slice (some _) _ _,x,h|.slice none (_+1) _,x,h|.slice none 0 (_+1),x,h|.float _ _,x,h|.complex _ _ _,x,h|.map (some _),x,h|.chan _,x,h|.func _ _ _,x,h
 |.nilFunc,x,h|.iface _ _,x,h|.nilIface,x,h|.tuple _,x,h=>by simp[ly]at h
theorem akw:∀(vs:List Value)(l:List (AV K)),Fh vs=some l->bE D ρ S w l vs
 |[],l,h=>by simp[Fh]at h;subst h;exact .nil
 |v::r,l,h=>by
  simp only[Fh]at h;split at h
  ·rename_i x m hx hm;simp at h;subst h;exact .cons (FO v x hx) (akw r m hm)
  ·cases h
end
@[simp] theorem add_plain (b k i:Nat):(⟨b,k,none⟩:Addr).add i=⟨b,k+i,none⟩:=by
  unfold Addr.add;split
  ·rename_i h;subst h;rfl
  ·rfl
theorem akx{P:Program}{b k:Nat}:∀(vs:List Value)(i:Nat)(acc:Array Value),il w b (k+i) vs->
 (loadCellsFrom ⟨b,k,none⟩ i vs.length acc).run P w=.ok (acc++vs.toArray) w
 |[],i,acc,_=>by simp[loadCellsFrom]
 |v::r,i,acc,h=>by
  have h0:w.cell? ⟨b,k+i,none⟩=some v:=by simpa using h 0 v rfl
  have ih:=akx (P:=P) (b:=b) (k:=k) r (i+1) (acc.push v) (fun j x hx=>by have:=h (j+1) x (by simpa using hx);rw[show k+(i+1)+j=k+i+(j+1) by omega];exact this);simp only[aO,loadCellsFrom,Sem.run_bind,run_load,add_plain,h0];rw[Result.andThen_ok,ih];simp
theorem LA{P:Program}{b k:Nat}{vs:List Value}(h:il w b k vs):(loadCells ⟨b,k,none⟩ vs.length).run P w=.ok vs.toArray w:=by
 have:=akx (P:=P) vs 0 #[] (k:=k) (by simpa using h);simpa [loadCells]using this
theorem il.cQ{b k:Nat}{vs:List Value}(h:il w b k vs)(off n:Nat):il w b (k+off) ((vs.drop off).take n):=fun j v hv=>by
 simp only[eI]at hv;split at hv
 ·rw[jY];exact h (off+j) v (by simpa using hv)
 ·simp at hv
theorem LC{P:Program}{t:TypeId}{cs:List (AV K)}{vs:List Value}{b o off:Nat}{v:AV K}(h:nF P t cs off=some v)(hc:il w b o vs)(hr:bE D ρ S w cs vs):
 ∃u,(loadVar t ⟨b,o+off,none⟩).run P w=.ok u w/\Rep D ρ S w v u:=by
 unfold nF at h;split at h
 ·rename_i n hg hn;split at h
  ·rename_i hle;simp only[aD]at h;subst h;have hr':=(hr.drop off).take n;have hlen:((vs.drop off).take n).length=n:=by simp;rw[<-hr.1];omega
   have:=LA (P:=P) (hc.cQ off n);rw[hlen]at this;refine⟨.agg ((vs.drop off).take n).toArray,?_,.agg hr'.1 hr'.2⟩;simp[loadVar,Lu hg,nK hn,this]
  ·cases h
 ·rename_i n hg hn;obtain⟨x,hx,hrep⟩:=hr.get h;refine⟨x,?_,hrep⟩;have:=hc off x hx;simp[loadVar,Lu hg,this]
 ·cases h
theorem Aq{b:Nat}{vs:Array Value}{T:TypeId}{fr:Nat×Nat}(h:w.heap[b]?=some (.cells vs T fr))(k n:Nat):il w b k (cQ vs k n):=fun j v hv=>by
 simp only[cQ,eI]at hv;split at hv
 ·simp only[iK]at hv;simp[World.cell?,h];simpa using hv
 ·simp at hv
theorem aCU(vs:Array Value):cQ vs 0 vs.size=vs.toList:=by simp only[cQ,gm];rw[ET (by simp)]
mutual
theorem QL{S':Nat->Prop}{w':World}:∀(x:AV K)(v:Value),iC x=false->Rep D ρ S w x v->Rep D ρ S' w' x v
 |.any,v,_,h=>.any _
 |.int _ _,v,_,h=>by rw[f7 h];exact .int _ _
 |.bool _,v,_,h=>by rw[kB h];exact .bool _
 |.str _,v,_,h=>by rw[gX h];exact .str _
 |.dt,v,_,h=>by cases h;exact .dt
 |.dj,v,_,h=>by cases h;exact .dj
 |.mp,v,_,h=>by cases h;exact .mp _
 |.ptr _ _,v,_,h=>by cases h with|ptr hp=>exact .ptr hp
 |.np _,v,_,h=>by
   cases h with
   |ko=>exact .ko
   |np hp=>exact .np hp
 |.sl _,v,_,h=>by cases h with|sl hp=>exact .sl hp
 |.ep _ _ _ _,v,_,h=>by cases h with|ep hp hi=>exact .ep hp hi
 |.vw _ _ _ _,v,_,h=>by cases h with|vw hp h1 h2 ha=>exact .vw hp h1 h2 ha
 |.opt _ _ _,v,_,h=>by cases h
 |.fn f l,v,hr,h=>by
   cases h with
   |fn hl hh=>
    have:=FP (S':=S') (w':=w') l _ (by simpa [iC]using hr) ⟨hl,hh⟩;exact .fn this.1 this.2
 |.agg l,v,hr,h=>by
   cases h with
   |agg hl hh=>
    have:=FP (S':=S') (w':=w') l _ (by simpa [iC]using hr) ⟨hl,hh⟩;exact .agg this.1 this.2
 |.bU l,v,hr,h=>by
   cases h with
   |bU hl hh=>
    have:=FP (S':=S') (w':=w') l _ (by simpa [iC]using hr) ⟨hl,hh⟩;exact .bU this.1 this.2
 |.ah _ _,v,hr,_|.rp _ _ _,v,hr,_=>by simp[iC]at hr
theorem FP{S':Nat->Prop}{w':World}:∀(l:List (AV K))(vs:List Value),iw l=false->bE D ρ S w l vs->bE D ρ S' w' l vs
 |[],vs,_,h=>by rw[h.lS];exact .nil
 |x::r,vs,hr,h=>by
  simp only[iw,wO]at hr;obtain⟨u,t,rfl,h1,h2⟩:=h.fE;exact .cons (QL x u hr.1 h1) (FP r t hr.2 h2)
end
theorem aky{P:Program}{H:List (Ob K)}(hD:bW D)(hs:aY D ρ S w H){t:TypeId}{p v:AV K}{X:Value}(h:Le P D H t p=some v)(hp:Rep D ρ S w p X):
 ∃u,(Instr.loadAt t X).run P w=.ok u w/\Rep D ρ S w v u:=by
 unfold Le at h;split at h
 ·rename_i hh off;split at h
  ·rename_i cs hob;obtain⟨b,rfl,hb⟩:=tU hp;obtain⟨b',vs,T,e,hblk,LD,-⟩:=hs.ob _ _ _ hob hb;simp only[Value.pointer.injEq,aD,Addr.mk.injEq]at e;obtain⟨rfl,-,-⟩:=e;obtain⟨u,hu,hr⟩:=LC (o:=0) (b:=b) h (by have:=Aq hblk 0 vs.size;rwa [aCU]at this) LD;exact⟨u,by simpa [Instr.loadAt,Instr.sureAddr]using hu,hr⟩
  ·cases h
 ·rename_i c x off;obtain⟨b,o,vs,rfl,hl,hc,hr⟩:=akr hp;obtain⟨u,hu,hr⟩:=LC (o:=o) (b:=b) h hc ⟨hl.symm,hr⟩;exact⟨u,by simpa [Instr.loadAt,Instr.sureAddr]using hu,hr⟩
 ·rename_i hh st i off;split at h
  ·rename_i c l hob;split at h
   ·rename_i hst;subst hst;obtain⟨b,o,n,cp,rfl,hb,hi⟩:=Ap hp;rcases zx hs hob hb with⟨e,-⟩|⟨b',o',cap,vs,T,fr,e,hblk,⟨hcap,eV⟩,hsz,hfr,hall⟩
    ·cases e
    ·simp only[Value.slice.injEq,aD,Addr.mk.injEq]at e;obtain⟨⟨rfl,rfl,-⟩,rfl,rfl⟩:=e;have hx:=hall i _ (getD_some (K.zero c) hi);obtain⟨u,hu,hr⟩:=LC (o:=o+i*K.sz c) (b:=b) h (Aq hblk _ _) hx;exact⟨u,by simpa [Instr.loadAt,Instr.sureAddr]using hu,hr⟩
   ·cases h
  ·rename_i c l hob;split at h
   ·rename_i hst;subst hst;split at h
    ·rename_i v' htk;split at h
     ·cases h
     ·rename_i hnr;simp only[aD]at h;subst h;obtain⟨b,o,n,cp,rfl,hb,hi⟩:=Ap hp;have hT:Tree D w c l (.slice (some ⟨b,o,none⟩) n cp):=hs.ob _ _ _ hob hb;have hR:Rep D ρ (fun k=>S k\/dW D w c l (.slice (some ⟨b,o,none⟩) n cp) k) w (.ah c l) (.slice (some ⟨b,o,none⟩) n cp):=hT.rep fun k hk=>.inr hk
      cases hR with
      |eM a cap=>omega
      |ah val hS hcap hl hca hr=>
       have hg:=getD_some (K.zero c) hi;obtain⟨u,hu,hr'⟩:=LC (o:=o+i*K.sz c) (b:=b) htk (hca i hi) ⟨(hl i _ hg).symm,hr i _ hg⟩;exact⟨u,by simpa [Instr.loadAt,Instr.sureAddr]using hu,QL v' u (by simpa using hnr) hr'⟩
    ·cases h
   ·cases h
  ·cases h
 ·cases h
theorem aCV{P:Program}{H:List (Ob K)}(hD:bW D)(hs:aY D ρ S w H){t:TypeId}{p v:AV K}{X:Value}(h:Qs P H t p=some (v,true))(hp:Rep D ρ S w p X):
 ∃u,(Instr.loadAt t X).run P w=.ok u w/\Rep D ρ S w v u:=by unfold Qs at h;cases h
theorem fg{P:Program}{t:TypeId}{d:TypeDesc}(h:P.underlying t=some d):(underlying t).run P w=.ok d w:=by simp[underlying,h]
theorem aCW{P:Program}{s:TypeId}{f:Nat}{x v:AV K}{X:Value}(h:Qu P s f x=some v)(hx:Rep D ρ S w x X):
 ∃u,(Instr.fieldAt s X f).run P w=.ok u w/\Rep D ρ S w v u:=by
 unfold Qu at h;split at h
 ·rename_i fd hf;unfold Ld at hf;split at hf
  ·rename_i fs hu;split at h
   ·rename_i n hn;have key:∀a:Addr,a.spot=none->(Instr.fieldAt s (.pointer (some a)) f).run P w=.ok (.pointer (some (a.add fd.offset))) w:=fun a ha=>by
     simp[Instr.fieldAt,fg hu,hf,Instr.sureAddr,fieldPlace,nK hn]
    split at h
    ·simp only[aD]at h;subst h;obtain⟨b,rfl,hb⟩:=tU hx;exact⟨_,key _ rfl,by rw[add_plain];exact .ptr hb⟩
    ·simp only[aD]at h;subst h;cases hx with
     |rp vs hS hl hc hr=>exact⟨_,key _ rfl,by rw[add_plain,jY];exact .rp vs hS hl hc hr⟩
    ·simp only[aD]at h;subst h;obtain⟨b,o,n,cp,rfl,hb,hi⟩:=Ap hx;exact⟨_,key _ rfl,by rw[add_plain,jY];exact .ep hb hi⟩
    ·cases h
   ·cases h
  ·cases hf
 ·cases h
theorem FQ{n:Int}{len:Nat}(h:inB n len=true):0<=n/\n<len/\n.toNat<len:=by
 simp[inB]at h;omega
theorem aCX{P:Program}{H:List (Ob K)}(hD:bW D)(hs:aY D ρ S w H){t:TypeId}{x i v:AV K}{c:Bool}{X I:Value}(h:Qv P H t x i=some (v,c))(hc:c=true)
 (hx:Rep D ρ S w x X) (hi:Rep D ρ S w i I):∃u,(Instr.indexAt t X I).run P w=.ok u w/\Rep D ρ S w v u:=by
 unfold Qv at h;split at h
 ·rename_i e k n he;obtain rfl:=f7 hi;unfold elemOf? at he;split at he
  ·rename_i e' hu;simp only[aD]at he;subst he;have key:∀(a:Addr)(len cap sz:Nat),fk P e'=some sz->inB n len=true->(Instr.indexAt t (.slice (some a) len cap) (.int k n)).run P w=.ok (.pointer (some (a.add (n.toNat*sz)))) w:=fun a len cap sz hsz hb=>by
    obtain⟨h1,h2,-⟩:=FQ hb;simp[Instr.indexAt,asIntOf,fg hu,nK hsz,h1,h2]
   split at h
   ·rename_i cc l;split at h
    ·rename_i hsz;simp only[aD,bj]at h;obtain⟨rfl,rfl⟩:=h;obtain⟨-,-,hlt⟩:=FQ hc;cases hx with
     |eM a cap=>simp at hlt
     |ah val hS hcap hl hca hr=>
      have hg:=getD_some (K.zero cc) hlt;exact⟨_,key _ _ _ _ hsz hc,by rw[add_plain];exact .rp (off:=0) (val n.toNat) hS (hl _ _ hg) (hca _ hlt) (hr _ _ hg)⟩
    ·cases h
   ·rename_i hh;split at h
    ·rename_i cc l hob;split at h
     ·rename_i hsz;simp only[aD,bj]at h;obtain⟨rfl,rfl⟩:=h;obtain⟨-,-,hlt⟩:=FQ hc;obtain⟨hb,-⟩:=lj hx;rcases zx hs hob hb with⟨rfl,rfl⟩|⟨b,o,cap,vs,T,fr,rfl,hblk,⟨hcap,eV⟩,hsz',hfr,hall⟩
      ·simp at hlt
      ·exact⟨_,key _ _ _ _ hsz hc,by rw[add_plain];exact .ep (off:=0) hb hlt⟩
     ·cases h
    ·rename_i cc l hob;split at h
     ·rename_i hsz;simp only[aD,bj]at h;obtain⟨rfl,rfl⟩:=h;obtain⟨-,-,hlt⟩:=FQ hc;obtain⟨hb,-⟩:=lj hx;have hT:Tree D w cc l X:=hs.ob _ _ _ hob hb;cases hT with
      |nil=>simp at hlt
      |mk=>exact⟨_,key _ _ _ _ hsz hc,by rw[add_plain];exact .ep (off:=0) hb hlt⟩
     ·cases h
    ·cases h
   ·cases h
  ·cases he
 ·cases h
theorem QM{lo hi:Int}{len:Nat}(h:cF lo hi len=true):0<=lo/\lo<=hi/\hi<=len:=by
 simp[cF]at h;omega
inductive rx (D:bP K) (ρ:List Value) (S:Nat->Prop) (w:World):Option (AV K)->Option Value->Prop
 |none:rx D ρ S w none none
 |some {x:AV K} {X:Value} (h:Rep D ρ S w x X):rx D ρ S w (some x) (some X)
theorem LF{P:Program}{k:IntKind}{n:Int}{y:Nat}{code:BoundsCode}(h:0<=n)(h':n<=y):(Instr.sliceBound (.int k n) y code).run P w=.ok n.toNat w:=by
 simp[Instr.sliceBound,asIntOf,h,h']
theorem QN{d:Int}{x:AV K}{n:Int}{X:Value}(h:nG d (some x)=some n)(hx:Rep D ρ S w x X):∃k,X=.int k n:=by
 cases x<;>simp[nG]at h;subst h;exact⟨_,f7 hx⟩
theorem FR{P:Program}{isS:Bool}{len cap:Nat}{lo hi:Option (AV K)}{LO HI:Option Value}{l h:Int}
 (hl:nG 0 lo=some l) (hh:nG len hi=some h) (hlo:rx D ρ S w lo LO) (hhi:rx D ρ S w hi HI) (h1:0<=l) (h2:l<=h) (h3:h<=len) (hcap:len<=cap):
 (Instr.sliceBounds isS len cap LO HI none).run P w=.ok (l.toNat,h.toNat,cap) w:=by
 have e0:(l:Int)<=(h.toNat:Nat):=by omega
 have e1:h<=(cap:Nat):=by omega
 cases hlo with
 |none=>
  simp[nG]at hl;subst hl;cases hhi with
  |none=>simp[nG]at hh;subst hh;simp[Instr.sliceBounds]
  |some hx=>
   obtain⟨k,rfl⟩:=QN hh hx;simp[Instr.sliceBounds,LF (by omega:0<=h) e1]
 |some hy=>
  obtain⟨k',rfl⟩:=QN hl hy;cases hhi with
  |none=>
   simp[nG]at hh;subst hh;have:=LF (P:=P) (w:=w) (k:=k') (code:=.sliceB) h1 (by omega:l<=(len:Nat));simp[Instr.sliceBounds,this]
  |some hx=>
   obtain⟨k,rfl⟩:=QN hh hx;simp[Instr.sliceBounds,LF (by omega:0<=h) e1,LF h1 e0]
theorem akz(s:List UInt8)(a b:Nat):(ByteArray.mk s.toArray).extract a b=⟨((s.take b).drop a).toArray⟩:=by
 rw[Lib.extract_eq];simp[List.drop_take]
theorem akA{c:K.U}{l:List (K.El c)}{a a':Option Addr}{n cp lo hi c':Nat}(h:Rep D ρ S w (.ah c l) (.slice a n cp))(h1:lo<=hi)(h2:hi<=n)(ha:hi-lo=0\/∃b o,a=some ⟨b,o,none⟩/\a'=some ⟨b,o+lo*K.sz c,none⟩/\hi-lo<=c'):
 Rep D ρ S w (.ah c ((l.take hi).drop lo)) (.slice a' (hi-lo) c'):=by
 rcases ha with h0|⟨b,o,rfl,rfl,hc⟩
 ·have:(l.take hi).drop lo=[]:=ja (by simp;omega);rw[this,h0];exact .eM _ _
 ·by_cases h0:hi-lo=0
  ·have:(l.take hi).drop lo=[]:=ja (by simp;omega);rw[this,h0];exact .eM _ _
  ·cases h with
   |eM=>omega
   |ah val hS hcap hl' hca hr=>
    have hlen:((l.take hi).drop lo).length=hi-lo:=by simp;omega
    have hget:∀i x,((l.take hi).drop lo)[i]?=some x->l[lo+i]?=some x:=fun i x hi=>by
     simp only[iK,eI]at hi;split at hi
     ·exact hi
     ·simp at hi
    rw[<-hlen];exact .ah (fun i=>val (lo+i)) hS (by rw[hlen];omega) (fun i x hi=>hl' _ _ (hget i x hi))
     (fun i hi=>by
       have:=hca (lo+i) (by rw[hlen]at hi;omega)
       rwa [ek,<-jY]at this)
     (fun i x hi=>hr _ _ (hget i x hi))
theorem aCY{P:Program}{H:List (Ob K)}(hs:aY D ρ S w H){t:TypeId}{x v:AV K}{lo hi:Option (AV K)}{c:Bool}{X:Value}{LO HI:Option Value}
 (h:Qx P H t x lo hi=some (v,c)) (hc:c=true) (hx:Rep D ρ S w x X) (hlo:rx D ρ S w lo LO) (hhi:rx D ρ S w hi HI):
 ∃u,(Instr.sliceAt t X LO HI none).run P w=.ok u w/\Rep D ρ S w v u:=by unfold Qx at h;cases h
theorem aCZ{P:Program}{H:List (Ob K)}(hD:bW D)(hs:aY D ρ S w H){t:TypeId}{x v:AV K}{lo hi:Option (AV K)}{c:Bool}{X:Value}{LO HI:Option Value}
 (h:Qw P t x lo hi=some (v,c)) (hc:c=true) (hx:Rep D ρ S w x X) (hlo:rx D ρ S w lo LO) (hhi:rx D ρ S w hi HI):
 ∃u,(Instr.sliceAt t X LO HI none).run P w=.ok u w/\Rep D ρ S w v u:=by
 unfold Qw at h;split at h
 ·rename_i s hu;obtain rfl:=gX hx;split at h
  ·rename_i l hh' hl hh;simp only[aD,bj]at h;obtain⟨rfl,rfl⟩:=h;obtain⟨h1,h2,h3⟩:=QM hc;refine⟨_,?_,.str _⟩;have:=FR (P:=P) (isS:=false) (len:=s.length) (cap:=s.length) hl hh hlo hhi h1 h2 h3 (bY _);simp[Instr.sliceAt,Instr.slice,fg hu,FN,this,akz]
  ·cases h
 ·rename_i e cc s hu;split at h
  ·rename_i hsz;split at h
   ·rename_i l hh' hl hh;simp only[aD,bj]at h;obtain⟨rfl,rfl⟩:=h;obtain⟨h1,h2,h3⟩:=QM hc;have hlen:((s.take hh'.toNat).drop l.toNat).length=hh'.toNat-l.toNat:=by simp;omega
    cases hx with
    |eM a cap=>
     have:=FR (P:=P) (isS:=true) (len:=0) (cap:=cap) hl hh hlo hhi h1 h2 h3 (abo _);refine⟨_,by simp[Instr.sliceAt,Instr.slice,fg hu,nK hsz,this];rfl,?_⟩;have:hh'.toNat-l.toNat=0:=by simp at h3;omega
     simp only[List.take_nil,List.drop_nil];rw[this];exact .eM _ _
    |ah val hS hcap hl' hca hr=>
     rename_i b o cap;have hb:=FR (P:=P) (isS:=true) (len:=s.length) (cap:=cap) hl hh hlo hhi h1 h2 h3 hcap;refine⟨.slice (if cap=l.toNat then some ⟨b,o,none⟩else some ⟨b,o+l.toNat*K.sz cc,none⟩) (hh'.toNat-l.toNat) (cap-l.toNat),?_,?_⟩
     ·simp[Instr.sliceAt,Instr.slice,fg hu,nK hsz,hb]
     ·rw[<-hlen];by_cases h0:(s.take hh'.toNat).drop l.toNat=[]
      ·rw[h0];exact .eM _ _
      ·have hne:0<hh'.toNat-l.toNat:=by rw[<-hlen];exact List.length_pos_iff.2 h0
       rw[av (by omega)];have hget:∀i x,((s.take hh'.toNat).drop l.toNat)[i]?=some x->s[l.toNat+i]?=some x:=fun i x hi=>by
        simp only[iK,eI]at hi;split at hi
        ·exact hi
        ·simp at hi
       exact .ah (fun i=>val (l.toNat+i)) hS (by rw[hlen];omega) (fun i x hi=>hl' _ _ (hget i x hi))
        (fun i hi=>by
          have:=hca (l.toNat+i) (by rw[hlen]at hi;omega)
          rwa [ek,<-jY]at this)
        (fun i x hi=>hr _ _ (hget i x hi))
   ·cases h
  ·cases h
 ·cases h
def SliceAt(D:bP K)(ρ:List Value)(S:Nat->Prop)(w:World)(c:K.U)(l:List (K.El c))(X:Value):Prop:=
 ∃a cap,X=.slice a l.length cap/\(l≠[]->∃b o,a=some ⟨b,o,none⟩/\∀i x,l[i]?=some x->∃vs,vs.length=K.sz c/\il w b (o+i*K.sz c) vs/\bE D ρ S w (D.cells c x) vs)
theorem akB(hD:bW D){c:K.U}{l:List (K.El c)}{X:Value}(h:Rep D ρ S w (.ah c l) X):SliceAt D ρ S w c l X:=by
 cases h with
 |eM a cap=>exact⟨a,cap,rfl,fun h=>absurd rfl h⟩
 |ah val hS hcap hl hc hr=>
  exact⟨_,_,rfl,fun _=>⟨_,_,rfl,fun i x hx=>⟨val i,by rw[hl i x hx,hD.len],hc i (cz.1 hx).1,(hl i x hx).symm,hr i x hx⟩⟩⟩
theorem akC(hD:bW D){H:List (Ob K)}(hs:aY D ρ S w H){h:Nat}{c:K.U}{l:List (K.El c)}{X:Value}(ho:H[h]?=some (.arr c l))(hp:ρ[h]?=some X):SliceAt D ρ S w c l X:=by
 rcases zx hs ho hp with⟨rfl,rfl⟩|⟨b,o,cap,vs,T,fr,rfl,hblk,⟨hcap,eV⟩,hsz,hfr,hall⟩
 ·exact⟨none,0,rfl,fun h=>absurd rfl h⟩
 ·refine⟨_,_,rfl,fun _=>⟨b,o,rfl,fun i x hx=>⟨cQ vs (o+i*K.sz c) (K.sz c),?_,Aq hblk _ _,hall i x hx⟩⟩⟩;rw[<-(hall i x hx).1,hD.len]
theorem akD(hD:bW D){H:List (Ob K)}(hs:aY D ρ S w H){c:K.U}{x:AV K}{l:List (K.El c)}{X:Value}(h:elems H c x=some l)(hx:Rep D ρ S w x X):SliceAt D ρ S w c l X:=by
 unfold elems at h;split at h
 ·simp only[aD]at h;subst h;cases hx;exact⟨none,0,rfl,fun h=>absurd rfl h⟩
 ·rename_i c' l';cases hd:K.jR c' c with
  |isFalse hn=>simp[hd]at h
  |isTrue he=>subst he;simp[hd]at h;subst h;exact akB hD hx
 ·rename_i hh;split at h
  ·rename_i c' l' hob;cases hd:K.jR c' c with
   |isFalse hn=>simp[hd]at h
   |isTrue he=>subst he;simp[hd]at h;subst h;exact akC hD hs hob (lj hx).1
  ·cases h
 ·cases h
theorem akE{P:Program}{t ty e:TypeId}(ht:P.underlying t=some (.slice e)){c:K.U}{l:List (K.El c)}{X:Value}(h:SliceAt D ρ S w c l X):
 (Builtin.len_ #[t] ty #[X]).run P w=.ok (.int .i64 (l.length:Int)) w:=by
 obtain⟨a,cap,rfl,-⟩:=h;simp[Builtin.len_,fg ht,goInt]
theorem bytes_at(hD:bW D){c:K.U}{f:K.El c->UInt8}{g:UInt8->K.El c}(hb:D.byte c=some (f,g)){l:List (K.El c)}{a:Option Addr}{n cap:Nat}(h:SliceAt D ρ S w c l (.slice a n cap))(hne:l≠[]):
 n=l.length/\∃b o,a=some ⟨b,o,none⟩/\∀i,i<l.length->w.cell? ⟨b,o+i,none⟩=some (.int .u8 (((l.map f).map fun b=>(b.toNat:Int)).getD i 0)):=by
 obtain⟨a',cap',e,h⟩:=h;simp only[Value.slice.injEq]at e;obtain⟨rfl,rfl,rfl⟩:=e;obtain⟨b,o,rfl,h2⟩:=h hne;refine⟨rfl,b,o,rfl,fun i hi=>?_⟩;obtain⟨vs,hlen,hc,hr⟩:=h2 i l[i] (ct hi);have h1:K.sz c=1:=by rw[<-hD.len c l[i],(hD.byte c f g hb).1];rfl
 rw[h1,m8]at hc;rw[(hD.byte c f g hb).1]at hr;obtain⟨x,r,rfl,hx,-⟩:=hr.fE;have:=hc 0 x rfl;rw[Nat.add_zero]at this;rw[this,f7 hx];simp[List.getD,hi]
theorem aC0{P:Program}(hD:bW D){src dst e:TypeId}(h1:P.underlying src=some (.slice e))(h2:P.underlying dst=some .string)(h3:P.underlying e=some (.int .u8))
 {c:K.U} {f:K.El c->UInt8} {g:UInt8->K.El c} (hb:D.byte c=some (f,g)) {l:List (K.El c)} {X:Value} (h:SliceAt D ρ S w c l X):
 (convert src dst X).run P w=.ok (.string ⟨(l.map f).toArray⟩) w:=by
 obtain⟨a,cap,rfl,h'⟩:=h;by_cases hne:l=[]
 ·subst hne;cases a with
  |none=>rw[Go.run_convert_bytes_nil w src e h1 h3 _ _ dst h2];rfl
  |some a=>rw[run_convert_bytes_string w src dst e _ _ _ h1 h3 h2];simp[Conv.bytesToString,loadCells,loadCellsFrom,ByteArray.empty,ByteArray.emptyWithCapacity];rfl
 ·obtain⟨-,b,o,rfl,hc⟩:=bytes_at hD hb ⟨a,cap,rfl,h'⟩ hne;rw[run_convert_bytes_arg w src e h1 h3 b o l.length cap ((l.map f).map fun b=>(b.toNat:Int)) (by simp) hc dst h2];congr 2;apply ByteArray.ext;simp[strOfNums,zz]
theorem akF{P:Program}{k:IntKind}{a b:Int}{ats:Array TypeId}{ty:TypeId}:
 (Builtin.min_ ats ty #[.int k a,.int k b]).run P w=.ok (.int k (cond (decide (b<a)) b a)) w/\(Builtin.max_ ats ty #[.int k a,.int k b]).run P w=.ok (.int k (cond (decide (a<b)) b a)) w:=by
 constructor
 ·simp[Builtin.min_,Builtin.min2,List.foldlM]
 ·simp[Builtin.max_,Builtin.max2,List.foldlM]
theorem akG{ev:Operand->AV K}{ρe:Operand->Value}(h:∀x,Rep D ρ S w (ev x) (ρe x))(l:List Operand):bE D ρ S w (l.map ev) (l.map ρe):=
 ⟨by simp,fun i v x hv hx=>by
   simp only[f5,eN]at hv hx;obtain⟨o,ho,rfl⟩:=hv;obtain⟨o',ho',rfl⟩:=hx;rw[ho]at ho';simp at ho';subst ho';exact h o⟩
theorem LG{ev:Operand->AV K}{ρe:Operand->Value}(h:∀x,Rep D ρ S w (ev x) (ρe x))(o:Option Operand):rx D ρ S w (o.map ev) (o.map ρe):=by
 cases o with
 |none=>exact .none
 |some x=>exact .some (h x)
theorem kG{α:Type}{P:Program}{x:Sem α}{f:α->Next}{a:α}(h:x.run P w=.ok a w):(do pure (f (<-x)):Sem Next).run P w=.ok (f a) w:=by simp[h]
end Go.V
namespace Go.V
open Go
variable {K :db}{ρ:List Value}{S:Nat->Prop}{w:World}
theorem akH{cx:Cx K}{H:List (Ob K)}(hD:bW cx.D)(hs:aY cx.D ρ S w H){ev:Operand->AV K}{ρe:Operand->Value}(hev:∀x,Rep cx.D ρ S w (ev x) (ρe x)){o:Oper}{v:AV K}{c:Bool}
 (h:xk cx ev H o.op=some (v,c)) (hc:c=true):∃u,(execOp ρe o).run cx.P w=.ok (.value u) w/\Rep cx.D ρ S w v u:=by
 unfold xk at h;unfold execOp;split at h
 all_goals first|(cases h;done)|(rename_i hop;rw[hop];dsimp only)
 ·
  simp only[aD,bj]at h;obtain⟨rfl,rfl⟩:=h;exact⟨_,rfl,hev _⟩
 ·simp only[aD,bj]at h;obtain⟨rfl,rfl⟩:=h;exact⟨_,rfl,hev _⟩
 ·
  obtain⟨u,hu,hr⟩:=aCS h hc (hev _) (hev _);exact⟨u,kG (f:=.value) hu,hr⟩
 ·
  obtain⟨u,hu,hr⟩:=aCT (P:=cx.P) h (hev _);exact⟨u,kG (f:=.value) hu,hr⟩
 ·
  rename_i src dst x;have hx:=hev x;split at h
  ·rename_i d k k' n hsrc hd he;rw[he]at hx;simp only[aD,bj]at h;obtain⟨rfl,rfl⟩:=h;rw[f7 hx];refine⟨_,kG (f:=.value) (a:=.int k (k.wrap n)) ?_,.int _ _⟩;simp[convert,fg hd,fg hsrc,Conv.intToInt]
  ·rename_i d s hsrc hd he;rw[he]at hx;simp only[aD,bj]at h;obtain⟨rfl,rfl⟩:=h;rw[gX hx];refine⟨_,kG (f:=.value) (a:=.string ⟨s.toArray⟩) ?_,.str _⟩;simp[convert,fg hd,fg hsrc]
  ·rename_i e h1 h2 hns;split at h
   ·rename_i cc h3 hty;split at h
    ·rename_i f g l hb hl;simp only[aD,bj]at h;obtain⟨rfl,rfl⟩:=h;exact⟨_,kG (f:=.value) (aC0 hD h1 h2 h3 hb (akD hD hs hl hx)),.str _⟩
    ·cases h
   ·cases h
  ·cases h
 ·
  rename_i t i;have hx:=hev t;split at h
  ·rename_i l he;rw[he]at hx;simp only[eN,bj]at h;obtain⟨y,hy,rfl,rfl⟩:=h;generalize ρe t=X at hx⊢;cases hx with
   |bU hl hr=>
    rename_i vs;have hi:i<vs.length:=by rw[<-hl];exact(cz.1 hy).1
    refine⟨vs[i],kG (f:=.value) ?_,hr i y _ hy (ct hi)⟩;simp[Instr.extract,hi]
  ·cases h
 ·
  rename_i s x f;simp only[eN,bj]at h;obtain⟨y,hy,rfl,rfl⟩:=h;obtain⟨u,hu,hr⟩:=aCW hy (hev x);exact⟨u,kG (f:=.value) hu,hr⟩
 ·
  rename_i s x f;split at h
  ·rename_i fd cs hf he;simp only[eN,bj]at h;obtain⟨y,hy,rfl,rfl⟩:=h;have hx:=hev x;rw[he]at hx;generalize ρe x=X at hx⊢;cases hx with
   |agg hl hr=>
    rename_i vs;obtain⟨u,hu,hr'⟩:=QJ (P:=cx.P) (vs:=vs.toArray) hy ⟨by simpa using hl,by simpa using hr⟩;refine⟨u,kG (f:=.value) ?_,hr'⟩;unfold Ld at hf;split at hf
    ·rename_i fs hu';simp[Instr.field,fg hu',hf,asAgg,hu]
    ·cases hf
  ·cases h
 ·
  rename_i t p;split at h
  ·rename_i y hy;simp only[aD,bj]at h;obtain⟨rfl,rfl⟩:=h;obtain⟨u,hu,hr⟩:=aky hD hs hy (hev p);exact⟨u,kG (f:=.value) hu,hr⟩
  ·subst hc;obtain⟨u,hu,hr⟩:=aCV hD hs h (hev p);exact⟨u,kG (f:=.value) hu,hr⟩
 ·
  rename_i t x i;obtain⟨u,hu,hr⟩:=aCX hD hs h hc (hev x) (hev i);exact⟨u,kG (f:=.value) hu,hr⟩
 ·
  rename_i t x i;have hx:=hev x;have hi:=hev i;split at h
  ·rename_i s k n hu he hi';rw[he]at hx;rw[hi']at hi;simp only[aD,bj]at h;obtain⟨rfl,rfl⟩:=h;rw[gX hx,f7 hi];obtain⟨h1,h2,h3⟩:=FQ hc;refine⟨_,kG (f:=.value) (a:=.int .u8 ((s.getD n.toNat 0).toNat:Int)) ?_,.int _ _⟩;have hg:(ByteArray.mk s.toArray)[n.toNat]?=some (s.getD n.toNat 0):=by
    rw[getElem?_pos (c:=ByteArray.mk s.toArray) (i:=n.toNat) (h:=by simpa [ByteArray.size]using h3)];simp[List.getD,h3,ByteArray.getElem_eq_getElem_data]
   simp[Instr.index,asIntOf,fg hu,h1,hg]
  ·cases h
 ·
  rename_i t x lo hi;split at h
  ·rename_i r hr0;simp only[aD]at h;subst h;obtain⟨u,hu,hr⟩:=aCZ hD hs hr0 hc (hev x) (LG hev lo) (LG hev hi);exact⟨u,kG (f:=.value) hu,hr⟩
  ·split at h
   ·obtain⟨u,hu,hr⟩:=aCY hs h hc (hev x) (LG hev lo) (LG hev hi);exact⟨u,kG (f:=.value) hu,hr⟩
   ·cases h
 ·
  rename_i x;have hx:=hev x;split at h
  ·rename_i hh o he;simp only[aD,bj]at h;obtain⟨rfl,rfl⟩:=h;rw[he]at hx;obtain⟨b,e,hb⟩:=tU hx;rw[e];exact⟨_,rfl,.ptr hb⟩
  ·rename_i c' y o he;simp only[aD,bj]at h;obtain⟨rfl,rfl⟩:=h;rw[he]at hx;obtain⟨b,o',vs,e,-⟩:=akr hx;rw[e]at hx⊢;exact⟨_,rfl,hx⟩
  ·rename_i hh s i o he;simp only[aD,bj]at h;obtain⟨rfl,rfl⟩:=h;rw[he]at hx;obtain⟨b,o',n,cp,e,hb,hi⟩:=Ap hx;rw[e]at hx⊢;exact⟨_,rfl,hx⟩
  ·cases h
 ·
  rename_i f first caps
  split at h
  ·rename_i hf;simp only[aD,bj]at h;obtain⟨rfl,rfl⟩:=h;have h0:first= #[]:=by simpa using hf
   subst h0;have:=akG hev caps.toList;refine⟨_,kG (f:=.value) (a:=.func (.func f) #[] (caps.toList.map ρe).toArray) ?_,.fn this.1 this.2⟩;simp[Instr.makeFunc];cases caps;simp
  ·cases h
 ·
  rename_i args argTypes;split at h
  ·rename_i x t hx ht;have hxx:=hev x;have ea:args= #[x]:=by rw[<-Array.toArray_toList (xs:=args),hx]
   have et:argTypes= #[t]:=by rw[<-Array.toArray_toList (xs:=argTypes),ht]
   subst ea;subst et;have key:∀(n:Nat),(Builtin.len_ #[t] o.type #[ρe x]).run cx.P w=.ok (.int .i64 (n:Int)) w->
    ((do let d<-resolve ρe {callee:=.builtin .len,args:= #[x],argTypes:= #[t]} o.type;invoke d.target d.args:Sem Next)).run cx.P w=.ok (.value (.int .i64 (n:Int))) w:=fun n hn=>by
    simp[resolve,invoke,builtin,hn]
   split at h
   ·rename_i s hu he;rw[he]at hxx;simp only[aD,bj]at h;obtain⟨rfl,rfl⟩:=h;exact⟨_,key _ (by rw[gX hxx];simp[Builtin.len_,fg hu,goInt,FN]),.int _ _⟩
   ·rename_i e hu he;rw[he]at hxx;simp only[aD,bj]at h;obtain⟨rfl,rfl⟩:=h;refine⟨_,key 0 ?_,.int _ _⟩;generalize ρe x=X at hxx⊢;cases hxx;simp[Builtin.len_,fg hu,goInt]
   ·rename_i e c' l hu he;rw[he]at hxx;simp only[aD,bj]at h;obtain⟨rfl,rfl⟩:=h;exact⟨_,key _ (akE hu (akB hD hxx)),.int _ _⟩
   ·rename_i e v1 v2 v3 v4 hu he;rw[he]at hxx;simp only[aD,bj]at h;obtain⟨rfl,rfl⟩:=h;refine⟨_,key (v4-v3) ?_,.int _ _⟩;generalize ρe x=X at hxx⊢;cases hxx;simp[Builtin.len_,fg hu,goInt]
   ·rename_i e hh hu he;rw[he]at hxx;split at h
    ·rename_i c' l hob;simp only[aD,bj]at h;obtain⟨rfl,rfl⟩:=h;exact⟨_,key _ (akE hu (akC hD hs hob (lj hxx).1)),.int _ _⟩
    ·rename_i c' l hob;simp only[aD,bj]at h;obtain⟨rfl,rfl⟩:=h;have hT:Tree cx.D w c' l (ρe x):=hs.ob _ _ _ hob (lj hxx).1;obtain⟨a,cp,e⟩:=akp hT;exact⟨_,key _ (by rw[e];simp[Builtin.len_,fg hu,goInt]),.int _ _⟩
    ·cases h
   ·cases h
  ·cases h
 all_goals
  rename_i args argTypes;split at h
  ·rename_i x y hxy;have hxx:=hev x;have QO:=hev y;have ea:args= #[x,y]:=by rw[<-Array.toArray_toList (xs:=args),hxy]
   subst ea;split at h
   ·rename_i k a k' b he1 he2;rw[he1]at hxx;rw[he2]at QO;split at h
    ·rename_i hk;subst hk;simp only[aD,bj]at h;obtain⟨rfl,rfl⟩:=h
     first
      |(refine⟨_,?_,.int _ _⟩;simp[resolve,invoke,builtin,f7 hxx,f7 QO,akF.1];done)
      |(refine⟨_,?_,.int _ _⟩;simp[resolve,invoke,builtin,f7 hxx,f7 QO,akF.2];done)
    ·cases h
   ·cases h
  ·cases h
end Go.V
