/-
  A VALUE-LEVEL READING OF THE LOADED CODE: abstract values, objects, operations, and a function 'execC' that runs a body on them. Nothing here speaks of one program: the program is a parameter. The proofs that what it yields is what the machine does are in the texts that follow.
-/
import Derived.WalkKit
import Derived.KernelRfl
import Derived.Orders
import Derived.MapKept
import Derived.Laws.Tables
import Derived.Lib.Strings
import Derived.Laws.BytesArg
import Derived.Laws.StructEq
namespace Go.V
open Go
structure bL where
 U:Type
 El:U->Type
 ee:DecidableEq U
 sz:U->Nat
 zero:(c:U)->El c
inductive AV (K:bL) where
 |any
 |int (k:IntKind) (n:Int)
 |bool (b:Bool)
 |str (s:List UInt8)
 |bN
 |bO
 |mp
 |fn (f:Nat) (caps:List (AV K))
 |ptr (h off:Nat)
 |sl (h:Nat)
 |ep (h st i off:Nat)
 |au (c:K.U) (l:List (K.El c))
 |rp (c:K.U) (x:K.El c) (off:Nat)
 |agg (l:List (AV K))
 |bc (l:List (AV K))
 |opt (g:Nat) (want:Bool) (v:AV K)
 |np (h:Nat)
 |vw (h st lo hi:Nat)
inductive Ob (K:bL) where
 |dead
 |box (cells:List (AV K))
 |arr (c:K.U) (l:List (K.El c))
 |cT (c:K.U) (l:List (K.El c))
 |tree (c:K.U) (l:List (K.El c))
 |opn (c:K.U) (l:List (K.El c)) (i off:Nat) (cs:List (AV K))
 |dt (c:K.U) (x:K.El c)
 |bf (t:TypeId) (m:Nat) (l:List (List Int×Int))
structure Base where
 inv:(Nat->Prop)->World->Prop
 mono:∀{S S':Nat->Prop}{w w':World},(∀b,S b->S' b)->(∀b,S b->w'.heap[b]?=w.heap[b]?)->inv S w->inv S' w'
def Base.yd:Base:=⟨fun _ _=>True,fun _ _ h=>h⟩
structure aT (K:bL) where
 cells:(c:K.U)->K.El c->List (AV K)
 dec:(c:K.U)->List (AV K)->Option (K.El c×Bool)
 byte:(c:K.U)->Option ((K.El c->UInt8)×(UInt8->K.El c))
 find:List (AV K)->Option K.U
 base:Base:=Base.yd
 jL:Option TypeId:=none
 fN:K.U->Option TypeId:=fun _=>none
variable {K :bL}
def AV.aZ:AV K->List (AV K)
 |.agg l=>l
 |v=>[v]
def AV.known:AV K->Bool
 |.any|.opt ..=>false
 |_=>true
def AV.dU:AV K->Bool
 |.opt ..=>true
 |_=>false
def AV.one:AV K->Bool
 |.any|.opt .. |.agg _|.bc _|.vw ..=>false
 |_=>true
structure St (K:bL) where
 tm:List (AV K)
 H:List (Ob K)
 ok:Bool
inductive Ex where
 |normal
 |exit (id:Nat)
 |ret
def Ex.eY:Ex->Exit
 |.normal=>.normal
 |.exit id=>.exit id
 |.ret=>.ret
structure bk (K:bL) where
 n:Nat
 ins:List Nat
 outs:List Nat
 run:{R:Type}->List (AV K)->List (Ob K)->(Ex->List (AV K)->List (Ob K)->Option R)->Option R
inductive Mode where
 |plain|dN|wi|pass|fG|fresh
 deriving DecidableEq
def c9{R:Type}(a b:Option R):Option R:=match a with
 |none=>b
 |some r=>some r
theorem Nj{R:Type}{a b:Option R}{r:R}(h:c9 a b=some r):a=some r\/b=some r:=by
 cases a with
 |none=>exact .inr h
 |some x=>exact .inl h
def dn(n:Int):Bool:=decide (-9223372036854775808<=n)&&decide (n<=9223372036854775807)
def cb(m:Nat)(ks:List Int):Bool:=Nat.beq ks.length m&&ks.all dn
def dc:List Int->Value
 |[a]=>.int .i64 a
 |l=>.agg (l.map (Value.int .i64)).toArray
def bJ:List (List Int×Int)->List Int->Nat
 |[],_=>0
 |p::r,ks=>bif p.1==ks then 0 else bJ r ks+1
def bU(l:List (List Int×Int))(ks:List Int):Int:=(l.getD (bJ l ks) ([],0)).2
def du(l:List (List Int×Int))(ks:List Int):Bool:=decide (bJ l ks<l.length)
def dr(l:List (List Int×Int))(ks:List Int):List (List Int×Int):=bif du l ks then l else l++[(ks,0)]
def dS(l:List (List Int×Int))(i:Nat)(v:Int):List (List Int×Int):=l.set i ((l.getD i ([],0)).1,v)
def fD(l:List (List Int×Int))(ks:List Int)(v:Int):List (List Int×Int):=dS (dr l ks) (bJ l ks) v
def cO:Nat->List (List Int×Int)->List MapEntry
 |_,[]=>[]
 |n,p::r=>{key:=dc p.1,val:=.int .i64 p.2,born:=n}::cO (n+1) r
structure kn (P:Program) (t:TypeId) (m:Nat):Prop where
 ex:∃k e,P.underlying t=some (.map k e)/\(∀w,(zeroValue e).run P w=.ok (.int .i64 0) w)/\(∀w em ks,cb m ks=true->(Instr.checkKey em 10000 k (dc ks)).run P w=.ok () w)/\
  (∀w ks,cb m ks=true->(Instr.keyThatStays (dc ks) (dc ks)).run P w=.ok (dc ks) w)/\
  ∀w ks l n,cb m ks=true->(∀p∈l,cb m p.1=true)->l.Pairwise (fun p q=>p.1≠q.1)->(Instr.findKey k (dc ks) (cO n l)).run P w=.ok (bif du l ks then some (bJ l ks,.int .i64 (bU l ks))else none) w
structure Cx (K:bL) where
 P:Program
 D:aT K
 ty:TypeId->Option K.U
 call:FuncId->List (AV K)->List (Ob K)->Option (AV K×List (Ob K)×Bool)
 mode:FuncId->Mode
 loop:Nat->Option (bk K)
 ei:TypeId->List (Option K.U)
 cut:Bool:=false
 cq:List (List (Option K.U)):=[]
 Nk:List Bool:=[]
 mv:Bool:=false
 deep:K.U->Bool:=fun _=>false
 opn:Bool:=false
 K6:Bool:=false
 K7:Bool:=false
 lz:Bool:=false
 alt:Bool->FuncId->List (AV K)->List (Ob K)->Option (AV K×List (Ob K)×Bool):=fun _ _ _ _=>none
 jM:Bool->FuncId->Mode:=fun _=>mode
 ry:{R:Type}->Option R->Option R->Option R:=fun a b=>c9 a b
 gs:List (Nat×Bool):=[]
 maps:(t:TypeId)->Option {m:Nat//kn P t m}:=fun _=>none
 zJ:Option Nat:=none
def known(cx:Cx K)(g:Nat):Option Bool:=(cx.gs.find? fun p=>p.1==g).map (·.2)
mutual
def fO:Value->Option (AV K)
 |.bool b=>some (.bool b)
 |.int k n=>some (.int k n)
 |.string s=>some (.str s.data.toList)
 |.pointer none=>some .bN
 |.slice none 0 0=>some .bO
 |.map none=>some .mp
 |.agg cs=>(tP cs.toList).map .agg
 |_=>none
def tP:List Value->Option (List (AV K))
 |[]=>some []
 |v::r=>match fO v,tP r with
  |some x,some l=>some (x::l)
  |_,_=>none
end
def covers(tm:List (AV K)):Nat->Nat×Bool->Nat×Bool->Bool
 |0,g,t=>g.1==t.1&&g.2==t.2
 |n+1,g,t=>(g.1==t.1&&g.2==t.2)||(match tm[g.1]? with
  |some (.opt g1 w1 _)=>covers tm n (g1,w1) t
  |_=>false)
def ca(tm:List (AV K))(gs:List (Nat×Bool)):Operand->AV K
 |.tmp t=>match tm[t]? with
   |some (.opt g w v)=>if gs.any (fun p=>covers tm 6 p (g,w))then v else .any
   |some v=>v
   |none=>.any
 |.const v=>(fO v).getD .any
 |.global _=>.any
 |.func f=>.fn f []
def rz(tm:List (AV K)):Nat->Nat×Bool->Option Bool
 |0,_=>none
 |n+1,(g,w)=>match tm[g]? with
  |some (.bool b)=>some (b==w)
  |some (.opt g1 w1 (.bool b))=>(rz tm n (g1,w1)).map fun e=>e&&(b==w)
  |_=>none
mutual
def merge(b:Bool):AV K->AV K->AV K
 |.int k m,.int k' n=>if k=k' then .int k (cond b m n)else .any
 |.bool m,.bool n=>.bool (cond b m n)
 |.str m,.str n=>.str (cond b m n)
 |.au c l,.au c' l'=>match K.ee c c' with
   |.isTrue h=>.au c' (cond b (h ▸ l) l')
   |.isFalse _=>.any
 |.agg l,.agg l'=>if l.length=l'.length then .agg (merges b l l')else .any
 |.bO,.bO=>.bO
 |.bN,.bN=>.bN
 |_,_=>.any
def merges(b:Bool):List (AV K)->List (AV K)->List (AV K)
 |x::r,y::s=>merge b x y::merges b r s
 |_,_=>[]
end
def ny(op:BinOp)(k:IntKind)(x y:Int):Int:=
 let a:=BitVec.ofInt k.bits x
 let b:=BitVec.ofInt k.bits y
 k.wrap ((match op with
   |.and=>(a&&& b)|.or=>(a|||b)|.xor=>(a^^^b)|_=>(a&&& ~~~b)).toNat)
def Nl(k:IntKind)(x y:Int):Int:=k.wrap (x*2^(min y.toNat k.bits))
def Nn(k:IntKind)(x y:Int):Int:=x.fdiv (2^(min y.toNat k.bits))
def Np(a b:List UInt8):Bool:=decide (a.length+b.length<=4611686018427387904)
def tQ(a b:List UInt8):Bool:=Op.bytesLess a b
def BK(op:BinOp)(k:IntKind)(a b:Int):Option (AV K×Bool):=
 match op with
 |.add=>some (.int k (k.wrap (a+b)),true)
 |.sub=>some (.int k (k.wrap (a-b)),true)
 |.mul=>some (.int k (k.wrap (a*b)),true)
 |.quo=>some (.int k (k.wrap (a.tdiv b)),b !=0)
 |.rem=>some (.int k (a.tmod b),b !=0)
 |.and|.or|.xor|.andNot=>some (.int k (ny op k a b),true)
 |.eql=>some (.bool (a==b),true)
 |.neq=>some (.bool (a !=b),true)
 |.lss=>some (.bool (decide (a<b)),true)
 |.leq=>some (.bool (decide (a<=b)),true)
 |.gtr=>some (.bool (decide (b<a)),true)
 |.geq=>some (.bool (decide (b<=a)),true)
 |.shl|.shr=>none
def BL(op:BinOp)(a b:List UInt8):Option (AV K×Bool):=
 match op with
 |.add=>some (.str (a++b),Np a b)
 |.eql=>some (.bool (a==b),true)
 |.neq=>some (.bool (!(a==b)),true)
 |.lss=>some (.bool (tQ a b),true)
 |.leq=>some (.bool (tQ a b||a==b),true)
 |.gtr=>some (.bool (!(tQ a b||a==b)),true)
 |.geq=>some (.bool (!tQ a b),true)
 |_=>none
def Nq(P:Program)(t:TypeId):Bool:=P.underlying t matches some .string
def BM(P:Program)(t:TypeId):Bool:=P.underlying t matches some .bool
def BN(op:UnOp):AV K->Option (AV K×Bool)
 |.bool b=>match op with
   |.not=>some (.bool (!b),true)
   |_=>none
 |.int k n=>match op with
   |.neg=>some (.int k (k.wrap (0-n)),true)
   |.xor=>some (.int k (ny .xor k (if k.signed then -1 else k.max) n),true)
   |_=>none
 |_=>none
def bY(P:Program)(t:TypeId):Option Nat:=(P.info? t).map (·.size)
def wL(P:Program)(t:TypeId):Option Bool:=
 match P.underlying t with
 |some (.struct _)|some (.array _ _)=>some true
 |some _=>some false
 |none=>none
def wM(P:Program)(t:TypeId)(f:Nat):Option Field:=
 match P.underlying t with
 |some (.struct fs)=>fs[f]?
 |_=>none
def elemOf?(P:Program)(t:TypeId):Option TypeId:=
 match P.underlying t with
 |some (.slice e)=>some e
 |_=>none
def zeroOf(P:Program)(t:TypeId):Option (AV K):=
 match P.info? t with
 |some i=>match i.zero with
  |some v=>fO v
  |none=>none
 |none=>none
def rA(P:Program)(t:TypeId):Option IntKind:=
 match P.underlying t with
 |some (.int k)=>some k
 |_=>none
def fl(P:Program)(t:TypeId)(cs:List (AV K))(off:Nat):Option (AV K):=
 match wL P t,bY P t with
 |some true,some n=>if off+n<=cs.length then some (.agg ((cs.drop off).take n))else none
 |some false,some _=>cs[off]?
 |_,_=>none
def tR(P:Program)(rec:TypeId->AV K->AV K->Option Bool)(xs ys:List (AV K)):List Field->Option Bool
 |[]=>some true
 |f::fs=>if f.name= "_" then none else
  match fl P f.type xs f.offset,fl P f.type ys f.offset with
  |some a,some b=>match rec f.type a b,tR P rec xs ys fs with
   |some p,some q=>some (p&&q)
   |_,_=>none
  |_,_=>none
def rC(P:Program):Nat->TypeId->AV K->AV K->Option Bool
 |0,_,_,_=>none
 |n+1,t,.int k a,.int k' b=>if k=k' then(match P.underlying t with
  |some (.int _)=>some (a==b)
  |_=>none)else none
 |n+1,t,.bool a,.bool b=>(match P.underlying t with
  |some .bool=>some (a==b)
  |_=>none)
 |n+1,t,.str a,.str b=>(match P.underlying t with
  |some .string=>some (a==b)
  |_=>none)
 |n+1,t,.agg xs,.agg ys=>(match P.underlying t with
  |some (.struct fs)=>if P.stoodInHeld t then none else tR P (rC P n) xs ys fs.toList
  |_=>none)
 |_+1,_,_,_=>none
def BO(P:Program)(t:TypeId):Bool:=P.underlying t matches some (.pointer _)
def rD(P:Program)(op:BinOp)(t:TypeId)(e:Bool):Option (AV K×Bool):=if BO P t then(match op with
 |.eql=>some (.bool e,true)
 |.neq=>some (.bool (!e),true)
 |_=>none)else none
def BP(P:Program)(op:BinOp)(t:TypeId):AV K->AV K->Option (AV K×Bool)
 |.int k a,.int k' b=>match op with
   |.shl=>some (.int k (Nl k a b),decide (0<=b))
   |.shr=>some (.int k (Nn k a b),decide (0<=b))
   |_=>if k=k' then BK op k a b else none
 |.bool a,.bool b=>if BM P t then(match op with
   |.eql=>some (.bool (a==b),true)
   |.neq=>some (.bool (!(a==b)),true)
   |_=>none)else none
 |.str a,.str b=>BL op a b
 |.agg a,.agg b=>match op with
   |.eql=>if P.eqGuardType P.depth t then none else(rC P 6 t (.agg a) (.agg b)).map fun e=>(.bool e,true)
   |.neq=>if P.eqGuardType P.depth t then none else(rC P 6 t (.agg a) (.agg b)).map fun e=>(.bool (!e),true)
   |_=>none
 |.bN,.bN=>rD P op t true
 |.ptr _ _,.bN=>rD P op t false
 |.rp _ _ _,.bN=>rD P op t false
 |.ep _ _ _ _,.bN=>rD P op t false
 |_,_=>none
def inB(n:Int)(len:Nat):Bool:=decide (0<=n)&&decide (n<len)
def bV(lo hi:Int)(len:Nat):Bool:=decide (0<=lo)&&(decide (lo<=hi)&&decide (hi<=len))
mutual
def AV.closed:AV K->Bool
 |.int .. |.bool _|.str _|.bN|.bO|.mp|.au .. |.rp .. |.any=>true
 |.ptr .. |.sl _|.ep .. |.opt .. |.np _|.vw ..=>false
 |.fn _ l|.agg l|.bc l=>dz l
def dz:List (AV K)->Bool
 |[]=>true
 |v::r=>v.closed&&dz r
end
def nz(H:List (Ob K)):AV K->AV K
 |.sl h=>match H[h]? with
   |some (.arr c l)=>.au c l
   |some (.cT c l)=>.au c l
   |some (.tree c l)=>.au c l
   |_=>.any
 |v=>v
mutual
def dN(D:aT K)(H:List (Ob K)):AV K->AV K
 |.sl h=>match H[h]? with
   |some (.arr c l)=>.au c l
   |some (.cT c l)=>.au c l
   |some (.tree c l)=>.au c l
   |_=>.any
 |.ptr h off=>match H[h]? with
   |some (.box cs)=>match D.find (cs.map (nz H))with
    |some c=>match D.dec c (cs.map (nz H))with
     |some (x,true)=>.rp c x off
     |_=>.any
    |none=>.any
   |_=>.any
 |.vw h st lo hi=>match H[h]? with
   |some (.arr c l)=>if st=K.sz c then .au c ((l.take hi).drop lo)else .any
   |some (.tree c l)=>if st=K.sz c then .au c ((l.take hi).drop lo)else .any
   |_=>.any
 |.fn g l=>.fn g (cX D H l)
 |.agg l=>.agg (cX D H l)
 |.bc l=>.bc (cX D H l)
 |v=>v
def cX(D:aT K)(H:List (Ob K)):List (AV K)->List (AV K)
 |[]=>[]
 |v::r=>dN D H v::cX D H r
end
def elems(H:List (Ob K))(c:K.U):AV K->Option (List (K.El c))
 |.bO=>some []
 |.au c' l=>match K.ee c' c with
   |.isTrue h=>some (h ▸ l)
   |.isFalse _=>none
 |.sl h=>match H[h]? with
   |some (.arr c' l)=>match K.ee c' c with
    |.isTrue h=>some (h ▸ l)
    |.isFalse _=>none
   |_=>none
 |_=>none
def setCells(cs:List (AV K))(off:Nat):List (AV K)->List (AV K)
 |[]=>cs
 |v::r=>setCells (cs.set off v) (off+1) r
mutual
def hands:AV K->List Nat
 |.ptr h _|.sl h|.ep h _ _ _|.np h|.vw h _ _ _=>[h]
 |.agg l|.bc l|.fn _ l=>bg l
 |_=>[]
def bg:List (AV K)->List Nat
 |[]=>[]
 |v::r=>hands v++bg r
end
def nA(H:List (Ob K))(h:Nat):List (Ob K):=
 match H[h]? with
 |some (.arr c l)=>H.set h (.cT c l)
 |some (.tree c l)=>H.set h (.cT c l)
 |_=>H
def eb(H:List (Ob K)):List Nat->List (Ob K)
 |[]=>H
 |h::r=>eb (nA H h) r
mutual
def bW(H:List (Ob K)):AV K->AV K
 |.sl h=>match H[h]? with
   |some (.cT c l)=>.au c l
   |_=>.sl h
 |.vw h st lo hi=>match H[h]? with
   |some (.cT c l)=>if st=K.sz c then .au c ((l.take hi).drop lo)else .vw h st lo hi
   |_=>.vw h st lo hi
 |.ptr h o=>match H[h]? with
   |some (.dt c x)=>.rp c x o
   |_=>.ptr h o
 |.agg l=>.agg (gw H l)
 |.bc l=>.bc (gw H l)
 |v=>v
def gw(H:List (Ob K)):List (AV K)->List (AV K)
 |[]=>[]
 |v::r=>bW H v::gw H r
end
def thaw(dp:K.U->Bool)(H:List (Ob K)):List (Option K.U)->List (AV K)->List (AV K)×List (Ob K)
 |some c::cs,.bO::r=>match thaw dp (H++[cond (dp c) (.tree c []) (.arr c [])]) cs r with
  |(l,H')=>(.sl H.length::l,H')
 |_::cs,v::r=>match thaw dp H cs r with
  |(l,H')=>(v::l,H')
 |[],l=>(l,H)
 |_,[]=>([],H)
def cY(dp:K.U->Bool)(H:List (Ob K)):List (List (Option K.U))->List (AV K)->List (AV K)×List (Ob K)
 |cs::css,.agg l::r=>match thaw dp H cs l with
  |(l',H1)=>match cY dp H1 css r with
   |(s,H2)=>(.agg l'::s,H2)
 |cs::css,v::r=>match thaw dp H cs [v]with
  |(l',H1)=>match cY dp H1 css r with
   |(s,H2)=>(l'.headD v::s,H2)
 |[],l=>(l,H)
 |_,[]=>([],H)
def fm:List (AV K)->Bool
 |.np _::_=>true
 |_=>false
def tU(b:Bool)(h:Nat):List (AV K)->List (AV K)
 |.bN::r=>cond b (.np h) .bN::r
 |l=>l
mutual
def dA:AV K->Bool
 |.au .. |.rp ..=>true
 |.agg l|.bc l|.fn _ l=>bM l
 |_=>false
def bM:List (AV K)->Bool
 |[]=>false
 |v::r=>dA v||bM r
end
def wN(P:Program)(D:aT K)(H:List (Ob K))(t:TypeId):AV K->Option (AV K)
 |.ptr h off=>match H[h]? with
   |some (.box cs)=>fl P t cs off
   |_=>none
 |.rp c x off=>fl P t (D.cells c x) off
 |.ep h st i off=>match H[h]? with
   |some (.arr c l)=>if st=K.sz c then fl P t (D.cells c (l.getD i (K.zero c))) off else none
   |some (.tree c l)=>if st=K.sz c then(match fl P t (D.cells c (l.getD i (K.zero c))) off with
     |some v=>if dA v then none else some v
     |none=>none)else none
   |_=>none
 |_=>none
def BQ(P:Program)(H:List (Ob K))(t:TypeId):AV K->Option (AV K×Bool)
 |.ep h st i off=>match H[h]? with
   |some (.opn c l i' off' cs)=>if st=K.sz c/\off'<=off then(match fl P t (List.replicate off' .any++cs) off with
    |some v=>some (v,decide (i=i'))
    |none=>none)else none
   |_=>none
 |_=>none
mutual
def BR:AV K->AV K
 |.au .. |.rp ..=>.mp
 |.agg l=>.agg (tV l)
 |.bc l=>.bc (tV l)
 |.fn f l=>.fn f (tV l)
 |v=>v
def tV:List (AV K)->List (AV K)
 |[]=>[]
 |v::r=>BR v::tV r
end
def BS(P:Program)(D:aT K)(H:List (Ob K))(t:TypeId):AV K->Option (AV K)
 |.ep h st i off=>match H[h]? with
   |some (.tree c l)=>if st=K.sz c then(match fl P t (D.cells c (l.getD i (K.zero c))) off with
    |some (.agg vs)=>some (BR (.agg vs))
    |_=>none)else none
   |_=>none
 |_=>none
def BU(P:Program)(s:TypeId)(f:Nat)(x:AV K):Option (AV K):=
 match wM P s f with
 |some fd=>match bY P fd.type with
  |some (_+1)=>match x with
   |.ptr h off=>some (.ptr h (off+fd.offset))
   |.rp c x off=>some (.rp c x (off+fd.offset))
   |.ep h st i off=>some (.ep h st i (off+fd.offset))
   |_=>none
  |_=>none
 |none=>none
def BV(P:Program)(H:List (Ob K))(t:TypeId)(x i:AV K):Option (AV K×Bool):=
 match elemOf? P t,i with
 |some e,.int _ n=>match x with
  |.au c l=>if bY P e=some (K.sz c)then some (.rp c (l.getD n.toNat (K.zero c)) 0,inB n l.length)else none
  |.sl h=>match H[h]? with
    |some (.arr c l)=>if bY P e=some (K.sz c)then some (.ep h (K.sz c) n.toNat 0,inB n l.length)else none
    |some (.tree c l)=>if bY P e=some (K.sz c)then some (.ep h (K.sz c) n.toNat 0,inB n l.length)else none
    |_=>none
  |_=>none
 |_,_=>none
def eI(d:Int):Option (AV K)->Option Int
 |none=>some d
 |some (.int _ n)=>some n
 |some _=>none
def BW(P:Program)(t:TypeId)(x:AV K)(lo hi:Option (AV K)):Option (AV K×Bool):=
 match P.underlying t,x with
 |some .string,.str s=>match eI 0 lo,eI s.length hi with
  |some l,some h=>some (.str ((s.take h.toNat).drop l.toNat),bV l h s.length)
  |_,_=>none
 |some (.slice e),.au c s=>if bY P e=some (K.sz c)then match eI 0 lo,eI s.length hi with
  |some l,some h=>some (.au c ((s.take h.toNat).drop l.toNat),bV l h s.length)
  |_,_=>none else none
 |_,_=>none
def BX(P:Program)(H:List (Ob K))(t:TypeId)(x:AV K)(lo hi:Option (AV K)):Option (AV K×Bool):=
 match elemOf? P t,x with
 |some e,.sl h=>match H[h]? with
  |some (.arr c l)=>if bY P e=some (K.sz c)then match eI 0 lo,eI l.length hi with
   |some a,some b=>some (.vw h (K.sz c) a.toNat b.toNat,bV a b l.length)
   |_,_=>none else none
  |some (.tree c l)=>if bY P e=some (K.sz c)then match eI 0 lo,eI l.length hi with
   |some a,some b=>some (.vw h (K.sz c) a.toNat b.toNat,bV a b l.length)
   |_,_=>none else none
  |_=>none
 |_,_=>none
def rE:AV K->Option (List Int)
 |.int .i64 a=>some [a]
 |.agg [.int .i64 a,.int .i64 b]=>some [a,b]
 |_=>none
def pairT(P:Program)(t:TypeId):Bool:=match P.underlying t,P.info? t with
 |some (.array 2 e),some i=>(match i.zero,P.info? e with
  |some (.agg zs),some ie=>Nat.beq zs.size 2&&Nat.beq ie.size 1
  |_,_=>false)
 |_,_=>false
def iC(cx:Cx K)(ev:Operand->AV K)(H:List (Ob K)):Op->Option (AV K×Bool)
 |.move x|.assign x=>some (ev x,true)
 |.binOp op t x y _=>BP cx.P op t (ev x) (ev y)
 |.unOp op _ x=>BN op (ev x)
 |.convert src dst x=>match cx.P.underlying src,cx.P.underlying dst,ev x with
   |some _,some (.int k),.int _ n=>some (.int k (k.wrap n),true)
   |some _,some .string,.str s=>some (.str s,true)
   |some (.slice e),some .string,x=>match cx.P.underlying e,cx.ty e with
    |some (.int .u8),some c=>match cx.D.byte c,elems H c x with
     |some (f,_),some l=>some (.str (l.map f),true)
     |_,_=>none
    |_,_=>none
   |_,_,_=>none
 |.extract t i=>match ev t with
   |.bc l=>(l[i]?).map fun v=>(v,true)
   |_=>none
 |.fieldAddr s x f=>(BU cx.P s f (ev x)).map fun v=>(v,true)
 |.field s x f=>match wM cx.P s f,ev x with
   |some fd,.agg cs=>(fl cx.P fd.type cs fd.offset).map fun v=>(v,true)
   |_,_=>none
 |.load t p=>match wN cx.P cx.D H t (ev p)with
   |some v=>some (v,true)
   |none=>match BQ cx.P H t (ev p)with
    |some r=>some r
    |none=>if cx.opn then none else(BS cx.P cx.D H t (ev p)).map fun v=>(v,true)
 |.indexAddr t x i=>BV cx.P H t (ev x) (ev i)
 |.index t x i=>match cx.P.underlying t,ev x,ev i with
   |some .string,.str s,.int _ n=>some (.int .u8 ((s.getD n.toNat 0).toNat:Int),inB n s.length)
   |_,_,_=>none
 |.slice t x lo hi none=>match BW cx.P t (ev x) (lo.map ev) (hi.map ev)with
   |some r=>some r
   |none=>if cx.K6&&cond cx.K7 hi.isNone (hi.isSome|| !cx.cut)then BX cx.P H t (ev x) (lo.map ev) (hi.map ev)else none
 |.nilCheck x=>match ev x with
   |.ptr h o=>some (.ptr h o,true)
   |.rp c x o=>some (.rp c x o,true)
   |.ep h s i o=>some (.ep h s i o,true)
   |_=>none
 |.makeFunc (.func f) first caps=>if first.isEmpty then some (.fn f (caps.toList.map ev),true)else none
 |.build t parts=>if pairT cx.P t then match parts.toList with
     |[(0,x),(1,y)]=>match ev x,ev y with
       |.int .i64 a,.int .i64 b=>some (.agg [.int .i64 a,.int .i64 b],true)
       |_,_=>none
     |_=>none else none
 |.lookup t m x false=>match cx.maps t,ev m,rE (ev x)with
   |some ⟨k,_⟩,.sl h,some ks=>match H[h]? with
    |some (.bf t' k' l)=>if t'=t/\k'=k then some (.int .i64 (bU l ks),cb k ks)else none
    |_=>none
   |_,_,_=>none
 |.call {callee:=.builtin .len,args,argTypes}=>match args.toList,argTypes.toList with
   |[x],[t]=>match cx.P.underlying t,ev x with
     |some .string,.str s=>some (.int .i64 (s.length:Int),true)
     |some (.slice _),.bO=>some (.int .i64 0,true)
     |some (.slice _),.au _ l=>some (.int .i64 (l.length:Int),true)
     |some (.slice _),.vw _ _ a b=>some (.int .i64 ((b-a:Nat):Int),true)
     |some (.slice _),.sl h=>match H[h]? with
      |some (.arr _ l)=>some (.int .i64 (l.length:Int),true)
      |some (.tree _ l)=>some (.int .i64 (l.length:Int),true)
      |_=>none
     |_,_=>none
   |_,_=>none
 |.call {callee:=.builtin .min,args, ..}=>match args.toList with
   |[x,y]=>match ev x,ev y with
     |.int k a,.int k' b=>if k=k' then some (.int k (cond (decide (b<a)) b a),true)else none
     |_,_=>none
   |_=>none
 |.call {callee:=.builtin .max,args, ..}=>match args.toList with
   |[x,y]=>match ev x,ev y with
     |.int k a,.int k' b=>if k=k' then some (.int k (cond (decide (a<b)) b a),true)else none
     |_,_=>none
   |_=>none
 |_=>none
def Nr(D:aT K)(c:K.U)(e:TypeId):Bool:=match D.fN c with
 |none=>true
 |some t=>t==e
def ja(cx:Cx K)(e:TypeId):Option K.U:=match cx.ty e with
 |some c=>if Nr cx.D c e then some c else none
 |none=>none
def room(e:TypeId)(P:Program):Bool:=match P.info? e with
 |some i=>decide (i.bytes<=4096)
 |none=>false
def jb(D:aT K)(c:K.U):List (AV K)->Option (List (K.El c)×Bool)
 |[]=>some ([],true)
 |v::r=>match D.dec c v.aZ,jb D c r with
  |some (x,b),some (l,b')=>some (x::l,b&&b')
  |_,_=>none
def inOrder(ev:Operand->AV K):Nat->List (Nat×Operand)->Option (List (AV K))
 |_,[]=>some []
 |n,(i,x)::r=>if i=n then(inOrder ev (n+1) r).map (ev x::·)else none
def placesOf(P:Program)(t:TypeId):Option (List (Nat×Nat)):=
 match P.underlying t with
 |some (.struct fs)=>fs.toList.mapM (fun f=>(P.info? f.type).map fun i=>(f.offset,i.size))
 |_=>none
def rF(places:List (Nat×Nat))(ev:Operand->AV K)(cs:List (AV K)):List (Nat×Operand)->Option (List (AV K))
 |[]=>some cs
 |(i,x)::r=>match places[i]? with
  |some (off,n)=>if(ev x).known=true/\(ev x).aZ.length=n/\off+n<=cs.length then rF places ev (setCells cs off (ev x).aZ) r else none
  |none=>none
def iD(P:Program)(t:TypeId):Bool:=match P.info? t with
 |some i=>match i.zero with
  |some v=>v.cells.size==i.size
  |none=>false
 |none=>false
def source(D:aT K)(H:List (Ob K))(c:K.U):AV K->Option (List (K.El c))
 |.str s=>match D.byte c with
   |some (_,g)=>some (s.map g)
   |none=>none
 |v=>elems H c v
def wO(cx:Cx K)(H:List (Ob K))(sT:TypeId)(s x:AV K):Option (AV K×List (Ob K)×Bool×List Nat):=
 match elemOf? cx.P sT with
 |none=>none
 |some e=>match ja cx e with
  |none=>none
  |some c=>if bY cx.P e=some (K.sz c)/\room e cx.P=true/\iD cx.P e=true then
    match source cx.D H c x with
    |none=>none
    |some m=>match s with
     |.bO=>some (.sl H.length,H++[.arr c m],decide (m.length<=1073741824),[])
     |.sl h=>match x with
       |.sl h'=>if h=h' then none else match elems H c (.sl h)with
         |some l=>some (.sl H.length,H.set h .dead++[.arr c (l++m)],decide (l.length+m.length<=1073741824),[h])
         |none=>none
       |_=>match elems H c (.sl h)with
        |some l=>some (.sl H.length,H.set h .dead++[.arr c (l++m)],decide (l.length+m.length<=1073741824),[h])
        |none=>none
     |_=>none
   else none
def tW(cx:Cx K)(H:List (Ob K))(sT:TypeId)(s x:AV K):Option (AV K×List (Ob K)×Bool×List Nat):=
 match elemOf? cx.P sT,x with
 |some e,.int _ n=>match ja cx e,(zeroOf cx.P e:Option (AV K))with
  |some c,some z=>if bY cx.P e=some (K.sz c)/\room e cx.P=true/\0<K.sz c/\z.known=true/\z.aZ.all AV.one=true then
    match cx.D.dec c z.aZ,s with
    |some (y,b),.sl h=>match elems H c (.sl h)with
     |some l=>some (.sl H.length,H.set h .dead++[.arr c (l++List.replicate n.toNat y)],b&&(decide (0<=n)&&decide (l.length+n.toNat<=1073741824)),[h])
     |none=>none
    |_,_=>none
   else none
  |_,_=>none
 |_,_=>none
def eZ(ev:Operand->AV K):Op->List Nat
 |.buildSlice _ _ parts=>bg (parts.toList.map fun p=>ev p.2)
 |.store _ p x=>match ev p with
   |.ep ..=>hands (ev x)
   |_=>[]
 |.slice _ x _ _ _=>match ev x with
   |.sl h=>[h]
   |_=>[]
 |_=>[]
def Ns(P:Program)(t:TypeId):Bool:=match P.info? t with
 |some i=>(match i.zero with
  |some .nilFunc=>true
  |_=>false)
 |none=>false
def jN(cx:Cx K)(ev:Operand->AV K)(H:List (Ob K)):Op->Option (AV K×List (Ob K)×Bool×List Nat)
 |.box t x=>if(ev x).known then match thaw cx.deep H (cx.ei t) (ev x).aZ with
     |(cs,H1)=>if fm cs then none else some (.ptr H1.length 0,H1++[.box cs],true,[])else none
 |.alloc t=>match(zeroOf cx.P t:Option (AV K))with
   |some z=>if z.known then match thaw cx.deep H (cx.ei t) z.aZ with
    |(cs,H1)=>if fm cs then none else some (.ptr H1.length 0,H1++[.box (tU (cx.D.jL==some t) H1.length cs)],true,[])else none
   |none=>if Ns cx.P t then some (.ptr H.length 0,H++[.box [.any]],true,[])else none
 |.build t parts=>match placesOf cx.P t,(zeroOf cx.P t:Option (AV K))with
   |some ps,some z=>if z.known then(rF ps ev z.aZ parts.toList).map fun cs=>(.agg cs,H,true,[])else none
   |_,_=>none
 |.store t p x=>match bY cx.P t with
   |some n=>if(ev x).aZ.length=n/\(ev x).aZ.all AV.one=true then match ev p with
    |.ptr h off=>match H[h]? with
      |some (.box cs)=>if off+n<=cs.length then match thaw cx.deep H (cx.ei t) (ev x).aZ with
       |(xs,H1)=>if fm (setCells cs off xs)&& !fm cs then none else some (.any,H1.set h (.box (setCells cs off xs)),true,[h])else none
      |_=>none
    |.ep h st i off=>match H[h]? with
      |some (.arr c l)=>if st=K.sz c/\dz (ev x).aZ=true/\off+n<=K.sz c then
        match cx.D.dec c (setCells (cx.D.cells c (l.getD i (K.zero c))) off (ev x).aZ)with
        |some (y,b)=>some (.any,H.set h (.arr c (l.set i y)),b,[h])
        |none=>none
       else none
      |_=>none
    |_=>none else none
   |none=>none
 |.makeSlice t len cap=>match elemOf? cx.P t with
   |none=>none
   |some e=>match ja cx e,(zeroOf cx.P e:Option (AV K)),ev len,ev cap with
    |some c,some z,.int _ n,.int _ m=>if bY cx.P e=some (K.sz c)/\room e cx.P=true/\dz z.aZ=true/\z.known=true then
      match cx.D.dec c z.aZ with
      |some (y,b)=>some (.sl H.length,H++[.arr c (List.replicate n.toNat y)],b&&(decide (0<=n)&&(decide (n<=m)&&decide (m<=1073741824))),[])
      |none=>none
     else none
    |_,_,_,_=>none
 |.buildSlice t len parts=>match elemOf? cx.P t with
   |none=>none
   |some e=>match ja cx e,inOrder ev 0 parts.toList with
    |some c,some l=>if bY cx.P e=some (K.sz c)/\iD cx.P e=true/\l.length=len/\len<=4096/\K.sz c<=4096/\l.all (fun v=>dz v.aZ&&(v.known&&decide (v.aZ.length=K.sz c)))=true then
      match jb cx.D c l with
      |some (y,b)=>some (.sl H.length,H++[.arr c y],b,[])
      |none=>none
     else none
    |_,_=>none
 |.convert src dst x=>match cx.P.underlying src,elemOf? cx.P dst,ev x with
   |some .string,some e,.str s=>match cx.P.underlying e,ja cx e with
    |some (.int .u8),some c=>match cx.D.byte c with
     |some (_,g)=>if bY cx.P e=some (K.sz c)then some (.sl H.length,H++[.arr c (s.map g)],decide (s.length<=1073741824),[])else none
     |none=>none
    |_,_=>none
   |some (.slice _),some e,.sl h=>match cx.P.underlying e,H[h]? with
    |some (.int .u8),some (.arr c l)=>if src=dst/\(cx.D.fN c).isSome=true then some (.sl h,H,decide (1<=l.length),[])else none
    |_,_=>none
   |_,_,_=>none
 |.makeMap t none=>match cx.maps t with
   |some ⟨m,_⟩=>some (.sl H.length,H++[.bf t m []],true,[])
   |none=>some (.mp,H++[.dead],true,[])
 |.mapUpdate t m x y=>match cx.maps t,ev m,rE (ev x),ev y with
   |some ⟨k,_⟩,.sl h,some ks,.int .i64 z=>match H[h]? with
    |some (.bf t' k' l)=>if t'=t/\k'=k then some (.any,H.set h (.bf t k (fD l ks z)),cb k ks,[h])else none
    |_=>none
   |_,_,_,_=>none
 |.mapEntry t m x=>match cx.maps t,ev m,rE (ev x)with
   |some ⟨k,_⟩,.sl h,some ks=>match H[h]? with
    |some (.bf t' k' l)=>if t'=t/\k'=k then some (.bc [.int .i64 (bU l ks),.int .i64 (bJ l ks:Int)],H.set h (.bf t k (dr l ks)),cb k ks,[h])else none
    |_=>none
   |_,_,_=>none
 |.entryStore t m x y=>match cx.maps t,ev m,ev x,ev y with
   |some ⟨k,_⟩,.sl h,.int .i64 i,.int .i64 z=>match H[h]? with
    |some (.bf t' k' l)=>if t'=t/\k'=k then some (.any,H.set h (.bf t k (dS l i.toNat z)),inB i l.length,[h])else none
    |_=>none
   |_,_,_,_=>none
 |.call {callee:=.builtin .append,args,argTypes}=>match args.toList,argTypes.toList with
   |[s,x],[sT,xT]=>if(cx.P.underlying xT).isNone then none else if(rA cx.P xT).isSome then tW cx H sT (ev s) (ev x)else wO cx H sT (ev s) (ev x)
   |_,_=>none
 |.call {callee:=.builtin .clear,args,argTypes}=>match args.toList,argTypes.toList with
   |[x],[T]=>match ev x,elemOf? cx.P T with
     |.vw h st lo hi,some e=>match H[h]?,(zeroOf cx.P e:Option (AV K))with
       |some (.arr c l),some z=>if st=K.sz c/\bY cx.P e=some (K.sz c)/\z.aZ.all AV.one=true then match cx.D.dec c z.aZ with
         |some (y,b)=>some (.any,H.set h (.arr c (l.take lo++List.replicate (hi-lo) y++l.drop hi)),b&&decide (hi<=l.length),[h])
         |none=>none
        else none
       |_,_=>none
     |_,_=>none
   |_,_=>none
 |.call {callee:=.builtin .copy,args,argTypes}=>match args.toList,argTypes.toList with
   |[x,y],[T,_]=>match ev x,ev y,elemOf? cx.P T with
     |.vw h st lo hi,.str s,some e=>match H[h]? with
       |some (.arr c l)=>match cx.D.byte c with
        |some (_,g)=>if st=K.sz c/\bY cx.P e=some (K.sz c)then some (.int .i64 (s.length:Int),H.set h (.arr c (l.take lo++s.map g++l.drop (lo+s.length))),decide (hi<=l.length)&&decide (s.length<=hi-lo),[h])else none
        |none=>none
       |_=>none
     |_,_,_=>none
   |_,_=>none
 |_=>none
mutual
def jO:AV K->Bool
 |.sl _|.ptr .. |.ep .. |.np _|.vw ..=>true
 |.agg l|.bc l|.fn _ l=>nB l
 |_=>false
def nB:List (AV K)->Bool
 |[]=>false
 |v::r=>jO v||nB r
end
mutual
def cU(f:Nat->Option Nat):AV K->Option (AV K)
 |.ptr h o=>(f h).map (.ptr · o)
 |.sl h=>(f h).map .sl
 |.np h=>(f h).map .np
 |.ep h s i o=>(f h).map (.ep · s i o)
 |.vw h s a b=>(f h).map (.vw · s a b)
 |.fn g l=>(ek f l).map (.fn g)
 |.agg l=>(ek f l).map .agg
 |.bc l=>(ek f l).map .bc
 |.opt ..=>none
 |v=>some v
def ek(f:Nat->Option Nat):List (AV K)->Option (List (AV K))
 |[]=>some []
 |v::r=>match cU f v,ek f r with
  |some x,some l=>some (x::l)
  |_,_=>none
end
def ren(m:List Nat):AV K->Option (AV K):=cU fun h=>m.idxOf? h
def Nu(m:List Nat):List (AV K)->Option (List (AV K)):=ek fun h=>m.idxOf? h
def back(m:List Nat):AV K->Option (AV K):=cU fun h=>m[h]?
def aaA(m:List Nat):List (AV K)->Option (List (AV K)):=ek fun h=>m[h]?
def eJ(f:Nat->Option Nat):Ob K->Option (Ob K)
 |.box cs=>(ek f cs).map .box
 |.opn ..=>none
 |o=>some o
def wP(m:List Nat):Ob K->Option (Ob K):=eJ fun h=>m.idxOf? h
def nC(m:List Nat):Ob K->Option (Ob K):=eJ fun h=>m[h]?
def hZ(f:Ob K->Option (Ob K)):List (Ob K)->Option (List (Ob K))
 |[]=>some []
 |o::r=>match f o,hZ f r with
  |some x,some l=>some (x::l)
  |_,_=>none
def reach(H:List (Ob K)):Nat->List Nat->List Nat->List Nat
 |0,_,acc=>acc
 |_,[],acc=>acc
 |n+1,h::r,acc=>if acc.contains h then reach H n r acc else
   reach H n (r++(match H[h]? with|some (.box cs)=>bg cs|_=>[])) (acc++[h])
def nD(H:List (Ob K)):List Nat->Bool
 |[]=>true
 |h::m=>decide (h<H.length)&&(!m.contains h&&nD H m)
def eu:List (Ob K)->List Nat->List (Ob K)->List (Ob K)
 |H,h::m,o::r=>eu (H.set h o) m r
 |H,_,_=>H
def lA(D:aT K):Ob K->Bool
 |.arr c _=> !bM (D.cells c (K.zero c))
 |.tree ..=>true
 |.bf ..=>true
 |_=>false
def fP(cx:Cx K)(m:Mode)(H:List (Ob K))(f:FuncId)(args:List (AV K)):Option (AV K×List (Ob K)×Bool×List Nat):=
 match m with
 |.plain=>if dz (cX cx.D H args)then match cx.call f (cX cx.D H args) []with
     |some (r,[],c)=>if r.closed&&(!dA r|| !nB args)then some (r,H,c,[])else none
     |_=>none else none
 |.dN=>if dz (cX cx.D H args)&& !nB args then match cx.call f (cX cx.D H args) []with
     |some (r,Hn,c)=>match back ((List.range Hn.length).map (H.length+·)) r,hZ (nC ((List.range Hn.length).map (H.length+·))) Hn with
      |some r',some nE=>some (r',H++nE,c,[])
      |_,_=>none
     |none=>none else none
 |.fresh=>if dz (cX cx.D H args)then match cx.call f (cX cx.D H args) []with
     |some (r,Hn,c)=>if !dA r&&Hn.all (lA cx.D)then match back ((List.range Hn.length).map (H.length+·)) r,hZ (nC ((List.range Hn.length).map (H.length+·))) Hn with
      |some r',some nE=>some (r',H++nE,c,[])
      |_,_=>none else none
     |none=>none else none
 |.wi|.fG=>none
 |.pass=>if !nD H (reach H 64 (bg args) [])then none else match Nu (reach H 64 (bg args) []) args,hZ (wP (reach H 64 (bg args) [])) ((reach H 64 (bg args) []).map fun h=>H.getD h .dead)with
     |some args',some Hi=>match cx.call f args' Hi with
      |some (r,Ho,c)=>
       match back (reach H 64 (bg args) []++(List.range (Ho.length-Hi.length)).map (H.length+·)) r,hZ (nC (reach H 64 (bg args) []++(List.range (Ho.length-Hi.length)).map (H.length+·))) Ho with
       |some r',some dH=>if Hi.length<=Ho.length then some (r',eu H (reach H 64 (bg args) []) (dH.take Hi.length)++dH.drop Hi.length,c,reach H 64 (bg args) [])else none
       |_,_=>none
      |none=>none
     |_,_=>none
def nF(cx:Cx K)(m:Mode)(H:List (Ob K))(f:FuncId)(args:List (AV K)):Option (AV K×List (Ob K)×Bool×List Nat):=
 fP cx m (eb H (bg args)) f (gw (eb H (bg args)) args)
def jP(q:Bool)(cx:Cx K)(H:List (Ob K))(f:FuncId)(args:List (AV K)):Option (AV K×List (Ob K)×Bool×List Nat):=
 match cx.mode f with
 |.plain=>fP cx .plain H f args
 |.wi=>match fP cx .plain H f args with
   |some r=>some r
   |none=>if q then none else nF cx .plain H f args
 |.dN=>if q then none else nF cx .dN H f args
 |.pass=>if q then none else fP cx .pass H f args
 |.fG=>if q then none else nF cx .pass H f args
 |.fresh=>if q then none else match fP cx .dN H f args with
   |some r=>some r
   |none=>match fP cx .fresh H f args with
    |some r=>some r
    |none=>nF cx .dN H f args
def fp:List Nat->Bool
 |[]=>true
 |x::r=> !r.contains x&&fp r
def wQ(D:aT K)(H:List (Ob K)):AV K->Option (AV K)
 |.sl h=>match H[h]? with
   |some (.arr c l)=>if bM (D.cells c (K.zero c))then none else some (.au c l)
   |some (.tree c l)=>some (.au c l)
   |_=>none
 |.bO=>some .bO
 |.int k n=>some (.int k n)
 |.bool b=>some (.bool b)
 |.str s=>some (.str s)
 |.bN=>some .bN
 |_=>none
def fQ(D:aT K)(H:List (Ob K)):List (AV K)->Option (List (AV K))
 |[]=>some []
 |v::r=>match wQ D H v,fQ D H r with
  |some x,some l=>some (x::l)
  |_,_=>none
def rG(D:aT K)(H:List (Ob K)):List (AV K)->Option (List (AV K))
 |[]=>some []
 |v::r=>match fQ D H v.aZ,rG D H r with
  |some cs,some l=>some (.agg cs::l)
  |_,_=>none
def cR(H:List (Ob K)):List Nat->List (Ob K)
 |[]=>H
 |h::r=>cR (H.set h .dead) r
def jQ(H:List (Ob K))(c:K.U):AV K->Option (List (K.El c)×List Nat)
 |.bO=>some ([],[])
 |.sl h=>match H[h]? with
   |some (.tree c' l)=>match K.ee c' c with
    |.isTrue e=>some (e ▸ l,[h])
    |.isFalse _=>none
   |_=>none
 |_=>none
def lB(cx:Cx K)(ev:Operand->AV K)(H:List (Ob K)):Op->Option (AV K×List (Ob K)×Bool×List Nat)
 |.makeSlice t len cap=>match elemOf? cx.P t with
   |none=>none
   |some e=>match ja cx e,(zeroOf cx.P e:Option (AV K)),ev len,ev cap with
    |some c,some z,.int _ n,.int _ m=>if cx.deep c=true/\bY cx.P e=some (K.sz c)/\room e cx.P=true/\z.known=true then
      match fQ cx.D [] z.aZ with
      |some zs=>match cx.D.dec c zs with
       |some (y,b)=>some (.sl H.length,H++[.tree c (List.replicate n.toNat y)],b&&(decide (0<=n)&&(decide (n<=m)&&decide (m<=1073741824))),[])
       |none=>none
      |none=>none
     else none
    |_,_,_,_=>none
 |.buildSlice t len parts=>match elemOf? cx.P t with
   |none=>none
   |some e=>match ja cx e,inOrder ev 0 parts.toList with
    |some c,some l=>if cx.deep c=true/\bY cx.P e=some (K.sz c)/\iD cx.P e=true/\l.length=len/\len<=4096/\K.sz c<=4096/\l.all (fun v=>v.known&&decide (v.aZ.length=K.sz c))=true/\fp (bg l)=true then
      match rG cx.D H l with
      |some l'=>match jb cx.D c l' with
       |some (y,b)=>some (.sl H.length,cR H (bg l)++[.tree c y],b,bg l)
       |none=>none
      |none=>none
     else none
    |_,_=>none
 |.store t p x=>match ev p,bY cx.P t with
   |.ep h st i off,some n=>match H[h]? with
     |some (.tree c l)=>if st=K.sz c/\off+n<=K.sz c/\(ev x).aZ.length=n/\(ev x).aZ.all AV.one=true/\fp (h::bg (ev x).aZ)=true then
       match fQ cx.D H (ev x).aZ with
       |some xs=>match cx.D.dec c (setCells (cx.D.cells c (l.getD i (K.zero c))) off xs)with
        |some (y,b)=>some (.any,(cR H (h::bg (ev x).aZ)).set h (.tree c (l.set i y)),b,h::bg (ev x).aZ)
        |none=>none
       |none=>none
      else none
     |some (.opn c l i' off' cs)=>if st=K.sz c/\off=off'/\n=cs.length/\(ev x).aZ.length=n/\(ev x).aZ.all AV.one=true/\fp (h::bg (ev x).aZ)=true then
       match fQ cx.D H (ev x).aZ with
       |some xs=>match cx.D.dec c (setCells (cx.D.cells c (l.getD i (K.zero c))) off xs)with
        |some (y,b)=>some (.any,(cR H (h::bg (ev x).aZ)).set h (.tree c (l.set i y)),b&&decide (i=i'),h::bg (ev x).aZ)
        |none=>none
       |none=>none
      else none
     |_=>none
   |_,_=>none
 |.call {callee:=.builtin .append,args,argTypes}=>match args.toList,argTypes.toList with
   |[s,x],[sT,xT]=>if(rA cx.P xT).isSome||(cx.P.underlying xT).isNone then none else match elemOf? cx.P sT with
     |none=>none
     |some e=>match ja cx e with
      |none=>none
      |some c=>if cx.deep c=true/\bY cx.P e=some (K.sz c)/\room e cx.P=true/\iD cx.P e=true then
        match jQ H c (ev s),jQ H c (ev x)with
        |some (l,hs),some (m,hs')=>if fp (hs++hs')then some (.sl H.length,cR H (hs++hs')++[.tree c (l++m)],decide (l.length+m.length<=1073741824),hs++hs')else none
        |_,_=>none
       else none
   |_,_=>none
 |_=>none
def lC(D:aT K)(dp:K.U->Bool):Nat->List (AV K)->Option (List (AV K)×List (Ob K))
 |_,[]=>some ([],[])
 |n,.au c l::r=>if dp c|| !bM (D.cells c (K.zero c))then match lC D dp (n+1) r with
    |some (cs,os)=>some (.sl n::cs,cond (dp c) (.tree c l) (.arr c l)::os)
    |none=>none
  else none
 |n,v::r=>match lC D dp n r with
    |some (cs,os)=>some (v::cs,os)
    |none=>none
def lD(cx:Cx K)(ev:Operand->AV K)(H:List (Ob K)):Op->Option (AV K×List (Ob K)×Bool×List Nat)
 |.load t p=>if cx.opn then match ev p,wL cx.P t,bY cx.P t with
     |.ep h st i off,some ag,some n=>match H[h]? with
       |some (.tree c l)=>if st=K.sz c/\off+n<=K.sz c/\0<n then match lC cx.D cx.deep H.length (((cx.D.cells c (l.getD i (K.zero c))).drop off).take n)with
         |some (cs,os)=>some (cond ag (.agg cs) (cs.getD 0 .any),H.set h (.opn c l i off cs)++os,true,[h])
         |none=>none
        else none
       |_=>none
     |_,_,_=>none
   else none
 |_=>none
def BY:List (Ob K)->Option Nat
 |[]=>none
 |.opn ..::_=>some 0
 |_::r=>(BY r).map (· +1)
def shut(D:aT K)(H:List (Ob K)):Option (List (Ob K)×Bool×List Nat):=
 match BY H with
 |none=>some (H,true,[])
 |some h=>match H[h]? with
  |some (.opn c l i off cs)=>if fp (h::bg cs)=true then match fQ D H cs with
    |some xs=>match D.dec c (setCells (D.cells c (l.getD i (K.zero c))) off xs)with
     |some (y,b)=>some ((cR H (h::bg cs)).set h (.tree c (l.set i y)),b,h::bg cs)
     |none=>none
    |none=>none
   else none
  |_=>none
def rH(q:Bool)(cx:Cx K)(H:List (Ob K))(f:FuncId)(args:List (AV K)):Option (AV K×List (Ob K)×Bool×List Nat):=
 if cx.opn&& !cx.lz&& !q then match jP q cx H f args with
  |some (r,H1,c,t)=>match shut cx.D H1 with
   |some (H2,b,t2)=>some (r,H2,c&&b,t++t2)
   |none=>none
  |none=>none
 else jP q cx H f args
def guardOf(ops:List Oper)(o:Oper):Option (Option (Nat×Bool)):=
 match o.guard with
 |none=>some none
 |some (j,w)=>match ops[j]? with
  |some g=>match g.dst with
   |some t=>some (some (t,w))
   |none=>none
  |none=>none
def lE(st:St K)(wr:List Nat)(dst:Option Nat)(v:AV K)(H:List (Ob K))(ok:Bool):Option (St K×List Nat):=
 match dst with
 |none=>some (⟨st.tm,H,ok⟩,wr)
 |some d=>if wr.contains d||decide (st.tm.length<=d)then none else some (⟨st.tm.set d v,H,ok⟩,d::wr)
def lF(cx:Cx K)(ev:Operand->AV K)(H:List (Ob K))(op:Op):Option (AV K×List (Ob K)×Bool×List Nat):=
 match lB cx (fun x=>bW H (ev x)) H op with
 |some r=>some r
 |none=>match eZ ev op with
 |[]=>jN cx (fun x=>bW H (ev x)) H op
 |hs=>match iC cx (fun x=>bW (eb H hs) (ev x)) (eb H hs) op with
  |some (v,c)=>some (v,eb H hs,c,[])
  |none=>jN cx (fun x=>bW (eb H hs) (ev x)) (eb H hs) op
def BZ:Operand->Bool
 |.const (.slice none 0 0)=>true
 |_=>false
def dO(cx:Cx K):Op->Bool
 |.assign x=> !BZ x
 |.slice t ..=>Nq cx.P t
 |.load t _=> !cx.opn||(cx.lz&&(cx.ei t).all Option.isNone)
 |.makeFunc .. |.move _|.pick .. |.binOp .. |.unOp .. |.extract .. |.field .. |.fieldAddr .. |.indexAddr .. |.index .. |.nilCheck _|.lookup ..=>true
 |.convert _ dst _=>(elemOf? cx.P dst).isNone
 |.build t _=>pairT cx.P t
 |.call {callee:=.builtin .len, ..}|.call {callee:=.builtin .min, ..}|.call {callee:=.builtin .max, ..}=>true
 |.call {callee:=.value (.func f), ..}=>cx.mode f== .plain&&(!cx.opn||cx.lz)
 |_=>false
def cutV(cx:Cx K)(ev:Operand->AV K)(H:List (Ob K)):Op->Option (AV K×List (Ob K)×Bool×List Nat)
 |.slice t x none (some y) none=>if cx.cut then match ev x,ev y,elemOf? cx.P t with
   |.sl h,.int _ n,some e=>match H[h]? with
     |some (.arr c l)=>if bY cx.P e=some (K.sz c)then some (.sl H.length,H.set h .dead++[.arr c (l.take n.toNat)],bV 0 n l.length,[h])else none
     |some (.tree c l)=>if bY cx.P e=some (K.sz c)then some (.sl H.length,H.set h .dead++[.tree c (l.take n.toNat)],bV 0 n l.length,[h])else none
     |_=>none
   |_,_,_=>none else none
 |.slice t x (some y) none none=>if cx.cut then match ev x,ev y,elemOf? cx.P t with
   |.sl h,.int _ n,some e=>match H[h]? with
     |some (.arr c l)=>if bY cx.P e=some (K.sz c)/\cx.D.fN c=none then some (.sl H.length,H.set h .dead++[.arr c (l.drop n.toNat)],bV n l.length l.length,[h])else none
     |some (.tree c l)=>if bY cx.P e=some (K.sz c)/\cx.D.fN c=none then some (.sl H.length,H.set h .dead++[.tree c (l.drop n.toNat)],bV n l.length l.length,[h])else none
     |_=>none
   |_,_,_=>none else none
 |_=>none
def nG(cx:Cx K)(ev:Operand->AV K)(H:List (Ob K)):Op->Option (AV K×List (Ob K)×Bool×List Nat)
 |.buildSlice t len parts=>match elemOf? cx.P t with
   |none=>none
   |some e=>match cx.ty e,inOrder ev 0 parts.toList with
    |some c,some l=>if bY cx.P e=some (K.sz c)/\iD cx.P e=true/\l.length=len/\len<=4096/\K.sz c<=4096/\l.all (fun v=>dz v.aZ&&(v.known&&decide (v.aZ.length=K.sz c)))=true then
      match jb cx.D c l with
      |some (y,b)=>some (.au c y,H,b,[])
      |none=>none
     else none
    |_,_=>none
 |_=>none
def dV(q:Bool)(cx:Cx K)(tm:List (AV K))(gs:List (Nat×Bool))(H:List (Ob K))(T:TypeId):Op->Option (AV K×List (Ob K)×Bool×List Nat)
 |.pick c x y=>match c,ca tm gs c with
   |.tmp t,.bool b=>match known cx t with
     |some b0=>some (cond b0 (ca tm gs x) (ca tm gs y),H,b==b0,[])
     |none=>some (merge b (ca tm ((t,true)::gs) x) (ca tm ((t,false)::gs) y),H,true,[])
   |.const _,.bool b=>some (merge b (ca tm gs x) (ca tm gs y),H,true,[])
   |_,_=>none
 |.call {callee:=.value f,args, ..}=>match ca tm gs f with
   |.fn g caps=>rH q cx H g (args.toList.map (fun x=>bW H (ca tm gs x))++caps)
   |_=>none
 |.assign x=>if !q&&BZ x then match elemOf? cx.P T with
     |some e=>match cx.ty e with
      |some c=>some (.sl H.length,H++[cond (cx.deep c) (.tree c []) (.arr c [])],true,[])
      |none=>some (ca tm gs x,H,true,[])
     |none=>some (ca tm gs x,H,true,[])
   else some (bW H (ca tm gs x),H,true,[])
 |op=>match iC cx (fun x=>bW H (ca tm gs x)) H op with
  |some (v,c)=>some (v,H,c,[])
  |none=>if q then nG cx (fun x=>bW H (ca tm gs x)) H op else if dO cx op then none else match lD cx (ca tm gs) H op with
   |some r=>some r
   |none=>match cutV cx (ca tm gs) H op with
   |some r=>some r
   |none=>lF cx (ca tm gs) H op
def fR(cx:Cx K):Op->Bool
 |.assign _=>true
 |.slice t ..=> !cx.cut||Nq cx.P t
 |.call {callee:=.value (.func f), ..}=>cx.mode f== .plain||cx.mode f== .wi
 |op=>dO cx op
def aaB(cx:Cx K):Op->Bool
 |.buildSlice ..=>true
 |op=>fR cx op
def cD(q:Bool)(cx:Cx K)(ops:List Oper)(tm:List (AV K))(H:List (Ob K))(wr:List Nat)(o:Oper):Option (AV K×List (Ob K)×Bool):=
 match guardOf ops o with
 |none=>none
 |some none=>match dV q cx tm [] H o.type o.op with
  |some (v,H',c,_)=>if v.dU then none else some (v,H',c)
  |none=>none
 |some (some (g,w))=>match known cx g with
  |some b0=>match tm[g]? with
   |some (.bool b)=>if b0=w then match dV q cx tm [] H o.type o.op with
     |some (v,H',c,_)=>if v.dU then none else some (v,H',c&&(b==b0))
     |none=>none
    else some (.any,H,b==b0)
   |_=>none
  |none=>match rz tm 6 (g,w)with
   |none=>none
   |some b=>if aaB cx o.op&&wr.contains g then match dV true cx tm [(g,w)] H o.type o.op with
     |some (v,_,c,_)=>some (.opt g w v,H,c|| !b)
     |none=>none else none
def nH(cx:Cx K)(ops:List Oper)(st:St K)(wr:List Nat)(o:Oper):Option (St K×List Nat):=
 match cD false cx ops st.tm st.H wr o with
 |some (v,H',c)=>lE st wr o.dst v H' (c&&st.ok)
 |none=>none
def fS(cx:Cx K)(ops:List Oper):List Oper->St K->List Nat->Option (St K×List Nat)
 |[],st,wr=>some (st,wr)
 |o::r,st,wr=>match nH cx ops st wr o with
  |some (st',wr')=>fS cx ops r st' wr'
  |none=>none
def dW(tm:List (AV K)):List Nat->List (AV K)
 |[]=>tm
 |d::r=>match tm[d]? with
  |some (.opt ..)=>dW (tm.set d .any) r
  |_=>dW tm r
def cM:List Oper->List Nat->List Nat
 |[],acc=>acc
 |o::r,acc=>cM r (acc++[o.after.toList.foldl (fun s e=>s|||2^e.on|||acc.getD e.on 0) 0])
def cf(bits:Nat):List Oper->Nat->List (AV K)->List (AV K)
 |[],_,tm=>tm
 |o::r,i,tm=>cf bits r (i+1) (match o.dst with
  |some d=>if bits.testBit i then tm else tm.set d .any
  |none=>tm)
def tX(i:Nat):Nat->List Nat->Nat
 |_,[]=>0
 |k,b::r=>(cond (b.testBit i) (2^k) 0)|||tX i (k+1) r
def cr(bs:List Nat)(i:Nat):Nat:=bs.getD i 0|||tX i 0 bs
def ia(cx:Cx K)(ops:List Oper)(bs:List Nat):List Oper->Nat->St K->List Nat->Option (St K×List Nat)
 |[],_,st,wr=>some (st,wr)
 |o::r,i,st,wr=>match cD true cx ops (cf (cr bs i) ops 0 st.tm) st.H wr o with
  |some (v,_,c)=>match lE st wr o.dst v st.H (c&&st.ok)with
   |some (st',wr')=>ia cx ops bs r (i+1) st' wr'
   |none=>none
  |none=>none
def ec:List Oper->Nat->Bool
 |[],_=>true
 |o::r,i=>(o.after.toList.all fun e=>decide (e.on<i)&&Region.binds .any e)&&ec r (i+1)
def dX(bits:Nat):Nat->List (Ob K)->List (Ob K)
 |_,[]=>[]
 |i,o::r=>(if bits.testBit i then .dead else o)::dX bits (i+1) r
def fq(bits:Nat):Nat->List (Ob K)->List (Ob K)->List (Ob K)
 |i,o::r,o'::r'=>(if bits.testBit i then o else o')::fq bits (i+1) r r'
 |_,[],r'=>r'
 |_,_::_,[]=>[]
mutual
def AV.upto(n:Nat):AV K->Bool
 |.ptr h _|.sl h|.ep h _ _ _|.np h|.vw h _ _ _=>decide (h<n)
 |.fn _ l|.agg l|.bc l=>jc n l
 |.opt _ _ v=>v.upto n
 |_=>true
def jc(n:Nat):List (AV K)->Bool
 |[]=>true
 |v::r=>v.upto n&&jc n r
end
def Ob.upto(n:Nat):Ob K->Bool
 |.box cs=>jc n cs
 |.opn _ _ _ _ cs=>jc n cs
 |_=>true
def ew(ev:Operand->AV K)(op:Op):List Nat:=
 eZ ev op++(match op with
  |.store _ p _=>hands (ev p)
  |.convert _ _ x=>hands (ev x)
  |.call {callee:=.builtin .append,args, ..}=>(match args.toList with
    |s::x::_=>hands (ev s)++hands (ev x)
    |[s]=>hands (ev s)
    |[]=>[])
  |.call {callee:=.builtin .clear,args, ..}=>(match args.toList with
    |s::_=>hands (ev s)
    |[]=>[])
  |.call {callee:=.builtin .copy,args, ..}=>(match args.toList with
    |s::_=>hands (ev s)
    |[]=>[])
  |.mapUpdate _ m _ _=>hands (ev m)
  |.mapEntry _ m _=>hands (ev m)
  |.entryStore _ m _ _=>hands (ev m)
  |_=>[])
def lG(cx:Cx K):Op->Bool
 |.box .. |.alloc _|.build .. |.store .. |.makeSlice .. |.buildSlice .. |.convert .. |.slice .. |.mapUpdate .. |.mapEntry .. |.entryStore ..=>true
 |.call {callee:=.builtin .append, ..}=>true
 |.call {callee:=.value (.func f), ..}=>(cx.mode f== .fresh||(cx.mode f== .pass||cx.mode f== .fG))&&(!cx.opn||cx.lz)
 |.load ..=>cx.opn&&cx.lz
 |_=>false
def B0(ev:Operand->AV K):Op->List Nat
 |.call {callee:=.value _,args, ..}=>bg (args.toList.map ev)
 |_=>[]
def rI(cx:Cx K)(H:List (Ob K))(ev:Operand->AV K):Op->List Nat
 |.call {callee:=.value (.func f),args, ..}=>(match cx.mode f with
   |.pass=>reach H 64 (bg (args.toList.map fun y=>bW H (ev y))) []
   |.fG=>bg (args.toList.map fun y=>bW H (ev y))++reach (eb H (bg (args.toList.map fun y=>bW H (ev y)))) 64 (bg (gw (eb H (bg (args.toList.map fun y=>bW H (ev y)))) (args.toList.map fun y=>bW H (ev y)))) []
   |_=>[])
 |_=>[]
def bitsOf:List Nat->Nat
 |[]=>0
 |h::r=>2^h|||bitsOf r
def rJ(cx:Cx K)(ops:List Oper)(tm:List (AV K))(H:List (Ob K))(wr:List Nat)(o:Oper):Option (AV K×List (Ob K)×Bool):=
 if fR cx o.op then cD true cx ops tm H wr o else if lG cx o.op then cD false cx ops tm H wr o else none
def jd(cx:Cx K)(tm:List (AV K))(H:List (Ob K))(op:Op):List Nat:=if fR cx op then[]else match op with
 |.load t p=>(match iC cx (fun x=>bW H (ca tm [] x)) H (.load t p)with
   |some _=>[]
   |none=>hands (ca tm [] p))
 |op=>(ew (ca tm []) op++B0 (ca tm []) op)++rI cx H (ca tm []) op
def rK(A:Nat):Nat->List Nat->Nat
 |_,[]=>0
 |k,b::r=>(if A.testBit k then 0 else b)|||rK A (k+1) r
def wR(A:Nat)(T:List Nat):Nat->List (Nat×Nat)->Bool
 |_,[]=>true
 |i,(m,n)::r=>(A.testBit i||T.all fun h=>decide (n<=h)||m.testBit h)&&wR A T (i+1) r
def aaC:Op->Option (List Operand)
 |.slice _ x _ _ _=>some [x]
 |.move _=>some []
 |.load _ p=>some [p]
 |.fieldAddr ..=>some []
 |.indexAddr _ x _=>some [x]
 |.nilCheck _=>some []
 |.store _ p x=>some [p,x]
 |.binOp ..=>some []
 |.unOp ..=>some []
 |.build _ parts=>some (parts.toList.map (·.2))
 |.extract x _=>some [x]
 |.assign x=>some [x]
 |_=>none
def Nv(tm:List (AV K))(n:Nat)(op:Op):Nat:=
 match aaC op with
 |none=>0
 |some l=>bitsOf ((List.range n).filter fun h=> !(bg (l.map (ca tm []))).contains h)
def jR(bs ws:List Nat)(i:Nat)(tm:List (AV K))(n:Nat)(op:Op):Nat:=rK (bs.getD i 0) 0 ws|||Nv tm n op
def jS(cx:Cx K)(ops:List Oper)(bs:List Nat):List Oper->Nat->St K->List Nat->List (Nat×Nat)->List Nat->Option (St K×List Nat)
 |[],_,st,wr,_,_=>some (st,wr)
 |o::r,i,st,wr,ms,ws=>
  if jc st.H.length (cf (cr bs i) ops 0 st.tm)&&(dX (jR bs ws i (cf (cr bs i) ops 0 st.tm) st.H.length o.op) 0 st.H).all (Ob.upto st.H.length)then
   match rJ cx ops (cf (cr bs i) ops 0 st.tm) (dX (jR bs ws i (cf (cr bs i) ops 0 st.tm) st.H.length o.op) 0 st.H) wr o with
   |none=>none
   |some (v,H',c)=>
    if(wR (bs.getD i 0) (jd cx (cf (cr bs i) ops 0 st.tm) (dX (jR bs ws i (cf (cr bs i) ops 0 st.tm) st.H.length o.op) 0 st.H) o.op) 0 ms&&(jd cx (cf (cr bs i) ops 0 st.tm) (dX (jR bs ws i (cf (cr bs i) ops 0 st.tm) st.H.length o.op) 0 st.H) o.op).all fun h=> !(jR bs ws i (cf (cr bs i) ops 0 st.tm) st.H.length o.op).testBit h&&decide (h<st.H.length))&&decide (st.H.length<=H'.length)then
     match lE st wr o.dst v (fq (jR bs ws i (cf (cr bs i) ops 0 st.tm) st.H.length o.op) 0 st.H H') (c&&st.ok)with
     |some (st',wr')=>jS cx ops bs r (i+1) st' wr' (ms++[(jR bs ws i (cf (cr bs i) ops 0 st.tm) st.H.length o.op,st.H.length)])
       (ws++[bitsOf (jd cx (cf (cr bs i) ops 0 st.tm) (dX (jR bs ws i (cf (cr bs i) ops 0 st.tm) st.H.length o.op) 0 st.H) o.op++List.range' st.H.length (H'.length-st.H.length))])
     |none=>none
    else none
  else none
def jT(o:Oper):Bool:=match o.op with
 |.mapEntry ..=>true
 |_=>false
def B1(o:Oper):Bool:=match o.op with
 |.entryStore ..=>true
 |_=>false
def wS(o:Oper):Bool:=match o.op with
 |.binOp ..=>true
 |.lookup _ _ _ false=>true
 |_=>false
def je(cx:Cx K)(ops:List Oper)(bs:List Nat)(p:Nat)(H0 H1:List (Ob K))(i:Nat)(tm:List (AV K))(wr:List Nat)(o:Oper):Option (AV K×List (Ob K)×Bool):=
 if Nat.beq i p then cD false cx ops tm H0 wr o
 else if Nat.beq (i+1) ops.length then cD false cx ops tm H1 wr o
 else if(bs.getD i 0).testBit p then(if fR cx o.op then cD true cx ops tm H1 wr o else none)
 else if(bs.getD p 0).testBit i||wS o then(if fR cx o.op then cD true cx ops tm H0 wr o else none)
 else none
def jU(cx:Cx K)(ops:List Oper)(bs:List Nat)(p:Nat)(H0:List (Ob K)):List Oper->Nat->List (Ob K)->St K->List Nat->Option (List (Ob K)×St K×List Nat)
 |[],_,H1,st,wr=>some (H1,st,wr)
 |o::r,i,H1,st,wr=>match je cx ops bs p H0 H1 i (cf (cr bs i) ops 0 st.tm) wr o with
  |some (v,H',c)=>match lE st wr o.dst v (cond (Nat.beq (i+1) ops.length) H' st.H) (c&&st.ok)with
   |some (st',wr')=>jU cx ops bs p H0 r (i+1) (cond (Nat.beq i p) H' H1) st' wr'
   |none=>none
  |none=>none
def rL(ops:List Oper)(bs:List Nat)(p:Nat):Bool:=
 decide (p+1<ops.length)&&(jT (ops.getD p {dst:=none,op:=.move (.const .nilIface),type:=0,pos:= "",after:= #[],guard:=none})&&(B1 (ops.getD (ops.length-1) {dst:=none,op:=.move (.const .nilIface),type:=0,pos:= "",after:= #[],guard:=none})&&(ops.all (fun o=>o.guard.isNone)&&(List.range (ops.length-1)).all fun i=>(bs.getD (ops.length-1) 0).testBit i)))
def jf(cx:Cx K)(ops:List Oper)(st:St K):Option (St K):=
 if(ops.all fun o=>fR cx o.op)&&ec ops 0 then match ia cx ops (cM ops []) ops 0 st []with
     |some (st',wr)=>some ⟨dW st'.tm wr,st'.H,st'.ok⟩
     |none=>none
  else if ec ops 0 then match jS cx ops (cM ops []) ops 0 st [] [] []with
   |some (st',wr)=>some ⟨dW st'.tm wr,st'.H,st'.ok⟩
   |none=>if rL ops (cM ops []) (ops.findIdx jT)then match jU cx ops (cM ops []) (ops.findIdx jT) st.H ops 0 st.H st []with
    |some (_,st',wr)=>some ⟨dW st'.tm wr,st'.H,st'.ok⟩
    |none=>none else none
  else none
def tY(π:List Nat)(n:Nat):Bool:=decide (π.length=n)&&(π.all (fun i=>decide (i<n))&&((List.range n).all (fun i=>π.contains i)&&fp π))
def nI(π:List Nat)(n:Nat)(o:Oper):Oper:=
 {o with after:=(o.after.filter (Region.binds .any)).map (fun e=>{e with on:=(π.idxOf? e.on).getD n}),guard:=o.guard.map fun g=>((π.idxOf? g.1).getD n,g.2)}
def permuted(π:List Nat)(ops:List Oper):List Oper:=π.map fun i=>match ops[i]? with
 |some o=>nI π ops.length o
 |none=>{dst:=none,op:=.move (.const .nilIface),type:=0,pos:= "",after:= #[],guard:=none}
def Nw(cx:Cx K)(ops:List Oper)(bs:List Nat):List Nat:=
 match(List.range ops.length).foldl (fun acc i=>match ops[i]? with
  |some o=>if lG cx o.op&&(!fR cx o.op&& !acc.contains i)then acc++((List.range ops.length).filter fun j=>(bs.getD i 0).testBit j&& !acc.contains j)++[i]else acc
  |none=>acc) []with
 |acc=>acc++(List.range ops.length).filter fun j=> !acc.contains j
def tZ(cx:Cx K)(ops:List Oper)(π:List Nat)(st:St K):Option (St K):=
 if tY π ops.length then jf cx (permuted π ops) st else none
def B2(cx:Cx K)(ops:List Oper)(st:St K):Option (St K):=
 if ec ops 0 then match jf cx ops st with
  |some r=>some r
  |none=>tZ cx ops (Nw cx ops (cM ops [])) st
 else match tZ cx ops (List.range ops.length) st with
  |some r=>some r
  |none=>tZ cx ops (Nw cx ops (cM (permuted (List.range ops.length) ops) [])) st
def dY(cx:Cx K)(ops:List Oper)(draw:Bool)(st:St K):Option (St K):=
 if draw then B2 cx ops st
 else match fS cx ops ops st []with
  |some (st',wr)=>some ⟨dW st'.tm wr,st'.H,st'.ok⟩
  |none=>none
def writes:Code->List Nat
 |.region _ ops _=>ops.toList.filterMap (·.dst)
 |.seq a b=>writes a++writes b
 |.cond _ a b=>writes a++writes b
 |.block _ c=>writes c
 |.loop c=>writes c
 |.scope c=>writes c
 |.rangeFunc _ ps a c=>ps.toList++writes a++writes c
 |_=>[]
def simple(cx:Cx K):Code->Bool
 |.skip=>true
 |.region _ ops _=>ops.toList.all fun o=>dO cx o.op
 |.seq a b=>simple cx a&&simple cx b
 |.cond _ a b=>simple cx a&&simple cx b
 |_=>false
def ez(b:Bool)(wr:List Nat):Nat->List (AV K)->List (AV K)->List (AV K)->List (AV K)
 |n,v::r,x::s,y::t=>(if wr.contains n then merge b x y else v)::ez b wr (n+1) r s t
 |_,_,_,_=>[]
def cy(tm:List (AV K)):List Nat->List (AV K)->List (AV K)
 |d::r,v::s=>cy (tm.set d v) r s
 |_,_=>tm
def keyOf:Code->Nat
 |.region id _ _=>id
 |.seq a _=>keyOf a
 |.cond _ a _=>keyOf a
 |.block _ c=>keyOf c
 |.loop c=>keyOf c
 |_=>0
def inLoop(H:List (Ob K))(vals:List (AV K)):Option (List Nat×List (AV K)×List (Ob K)):=
 if nD H (reach H 64 (bg vals) [])then match Nu (reach H 64 (bg vals) []) vals,hZ (wP (reach H 64 (bg vals) [])) ((reach H 64 (bg vals) []).map fun h=>H.getD h .dead)with
  |some db,some Hi=>some (reach H 64 (bg vals) [],db,Hi)
  |_,_=>none
 else none
def dB(m:List Nat)(n k:Nat):List Nat:=m++(List.range (k-m.length)).map (n+·)
def wT(L:bk K)(m:List Nat)(st:St K)(vs:List (AV K))(Ho:List (Ob K)):Option (St K):=
 match aaA (dB m st.H.length Ho.length) vs,hZ (nC (dB m st.H.length Ho.length)) Ho with
 |some vs',some dH=>if m.length<=Ho.length then some ⟨cy (List.replicate L.n .any) L.outs vs',eu st.H m (dH.take m.length)++dH.drop m.length,st.ok⟩else none
 |_,_=>none
def B5(ops:List Oper):List Nat:=(ops.filterMap fun o=>match guardOf ops o with
 |some (some (g,_))=>some g
 |_=>none).eraseDups
def t0(cx:Cx K)(ops:List Oper)(draw:Bool)(st:St K):List Nat->Option (Bool×St K×St K)
 |[]=>none
 |t::r=>match dY {cx with gs:=[(t,true)]} ops draw st,dY {cx with gs:=[(t,false)]} ops draw st with
  |some s1,some s2=>match s1.tm.getD t .any with
   |.bool b=>some (b,s1,s2)
   |_=>t0 cx ops draw st r
  |_,_=>t0 cx ops draw st r
inductive dI (K:bL) where
 |no
 |leaf (s:St K)
 |node (b:Bool) (x y:dI K)
 |two (x y:St K)
def dI.go(cx:Cx K):dI K->{R:Type}->(St K->Option R)->Option R
 |.no,_,_=>none
 |.leaf s,_,k=>k s
 |.node b x y,_,k=>cond b (x.go cx k) (y.go cx k)
 |.two x y,_,k=>cx.ry (k x) (k y)
def nJ(cx:Cx K)(ops:List Oper):List Oper->St K->List Nat->St K×List Oper
 |[],st,_=>(st,[])
 |o::r,st,wr=>match nH cx ops st wr o with
  |some (st',wr')=>nJ cx ops r st' wr'
  |none=>(st,o::r)
def wU(cx:Cx K)(st:St K):List Nat->Option (Nat×Bool)
 |[]=>none
 |t::r=>match known cx t with
  |some _=>wU cx st r
  |none=>match st.tm[t]? with
   |some (.bool b)=>some (t,b)
   |_=>wU cx st r
def Nx(st:St K):List Oper->Bool
 |[]=>false
 |o::_=>match o.op with
  |.nilCheck (.tmp t)=>match st.tm[t]? with
    |some .bN=>true
    |some (.opt _ _ .bN)=>true
    |_=>false
  |_=>false
def ua(cx:Cx K)(ops:List Oper)(draw:Bool)(st:St K):Nat->List (Nat×Bool)->Option (dI K)
 |0,_=>none
 |n+1,gs=>match dY {cx with gs:=gs} ops draw st with
  |some s=>some (.leaf s)
  |none=>match dY {cx with call:=cx.alt true,mode:=cx.jM true,gs:=gs} ops draw st,dY {cx with call:=cx.alt false,mode:=cx.jM false,gs:=gs} ops draw st with
   |some s1,some s2=>some (.two s1 s2)
   |_,_=>match wU {cx with gs:=gs} (nJ {cx with gs:=gs} ops ops st []).1 (B5 ops)with
    |some (t,b)=>match ua cx ops draw st n ((t,true)::gs),ua cx ops draw st n ((t,false)::gs)with
     |some x,some y=>some (.node b x y)
     |_,_=>none
    |none=>if Nx (nJ {cx with gs:=gs} ops ops st []).1 (nJ {cx with gs:=gs} ops ops st []).2 then some .no else none
def ub(cx:Cx K)(ops:List Oper)(draw:Bool)(st:St K):Nat->List (Nat×Bool)->Option (dI K)
 |0,_=>none
 |n+1,gs=>match dY {cx with gs:=gs} ops draw st with
  |some s=>some (.leaf s)
  |none=>match wU {cx with gs:=gs} (nJ {cx with gs:=gs} ops ops st []).1 (B5 ops)with
   |some (t,b)=>match ub cx ops draw st n ((t,true)::gs),ub cx ops draw st n ((t,false)::gs)with
    |some x,some y=>some (.node b x y)
    |_,_=>none
   |none=>if Nx (nJ {cx with gs:=gs} ops ops st []).1 (nJ {cx with gs:=gs} ops ops st []).2 then some .no else none
def dI.wV:dI K->{R:Type}->(St K->Option R)->Option R
 |.leaf s,_,k=>k s
 |.node b x y,_,k=>cond b (x.wV k) (y.wV k)
 |_,_,_=>none
def rM:Ex->St K->Option (St K)
 |.normal,st=>some st
 |_,_=>none
def cZ(cx:Cx K):Code->{R:Type}->St K->(Ex->St K->Option R)->Option R
 |.skip,_,st,k=>k .normal st
 |.region _ ops draw,_,st,k=>match dY cx ops.toList draw st with
   |some st'=>k .normal st'
   |none=>match t0 cx ops.toList draw st (B5 ops.toList)with
    |some (b,s1,s2)=>cond b (k .normal s1) (k .normal s2)
    |none=>if(ops.toList.all fun o=>dO cx o.op)=true then match ub cx ops.toList draw st 4 []with
      |some T=>T.wV (k .normal)
      |none=>none
     else match dY {cx with call:=cx.alt true,mode:=cx.jM true} ops.toList draw st,dY {cx with call:=cx.alt false,mode:=cx.jM false} ops.toList draw st with
     |some s1,some s2=>cx.ry (k .normal s1) (k .normal s2)
     |_,_=>match ua cx ops.toList draw st 4 []with
      |some T=>T.go cx (k .normal)
      |none=>none
 |.seq a b,_,st,k=>cZ cx a st fun e s=>match e with
   |.normal=>cZ cx b s k
   |e=>k e s
 |.cond c a b,_,st,k=>match ca st.tm [] c with
   |.bool t=>if simple cx a&&simple cx b then
       match cZ cx a st rM,cZ cx b st rM with
       |some sa,some sb=>k .normal ⟨ez t (writes a++writes b) 0 st.tm sa.tm sb.tm,st.H,(sa.ok|| !t)&&(sb.ok||t)⟩
       |_,_=>none
     else cond t (cZ cx a st k) (cZ cx b st k)
   |_=>none
 |.block id c,_,st,k=>cZ cx c st fun e s=>match e with
   |.exit i=>if i=id then k .normal s else k (.exit i) s
   |e=>k e s
 |.loop c,_,st,k=>match cx.loop (keyOf c)with
   |some L=>if st.tm.length=L.n then match inLoop st.H (L.ins.map fun t=>st.tm.getD t .any)with
     |some (m,vals,Hi)=>L.run vals Hi fun e vs Ho=>match wT L m st vs Ho with
      |some st'=>k e st'
      |none=>none
     |none=>none else none
   |none=>none
 |.exit id,_,st,k=>k (.exit id) st
 |.ret,_,st,k=>k .ret st
 |_,_,_,_=>none
def lH(cx:Cx K)(st:St K):List ResultVar->Option (List (AV K))
 |[]=>some []
 |.tmp t::r=>match lH cx st r with
   |some l=>some (st.tm.getD t .any::l)
   |none=>none
 |.cell a t::r=>match wN cx.P cx.D st.H t (st.tm.getD a .any),lH cx st r with
   |some v,some l=>some (v::l)
   |_,_=>none
def resV(cx:Cx K)(fn:Func)(st:St K):Option (AV K):=
 match lH cx st fn.results.toList with
 |some [v]=>some (bW st.H v)
 |some l=>some (.bc (gw st.H l))
 |none=>none
def nK{α β:Type}(f:α->Option β):List α->Option (List β)
 |[]=>some []
 |x::r=>match f x,nK f r with
  |some y,some l=>some (y::l)
  |_,_=>none
def lI(src:List (Option Nat))(h:Nat):Option Nat:=src.idxOf? (some h)
def lJ(n0 n:Nat):Nat->List (Option Nat)->Bool
 |_,[]=>true
 |i,none::r=>decide (i<n0)&&lJ n0 n (i+1) r
 |i,some h::r=>decide (h<n)&&((decide (n0<=i)||decide (h=i))&&(!r.contains (some h)&&lJ n0 n (i+1) r))
def nL(src:List (Option Nat))(H:List (Ob K)):Option Nat->Option (Ob K)
 |none=>some .dead
 |some h=>match H[h]? with
  |some o=>eJ (lI src) o
  |none=>none
def jV(n0:Nat)(src:List (Option Nat))(keep:List Nat)(st:St K):Option (St K):=
 if lJ n0 st.H.length 0 src&&decide (n0<=src.length)then
  match ek (lI src) (keep.map fun t=>st.tm.getD t .any),nK (nL src st.H) src with
  |some vs,some H=>some ⟨cy (List.replicate st.tm.length .any) keep vs,H,st.ok⟩
  |_,_=>none
 else none
def nM(n0:Nat)(keep:List Nat)(st:St K):Option (St K):=
 jV n0 ((reach st.H 64 (List.range n0++bg (keep.map fun t=>st.tm.getD t .any)) []).map some) keep st
def lK(cx:Cx K)(s:St K):Option (Bool×St K):=match BY s.H with
 |none=>some (true,s)
 |some _=>match shut cx.D s.H with
  |some (H',b,_)=>some (b,⟨s.tm,H',s.ok⟩)
  |none=>none
def wW(cx:Cx K)(n0:Nat)(keep outs:List Nat)(body:Code)(st:St K):Option (St K⊕Ex×St K):=
 cZ cx body st fun e s=>cond s.ok (match e with
  |.normal=>match lK cx s with
    |some (b,s1)=>cond b (match nM n0 keep s1 with
     |some s'=>some (.inl s')
     |none=>none) none
    |none=>none
  |e=>match lK cx s with
   |some (b,s1)=>cond b (match nM n0 outs s1 with
    |some s'=>some (.inr (e,s'))
    |none=>none) none
   |none=>none) none
def B6(n0:Nat)(src:List (Option Nat))(v:AV K)(H:List (Ob K)):Option (AV K×List (Ob K)):=
 if lJ n0 H.length 0 src&&decide (n0<=src.length)then
  match cU (lI src) v,nK (nL src H) src with
  |some v',some H'=>some (v',H')
  |_,_=>none
 else none
def pack(n0:Nat)(v:AV K)(H:List (Ob K)):Option (AV K×List (Ob K)):=
 B6 n0 ((reach H 64 (List.range n0++hands v) []).map some) v H
def B7(H:List (Ob K))(h:Nat):Bool:=match H[h]? with
 |some (.arr ..)=>false
 |some (.cT ..)=>false
 |some (.tree ..)=>false
 |_=>true
def aaD(n0:Nat)(v:AV K)(H:List (Ob K)):List (Option Nat):=
 ((List.range n0).map fun h=>cond (B7 H h) (some h) none)++((reach H 64 ((List.range n0).filter (B7 H)++hands v) []).filter fun h=> !(decide (h<n0)&&B7 H h)).map some
def wX(mv:Bool)(n0:Nat)(v:AV K)(H:List (Ob K)):Option (AV K×List (Ob K)):=
 B6 n0 (cond mv (aaD n0 v H) ((reach H 64 (List.range n0++hands v) []).map some)) v H
def aaE(cx:Cx K)(fn:Func)(n0:Nat)(e:Ex)(st:St K):Option (AV K×List (Ob K)):=
 match e with
 |.exit _=>none
 |_=>match resV cx fn st with
  |some v=>cond st.ok (pack n0 v st.H) none
  |none=>none
def adV(cx:Cx K)(fn:Func)(args:List (AV K))(H:List (Ob K)):Option (AV K×List (Ob K)):=
 match fn.body with
 |some c=>cZ cx c ⟨args++List.replicate (fn.ntmps-args.length) .any,H,true⟩ (aaE cx fn H.length)
 |none=>none
end Go.V
namespace Go.V
open Go
variable {K :bL}
def dJ(w:World)(b k:Nat)(vs:List Value):Prop:=∀j v,vs[j]?=some v->w.cell? ⟨b,k+j,none⟩=some v
def aaF:Value->Bool
 |.slice .. |.map _|.pointer _=>true
 |_=>false
def nN:Value->Bool
 |.slice .. |.map _=>true
 |_=>false
inductive Rep (D:aT K) (ρ:List Value) (S:Nat->Prop) (w:World):AV K->Value->Prop
 |any (v:Value):Rep D ρ S w .any v
 |int (k:IntKind) (n:Int):Rep D ρ S w (.int k n) (.int k n)
 |bool (b:Bool):Rep D ρ S w (.bool b) (.bool b)
 |str (s:List UInt8):Rep D ρ S w (.str s) (.string ⟨s.toArray⟩)
 |bN:Rep D ρ S w .bN (.pointer none)
 |fU {h:Nat}:Rep D ρ S w (.np h) (.pointer none)
 |np {h b:Nat} (hp:ρ[h]?=some (.pointer (some ⟨b,0,none⟩))):Rep D ρ S w (.np h) (.pointer (some ⟨b,0,none⟩))
 |bO:Rep D ρ S w .bO (.slice none 0 0)
 |mp {v:Value} (h:aaF v=true):Rep D ρ S w .mp v
 |fn {f:Nat} {caps:List (AV K)} {vs:List Value} (hl:caps.length=vs.length) (hr:∀(i:Nat) v x,caps[i]?=some v->vs[i]?=some x->Rep D ρ S w v x):
   Rep D ρ S w (.fn f caps) (.func (.func f) #[] vs.toArray)
 |ptr {h off b:Nat} (hp:ρ[h]?=some (.pointer (some ⟨b,0,none⟩))):Rep D ρ S w (.ptr h off) (.pointer (some ⟨b,off,none⟩))
 |sl {h:Nat} {v:Value} (hp:ρ[h]?=some v) (hk:nN v=true:=by rfl):Rep D ρ S w (.sl h) v
 |ep {h st i off b o n c:Nat} (hp:ρ[h]?=some (.slice (some ⟨b,o,none⟩) n c)) (hi:i<n):Rep D ρ S w (.ep h st i off) (.pointer (some ⟨b,o+i*st+off,none⟩))
 |vw {h st lo hi n c c':Nat} {a a':Option Addr} (hp:ρ[h]?=some (.slice a n c)) (h1:lo<=hi) (h2:hi<=n) (ha:hi-lo=0\/∃b o,a=some ⟨b,o,none⟩/\a'=some ⟨b,o+lo*st,none⟩/\hi-lo<=c'):Rep D ρ S w (.vw h st lo hi) (.slice a' (hi-lo) c')
 |cK {c:K.U} (a:Option Addr) (cap:Nat):Rep D ρ S w (.au c []) (.slice a 0 cap)
 |au {c:K.U} {l:List (K.El c)} {b o cap:Nat} (val:Nat->List Value) (hS:S b) (hcap:l.length<=cap)
   (hl:∀i x,l[i]?=some x->(val i).length=(D.cells c x).length)
   (hc:∀i,i<l.length->dJ w b (o+i*K.sz c) (val i))
   (hr:∀i x,l[i]?=some x->∀(j:Nat) v y,(D.cells c x)[j]?=some v->(val i)[j]?=some y->Rep D ρ S w v y):
   Rep D ρ S w (.au c l) (.slice (some ⟨b,o,none⟩) l.length cap)
 |rp {c:K.U} {x:K.El c} {b o off:Nat} (vs:List Value) (hS:S b) (hl:vs.length=(D.cells c x).length) (hc:dJ w b o vs)
   (hr:∀(j:Nat) v y,(D.cells c x)[j]?=some v->vs[j]?=some y->Rep D ρ S w v y):
   Rep D ρ S w (.rp c x off) (.pointer (some ⟨b,o+off,none⟩))
 |agg {l:List (AV K)} {vs:List Value} (hl:l.length=vs.length) (hr:∀(i:Nat) v x,l[i]?=some v->vs[i]?=some x->Rep D ρ S w v x):
   Rep D ρ S w (.agg l) (.agg vs.toArray)
 |bc {l:List (AV K)} {vs:List Value} (hl:l.length=vs.length) (hr:∀(i:Nat) v x,l[i]?=some v->vs[i]?=some x->Rep D ρ S w v x):
   Rep D ρ S w (.bc l) (.tuple vs.toArray)
def aI(D:aT K)(ρ:List Value)(S:Nat->Prop)(w:World)(l:List (AV K))(vs:List Value):Prop:=
 l.length=vs.length/\∀(i:Nat) v x,l[i]?=some v->vs[i]?=some x->Rep D ρ S w v x
section
variable {D :aT K}{ρ ρ':List Value}{S S':Nat->Prop}{w w':World}
theorem aI.nil:aI D ρ S w [] []:=⟨rfl,fun i v x h=>by simp at h⟩
theorem aI.cons{v:AV K}{x:Value}{l:List (AV K)}{vs:List Value}(h:Rep D ρ S w v x)(t:aI D ρ S w l vs):aI D ρ S w (v::l) (x::vs):=
 ⟨by simp[t.1],fun i u y hu hy=>by
   cases i with
   |zero=>simp at hu hy;subst hu;subst hy;exact h
   |succ i=>exact t.2 i u y (by simpa using hu) (by simpa using hy)⟩
theorem aI.head{v:AV K}{x:Value}{l:List (AV K)}{vs:List Value}(h:aI D ρ S w (v::l) (x::vs)):Rep D ρ S w v x:=h.2 0 v x rfl rfl
theorem aI.tail{v:AV K}{x:Value}{l:List (AV K)}{vs:List Value}(h:aI D ρ S w (v::l) (x::vs)):aI D ρ S w l vs:=
 ⟨by simpa using h.1,fun i u y hu hy=>h.2 (i+1) u y (by simpa using hu) (by simpa using hy)⟩
theorem aI.cS{v:AV K}{l:List (AV K)}{vs:List Value}(h:aI D ρ S w (v::l) vs):∃x r,vs=x::r/\Rep D ρ S w v x/\aI D ρ S w l r:=by
 cases vs with
 |nil=>simp[aI]at h
 |cons x r=>exact⟨x,r,rfl,h.head,h.tail⟩
theorem aI.gR{vs:List Value}(h:aI D ρ S w [] vs):vs=[]:=by
 have:=h.1;simp at this;exact List.eq_nil_of_length_eq_zero this.symm
theorem aI.append{l m:List (AV K)}{vs us:List Value}(h:aI D ρ S w l vs)(k:aI D ρ S w m us):aI D ρ S w (l++m) (vs++us):=by
 refine⟨by simp[h.1,k.1],fun i v x hv hx=>?_⟩;by_cases hi:i<l.length
 ·rw[List.getElem?_append_left hi]at hv;rw[List.getElem?_append_left (by rw[<-h.1];exact hi)]at hx;exact h.2 i v x hv hx
 ·rw[List.getElem?_append_right (by omega)]at hv;rw[List.getElem?_append_right (by rw[<-h.1];omega)]at hx;exact k.2 (i-l.length) v x hv (by rw[h.1];exact hx)
theorem aI.drop{l:List (AV K)}{vs:List Value}(h:aI D ρ S w l vs)(n:Nat):aI D ρ S w (l.drop n) (vs.drop n):=
 ⟨by simp[h.1],fun i v x hv hx=>h.2 (n+i) v x (by simpa using hv) (by simpa using hx)⟩
theorem aI.take{l:List (AV K)}{vs:List Value}(h:aI D ρ S w l vs)(n:Nat):aI D ρ S w (l.take n) (vs.take n):=
 ⟨by simp[h.1],fun i v x hv hx=>by
   simp only[List.getElem?_take]at hv hx;split at hv
   ·rename_i hi;rw[if_pos hi]at hx;exact h.2 i v x hv hx
   ·simp at hv⟩
theorem aI.get{l:List (AV K)}{vs:List Value}(h:aI D ρ S w l vs){i:Nat}{v:AV K}(hv:l[i]?=some v):∃x,vs[i]?=some x/\Rep D ρ S w v x:=by
 have hi:i<vs.length:=by rw[<-h.1];exact(List.getElem?_eq_some_iff.1 hv).1
 exact⟨vs[i],List.getElem?_eq_getElem hi,h.2 i v _ hv (List.getElem?_eq_getElem hi)⟩
theorem aI.set{l:List (AV K)}{vs:List Value}(h:aI D ρ S w l vs){n:Nat}{v:AV K}{x:Value}(hv:Rep D ρ S w v x):aI D ρ S w (l.set n v) (vs.set n x):=by
 refine⟨by simp[h.1],fun i u y hu hy=>?_⟩;rw[List.getElem?_set]at hu hy;by_cases hn:n=i
 ·subst hn;simp only[if_true]at hu hy;split at hu
  ·rename_i hl;rw[if_pos (by rw[<-h.1];exact hl)]at hy;simp at hu hy;subst hu;subst hy;exact hv
  ·simp at hu
 ·rw[if_neg hn]at hu hy;exact h.2 i u y hu hy
theorem cell?_of_heap{a:Addr}(h:w'.heap[a.block]?=w.heap[a.block]?):w'.cell? a=w.cell? a:=by simp[World.cell?,h]
theorem dJ.keep{b k:Nat}{vs:List Value}(h:dJ w b k vs)(hb:w'.heap[b]?=w.heap[b]?):dJ w' b k vs:=fun j v hv=>by
 rw[cell?_of_heap (w:=w) (a:=⟨b,k+j,none⟩) hb];exact h j v hv
theorem Rep.mono(hS:∀b,S b->S' b)(hw:∀b,S b->w'.heap[b]?=w.heap[b]?)(hρ:∀(h:Nat) r,ρ[h]?=some r->ρ'[h]?=some r){v:AV K}{x:Value}
 (h:Rep D ρ S w v x):Rep D ρ' S' w' v x:=by
 induction h with
 |any v=>exact .any v
 |int k n=>exact .int k n
 |bool b=>exact .bool b
 |str s=>exact .str s
 |bN=>exact .bN
 |bO=>exact .bO
 |mp r=>exact .mp r
 |fn hl _ ih=>exact .fn hl ih
 |fU=>exact .fU
 |np hp=>exact .np (hρ _ _ hp)
 |ptr hp=>exact .ptr (hρ _ _ hp)
 |sl hp hk=>exact .sl (hρ _ _ hp) hk
 |ep hp hi=>exact .ep (hρ _ _ hp) hi
 |vw hp h1 h2 ha=>exact .vw (hρ _ _ hp) h1 h2 ha
 |cK a cap=>exact .cK a cap
 |au val h1 h2 h3 h4 _ ih=>exact .au val (hS _ h1) h2 h3 (fun i hi=>(h4 i hi).keep (hw _ h1)) ih
 |rp vs h1 h2 h3 _ ih=>exact .rp vs (hS _ h1) h2 (h3.keep (hw _ h1)) ih
 |agg hl _ ih=>exact .agg hl ih
 |bc hl _ ih=>exact .bc hl ih
theorem aI.mono(hS:∀b,S b->S' b)(hw:∀b,S b->w'.heap[b]?=w.heap[b]?)(hρ:∀(h:Nat) r,ρ[h]?=some r->ρ'[h]?=some r){l:List (AV K)}{vs:List Value}
 (h:aI D ρ S w l vs):aI D ρ' S' w' l vs:=⟨h.1,fun i v x hv hx=>(h.2 i v x hv hx).mono hS hw hρ⟩
def AV.gz:AV K->Bool
 |.au ..=>true
 |_=>false
structure aX (D:aT K):Prop where
 len:∀c x,(D.cells c x).length=K.sz c
 closed:∀c x,dz (D.cells c x)=true
 one:∀c x,(D.cells c x).all AV.one=true
 dec:∀c l x,D.dec c l=some (x,true)->∀ρ S w vs,aI D ρ S w l vs->aI D ρ S w (D.cells c x) vs
 byte:∀c f g,D.byte c=some (f,g)->(∀x,D.cells c x=[.int .u8 ((f x).toNat:Int)])/\∀b,f (g b)=b
 flat:∀c x,bM (D.cells c x)=bM (D.cells c (K.zero c))
 kinds:∀c x (j:Nat) v,(D.cells c x)[j]?=some v->v≠.bO/\(v.gz=false->dA v=false)
 rN:∀c l x,D.dec c l=some (x,true)->l.length=K.sz c/\∀(j:Nat) v v',l[j]?=some v->(D.cells c x)[j]?=some v'->v'=v\/(v=.bO/\∃c',v'=.au c' [])
theorem nO{l:List (AV K)}(h:dz l=true){i:Nat}{v:AV K}(hv:l[i]?=some v):v.closed=true:=by
 induction l generalizing i with
 |nil=>simp at hv
 |cons u r ih=>
  simp only[dz,Bool.and_eq_true]at h;cases i with
  |zero=>simp at hv;subst hv;exact h.1
  |succ i=>exact ih h.2 (by simpa using hv)
theorem Rep.closed(hD:aX D){v:AV K}{x:Value}(h:Rep D ρ S w v x)(hv:v.closed=true):Rep D ρ' S w v x:=by
 induction h with
 |any v=>exact .any v
 |int k n=>exact .int k n
 |bool b=>exact .bool b
 |str s=>exact .str s
 |bN=>exact .bN
 |bO=>exact .bO
 |mp r=>exact .mp r
 |fn hl _ ih=>exact .fn hl fun i u y hu hy=>ih i u y hu hy (nO (by simpa [AV.closed]using hv) hu)
 |fU=>simp[AV.closed]at hv
 |np hp=>simp[AV.closed]at hv
 |ptr hp=>simp[AV.closed]at hv
 |sl hp=>simp[AV.closed]at hv
 |ep hp hi=>simp[AV.closed]at hv
 |vw hp h1 h2 ha=>simp[AV.closed]at hv
 |cK a cap=>exact .cK a cap
 |au val h1 h2 h3 h4 _ ih=>exact .au val h1 h2 h3 h4 fun i x hx j v y hv hy=>ih i x hx j v y hv hy (nO (hD.closed _ _) hv)
 |rp vs h1 h2 h3 _ ih=>exact .rp vs h1 h2 h3 fun j v y hv hy=>ih j v y hv hy (nO (hD.closed _ _) hv)
 |agg hl _ ih=>exact .agg hl fun i u y hu hy=>ih i u y hu hy (nO (by simpa [AV.closed]using hv) hu)
 |bc hl _ ih=>exact .bc hl fun i u y hu hy=>ih i u y hu hy (nO (by simpa [AV.closed]using hv) hu)
theorem aI.closed(hD:aX D){l:List (AV K)}{vs:List Value}(h:aI D ρ S w l vs)(hv:dz l=true):aI D ρ' S w l vs:=
 ⟨h.1,fun i v x hi hx=>(h.2 i v x hi hx).closed hD (nO hv hi)⟩
end
def dj:Value->Option Nat
 |.pointer (some a)=>some a.block
 |.slice (some a) _ _=>some a.block
 |.map (some b)=>some b
 |_=>none
def bz(vs:Array Value)(k n:Nat):List Value:=(vs.toList.drop k).take n
def B8(D:aT K)(cs:List (AV K))(T:TypeId):Prop:=fm cs=true->D.jL=some T
def eF(D:aT K)(c:K.U)(T:TypeId)(o:Nat):Prop:=∀t,D.fN c=some t->T=t/\o=0
abbrev lL(D:aT K)(c:K.U)(T:TypeId)(o:Nat)(fr:Nat×Nat):Prop:=eF D c T o/\fr.1<=fr.2
inductive bS (D:aT K) (w:World):(c:K.U)->List (K.El c)->Value->Nat->Prop
 |here {c:K.U} {l:List (K.El c)} {b o n cap:Nat}:bS D w c l (.slice (some ⟨b,o,none⟩) n cap) b
 |kid {c:K.U} {l:List (K.El c)} {b o n cap i j k:Nat} {x:K.El c} {c':K.U} {l':List (K.El c')} {y:Value} (hx:l[i]?=some x) (hj:(D.cells c x)[j]?=some (.au c' l'))
   (hy:w.cell? ⟨b,o+i*K.sz c+j,none⟩=some y) (hk:bS D w c' l' y k):bS D w c l (.slice (some ⟨b,o,none⟩) n cap) k
inductive Tree (D:aT K) (w:World):(c:K.U)->List (K.El c)->Value->Prop
 |nil {c:K.U}:Tree D w c [] (.slice none 0 0)
 |mk {c:K.U} {l:List (K.El c)} {b o cap:Nat} {vs:Array Value} {T:TypeId} {fr:Nat×Nat} (hb:w.heap[b]?=some (.cells vs T fr)) (hcap:l.length<=cap/\lL D c T o fr) (hsz:o+cap*K.sz c<=vs.size)
   (hfr:∀k,o<=k->k<o+cap*K.sz c->¬(fr.1<=k/\k<fr.2))
   (hlen:∀i x,l[i]?=some x->(D.cells c x).length=(bz vs (o+i*K.sz c) (K.sz c)).length)
   (dR:∀i x,l[i]?=some x->∀(j:Nat) v y,(D.cells c x)[j]?=some v->(bz vs (o+i*K.sz c) (K.sz c))[j]?=some y->v.gz=false->dA v=false/\Rep D [] (fun _=>False) w v y)
   (gA:∀i x,l[i]?=some x->∀(j:Nat) c' l' y,(D.cells c x)[j]?=some (.au c' l')->(bz vs (o+i*K.sz c) (K.sz c))[j]?=some y->Tree D w c' l' y)
   (hself:∀i x,l[i]?=some x->∀(j:Nat) c' l' y,(D.cells c x)[j]?=some (.au c' l')->(bz vs (o+i*K.sz c) (K.sz c))[j]?=some y->¬bS D w c' l' y b)
   (hdis:∀i x,l[i]?=some x->∀(j:Nat) c' l' y,(D.cells c x)[j]?=some (.au c' l')->(bz vs (o+i*K.sz c) (K.sz c))[j]?=some y->
     ∀i2 x2,l[i2]?=some x2->∀(j2:Nat) c2 l2 y2,(D.cells c x2)[j2]?=some (.au c2 l2)->(bz vs (o+i2*K.sz c) (K.sz c))[j2]?=some y2->∀k,bS D w c' l' y k->bS D w c2 l2 y2 k->i=i2/\j=j2):
   Tree D w c l (.slice (some ⟨b,o,none⟩) l.length cap)
def iE(i off n i' j':Nat):Prop:=i'=i/\off<=j'/\j'<off+n
def e9(D:aT K)(w:World)(c:K.U)(l:List (K.El c))(i off n:Nat)(r:Value)(k:Nat):Prop:=
 ∃b o m cap,r=.slice (some ⟨b,o,none⟩) m cap/\(k=b\/∃(i' j':Nat)(x:K.El c)(c':K.U)(l':List (K.El c'))(y:Value),¬iE i off n i' j'/\l[i']?=some x/\(D.cells c x)[j']?=some (.au c' l')/\w.cell? ⟨b,o+i'*K.sz c+j',none⟩=some y/\bS D w c' l' y k)
def gB(D:aT K)(ρ:List Value)(S:Nat->Prop)(w:World)(c:K.U)(l:List (K.El c))(i off:Nat)(cs:List (AV K))(r:Value):Prop:=
 ∃(b o cap:Nat)(vs:Array Value)(T:TypeId)(fr:Nat×Nat),r=.slice (some ⟨b,o,none⟩) l.length cap/\w.heap[b]?=some (.cells vs T fr)/\(l.length<=cap/\lL D c T o fr)/\o+cap*K.sz c<=vs.size/\
  (∀k,o<=k->k<o+cap*K.sz c->¬(fr.1<=k/\k<fr.2))/\i<l.length/\off+cs.length<=K.sz c/\
  (∀(i':Nat) x,l[i']?=some x->∀(j':Nat) v u,¬iE i off cs.length i' j'->(D.cells c x)[j']?=some v->w.cell? ⟨b,o+i'*K.sz c+j',none⟩=some u->
    (v.gz=false->dA v=false/\Rep D [] (fun _=>False) w v u)/\∀(c':K.U)(l':List (K.El c')),v=.au c' l'->Tree D w c' l' u/\¬bS D w c' l' u b)/\
  (∀(i1 j1 i2 j2:Nat) x1 x2 (c1:K.U) (l1:List (K.El c1)) (c2:K.U) (l2:List (K.El c2)) u1 u2 k,¬iE i off cs.length i1 j1->¬iE i off cs.length i2 j2->l[i1]?=some x1->l[i2]?=some x2->(D.cells c x1)[j1]?=some (.au c1 l1)->(D.cells c x2)[j2]?=some (.au c2 l2)->
    w.cell? ⟨b,o+i1*K.sz c+j1,none⟩=some u1->w.cell? ⟨b,o+i2*K.sz c+j2,none⟩=some u2->bS D w c1 l1 u1 k->bS D w c2 l2 u2 k->i1=i2/\j1=j2)/\
  ∀(j:Nat) v,cs[j]?=some v->∃u,w.cell? ⟨b,o+i*K.sz c+off+j,none⟩=some u/\Rep D ρ S w v u
def bj(D:aT K)(w:World):Ob K->Value->Nat->Prop
 |.tree c l,r,b=>bS D w c l r b
 |.opn c l i off cs,r,b=>e9 D w c l i off cs.length r b
 |_,r,b=>dj r=some b
def Ob.live:Ob K->Bool
 |.dead|.cT .. |.dt ..=>false
 |_=>true
def cV(D:aT K)(ρ:List Value)(S:Nat->Prop)(w:World):Ob K->Value->Prop
 |.dead,_=>True
 |.cT c l,r=>Rep D ρ S w (.au c l) r
 |.box cs,r=>∃b vs T,r=.pointer (some ⟨b,0,none⟩)/\w.heap[b]?=some (.cells vs T (0,0))/\aI D ρ S w cs vs.toList/\B8 D cs T
 |.arr c l,r=>(r=.slice none 0 0/\l=[])\/∃b o cap vs T fr,r=.slice (some ⟨b,o,none⟩) l.length cap/\w.heap[b]?=some (.cells vs T fr)/\(l.length<=cap/\lL D c T o fr)/\o+cap*K.sz c<=vs.size/\
     (∀k,o<=k->k<o+cap*K.sz c->¬(fr.1<=k/\k<fr.2))/\∀i x,l[i]?=some x->aI D ρ S w (D.cells c x) (bz vs (o+i*K.sz c) (K.sz c))
 |.tree c l,r=>Tree D w c l r
 |.opn c l i off cs,r=>gB D ρ S w c l i off cs r
 |.dt c x,r=>Rep D ρ S w (.rp c x 0) r/\∃b,r=.pointer (some ⟨b,0,none⟩)
 |.bf _ m l,r=>∃b,r=.map (some b)/\w.heap[b]?=some (.map (cO 0 l).toArray l.length)/\(∀p∈l,cb m p.1=true)/\l.Pairwise (fun p q=>p.1≠q.1)
def Own(D:aT K)(w:World)(ρ:List Value)(H:List (Ob K))(b:Nat):Prop:=∃(h:Nat)(o:Ob K)(r:Value),H[h]?=some o/\o.live=true/\ρ[h]?=some r/\bj D w o r b
structure aD (D:aT K) (ρ:List Value) (S:Nat->Prop) (w:World) (H:List (Ob K)):Prop where
 len:ρ.length=H.length
 ob:∀(h:Nat) o r,H[h]?=some o->ρ[h]?=some r->cV D ρ S w o r
 ct:∀(h h':Nat) o o' r r' b,H[h]?=some o->o.live=true->ρ[h]?=some r->bj D w o r b->H[h']?=some o'->o'.live=true->ρ[h']?=some r'->bj D w o' r' b->h=h'
 lt:∀b,Own D w ρ H b->b<w.heap.size/\¬S b
 slt:∀b,S b->b<w.heap.size
 base:D.base.inv S w
structure Step (D:aT K) (n0:Nat) (ρ:List Value) (S:Nat->Prop) (H:List (Ob K)) (w:World) (ρ':List Value) (S':Nat->Prop) (H':List (Ob K)) (w':World):Prop where
 os:w'.os=w.os
 tape:w'.tape=w.tape
 output:w'.output=w.output
 size:w.heap.size<=w'.heap.size
 old:∀b,b<w.heap.size->¬Own D w ρ H b->w'.heap[b]?=w.heap[b]?
 own:∀b,Own D w' ρ' H' b->Own D w ρ H b\/w.heap.size<=b
 s1:∀b,S b->S' b
 s2:∀b,S' b->S b\/Own D w ρ H b\/w.heap.size<=b
 pre:∀h,h<n0->ρ'[h]?=ρ[h]?
section
variable {D :aT K}{n0:Nat}{ρ ρ' Ny:List Value}{S S' Nz:Nat->Prop}{w w' w'':World}{H H' jg:List (Ob K)}
theorem Step.refl:Step D n0 ρ S H w ρ S H w:=⟨rfl,rfl,rfl,Nat.le_refl _,fun _ _ _=>rfl,fun _ h=>.inl h,fun _ h=>h,fun _ h=>.inl h,fun _ _=>rfl⟩
theorem Step.trans(a:Step D n0 ρ S H w ρ' S' H' w')(b:Step D n0 ρ' S' H' w' Ny Nz jg w''):Step D n0 ρ S H w Ny Nz jg w'':={
 os:=b.os.trans a.os
 tape:=b.tape.trans a.tape
 output:=b.output.trans a.output
 size:=Nat.le_trans a.size b.size
 old:=fun k hk ho=>by
  rw[b.old k (Nat.lt_of_lt_of_le hk a.size) (fun h=>by rcases a.own k h with h|h;exact ho h;omega),a.old k hk ho]
 own:=fun k h=>by
  rcases b.own k h with h|h
  ·exact a.own k h
  ·exact .inr (Nat.le_trans a.size h)
 s1:=fun k h=>b.s1 k (a.s1 k h)
 s2:=fun k h=>by
  rcases b.s2 k h with h|h|h
  ·exact a.s2 k h
  ·rcases a.own k h with h|h
   ·exact .inr (.inl h)
   ·exact .inr (.inr h)
  ·exact .inr (.inr (Nat.le_trans a.size h))
 pre:=fun h hh=>(b.pre h hh).trans (a.pre h hh)}
theorem Step.weaken{m:Nat}(a:Step D n0 ρ S H w ρ' S' H' w')(h:m<=n0):Step D m ρ S H w ρ' S' H' w':=
 ⟨a.os,a.tape,a.output,a.size,a.old,a.own,a.s1,a.s2,fun k hk=>a.pre k (Nat.lt_of_lt_of_le hk h)⟩
theorem Step.nP(hs:aD D ρ S w H)(a:Step D n0 ρ S H w ρ' S' H' w'):∀b,S b->w'.heap[b]?=w.heap[b]?:=
 fun b hb=>a.old b (hs.slt b hb) fun h=>(hs.lt b h).2 hb
theorem Step.rep(hs:aD D ρ S w H)(a:Step D n0 ρ S H w ρ' S' H' w')(hρ:∀(h:Nat) r,ρ[h]?=some r->ρ'[h]?=some r){v:AV K}{x:Value}(h:Rep D ρ S w v x):Rep D ρ' S' w' v x:=
 h.mono a.s1 (a.nP hs) hρ
end
end Go.V
set_option linter.unusedVariables false
namespace Go.V
open Go
variable {K :bL}{D:aT K}{ρ ρ':List Value}{S S':Nat->Prop}{w w':World}{H H':List (Ob K)}
theorem seg_cell{b p n j:Nat}{vs:Array Value}{T:TypeId}{fr:Nat×Nat}{y:Value}(hb:w.heap[b]?=some (.cells vs T fr))(hy:(bz vs p n)[j]?=some y):w.cell? ⟨b,p+j,none⟩=some y:=by
 simp only[bz,List.getElem?_take,List.getElem?_drop]at hy;split at hy
 ·simp[World.cell?,hb];simpa using hy
 ·cases hy
theorem NA{b p n:Nat}{vs:Array Value}{T:TypeId}{fr:Nat×Nat}(hb:w.heap[b]?=some (.cells vs T fr)):dJ w b p (bz vs p n):=fun j y hy=>seg_cell hb hy
theorem bS.old{c:K.U}{l:List (K.El c)}{r:Value}{k:Nat}(h:bS D w' c l r k):(∀k,bS D w c l r k->w'.heap[k]?=w.heap[k]?)->bS D w c l r k:=by
 induction h with
 |here=>exact fun _=>.here
 |kid hx hj hy hk ih=>
  intro hw;have hy':=hy;rw[cell?_of_heap (w:=w) (hw _ .here)]at hy';exact .kid hx hj hy' (ih fun k hk=>hw k (.kid hx hj hy' hk))
theorem bS.new{c:K.U}{l:List (K.El c)}{r:Value}{k:Nat}(h:bS D w c l r k):(∀k,bS D w c l r k->w'.heap[k]?=w.heap[k]?)->bS D w' c l r k:=by
 induction h with
 |here=>exact fun _=>.here
 |kid hx hj hy hk ih=>
  intro hw;exact .kid hx hj (by rw[cell?_of_heap (w:=w) (hw _ .here)];exact hy) (ih fun k hk=>hw k (.kid hx hj hy hk))
theorem wY{v:AV K}(h:v.gz=true):∃c l,v=.au c l:=by
 cases v<;>first|exact⟨_,_,rfl⟩|cases h
theorem Tree.mono{c:K.U}{l:List (K.El c)}{r:Value}(h:Tree D w c l r):(∀k,bS D w c l r k->w'.heap[k]?=w.heap[k]?)->Tree D w' c l r:=by
 induction h with
 |nil=>exact fun _=>.nil
 | @mk c l b o cap vs T fr hb hcap hsz hfr hlen dR gA hself hdis ih=>
   intro hw;have hk:∀(i:Nat)(x:K.El c),l[i]?=some x->∀(j:Nat)(c':K.U)(l':List (K.El c'))(y:Value),(D.cells c x)[j]?=some (.au c' l')->(bz vs (o+i*K.sz c) (K.sz c))[j]?=some y->∀k,bS D w c' l' y k->w'.heap[k]?=w.heap[k]?:=fun i x hx j c' l' y hj hy k hk=>hw k (.kid hx hj (seg_cell hb hy) hk)
   refine .mk (by rw[hw _ .here];exact hb) hcap hsz hfr hlen (fun i x hx j v y hv hy hd=>⟨(dR i x hx j v y hv hy hd).1,(dR i x hx j v y hv hy hd).2.mono (fun _ h=>h) (fun _ h=>h.elim) (fun _ _ h=>h)⟩)
    (fun i x hx j c' l' y hj hy=>ih i x hx j c' l' y hj hy (hk i x hx j c' l' y hj hy)) (fun i x hx j c' l' y hj hy hf=>hself i x hx j c' l' y hj hy (hf.old (hk i x hx j c' l' y hj hy)))
    (fun i x hx j c' l' y hj hy i2 x2 hx2 j2 c2 l2 y2 hj2 hy2 k h1 h2=>hdis i x hx j c' l' y hj hy i2 x2 hx2 j2 c2 l2 y2 hj2 hy2 k (h1.old (hk i x hx j c' l' y hj hy)) (h2.old (hk i2 x2 hx2 j2 c2 l2 y2 hj2 hy2)))
theorem Tree.lt{c:K.U}{l:List (K.El c)}{r:Value}{k:Nat}(h:Tree D w c l r):bS D w c l r k->k<w.heap.size:=by
 induction h with
 |nil=>intro hf;cases hf
 |mk hb hcap hsz hfr hlen dR gA hself hdis ih=>
  intro hf;cases hf with
  |here=>exact(Array.getElem?_eq_some_iff.1 hb).1
  |kid hx hj hy hk=>
   have hj':=(List.getElem?_eq_some_iff.1 hj).1;rw[hlen _ _ hx]at hj';have hs:=List.getElem?_eq_getElem hj';have hc:=seg_cell hb hs;rw[hc]at hy;cases hy;exact ih _ _ hx _ _ _ _ hj hs hk
theorem Tree.rep{c:K.U}{l:List (K.El c)}{r:Value}(h:Tree D w c l r):(∀k,bS D w c l r k->S k)->Rep D ρ S w (.au c l) r:=by
 induction h with
 |nil=>exact fun _=>.cK _ _
 |mk hb hcap hsz hfr hlen dR gA hself hdis ih=>
  intro hS;refine .au (fun i=>bz _ (_+i*K.sz _) (K.sz _)) (hS _ .here) hcap.1 (fun i x hx=>(hlen i x hx).symm) (fun i _=>NA hb) (fun i x hx j v y hv hy=>?_);cases hd:v.gz
  ·exact(dR i x hx j v y hv hy hd).2.mono (fun _ h=>h.elim) (fun _ h=>h.elim) (fun _ _ h=>by simp at h)
  ·obtain⟨c',l',rfl⟩:=wY hd;exact ih i x hx j c' l' y hv hy fun k hk=>hS k (.kid hx hv (seg_cell hb hy) hk)
theorem wZ{c:K.U}{l:List (K.El c)}{r:Value}(h:Tree D w c l r):∃a cp,r=.slice a l.length cp:=by
 cases h with
 |nil=>exact⟨_,_,rfl⟩
 |mk=>exact⟨_,_,rfl⟩
theorem e9.old{c:K.U}{l:List (K.El c)}{i off n:Nat}{r:Value}{k:Nat}(h:e9 D w' c l i off n r k)(hw:∀k,e9 D w c l i off n r k->w'.heap[k]?=w.heap[k]?):e9 D w c l i off n r k:=by
 obtain⟨b,o,m,cap,rfl,h|⟨i',j',x,c',l',y,h1,h2,h3,h4,h5⟩⟩:=h
 ·exact⟨b,o,m,cap,rfl,.inl h⟩
 ·rw[cell?_of_heap (w:=w) (hw b ⟨b,o,m,cap,rfl,.inl rfl⟩)]at h4;exact⟨b,o,m,cap,rfl,.inr ⟨i',j',x,c',l',y,h1,h2,h3,h4,h5.old fun k hk=>hw k ⟨b,o,m,cap,rfl,.inr ⟨i',j',x,c',l',y,h1,h2,h3,h4,hk⟩⟩⟩⟩
theorem e9.new{c:K.U}{l:List (K.El c)}{i off n:Nat}{r:Value}{k:Nat}(h:e9 D w c l i off n r k)(hw:∀k,e9 D w c l i off n r k->w'.heap[k]?=w.heap[k]?):e9 D w' c l i off n r k:=by
 obtain⟨b,o,m,cap,rfl,h|⟨i',j',x,c',l',y,h1,h2,h3,h4,h5⟩⟩:=h
 ·exact⟨b,o,m,cap,rfl,.inl h⟩
 ·exact⟨b,o,m,cap,rfl,.inr ⟨i',j',x,c',l',y,h1,h2,h3,by rw[cell?_of_heap (w:=w) (hw b ⟨b,o,m,cap,rfl,.inl rfl⟩)];exact h4,h5.new fun k hk=>hw k ⟨b,o,m,cap,rfl,.inr ⟨i',j',x,c',l',y,h1,h2,h3,h4,hk⟩⟩⟩⟩
theorem gB.keep{c:K.U}{l:List (K.El c)}{i off:Nat}{cs:List (AV K)}{r:Value}(hR:∀(j:Nat) v u,cs[j]?=some v->Rep D ρ S w v u->Rep D ρ' S' w' v u)
 (hb:∀k,e9 D w c l i off cs.length r k->w'.heap[k]?=w.heap[k]?) (h:gB D ρ S w c l i off cs r):gB D ρ' S' w' c l i off cs r:=by
 obtain⟨b,o,cap,vs,T,fr,rfl,h1,h2,h3,h4,h5,h6,h7,h8,h9⟩:=h;have hbb:w'.heap[b]?=w.heap[b]?:=hb b ⟨b,o,_,cap,rfl,.inl rfl⟩;have hcell:∀k,w'.cell? ⟨b,k,none⟩=w.cell? ⟨b,k,none⟩:=fun k=>cell?_of_heap hbb
 have hk:∀(i' j':Nat)(x:K.El c)(c':K.U)(l':List (K.El c'))(y:Value),¬iE i off cs.length i' j'->l[i']?=some x->(D.cells c x)[j']?=some (.au c' l')->w.cell? ⟨b,o+i'*K.sz c+j',none⟩=some y->∀k,bS D w c' l' y k->w'.heap[k]?=w.heap[k]?:=
  fun i' j' x c' l' y g1 g2 g3 g4 k hk=>hb k ⟨b,o,_,cap,rfl,.inr ⟨i',j',x,c',l',y,g1,g2,g3,g4,hk⟩⟩
 refine⟨b,o,cap,vs,T,fr,rfl,by rw[hbb];exact h1,h2,h3,h4,h5,h6,fun i' x hx j' v u hh hv hu=>?_,fun i1 j1 i2 j2 x1 x2 c1 l1 c2 l2 u1 u2 k a1 a2 a3 a4 a5 a6 a7 a8 a9 a10=>?_,fun j v hv=>?_⟩
 ·rw[hcell]at hu;obtain⟨g1,g2⟩:=h7 i' x hx j' v u hh hv hu;refine⟨fun e=>⟨(g1 e).1,(g1 e).2.mono (fun _ h=>h) (fun _ h=>h.elim) (fun _ _ h=>h)⟩,fun c' l' e=>?_⟩;obtain⟨k1,k2⟩:=g2 c' l' e;subst e;have hk':=hk i' j' x c' l' u hh hx hv hu;exact⟨k1.mono hk',fun hf=>k2 (hf.old hk')⟩
 ·rw[hcell]at a7 a8;exact h8 i1 j1 i2 j2 x1 x2 c1 l1 c2 l2 u1 u2 k a1 a2 a3 a4 a5 a6 a7 a8 (a9.old (hk _ _ _ _ _ _ a1 a3 a5 a7)) (a10.old (hk _ _ _ _ _ _ a2 a4 a6 a8))
 ·obtain⟨u,g1,g2⟩:=h9 j v hv;exact⟨u,by rw[hcell];exact g1,hR j v u hv g2⟩
theorem gB.mono{c:K.U}{l:List (K.El c)}{i off:Nat}{cs:List (AV K)}{r:Value}(hS:∀b,S b->S' b)(hw:∀b,S b->w'.heap[b]?=w.heap[b]?)(hρ:∀(h:Nat) r,ρ[h]?=some r->ρ'[h]?=some r)
 (hb:∀k,e9 D w c l i off cs.length r k->w'.heap[k]?=w.heap[k]?) (h:gB D ρ S w c l i off cs r):gB D ρ' S' w' c l i off cs r:=
 h.keep (fun _ _ _ _ hr=>hr.mono hS hw hρ) hb
theorem bj.old{o:Ob K}{r:Value}{k:Nat}(h:bj D w' o r k)(hw:∀k,bj D w o r k->w'.heap[k]?=w.heap[k]?):bj D w o r k:=by
 cases o<;>first|exact h|exact bS.old h hw|exact e9.old h hw
theorem bj.new{o:Ob K}{r:Value}{k:Nat}(h:bj D w o r k)(hw:∀k,bj D w o r k->w'.heap[k]?=w.heap[k]?):bj D w' o r k:=by
 cases o<;>first|exact h|exact bS.new h hw|exact e9.new h hw
end Go.V
namespace Go.V
open Go
variable {K :bL}{D:aT K}{n0:Nat}{ρ ρ':List Value}{S S':Nat->Prop}{w w':World}{H H':List (Ob K)}
theorem cV.mono(hS:∀b,S b->S' b)(hw:∀b,S b->w'.heap[b]?=w.heap[b]?)(hρ:∀(h:Nat) r,ρ[h]?=some r->ρ'[h]?=some r){o:Ob K}{r:Value}
 (hb:∀b,o.live=true->bj D w o r b->w'.heap[b]?=w.heap[b]?) (h:cV D ρ S w o r):cV D ρ' S' w' o r:=by
 cases o with
 |dead=>trivial
 |cT c l=>exact Rep.mono hS hw hρ h
 |box cs=>
  obtain⟨b,vs,T,rfl,h1,h2,h3⟩:=h;exact⟨b,vs,T,rfl,by rw[hb b rfl rfl];exact h1,h2.mono hS hw hρ,h3⟩
 |arr c l=>
  rcases h with h|⟨b,o,cap,vs,T,fr,rfl,h1,h2,h3,h4,h5⟩
  ·exact .inl h
  ·exact .inr ⟨b,o,cap,vs,T,fr,rfl,by rw[hb b rfl rfl];exact h1,h2,h3,h4,fun i x hx=>(h5 i x hx).mono hS hw hρ⟩
 |tree c l=>exact Tree.mono h fun k hk=>hb k rfl hk
 |opn c l i off cs=>exact gB.mono hS hw hρ (fun k hk=>hb k rfl hk) h
 |dt c x=>exact⟨h.1.mono hS hw hρ,h.2⟩
 |bf t m l=>
  obtain⟨b,rfl,h1,h2⟩:=h;exact⟨b,rfl,by rw[hb b rfl rfl];exact h1,h2⟩
theorem Own.aaG{h:Nat}{o:Ob K}{r:Value}{b:Nat}(h1:H[h]?=some o)(h2:o.live=true)(h3:ρ[h]?=some r)(h4:bj D w o r b):Own D w ρ H b:=⟨h,o,r,h1,h2,h3,h4⟩
theorem Own.old{b:Nat}(h:Own D w' ρ H b)(ho:∀b,Own D w ρ H b->w'.heap[b]?=w.heap[b]?):Own D w ρ H b:=by
 obtain⟨k,o,r,h1,h2,h3,h4⟩:=h;exact⟨k,o,r,h1,h2,h3,h4.old fun q hq=>ho q ⟨k,o,r,h1,h2,h3,hq⟩⟩
theorem Own.new{b:Nat}(h:Own D w ρ H b)(ho:∀b,Own D w ρ H b->w'.heap[b]?=w.heap[b]?):Own D w' ρ H b:=by
 obtain⟨k,o,r,h1,h2,h3,h4⟩:=h;exact⟨k,o,r,h1,h2,h3,h4.new fun q hq=>ho q ⟨k,o,r,h1,h2,h3,hq⟩⟩
theorem cI{α:Type}{l:List α}{h k:Nat}{o x:α}(hx:(l.set h o)[k]?=some x):(k=h/\x=o/\h<l.length)\/(k≠h/\l[k]?=some x):=by
 rw[List.getElem?_set]at hx;by_cases hk:h=k
 ·subst hk;simp only[if_true]at hx;split at hx
  ·rename_i hl;simp at hx;exact .inl ⟨rfl,hx.symm,hl⟩
  ·simp at hx
 ·rw[if_neg hk]at hx;exact .inr ⟨Ne.symm hk,hx⟩
theorem lM{h b:Nat}(hb:Own D w ρ (H.set h .dead) b):Own D w ρ H b:=by
 obtain⟨k,o,r,h1,h2,h3,h4⟩:=hb;rcases cI h1 with⟨-,rfl,-⟩|⟨-,h1⟩
 ·cases h2
 ·exact⟨k,o,r,h1,h2,h3,h4⟩
theorem aD.kill(hs:aD D ρ S w H)(h:Nat):aD D ρ S w (H.set h .dead):={
 len:=by simp[hs.len]
 ob:=fun k o r h1 h2=>by
  rcases cI h1 with⟨-,rfl,-⟩|⟨-,h1⟩
  ·trivial
  ·exact hs.ob k o r h1 h2
 ct:=fun k k' o o' r r' b h1 h2 h3 h4 g1 g2 g3 g4=>by
  rcases cI h1 with⟨-,rfl,-⟩|⟨-,h1⟩
  ·cases h2
  ·rcases cI g1 with⟨-,rfl,-⟩|⟨-,g1⟩
   ·cases g2
   ·exact hs.ct k k' o o' r r' b h1 h2 h3 h4 g1 g2 g3 g4
 lt:=fun b hb=>hs.lt b (lM hb)
 slt:=hs.slt
 base:=hs.base}
theorem uc(hs:aD D ρ S w H){h:Nat}{o:Ob K}{r:Value}{b:Nat}(h1:H[h]?=some o)(h2:o.live=true)(h3:ρ[h]?=some r)(h4:bj D w o r b):¬Own D w ρ (H.set h .dead) b:=by
 rintro ⟨k,o',r',g1,g2,g3,g4⟩
 rcases cI g1 with⟨-,rfl,-⟩|⟨hk,g1⟩
 ·cases g2
 ·exact hk (hs.ct k h o' o r' r b g1 g2 g3 g4 h1 h2 h3 h4)
theorem aD.world(hs:aD D ρ S w H)(hsz:w.heap.size<=w'.heap.size)(ho:∀b,Own D w ρ H b->w'.heap[b]?=w.heap[b]?)(hS:∀b,S b->w'.heap[b]?=w.heap[b]?):aD D ρ S w' H:={
 len:=hs.len
 ob:=fun k o r h1 h2=>(hs.ob k o r h1 h2).mono (fun _ h=>h) hS (fun _ _ h=>h) (fun b hl hb=>ho b ⟨k,o,r,h1,hl,h2,hb⟩)
 ct:=fun k k' o o' r r' b h1 h2 h3 h4 g1 g2 g3 g4=>hs.ct k k' o o' r r' b h1 h2 h3 (h4.old fun q hq=>ho q ⟨k,o,r,h1,h2,h3,hq⟩) g1 g2 g3 (g4.old fun q hq=>ho q ⟨k',o',r',g1,g2,g3,hq⟩)
 lt:=fun b hb=>⟨Nat.lt_of_lt_of_le (hs.lt b (hb.old ho)).1 hsz,(hs.lt b (hb.old ho)).2⟩
 slt:=fun b hb=>Nat.lt_of_lt_of_le (hs.slt b hb) hsz
 base:=D.base.mono (fun _ h=>h) hS hs.base}
theorem jW{α:Type}{l:List α}{x y:α}{k:Nat}(h:(l++[x])[k]?=some y):l[k]?=some y\/(k=l.length/\y=x):=by
 by_cases hk:k<l.length
 ·rw[List.getElem?_append_left hk]at h;exact .inl h
 ·rw[List.getElem?_append_right (by omega)]at h;have:k-l.length=0:=by
   rcases Nat.eq_zero_or_pos (k-l.length)with h0|h0
   ·exact h0
   ·rw[List.getElem?_eq_none (by simp;omega)]at h;cases h
  rw[this]at h;simp at h;exact .inr ⟨by omega,h.symm⟩
theorem jh{l m:List Value}{k:Nat}{y:Value}(h:l[k]?=some y):(l++m)[k]?=some y:=by
 rw[List.getElem?_append_left (List.getElem?_eq_some_iff.1 h).1];exact h
theorem rO{r:Value}{o:Ob K}{b:Nat}(hl:ρ.length=H.length)(h:Own D w (ρ++[r]) (H++[o]) b):Own D w ρ H b\/(o.live=true/\bj D w o r b):=by
 obtain⟨k,o',r',h1,h2,h3,h4⟩:=h;rcases jW h1 with h1|⟨rfl,rfl⟩
 ·rcases jW h3 with h3|⟨rfl,rfl⟩
  ·exact .inl ⟨k,o',r',h1,h2,h3,h4⟩
  ·have:=(List.getElem?_eq_some_iff.1 h1).1;omega
 ·rcases jW h3 with h3|⟨_,rfl⟩
  ·have:=(List.getElem?_eq_some_iff.1 h3).1;omega
  ·exact .inr ⟨h2,h4⟩
theorem aD.push(hs:aD D ρ S w H){o:Ob K}{r:Value}(ho:cV D (ρ++[r]) S w o r)(hb:∀b,o.live=true->bj D w o r b->b<w.heap.size/\¬S b/\¬Own D w ρ H b):
 aD D (ρ++[r]) S w (H++[o]):={
 len:=by simp[hs.len]
 ob:=fun k o' r' h1 h2=>by
  rcases jW h1 with h1|⟨rfl,rfl⟩
  ·rcases jW h2 with h2|⟨rfl,rfl⟩
   ·exact(hs.ob k o' r' h1 h2).mono (fun _ h=>h) (fun _ _=>rfl) (fun _ _ h=>jh h) (fun _ _ _=>rfl)
   ·have:=(List.getElem?_eq_some_iff.1 h1).1;have:=hs.len;omega
  ·rcases jW h2 with h2|⟨_,rfl⟩
   ·have:=(List.getElem?_eq_some_iff.1 h2).1;have:=hs.len;omega
   ·exact ho
 ct:=fun k k' o1 o2 r1 r2 b h1 h2 h3 h4 g1 g2 g3 g4=>by
  have hl:=hs.len;have key:∀{k:Nat}{o1:Ob K}{r1:Value},(H++[o])[k]?=some o1->(ρ++[r])[k]?=some r1->(H[k]?=some o1/\ρ[k]?=some r1)\/(k=H.length/\o1=o/\r1=r):=fun{k o1 r1} a b=>by
   rcases jW a with a|⟨rfl,rfl⟩
   ·rcases jW b with b|⟨hk,_⟩
    ·exact .inl ⟨a,b⟩
    ·have:=(List.getElem?_eq_some_iff.1 a).1;omega
   ·rcases jW b with b|⟨_,rfl⟩
    ·have:=(List.getElem?_eq_some_iff.1 b).1;omega
    ·exact .inr ⟨rfl,rfl,rfl⟩
  rcases key h1 h3 with⟨a1,a3⟩|⟨a0,a1,a2⟩
  ·rcases key g1 g3 with⟨c1,c3⟩|⟨c0,c1,c2⟩
   ·exact hs.ct k k' o1 o2 r1 r2 b a1 h2 a3 h4 c1 g2 c3 g4
   ·subst c1;subst c2;exact absurd ⟨k,o1,r1,a1,h2,a3,h4⟩ (hb b g2 g4).2.2
  ·rcases key g1 g3 with⟨c1,c3⟩|⟨c0,c1,c2⟩
   ·subst a1;subst a2;exact absurd ⟨k',o2,r2,c1,g2,c3,g4⟩ (hb b h2 h4).2.2
   ·omega
 lt:=fun b h=>by
  rcases rO hs.len h with h|⟨hl,h⟩
  ·exact hs.lt b h
  ·exact⟨(hb b hl h).1,(hb b hl h).2.1⟩
 slt:=hs.slt
 base:=hs.base}
theorem aD.B9(hs:aD D ρ S w H){h:Nat}{o:Ob K}{r:Value}(h0:H[h]?=some .dead)(hr:ρ[h]?=some r)(ho:cV D ρ S w o r)(hb:∀b,bj D w o r b->b<w.heap.size/\¬S b/\¬Own D w ρ H b):
 aD D ρ S w (H.set h o):={
 len:=by simp[hs.len]
 ob:=fun k o' r' h1 h2=>by
  rcases cI h1 with⟨rfl,rfl,-⟩|⟨hk,h1⟩
  ·rw[hr]at h2;simp at h2;subst h2;exact ho
  ·exact hs.ob k o' r' h1 h2
 ct:=fun k k' o1 o2 r1 r2 b h1 h2 h3 h4 g1 g2 g3 g4=>by
  rcases cI h1 with⟨rfl,rfl,-⟩|⟨hk,h1⟩
  ·rcases cI g1 with⟨rfl,rfl,-⟩|⟨hk',g1⟩
   ·rfl
   ·rw[hr]at h3;simp at h3;subst h3;exact absurd ⟨k',o2,r2,g1,g2,g3,g4⟩ (hb b h4).2.2
  ·rcases cI g1 with⟨rfl,rfl,-⟩|⟨hk',g1⟩
   ·rw[hr]at g3;simp at g3;subst g3;exact absurd (Own.aaG (H:=H) ‹_› h2 h3 h4) (hb b g4).2.2
   ·exact hs.ct k k' o1 o2 r1 r2 b h1 h2 h3 h4 g1 g2 g3 g4
 lt:=fun b ⟨k,o',r',h1,h2,h3,h4⟩=>by
  rcases cI h1 with⟨rfl,rfl,-⟩|⟨hk,h1⟩
  ·rw[hr]at h3;simp at h3;subst h3;exact⟨(hb b h4).1,(hb b h4).2.1⟩
  ·exact hs.lt b ⟨k,o',r',h1,h2,h3,h4⟩
 slt:=hs.slt
 base:=hs.base}
theorem aD.turn(hs:aD D ρ S w H){h b:Nat}{o o':Ob K}{r:Value}(h1:H[h]?=some o)(h2:o.live=true)(h3:ρ[h]?=some r)(h4:bj D w o r b)
 (hsz:w'.heap.size=w.heap.size) (hw:∀k,k≠b->w'.heap[k]?=w.heap[k]?) (hf:∀k,bj D w' o' r k->bj D w o r k) (ho:cV D ρ S w' o' r):aD D ρ S w' (H.set h o'):=by
 have hk:=hs.kill h;have hno:∀q,bj D w o r q->¬Own D w ρ (H.set h .dead) q:=fun q hq=>uc hs h1 h2 h3 hq
 have hlt:∀q,bj D w o r q->q<w.heap.size/\¬S q:=fun q hq=>hs.lt q ⟨h,o,r,h1,h2,h3,hq⟩
 have hkeep:∀k,Own D w ρ (H.set h .dead) k->w'.heap[k]?=w.heap[k]?:=fun k hk'=>hw k (fun e=>by subst e;exact hno _ h4 hk')
 have hw1:aD D ρ S w' (H.set h .dead):=hk.world (by omega) hkeep (fun k hk'=>hw k (fun e=>by subst e;exact(hlt _ h4).2 hk'));have:=hw1.B9 (h:=h) (o:=o') (r:=r) (by rw[List.getElem?_set];simp[(List.getElem?_eq_some_iff.1 h1).1]) h3 ho (fun k hk'=>by
  have hk2:=hf k hk';exact⟨by have:=(hlt k hk2).1;omega,(hlt k hk2).2,fun hO=>hno k hk2 (hO.old hkeep)⟩)
 simpa using this
theorem aaH(hs:aD D ρ S w H){h b:Nat}{o o':Ob K}{r:Value}(h1:H[h]?=some o)(h2:o.live=true)(h3:ρ[h]?=some r)(h4:bj D w o r b)
 (hw:∀k,k≠b->w'.heap[k]?=w.heap[k]?) (hf:∀k,bj D w' o' r k->bj D w o r k) {q:Nat} (hb:Own D w' ρ (H.set h o') q):Own D w ρ H q:=by
 obtain⟨k,o1,r1,g1,g2,g3,g4⟩:=hb;rcases cI g1 with⟨rfl,rfl,-⟩|⟨hk,g1⟩
 ·rw[h3]at g3;simp at g3;subst g3;exact⟨k,o,r,h1,h2,h3,hf q g4⟩
 ·exact⟨k,o1,r1,g1,g2,g3,g4.old fun q hq=>hw q fun e=>by subst e;exact hk (hs.ct k h o1 o r1 r q g1 g2 g3 hq h1 h2 h3 h4)⟩
theorem Step.turn(hs:aD D ρ S w H){h b:Nat}{o o':Ob K}{r:Value}(h1:H[h]?=some o)(h2:o.live=true)(h3:ρ[h]?=some r)(h4:bj D w o r b)
 (hsz:w'.heap.size=w.heap.size) (hw:∀k,k≠b->w'.heap[k]?=w.heap[k]?) (hf:∀k,bj D w' o' r k->bj D w o r k) (e1:w'.os=w.os) (e2:w'.tape=w.tape) (e3:w'.output=w.output):Step D n0 ρ S H w ρ S (H.set h o') w':=
 ⟨e1,e2,e3,by omega,fun k hk hno=>hw k (fun e=>by subst e;exact hno ⟨h,o,r,h1,h2,h3,h4⟩),fun k hk=>.inl (aaH hs h1 h2 h3 h4 hw hf hk),fun _ h=>h,fun _ h=>.inl h,fun _ _=>rfl⟩
theorem aD.new(hs:aD D ρ S w H){o:Ob K}{r:Value}(hsz:w.heap.size<=w'.heap.size)(hw:∀k,k<w.heap.size->w'.heap[k]?=w.heap[k]?)(ho:cV D (ρ++[r]) S w' o r)
 (hb:∀b,bj D w' o r b->w.heap.size<=b/\b<w'.heap.size):aD D (ρ++[r]) S w' (H++[o]):=by
 have hk:∀b,Own D w ρ H b->w'.heap[b]?=w.heap[b]?:=fun b h=>hw b (hs.lt b h).1
 have h1:aD D ρ S w' H:=hs.world hsz hk (fun b h=>hw b (hs.slt b h));exact h1.push ho fun b _ h=>⟨(hb b h).2,fun hS=>by have:=hs.slt b hS;have:=(hb b h).1;omega,fun hO=>by have:=(hs.lt b (hO.old hk)).1;have:=(hb b h).1;omega⟩
theorem Step.new(hs:aD D ρ S w H){o:Ob K}{r:Value}(hsz:w.heap.size<=w'.heap.size)(hw:∀k,k<w.heap.size->w'.heap[k]?=w.heap[k]?)
 (hb:∀b,bj D w' o r b->w.heap.size<=b) (e1:w'.os=w.os) (e2:w'.tape=w.tape) (e3:w'.output=w.output):Step D H.length ρ S H w (ρ++[r]) S (H++[o]) w':=
 ⟨e1,e2,e3,hsz,fun k hk _=>hw k hk,fun k hk=>by
   rcases rO hs.len hk with h|⟨-,h⟩
   ·exact .inl (h.old fun b h=>hw b (hs.lt b h).1)
   ·exact .inr (hb k h),fun _ h=>h,fun _ h=>.inl h,fun k hk=>by rw[List.getElem?_append_left (by rw[hs.len];exact hk)]⟩
theorem lN(hs:aD D ρ S w H){h:Nat}{c:K.U}{l:List (K.El c)}(ho:H[h]?=some (.arr c l)){X:Value}(hp:ρ[h]?=some X):(X=.slice none 0 0/\l=[])\/∃b o cap vs T fr,X=.slice (some ⟨b,o,none⟩) l.length cap/\w.heap[b]?=some (.cells vs T fr)/\(l.length<=cap/\lL D c T o fr)/\o+cap*K.sz c<=vs.size/\
 (∀k,o<=k->k<o+cap*K.sz c->¬(fr.1<=k/\k<fr.2))/\∀i x,l[i]?=some x->aI D ρ S w (D.cells c x) (bz vs (o+i*K.sz c) (K.sz c)):=hs.ob h _ _ ho hp
theorem NB(hs:aD D ρ S w H){h:Nat}{o:Ob K}{X:Value}{c:K.U}{l:List (K.El c)}(ho:H[h]?=some o)(hl:o.live=true)(hp:ρ[h]?=some X)
 (hr:Rep D ρ (fun b=>S b\/bj D w o X b) w (.au c l) X):aD D ρ (fun b=>S b\/bj D w o X b) w (H.set h (.cT c l))/\Step D n0 ρ S H w ρ (fun b=>S b\/bj D w o X b) (H.set h (.cT c l)) w:=by
 have hlen:=hs.len;have hno:∀b,bj D w o X b->¬Own D w ρ (H.set h .dead) b:=fun b hb=>uc hs ho hl hp hb
 have aaI:∀b,Own D w ρ (H.set h (.cT c l)) b->Own D w ρ (H.set h .dead) b:=fun b ⟨k,o,r,g1,g2,g3,g4⟩=>by
  rcases cI g1 with⟨-,rfl,-⟩|⟨hne,g1⟩
  ·cases g2
  ·exact⟨k,o,r,by rw[List.getElem?_set,if_neg (Ne.symm hne)];exact g1,g2,g3,g4⟩
 refine⟨⟨by simpa using hlen,fun k o' r h1 h2=>?_,fun k k' o o' r r' b h1 h2 h3 h4 g1 g2 g3 g4=>?_,fun b hb=>?_,fun b hb=>?_,D.base.mono (fun _ h=>.inl h) (fun _ _=>rfl) hs.base⟩,?_⟩
 ·rcases cI h1 with⟨rfl,rfl,-⟩|⟨-,h1⟩
  ·rw[hp]at h2;simp at h2;subst h2;exact hr
  ·exact(hs.ob k o' r h1 h2).mono (fun _ h=>.inl h) (fun _ _=>rfl) (fun _ _ h=>h) (fun _ _ _=>rfl)
 ·rcases cI h1 with⟨-,rfl,-⟩|⟨-,h1⟩
  ·cases h2
  ·rcases cI g1 with⟨-,rfl,-⟩|⟨-,g1⟩
   ·cases g2
   ·exact hs.ct k k' o o' r r' b h1 h2 h3 h4 g1 g2 g3 g4
 ·have h1:=aaI b hb;have:=hs.lt b (lM h1);exact⟨this.1,fun hS=>hS.elim this.2 fun h2=>hno b h2 h1⟩
 ·rcases hb with hb|hb
  ·exact hs.slt b hb
  ·exact(hs.lt b ⟨h,_,_,ho,hl,hp,hb⟩).1
 ·refine⟨rfl,rfl,rfl,Nat.le_refl _,fun _ _ _=>rfl,fun b ⟨k,o,r,g1,g2,g3,g4⟩=>?_,fun _ h=>.inl h,fun b hb=>?_,fun _ _=>rfl⟩
  ·rcases cI g1 with⟨-,rfl,-⟩|⟨-,g1⟩
   ·cases g2
   ·exact .inl ⟨k,o,r,g1,g2,g3,g4⟩
  ·rcases hb with hb|hb
   ·exact .inl hb
   ·exact .inr (.inl ⟨h,_,_,ho,hl,hp,hb⟩)
theorem aaJ(hs:aD D ρ S w H)(h:Nat):∃S',aD D ρ S' w (nA H h)/\Step D n0 ρ S H w ρ S' (nA H h) w/\(nA H h).length=H.length:=by
 have hlen:=hs.len;unfold nA;split
 ·rename_i c l ho;have hlt:h<H.length:=(List.getElem?_eq_some_iff.1 ho).1;have hp:ρ[h]?=some ρ[h]:=List.getElem?_eq_getElem (by omega);generalize ρ[h]=X at hp;have hr:Rep D ρ (fun b=>S b\/bj D w (.arr c l) X b) w (.au c l) X:=by
   rcases lN hs ho hp with⟨e,rfl⟩|⟨b,o,cap,vs,T,fr,e,hblk,⟨hcap,bZ⟩,hsz,hfr,hall⟩
   ·rw[e];exact .cK _ _
   ·rw[e];refine .au (fun i=>bz vs (o+i*K.sz c) (K.sz c)) (.inr rfl) hcap (fun i x hx=>(hall i x hx).1.symm) (fun i _=>NA hblk) (fun i x hx j v y hv hy=>?_);exact((hall i x hx).2 j v y hv hy).mono (fun _ h=>.inl h) (fun _ _=>rfl) (fun _ _ h=>h)
  obtain⟨h1,h2⟩:=NB (n0:=n0) hs ho rfl hp hr;exact⟨_,h1,h2,by simp⟩
 ·rename_i c l ho;have hlt:h<H.length:=(List.getElem?_eq_some_iff.1 ho).1;have hp:ρ[h]?=some ρ[h]:=List.getElem?_eq_getElem (by omega);generalize ρ[h]=X at hp;have hT:Tree D w c l X:=hs.ob h _ _ ho hp;obtain⟨h1,h2⟩:=NB (n0:=n0) hs ho rfl hp (hT.rep fun k hk=>.inr hk);exact⟨_,h1,h2,by simp⟩
 ·exact⟨S,hs,Step.refl,rfl⟩
theorem w8:∀(l:List Nat){S:Nat->Prop}{H:List (Ob K)},aD D ρ S w H->∃S',aD D ρ S' w (eb H l)/\Step D n0 ρ S H w ρ S' (eb H l) w/\(eb H l).length=H.length
 |[],S,H,hs=>⟨S,hs,Step.refl,rfl⟩
 |h::r,S,H,hs=>by
  obtain⟨S1,h1,h2,h3⟩:=aaJ (n0:=n0) hs h;obtain⟨S2,g1,g2,g3⟩:=w8 r h1;exact⟨S2,g1,h2.trans g2,by simp only[eb];rw[g3,h3]⟩
theorem aaK{c:K.U}{l:List (K.El c)}{a a':Option Addr}{n cp lo hi c':Nat}(h:Rep D ρ S w (.au c l) (.slice a n cp))(h1:lo<=hi)(h2:hi<=n)(ha:hi-lo=0\/∃b o,a=some ⟨b,o,none⟩/\a'=some ⟨b,o+lo*K.sz c,none⟩/\hi-lo<=c'):
 Rep D ρ S w (.au c ((l.take hi).drop lo)) (.slice a' (hi-lo) c'):=by
 rcases ha with h0|⟨b,o,rfl,rfl,hc⟩
 ·have:(l.take hi).drop lo=[]:=List.eq_nil_of_length_eq_zero (by simp;omega);rw[this,h0];exact .cK _ _
 ·by_cases h0:hi-lo=0
  ·have:(l.take hi).drop lo=[]:=List.eq_nil_of_length_eq_zero (by simp;omega);rw[this,h0];exact .cK _ _
  ·cases h with
   |cK=>omega
   |au val hS hcap hl' hca hr=>
    have hlen:((l.take hi).drop lo).length=hi-lo:=by simp;omega
    have hget:∀i x,((l.take hi).drop lo)[i]?=some x->l[lo+i]?=some x:=fun i x hi=>by
     simp only[List.getElem?_drop,List.getElem?_take]at hi;split at hi
     ·exact hi
     ·simp at hi
    rw[<-hlen];exact .au (fun i=>val (lo+i)) hS (by rw[hlen];omega) (fun i x hi=>hl' _ _ (hget i x hi))
     (fun i hi=>by
       have:=hca (lo+i) (by rw[hlen]at hi;omega)
       rwa [Nat.add_mul,<-Nat.add_assoc]at this)
     (fun i x hi=>hr _ _ (hget i x hi))
theorem aaL{c:K.U}{x:K.El c}{off:Nat}{X:Value}(h:Rep D ρ S w (.rp c x off) X):∃b o vs,X=.pointer (some ⟨b,o+off,none⟩)/\S b/\vs.length=(D.cells c x).length/\dJ w b o vs/\
 ∀(j:Nat) v y,(D.cells c x)[j]?=some v->vs[j]?=some y->Rep D ρ S w v y:=by
 cases h with|rp vs hS hl hc hr=>exact⟨_,_,vs,rfl,hS,hl,hc,hr⟩
mutual
theorem ji(hs:aD D ρ S w H):∀(x:AV K)(v:Value),Rep D ρ S w x v->Rep D ρ S w (bW H x) v
 |.sl h,v,hx=>by
   simp only[bW];split
   ·rename_i c l ho;cases hx with
    |sl hp hk=>exact hs.ob h _ _ ho hp
   ·exact hx
 |.vw h st lo hi,v,hx=>by
   cases hx with
   |vw hp h1 h2 ha=>
    simp only[bW];split
    ·rename_i c l ho;split
     ·rename_i hst;subst hst;exact aaK (hs.ob h _ _ ho hp) h1 h2 ha
     ·exact .vw hp h1 h2 ha
    ·exact .vw hp h1 h2 ha
 |.ptr h o,v,hx=>by
   simp only[bW];split
   ·rename_i c x ho;cases hx with
    |ptr hp=>
     obtain⟨h1,b,hb⟩:=hs.ob h _ _ ho hp;obtain⟨b',o',vs,e,g1,g2,g3,g4⟩:=aaL h1;rw[hb]at e;simp only[Value.pointer.injEq,Option.some.injEq,Addr.mk.injEq]at e;obtain⟨rfl,e2,-⟩:=e;have e3:o'=0:=by omega
     subst e3;simp only[Value.pointer.injEq,Option.some.injEq,Addr.mk.injEq]at hb;obtain⟨rfl,-⟩:=hb;have:=Rep.rp (D:=D) (ρ:=ρ) (S:=S) (w:=w) (off:=o) vs g1 g2 g3 g4;simpa using this
   ·exact hx
 |.agg l,v,hx=>by
   cases hx with
   |agg hl hr=>
    have:=ud hs l _ ⟨hl,hr⟩;exact .agg this.1 this.2
 |.bc l,v,hx=>by
   cases hx with
   |bc hl hr=>
    have:=ud hs l _ ⟨hl,hr⟩;exact .bc this.1 this.2
 |.any,v,hx|.int _ _,v,hx|.bool _,v,hx|.str _,v,hx|.bN,v,hx|.bO,v,hx|.mp,v,hx|.fn _ _,v,hx|.ep _ _ _ _,v,hx|.au _ _,v,hx|.rp _ _ _,v,hx|.np _,v,hx|.opt _ _ _,v,hx=>by simpa only[bW]using hx
theorem ud(hs:aD D ρ S w H):∀(l:List (AV K))(vs:List Value),aI D ρ S w l vs->aI D ρ S w (gw H l) vs
 |[],vs,h=>by rw[h.gR];exact .nil
 |x::r,vs,h=>by
  obtain⟨u,t,rfl,h1,h2⟩:=h.cS;exact .cons (ji hs x u h1) (ud hs r t h2)
end
def ib(b:Bool)(c:K.U):Ob K:=cond b (.tree c []) (.arr c [])
theorem Cb(hs:aD D ρ S w H)(c:K.U)(b:Bool):aD D (ρ++[.slice none 0 0]) S w (H++[ib b c])/\Step D H.length ρ S H w (ρ++[.slice none 0 0]) S (H++[ib b c]) w:=by
 have hf:∀k,¬bj D w (ib b c:Ob K) (.slice none 0 0) k:=fun k h=>by
  cases b
  ·change dj (.slice none 0 0)=some k at h;simp[dj]at h
  ·change bS D w c [] (.slice none 0 0) k at h;cases h
 have ho:cV D (ρ++[.slice none 0 0]) S w (ib b c) (.slice none 0 0):=by
  cases b
  ·exact .inl ⟨rfl,rfl⟩
  ·exact Tree.nil
 exact⟨hs.push ho (fun k _ h=>(hf k h).elim),Step.new hs (Nat.le_refl _) (fun _ _=>rfl) (fun k h=>(hf k h).elim) rfl rfl rfl⟩
def rQ(D:aT K)(S:Nat->Prop)(w:World)(H:List (Ob K))(ρ vs:List Value)(p:List (AV K)×List (Ob K)):Prop:=
 ∃ρ',aD D ρ' S w p.2/\aI D ρ' S w p.1 vs/\Step D H.length ρ S H w ρ' S p.2 w/\(∀(h:Nat) r,ρ[h]?=some r->ρ'[h]?=some r)/\H.length<=p.2.length/\(∀(h:Nat) o,H[h]?=some o->p.2[h]?=some o)
theorem nQ(dp:K.U->Bool):∀(cs:List (Option K.U))(l:List (AV K))(H:List (Ob K))(ρ:List Value)(vs:List Value),aD D ρ S w H->aI D ρ S w l vs->rQ D S w H ρ vs (thaw dp H cs l)
 |[],l,H,ρ,vs,hs,hr=>⟨ρ,by simpa [thaw]using hs,by simpa [thaw]using hr,by simpa [thaw]using Step.refl,fun _ _ h=>h,by simp[thaw],fun _ _ h=>by simpa [thaw]using h⟩
 |some c::cs,[],H,ρ,vs,hs,hr=>⟨ρ,by simpa [thaw]using hs,by simpa [thaw]using hr,by simpa [thaw]using Step.refl,fun _ _ h=>h,by simp[thaw],fun _ _ h=>by simpa [thaw]using h⟩
 |none::cs,[],H,ρ,vs,hs,hr=>⟨ρ,by simpa [thaw]using hs,by simpa [thaw]using hr,by simpa [thaw]using Step.refl,fun _ _ h=>h,by simp[thaw],fun _ _ h=>by simpa [thaw]using h⟩
 |oc::cs,v::r,H,ρ,vs,hs,hr=>by
  obtain⟨u,t,rfl,h1,h2⟩:=hr.cS;have keep:thaw dp H (oc::cs) (v::r)=(v::(thaw dp H cs r).1,(thaw dp H cs r).2)->rQ D S w H ρ (u::t) (thaw dp H (oc::cs) (v::r)):=fun e=>by
   obtain⟨ρ',g1,g2,g3,g4,g5,g6⟩:=nQ dp cs r H ρ t hs h2;rw[e];exact⟨ρ',g1,.cons (h1.mono (fun _ h=>h) (fun _ _=>rfl) g4) g2,g3,g4,g5,g6⟩
  cases oc with
  |none=>exact keep (by cases v<;>rfl)
  |some c=>
   cases v with
   |bO=>
    obtain⟨n1,n2⟩:=Cb hs c (dp c);have hpre:∀(h:Nat) r,ρ[h]?=some r->(ρ++[.slice none 0 0])[h]?=some r:=fun _ _ h=>jh h
    obtain⟨ρ',g1,g2,g3,g4,g5,g6⟩:=nQ dp cs r (H++[ib (dp c) c]) _ t n1 (h2.mono (fun _ h=>h) (fun _ _=>rfl) hpre);have e:thaw dp H (some c::cs) (.bO::r)=(.sl H.length::(thaw dp (H++[ib (dp c) c]) cs r).1,(thaw dp (H++[ib (dp c) c]) cs r).2):=rfl;rw[e];have hu:u=.slice none 0 0:=by cases h1;rfl
    refine⟨ρ',g1,.cons ?_ g2,n2.trans (g3.weaken (by simp)),fun h r hr=>g4 h r (hpre h r hr),by have g5:=g5;simp at g5;exact Nat.le_of_succ_le g5,fun h o ho=>g6 h o ?_⟩
    ·rw[hu];exact .sl (g4 _ _ (by rw[List.getElem?_append_right (by rw[hs.len];exact Nat.le_refl _)];simp[hs.len])) rfl
    ·rw[List.getElem?_append_left (List.getElem?_eq_some_iff.1 ho).1];exact ho
   |_=>exact keep rfl
end Go.V
namespace Go.V
open Go Go.MapKept
variable {K :bL}{D:aT K}{ρ ρ':List Value}{S S':Nat->Prop}{w w':World}{H H':List (Ob K)}
theorem Cc{x:AV K}{X:Value}{ks:List Int}(h:rE x=some ks)(hx:Rep D ρ S w x X):X=dc ks:=by
 unfold rE at h;split at h
 ·simp only[Option.some.injEq]at h;subst h;cases hx;rfl
 ·simp only[Option.some.injEq]at h;subst h;cases hx with
  |agg hl hr=>
   rename_i vs;have hr:aI D ρ S w _ vs:=⟨hl,hr⟩;obtain⟨u,t,rfl,h1,h2⟩:=hr.cS;obtain⟨u',t',rfl,h3,h4⟩:=h2.cS;have:=h4.gR;subst this;cases h1;cases h3;rfl
 ·cases h
theorem aaM{P:Program}{t:TypeId}(h:pairT P t=true)(a b:Int):(Instr.build t #[(0,.int .i64 a),(1,.int .i64 b)]).run P w=.ok (.agg #[.int .i64 a,.int .i64 b]) w:=by
 unfold pairT at h;split at h
 ·rename_i e i hu hi;split at h
  ·rename_i zs ie hz he;simp only[Bool.and_eq_true]at h;have h1:zs.size=2:=Nat.eq_of_beq_eq_true h.1;have h2:ie.size=1:=Nat.eq_of_beq_eq_true h.2;obtain⟨l⟩:=zs
   match l,h1 with
   |[z0,z1],_=>
     refine run_build w t _ _ ?_;simp[Program.built,hu,hi,hz,he,h2,Instr.fill,Value.cells]
  ·cases h
 ·cases h
theorem iP:∀(n:Nat)(l:List (List Int×Int))(i:Nat),(cO n l)[i]?=(l[i]?).map fun p=>{key:=dc p.1,val:=.int .i64 p.2,born:=n+i}
 |_,[],i=>by simp[cO]
 |n,p::r,0=>by simp[cO]
 |n,p::r,i+1=>by
  simp only[cO,List.getElem?_cons_succ];rw[iP (n+1) r i];have e:n+1+i=n+(i+1):=by omega
  rw[e]
theorem ko:∀(l:List (List Int×Int))(ks:List Int),bJ l ks<=l.length
 |[],_=>Nat.le_refl _
 |p::r,ks=>by
  have:=ko r ks;simp only[bJ];cases p.1==ks
  ·simp;exact this
  ·simp
theorem sG:∀(l:List (List Int×Int))(ks:List Int),bJ l ks<l.length->∃v,l[bJ l ks]?=some (ks,v)
 |[],_,h=>by simp at h
 |p::r,ks,h=>by
  simp only[bJ]at h⊢;cases hp:p.1==ks
  ·rw[hp]at h;simp only[cond_false,List.length_cons,Nat.add_lt_add_iff_right]at h⊢;obtain⟨v,hv⟩:=sG r ks h;exact⟨v,by simpa using hv⟩
  ·simp only[cond_true];have:=eq_of_beq hp;exact⟨p.2,by simp[<-this]⟩
theorem ym:∀(l:List (List Int×Int))(ks:List Int),¬bJ l ks<l.length->∀p∈l,p.1≠ks
 |[],_,_,p,hp=>by cases hp
 |q::r,ks,h,p,hp=>by
  simp only[bJ]at h;cases hq:q.1==ks
  ·rw[hq]at h;simp only[cond_false,List.length_cons,Nat.add_lt_add_iff_right]at h;rcases List.mem_cons.1 hp with rfl|hp
   ·intro e;rw[e]at hq;simp at hq
   ·exact ym r ks h p hp
  ·rw[hq]at h;simp at h
def MapAt(w:World)(b m:Nat)(l:List (List Int×Int)):Prop:=w.heap[b]?=some (.map (cO 0 l).toArray l.length)/\(∀p∈l,cb m p.1=true)/\l.Pairwise (fun p q=>p.1≠q.1)
theorem aaN{P:Program}{t:TypeId}{m b:Nat}{l:List (List Int×Int)}{ks:List Int}(T:kn P t m)(h:MapAt w b m l)(hk:cb m ks=true):
 (Instr.lookup t (.map (some b)) (dc ks) false).run P w=.ok (.int .i64 (bU l ks)) w:=by
 obtain⟨k,e,hu,hz,hc,hs,hf⟩:=T.ex;have hf:=hf w ks l 0 hk h.2.1 h.2.2;cases hh:du l ks with
 |true=>
  rw[hh]at hf;simp[Instr.lookup,run_underlying hu,MapKept.run_getObj_map h.1,hc _ _ _ hk,hf,Result.andThen]
 |false=>
  rw[hh]at hf;have:bU l ks=0:=by
   have h1:¬bJ l ks<l.length:=by simpa [du]using hh
   unfold bU;rw[List.getD_eq_getElem?_getD,List.getElem?_eq_none (by omega)];rfl
  simp[Instr.lookup,run_underlying hu,MapKept.run_getObj_map h.1,hc _ _ _ hk,hf,hz,this,Result.andThen]
theorem NC{m:Nat}{l:List (List Int×Int)}{ks:List Int}(h:(∀p∈l,cb m p.1=true)/\l.Pairwise (fun p q=>p.1≠q.1))(hk:cb m ks=true):(∀p∈dr l ks,cb m p.1=true)/\(dr l ks).Pairwise (fun p q=>p.1≠q.1):=by
 unfold dr;cases hh:du l ks with
 |true=>exact h
 |false=>
  have h1:¬bJ l ks<l.length:=by simpa [du]using hh
  simp only[cond_false];refine⟨fun p hp=>?_,List.pairwise_append.2 ⟨h.2,by simp,fun p hp q hq=>?_⟩⟩
  ·rcases List.mem_append.1 hp with hp|hp
   ·exact h.1 p hp
   ·simp at hp;subst hp;exact hk
  ·simp at hq;subst hq;exact ym l ks h1 p hp
theorem aaO(l:List (List Int×Int))(i:Nat)(v:Int):(dS l i v).map (·.1)=l.map (·.1):=by
 unfold dS;rw[List.map_set];apply List.ext_getElem?;intro j;rw[List.getElem?_set];split
 ·rename_i e;subst e;split
  ·rename_i hlt;simp only[List.length_map]at hlt;rw[List.getD_eq_getElem?_getD,List.getElem?_eq_getElem hlt,List.getElem?_map,List.getElem?_eq_getElem hlt];rfl
  ·rename_i hlt;simp only[List.length_map]at hlt;rw[List.getElem?_map,List.getElem?_eq_none (by omega)];rfl
 ·rfl
theorem ND{m:Nat}{l:List (List Int×Int)}(i:Nat)(v:Int)(h:(∀p∈l,cb m p.1=true)/\l.Pairwise (fun p q=>p.1≠q.1)):(∀p∈dS l i v,cb m p.1=true)/\(dS l i v).Pairwise (fun p q=>p.1≠q.1):=by
 have e:=aaO l i v;constructor
 ·intro p hp;have:p.1∈(dS l i v).map (·.1):=List.mem_map.2 ⟨p,hp,rfl⟩;rw[e]at this;obtain⟨q,hq,hqe⟩:=List.mem_map.1 this;rw[<-hqe];exact h.1 q hq
 ·have h2:(l.map (·.1)).Pairwise (fun a b=>a≠b):=List.pairwise_map.2 h.2;rw[<-e]at h2;exact List.pairwise_map.1 h2
theorem NF(l:List (List Int×Int))(i:Nat)(v:Int)(n:Nat):cO n (dS l i v)=(cO n l).modify i fun e=>{e with val:=.int .i64 v}:=by
 apply List.ext_getElem?;intro j;rw[iP,List.getElem?_modify,iP];unfold dS;rw[List.getElem?_set];by_cases hij:i=j
 ·subst hij;rw[if_pos rfl];by_cases hlt:i<l.length
  ·simp[hlt,List.getD_eq_getElem?_getD]
  ·simp[List.getElem?_eq_none (Nat.le_of_not_lt hlt),hlt]
 ·simp[hij]
theorem NG(l:List (List Int×Int))(i:Nat)(v:Int):(dS l i v).length=l.length:=by simp[dS]
theorem Cd:∀(n:Nat)(l:List (List Int×Int))(p:List Int×Int),cO n (l++[p])=cO n l++[{key:=dc p.1,val:=.int .i64 p.2,born:=n+l.length}]
 |n,[],p=>by simp[cO]
 |n,q::r,p=>by
  simp only[List.cons_append,cO,List.length_cons];rw[Cd (n+1) r p];have e:n+1+r.length=n+(r.length+1):=by omega
  rw[e]
def eA(w:World)(b:Nat)(l:List (List Int×Int)):World:={w with heap:=w.heap.setIfInBounds b (.map (cO 0 l).toArray l.length)}
theorem aaP{P:Program}{t:TypeId}{m b:Nat}{l:List (List Int×Int)}{ks:List Int}(T:kn P t m)(h:MapAt w b m l)(hk:cb m ks=true):
 (Instr.mapEntry t (.map (some b)) (dc ks)).run P w=.ok (.tuple #[.int .i64 (bU l ks),.int .i64 (bJ l ks:Int)]) (eA w b (dr l ks)):=by
 obtain⟨k,e,hu,hz,hc,hs,hf⟩:=T.ex;have hf:=hf w ks l 0 hk h.2.1 h.2.2;cases hh:du l ks with
 |true=>
  rw[hh]at hf;have hlt:bJ l ks<l.length:=by simpa [du]using hh
  obtain⟨v,hv⟩:=sG l ks hlt;have hge:(cO 0 l)[bJ l ks]?=some {key:=dc ks,val:=.int .i64 v,born:=bJ l ks}:=by
   rw[iP,hv];simp
  have hmod:(cO 0 l).modify (bJ l ks) (fun e=>{e with key:=dc ks})=cO 0 l:=by
   apply List.ext_getElem?;intro j;rw[List.getElem?_modify];by_cases hij:bJ l ks=j
   ·subst hij;have:(cO 0 l)[bJ l ks]?=some {key:=dc ks,val:=.int .i64 v,born:=bJ l ks}:=by rw[iP,hv];simp
    rw[this];simp
   ·simp[hij]
  simp[Instr.mapEntry,run_underlying hu,MapKept.run_getObj_map h.1,hc _ _ _ hk,hf,hge,hs _ _ hk,MapKept.run_setObj_map _ h.1,Result.andThen,eA,dr,hh,goInt,hmod]
 |false=>
  rw[hh]at hf;have h1:¬bJ l ks<l.length:=by simpa [du]using hh
  have h2:=ko l ks;have h3:bJ l ks=l.length:=by omega
  have:bU l ks=0:=by
   unfold bU;rw[List.getD_eq_getElem?_getD,List.getElem?_eq_none (by omega)];rfl
  simp[Instr.mapEntry,run_underlying hu,MapKept.run_getObj_map h.1,hc _ _ _ hk,hf,hz,MapKept.run_setObj_map _ h.1,Result.andThen,eA,dr,hh,goInt,this,h3,Cd]
theorem aaQ{P:Program}{t:TypeId}{m b:Nat}{l:List (List Int×Int)}{ks:List Int}{z:Int}(T:kn P t m)(h:MapAt w b m l)(hk:cb m ks=true):
 (Instr.mapUpdate t (.map (some b)) (dc ks) (.int .i64 z)).run P w=.ok () (eA w b (fD l ks z)):=by
 obtain⟨k,e,hu,hz,hc,hs,hf⟩:=T.ex;have hf:=hf w ks l 0 hk h.2.1 h.2.2;cases hh:du l ks with
 |true=>
  rw[hh]at hf;have hlt:bJ l ks<l.length:=by simpa [du]using hh
  obtain⟨v,hv⟩:=sG l ks hlt;have hge:(cO 0 l)[bJ l ks]?=some {key:=dc ks,val:=.int .i64 v,born:=bJ l ks}:=by
   rw[iP,hv];simp
  have hmod:(cO 0 l).modify (bJ l ks) (fun e=>{e with key:=dc ks,val:=.int .i64 z})=cO 0 (dS l (bJ l ks) z):=by
   rw[NF];apply List.ext_getElem?;intro j;rw[List.getElem?_modify,List.getElem?_modify];by_cases hij:bJ l ks=j
   ·subst hij;have:(cO 0 l)[bJ l ks]?=some {key:=dc ks,val:=.int .i64 v,born:=bJ l ks}:=by rw[iP,hv];simp
    rw[this];simp
   ·simp[hij]
  simp[Instr.mapUpdate,run_underlying hu,MapKept.run_getObj_map h.1,hc _ _ _ hk,hf,hge,hs _ _ hk,MapKept.run_setObj_map _ h.1,Result.andThen,eA,fD,dr,hh,hmod,NG]
 |false=>
  rw[hh]at hf;have h1:¬bJ l ks<l.length:=by simpa [du]using hh
  have h2:=ko l ks;have h3:bJ l ks=l.length:=by omega
  have e1:dS (l++[(ks,0)]) l.length z=l++[(ks,z)]:=by
   unfold dS;rw[List.getD_eq_getElem?_getD,List.getElem?_append_right (Nat.le_refl _)];simp
  simp[Instr.mapUpdate,run_underlying hu,MapKept.run_getObj_map h.1,hc _ _ _ hk,hf,MapKept.run_setObj_map _ h.1,Result.andThen,eA,fD,dr,hh,h3,e1,Cd]
theorem findIdx_born:∀(n:Nat)(l:List (List Int×Int))(i:Nat),i<l.length->(cO n l).findIdx? (fun e=>(e.born:Int)==((n+i:Nat):Int))=some i
 |n,[],i,h=>by simp at h
 |n,p::r,0,h=>by simp[cO,List.findIdx?_cons]
 |n,p::r,i+1,h=>by
  have ih:=findIdx_born (n+1) r i (by simpa using h);have e:n+1+i=n+(i+1):=by omega
  rw[e]at ih;simp only[cO,List.findIdx?_cons];have:(((n:Nat):Int)==((n+(i+1):Nat):Int))=false:=by
   simp;omega
  rw[this];simp only[cond_false,Bool.false_eq_true,if_false,ih,Option.map_some]
theorem aaR{P:Program}{t:TypeId}{m b:Nat}{l:List (List Int×Int)}{i z:Int}(h:MapAt w b m l)(hi:inB i l.length=true):
 (Instr.entryStore t (.map (some b)) (.int .i64 i) (.int .i64 z)).run P w=.ok () (eA w b (dS l i.toNat z)):=by
 simp only[inB,Bool.and_eq_true,decide_eq_true_eq]at hi;have hlt:i.toNat<l.length:=by omega
 have h1:=findIdx_born 0 l i.toNat hlt;have e:((0+i.toNat:Nat):Int)=i:=by omega
 rw[e]at h1;have h2:(cO 0 l).toArray.findIdx? (fun e=>(e.born:Int)==i)=some i.toNat:=by rw[List.findIdx?_toArray];exact h1
 simp[Instr.entryStore,MapKept.run_getObj_map h.1,asInt,asIntOf,h2,MapKept.run_setObj_map _ h.1,Result.andThen,eA,NF,NG]
theorem aaS{b:Nat}{o:Obj}{l:List (List Int×Int)}(h:w.heap[b]?=some o):(eA w b l).heap[b]?=some (.map (cO 0 l).toArray l.length):=by
 have:=(Array.getElem?_eq_some_iff.1 h).1;simp[eA,this]
theorem NH{b k:Nat}{l:List (List Int×Int)}(h:k≠b):(eA w b l).heap[k]?=w.heap[k]?:=by
 simp only[eA];rw[Array.getElem?_setIfInBounds_ne (fun e=>h e.symm)]
theorem w9(hs:aD D ρ S w H){h m:Nat}{t:TypeId}{l:List (List Int×Int)}{X:Value}(ho:H[h]?=some (.bf t m l))(hp:ρ[h]?=some X):∃b,X=.map (some b)/\MapAt w b m l:=hs.ob h _ _ ho hp
theorem NI{b:Nat}{l:List (List Int×Int)}:(eA w b l).heap.size=w.heap.size:=by simp[eA]
end Go.V
namespace Go.V
open Go
variable {K :bL}{D:aT K}{ρ:List Value}{S:Nat->Prop}{w:World}
theorem cg{k:IntKind}{n:Int}{X:Value}(h:Rep D ρ S w (.int k n) X):X=.int k n:=by cases h;rfl
theorem eP{b:Bool}{X:Value}(h:Rep D ρ S w (.bool b) X):X=.bool b:=by cases h;rfl
theorem fV{s:List UInt8}{X:Value}(h:Rep D ρ S w (.str s) X):X=.string ⟨s.toArray⟩:=by cases h;rfl
theorem NJ{c:K.U}{x:K.El c}{off:Nat}{X:Value}(h:Rep D ρ S w (.rp c x off) X):∃b o vs,X=.pointer (some ⟨b,o+off,none⟩)/\vs.length=(D.cells c x).length/\dJ w b o vs/\
 ∀(j:Nat) v y,(D.cells c x)[j]?=some v->vs[j]?=some y->Rep D ρ S w v y:=by
 cases h with|rp vs hS hl hc hr=>exact⟨_,_,vs,rfl,hl,hc,hr⟩
theorem rR{h off:Nat}{X:Value}(hp:Rep D ρ S w (.ptr h off) X):∃b,X=.pointer (some ⟨b,off,none⟩)/\ρ[h]?=some (.pointer (some ⟨b,0,none⟩)):=by
 cases hp with|ptr hp=>exact⟨_,rfl,hp⟩
theorem fa{h:Nat}{X:Value}(hp:Rep D ρ S w (.sl h) X):ρ[h]?=some X/\nN X=true:=by
 cases hp with|sl hp hk=>exact⟨hp,hk⟩
theorem aaT{h:Nat}{X:Value}(hp:Rep D ρ S w (.sl h) X):ρ[h]?=some X/\((∃a n c,X=.slice a n c)\/∃m,X=.map m):=by
 cases hp with|sl hp hk=>exact⟨hp,by cases X<;>simp[nN]at hk⊢⟩
theorem rS{H:List (Ob K)}(hs:aD D ρ S w H){h:Nat}{c:K.U}{l:List (K.El c)}{X:Value}(ho:H[h]?=some (.arr c l)\/H[h]?=some (.cT c l)\/H[h]?=some (.tree c l))(hp:Rep D ρ S w (.sl h) X):ρ[h]?=some X/\∃a n c,X=.slice a n c:=by
 obtain⟨h1,h2⟩:=aaT hp;refine⟨h1,h2.resolve_right ?_⟩
 rintro ⟨m,rfl⟩
 rcases ho with ho|ho|ho
 ·rcases hs.ob _ _ _ ho h1 with⟨h,-⟩|⟨_,_,_,_,_,_,h,-⟩<;>cases h
 ·have:=hs.ob _ _ _ ho h1;cases this
 ·have:=hs.ob _ _ _ ho h1;cases this
theorem iF{h st i off:Nat}{X:Value}(hp:Rep D ρ S w (.ep h st i off) X):∃b o n c,X=.pointer (some ⟨b,o+i*st+off,none⟩)/\ρ[h]?=some (.slice (some ⟨b,o,none⟩) n c)/\i<n:=by
 cases hp with|ep hp hi=>exact⟨_,_,_,_,rfl,hp,hi⟩
theorem nR{H:List (Ob K)}(hs:aD D ρ S w H){h:Nat}{c:K.U}{l:List (K.El c)}{X:Value}(ho:H[h]?=some (.arr c l))(hp:ρ[h]?=some X):
 (X=.slice none 0 0/\l=[])\/∃b o cap vs T fr,X=.slice (some ⟨b,o,none⟩) l.length cap/\w.heap[b]?=some (.cells vs T fr)/\(l.length<=cap/\lL D c T o fr)/\o+cap*K.sz c<=vs.size/\
   (∀k,o<=k->k<o+cap*K.sz c->¬(fr.1<=k/\k<fr.2))/\∀i x,l[i]?=some x->aI D ρ S w (D.cells c x) (bz vs (o+i*K.sz c) (K.sz c)):=hs.ob _ _ _ ho hp
theorem getD_some{α:Type}{l:List α}{i:Nat}(d:α)(h:i<l.length):l[i]?=some (l.getD i d):=by simp[List.getD,h]
theorem NK(s:List UInt8):(ByteArray.mk s.toArray).toList=s:=by rw[ByteArray.toList_eq]
theorem rT(s:List UInt8):(ByteArray.mk s.toArray).size=s.length:=by simp[ByteArray.size]
theorem aaU(s t:List UInt8):(ByteArray.mk s.toArray)++(ByteArray.mk t.toArray)=⟨(s++t).toArray⟩:=by
 apply ByteArray.ext;simp
theorem aaV{P:Program}{op:BinOp}{t:TypeId}{a b:List UInt8}{v:AV K}{c:Bool}(h:BL op a b=some (v,c))(hc:c=true):
 ∃u,(binOp op t (.string ⟨a.toArray⟩) (.string ⟨b.toArray⟩)).run P w=.ok u w/\Rep D ρ S w v u:=by
 cases op<;>simp only[BL]at h<;>first
  |(cases h;done)
  |(simp only[Option.some.injEq,Prod.mk.injEq]at h;obtain⟨rfl,rfl⟩:=h)
 case add=>
  refine⟨.string ⟨(a++b).toArray⟩,?_,.str _⟩;have hc':a.length+b.length<=4611686018427387904:=by simpa [Np]using hc
  simp only[binOp,Op.stringOp,rT];rw[if_neg (by simp[IntKind.max,IntKind.signed,IntKind.bits];omega)];simp[aaU]
 all_goals
  refine⟨_,?_,.bool _⟩;simp[binOp,Op.stringOp,tQ]
theorem aaW{P:Program}{op:BinOp}{t:TypeId}{k:IntKind}{a b:Int}{v:AV K}{c:Bool}(h:BK op k a b=some (v,c))(hc:c=true):
 ∃u,(binOp op t (.int k a) (.int k b)).run P w=.ok u w/\Rep D ρ S w v u:=by
 cases op<;>simp only[BK]at h<;>first
  |(cases h;done)
  |(simp only[Option.some.injEq,Prod.mk.injEq]at h;obtain⟨rfl,rfl⟩:=h)
 case quo=>
  refine⟨_,?_,.int _ _⟩;have hb:b≠0:=by simpa using hc
  simp[binOp,Op.intDiv,hb]
 case rem=>
  refine⟨_,?_,.int _ _⟩;have hb:b≠0:=by simpa using hc
  simp[binOp,Op.intDiv,hb]
 case and=>exact⟨_,by simp[binOp,Op.intBits,ny],.int _ _⟩
 case or=>exact⟨_,by simp[binOp,Op.intBits,ny],.int _ _⟩
 case xor=>exact⟨_,by simp[binOp,Op.intBits,ny],.int _ _⟩
 case andNot=>exact⟨_,by simp[binOp,Op.intBits,ny],.int _ _⟩
 all_goals first
  |(refine⟨_,?_,.int _ _⟩;simp[binOp,Op.intArith];done)
  |(refine⟨_,?_,.bool _⟩;simp[binOp,Op.intCmp];done)
theorem NL{P:Program}{t:TypeId}(h:BM P t=true)(a b:Bool):(Op.equal t (.bool a) (.bool b)).run P w=.ok (a==b) w:=by
 have hu:P.underlying t=some .bool:=by
  unfold BM at h;split at h
  ·assumption
  ·cases h
 show(Op.equalIn (9999+1) t (.bool a) (.bool b)).run P w=_
 rw[Op.equalIn];simp[underlying,hu,program,Sem.run]
theorem Ce{P:Program}{op:BinOp}{t:TypeId}{x y:Operand}{X Y:Value}(h:(∃k n,X=.int k n)\/(∃b,X=.bool b)\/(∃s,X=.string s)):
 (eqGuard op t x y X Y).run P w=.ok () w:=by
 rcases h with⟨k,n,rfl⟩|⟨b,rfl⟩|⟨s,rfl⟩<;>simp[eqGuard]
theorem xa{P:Program}{t:TypeId}{g:Bool}(h:wL P t=some g):(isAgg t).run P w=.ok g w:=by
 unfold wL at h;split at h<;>first|(cases h;done)|skip
 ·rename_i d hu;simp only[Option.some.injEq]at h;subst h;simp[isAgg,underlying,hu]
 ·rename_i d e hu;simp only[Option.some.injEq]at h;subst h;simp[isAgg,underlying,hu]
 ·rename_i d h1 h2 hu;simp only[Option.some.injEq]at h;subst h;have:(underlying t).run P w=.ok d w:=by simp[underlying,hu]
  simp only[isAgg,Sem.run_bind,this,Result.andThen_ok];cases d<;>first|rfl|(exact absurd rfl (h1 _))|(exact absurd rfl (h2 _ _))
theorem eK{P:Program}{t:TypeId}{n:Nat}(h:bY P t=some n):(sizeOf t).run P w=.ok n w:=by
 unfold bY at h;cases hi:P.info? t with
 |none=>simp[hi]at h
 |some i=>simp[hi]at h;simp[sizeOf,typeInfo,hi,h]
theorem Cf{P:Program}{t:TypeId}{cs:List (AV K)}{vs:Array Value}{off:Nat}{v:AV K}(h:fl P t cs off=some v)(hr:aI D ρ S w cs vs.toList):
 ∃u,(part t vs off).run P w=.ok u w/\Rep D ρ S w v u:=by
 unfold fl at h;split at h
 ·rename_i n hg hn;split at h
  ·rename_i hle;simp only[Option.some.injEq]at h;subst h;have hr':=(hr.drop off).take n;refine⟨.agg ((vs.toList.drop off).take n).toArray,?_,.agg hr'.1 hr'.2⟩;simp only[part,Sem.run_bind,xa hg,Result.andThen_ok,if_true,eK hn,Sem.run_pure];congr 2;apply Array.toList_inj.1;simp[List.extract]
  ·cases h
 ·rename_i n hg hn;obtain⟨x,hx,hrep⟩:=hr.get h;refine⟨x,?_,hrep⟩;have hx':vs[off]?=some x:=by simpa using hx
  simp only[part,Sem.run_bind,xa hg,Result.andThen_ok,Bool.false_eq_true,if_false,hx',Sem.run_pure]
 ·cases h
theorem xb{l:List (AV K)}{X:Value}(h:Rep D ρ S w (.agg l) X):∃vs:Array Value,X=.agg vs/\aI D ρ S w l vs.toList:=by
 cases h with|agg hl hr=>exact⟨_,rfl,by simpa using⟨hl,hr⟩⟩
theorem NM{P:Program}{d:Nat}{rec:TypeId->AV K->AV K->Option Bool}
 (hrec:∀t x y e X Y,rec t x y=some e->Rep D ρ S w x X->Rep D ρ S w y Y->(Op.equalIn d t X Y).run P w=.ok e w)
 {xs ys:List (AV K)} {vs us:Array Value} (hx:aI D ρ S w xs vs.toList) (hy:aI D ρ S w ys us.toList):
 ∀(fs:List Field)(e:Bool),tR P rec xs ys fs=some e->(Op.eqFields d vs us fs).run P w=.ok e w
 |[],e,h=>by simp only[tR,Option.some.injEq]at h;subst h;simp[Op.eqFields]
 |f::fs,e,h=>by
  unfold tR at h;split at h
  ·cases h
  ·rename_i hn;split at h
   ·rename_i a b ha hb;split at h
    ·rename_i p q hp hq;simp only[Option.some.injEq]at h;subst h;obtain⟨u,hu,Ci⟩:=Cf (P:=P) ha hx;obtain⟨u',hu',aaX⟩:=Cf (P:=P) hb hy;have h3:=hrec _ _ _ _ _ _ hp Ci aaX;have h4:=NM hrec hx hy fs q hq;simp only[Op.eqFields,ne_eq,hn,not_false_eq_true,if_true,Sem.run_bind,hu,hu',h3,Result.andThen_ok];cases p
     ·simp
     ·simpa using h4
    ·cases h
   ·cases h
theorem aaY{P:Program}{t:TypeId}{fs:Array Field}{d:Nat}{vs us:Array Value}(hu:P.underlying t=some (.struct fs))(hst:P.stoodInHeld t=false):
 (Op.equalIn (d+1) t (.agg vs) (.agg us)).run P w=(Op.eqFields d vs us fs.toList).run P w:=by
 have hf:P.fieldsOf t=fs:=by simp[Program.fieldsOf,hu]
 rw[run_equalIn_struct w d t vs us (by rw[hf];exact hu) hst,hf]
theorem Cj{P:Program}(k:Nat):∀(n:Nat)(t:TypeId)(x y:AV K)(e:Bool)(X Y:Value),rC P n t x y=some e->Rep D ρ S w x X->Rep D ρ S w y Y->(Op.equalIn (n+k) t X Y).run P w=.ok e w
 |0,t,x,y,e,X,Y,h,hx,hy=>by simp[rC]at h
 |n+1,t,x,y,e,X,Y,h,hx,hy=>by
  rw[show n+1+k=(n+k)+1 by omega];unfold rC at h;split at h
  ·cases h
  ·rename_i heq;cases heq;split at h
   ·rename_i hk;subst hk;split at h
    ·rename_i hu;simp only[Option.some.injEq]at h;subst h;cases cg hx;cases cg hy;exact run_equalIn_int w _ _ _ _ _ _ hu
    ·cases h
   ·cases h
  ·rename_i heq;cases heq;split at h
   ·rename_i hu;simp only[Option.some.injEq]at h;subst h;cases eP hx;cases eP hy;exact run_equalIn_bool' w _ _ _ _ hu
   ·cases h
  ·rename_i heq;cases heq;split at h
   ·rename_i hu;simp only[Option.some.injEq]at h;subst h;cases fV hx;cases fV hy;rw[run_equalIn_string w _ _ _ _ hu,NK,NK]
   ·cases h
  ·rename_i heq;cases heq;obtain⟨vs,rfl,hvs⟩:=xb hx;obtain⟨us,rfl,hus⟩:=xb hy;split at h
   ·rename_i fs hu;split at h
    ·cases h
    ·rename_i hst;rw[aaY hu (by simpa using hst)];exact NM (fun t x y e X Y=>Cj k n t x y e X Y) hvs hus fs.toList e h
   ·cases h
  ·cases h
theorem NN{P:Program}{t:TypeId}(h:BO P t=true)(a:Option Addr):(Op.equal t (.pointer a) (.pointer none)).run P w=.ok a.isNone w:=by
 obtain⟨e,hu⟩:∃e,P.underlying t=some (.pointer e):=by
  unfold BO at h;split at h
  ·rename_i e hu;exact⟨e,hu⟩
  ·cases h
 show(Op.equalIn (9999+1) t (.pointer a) (.pointer none)).run P w=_
 rw[Op.equalIn];cases a<;>simp[underlying,hu,program,Sem.run]
theorem xc{P:Program}{op:BinOp}{t:TypeId}{ex ey:Operand}{a:Option Addr}{v:AV K}{c:Bool}
 (h:rD P op t a.isNone=some (v,c)):∃u,(do eqGuard op t ex ey (.pointer a) (.pointer none);binOp op t (.pointer a) (.pointer none):Sem Value).run P w=.ok u w/\Rep D ρ S w v u:=by
 unfold rD at h;have hg:(eqGuard op t ex ey (.pointer a) (.pointer none)).run P w=.ok () w:=by simp[eqGuard]
 rw[Sem.run_bind,hg,Result.andThen_ok];split at h
 ·rename_i hp;split at h
  ·simp only[Option.some.injEq,Prod.mk.injEq]at h;obtain⟨rfl,rfl⟩:=h;exact⟨_,by simp[binOp,NN hp],.bool _⟩
  ·simp only[Option.some.injEq,Prod.mk.injEq]at h;obtain⟨rfl,rfl⟩:=h;exact⟨_,by simp[binOp,NN hp],.bool _⟩
  ·cases h
 ·cases h
theorem aaZ{P:Program}{op:BinOp}{t:TypeId}{x y:AV K}{ex ey:Operand}{X Y:Value}{v:AV K}{c:Bool}
 (h:BP P op t x y=some (v,c)) (hc:c=true) (hx:Rep D ρ S w x X) (hy:Rep D ρ S w y Y):
 ∃u,(do eqGuard op t ex ey X Y;binOp op t X Y:Sem Value).run P w=.ok u w/\Rep D ρ S w v u:=by
 unfold BP at h;split at h
 ·rename_i k a k' b;obtain rfl:=cg hx;obtain rfl:=cg hy;rw[Sem.run_bind,Ce (.inl ⟨_,_,rfl⟩),Result.andThen_ok];split at h
  ·simp only[Option.some.injEq,Prod.mk.injEq]at h;obtain⟨rfl,rfl⟩:=h;have hb:¬b<0:=by simp at hc;omega
   exact⟨_,by simp[binOp,Op.shift,hb,Nl],.int _ _⟩
  ·simp only[Option.some.injEq,Prod.mk.injEq]at h;obtain⟨rfl,rfl⟩:=h;have hb:¬b<0:=by simp at hc;omega
   exact⟨_,by simp[binOp,Op.shift,hb,Nn],.int _ _⟩
  ·split at h
   ·rename_i hk;subst hk;exact aaW h hc
   ·cases h
 ·rename_i a b;obtain rfl:=eP hx;obtain rfl:=eP hy;rw[Sem.run_bind,Ce (.inr (.inl ⟨_,rfl⟩)),Result.andThen_ok];split at h
  ·rename_i hb;split at h
   ·simp only[Option.some.injEq,Prod.mk.injEq]at h;obtain⟨rfl,rfl⟩:=h;exact⟨_,by simp[binOp,NL hb],.bool _⟩
   ·simp only[Option.some.injEq,Prod.mk.injEq]at h;obtain⟨rfl,rfl⟩:=h;exact⟨_,by simp[binOp,NL hb],.bool _⟩
   ·cases h
  ·cases h
 ·rename_i a b;obtain rfl:=fV hx;obtain rfl:=fV hy;rw[Sem.run_bind,Ce (.inr (.inr ⟨_,rfl⟩)),Result.andThen_ok];exact aaV h hc
 ·rename_i a b;obtain⟨vs,rfl,hvs⟩:=xb hx;obtain⟨us,rfl,hus⟩:=xb hy;split at h
  ·split at h
   ·cases h
   ·rename_i hg;simp only[Option.map_eq_some_iff,Prod.mk.injEq]at h;obtain⟨e,he,rfl,rfl⟩:=h;have:=Cj 9994 6 t _ _ e _ _ he hx hy;refine⟨.bool e,?_,.bool _⟩;rw[Sem.run_bind,run_eqGuard_agg w _ t ex ey vs us (by simpa using hg),Result.andThen_ok,run_eql_struct,this];rfl
  ·split at h
   ·cases h
   ·rename_i hg;simp only[Option.map_eq_some_iff,Prod.mk.injEq]at h;obtain⟨e,he,rfl,rfl⟩:=h;have:=Cj 9994 6 t _ _ e _ _ he hx hy;refine⟨.bool (!e),?_,.bool _⟩;rw[Sem.run_bind,run_eqGuard_agg w _ t ex ey vs us (by simpa using hg),Result.andThen_ok,run_neq_struct,this];rfl
  ·cases h
 ·cases hx;cases hy;exact xc (a:=none) h
 ·cases hx;cases hy;exact xc (a:=some _) h
 ·cases hx;cases hy;exact xc (a:=some _) h
 ·cases hx;cases hy;exact xc (a:=some _) h
 ·cases h
theorem aa0{P:Program}{op:UnOp}{x:AV K}{X:Value}{v:AV K}{c:Bool}(h:BN op x=some (v,c))(hx:Rep D ρ S w x X):
 ∃u,(Op.unary op X).run P w=.ok u w/\Rep D ρ S w v u:=by
 unfold BN at h;split at h
 ·obtain rfl:=eP hx;split at h
  ·simp only[Option.some.injEq,Prod.mk.injEq]at h;obtain⟨rfl,rfl⟩:=h;exact⟨_,by simp[Op.unary],.bool _⟩
  ·cases h
 ·obtain rfl:=cg hx;split at h
  ·simp only[Option.some.injEq,Prod.mk.injEq]at h;obtain⟨rfl,rfl⟩:=h;exact⟨_,by simp[Op.unary,Op.intArith],.int _ _⟩
  ·simp only[Option.some.injEq,Prod.mk.injEq]at h;obtain⟨rfl,rfl⟩:=h;exact⟨_,by simp[Op.unary,Op.intBits,ny],.int _ _⟩
  ·cases h
 ·cases h
mutual
theorem lO:∀(v:Value)(x:AV K),fO v=some x->Rep D ρ S w x v
 |.bool b,x,h=>by simp[fO]at h;subst h;exact .bool b
 |.int k n,x,h=>by simp[fO]at h;subst h;exact .int k n
 |.string s,x,h=>by simp[fO]at h;subst h;have:=Rep.str (D:=D) (ρ:=ρ) (S:=S) (w:=w) s.data.toList;simpa using this
 |.pointer none,x,h=>by simp[fO]at h;subst h;exact .bN
 |.slice none 0 0,x,h=>by simp[fO]at h;subst h;exact .bO
 |.map none,x,h=>by simp[fO]at h;subst h;exact .mp rfl
 |.agg ⟨cs⟩,x,h=>by
   simp only[fO,Option.map_eq_some_iff]at h;obtain⟨l,hl,rfl⟩:=h;have:=NP cs l hl;exact .agg this.1 this.2
 |.pointer (some _),x,h|.slice (some _) _ _,x,h|.slice none (_+1) _,x,h|.slice none 0 (_+1),x,h|.float _ _,x,h|.complex _ _ _,x,h|.map (some _),x,h|.chan _,x,h|.func _ _ _,x,h
 |.nilFunc,x,h|.iface _ _,x,h|.nilIface,x,h|.tuple _,x,h=>by simp[fO]at h
theorem NP:∀(vs:List Value)(l:List (AV K)),tP vs=some l->aI D ρ S w l vs
 |[],l,h=>by simp[tP]at h;subst h;exact .nil
 |v::r,l,h=>by
  simp only[tP]at h;split at h
  ·rename_i x m hx hm;simp at h;subst h;exact .cons (lO v x hx) (NP r m hm)
  ·cases h
end
@[simp] theorem add_plain (b k i:Nat):(⟨b,k,none⟩:Addr).add i=⟨b,k+i,none⟩:=by
  unfold Addr.add;split
  ·rename_i h;subst h;rfl
  ·rfl
theorem NQ{P:Program}{b k:Nat}:∀(vs:List Value)(i:Nat)(acc:Array Value),dJ w b (k+i) vs->
 (loadCellsFrom ⟨b,k,none⟩ i vs.length acc).run P w=.ok (acc++vs.toArray) w
 |[],i,acc,_=>by simp[loadCellsFrom]
 |v::r,i,acc,h=>by
  have h0:w.cell? ⟨b,k+i,none⟩=some v:=by simpa using h 0 v rfl
  have ih:=NQ (P:=P) (b:=b) (k:=k) r (i+1) (acc.push v) (fun j x hx=>by have:=h (j+1) x (by simpa using hx);rw[show k+(i+1)+j=k+i+(j+1) by omega];exact this);simp only[List.length_cons,loadCellsFrom,Sem.run_bind,run_load,add_plain,h0];rw[Result.andThen_ok,ih];simp
theorem xd{P:Program}{b k:Nat}{vs:List Value}(h:dJ w b k vs):(loadCells ⟨b,k,none⟩ vs.length).run P w=.ok vs.toArray w:=by
 have:=NQ (P:=P) vs 0 #[] (k:=k) (by simpa using h);simpa [loadCells]using this
theorem dJ.bz{b k:Nat}{vs:List Value}(h:dJ w b k vs)(off n:Nat):dJ w b (k+off) ((vs.drop off).take n):=fun j v hv=>by
 simp only[List.getElem?_take]at hv;split at hv
 ·rw[Nat.add_assoc];exact h (off+j) v (by simpa using hv)
 ·simp at hv
theorem nS{P:Program}{t:TypeId}{cs:List (AV K)}{vs:List Value}{b o off:Nat}{v:AV K}(h:fl P t cs off=some v)(hc:dJ w b o vs)(hr:aI D ρ S w cs vs):
 ∃u,(loadVar t ⟨b,o+off,none⟩).run P w=.ok u w/\Rep D ρ S w v u:=by
 unfold fl at h;split at h
 ·rename_i n hg hn;split at h
  ·rename_i hle;simp only[Option.some.injEq]at h;subst h;have hr':=(hr.drop off).take n;have hlen:((vs.drop off).take n).length=n:=by simp;rw[<-hr.1];omega
   have:=xd (P:=P) (hc.bz off n);rw[hlen]at this;refine⟨.agg ((vs.drop off).take n).toArray,?_,.agg hr'.1 hr'.2⟩;simp[loadVar,xa hg,eK hn,this]
  ·cases h
 ·rename_i n hg hn;obtain⟨x,hx,hrep⟩:=hr.get h;refine⟨x,?_,hrep⟩;have:=hc off x hx;simp[loadVar,xa hg,this]
 ·cases h
theorem lP{b:Nat}{vs:Array Value}{T:TypeId}{fr:Nat×Nat}(h:w.heap[b]?=some (.cells vs T fr))(k n:Nat):dJ w b k (bz vs k n):=fun j v hv=>by
 simp only[bz,List.getElem?_take]at hv;split at hv
 ·simp only[List.getElem?_drop]at hv;simp[World.cell?,h];simpa using hv
 ·simp at hv
theorem aa1(vs:Array Value):bz vs 0 vs.size=vs.toList:=by simp only[bz,List.drop_zero];rw[List.take_of_length_le (by simp)]
mutual
theorem fb{S':Nat->Prop}{w':World}:∀(x:AV K)(v:Value),dA x=false->Rep D ρ S w x v->Rep D ρ S' w' x v
 |.any,v,_,h=>.any _
 |.int _ _,v,_,h=>by rw[cg h];exact .int _ _
 |.bool _,v,_,h=>by rw[eP h];exact .bool _
 |.str _,v,_,h=>by rw[fV h];exact .str _
 |.bN,v,_,h=>by cases h;exact .bN
 |.bO,v,_,h=>by cases h;exact .bO
 |.mp,v,_,h=>by cases h with|mp h=>exact .mp h
 |.ptr _ _,v,_,h=>by cases h with|ptr hp=>exact .ptr hp
 |.np _,v,_,h=>by
   cases h with
   |fU=>exact .fU
   |np hp=>exact .np hp
 |.sl _,v,_,h=>by cases h with|sl hp hk=>exact .sl hp hk
 |.ep _ _ _ _,v,_,h=>by cases h with|ep hp hi=>exact .ep hp hi
 |.vw _ _ _ _,v,_,h=>by cases h with|vw hp h1 h2 ha=>exact .vw hp h1 h2 ha
 |.opt _ _ _,v,_,h=>by cases h
 |.fn f l,v,hr,h=>by
   cases h with
   |fn hl hh=>
    have:=rU (S':=S') (w':=w') l _ (by simpa [dA]using hr) ⟨hl,hh⟩;exact .fn this.1 this.2
 |.agg l,v,hr,h=>by
   cases h with
   |agg hl hh=>
    have:=rU (S':=S') (w':=w') l _ (by simpa [dA]using hr) ⟨hl,hh⟩;exact .agg this.1 this.2
 |.bc l,v,hr,h=>by
   cases h with
   |bc hl hh=>
    have:=rU (S':=S') (w':=w') l _ (by simpa [dA]using hr) ⟨hl,hh⟩;exact .bc this.1 this.2
 |.au _ _,v,hr,_|.rp _ _ _,v,hr,_=>by simp[dA]at hr
theorem rU{S':Nat->Prop}{w':World}:∀(l:List (AV K))(vs:List Value),bM l=false->aI D ρ S w l vs->aI D ρ S' w' l vs
 |[],vs,_,h=>by rw[h.gR];exact .nil
 |x::r,vs,hr,h=>by
  simp only[bM,Bool.or_eq_false_iff]at hr;obtain⟨u,t,rfl,h1,h2⟩:=h.cS;exact .cons (fb x u hr.1 h1) (rU r t hr.2 h2)
end
theorem NR{P:Program}{H:List (Ob K)}(hD:aX D)(hs:aD D ρ S w H){t:TypeId}{p v:AV K}{X:Value}(h:wN P D H t p=some v)(hp:Rep D ρ S w p X):
 ∃u,(Instr.loadAt t X).run P w=.ok u w/\Rep D ρ S w v u:=by
 unfold wN at h;split at h
 ·rename_i hh off;split at h
  ·rename_i cs hob;obtain⟨b,rfl,hb⟩:=rR hp;obtain⟨b',vs,T,e,hblk,xe,-⟩:=hs.ob _ _ _ hob hb;simp only[Value.pointer.injEq,Option.some.injEq,Addr.mk.injEq]at e;obtain⟨rfl,-,-⟩:=e;obtain⟨u,hu,hr⟩:=nS (o:=0) (b:=b) h (by have:=lP hblk 0 vs.size;rwa [aa1]at this) xe;exact⟨u,by simpa [Instr.loadAt,Instr.sureAddr]using hu,hr⟩
  ·cases h
 ·rename_i c x off;obtain⟨b,o,vs,rfl,hl,hc,hr⟩:=NJ hp;obtain⟨u,hu,hr⟩:=nS (o:=o) (b:=b) h hc ⟨hl.symm,hr⟩;exact⟨u,by simpa [Instr.loadAt,Instr.sureAddr]using hu,hr⟩
 ·rename_i hh st i off;split at h
  ·rename_i c l hob;split at h
   ·rename_i hst;subst hst;obtain⟨b,o,n,cp,rfl,hb,hi⟩:=iF hp;rcases nR hs hob hb with⟨e,-⟩|⟨b',o',cap,vs,T,fr,e,hblk,⟨hcap,bZ⟩,hsz,hfr,hall⟩
    ·cases e
    ·simp only[Value.slice.injEq,Option.some.injEq,Addr.mk.injEq]at e;obtain⟨⟨rfl,rfl,-⟩,rfl,rfl⟩:=e;have hx:=hall i _ (getD_some (K.zero c) hi);obtain⟨u,hu,hr⟩:=nS (o:=o+i*K.sz c) (b:=b) h (lP hblk _ _) hx;exact⟨u,by simpa [Instr.loadAt,Instr.sureAddr]using hu,hr⟩
   ·cases h
  ·rename_i c l hob;split at h
   ·rename_i hst;subst hst;split at h
    ·rename_i v' htk;split at h
     ·cases h
     ·rename_i hnr;simp only[Option.some.injEq]at h;subst h;obtain⟨b,o,n,cp,rfl,hb,hi⟩:=iF hp;have hT:Tree D w c l (.slice (some ⟨b,o,none⟩) n cp):=hs.ob _ _ _ hob hb;have hR:Rep D ρ (fun k=>S k\/bS D w c l (.slice (some ⟨b,o,none⟩) n cp) k) w (.au c l) (.slice (some ⟨b,o,none⟩) n cp):=hT.rep fun k hk=>.inr hk
      cases hR with
      |cK a cap=>omega
      |au val hS hcap hl hca hr=>
       have hg:=getD_some (K.zero c) hi;obtain⟨u,hu,hr'⟩:=nS (o:=o+i*K.sz c) (b:=b) htk (hca i hi) ⟨(hl i _ hg).symm,hr i _ hg⟩;exact⟨u,by simpa [Instr.loadAt,Instr.sureAddr]using hu,fb v' u (by simpa using hnr) hr'⟩
    ·cases h
   ·cases h
  ·cases h
 ·cases h
mutual
theorem NS{S':Nat->Prop}:∀(x:AV K)(v:Value),Rep D ρ S w x v->Rep D ρ S' w (BR x) v
 |.au ..,v,h=>.mp (by cases h<;>rfl)
 |.rp ..,v,h=>.mp (by cases h<;>rfl)
 |.agg l,v,h=>by
   cases h with
   |agg hl hh=>
    have:=xf (S':=S') l _ ⟨hl,hh⟩;exact .agg this.1 this.2
 |.bc l,v,h=>by
   cases h with
   |bc hl hh=>
    have:=xf (S':=S') l _ ⟨hl,hh⟩;exact .bc this.1 this.2
 |.fn f l,v,h=>by
   cases h with
   |fn hl hh=>
    have:=xf (S':=S') l _ ⟨hl,hh⟩;exact .fn this.1 this.2
 |.any,v,h=>.any v
 |.int ..,v,h=>fb (S':=S') (w':=w) _ v rfl h
 |.bool _,v,h=>fb (S':=S') (w':=w) _ v rfl h
 |.str _,v,h=>fb (S':=S') (w':=w) _ v rfl h
 |.bN,v,h=>fb (S':=S') (w':=w) _ v rfl h
 |.bO,v,h=>fb (S':=S') (w':=w) _ v rfl h
 |.mp,v,h=>fb (S':=S') (w':=w) _ v rfl h
 |.ptr ..,v,h=>fb (S':=S') (w':=w) _ v rfl h
 |.sl _,v,h=>fb (S':=S') (w':=w) _ v rfl h
 |.ep ..,v,h=>fb (S':=S') (w':=w) _ v rfl h
 |.opt ..,v,h=>fb (S':=S') (w':=w) _ v rfl h
 |.np _,v,h=>fb (S':=S') (w':=w) _ v rfl h
 |.vw ..,v,h=>fb (S':=S') (w':=w) _ v rfl h
theorem xf{S':Nat->Prop}:∀(l:List (AV K))(vs:List Value),aI D ρ S w l vs->aI D ρ S' w (tV l) vs
 |[],vs,h=>by rw[h.gR];exact .nil
 |x::r,vs,h=>by
  obtain⟨u,t,rfl,h1,h2⟩:=h.cS;exact .cons (NS x u h1) (xf r t h2)
end
theorem aa2{P:Program}{H:List (Ob K)}(hD:aX D)(hs:aD D ρ S w H){t:TypeId}{p v:AV K}{X:Value}(h:BS P D H t p=some v)(hp:Rep D ρ S w p X):
 ∃u,(Instr.loadAt t X).run P w=.ok u w/\Rep D ρ S w v u:=by
 unfold BS at h;split at h
 ·rename_i hh st i off;split at h
  ·rename_i c l hob;split at h
   ·rename_i hst;subst hst;split at h
    ·rename_i vs' htk;simp only[Option.some.injEq]at h;subst h;obtain⟨b,o,n,cp,rfl,hb,hi⟩:=iF hp;have hT:Tree D w c l (.slice (some ⟨b,o,none⟩) n cp):=hs.ob _ _ _ hob hb;have hR:Rep D ρ (fun k=>S k\/bS D w c l (.slice (some ⟨b,o,none⟩) n cp) k) w (.au c l) (.slice (some ⟨b,o,none⟩) n cp):=hT.rep fun k hk=>.inr hk
     cases hR with
     |cK a cap=>omega
     |au val hS hcap hl hca hr=>
      have hg:=getD_some (K.zero c) hi;obtain⟨u,hu,hr'⟩:=nS (o:=o+i*K.sz c) (b:=b) htk (hca i hi) ⟨(hl i _ hg).symm,hr i _ hg⟩;exact⟨u,by simpa [Instr.loadAt,Instr.sureAddr]using hu,NS _ u hr'⟩
    ·cases h
   ·cases h
  ·cases h
 ·cases h
theorem aa3{P:Program}{H:List (Ob K)}(hD:aX D)(hs:aD D ρ S w H){t:TypeId}{p v:AV K}{X:Value}(h:BQ P H t p=some (v,true))(hp:Rep D ρ S w p X):
 ∃u,(Instr.loadAt t X).run P w=.ok u w/\Rep D ρ S w v u:=by
 unfold BQ at h;split at h
 ·rename_i hh st i off;split at h
  ·rename_i c l i' off' cs hob;split at h
   ·rename_i hcond;split at h
    rotate_left
    ·cases h
    rename_i v0 htk;simp only[Option.some.injEq,Prod.mk.injEq,decide_eq_true_eq]at h;obtain⟨rfl,rfl⟩:=h;obtain⟨rfl,hle⟩:=hcond;obtain⟨b,o,n,cp,rfl,hb,hi⟩:=iF hp;obtain⟨b',o',cap,vs,T,fr,e,hblk,⟨hcap,bZ⟩,hsz,hfr,hi',hoff,h7,h8,h9⟩:=(hs.ob _ _ _ hob hb:gB D ρ S w c l i off' cs _);simp only[Value.slice.injEq,Option.some.injEq,Addr.mk.injEq]at e;obtain⟨⟨rfl,rfl,-⟩,rfl,rfl⟩:=e;have hmul:(i+1)*K.sz c<=cp*K.sz c:=Nat.mul_le_mul_right _ (by omega);rw[Nat.add_mul,Nat.one_mul]at hmul;have hsl:(bz vs (o+i*K.sz c) (off'+cs.length)).length=off'+cs.length:=by simp[bz];omega
    have hM:aI D ρ S w (List.replicate off' .any++cs) (bz vs (o+i*K.sz c) (off'+cs.length)):=by
     refine⟨by simp[hsl],fun j v u hv hu=>?_⟩;by_cases h1:j<off'
     ·rw[List.getElem?_append_left (by simpa using h1),List.getElem?_replicate,if_pos h1]at hv;simp at hv;subst hv;exact .any _
     ·rw[List.getElem?_append_right (by simp;omega),List.length_replicate]at hv;obtain⟨u',hu',hr'⟩:=h9 _ _ hv;have hjl:j-off'<cs.length:=(List.getElem?_eq_some_iff.1 hv).1;have e1:w.cell? ⟨b,o+i*K.sz c+off'+(j-off'),none⟩=some u:=by
       simp only[World.cell?,hblk,Option.bind_eq_bind];simp only[bz,List.getElem?_take,List.getElem?_drop]at hu;rw[if_pos (by omega)]at hu;have e2:o+i*K.sz c+off'+(j-off')=o+i*K.sz c+j:=by omega
       rw[e2];simpa using hu
      rw[e1]at hu';cases hu';exact hr'
    obtain⟨u,hu,hr⟩:=nS (o:=o+i*K.sz c) (b:=b) htk (lP hblk _ _) hM;exact⟨u,by simpa [Instr.loadAt,Instr.sureAddr]using hu,hr⟩
   ·cases h
  ·cases h
 ·cases h
theorem cE{P:Program}{t:TypeId}{d:TypeDesc}(h:P.underlying t=some d):(underlying t).run P w=.ok d w:=by simp[underlying,h]
theorem aa4{P:Program}{s:TypeId}{f:Nat}{x v:AV K}{X:Value}(h:BU P s f x=some v)(hx:Rep D ρ S w x X):
 ∃u,(Instr.fieldAt s X f).run P w=.ok u w/\Rep D ρ S w v u:=by
 unfold BU at h;split at h
 ·rename_i fd hf;unfold wM at hf;split at hf
  ·rename_i fs hu;split at h
   ·rename_i n hn;have key:∀a:Addr,a.spot=none->(Instr.fieldAt s (.pointer (some a)) f).run P w=.ok (.pointer (some (a.add fd.offset))) w:=fun a ha=>by
     simp[Instr.fieldAt,cE hu,hf,Instr.sureAddr,fieldPlace,eK hn]
    split at h
    ·simp only[Option.some.injEq]at h;subst h;obtain⟨b,rfl,hb⟩:=rR hx;exact⟨_,key _ rfl,by rw[add_plain];exact .ptr hb⟩
    ·simp only[Option.some.injEq]at h;subst h;cases hx with
     |rp vs hS hl hc hr=>exact⟨_,key _ rfl,by rw[add_plain,Nat.add_assoc];exact .rp vs hS hl hc hr⟩
    ·simp only[Option.some.injEq]at h;subst h;obtain⟨b,o,n,cp,rfl,hb,hi⟩:=iF hx;exact⟨_,key _ rfl,by rw[add_plain,Nat.add_assoc];exact .ep hb hi⟩
    ·cases h
   ·cases h
  ·cases hf
 ·cases h
theorem ue{n:Int}{len:Nat}(h:inB n len=true):0<=n/\n<len/\n.toNat<len:=by
 simp[inB]at h;omega
theorem aa5{P:Program}{H:List (Ob K)}(hD:aX D)(hs:aD D ρ S w H){t:TypeId}{x i v:AV K}{c:Bool}{X I:Value}(h:BV P H t x i=some (v,c))(hc:c=true)
 (hx:Rep D ρ S w x X) (hi:Rep D ρ S w i I):∃u,(Instr.indexAt t X I).run P w=.ok u w/\Rep D ρ S w v u:=by
 unfold BV at h;split at h
 ·rename_i e k n he;obtain rfl:=cg hi;unfold elemOf? at he;split at he
  ·rename_i e' hu;simp only[Option.some.injEq]at he;subst he;have key:∀(a:Addr)(len cap sz:Nat),bY P e'=some sz->inB n len=true->(Instr.indexAt t (.slice (some a) len cap) (.int k n)).run P w=.ok (.pointer (some (a.add (n.toNat*sz)))) w:=fun a len cap sz hsz hb=>by
    obtain⟨h1,h2,-⟩:=ue hb;simp[Instr.indexAt,asIntOf,cE hu,eK hsz,h1,h2]
   split at h
   ·rename_i cc l;split at h
    ·rename_i hsz;simp only[Option.some.injEq,Prod.mk.injEq]at h;obtain⟨rfl,rfl⟩:=h;obtain⟨-,-,hlt⟩:=ue hc;cases hx with
     |cK a cap=>simp at hlt
     |au val hS hcap hl hca hr=>
      have hg:=getD_some (K.zero cc) hlt;exact⟨_,key _ _ _ _ hsz hc,by rw[add_plain];exact .rp (off:=0) (val n.toNat) hS (hl _ _ hg) (hca _ hlt) (hr _ _ hg)⟩
    ·cases h
   ·rename_i hh;split at h
    ·rename_i cc l hob;split at h
     ·rename_i hsz;simp only[Option.some.injEq,Prod.mk.injEq]at h;obtain⟨rfl,rfl⟩:=h;obtain⟨-,-,hlt⟩:=ue hc;obtain⟨hb,-⟩:=fa hx;rcases nR hs hob hb with⟨rfl,rfl⟩|⟨b,o,cap,vs,T,fr,rfl,hblk,⟨hcap,bZ⟩,hsz',hfr,hall⟩
      ·simp at hlt
      ·exact⟨_,key _ _ _ _ hsz hc,by rw[add_plain];exact .ep (off:=0) hb hlt⟩
     ·cases h
    ·rename_i cc l hob;split at h
     ·rename_i hsz;simp only[Option.some.injEq,Prod.mk.injEq]at h;obtain⟨rfl,rfl⟩:=h;obtain⟨-,-,hlt⟩:=ue hc;obtain⟨hb,-⟩:=fa hx;have hT:Tree D w cc l X:=hs.ob _ _ _ hob hb;cases hT with
      |nil=>simp at hlt
      |mk=>exact⟨_,key _ _ _ _ hsz hc,by rw[add_plain];exact .ep (off:=0) hb hlt⟩
     ·cases h
    ·cases h
   ·cases h
  ·cases he
 ·cases h
theorem lQ{lo hi:Int}{len:Nat}(h:bV lo hi len=true):0<=lo/\lo<=hi/\hi<=len:=by
 simp[bV]at h;omega
inductive jX (D:aT K) (ρ:List Value) (S:Nat->Prop) (w:World):Option (AV K)->Option Value->Prop
 |none:jX D ρ S w none none
 |some {x:AV K} {X:Value} (h:Rep D ρ S w x X):jX D ρ S w (some x) (some X)
theorem xg{P:Program}{k:IntKind}{n:Int}{y:Nat}{code:BoundsCode}(h:0<=n)(h':n<=y):(Instr.sliceBound (.int k n) y code).run P w=.ok n.toNat w:=by
 simp[Instr.sliceBound,asIntOf,h,h']
theorem Cm{d:Int}{x:AV K}{n:Int}{X:Value}(h:eI d (some x)=some n)(hx:Rep D ρ S w x X):∃k,X=.int k n:=by
 cases x<;>simp[eI]at h;subst h;exact⟨_,cg hx⟩
theorem iG{P:Program}{isS:Bool}{len cap:Nat}{lo hi:Option (AV K)}{LO HI:Option Value}{l h:Int}
 (hl:eI 0 lo=some l) (hh:eI len hi=some h) (hlo:jX D ρ S w lo LO) (hhi:jX D ρ S w hi HI) (h1:0<=l) (h2:l<=h) (h3:h<=len) (hcap:len<=cap):
 (Instr.sliceBounds isS len cap LO HI none).run P w=.ok (l.toNat,h.toNat,cap) w:=by
 have e0:(l:Int)<=(h.toNat:Nat):=by omega
 have e1:h<=(cap:Nat):=by omega
 cases hlo with
 |none=>
  simp[eI]at hl;subst hl;cases hhi with
  |none=>simp[eI]at hh;subst hh;simp[Instr.sliceBounds]
  |some hx=>
   obtain⟨k,rfl⟩:=Cm hh hx;simp[Instr.sliceBounds,xg (by omega:0<=h) e1]
 |some hy=>
  obtain⟨k',rfl⟩:=Cm hl hy;cases hhi with
  |none=>
   simp[eI]at hh;subst hh;have:=xg (P:=P) (w:=w) (k:=k') (code:=.sliceB) h1 (by omega:l<=(len:Nat));simp[Instr.sliceBounds,this]
  |some hx=>
   obtain⟨k,rfl⟩:=Cm hh hx;simp[Instr.sliceBounds,xg (by omega:0<=h) e1,xg h1 e0]
theorem NT(s:List UInt8)(a b:Nat):(ByteArray.mk s.toArray).extract a b=⟨((s.take b).drop a).toArray⟩:=by
 rw[Lib.extract_eq];simp[List.drop_take]
theorem NU{c:K.U}{l:List (K.El c)}{a a':Option Addr}{n cp lo hi c':Nat}(h:Rep D ρ S w (.au c l) (.slice a n cp))(h1:lo<=hi)(h2:hi<=n)(ha:hi-lo=0\/∃b o,a=some ⟨b,o,none⟩/\a'=some ⟨b,o+lo*K.sz c,none⟩/\hi-lo<=c'):
 Rep D ρ S w (.au c ((l.take hi).drop lo)) (.slice a' (hi-lo) c'):=by
 rcases ha with h0|⟨b,o,rfl,rfl,hc⟩
 ·have:(l.take hi).drop lo=[]:=List.eq_nil_of_length_eq_zero (by simp;omega);rw[this,h0];exact .cK _ _
 ·by_cases h0:hi-lo=0
  ·have:(l.take hi).drop lo=[]:=List.eq_nil_of_length_eq_zero (by simp;omega);rw[this,h0];exact .cK _ _
  ·cases h with
   |cK=>omega
   |au val hS hcap hl' hca hr=>
    have hlen:((l.take hi).drop lo).length=hi-lo:=by simp;omega
    have hget:∀i x,((l.take hi).drop lo)[i]?=some x->l[lo+i]?=some x:=fun i x hi=>by
     simp only[List.getElem?_drop,List.getElem?_take]at hi;split at hi
     ·exact hi
     ·simp at hi
    rw[<-hlen];exact .au (fun i=>val (lo+i)) hS (by rw[hlen];omega) (fun i x hi=>hl' _ _ (hget i x hi))
     (fun i hi=>by
       have:=hca (lo+i) (by rw[hlen]at hi;omega)
       rwa [Nat.add_mul,<-Nat.add_assoc]at this)
     (fun i x hi=>hr _ _ (hget i x hi))
theorem NV{H:List (Ob K)}(hs:aD D ρ S w H){h:Nat}{c:K.U}{l:List (K.El c)}{a:Option Addr}{n cp:Nat}(ho:H[h]?=some (.arr c l)\/H[h]?=some (.tree c l))(hp:ρ[h]?=some (.slice a n cp)):
 (a=none/\n=0/\cp=0/\l=[])\/∃b o,a=some ⟨b,o,none⟩/\n=l.length/\l.length<=cp:=by
 rcases ho with ho|ho
 ·rcases hs.ob _ _ _ ho hp with⟨e,rfl⟩|⟨b,o,cap,vs,T,fr,e,-,⟨hcap,-⟩,-⟩
  ·cases e;exact .inl ⟨rfl,rfl,rfl,rfl⟩
  ·cases e;exact .inr ⟨b,o,rfl,rfl,hcap⟩
 ·have hT:Tree D w c l (.slice a n cp):=hs.ob _ _ _ ho hp;cases hT with
  |nil=>exact .inl ⟨rfl,rfl,rfl,rfl⟩
  |mk hb hcap=>exact .inr ⟨_,_,rfl,rfl,hcap.1⟩
theorem aa6{P:Program}{H:List (Ob K)}(hs:aD D ρ S w H){t:TypeId}{x v:AV K}{lo hi:Option (AV K)}{c:Bool}{X:Value}{LO HI:Option Value}
 (h:BX P H t x lo hi=some (v,c)) (hc:c=true) (hx:Rep D ρ S w x X) (hlo:jX D ρ S w lo LO) (hhi:jX D ρ S w hi HI):
 ∃u,(Instr.sliceAt t X LO HI none).run P w=.ok u w/\Rep D ρ S w v u:=by
 have key:∀{e:TypeId}{hh:Nat}{cc:K.U}{l:List (K.El cc)}{a n cp}{x1 x2:Int},elemOf? P t=some e->ρ[hh]?=some (.slice a n cp)->(H[hh]?=some (.arr cc l)\/H[hh]?=some (.tree cc l))->bY P e=some (K.sz cc)->eI 0 lo=some x1->eI l.length hi=some x2->bV x1 x2 l.length=true->
  ∃u,(Instr.sliceAt t (.slice a n cp) LO HI none).run P w=.ok u w/\Rep D ρ S w (.vw hh (K.sz cc) x1.toNat x2.toNat) u:=fun{e hh cc l a n cp x1 x2} ht hp ho hsz hl hh' hb=>by
  have hu:P.underlying t=some (.slice e):=by
   unfold elemOf? at ht;split at ht
   ·rename_i hh;cases ht;exact hh
   ·cases ht
  obtain⟨h1,h2,h3⟩:=lQ hb;rcases NV hs ho hp with⟨rfl,rfl,rfl,rfl⟩|⟨b,o,rfl,rfl,hcap⟩
  ·have:=iG (P:=P) (isS:=true) (len:=0) (cap:=0) (w:=w) hl hh' hlo hhi h1 h2 h3 (Nat.le_refl _);refine⟨.slice none (x2.toNat-x1.toNat) (0-x1.toNat),by simp[Instr.sliceAt,Instr.slice,cE hu,eK hsz,this],.vw hp (by omega) (by simp at h3;omega) (.inl (by simp at h3;omega))⟩
  ·have:=iG (P:=P) (isS:=true) (len:=l.length) (cap:=cp) (w:=w) hl hh' hlo hhi h1 h2 h3 hcap;refine⟨.slice (if cp=x1.toNat then some ⟨b,o,none⟩else some ⟨b,o+x1.toNat*K.sz cc,none⟩) (x2.toNat-x1.toNat) (cp-x1.toNat),by simp[Instr.sliceAt,Instr.slice,cE hu,eK hsz,this],.vw hp (by omega) (by omega) ?_⟩;by_cases h0:x2.toNat-x1.toNat=0
   ·exact .inl h0
   ·exact .inr ⟨b,o,rfl,by rw[if_neg (by omega)],by omega⟩
 unfold BX at h;split at h
 ·rename_i e hh ht;split at h
  ·rename_i cc l ho;obtain⟨hp,a,n,cp,rfl⟩:=rS hs (.inl ho) hx;split at h
   ·rename_i hsz;split at h
    ·rename_i x1 x2 hl hh';simp only[Option.some.injEq,Prod.mk.injEq]at h;obtain⟨rfl,rfl⟩:=h;exact key ht hp (.inl ho) hsz hl hh' hc
    ·cases h
   ·cases h
  ·rename_i cc l ho;obtain⟨hp,a,n,cp,rfl⟩:=rS hs (.inr (.inr ho)) hx;split at h
   ·rename_i hsz;split at h
    ·rename_i x1 x2 hl hh';simp only[Option.some.injEq,Prod.mk.injEq]at h;obtain⟨rfl,rfl⟩:=h;exact key ht hp (.inr ho) hsz hl hh' hc
    ·cases h
   ·cases h
  ·cases h
 ·cases h
theorem aa7{P:Program}{H:List (Ob K)}(hD:aX D)(hs:aD D ρ S w H){t:TypeId}{x v:AV K}{lo hi:Option (AV K)}{c:Bool}{X:Value}{LO HI:Option Value}
 (h:BW P t x lo hi=some (v,c)) (hc:c=true) (hx:Rep D ρ S w x X) (hlo:jX D ρ S w lo LO) (hhi:jX D ρ S w hi HI):
 ∃u,(Instr.sliceAt t X LO HI none).run P w=.ok u w/\Rep D ρ S w v u:=by
 unfold BW at h;split at h
 ·rename_i s hu;obtain rfl:=fV hx;split at h
  ·rename_i l hh' hl hh;simp only[Option.some.injEq,Prod.mk.injEq]at h;obtain⟨rfl,rfl⟩:=h;obtain⟨h1,h2,h3⟩:=lQ hc;refine⟨_,?_,.str _⟩;have:=iG (P:=P) (isS:=false) (len:=s.length) (cap:=s.length) hl hh hlo hhi h1 h2 h3 (Nat.le_refl _);simp[Instr.sliceAt,Instr.slice,cE hu,rT,this,NT]
  ·cases h
 ·rename_i e cc s hu;split at h
  ·rename_i hsz;split at h
   ·rename_i l hh' hl hh;simp only[Option.some.injEq,Prod.mk.injEq]at h;obtain⟨rfl,rfl⟩:=h;obtain⟨h1,h2,h3⟩:=lQ hc;have hlen:((s.take hh'.toNat).drop l.toNat).length=hh'.toNat-l.toNat:=by simp;omega
    cases hx with
    |cK a cap=>
     have:=iG (P:=P) (isS:=true) (len:=0) (cap:=cap) hl hh hlo hhi h1 h2 h3 (Nat.zero_le _);refine⟨_,by simp[Instr.sliceAt,Instr.slice,cE hu,eK hsz,this];rfl,?_⟩;have:hh'.toNat-l.toNat=0:=by simp at h3;omega
     simp only[List.take_nil,List.drop_nil];rw[this];exact .cK _ _
    |au val hS hcap hl' hca hr=>
     rename_i b o cap;have hb:=iG (P:=P) (isS:=true) (len:=s.length) (cap:=cap) hl hh hlo hhi h1 h2 h3 hcap;refine⟨.slice (if cap=l.toNat then some ⟨b,o,none⟩else some ⟨b,o+l.toNat*K.sz cc,none⟩) (hh'.toNat-l.toNat) (cap-l.toNat),?_,?_⟩
     ·simp[Instr.sliceAt,Instr.slice,cE hu,eK hsz,hb]
     ·rw[<-hlen];by_cases h0:(s.take hh'.toNat).drop l.toNat=[]
      ·rw[h0];exact .cK _ _
      ·have hne:0<hh'.toNat-l.toNat:=by rw[<-hlen];exact List.length_pos_iff.2 h0
       rw[if_neg (by omega)];have hget:∀i x,((s.take hh'.toNat).drop l.toNat)[i]?=some x->s[l.toNat+i]?=some x:=fun i x hi=>by
        simp only[List.getElem?_drop,List.getElem?_take]at hi;split at hi
        ·exact hi
        ·simp at hi
       exact .au (fun i=>val (l.toNat+i)) hS (by rw[hlen];omega) (fun i x hi=>hl' _ _ (hget i x hi))
        (fun i hi=>by
          have:=hca (l.toNat+i) (by rw[hlen]at hi;omega)
          rwa [Nat.add_mul,<-Nat.add_assoc]at this)
        (fun i x hi=>hr _ _ (hget i x hi))
   ·cases h
  ·cases h
 ·cases h
def SliceAt(D:aT K)(ρ:List Value)(S:Nat->Prop)(w:World)(c:K.U)(l:List (K.El c))(X:Value):Prop:=
 ∃a cap,X=.slice a l.length cap/\(l≠[]->∃b o,a=some ⟨b,o,none⟩/\∀i x,l[i]?=some x->∃vs,vs.length=K.sz c/\dJ w b (o+i*K.sz c) vs/\aI D ρ S w (D.cells c x) vs)
theorem NW(hD:aX D){c:K.U}{l:List (K.El c)}{X:Value}(h:Rep D ρ S w (.au c l) X):SliceAt D ρ S w c l X:=by
 cases h with
 |cK a cap=>exact⟨a,cap,rfl,fun h=>absurd rfl h⟩
 |au val hS hcap hl hc hr=>
  exact⟨_,_,rfl,fun _=>⟨_,_,rfl,fun i x hx=>⟨val i,by rw[hl i x hx,hD.len],hc i (List.getElem?_eq_some_iff.1 hx).1,(hl i x hx).symm,hr i x hx⟩⟩⟩
theorem NY(hD:aX D){H:List (Ob K)}(hs:aD D ρ S w H){h:Nat}{c:K.U}{l:List (K.El c)}{X:Value}(ho:H[h]?=some (.arr c l))(hp:ρ[h]?=some X):SliceAt D ρ S w c l X:=by
 rcases nR hs ho hp with⟨rfl,rfl⟩|⟨b,o,cap,vs,T,fr,rfl,hblk,⟨hcap,bZ⟩,hsz,hfr,hall⟩
 ·exact⟨none,0,rfl,fun h=>absurd rfl h⟩
 ·refine⟨_,_,rfl,fun _=>⟨b,o,rfl,fun i x hx=>⟨bz vs (o+i*K.sz c) (K.sz c),?_,lP hblk _ _,hall i x hx⟩⟩⟩;rw[<-(hall i x hx).1,hD.len]
theorem NZ(hD:aX D){H:List (Ob K)}(hs:aD D ρ S w H){c:K.U}{x:AV K}{l:List (K.El c)}{X:Value}(h:elems H c x=some l)(hx:Rep D ρ S w x X):SliceAt D ρ S w c l X:=by
 unfold elems at h;split at h
 ·simp only[Option.some.injEq]at h;subst h;cases hx;exact⟨none,0,rfl,fun h=>absurd rfl h⟩
 ·rename_i c' l';cases hd:K.ee c' c with
  |isFalse hn=>simp[hd]at h
  |isTrue he=>subst he;simp[hd]at h;subst h;exact NW hD hx
 ·rename_i hh;split at h
  ·rename_i c' l' hob;cases hd:K.ee c' c with
   |isFalse hn=>simp[hd]at h
   |isTrue he=>subst he;simp[hd]at h;subst h;exact NY hD hs hob (fa hx).1
  ·cases h
 ·cases h
theorem N1{P:Program}{t ty e:TypeId}(ht:P.underlying t=some (.slice e)){c:K.U}{l:List (K.El c)}{X:Value}(h:SliceAt D ρ S w c l X):
 (Builtin.len_ #[t] ty #[X]).run P w=.ok (.int .i64 (l.length:Int)) w:=by
 obtain⟨a,cap,rfl,-⟩:=h;simp[Builtin.len_,cE ht,goInt]
theorem bytes_at(hD:aX D){c:K.U}{f:K.El c->UInt8}{g:UInt8->K.El c}(hb:D.byte c=some (f,g)){l:List (K.El c)}{a:Option Addr}{n cap:Nat}(h:SliceAt D ρ S w c l (.slice a n cap))(hne:l≠[]):
 n=l.length/\∃b o,a=some ⟨b,o,none⟩/\∀i,i<l.length->w.cell? ⟨b,o+i,none⟩=some (.int .u8 (((l.map f).map fun b=>(b.toNat:Int)).getD i 0)):=by
 obtain⟨a',cap',e,h⟩:=h;simp only[Value.slice.injEq]at e;obtain⟨rfl,rfl,rfl⟩:=e;obtain⟨b,o,rfl,h2⟩:=h hne;refine⟨rfl,b,o,rfl,fun i hi=>?_⟩;obtain⟨vs,hlen,hc,hr⟩:=h2 i l[i] (List.getElem?_eq_getElem hi);have h1:K.sz c=1:=by rw[<-hD.len c l[i],(hD.byte c f g hb).1];rfl
 rw[h1,Nat.mul_one]at hc;rw[(hD.byte c f g hb).1]at hr;obtain⟨x,r,rfl,hx,-⟩:=hr.cS;have:=hc 0 x rfl;rw[Nat.add_zero]at this;rw[this,cg hx];simp[List.getD,hi]
theorem aa8{P:Program}(hD:aX D){src dst e:TypeId}(h1:P.underlying src=some (.slice e))(h2:P.underlying dst=some .string)(h3:P.underlying e=some (.int .u8))
 {c:K.U} {f:K.El c->UInt8} {g:UInt8->K.El c} (hb:D.byte c=some (f,g)) {l:List (K.El c)} {X:Value} (h:SliceAt D ρ S w c l X):
 (convert src dst X).run P w=.ok (.string ⟨(l.map f).toArray⟩) w:=by
 obtain⟨a,cap,rfl,h'⟩:=h;by_cases hne:l=[]
 ·subst hne;cases a with
  |none=>rw[Go.run_convert_bytes_nil w src e h1 h3 _ _ dst h2];rfl
  |some a=>rw[run_convert_bytes_string w src dst e _ _ _ h1 h3 h2];simp[Conv.bytesToString,loadCells,loadCellsFrom,ByteArray.empty,ByteArray.emptyWithCapacity];rfl
 ·obtain⟨-,b,o,rfl,hc⟩:=bytes_at hD hb ⟨a,cap,rfl,h'⟩ hne;rw[run_convert_bytes_arg w src e h1 h3 b o l.length cap ((l.map f).map fun b=>(b.toNat:Int)) (by simp) hc dst h2];congr 2;apply ByteArray.ext;simp[strOfNums,List.map_map]
theorem N2{P:Program}{k:IntKind}{a b:Int}{ats:Array TypeId}{ty:TypeId}:
 (Builtin.min_ ats ty #[.int k a,.int k b]).run P w=.ok (.int k (cond (decide (b<a)) b a)) w/\(Builtin.max_ ats ty #[.int k a,.int k b]).run P w=.ok (.int k (cond (decide (a<b)) b a)) w:=by
 constructor
 ·simp[Builtin.min_,Builtin.min2,List.foldlM]
 ·simp[Builtin.max_,Builtin.max2,List.foldlM]
theorem N3{ev:Operand->AV K}{ρe:Operand->Value}(h:∀x,Rep D ρ S w (ev x) (ρe x))(l:List Operand):aI D ρ S w (l.map ev) (l.map ρe):=
 ⟨by simp,fun i v x hv hx=>by
   simp only[List.getElem?_map,Option.map_eq_some_iff]at hv hx;obtain⟨o,ho,rfl⟩:=hv;obtain⟨o',ho',rfl⟩:=hx;rw[ho]at ho';simp at ho';subst ho';exact h o⟩
theorem xh{ev:Operand->AV K}{ρe:Operand->Value}(h:∀x,Rep D ρ S w (ev x) (ρe x))(o:Option Operand):jX D ρ S w (o.map ev) (o.map ρe):=by
 cases o with
 |none=>exact .none
 |some x=>exact .some (h x)
theorem eC{α:Type}{P:Program}{x:Sem α}{f:α->Next}{a:α}(h:x.run P w=.ok a w):(do pure (f (<-x)):Sem Next).run P w=.ok (f a) w:=by simp[h]
end Go.V
namespace Go.V
open Go
variable {K :bL}{ρ:List Value}{S:Nat->Prop}{w:World}
theorem N4{cx:Cx K}{H:List (Ob K)}(hD:aX cx.D)(hs:aD cx.D ρ S w H){ev:Operand->AV K}{ρe:Operand->Value}(hev:∀x,Rep cx.D ρ S w (ev x) (ρe x)){o:Oper}{v:AV K}{c:Bool}
 (h:iC cx ev H o.op=some (v,c)) (hc:c=true):∃u,(execOp ρe o).run cx.P w=.ok (.value u) w/\Rep cx.D ρ S w v u:=by
 unfold iC at h;unfold execOp;split at h
 all_goals first|(cases h;done)|(rename_i hop;rw[hop];dsimp only)
 ·
  simp only[Option.some.injEq,Prod.mk.injEq]at h;obtain⟨rfl,rfl⟩:=h;exact⟨_,rfl,hev _⟩
 ·simp only[Option.some.injEq,Prod.mk.injEq]at h;obtain⟨rfl,rfl⟩:=h;exact⟨_,rfl,hev _⟩
 ·
  obtain⟨u,hu,hr⟩:=aaZ h hc (hev _) (hev _);exact⟨u,eC (f:=.value) hu,hr⟩
 ·
  obtain⟨u,hu,hr⟩:=aa0 (P:=cx.P) h (hev _);exact⟨u,eC (f:=.value) hu,hr⟩
 ·
  rename_i src dst x;have hx:=hev x;split at h
  ·rename_i d k k' n hsrc hd he;rw[he]at hx;simp only[Option.some.injEq,Prod.mk.injEq]at h;obtain⟨rfl,rfl⟩:=h;rw[cg hx];refine⟨_,eC (f:=.value) (a:=.int k (k.wrap n)) ?_,.int _ _⟩;simp[convert,cE hd,cE hsrc,Conv.intToInt]
  ·rename_i d s hsrc hd he;rw[he]at hx;simp only[Option.some.injEq,Prod.mk.injEq]at h;obtain⟨rfl,rfl⟩:=h;rw[fV hx];refine⟨_,eC (f:=.value) (a:=.string ⟨s.toArray⟩) ?_,.str _⟩;simp[convert,cE hd,cE hsrc]
  ·rename_i e h1 h2 hns;split at h
   ·rename_i cc h3 hty;split at h
    ·rename_i f g l hb hl;simp only[Option.some.injEq,Prod.mk.injEq]at h;obtain⟨rfl,rfl⟩:=h;exact⟨_,eC (f:=.value) (aa8 hD h1 h2 h3 hb (NZ hD hs hl hx)),.str _⟩
    ·cases h
   ·cases h
  ·cases h
 ·
  rename_i t i;have hx:=hev t;split at h
  ·rename_i l he;rw[he]at hx;simp only[Option.map_eq_some_iff,Prod.mk.injEq]at h;obtain⟨y,hy,rfl,rfl⟩:=h;generalize ρe t=X at hx⊢;cases hx with
   |bc hl hr=>
    rename_i vs;have hi:i<vs.length:=by rw[<-hl];exact(List.getElem?_eq_some_iff.1 hy).1
    refine⟨vs[i],eC (f:=.value) ?_,hr i y _ hy (List.getElem?_eq_getElem hi)⟩;simp[Instr.extract,hi]
  ·cases h
 ·
  rename_i s x f;simp only[Option.map_eq_some_iff,Prod.mk.injEq]at h;obtain⟨y,hy,rfl,rfl⟩:=h;obtain⟨u,hu,hr⟩:=aa4 hy (hev x);exact⟨u,eC (f:=.value) hu,hr⟩
 ·
  rename_i s x f;split at h
  ·rename_i fd cs hf he;simp only[Option.map_eq_some_iff,Prod.mk.injEq]at h;obtain⟨y,hy,rfl,rfl⟩:=h;have hx:=hev x;rw[he]at hx;generalize ρe x=X at hx⊢;cases hx with
   |agg hl hr=>
    rename_i vs;obtain⟨u,hu,hr'⟩:=Cf (P:=cx.P) (vs:=vs.toArray) hy ⟨by simpa using hl,by simpa using hr⟩;refine⟨u,eC (f:=.value) ?_,hr'⟩;unfold wM at hf;split at hf
    ·rename_i fs hu';simp[Instr.field,cE hu',hf,asAgg,hu]
    ·cases hf
  ·cases h
 ·
  rename_i t p;split at h
  ·rename_i y hy;simp only[Option.some.injEq,Prod.mk.injEq]at h;obtain⟨rfl,rfl⟩:=h;obtain⟨u,hu,hr⟩:=NR hD hs hy (hev p);exact⟨u,eC (f:=.value) hu,hr⟩
  ·split at h
   ·rename_i r hr0;simp only[Option.some.injEq]at h;subst h;subst hc;obtain⟨u,hu,hr⟩:=aa3 hD hs hr0 (hev p);exact⟨u,eC (f:=.value) hu,hr⟩
   ·split at h
    ·cases h
    ·rw[Option.map_eq_some_iff]at h;obtain⟨y,hy,e⟩:=h;simp only[Prod.mk.injEq]at e;obtain⟨rfl,rfl⟩:=e;obtain⟨u,hu,hr⟩:=aa2 hD hs hy (hev p);exact⟨u,eC (f:=.value) hu,hr⟩
 ·
  rename_i t x i;obtain⟨u,hu,hr⟩:=aa5 hD hs h hc (hev x) (hev i);exact⟨u,eC (f:=.value) hu,hr⟩
 ·
  rename_i t x i;have hx:=hev x;have hi:=hev i;split at h
  ·rename_i s k n hu he hi';rw[he]at hx;rw[hi']at hi;simp only[Option.some.injEq,Prod.mk.injEq]at h;obtain⟨rfl,rfl⟩:=h;rw[fV hx,cg hi];obtain⟨h1,h2,h3⟩:=ue hc;refine⟨_,eC (f:=.value) (a:=.int .u8 ((s.getD n.toNat 0).toNat:Int)) ?_,.int _ _⟩;have hg:(ByteArray.mk s.toArray)[n.toNat]?=some (s.getD n.toNat 0):=by
    rw[getElem?_pos (c:=ByteArray.mk s.toArray) (i:=n.toNat) (h:=by simpa [ByteArray.size]using h3)];simp[List.getD,h3,ByteArray.getElem_eq_getElem_data]
   simp[Instr.index,asIntOf,cE hu,h1,hg]
  ·cases h
 ·
  rename_i t x lo hi;split at h
  ·rename_i r hr0;simp only[Option.some.injEq]at h;subst h;obtain⟨u,hu,hr⟩:=aa7 hD hs hr0 hc (hev x) (xh hev lo) (xh hev hi);exact⟨u,eC (f:=.value) hu,hr⟩
  ·split at h
   ·obtain⟨u,hu,hr⟩:=aa6 hs h hc (hev x) (xh hev lo) (xh hev hi);exact⟨u,eC (f:=.value) hu,hr⟩
   ·cases h
 ·
  rename_i x;have hx:=hev x;split at h
  ·rename_i hh o he;simp only[Option.some.injEq,Prod.mk.injEq]at h;obtain⟨rfl,rfl⟩:=h;rw[he]at hx;obtain⟨b,e,hb⟩:=rR hx;rw[e];exact⟨_,rfl,.ptr hb⟩
  ·rename_i c' y o he;simp only[Option.some.injEq,Prod.mk.injEq]at h;obtain⟨rfl,rfl⟩:=h;rw[he]at hx;obtain⟨b,o',vs,e,-⟩:=NJ hx;rw[e]at hx⊢;exact⟨_,rfl,hx⟩
  ·rename_i hh s i o he;simp only[Option.some.injEq,Prod.mk.injEq]at h;obtain⟨rfl,rfl⟩:=h;rw[he]at hx;obtain⟨b,o',n,cp,e,hb,hi⟩:=iF hx;rw[e]at hx⊢;exact⟨_,rfl,hx⟩
  ·cases h
 ·
  rename_i f first caps
  split at h
  ·rename_i hf;simp only[Option.some.injEq,Prod.mk.injEq]at h;obtain⟨rfl,rfl⟩:=h;have h0:first= #[]:=by simpa using hf
   subst h0;have:=N3 hev caps.toList;refine⟨_,eC (f:=.value) (a:=.func (.func f) #[] (caps.toList.map ρe).toArray) ?_,.fn this.1 this.2⟩;simp[Instr.makeFunc];cases caps;simp
  ·cases h
 ·
  rename_i t parts;split at h
  ·rename_i hp;split at h
   ·rename_i x y hl;split at h
    ·rename_i a b hx hy;simp only[Option.some.injEq,Prod.mk.injEq]at h;obtain⟨rfl,rfl⟩:=h;have h1:=hev x;have h2:=hev y;rw[hx]at h1;rw[hy]at h2;have e:parts= #[(0,x),(1,y)]:=by rw[<-Array.toArray_toList (xs:=parts),hl]
     subst e;have:=aaM (w:=w) hp a b;refine⟨_,eC (f:=.value) ?_,.agg (l:=[.int .i64 a,.int .i64 b]) (vs:=[.int .i64 a,.int .i64 b]) rfl fun i v u g1 g2=>?_⟩
     ·simp only[List.map_toArray,List.map_cons,List.map_nil,cg h1,cg h2];exact this
     ·match i with
      |0=>simp at g1 g2;subst g1;subst g2;exact .int _ _
      |1=>simp at g1 g2;subst g1;subst g2;exact .int _ _
      |i+2=>simp at g1
    ·cases h
   ·cases h
  ·cases h
 ·
  rename_i t m x;split at h
  ·rename_i k hT hh ks hm hmv hks;split at h
   ·rename_i t' k' l ho;split at h
    ·rename_i hk;obtain⟨rfl,rfl⟩:=hk;simp only[Option.some.injEq,Prod.mk.injEq]at h;obtain⟨rfl,rfl⟩:=h;have h1:=hev m;rw[hmv]at h1;obtain⟨hp,-⟩:=fa h1;obtain⟨b,hb,hM⟩:=w9 hs ho hp;rw[hb,Cc hks (hev x)];exact⟨_,eC (f:=.value) (aaN hT hM hc),.int _ _⟩
    ·cases h
   ·cases h
  ·cases h
 ·
  rename_i args argTypes;split at h
  ·rename_i x t hx ht;have hxx:=hev x;have ea:args= #[x]:=by rw[<-Array.toArray_toList (xs:=args),hx]
   have et:argTypes= #[t]:=by rw[<-Array.toArray_toList (xs:=argTypes),ht]
   subst ea;subst et;have key:∀(n:Nat),(Builtin.len_ #[t] o.type #[ρe x]).run cx.P w=.ok (.int .i64 (n:Int)) w->
    ((do let d<-resolve ρe {callee:=.builtin .len,args:= #[x],argTypes:= #[t]} o.type;invoke d.target d.args:Sem Next)).run cx.P w=.ok (.value (.int .i64 (n:Int))) w:=fun n hn=>by
    simp[resolve,invoke,builtin,hn]
   split at h
   ·rename_i s hu he;rw[he]at hxx;simp only[Option.some.injEq,Prod.mk.injEq]at h;obtain⟨rfl,rfl⟩:=h;exact⟨_,key _ (by rw[fV hxx];simp[Builtin.len_,cE hu,goInt,rT]),.int _ _⟩
   ·rename_i e hu he;rw[he]at hxx;simp only[Option.some.injEq,Prod.mk.injEq]at h;obtain⟨rfl,rfl⟩:=h;refine⟨_,key 0 ?_,.int _ _⟩;generalize ρe x=X at hxx⊢;cases hxx;simp[Builtin.len_,cE hu,goInt]
   ·rename_i e c' l hu he;rw[he]at hxx;simp only[Option.some.injEq,Prod.mk.injEq]at h;obtain⟨rfl,rfl⟩:=h;exact⟨_,key _ (N1 hu (NW hD hxx)),.int _ _⟩
   ·rename_i e v1 v2 v3 v4 hu he;rw[he]at hxx;simp only[Option.some.injEq,Prod.mk.injEq]at h;obtain⟨rfl,rfl⟩:=h;refine⟨_,key (v4-v3) ?_,.int _ _⟩;generalize ρe x=X at hxx⊢;cases hxx;simp[Builtin.len_,cE hu,goInt]
   ·rename_i e hh hu he;rw[he]at hxx;split at h
    ·rename_i c' l hob;simp only[Option.some.injEq,Prod.mk.injEq]at h;obtain⟨rfl,rfl⟩:=h;exact⟨_,key _ (N1 hu (NY hD hs hob (fa hxx).1)),.int _ _⟩
    ·rename_i c' l hob;simp only[Option.some.injEq,Prod.mk.injEq]at h;obtain⟨rfl,rfl⟩:=h;have hT:Tree cx.D w c' l (ρe x):=hs.ob _ _ _ hob (fa hxx).1;obtain⟨a,cp,e⟩:=wZ hT;exact⟨_,key _ (by rw[e];simp[Builtin.len_,cE hu,goInt]),.int _ _⟩
    ·cases h
   ·cases h
  ·cases h
 all_goals
  rename_i args argTypes;split at h
  ·rename_i x y hxy;have hxx:=hev x;have CB:=hev y;have ea:args= #[x,y]:=by rw[<-Array.toArray_toList (xs:=args),hxy]
   subst ea;split at h
   ·rename_i k a k' b he1 he2;rw[he1]at hxx;rw[he2]at CB;split at h
    ·rename_i hk;subst hk;simp only[Option.some.injEq,Prod.mk.injEq]at h;obtain⟨rfl,rfl⟩:=h
     first
      |(refine⟨_,?_,.int _ _⟩;simp[resolve,invoke,builtin,cg hxx,cg CB,N2.1];done)
      |(refine⟨_,?_,.int _ _⟩;simp[resolve,invoke,builtin,cg hxx,cg CB,N2.2];done)
    ·cases h
   ·cases h
  ·cases h
end Go.V
