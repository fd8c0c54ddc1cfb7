/-
  A VALUE-LEVEL READING OF THE LOADED CODE: abstract values, objects, operations, and a function 'execC' that runs a body on them. Nothing here speaks of one program: the program is a parameter. The proofs that what it yields is what the machine does are in the texts that follow.
-/
import Derived.WalkKit
import Derived.KernelRfl
import Derived.Orders
namespace Go.V
open Go
structure yG where
 U:Type
 El:U->Type
 deq:DecidableEq U
 sz:U->Nat
 zero:(c:U)->El c
inductive AV (K:yG) where
 |any
 |int (k:IntKind) (n:Int)
 |bool (b:Bool)
 |str (s:List UInt8)
 |oG
 |eY
 |fn (f:Nat) (caps:List (AV K))
 |ptr (h off:Nat)
 |sl (h:Nat)
 |ep (h st i off:Nat)
 |cO (c:K.U) (l:List (K.El c))
 |rp (c:K.U) (x:K.El c) (off:Nat)
 |agg (l:List (AV K))
 |mJ (l:List (AV K))
 |opt (g:Nat) (want:Bool) (v:AV K)
 |np (h:Nat)
 |vw (h st lo hi:Nat)
inductive Ob (K:yG) where
 |dead
 |box (cells:List (AV K))
 |arr (c:K.U) (l:List (K.El c))
 |WW (c:K.U) (l:List (K.El c))
 |tree (c:K.U) (l:List (K.El c))
 |opn (c:K.U) (l:List (K.El c)) (i off:Nat) (cs:List (AV K))
structure Base where
 inv:(Nat->Prop)->World->Prop
 mono:∀{S S':Nat->Prop} {w w':World},(∀b,S b->S' b)->(∀b,S b->w'.heap[b]? =w.heap[b]?)->inv S w->inv S' w'
def Base.ai9 :Base:=⟨fun _ _=>True,fun _ _ h=>h⟩
structure jl (K:yG) where
 cells:(c:K.U)->K.El c->List (AV K)
 dec:(c:K.U)->List (AV K)->Option (K.El c×Bool)
 byte:(c:K.U)->Option ((K.El c->UInt8)×(UInt8->K.El c))
 find:List (AV K)->Option K.U
 base:Base:=Base.ai9
 Pm:Option TypeId:=none
 elT:K.U->Option TypeId:=fun _=>none
variable {K :yG}
def AV.bf :AV K->List (AV K)
 | .agg l=>l
 |v=>[v]
def AV.known :AV K->Bool
 | .any | .opt ..=>false
 |_=>true
def AV.xy :AV K->Bool
 | .opt ..=>true
 |_=>false
def AV.one :AV K->Bool
 | .any | .opt .. | .agg _ | .mJ _ | .vw ..=>false
 |_=>true
structure St (K:yG) where
 tm:List (AV K)
 H:List (Ob K)
 ok:Bool
inductive Ex where
 |normal
 |exit (id:Nat)
 |ret
def Ex.Ci :Ex->Exit
 | .normal=> .normal
 | .exit id=> .exit id
 | .ret=> .ret
structure fJ (K:yG) where
 n:Nat
 ins:List Nat
 outs:List Nat
 run:{R:Type}->List (AV K)->List (Ob K)->(Ex->List (AV K)->List (Ob K)->Option R)->Option R
inductive Mode where
 |plain |FC |uz |pass |aeG |fresh
 deriving DecidableEq
structure Cx (K:yG) where
 P:Program
 D:jl K
 ty:TypeId->Option K.U
 call:FuncId->List (AV K)->List (Ob K)->Option (AV K×List (Ob K)×Bool)
 mode:FuncId->Mode
 loop:Nat->Option (fJ K)
 jo:TypeId->List (Option K.U)
 cut:Bool:=false
 rsl:List (List (Option K.U)):=[]
 aje:List Bool:=[]
 mv:Bool:=false
 deep:K.U->Bool:=fun _=>false
 opn:Bool:=false
 vws:Bool:=false
 gs:Option (Nat×Bool):=none
def known (cx:Cx K) (g:Nat):Option Bool:=match cx.gs with
 |some (t,b)=>if t=g then some b else none
 |none=>none
mutual
def FB : Value->Option (AV K)
 | .bool b=>some (.bool b)
 | .int k n=>some (.int k n)
 | .string s=>some (.str s.data.toList)
 | .pointer none=>some .oG
 | .slice none 0 0=>some .eY
 | .agg cs=>(VW cs.toList).map .agg
 |_=>none
def VW : List Value->Option (List (AV K))
 | []=>some []
 |v::r=>match FB v,VW r with
  |some x,some l=>some (x::l)
  |_,_=>none
end
def covers (tm:List (AV K)):Nat->Nat×Bool->Nat×Bool->Bool
 |0,g,t=>g.1==t.1&&g.2==t.2
 |n+1,g,t=>(g.1==t.1&&g.2==t.2)||(match tm[g.1]? with
  |some (.opt g1 w1 _)=>covers tm n (g1,w1) t
  |_=>false)
def MF (tm:List (AV K)) (gs:List (Nat×Bool)):Operand->AV K
 | .tmp t=>match tm[t]? with
   |some (.opt g w v)=>if gs.any (fun p=>covers tm 6 p (g,w)) then v else .any
   |some v=>v
   |none=> .any
 | .const v=>(FB v).getD .any
 | .global _=> .any
 | .func f=> .fn f []
def aem (tm:List (AV K)):Nat->Nat×Bool->Option Bool
 |0,_=>none
 |n+1,(g,w)=>match tm[g]? with
  |some (.bool b)=>some (b==w)
  |some (.opt g1 w1 (.bool b))=>(aem tm n (g1,w1)).map fun e=>e&&(b==w)
  |_=>none
mutual
def merge (b:Bool):AV K->AV K->AV K
 | .int k m, .int k' n=>if k=k' then .int k (cond b m n) else .any
 | .bool m, .bool n=> .bool (cond b m n)
 | .str m, .str n=> .str (cond b m n)
 | .cO c l, .cO c' l'=>match K.deq c c' with
   | .isTrue h=> .cO c' (cond b (h ▸ l) l')
   | .isFalse _=> .any
 | .agg l, .agg l'=>if l.length=l'.length then .agg (merges b l l') else .any
 | .eY, .eY=> .eY
 | .oG, .oG=> .oG
 |_,_=> .any
def merges (b:Bool):List (AV K)->List (AV K)->List (AV K)
 |x::r,y::s=>merge b x y::merges b r s
 |_,_=>[]
end
def wP (op:BinOp) (k:IntKind) (x y:Int):Int:=
 let a:=BitVec.ofInt k.bits x
 let b:=BitVec.ofInt k.bits y
 k.wrap ((match op with
   | .and=>(a&&& b) | .or=>(a|||b) | .xor=>(a^^^b) |_=>(a&&& ~~~b)).toNat)
def Za (k:IntKind) (x y:Int):Int:=k.wrap (x*2^(min y.toNat k.bits))
def OZ (k:IntKind) (x y:Int):Int:=x.fdiv (2^(min y.toNat k.bits))
def adZ (a b:List UInt8):Bool:=decide (a.length+b.length<=4611686018427387904)
def ltS (a b:List UInt8):Bool:=Op.bytesLess a b
def ah1 (op:BinOp) (k:IntKind) (a b:Int):Option (AV K×Bool):=
 match op with
 | .add=>some (.int k (k.wrap (a+b)),true)
 | .sub=>some (.int k (k.wrap (a-b)),true)
 | .mul=>some (.int k (k.wrap (a*b)),true)
 | .quo=>some (.int k (k.wrap (a.tdiv b)),b !=0)
 | .rem=>some (.int k (a.tmod b),b !=0)
 | .and | .or | .xor | .andNot=>some (.int k (wP op k a b),true)
 | .eql=>some (.bool (a==b),true)
 | .neq=>some (.bool (a !=b),true)
 | .lss=>some (.bool (decide (a<b)),true)
 | .leq=>some (.bool (decide (a<=b)),true)
 | .gtr=>some (.bool (decide (b<a)),true)
 | .geq=>some (.bool (decide (b<=a)),true)
 | .shl | .shr=>none
def ah2 (op:BinOp) (a b:List UInt8):Option (AV K×Bool):=
 match op with
 | .add=>some (.str (a++b),adZ a b)
 | .eql=>some (.bool (a==b),true)
 | .neq=>some (.bool (!(a==b)),true)
 | .lss=>some (.bool (ltS a b),true)
 | .leq=>some (.bool (ltS a b||a==b),true)
 | .gtr=>some (.bool (!(ltS a b||a==b)),true)
 | .geq=>some (.bool (!ltS a b),true)
 |_=>none
def afP (P:Program) (t:TypeId):Bool:=P.underlying t matches some .string
def ZG (P:Program) (t:TypeId):Bool:=P.underlying t matches some .bool
def unV (op:UnOp):AV K->Option (AV K×Bool)
 | .bool b=>match op with
   | .not=>some (.bool (!b),true)
   |_=>none
 | .int k n=>match op with
   | .neg=>some (.int k (k.wrap (0-n)),true)
   | .xor=>some (.int k (wP .xor k (if k.signed then -1 else k.max) n),true)
   |_=>none
 |_=>none
def nU (P:Program) (t:TypeId):Option Nat:=(P.info? t).map (·.size)
def adB (P:Program) (t:TypeId):Option Bool:=
 match P.underlying t with
 |some (.struct _) |some (.array _ _)=>some true
 |some _=>some false
 |none=>none
def adC (P:Program) (t:TypeId) (f:Nat):Option Field:=
 match P.underlying t with
 |some (.struct fs)=>fs[f]?
 |_=>none
def elemOf? (P:Program) (t:TypeId):Option TypeId:=
 match P.underlying t with
 |some (.slice e)=>some e
 |_=>none
def zeroOf (P:Program) (t:TypeId):Option (AV K):=
 match P.info? t with
 |some i=>match i.zero with
  |some v=>FB v
  |none=>none
 |none=>none
def KA (P:Program) (t:TypeId):Option IntKind:=
 match P.underlying t with
 |some (.int k)=>some k
 |_=>none
def Ir (P:Program) (t:TypeId) (cs:List (AV K)) (off:Nat):Option (AV K):=
 match adB P t,nU P t with
 |some true,some n=>if off+n<=cs.length then some (.agg ((cs.drop off).take n)) else none
 |some false,some _=>cs[off]?
 |_,_=>none
def abj (P:Program) (rec:TypeId->AV K->AV K->Option Bool) (xs ys:List (AV K)):List Field->Option Bool
 | []=>some true
 |f::fs=>if f.name= "_" then none else
  match Ir P f.type xs f.offset,Ir P f.type ys f.offset with
  |some a,some b=>match rec f.type a b,abj P rec xs ys fs with
   |some p,some q=>some (p&&q)
   |_,_=>none
  |_,_=>none
def eqA (P:Program):Nat->TypeId->AV K->AV K->Option Bool
 |0,_,_,_=>none
 |n+1,t, .int k a, .int k' b=>if k=k' then (match P.underlying t with
  |some (.int _)=>some (a==b)
  |_=>none) else none
 |n+1,t, .bool a, .bool b=>(match P.underlying t with
  |some .bool=>some (a==b)
  |_=>none)
 |n+1,t, .str a, .str b=>(match P.underlying t with
  |some .string=>some (a==b)
  |_=>none)
 |n+1,t, .agg xs, .agg ys=>(match P.underlying t with
  |some (.struct fs)=>if P.stoodInHeld t then none else abj P (eqA P n) xs ys fs.toList
  |_=>none)
 |_+1,_,_,_=>none
def ah3 (P:Program) (op:BinOp) (t:TypeId):AV K->AV K->Option (AV K×Bool)
 | .int k a, .int k' b=>match op with
   | .shl=>some (.int k (Za k a b),decide (0<=b))
   | .shr=>some (.int k (OZ k a b),decide (0<=b))
   |_=>if k=k' then ah1 op k a b else none
 | .bool a, .bool b=>if ZG P t then (match op with
   | .eql=>some (.bool (a==b),true)
   | .neq=>some (.bool (!(a==b)),true)
   |_=>none) else none
 | .str a, .str b=>ah2 op a b
 | .agg a, .agg b=>match op with
   | .eql=>if P.eqGuardType P.depth t then none else (eqA P 6 t (.agg a) (.agg b)).map fun e=>(.bool e,true)
   | .neq=>if P.eqGuardType P.depth t then none else (eqA P 6 t (.agg a) (.agg b)).map fun e=>(.bool (!e),true)
   |_=>none
 |_,_=>none
def inB (n:Int) (len:Nat):Bool:=decide (0<=n)&&decide (n<len)
def CO (lo hi:Int) (len:Nat):Bool:=decide (0<=lo)&&(decide (lo<=hi)&&decide (hi<=len))
mutual
def AV.closed :AV K->Bool
 | .int .. | .bool _ | .str _ | .oG | .eY | .cO .. | .rp .. | .any=>true
 | .ptr .. | .sl _ | .ep .. | .opt .. | .np _ | .vw ..=>false
 | .fn _ l | .agg l | .mJ l=>iF l
def iF : List (AV K)->Bool
 | []=>true
 |v::r=>v.closed&&iF r
end
def VM (H:List (Ob K)):AV K->AV K
 | .sl h=>match H[h]? with
   |some (.arr c l)=> .cO c l
   |some (.WW c l)=> .cO c l
   |some (.tree c l)=> .cO c l
   |_=> .any
 |v=>v
mutual
def FC (D:jl K) (H:List (Ob K)):AV K->AV K
 | .sl h=>match H[h]? with
   |some (.arr c l)=> .cO c l
   |some (.WW c l)=> .cO c l
   |some (.tree c l)=> .cO c l
   |_=> .any
 | .ptr h off=>match H[h]? with
   |some (.box cs)=>match D.find (cs.map (VM H)) with
    |some c=>match D.dec c (cs.map (VM H)) with
     |some (x,true)=> .rp c x off
     |_=> .any
    |none=> .any
   |_=> .any
 | .vw h st lo hi=>match H[h]? with
   |some (.arr c l)=>if st=K.sz c then .cO c ((l.take hi).drop lo) else .any
   |some (.tree c l)=>if st=K.sz c then .cO c ((l.take hi).drop lo) else .any
   |_=> .any
 | .fn g l=> .fn g (FD D H l)
 | .agg l=> .agg (FD D H l)
 | .mJ l=> .mJ (FD D H l)
 |v=>v
def FD (D:jl K) (H:List (Ob K)):List (AV K)->List (AV K)
 | []=>[]
 |v::r=>FC D H v::FD D H r
end
def elems (H:List (Ob K)) (c:K.U):AV K->Option (List (K.El c))
 | .eY=>some []
 | .cO c' l=>match K.deq c' c with
   | .isTrue h=>some (h ▸ l)
   | .isFalse _=>none
 | .sl h=>match H[h]? with
   |some (.arr c' l)=>match K.deq c' c with
    | .isTrue h=>some (h ▸ l)
    | .isFalse _=>none
   |_=>none
 |_=>none
def setCells (cs:List (AV K)) (off:Nat):List (AV K)->List (AV K)
 | []=>cs
 |v::r=>setCells (cs.set off v) (off+1) r
mutual
def hands : AV K->List Nat
 | .ptr h _ | .sl h | .ep h _ _ _ | .np h | .vw h _ _ _=>[h]
 | .agg l | .mJ l | .fn _ l=>bI l
 |_=>[]
def bI : List (AV K)->List Nat
 | []=>[]
 |v::r=>hands v++bI r
end
def acr (H:List (Ob K)) (h:Nat):List (Ob K):=
 match H[h]? with
 |some (.arr c l)=>H.set h (.WW c l)
 |some (.tree c l)=>H.set h (.WW c l)
 |_=>H
def rJ (H:List (Ob K)):List Nat->List (Ob K)
 | []=>H
 |h::r=>rJ (acr H h) r
mutual
def oZ (H:List (Ob K)):AV K->AV K
 | .sl h=>match H[h]? with
   |some (.WW c l)=> .cO c l
   |_=> .sl h
 | .agg l=> .agg (GG H l)
 | .mJ l=> .mJ (GG H l)
 |v=>v
def GG (H:List (Ob K)):List (AV K)->List (AV K)
 | []=>[]
 |v::r=>oZ H v::GG H r
end
def thaw (dp:K.U->Bool) (H:List (Ob K)):List (Option K.U)->List (AV K)->List (AV K)×List (Ob K)
 |some c::cs, .eY::r=>match thaw dp (H++[cond (dp c) (.tree c []) (.arr c [])]) cs r with
  |(l,H')=>(.sl H.length::l,H')
 |_::cs,v::r=>match thaw dp H cs r with
  |(l,H')=>(v::l,H')
 | [],l=>(l,H)
 |_,[]=>([],H)
def nX (dp:K.U->Bool) (H:List (Ob K)):List (List (Option K.U))->List (AV K)->List (AV K)×List (Ob K)
 |cs::css, .agg l::r=>match thaw dp H cs l with
  |(l',H1)=>match nX dp H1 css r with
   |(s,H2)=>(.agg l'::s,H2)
 |cs::css,v::r=>match thaw dp H cs [v] with
  |(l',H1)=>match nX dp H1 css r with
   |(s,H2)=>(l'.headD v::s,H2)
 | [],l=>(l,H)
 |_,[]=>([],H)
def wU : List (AV K)->Bool
 | .np _::_=>true
 |_=>false
def VX (b:Bool) (h:Nat):List (AV K)->List (AV K)
 | .oG::r=>cond b (.np h) .oG::r
 |l=>l
mutual
def jY : AV K->Bool
 | .cO .. | .rp ..=>true
 | .agg l | .mJ l | .fn _ l=>bZ l
 |_=>false
def bZ : List (AV K)->Bool
 | []=>false
 |v::r=>jY v||bZ r
end
def adD (P:Program) (D:jl K) (H:List (Ob K)) (t:TypeId):AV K->Option (AV K)
 | .ptr h off=>match H[h]? with
   |some (.box cs)=>Ir P t cs off
   |_=>none
 | .rp c x off=>Ir P t (D.cells c x) off
 | .ep h st i off=>match H[h]? with
   |some (.arr c l)=>if st=K.sz c then Ir P t (D.cells c (l.getD i (K.zero c))) off else none
   |some (.tree c l)=>if st=K.sz c then (match Ir P t (D.cells c (l.getD i (K.zero c))) off with
     |some v=>if jY v then none else some v
     |none=>none) else none
   |_=>none
 |_=>none
def NH (P:Program) (s:TypeId) (f:Nat) (x:AV K):Option (AV K):=
 match adC P s f with
 |some fd=>match nU P fd.type with
  |some (_+1)=>match x with
   | .ptr h off=>some (.ptr h (off+fd.offset))
   | .rp c x off=>some (.rp c x (off+fd.offset))
   | .ep h st i off=>some (.ep h st i (off+fd.offset))
   |_=>none
  |_=>none
 |none=>none
def NI (P:Program) (H:List (Ob K)) (t:TypeId) (x i:AV K):Option (AV K×Bool):=
 match elemOf? P t,i with
 |some e, .int _ n=>match x with
  | .cO c l=>if nU P e=some (K.sz c) then some (.rp c (l.getD n.toNat (K.zero c)) 0,inB n l.length) else none
  | .sl h=>match H[h]? with
    |some (.arr c l)=>if nU P e=some (K.sz c) then some (.ep h (K.sz c) n.toNat 0,inB n l.length) else none
    |some (.tree c l)=>if nU P e=some (K.sz c) then some (.ep h (K.sz c) n.toNat 0,inB n l.length) else none
    |_=>none
  |_=>none
 |_,_=>none
def JM (d:Int):Option (AV K)->Option Int
 |none=>some d
 |some (.int _ n)=>some n
 |some _=>none
def acs (P:Program) (t:TypeId) (x:AV K) (lo hi:Option (AV K)):Option (AV K×Bool):=
 match P.underlying t,x with
 |some .string, .str s=>match JM 0 lo,JM s.length hi with
  |some l,some h=>some (.str ((s.take h.toNat).drop l.toNat),CO l h s.length)
  |_,_=>none
 |some (.slice e), .cO c s=>if nU P e=some (K.sz c) then match JM 0 lo,JM s.length hi with
  |some l,some h=>some (.cO c ((s.take h.toNat).drop l.toNat),CO l h s.length)
  |_,_=>none else none
 |_,_=>none
def afQ (P:Program) (H:List (Ob K)) (t:TypeId) (x:AV K) (lo:Option (AV K)) (hi:AV K):Option (AV K×Bool):=
 match elemOf? P t,x with
 |some e, .sl h=>match H[h]? with
  |some (.arr c l)=>if nU P e=some (K.sz c) then match JM 0 lo,JM l.length (some hi) with
   |some a,some b=>some (.vw h (K.sz c) a.toNat b.toNat,CO a b l.length)
   |_,_=>none else none
  |some (.tree c l)=>if nU P e=some (K.sz c) then match JM 0 lo,JM l.length (some hi) with
   |some a,some b=>some (.vw h (K.sz c) a.toNat b.toNat,CO a b l.length)
   |_,_=>none else none
  |_=>none
 |_,_=>none
def adE (cx:Cx K) (ev:Operand->AV K) (H:List (Ob K)):Op->Option (AV K×Bool)
 | .move x | .assign x=>some (ev x,true)
 | .binOp op t x y _=>ah3 cx.P op t (ev x) (ev y)
 | .unOp op _ x=>unV op (ev x)
 | .convert src dst x=>match cx.P.underlying src,cx.P.underlying dst,ev x with
   |some _,some (.int k), .int _ n=>some (.int k (k.wrap n),true)
   |some _,some .string, .str s=>some (.str s,true)
   |some (.slice e),some .string,x=>match cx.P.underlying e,cx.ty e with
    |some (.int .u8),some c=>match cx.D.byte c,elems H c x with
     |some (f,_),some l=>some (.str (l.map f),true)
     |_,_=>none
    |_,_=>none
   |_,_,_=>none
 | .extract t i=>match ev t with
   | .mJ l=>(l[i]?).map fun v=>(v,true)
   |_=>none
 | .fieldAddr s x f=>(NH cx.P s f (ev x)).map fun v=>(v,true)
 | .load t p=>(adD cx.P cx.D H t (ev p)).map fun v=>(v,true)
 | .indexAddr t x i=>NI cx.P H t (ev x) (ev i)
 | .index t x i=>match cx.P.underlying t,ev x,ev i with
   |some .string, .str s, .int _ n=>some (.int .u8 ((s.getD n.toNat 0).toNat:Int),inB n s.length)
   |_,_,_=>none
 | .slice t x lo hi none=>match acs cx.P t (ev x) (lo.map ev) (hi.map ev) with
   |some r=>some r
   |none=>match hi with
    |some y=>if cx.vws then afQ cx.P H t (ev x) (lo.map ev) (ev y) else none
    |none=>none
 | .nilCheck x=>match ev x with
   | .ptr h o=>some (.ptr h o,true)
   | .rp c x o=>some (.rp c x o,true)
   | .ep h s i o=>some (.ep h s i o,true)
   |_=>none
 | .makeFunc (.func f) first caps=>if first.isEmpty then some (.fn f (caps.toList.map ev),true) else none
 | .call {callee:= .builtin .len,args,argTypes}=>match args.toList,argTypes.toList with
   | [x],[t]=>match cx.P.underlying t,ev x with
     |some .string, .str s=>some (.int .i64 (s.length:Int),true)
     |some (.slice _), .eY=>some (.int .i64 0,true)
     |some (.slice _), .cO _ l=>some (.int .i64 (l.length:Int),true)
     |some (.slice _), .vw _ _ a b=>some (.int .i64 ((b-a:Nat):Int),true)
     |some (.slice _), .sl h=>match H[h]? with
      |some (.arr _ l)=>some (.int .i64 (l.length:Int),true)
      |some (.tree _ l)=>some (.int .i64 (l.length:Int),true)
      |_=>none
     |_,_=>none
   |_,_=>none
 | .call {callee:= .builtin .min,args, ..}=>match args.toList with
   | [x,y]=>match ev x,ev y with
     | .int k a, .int k' b=>if k=k' then some (.int k (cond (decide (b<a)) b a),true) else none
     |_,_=>none
   |_=>none
 | .call {callee:= .builtin .max,args, ..}=>match args.toList with
   | [x,y]=>match ev x,ev y with
     | .int k a, .int k' b=>if k=k' then some (.int k (cond (decide (a<b)) b a),true) else none
     |_,_=>none
   |_=>none
 |_=>none
def ajg (D:jl K) (c:K.U) (e:TypeId):Bool:=match D.elT c with
 |none=>true
 |some t=>t==e
def tyE (cx:Cx K) (e:TypeId):Option K.U:=match cx.ty e with
 |some c=>if ajg cx.D c e then some c else none
 |none=>none
def room (e:TypeId) (P:Program):Bool:=match P.info? e with
 |some i=>decide (i.bytes<=4096)
 |none=>false
def Eb (D:jl K) (c:K.U):List (AV K)->Option (List (K.El c)×Bool)
 | []=>some ([],true)
 |v::r=>match D.dec c v.bf,Eb D c r with
  |some (x,b),some (l,b')=>some (x::l,b&&b')
  |_,_=>none
def inOrder (ev:Operand->AV K):Nat->List (Nat×Operand)->Option (List (AV K))
 |_,[]=>some []
 |n,(i,x)::r=>if i=n then (inOrder ev (n+1) r).map (ev x::·) else none
def placesOf (P:Program) (t:TypeId):Option (List (Nat×Nat)):=
 match P.underlying t with
 |some (.struct fs)=>fs.toList.mapM (fun f=>(P.info? f.type).map fun i=>(f.offset,i.size))
 |_=>none
def Yw (places:List (Nat×Nat)) (ev:Operand->AV K) (cs:List (AV K)):List (Nat×Operand)->Option (List (AV K))
 | []=>some cs
 |(i,x)::r=>match places[i]? with
  |some (off,n)=>if (ev x).known=true /\ (ev x).bf.length=n /\ off+n<=cs.length then Yw places ev (setCells cs off (ev x).bf) r else none
  |none=>none
def wY (P:Program) (t:TypeId):Bool:=match P.info? t with
 |some i=>match i.zero with
  |some v=>v.cells.size==i.size
  |none=>false
 |none=>false
def source (D:jl K) (H:List (Ob K)) (c:K.U):AV K->Option (List (K.El c))
 | .str s=>match D.byte c with
   |some (_,g)=>some (s.map g)
   |none=>none
 |v=>elems H c v
def Uo (cx:Cx K) (H:List (Ob K)) (sT:TypeId) (s x:AV K):Option (AV K×List (Ob K)×Bool×List Nat):=
 match elemOf? cx.P sT with
 |none=>none
 |some e=>match tyE cx e with
  |none=>none
  |some c=>if nU cx.P e=some (K.sz c) /\ room e cx.P=true /\ wY cx.P e=true then
    match source cx.D H c x with
    |none=>none
    |some m=>match s with
     | .eY=>some (.sl H.length,H++[.arr c m],decide (m.length<=1073741824),[])
     | .sl h=>match x with
       | .sl h'=>if h=h' then none else match elems H c (.sl h) with
         |some l=>some (.sl H.length,H.set h .dead++[.arr c (l++m)],decide (l.length+m.length<=1073741824),[h])
         |none=>none
       |_=>match elems H c (.sl h) with
        |some l=>some (.sl H.length,H.set h .dead++[.arr c (l++m)],decide (l.length+m.length<=1073741824),[h])
        |none=>none
     |_=>none
   else none
def Iq (ev:Operand->AV K):Op->List Nat
 | .buildSlice _ _ parts=>bI (parts.toList.map fun p=>ev p.2)
 | .store _ p x=>match ev p with
   | .ep ..=>hands (ev x)
   |_=>[]
 | .slice _ x _ _ _=>match ev x with
   | .sl h=>[h]
   |_=>[]
 |_=>[]
def aep (cx:Cx K) (ev:Operand->AV K) (H:List (Ob K)):Op->Option (AV K×List (Ob K)×Bool×List Nat)
 | .box t x=>if (ev x).known then match thaw cx.deep H (cx.jo t) (ev x).bf with
     |(cs,H1)=>if wU cs then none else some (.ptr H1.length 0,H1++[.box cs],true,[]) else none
 | .alloc t=>match (zeroOf cx.P t:Option (AV K)) with
   |some z=>if z.known then match thaw cx.deep H (cx.jo t) z.bf with
    |(cs,H1)=>if wU cs then none else some (.ptr H1.length 0,H1++[.box (VX (cx.D.Pm==some t) H1.length cs)],true,[]) else none
   |none=>none
 | .build t parts=>match placesOf cx.P t,(zeroOf cx.P t:Option (AV K)) with
   |some ps,some z=>if z.known then (Yw ps ev z.bf parts.toList).map fun cs=>(.agg cs,H,true,[]) else none
   |_,_=>none
 | .store t p x=>match nU cx.P t with
   |some n=>if (ev x).bf.length=n /\ (ev x).bf.all AV.one=true then match ev p with
    | .ptr h off=>match H[h]? with
      |some (.box cs)=>if off+n<=cs.length then match thaw cx.deep H (cx.jo t) (ev x).bf with
       |(xs,H1)=>if wU (setCells cs off xs)&& !wU cs then none else some (.any,H1.set h (.box (setCells cs off xs)),true,[h]) else none
      |_=>none
    | .ep h st i off=>match H[h]? with
      |some (.arr c l)=>if st=K.sz c /\ iF (ev x).bf=true /\ off+n<=K.sz c then
        match cx.D.dec c (setCells (cx.D.cells c (l.getD i (K.zero c))) off (ev x).bf) with
        |some (y,b)=>some (.any,H.set h (.arr c (l.set i y)),b,[h])
        |none=>none
       else none
      |_=>none
    |_=>none else none
   |none=>none
 | .makeSlice t len cap=>match elemOf? cx.P t with
   |none=>none
   |some e=>match tyE cx e,(zeroOf cx.P e:Option (AV K)),ev len,ev cap with
    |some c,some z, .int _ n, .int _ m=>if nU cx.P e=some (K.sz c) /\ room e cx.P=true /\ iF z.bf=true /\ z.known=true then
      match cx.D.dec c z.bf with
      |some (y,b)=>some (.sl H.length,H++[.arr c (List.replicate n.toNat y)],b&&(decide (0<=n)&&(decide (n<=m)&&decide (m<=1073741824))),[])
      |none=>none
     else none
    |_,_,_,_=>none
 | .buildSlice t len parts=>match elemOf? cx.P t with
   |none=>none
   |some e=>match tyE cx e,inOrder ev 0 parts.toList with
    |some c,some l=>if nU cx.P e=some (K.sz c) /\ wY cx.P e=true /\ l.length=len /\ len<=4096 /\ K.sz c<=4096 /\ l.all (fun v=>iF v.bf&&(v.known&&decide (v.bf.length=K.sz c)))=true then
      match Eb cx.D c l with
      |some (y,b)=>some (.sl H.length,H++[.arr c y],b,[])
      |none=>none
     else none
    |_,_=>none
 | .convert src dst x=>match cx.P.underlying src,elemOf? cx.P dst,ev x with
   |some .string,some e, .str s=>match cx.P.underlying e,tyE cx e with
    |some (.int .u8),some c=>match cx.D.byte c with
     |some (_,g)=>if nU cx.P e=some (K.sz c) then some (.sl H.length,H++[.arr c (s.map g)],decide (s.length<=1073741824),[]) else none
     |none=>none
    |_,_=>none
   |_,_,_=>none
 | .call {callee:= .builtin .append,args,argTypes}=>match args.toList,argTypes.toList with
   | [s,x],[sT,xT]=>if (KA cx.P xT).isSome||(cx.P.underlying xT).isNone then none else Uo cx H sT (ev s) (ev x)
   |_,_=>none
 |_=>none
mutual
def Pj : AV K->Bool
 | .sl _ | .ptr .. | .ep .. | .np _ | .vw ..=>true
 | .agg l | .mJ l | .fn _ l=>NF l
 |_=>false
def NF : List (AV K)->Bool
 | []=>false
 |v::r=>Pj v||NF r
end
mutual
def O9 (f:Nat->Option Nat):AV K->Option (AV K)
 | .ptr h o=>(f h).map (.ptr · o)
 | .sl h=>(f h).map .sl
 | .np h=>(f h).map .np
 | .ep h s i o=>(f h).map (.ep · s i o)
 | .vw h s a b=>(f h).map (.vw · s a b)
 | .fn g l=>(IA f l).map (.fn g)
 | .agg l=>(IA f l).map .agg
 | .mJ l=>(IA f l).map .mJ
 | .opt ..=>none
 |v=>some v
def IA (f:Nat->Option Nat):List (AV K)->Option (List (AV K))
 | []=>some []
 |v::r=>match O9 f v,IA f r with
  |some x,some l=>some (x::l)
  |_,_=>none
end
def ren (m:List Nat):AV K->Option (AV K):=O9 fun h=>m.idxOf? h
def ajh (m:List Nat):List (AV K)->Option (List (AV K)):=IA fun h=>m.idxOf? h
def back (m:List Nat):AV K->Option (AV K):=O9 fun h=>m[h]?
def aji (m:List Nat):List (AV K)->Option (List (AV K)):=IA fun h=>m[h]?
def Nw (f:Nat->Option Nat):Ob K->Option (Ob K)
 | .box cs=>(IA f cs).map .box
 | .opn ..=>none
 |o=>some o
def adu (m:List Nat):Ob K->Option (Ob K):=Nw fun h=>m.idxOf? h
def ND (m:List Nat):Ob K->Option (Ob K):=Nw fun h=>m[h]?
def Io (f:Ob K->Option (Ob K)):List (Ob K)->Option (List (Ob K))
 | []=>some []
 |o::r=>match f o,Io f r with
  |some x,some l=>some (x::l)
  |_,_=>none
def reach (H:List (Ob K)):Nat->List Nat->List Nat->List Nat
 |0,_,acc=>acc
 |_,[],acc=>acc
 |n+1,h::r,acc=>if acc.contains h then reach H n r acc else
   reach H n (r++(match H[h]? with |some (.box cs)=>bI cs |_=>[])) (acc++[h])
def NC (H:List (Ob K)):List Nat->Bool
 | []=>true
 |h::m=>decide (h<H.length)&&(!m.contains h&&NC H m)
def oL : List (Ob K)->List Nat->List (Ob K)->List (Ob K)
 |H,h::m,o::r=>oL (H.set h o) m r
 |H,_,_=>H
def afK (D:jl K):Ob K->Bool
 | .arr c _=> !bZ (D.cells c (K.zero c))
 | .tree ..=>true
 |_=>false
def Ip (cx:Cx K) (m:Mode) (H:List (Ob K)) (f:FuncId) (args:List (AV K)):Option (AV K×List (Ob K)×Bool×List Nat):=
 match m with
 | .plain=>if iF (FD cx.D H args) then match cx.call f (FD cx.D H args) [] with
     |some (r,[],c)=>if r.closed&&(!jY r|| !NF args) then some (r,H,c,[]) else none
     |_=>none else none
 | .FC=>if iF (FD cx.D H args)&& !NF args then match cx.call f (FD cx.D H args) [] with
     |some (r,Hn,c)=>match back ((List.range Hn.length).map (H.length+·)) r,Io (ND ((List.range Hn.length).map (H.length+·))) Hn with
      |some r',some Hn'=>some (r',H++Hn',c,[])
      |_,_=>none
     |none=>none else none
 | .fresh=>if iF (FD cx.D H args) then match cx.call f (FD cx.D H args) [] with
     |some (r,Hn,c)=>if !jY r&&Hn.all (afK cx.D) then match back ((List.range Hn.length).map (H.length+·)) r,Io (ND ((List.range Hn.length).map (H.length+·))) Hn with
      |some r',some Hn'=>some (r',H++Hn',c,[])
      |_,_=>none else none
     |none=>none else none
 | .uz | .aeG=>none
 | .pass=>if !NC H (reach H 64 (bI args) []) then none else match ajh (reach H 64 (bI args) []) args,Io (adu (reach H 64 (bI args) [])) ((reach H 64 (bI args) []).map fun h=>H.getD h .dead) with
     |some args',some Hi=>match cx.call f args' Hi with
      |some (r,Ho,c)=>
       match back (reach H 64 (bI args) []++(List.range (Ho.length-Hi.length)).map (H.length+·)) r,Io (ND (reach H 64 (bI args) []++(List.range (Ho.length-Hi.length)).map (H.length+·))) Ho with
       |some r',some WX=>if Hi.length<=Ho.length then some (r',oL H (reach H 64 (bI args) []) (WX.take Hi.length)++WX.drop Hi.length,c,reach H 64 (bI args) []) else none
       |_,_=>none
      |none=>none
     |_,_=>none
def Yt (cx:Cx K) (m:Mode) (H:List (Ob K)) (f:FuncId) (args:List (AV K)):Option (AV K×List (Ob K)×Bool×List Nat):=
 Ip cx m (rJ H (bI args)) f (GG (rJ H (bI args)) args)
def VJ (q:Bool) (cx:Cx K) (H:List (Ob K)) (f:FuncId) (args:List (AV K)):Option (AV K×List (Ob K)×Bool×List Nat):=
 match cx.mode f with
 | .plain=>Ip cx .plain H f args
 | .uz=>match Ip cx .plain H f args with
   |some r=>some r
   |none=>if q then none else Yt cx .plain H f args
 | .FC=>if q then none else Yt cx .FC H f args
 | .pass=>if q then none else Ip cx .pass H f args
 | .aeG=>if q then none else Yt cx .pass H f args
 | .fresh=>if q then none else match Ip cx .FC H f args with
   |some r=>some r
   |none=>match Ip cx .fresh H f args with
    |some r=>some r
    |none=>Yt cx .FC H f args
def yg : List Nat->Bool
 | []=>true
 |x::r=> !r.contains x&&yg r
def adx (D:jl K) (H:List (Ob K)):AV K->Option (AV K)
 | .sl h=>match H[h]? with
   |some (.arr c l)=>if bZ (D.cells c (K.zero c)) then none else some (.cO c l)
   |some (.tree c l)=>some (.cO c l)
   |_=>none
 | .eY=>some .eY
 | .int k n=>some (.int k n)
 | .bool b=>some (.bool b)
 | .str s=>some (.str s)
 | .oG=>some .oG
 |_=>none
def zH (D:jl K) (H:List (Ob K)):List (AV K)->Option (List (AV K))
 | []=>some []
 |v::r=>match adx D H v,zH D H r with
  |some x,some l=>some (x::l)
  |_,_=>none
def Ky (D:jl K) (H:List (Ob K)):List (AV K)->Option (List (AV K))
 | []=>some []
 |v::r=>match zH D H v.bf,Ky D H r with
  |some cs,some l=>some (.agg cs::l)
  |_,_=>none
def fO (H:List (Ob K)):List Nat->List (Ob K)
 | []=>H
 |h::r=>fO (H.set h .dead) r
def Gy (H:List (Ob K)) (c:K.U):AV K->Option (List (K.El c)×List Nat)
 | .eY=>some ([],[])
 | .sl h=>match H[h]? with
   |some (.tree c' l)=>match K.deq c' c with
    | .isTrue e=>some (e ▸ l,[h])
    | .isFalse _=>none
   |_=>none
 |_=>none
def abe (cx:Cx K) (ev:Operand->AV K) (H:List (Ob K)):Op->Option (AV K×List (Ob K)×Bool×List Nat)
 | .makeSlice t len cap=>match elemOf? cx.P t with
   |none=>none
   |some e=>match tyE cx e,(zeroOf cx.P e:Option (AV K)),ev len,ev cap with
    |some c,some z, .int _ n, .int _ m=>if cx.deep c=true /\ nU cx.P e=some (K.sz c) /\ room e cx.P=true /\ z.known=true then
      match zH cx.D [] z.bf with
      |some zs=>match cx.D.dec c zs with
       |some (y,b)=>some (.sl H.length,H++[.tree c (List.replicate n.toNat y)],b&&(decide (0<=n)&&(decide (n<=m)&&decide (m<=1073741824))),[])
       |none=>none
      |none=>none
     else none
    |_,_,_,_=>none
 | .buildSlice t len parts=>match elemOf? cx.P t with
   |none=>none
   |some e=>match tyE cx e,inOrder ev 0 parts.toList with
    |some c,some l=>if cx.deep c=true /\ nU cx.P e=some (K.sz c) /\ wY cx.P e=true /\ l.length=len /\ len<=4096 /\ K.sz c<=4096 /\ l.all (fun v=>v.known&&decide (v.bf.length=K.sz c))=true /\ yg (bI l)=true then
      match Ky cx.D H l with
      |some l'=>match Eb cx.D c l' with
       |some (y,b)=>some (.sl H.length,fO H (bI l)++[.tree c y],b,bI l)
       |none=>none
      |none=>none
     else none
    |_,_=>none
 | .store t p x=>match ev p,nU cx.P t with
   | .ep h st i off,some n=>match H[h]? with
     |some (.tree c l)=>if st=K.sz c /\ off+n<=K.sz c /\ (ev x).bf.length=n /\ (ev x).bf.all AV.one=true /\ yg (h::bI (ev x).bf)=true then
       match zH cx.D H (ev x).bf with
       |some xs=>match cx.D.dec c (setCells (cx.D.cells c (l.getD i (K.zero c))) off xs) with
        |some (y,b)=>some (.any,(fO H (h::bI (ev x).bf)).set h (.tree c (l.set i y)),b,h::bI (ev x).bf)
        |none=>none
       |none=>none
      else none
     |_=>none
   |_,_=>none
 | .call {callee:= .builtin .append,args,argTypes}=>match args.toList,argTypes.toList with
   | [s,x],[sT,xT]=>if (KA cx.P xT).isSome||(cx.P.underlying xT).isNone then none else match elemOf? cx.P sT with
     |none=>none
     |some e=>match tyE cx e with
      |none=>none
      |some c=>if cx.deep c=true /\ nU cx.P e=some (K.sz c) /\ room e cx.P=true /\ wY cx.P e=true then
        match Gy H c (ev s),Gy H c (ev x) with
        |some (l,hs),some (m,hs')=>if yg (hs++hs') then some (.sl H.length,fO H (hs++hs')++[.tree c (l++m)],decide (l.length+m.length<=1073741824),hs++hs') else none
        |_,_=>none
       else none
   |_,_=>none
 |_=>none
def JL (D:jl K) (dp:K.U->Bool):Nat->List (AV K)->Option (List (AV K)×List (Ob K))
 |_,[]=>some ([],[])
 |n, .cO c l::r=>if dp c|| !bZ (D.cells c (K.zero c)) then match JL D dp (n+1) r with
    |some (cs,os)=>some (.sl n::cs,cond (dp c) (.tree c l) (.arr c l)::os)
    |none=>none
  else none
 |n,v::r=>match JL D dp n r with
    |some (cs,os)=>some (v::cs,os)
    |none=>none
def adA (cx:Cx K) (ev:Operand->AV K) (H:List (Ob K)):Op->Option (AV K×List (Ob K)×Bool×List Nat)
 | .load t p=>if cx.opn then match ev p,adB cx.P t,nU cx.P t with
     | .ep h st i off,some ag,some n=>match H[h]? with
       |some (.tree c l)=>if st=K.sz c /\ off+n<=K.sz c /\ 0<n then match JL cx.D cx.deep H.length (((cx.D.cells c (l.getD i (K.zero c))).drop off).take n) with
         |some (cs,os)=>some (cond ag (.agg cs) (cs.getD 0 .any),H.set h (.opn c l i off cs)++os,true,[h])
         |none=>none
        else none
       |_=>none
     |_,_,_=>none
   else none
 |_=>none
def afR : List (Ob K)->Option Nat
 | []=>none
 | .opn ..::_=>some 0
 |_::r=>(afR r).map (· +1)
def shut (D:jl K) (H:List (Ob K)):Option (List (Ob K)×Bool×List Nat):=
 match afR H with
 |none=>some (H,true,[])
 |some h=>match H[h]? with
  |some (.opn c l i off cs)=>if yg (h::bI cs)=true then match zH D H cs with
    |some xs=>match D.dec c (setCells (D.cells c (l.getD i (K.zero c))) off xs) with
     |some (y,b)=>some ((fO H (h::bI cs)).set h (.tree c (l.set i y)),b,h::bI cs)
     |none=>none
    |none=>none
   else none
  |_=>none
def Yv (q:Bool) (cx:Cx K) (H:List (Ob K)) (f:FuncId) (args:List (AV K)):Option (AV K×List (Ob K)×Bool×List Nat):=
 if cx.opn&& !q then match VJ q cx H f args with
  |some (r,H1,c,t)=>match shut cx.D H1 with
   |some (H2,b,t2)=>some (r,H2,c&&b,t++t2)
   |none=>none
  |none=>none
 else VJ q cx H f args
def guardOf (ops:List Oper) (o:Oper):Option (Option (Nat×Bool)):=
 match o.guard with
 |none=>some none
 |some (j,w)=>match ops[j]? with
  |some g=>match g.dst with
   |some t=>some (some (t,w))
   |none=>none
  |none=>none
def acu (st:St K) (wr:List Nat) (dst:Option Nat) (v:AV K) (H:List (Ob K)) (ok:Bool):Option (St K×List Nat):=
 match dst with
 |none=>some (⟨st.tm,H,ok⟩,wr)
 |some d=>if wr.contains d||decide (st.tm.length<=d) then none else some (⟨st.tm.set d v,H,ok⟩,d::wr)
def afM (cx:Cx K) (ev:Operand->AV K) (H:List (Ob K)) (op:Op):Option (AV K×List (Ob K)×Bool×List Nat):=
 match abe cx (fun x=>oZ H (ev x)) H op with
 |some r=>some r
 |none=>match Iq ev op with
 | []=>aep cx (fun x=>oZ H (ev x)) H op
 |hs=>match adE cx (fun x=>oZ (rJ H hs) (ev x)) (rJ H hs) op with
  |some (v,c)=>some (v,rJ H hs,c,[])
  |none=>aep cx (fun x=>oZ (rJ H hs) (ev x)) (rJ H hs) op
def VY : Operand->Bool
 | .const (.slice none 0 0)=>true
 |_=>false
def jQ (cx:Cx K):Op->Bool
 | .assign x=> !VY x
 | .slice t ..=>afP cx.P t
 | .load ..=> !cx.opn
 | .makeFunc .. | .move _ | .pick .. | .binOp .. | .unOp .. | .extract .. | .fieldAddr .. | .indexAddr .. | .index .. | .nilCheck _=>true
 | .convert _ dst _=>(elemOf? cx.P dst).isNone
 | .call {callee:= .builtin .len, ..} | .call {callee:= .builtin .min, ..} | .call {callee:= .builtin .max, ..}=>true
 | .call {callee:= .value (.func f), ..}=>cx.mode f== .plain&& !cx.opn
 |_=>false
def cutV (cx:Cx K) (ev:Operand->AV K) (H:List (Ob K)):Op->Option (AV K×List (Ob K)×Bool×List Nat)
 | .slice t x none (some y) none=>if cx.cut then match ev x,ev y,elemOf? cx.P t with
   | .sl h, .int _ n,some e=>match H[h]? with
     |some (.arr c l)=>if nU cx.P e=some (K.sz c) then some (.sl H.length,H.set h .dead++[.arr c (l.take n.toNat)],CO 0 n l.length,[h]) else none
     |some (.tree c l)=>if nU cx.P e=some (K.sz c) then some (.sl H.length,H.set h .dead++[.tree c (l.take n.toNat)],CO 0 n l.length,[h]) else none
     |_=>none
   |_,_,_=>none else none
 | .slice t x (some y) none none=>if cx.cut then match ev x,ev y,elemOf? cx.P t with
   | .sl h, .int _ n,some e=>match H[h]? with
     |some (.arr c l)=>if nU cx.P e=some (K.sz c) /\ cx.D.elT c=none then some (.sl H.length,H.set h .dead++[.arr c (l.drop n.toNat)],CO n l.length l.length,[h]) else none
     |some (.tree c l)=>if nU cx.P e=some (K.sz c) /\ cx.D.elT c=none then some (.sl H.length,H.set h .dead++[.tree c (l.drop n.toNat)],CO n l.length l.length,[h]) else none
     |_=>none
   |_,_,_=>none else none
 |_=>none
def afS (cx:Cx K) (ev:Operand->AV K) (H:List (Ob K)):Op->Option (AV K×List (Ob K)×Bool×List Nat)
 | .buildSlice t len parts=>match elemOf? cx.P t with
   |none=>none
   |some e=>match cx.ty e,inOrder ev 0 parts.toList with
    |some c,some l=>if nU cx.P e=some (K.sz c) /\ wY cx.P e=true /\ l.length=len /\ len<=4096 /\ K.sz c<=4096 /\ l.all (fun v=>iF v.bf&&(v.known&&decide (v.bf.length=K.sz c)))=true then
      match Eb cx.D c l with
      |some (y,b)=>some (.cO c y,H,b,[])
      |none=>none
     else none
    |_,_=>none
 |_=>none
def Cj (q:Bool) (cx:Cx K) (tm:List (AV K)) (gs:List (Nat×Bool)) (H:List (Ob K)) (T:TypeId):Op->Option (AV K×List (Ob K)×Bool×List Nat)
 | .pick c x y=>match c,MF tm gs c with
   | .tmp t, .bool b=>match known cx t with
     |some b0=>some (cond b0 (MF tm gs x) (MF tm gs y),H,b==b0,[])
     |none=>some (merge b (MF tm ((t,true)::gs) x) (MF tm ((t,false)::gs) y),H,true,[])
   | .const _, .bool b=>some (merge b (MF tm gs x) (MF tm gs y),H,true,[])
   |_,_=>none
 | .call {callee:= .value f,args, ..}=>match MF tm gs f with
   | .fn g caps=>Yv q cx H g (args.toList.map (fun x=>oZ H (MF tm gs x))++caps)
   |_=>none
 | .assign x=>if !q&&VY x then match elemOf? cx.P T with
     |some e=>match cx.ty e with
      |some c=>some (.sl H.length,H++[cond (cx.deep c) (.tree c []) (.arr c [])],true,[])
      |none=>some (MF tm gs x,H,true,[])
     |none=>some (MF tm gs x,H,true,[])
   else some (oZ H (MF tm gs x),H,true,[])
 |op=>match adE cx (fun x=>oZ H (MF tm gs x)) H op with
  |some (v,c)=>some (v,H,c,[])
  |none=>if q then afS cx (fun x=>oZ H (MF tm gs x)) H op else if jQ cx op then none else match adA cx (MF tm gs) H op with
   |some r=>some r
   |none=>match cutV cx (MF tm gs) H op with
   |some r=>some r
   |none=>afM cx (MF tm gs) H op
def yK (cx:Cx K):Op->Bool
 | .assign _=>true
 | .slice t ..=> !cx.cut||afP cx.P t
 | .call {callee:= .value (.func f), ..}=>cx.mode f== .plain||cx.mode f== .uz
 |op=>jQ cx op
def agY (cx:Cx K):Op->Bool
 | .buildSlice ..=>true
 |op=>yK cx op
def vI (q:Bool) (cx:Cx K) (ops:List Oper) (tm:List (AV K)) (H:List (Ob K)) (wr:List Nat) (o:Oper):Option (AV K×List (Ob K)×Bool):=
 match guardOf ops o with
 |none=>none
 |some none=>match Cj q cx tm [] H o.type o.op with
  |some (v,H',c,_)=>if v.xy then none else some (v,H',c)
  |none=>none
 |some (some (g,w))=>match known cx g with
  |some b0=>match tm[g]? with
   |some (.bool b)=>if b0=w then match Cj q cx tm [] H o.type o.op with
     |some (v,H',c,_)=>if v.xy then none else some (v,H',c&&(b==b0))
     |none=>none
    else some (.any,H,b==b0)
   |_=>none
  |none=>match aem tm 6 (g,w) with
   |none=>none
   |some b=>if agY cx o.op&&wr.contains g then match Cj true cx tm [(g,w)] H o.type o.op with
     |some (v,_,c,_)=>some (.opt g w v,H,c|| !b)
     |none=>none else none
def Yx (cx:Cx K) (ops:List Oper) (st:St K) (wr:List Nat) (o:Oper):Option (St K×List Nat):=
 match vI false cx ops st.tm st.H wr o with
 |some (v,H',c)=>acu st wr o.dst v H' (c&&st.ok)
 |none=>none
def wZ (cx:Cx K) (ops:List Oper):List Oper->St K->List Nat->Option (St K×List Nat)
 | [],st,wr=>some (st,wr)
 |o::r,st,wr=>match Yx cx ops st wr o with
  |some (st',wr')=>wZ cx ops r st' wr'
  |none=>none
def mD (tm:List (AV K)):List Nat->List (AV K)
 | []=>tm
 |d::r=>match tm[d]? with
  |some (.opt ..)=>mD (tm.set d .any) r
  |_=>mD tm r
def jL : List Oper->List Nat->List Nat
 | [],acc=>acc
 |o::r,acc=>jL r (acc++[o.after.toList.foldl (fun s e=>s|||2^e.on|||acc.getD e.on 0) 0])
def iC (bits:Nat):List Oper->Nat->List (AV K)->List (AV K)
 | [],_,tm=>tm
 |o::r,i,tm=>iC bits r (i+1) (match o.dst with
  |some d=>if bits.testBit i then tm else tm.set d .any
  |none=>tm)
def VZ (i:Nat):Nat->List Nat->Nat
 |_,[]=>0
 |k,b::r=>(cond (b.testBit i) (2^k) 0)|||VZ i (k+1) r
def xe (bs:List Nat) (i:Nat):Nat:=bs.getD i 0|||VZ i 0 bs
def tZ (cx:Cx K) (ops:List Oper) (bs:List Nat):List Oper->Nat->St K->List Nat->Option (St K×List Nat)
 | [],_,st,wr=>some (st,wr)
 |o::r,i,st,wr=>match vI true cx ops (iC (xe bs i) ops 0 st.tm) st.H wr o with
  |some (v,_,c)=>match acu st wr o.dst v st.H (c&&st.ok) with
   |some (st',wr')=>tZ cx ops bs r (i+1) st' wr'
   |none=>none
  |none=>none
def oM : List Oper->Nat->Bool
 | [],_=>true
 |o::r,i=>(o.after.toList.all fun e=>decide (e.on<i)&&Region.binds .any e)&&oM r (i+1)
def zQ (bits:Nat):Nat->List (Ob K)->List (Ob K)
 |_,[]=>[]
 |i,o::r=>(if bits.testBit i then .dead else o)::zQ bits (i+1) r
def NJ (bits:Nat):Nat->List (Ob K)->List (Ob K)->List (Ob K)
 |i,o::r,o'::r'=>(if bits.testBit i then o else o')::NJ bits (i+1) r r'
 |_,[],r'=>r'
 |_,_::_,[]=>[]
mutual
def AV.upto (n:Nat):AV K->Bool
 | .ptr h _ | .sl h | .ep h _ _ _ | .np h | .vw h _ _ _=>decide (h<n)
 | .fn _ l | .agg l | .mJ l=>MG n l
 | .opt _ _ v=>v.upto n
 |_=>true
def MG (n:Nat):List (AV K)->Bool
 | []=>true
 |v::r=>v.upto n&&MG n r
end
def Ob.upto (n:Nat):Ob K->Bool
 | .box cs=>MG n cs
 | .opn _ _ _ _ cs=>MG n cs
 |_=>true
def ql (ev:Operand->AV K) (op:Op):List Nat:=
 Iq ev op++(match op with
  | .store _ p _=>hands (ev p)
  | .call {callee:= .builtin .append,args, ..}=>(match args.toList with
    |s::x::_=>hands (ev s)++hands (ev x)
    | [s]=>hands (ev s)
    | []=>[])
  |_=>[])
def Sr (cx:Cx K):Op->Bool
 | .box .. | .alloc _ | .build .. | .store .. | .makeSlice .. | .buildSlice .. | .convert .. | .slice ..=>true
 | .call {callee:= .builtin .append, ..}=>true
 | .call {callee:= .value (.func f), ..}=>cx.mode f== .fresh&& !cx.opn
 |_=>false
def abk (ev:Operand->AV K):Op->List Nat
 | .call {callee:= .value _,args, ..}=>bI (args.toList.map ev)
 |_=>[]
def bitsOf : List Nat->Nat
 | []=>0
 |h::r=>2^h|||bitsOf r
def Yy (cx:Cx K) (ops:List Oper) (tm:List (AV K)) (H:List (Ob K)) (wr:List Nat) (o:Oper):Option (AV K×List (Ob K)×Bool):=
 if yK cx o.op then vI true cx ops tm H wr o else if Sr cx o.op then vI false cx ops tm H wr o else none
def QM (cx:Cx K) (tm:List (AV K)) (op:Op):List Nat:=if yK cx op then [] else ql (MF tm []) op++abk (MF tm []) op
def QN (A:Nat):Nat->List Nat->Nat
 |_,[]=>0
 |k,b::r=>(if A.testBit k then 0 else b)|||QN A (k+1) r
def KC (A:Nat) (T:List Nat):Nat->List (Nat×Nat)->Bool
 |_,[]=>true
 |i,(m,n)::r=>(A.testBit i||T.all fun h=>decide (n<=h)||m.testBit h)&&KC A T (i+1) r
def ah4 : Op->Option (List Operand)
 | .slice _ x _ _ _=>some [x]
 | .move _=>some []
 | .load _ p=>some [p]
 | .fieldAddr ..=>some []
 | .indexAddr _ x _=>some [x]
 | .nilCheck _=>some []
 | .binOp ..=>some []
 | .unOp ..=>some []
 |_=>none
def ahj (tm:List (AV K)) (n:Nat) (op:Op):Nat:=
 match ah4 op with
 |none=>0
 |some l=>bitsOf ((List.range n).filter fun h=> !(bI (l.map (MF tm []))).contains h)
def Yz (bs ws:List Nat) (i:Nat) (tm:List (AV K)) (n:Nat) (op:Op):Nat:=QN (bs.getD i 0) 0 ws|||ahj tm n op
def Ai (cx:Cx K) (ops:List Oper) (bs:List Nat):List Oper->Nat->St K->List Nat->List (Nat×Nat)->List Nat->Option (St K×List Nat)
 | [],_,st,wr,_,_=>some (st,wr)
 |o::r,i,st,wr,ms,ws=>
  if MG st.H.length (iC (xe bs i) ops 0 st.tm)&&(zQ (Yz bs ws i (iC (xe bs i) ops 0 st.tm) st.H.length o.op) 0 st.H).all (Ob.upto st.H.length) then
   match Yy cx ops (iC (xe bs i) ops 0 st.tm) (zQ (Yz bs ws i (iC (xe bs i) ops 0 st.tm) st.H.length o.op) 0 st.H) wr o with
   |none=>none
   |some (v,H',c)=>
    if (KC (bs.getD i 0) (QM cx (iC (xe bs i) ops 0 st.tm) o.op) 0 ms&&(QM cx (iC (xe bs i) ops 0 st.tm) o.op).all fun h=> !(Yz bs ws i (iC (xe bs i) ops 0 st.tm) st.H.length o.op).testBit h&&decide (h<st.H.length))&&decide (st.H.length<=H'.length) then
     match acu st wr o.dst v (NJ (Yz bs ws i (iC (xe bs i) ops 0 st.tm) st.H.length o.op) 0 st.H H') (c&&st.ok) with
     |some (st',wr')=>Ai cx ops bs r (i+1) st' wr' (ms++[(Yz bs ws i (iC (xe bs i) ops 0 st.tm) st.H.length o.op,st.H.length)])
       (ws++[bitsOf (QM cx (iC (xe bs i) ops 0 st.tm) o.op++List.range' st.H.length (H'.length-st.H.length))])
     |none=>none
    else none
  else none
def tK (cx:Cx K) (ops:List Oper) (st:St K):Option (St K):=
 if (ops.all fun o=>yK cx o.op)&&oM ops 0 then match tZ cx ops (jL ops []) ops 0 st [] with
     |some (st',wr)=>some ⟨mD st'.tm wr,st'.H,st'.ok⟩
     |none=>none
  else if oM ops 0 then match Ai cx ops (jL ops []) ops 0 st [] [] [] with
   |some (st',wr)=>some ⟨mD st'.tm wr,st'.H,st'.ok⟩
   |none=>none
  else none
def abl (π:List Nat) (n:Nat):Bool:=decide (π.length=n)&&(π.all (fun i=>decide (i<n))&&((List.range n).all (fun i=>π.contains i)&&yg π))
def acv (π:List Nat) (n:Nat) (o:Oper):Oper:=
 {o with after:=(o.after.filter (Region.binds .any)).map (fun e=>{e with on:=(π.idxOf? e.on).getD n}),guard:=o.guard.map fun g=>((π.idxOf? g.1).getD n,g.2)}
def permuted (π:List Nat) (ops:List Oper):List Oper:=π.map fun i=>match ops[i]? with
 |some o=>acv π ops.length o
 |none=>{dst:=none,op:= .move (.const .nilIface),type:=0,pos:= "",after:= #[],guard:=none}
def ajj (cx:Cx K) (ops:List Oper) (bs:List Nat):List Nat:=
 match (List.range ops.length).foldl (fun acc i=>match ops[i]? with
  |some o=>if Sr cx o.op&&(!yK cx o.op&& !acc.contains i) then acc++((List.range ops.length).filter fun j=>(bs.getD i 0).testBit j&& !acc.contains j)++[i] else acc
  |none=>acc) [] with
 |acc=>acc++(List.range ops.length).filter fun j=> !acc.contains j
def Pv (cx:Cx K) (ops:List Oper) (π:List Nat) (st:St K):Option (St K):=
 if abl π ops.length then tK cx (permuted π ops) st else none
def acw (cx:Cx K) (ops:List Oper) (st:St K):Option (St K):=
 if oM ops 0 then match tK cx ops st with
  |some r=>some r
  |none=>Pv cx ops (ajj cx ops (jL ops [])) st
 else match Pv cx ops (List.range ops.length) st with
  |some r=>some r
  |none=>Pv cx ops (ajj cx ops (jL (permuted (List.range ops.length) ops) [])) st
def qI (cx:Cx K) (ops:List Oper) (draw:Bool) (st:St K):Option (St K):=
 if draw then acw cx ops st
 else match wZ cx ops ops st [] with
  |some (st',wr)=>some ⟨mD st'.tm wr,st'.H,st'.ok⟩
  |none=>none
def writes : Code->List Nat
 | .region _ ops _=>ops.toList.filterMap (·.dst)
 | .seq a b=>writes a++writes b
 | .cond _ a b=>writes a++writes b
 | .block _ c=>writes c
 | .loop c=>writes c
 | .scope c=>writes c
 | .rangeFunc _ ps a c=>ps.toList++writes a++writes c
 |_=>[]
def simple (cx:Cx K):Code->Bool
 | .skip=>true
 | .region _ ops _=>ops.toList.all fun o=>jQ cx o.op
 | .seq a b=>simple cx a&&simple cx b
 | .cond _ a b=>simple cx a&&simple cx b
 |_=>false
def mF (b:Bool) (wr:List Nat):Nat->List (AV K)->List (AV K)->List (AV K)->List (AV K)
 |n,v::r,x::s,y::t=>(if wr.contains n then merge b x y else v)::mF b wr (n+1) r s t
 |_,_,_,_=>[]
def dW (tm:List (AV K)):List Nat->List (AV K)->List (AV K)
 |d::r,v::s=>dW (tm.set d v) r s
 |_,_=>tm
def keyOf : Code->Nat
 | .region id _ _=>id
 | .seq a _=>keyOf a
 | .cond _ a _=>keyOf a
 | .block _ c=>keyOf c
 | .loop c=>keyOf c
 |_=>0
def inLoop (H:List (Ob K)) (vals:List (AV K)):Option (List Nat×List (AV K)×List (Ob K)):=
 if NC H (reach H 64 (bI vals) []) then match ajh (reach H 64 (bI vals) []) vals,Io (adu (reach H 64 (bI vals) [])) ((reach H 64 (bI vals) []).map fun h=>H.getD h .dead) with
  |some Cm,some Hi=>some (reach H 64 (bI vals) [],Cm,Hi)
  |_,_=>none
 else none
def jm (m:List Nat) (n k:Nat):List Nat:=m++(List.range (k-m.length)).map (n+·)
def Ur (L:fJ K) (m:List Nat) (st:St K) (vs:List (AV K)) (Ho:List (Ob K)):Option (St K):=
 match aji (jm m st.H.length Ho.length) vs,Io (ND (jm m st.H.length Ho.length)) Ho with
 |some vs',some WX=>if m.length<=Ho.length then some ⟨dW (List.replicate L.n .any) L.outs vs',oL st.H m (WX.take m.length)++WX.drop m.length,st.ok⟩ else none
 |_,_=>none
def agZ (ops:List Oper):List Nat:=(ops.filterMap fun o=>match guardOf ops o with
 |some (some (g,_))=>some g
 |_=>none).eraseDups
def JO (cx:Cx K) (ops:List Oper) (draw:Bool) (st:St K):List Nat->Option (Bool×St K×St K)
 | []=>none
 |t::r=>match qI {cx with gs:=some (t,true)} ops draw st,qI {cx with gs:=some (t,false)} ops draw st with
  |some s1,some s2=>match s1.tm.getD t .any with
   | .bool b=>some (b,s1,s2)
   |_=>JO cx ops draw st r
  |_,_=>JO cx ops draw st r
def yh : Ex->St K->Option (St K)
 | .normal,st=>some st
 |_,_=>none
def pK (cx:Cx K):Code->{R:Type}->St K->(Ex->St K->Option R)->Option R
 | .skip,_,st,k=>k .normal st
 | .region _ ops draw,_,st,k=>match qI cx ops.toList draw st with
   |some st'=>k .normal st'
   |none=>match JO cx ops.toList draw st (agZ ops.toList) with
    |some (b,s1,s2)=>cond b (k .normal s1) (k .normal s2)
    |none=>none
 | .seq a b,_,st,k=>pK cx a st fun e s=>match e with
   | .normal=>pK cx b s k
   |e=>k e s
 | .cond c a b,_,st,k=>match MF st.tm [] c with
   | .bool t=>if simple cx a&&simple cx b then
       match pK cx a st yh,pK cx b st yh with
       |some sa,some sb=>k .normal ⟨mF t (writes a++writes b) 0 st.tm sa.tm sb.tm,st.H,(sa.ok|| !t)&&(sb.ok||t)⟩
       |_,_=>none
     else cond t (pK cx a st k) (pK cx b st k)
   |_=>none
 | .block id c,_,st,k=>pK cx c st fun e s=>match e with
   | .exit i=>if i=id then k .normal s else k (.exit i) s
   |e=>k e s
 | .loop c,_,st,k=>match cx.loop (keyOf c) with
   |some L=>if st.tm.length=L.n then match inLoop st.H (L.ins.map fun t=>st.tm.getD t .any) with
     |some (m,vals,Hi)=>L.run vals Hi fun e vs Ho=>match Ur L m st vs Ho with
      |some st'=>k e st'
      |none=>none
     |none=>none else none
   |none=>none
 | .exit id,_,st,k=>k (.exit id) st
 | .ret,_,st,k=>k .ret st
 |_,_,_,_=>none
def DL (cx:Cx K) (st:St K):List ResultVar->Option (List (AV K))
 | []=>some []
 | .tmp t::r=>match DL cx st r with
   |some l=>some (st.tm.getD t .any::l)
   |none=>none
 | .cell a t::r=>match adD cx.P cx.D st.H t (st.tm.getD a .any),DL cx st r with
   |some v,some l=>some (v::l)
   |_,_=>none
def resV (cx:Cx K) (fn:Func) (st:St K):Option (AV K):=
 match DL cx st fn.results.toList with
 |some [v]=>some (oZ st.H v)
 |some l=>some (.mJ (GG st.H l))
 |none=>none
def acx {α β:Type} (f:α->Option β):List α->Option (List β)
 | []=>some []
 |x::r=>match f x,acx f r with
  |some y,some l=>some (y::l)
  |_,_=>none
def abm (src:List (Option Nat)) (h:Nat):Option Nat:=src.idxOf? (some h)
def Su (n0 n:Nat):Nat->List (Option Nat)->Bool
 |_,[]=>true
 |i,none::r=>decide (i<n0)&&Su n0 n (i+1) r
 |i,some h::r=>decide (h<n)&&((decide (n0<=i)||decide (h=i))&&(!r.contains (some h)&&Su n0 n (i+1) r))
def V3 (src:List (Option Nat)) (H:List (Ob K)):Option Nat->Option (Ob K)
 |none=>some .dead
 |some h=>match H[h]? with
  |some o=>Nw (abm src) o
  |none=>none
def ZH (n0:Nat) (src:List (Option Nat)) (keep:List Nat) (st:St K):Option (St K):=
 if Su n0 st.H.length 0 src&&decide (n0<=src.length) then
  match IA (abm src) (keep.map fun t=>st.tm.getD t .any),acx (V3 src st.H) src with
  |some vs,some H=>some ⟨dW (List.replicate st.tm.length .any) keep vs,H,st.ok⟩
  |_,_=>none
 else none
def NK (n0:Nat) (keep:List Nat) (st:St K):Option (St K):=
 ZH n0 ((reach st.H 64 (List.range n0++bI (keep.map fun t=>st.tm.getD t .any)) []).map some) keep st
def ZI (cx:Cx K) (n0:Nat) (keep outs:List Nat) (body:Code) (st:St K):Option (St K⊕Ex×St K):=
 pK cx body st fun e s=>cond s.ok (match e with
  | .normal=>match NK n0 keep s with
    |some s'=>some (.inl s')
    |none=>none
  |e=>match NK n0 outs s with
   |some s'=>some (.inr (e,s'))
   |none=>none) none
def adF (n0:Nat) (src:List (Option Nat)) (v:AV K) (H:List (Ob K)):Option (AV K×List (Ob K)):=
 if Su n0 H.length 0 src&&decide (n0<=src.length) then
  match O9 (abm src) v,acx (V3 src H) src with
  |some v',some H'=>some (v',H')
  |_,_=>none
 else none
def pack (n0:Nat) (v:AV K) (H:List (Ob K)):Option (AV K×List (Ob K)):=
 adF n0 ((reach H 64 (List.range n0++hands v) []).map some) v H
def acy (H:List (Ob K)) (h:Nat):Bool:=match H[h]? with
 |some (.arr ..)=>false
 |some (.tree ..)=>false
 |_=>true
def ajX (n0:Nat) (v:AV K) (H:List (Ob K)):List (Option Nat):=
 ((List.range n0).map fun h=>cond (acy H h) (some h) none)++((reach H 64 ((List.range n0).filter (acy H)++hands v) []).filter fun h=> !(decide (h<n0)&&acy H h)).map some
def adG (mv:Bool) (n0:Nat) (v:AV K) (H:List (Ob K)):Option (AV K×List (Ob K)):=
 adF n0 (cond mv (ajX n0 v H) ((reach H 64 (List.range n0++hands v) []).map some)) v H
def ajk (cx:Cx K) (fn:Func) (n0:Nat) (e:Ex) (st:St K):Option (AV K×List (Ob K)):=
 match e with
 | .exit _=>none
 |_=>match resV cx fn st with
  |some v=>cond st.ok (pack n0 v st.H) none
  |none=>none
def ajl (cx:Cx K) (fn:Func) (args:List (AV K)) (H:List (Ob K)):Option (AV K×List (Ob K)):=
 match fn.body with
 |some c=>pK cx c ⟨args++List.replicate (fn.ntmps-args.length) .any,H,true⟩ (ajk cx fn H.length)
 |none=>none
end Go.V
