/-
  A VALUE-LEVEL READING OF THE LOADED CODE: abstract values, objects, operations, and a function 'execC' that runs a body on them. Nothing here speaks of one program: the program is a parameter. The proofs that what it yields is what the machine does are in the texts that follow.
-/
import Derived.WalkKit
import Derived.KernelRfl
import Derived.Orders
namespace Go.V
open Go
structure yu where
 U:Type
 El:U->Type
 deq:DecidableEq U
 sz:U->Nat
 zero:(c:U)->El c
inductive AV (K:yu) where
 |any
 |int (k:IntKind) (n:Int)
 |bool (b:Bool)
 |str (s:List UInt8)
 |nD
 |eu
 |fn (f:Nat) (caps:List (AV K))
 |ptr (h off:Nat)
 |sl (h:Nat)
 |ep (h st i off:Nat)
 |bn (c:K.U) (l:List (K.El c))
 |rp (c:K.U) (x:K.El c) (off:Nat)
 |agg (l:List (AV K))
 |ik (l:List (AV K))
 |opt (g:Nat) (want:Bool) (v:AV K)
 |np (h:Nat)
 |vw (h st lo hi:Nat)
inductive Ob (K:yu) where
 |dead
 |box (cells:List (AV K))
 |arr (c:K.U) (l:List (K.El c))
 |OX (c:K.U) (l:List (K.El c))
 |tree (c:K.U) (l:List (K.El c))
 |opn (c:K.U) (l:List (K.El c)) (i off:Nat) (cs:List (AV K))
structure Base where
 inv:(Nat->Prop)->World->Prop
 mono:∀{S S':Nat->Prop} {w w':World},(∀b,S b->S' b)->(∀b,S b->w'.heap[b]? =w.heap[b]?)->inv S w->inv S' w'
def Base.ahR :Base:=⟨fun _ _=>True,fun _ _ h=>h⟩
structure iU (K:yu) where
 cells:(c:K.U)->K.El c->List (AV K)
 dec:(c:K.U)->List (AV K)->Option (K.El c×Bool)
 byte:(c:K.U)->Option ((K.El c->UInt8)×(UInt8->K.El c))
 find:List (AV K)->Option K.U
 base:Base:=Base.ahR
 Om:Option TypeId:=none
 elT:K.U->Option TypeId:=fun _=>none
variable {K :yu}
def AV.aN :AV K->List (AV K)
 | .agg l=>l
 |v=>[v]
def AV.known :AV K->Bool
 | .any | .opt ..=>false
 |_=>true
def AV.wU :AV K->Bool
 | .opt ..=>true
 |_=>false
def AV.one :AV K->Bool
 | .any | .opt .. | .agg _ | .ik _ | .vw ..=>false
 |_=>true
structure St (K:yu) where
 tm:List (AV K)
 H:List (Ob K)
 ok:Bool
inductive Ex where
 |normal
 |exit (id:Nat)
 |ret
def Ex.Bd :Ex->Exit
 | .normal=> .normal
 | .exit id=> .exit id
 | .ret=> .ret
structure gZ (K:yu) where
 n:Nat
 ins:List Nat
 outs:List Nat
 run:{R:Type}->List (AV K)->List (Ob K)->(Ex->List (AV K)->List (Ob K)->Option R)->Option R
inductive Mode where
 |plain |FC |oU |pass |fF |fresh
 deriving DecidableEq
def orE {R:Type} (a b:Option R):Option R:=match a with
 |none=>b
 |some r=>some r
theorem XA {R:Type} {a b:Option R} {r:R} (h:orE a b=some r):a=some r \/ b=some r:=by
 cases a with
 |none=>exact .inr h
 |some x=>exact .inl h
structure Cx (K:yu) where
 P:Program
 D:iU K
 ty:TypeId->Option K.U
 call:FuncId->List (AV K)->List (Ob K)->Option (AV K×List (Ob K)×Bool)
 mode:FuncId->Mode
 loop:Nat->Option (gZ K)
 sls:TypeId->List (Option K.U)
 cut:Bool:=false
 KY:List (List (Option K.U)):=[]
 ahV:List Bool:=[]
 mv:Bool:=false
 deep:K.U->Bool:=fun _=>false
 opn:Bool:=false
 vws:Bool:=false
 lz:Bool:=false
 alt:Bool->FuncId->List (AV K)->List (Ob K)->Option (AV K×List (Ob K)×Bool):=fun _ _ _ _=>none
 Zt:Bool->FuncId->Mode:=fun _=>mode
 orF:{R:Type}->Option R->Option R->Option R:=fun a b=>orE a b
 gs:Option (Nat×Bool):=none
def known (cx:Cx K) (g:Nat):Option Bool:=match cx.gs with
 |some (t,b)=>if t=g then some b else none
 |none=>none
mutual
def EF : Value->Option (AV K)
 | .bool b=>some (.bool b)
 | .int k n=>some (.int k n)
 | .string s=>some (.str s.data.toList)
 | .pointer none=>some .nD
 | .slice none 0 0=>some .eu
 | .agg cs=>(Vk cs.toList).map .agg
 |_=>none
def Vk : List Value->Option (List (AV K))
 | []=>some []
 |v::r=>match EF v,Vk r with
  |some x,some l=>some (x::l)
  |_,_=>none
end
def covers (tm:List (AV K)):Nat->Nat×Bool->Nat×Bool->Bool
 |0,g,t=>g.1==t.1&&g.2==t.2
 |n+1,g,t=>(g.1==t.1&&g.2==t.2)||(match tm[g.1]? with
  |some (.opt g1 w1 _)=>covers tm n (g1,w1) t
  |_=>false)
def CZ (tm:List (AV K)) (gs:List (Nat×Bool)):Operand->AV K
 | .tmp t=>match tm[t]? with
   |some (.opt g w v)=>if gs.any (fun p=>covers tm 6 p (g,w)) then v else .any
   |some v=>v
   |none=> .any
 | .const v=>(EF v).getD .any
 | .global _=> .any
 | .func f=> .fn f []
def ac4 (tm:List (AV K)):Nat->Nat×Bool->Option Bool
 |0,_=>none
 |n+1,(g,w)=>match tm[g]? with
  |some (.bool b)=>some (b==w)
  |some (.opt g1 w1 (.bool b))=>(ac4 tm n (g1,w1)).map fun e=>e&&(b==w)
  |_=>none
mutual
def merge (b:Bool):AV K->AV K->AV K
 | .int k m, .int k' n=>if k=k' then .int k (cond b m n) else .any
 | .bool m, .bool n=> .bool (cond b m n)
 | .str m, .str n=> .str (cond b m n)
 | .bn c l, .bn c' l'=>match K.deq c c' with
   | .isTrue h=> .bn c' (cond b (h ▸ l) l')
   | .isFalse _=> .any
 | .agg l, .agg l'=>if l.length=l'.length then .agg (merges b l l') else .any
 | .eu, .eu=> .eu
 | .nD, .nD=> .nD
 |_,_=> .any
def merges (b:Bool):List (AV K)->List (AV K)->List (AV K)
 |x::r,y::s=>merge b x y::merges b r s
 |_,_=>[]
end
def qF (op:BinOp) (k:IntKind) (x y:Int):Int:=
 let a:=BitVec.ofInt k.bits x
 let b:=BitVec.ofInt k.bits y
 k.wrap ((match op with
   | .and=>(a&&& b) | .or=>(a|||b) | .xor=>(a^^^b) |_=>(a&&& ~~~b)).toNat)
def Yl (k:IntKind) (x y:Int):Int:=k.wrap (x*2^(min y.toNat k.bits))
def LK (k:IntKind) (x y:Int):Int:=x.fdiv (2^(min y.toNat k.bits))
def acU (a b:List UInt8):Bool:=decide (a.length+b.length<=4611686018427387904)
def ltS (a b:List UInt8):Bool:=Op.bytesLess a b
def agL (op:BinOp) (k:IntKind) (a b:Int):Option (AV K×Bool):=
 match op with
 | .add=>some (.int k (k.wrap (a+b)),true)
 | .sub=>some (.int k (k.wrap (a-b)),true)
 | .mul=>some (.int k (k.wrap (a*b)),true)
 | .quo=>some (.int k (k.wrap (a.tdiv b)),b !=0)
 | .rem=>some (.int k (a.tmod b),b !=0)
 | .and | .or | .xor | .andNot=>some (.int k (qF op k a b),true)
 | .eql=>some (.bool (a==b),true)
 | .neq=>some (.bool (a !=b),true)
 | .lss=>some (.bool (decide (a<b)),true)
 | .leq=>some (.bool (decide (a<=b)),true)
 | .gtr=>some (.bool (decide (b<a)),true)
 | .geq=>some (.bool (decide (b<=a)),true)
 | .shl | .shr=>none
def agM (op:BinOp) (a b:List UInt8):Option (AV K×Bool):=
 match op with
 | .add=>some (.str (a++b),acU a b)
 | .eql=>some (.bool (a==b),true)
 | .neq=>some (.bool (!(a==b)),true)
 | .lss=>some (.bool (ltS a b),true)
 | .leq=>some (.bool (ltS a b||a==b),true)
 | .gtr=>some (.bool (!(ltS a b||a==b)),true)
 | .geq=>some (.bool (!ltS a b),true)
 |_=>none
def aet (P:Program) (t:TypeId):Bool:=P.underlying t matches some .string
def YG (P:Program) (t:TypeId):Bool:=P.underlying t matches some .bool
def unV (op:UnOp):AV K->Option (AV K×Bool)
 | .bool b=>match op with
   | .not=>some (.bool (!b),true)
   |_=>none
 | .int k n=>match op with
   | .neg=>some (.int k (k.wrap (0-n)),true)
   | .xor=>some (.int k (qF .xor k (if k.signed then -1 else k.max) n),true)
   |_=>none
 |_=>none
def mQ (P:Program) (t:TypeId):Option Nat:=(P.info? t).map (·.size)
def ack (P:Program) (t:TypeId):Option Bool:=
 match P.underlying t with
 |some (.struct _) |some (.array _ _)=>some true
 |some _=>some false
 |none=>none
def acm (P:Program) (t:TypeId) (f:Nat):Option Field:=
 match P.underlying t with
 |some (.struct fs)=>fs[f]?
 |_=>none
def elemOf? (P:Program) (t:TypeId):Option TypeId:=
 match P.underlying t with
 |some (.slice e)=>some e
 |_=>none
def zeroOf (P:Program) (t:TypeId):Option (AV K):=
 match P.info? t with
 |some i=>match i.zero with
  |some v=>EF v
  |none=>none
 |none=>none
def Jy (P:Program) (t:TypeId):Option IntKind:=
 match P.underlying t with
 |some (.int k)=>some k
 |_=>none
def EJ (P:Program) (t:TypeId) (cs:List (AV K)) (off:Nat):Option (AV K):=
 match ack P t,mQ P t with
 |some true,some n=>if off+n<=cs.length then some (.agg ((cs.drop off).take n)) else none
 |some false,some _=>cs[off]?
 |_,_=>none
def aad (P:Program) (rec:TypeId->AV K->AV K->Option Bool) (xs ys:List (AV K)):List Field->Option Bool
 | []=>some true
 |f::fs=>if f.name= "_" then none else
  match EJ P f.type xs f.offset,EJ P f.type ys f.offset with
  |some a,some b=>match rec f.type a b,aad P rec xs ys fs with
   |some p,some q=>some (p&&q)
   |_,_=>none
  |_,_=>none
def eqA (P:Program):Nat->TypeId->AV K->AV K->Option Bool
 |0,_,_,_=>none
 |n+1,t, .int k a, .int k' b=>if k=k' then (match P.underlying t with
  |some (.int _)=>some (a==b)
  |_=>none) else none
 |n+1,t, .bool a, .bool b=>(match P.underlying t with
  |some .bool=>some (a==b)
  |_=>none)
 |n+1,t, .str a, .str b=>(match P.underlying t with
  |some .string=>some (a==b)
  |_=>none)
 |n+1,t, .agg xs, .agg ys=>(match P.underlying t with
  |some (.struct fs)=>if P.stoodInHeld t then none else aad P (eqA P n) xs ys fs.toList
  |_=>none)
 |_+1,_,_,_=>none
def agN (P:Program) (op:BinOp) (t:TypeId):AV K->AV K->Option (AV K×Bool)
 | .int k a, .int k' b=>match op with
   | .shl=>some (.int k (Yl k a b),decide (0<=b))
   | .shr=>some (.int k (LK k a b),decide (0<=b))
   |_=>if k=k' then agL op k a b else none
 | .bool a, .bool b=>if YG P t then (match op with
   | .eql=>some (.bool (a==b),true)
   | .neq=>some (.bool (!(a==b)),true)
   |_=>none) else none
 | .str a, .str b=>agM op a b
 | .agg a, .agg b=>match op with
   | .eql=>if P.eqGuardType P.depth t then none else (eqA P 6 t (.agg a) (.agg b)).map fun e=>(.bool e,true)
   | .neq=>if P.eqGuardType P.depth t then none else (eqA P 6 t (.agg a) (.agg b)).map fun e=>(.bool (!e),true)
   |_=>none
 |_,_=>none
def inB (n:Int) (len:Nat):Bool:=decide (0<=n)&&decide (n<len)
def qg (lo hi:Int) (len:Nat):Bool:=decide (0<=lo)&&(decide (lo<=hi)&&decide (hi<=len))
mutual
def AV.closed :AV K->Bool
 | .int .. | .bool _ | .str _ | .nD | .eu | .bn .. | .rp .. | .any=>true
 | .ptr .. | .sl _ | .ep .. | .opt .. | .np _ | .vw ..=>false
 | .fn _ l | .agg l | .ik l=>iQ l
def iQ : List (AV K)->Bool
 | []=>true
 |v::r=>v.closed&&iQ r
end
def U7 (H:List (Ob K)):AV K->AV K
 | .sl h=>match H[h]? with
   |some (.arr c l)=> .bn c l
   |some (.OX c l)=> .bn c l
   |some (.tree c l)=> .bn c l
   |_=> .any
 |v=>v
mutual
def FC (D:iU K) (H:List (Ob K)):AV K->AV K
 | .sl h=>match H[h]? with
   |some (.arr c l)=> .bn c l
   |some (.OX c l)=> .bn c l
   |some (.tree c l)=> .bn c l
   |_=> .any
 | .ptr h off=>match H[h]? with
   |some (.box cs)=>match D.find (cs.map (U7 H)) with
    |some c=>match D.dec c (cs.map (U7 H)) with
     |some (x,true)=> .rp c x off
     |_=> .any
    |none=> .any
   |_=> .any
 | .vw h st lo hi=>match H[h]? with
   |some (.arr c l)=>if st=K.sz c then .bn c ((l.take hi).drop lo) else .any
   |some (.tree c l)=>if st=K.sz c then .bn c ((l.take hi).drop lo) else .any
   |_=> .any
 | .fn g l=> .fn g (EG D H l)
 | .agg l=> .agg (EG D H l)
 | .ik l=> .ik (EG D H l)
 |v=>v
def EG (D:iU K) (H:List (Ob K)):List (AV K)->List (AV K)
 | []=>[]
 |v::r=>FC D H v::EG D H r
end
def elems (H:List (Ob K)) (c:K.U):AV K->Option (List (K.El c))
 | .eu=>some []
 | .bn c' l=>match K.deq c' c with
   | .isTrue h=>some (h ▸ l)
   | .isFalse _=>none
 | .sl h=>match H[h]? with
   |some (.arr c' l)=>match K.deq c' c with
    | .isTrue h=>some (h ▸ l)
    | .isFalse _=>none
   |_=>none
 |_=>none
def setCells (cs:List (AV K)) (off:Nat):List (AV K)->List (AV K)
 | []=>cs
 |v::r=>setCells (cs.set off v) (off+1) r
mutual
def hands : AV K->List Nat
 | .ptr h _ | .sl h | .ep h _ _ _ | .np h | .vw h _ _ _=>[h]
 | .agg l | .ik l | .fn _ l=>aT l
 |_=>[]
def aT : List (AV K)->List Nat
 | []=>[]
 |v::r=>hands v++aT r
end
def aba (H:List (Ob K)) (h:Nat):List (Ob K):=
 match H[h]? with
 |some (.arr c l)=>H.set h (.OX c l)
 |some (.tree c l)=>H.set h (.OX c l)
 |_=>H
def pF (H:List (Ob K)):List Nat->List (Ob K)
 | []=>H
 |h::r=>pF (aba H h) r
mutual
def ji (H:List (Ob K)):AV K->AV K
 | .sl h=>match H[h]? with
   |some (.OX c l)=> .bn c l
   |_=> .sl h
 | .agg l=> .agg (Df H l)
 | .ik l=> .ik (Df H l)
 |v=>v
def Df (H:List (Ob K)):List (AV K)->List (AV K)
 | []=>[]
 |v::r=>ji H v::Df H r
end
def thaw (dp:K.U->Bool) (H:List (Ob K)):List (Option K.U)->List (AV K)->List (AV K)×List (Ob K)
 |some c::cs, .eu::r=>match thaw dp (H++[cond (dp c) (.tree c []) (.arr c [])]) cs r with
  |(l,H')=>(.sl H.length::l,H')
 |_::cs,v::r=>match thaw dp H cs r with
  |(l,H')=>(v::l,H')
 | [],l=>(l,H)
 |_,[]=>([],H)
def mW (dp:K.U->Bool) (H:List (Ob K)):List (List (Option K.U))->List (AV K)->List (AV K)×List (Ob K)
 |cs::css, .agg l::r=>match thaw dp H cs l with
  |(l',H1)=>match mW dp H1 css r with
   |(s,H2)=>(.agg l'::s,H2)
 |cs::css,v::r=>match thaw dp H cs [v] with
  |(l',H1)=>match mW dp H1 css r with
   |(s,H2)=>(l'.headD v::s,H2)
 | [],l=>(l,H)
 |_,[]=>([],H)
def wu : List (AV K)->Bool
 | .np _::_=>true
 |_=>false
def Vl (b:Bool) (h:Nat):List (AV K)->List (AV K)
 | .nD::r=>cond b (.np h) .nD::r
 |l=>l
mutual
def jG : AV K->Bool
 | .bn .. | .rp ..=>true
 | .agg l | .ik l | .fn _ l=>dO l
 |_=>false
def dO : List (AV K)->Bool
 | []=>false
 |v::r=>jG v||dO r
end
def acn (P:Program) (D:iU K) (H:List (Ob K)) (t:TypeId):AV K->Option (AV K)
 | .ptr h off=>match H[h]? with
   |some (.box cs)=>EJ P t cs off
   |_=>none
 | .rp c x off=>EJ P t (D.cells c x) off
 | .ep h st i off=>match H[h]? with
   |some (.arr c l)=>if st=K.sz c then EJ P t (D.cells c (l.getD i (K.zero c))) off else none
   |some (.tree c l)=>if st=K.sz c then (match EJ P t (D.cells c (l.getD i (K.zero c))) off with
     |some v=>if jG v then none else some v
     |none=>none) else none
   |_=>none
 |_=>none
def aeu (P:Program) (H:List (Ob K)) (t:TypeId):AV K->Option (AV K×Bool)
 | .ep h st i off=>match H[h]? with
   |some (.opn c l i' off' cs)=>if st=K.sz c /\ off'<=off then (match EJ P t (List.replicate off' .any++cs) off with
    |some v=>some (v,decide (i=i'))
    |none=>none) else none
   |_=>none
 |_=>none
def L8 (P:Program) (s:TypeId) (f:Nat) (x:AV K):Option (AV K):=
 match acm P s f with
 |some fd=>match mQ P fd.type with
  |some (_+1)=>match x with
   | .ptr h off=>some (.ptr h (off+fd.offset))
   | .rp c x off=>some (.rp c x (off+fd.offset))
   | .ep h st i off=>some (.ep h st i (off+fd.offset))
   |_=>none
  |_=>none
 |none=>none
def L9 (P:Program) (H:List (Ob K)) (t:TypeId) (x i:AV K):Option (AV K×Bool):=
 match elemOf? P t,i with
 |some e, .int _ n=>match x with
  | .bn c l=>if mQ P e=some (K.sz c) then some (.rp c (l.getD n.toNat (K.zero c)) 0,inB n l.length) else none
  | .sl h=>match H[h]? with
    |some (.arr c l)=>if mQ P e=some (K.sz c) then some (.ep h (K.sz c) n.toNat 0,inB n l.length) else none
    |some (.tree c l)=>if mQ P e=some (K.sz c) then some (.ep h (K.sz c) n.toNat 0,inB n l.length) else none
    |_=>none
  |_=>none
 |_,_=>none
def I4 (d:Int):Option (AV K)->Option Int
 |none=>some d
 |some (.int _ n)=>some n
 |some _=>none
def abb (P:Program) (t:TypeId) (x:AV K) (lo hi:Option (AV K)):Option (AV K×Bool):=
 match P.underlying t,x with
 |some .string, .str s=>match I4 0 lo,I4 s.length hi with
  |some l,some h=>some (.str ((s.take h.toNat).drop l.toNat),qg l h s.length)
  |_,_=>none
 |some (.slice e), .bn c s=>if mQ P e=some (K.sz c) then match I4 0 lo,I4 s.length hi with
  |some l,some h=>some (.bn c ((s.take h.toNat).drop l.toNat),qg l h s.length)
  |_,_=>none else none
 |_,_=>none
def aev (P:Program) (H:List (Ob K)) (t:TypeId) (x:AV K) (lo hi:Option (AV K)):Option (AV K×Bool):=
 match elemOf? P t,x with
 |some e, .sl h=>match H[h]? with
  |some (.arr c l)=>if mQ P e=some (K.sz c) then match I4 0 lo,I4 l.length hi with
   |some a,some b=>some (.vw h (K.sz c) a.toNat b.toNat,qg a b l.length)
   |_,_=>none else none
  |some (.tree c l)=>if mQ P e=some (K.sz c) then match I4 0 lo,I4 l.length hi with
   |some a,some b=>some (.vw h (K.sz c) a.toNat b.toNat,qg a b l.length)
   |_,_=>none else none
  |_=>none
 |_,_=>none
def Vm (cx:Cx K) (ev:Operand->AV K) (H:List (Ob K)):Op->Option (AV K×Bool)
 | .move x | .assign x=>some (ev x,true)
 | .binOp op t x y _=>agN cx.P op t (ev x) (ev y)
 | .unOp op _ x=>unV op (ev x)
 | .convert src dst x=>match cx.P.underlying src,cx.P.underlying dst,ev x with
   |some _,some (.int k), .int _ n=>some (.int k (k.wrap n),true)
   |some _,some .string, .str s=>some (.str s,true)
   |some (.slice e),some .string,x=>match cx.P.underlying e,cx.ty e with
    |some (.int .u8),some c=>match cx.D.byte c,elems H c x with
     |some (f,_),some l=>some (.str (l.map f),true)
     |_,_=>none
    |_,_=>none
   |_,_,_=>none
 | .extract t i=>match ev t with
   | .ik l=>(l[i]?).map fun v=>(v,true)
   |_=>none
 | .fieldAddr s x f=>(L8 cx.P s f (ev x)).map fun v=>(v,true)
 | .load t p=>match acn cx.P cx.D H t (ev p) with
   |some v=>some (v,true)
   |none=>aeu cx.P H t (ev p)
 | .indexAddr t x i=>L9 cx.P H t (ev x) (ev i)
 | .index t x i=>match cx.P.underlying t,ev x,ev i with
   |some .string, .str s, .int _ n=>some (.int .u8 ((s.getD n.toNat 0).toNat:Int),inB n s.length)
   |_,_,_=>none
 | .slice t x lo hi none=>match abb cx.P t (ev x) (lo.map ev) (hi.map ev) with
   |some r=>some r
   |none=>if cx.vws&&(hi.isSome|| !cx.cut) then aev cx.P H t (ev x) (lo.map ev) (hi.map ev) else none
 | .nilCheck x=>match ev x with
   | .ptr h o=>some (.ptr h o,true)
   | .rp c x o=>some (.rp c x o,true)
   | .ep h s i o=>some (.ep h s i o,true)
   |_=>none
 | .makeFunc (.func f) first caps=>if first.isEmpty then some (.fn f (caps.toList.map ev),true) else none
 | .call {callee:= .builtin .len,args,argTypes}=>match args.toList,argTypes.toList with
   | [x],[t]=>match cx.P.underlying t,ev x with
     |some .string, .str s=>some (.int .i64 (s.length:Int),true)
     |some (.slice _), .eu=>some (.int .i64 0,true)
     |some (.slice _), .bn _ l=>some (.int .i64 (l.length:Int),true)
     |some (.slice _), .vw _ _ a b=>some (.int .i64 ((b-a:Nat):Int),true)
     |some (.slice _), .sl h=>match H[h]? with
      |some (.arr _ l)=>some (.int .i64 (l.length:Int),true)
      |some (.tree _ l)=>some (.int .i64 (l.length:Int),true)
      |_=>none
     |_,_=>none
   |_,_=>none
 | .call {callee:= .builtin .min,args, ..}=>match args.toList with
   | [x,y]=>match ev x,ev y with
     | .int k a, .int k' b=>if k=k' then some (.int k (cond (decide (b<a)) b a),true) else none
     |_,_=>none
   |_=>none
 | .call {callee:= .builtin .max,args, ..}=>match args.toList with
   | [x,y]=>match ev x,ev y with
     | .int k a, .int k' b=>if k=k' then some (.int k (cond (decide (a<b)) b a),true) else none
     |_,_=>none
   |_=>none
 |_=>none
def ahX (D:iU K) (c:K.U) (e:TypeId):Bool:=match D.elT c with
 |none=>true
 |some t=>t==e
def tyE (cx:Cx K) (e:TypeId):Option K.U:=match cx.ty e with
 |some c=>if ahX cx.D c e then some c else none
 |none=>none
def room (e:TypeId) (P:Program):Bool:=match P.info? e with
 |some i=>decide (i.bytes<=4096)
 |none=>false
def Dc (D:iU K) (c:K.U):List (AV K)->Option (List (K.El c)×Bool)
 | []=>some ([],true)
 |v::r=>match D.dec c v.aN,Dc D c r with
  |some (x,b),some (l,b')=>some (x::l,b&&b')
  |_,_=>none
def inOrder (ev:Operand->AV K):Nat->List (Nat×Operand)->Option (List (AV K))
 |_,[]=>some []
 |n,(i,x)::r=>if i=n then (inOrder ev (n+1) r).map (ev x::·) else none
def placesOf (P:Program) (t:TypeId):Option (List (Nat×Nat)):=
 match P.underlying t with
 |some (.struct fs)=>fs.toList.mapM (fun f=>(P.info? f.type).map fun i=>(f.offset,i.size))
 |_=>none
def XB (places:List (Nat×Nat)) (ev:Operand->AV K) (cs:List (AV K)):List (Nat×Operand)->Option (List (AV K))
 | []=>some cs
 |(i,x)::r=>match places[i]? with
  |some (off,n)=>if (ev x).known=true /\ (ev x).aN.length=n /\ off+n<=cs.length then XB places ev (setCells cs off (ev x).aN) r else none
  |none=>none
def wF (P:Program) (t:TypeId):Bool:=match P.info? t with
 |some i=>match i.zero with
  |some v=>v.cells.size==i.size
  |none=>false
 |none=>false
def source (D:iU K) (H:List (Ob K)) (c:K.U):AV K->Option (List (K.El c))
 | .str s=>match D.byte c with
   |some (_,g)=>some (s.map g)
   |none=>none
 |v=>elems H c v
def TI (cx:Cx K) (H:List (Ob K)) (sT:TypeId) (s x:AV K):Option (AV K×List (Ob K)×Bool×List Nat):=
 match elemOf? cx.P sT with
 |none=>none
 |some e=>match tyE cx e with
  |none=>none
  |some c=>if mQ cx.P e=some (K.sz c) /\ room e cx.P=true /\ wF cx.P e=true then
    match source cx.D H c x with
    |none=>none
    |some m=>match s with
     | .eu=>some (.sl H.length,H++[.arr c m],decide (m.length<=1073741824),[])
     | .sl h=>match x with
       | .sl h'=>if h=h' then none else match elems H c (.sl h) with
         |some l=>some (.sl H.length,H.set h .dead++[.arr c (l++m)],decide (l.length+m.length<=1073741824),[h])
         |none=>none
       |_=>match elems H c (.sl h) with
        |some l=>some (.sl H.length,H.set h .dead++[.arr c (l++m)],decide (l.length+m.length<=1073741824),[h])
        |none=>none
     |_=>none
   else none
def BZ (ev:Operand->AV K):Op->List Nat
 | .buildSlice _ _ parts=>aT (parts.toList.map fun p=>ev p.2)
 | .store _ p x=>match ev p with
   | .ep ..=>hands (ev x)
   |_=>[]
 | .slice _ x _ _ _=>match ev x with
   | .sl h=>[h]
   |_=>[]
 |_=>[]
def abd (cx:Cx K) (ev:Operand->AV K) (H:List (Ob K)):Op->Option (AV K×List (Ob K)×Bool×List Nat)
 | .box t x=>if (ev x).known then match thaw cx.deep H (cx.sls t) (ev x).aN with
     |(cs,H1)=>if wu cs then none else some (.ptr H1.length 0,H1++[.box cs],true,[]) else none
 | .alloc t=>match (zeroOf cx.P t:Option (AV K)) with
   |some z=>if z.known then match thaw cx.deep H (cx.sls t) z.aN with
    |(cs,H1)=>if wu cs then none else some (.ptr H1.length 0,H1++[.box (Vl (cx.D.Om==some t) H1.length cs)],true,[]) else none
   |none=>none
 | .build t parts=>match placesOf cx.P t,(zeroOf cx.P t:Option (AV K)) with
   |some ps,some z=>if z.known then (XB ps ev z.aN parts.toList).map fun cs=>(.agg cs,H,true,[]) else none
   |_,_=>none
 | .store t p x=>match mQ cx.P t with
   |some n=>if (ev x).aN.length=n /\ (ev x).aN.all AV.one=true then match ev p with
    | .ptr h off=>match H[h]? with
      |some (.box cs)=>if off+n<=cs.length then match thaw cx.deep H (cx.sls t) (ev x).aN with
       |(xs,H1)=>if wu (setCells cs off xs)&& !wu cs then none else some (.any,H1.set h (.box (setCells cs off xs)),true,[h]) else none
      |_=>none
    | .ep h st i off=>match H[h]? with
      |some (.arr c l)=>if st=K.sz c /\ iQ (ev x).aN=true /\ off+n<=K.sz c then
        match cx.D.dec c (setCells (cx.D.cells c (l.getD i (K.zero c))) off (ev x).aN) with
        |some (y,b)=>some (.any,H.set h (.arr c (l.set i y)),b,[h])
        |none=>none
       else none
      |_=>none
    |_=>none else none
   |none=>none
 | .makeSlice t len cap=>match elemOf? cx.P t with
   |none=>none
   |some e=>match tyE cx e,(zeroOf cx.P e:Option (AV K)),ev len,ev cap with
    |some c,some z, .int _ n, .int _ m=>if mQ cx.P e=some (K.sz c) /\ room e cx.P=true /\ iQ z.aN=true /\ z.known=true then
      match cx.D.dec c z.aN with
      |some (y,b)=>some (.sl H.length,H++[.arr c (List.replicate n.toNat y)],b&&(decide (0<=n)&&(decide (n<=m)&&decide (m<=1073741824))),[])
      |none=>none
     else none
    |_,_,_,_=>none
 | .buildSlice t len parts=>match elemOf? cx.P t with
   |none=>none
   |some e=>match tyE cx e,inOrder ev 0 parts.toList with
    |some c,some l=>if mQ cx.P e=some (K.sz c) /\ wF cx.P e=true /\ l.length=len /\ len<=4096 /\ K.sz c<=4096 /\ l.all (fun v=>iQ v.aN&&(v.known&&decide (v.aN.length=K.sz c)))=true then
      match Dc cx.D c l with
      |some (y,b)=>some (.sl H.length,H++[.arr c y],b,[])
      |none=>none
     else none
    |_,_=>none
 | .convert src dst x=>match cx.P.underlying src,elemOf? cx.P dst,ev x with
   |some .string,some e, .str s=>match cx.P.underlying e,tyE cx e with
    |some (.int .u8),some c=>match cx.D.byte c with
     |some (_,g)=>if mQ cx.P e=some (K.sz c) then some (.sl H.length,H++[.arr c (s.map g)],decide (s.length<=1073741824),[]) else none
     |none=>none
    |_,_=>none
   |_,_,_=>none
 | .call {callee:= .builtin .append,args,argTypes}=>match args.toList,argTypes.toList with
   | [s,x],[sT,xT]=>if (Jy cx.P xT).isSome||(cx.P.underlying xT).isNone then none else TI cx H sT (ev s) (ev x)
   |_,_=>none
 |_=>none
mutual
def Ol : AV K->Bool
 | .sl _ | .ptr .. | .ep .. | .np _ | .vw ..=>true
 | .agg l | .ik l | .fn _ l=>LZ l
 |_=>false
def LZ : List (AV K)->Bool
 | []=>false
 |v::r=>Ol v||LZ r
end
mutual
def Og (f:Nat->Option Nat):AV K->Option (AV K)
 | .ptr h o=>(f h).map (.ptr · o)
 | .sl h=>(f h).map .sl
 | .np h=>(f h).map .np
 | .ep h s i o=>(f h).map (.ep · s i o)
 | .vw h s a b=>(f h).map (.vw · s a b)
 | .fn g l=>(Hl f l).map (.fn g)
 | .agg l=>(Hl f l).map .agg
 | .ik l=>(Hl f l).map .ik
 | .opt ..=>none
 |v=>some v
def Hl (f:Nat->Option Nat):List (AV K)->Option (List (AV K))
 | []=>some []
 |v::r=>match Og f v,Hl f r with
  |some x,some l=>some (x::l)
  |_,_=>none
end
def ren (m:List Nat):AV K->Option (AV K):=Og fun h=>m.idxOf? h
def ahY (m:List Nat):List (AV K)->Option (List (AV K)):=Hl fun h=>m.idxOf? h
def back (m:List Nat):AV K->Option (AV K):=Og fun h=>m[h]?
def ahZ (m:List Nat):List (AV K)->Option (List (AV K)):=Hl fun h=>m[h]?
def LU (f:Nat->Option Nat):Ob K->Option (Ob K)
 | .box cs=>(Hl f cs).map .box
 | .opn ..=>none
 |o=>some o
def ace (m:List Nat):Ob K->Option (Ob K):=LU fun h=>m.idxOf? h
def LY (m:List Nat):Ob K->Option (Ob K):=LU fun h=>m[h]?
def G7 (f:Ob K->Option (Ob K)):List (Ob K)->Option (List (Ob K))
 | []=>some []
 |o::r=>match f o,G7 f r with
  |some x,some l=>some (x::l)
  |_,_=>none
def reach (H:List (Ob K)):Nat->List Nat->List Nat->List Nat
 |0,_,acc=>acc
 |_,[],acc=>acc
 |n+1,h::r,acc=>if acc.contains h then reach H n r acc else
   reach H n (r++(match H[h]? with |some (.box cs)=>aT cs |_=>[])) (acc++[h])
def LX (H:List (Ob K)):List Nat->Bool
 | []=>true
 |h::m=>decide (h<H.length)&&(!m.contains h&&LX H m)
def lD : List (Ob K)->List Nat->List (Ob K)->List (Ob K)
 |H,h::m,o::r=>lD (H.set h o) m r
 |H,_,_=>H
def aep (D:iU K):Ob K->Bool
 | .arr c _=> !dO (D.cells c (K.zero c))
 | .tree ..=>true
 |_=>false
def BP (cx:Cx K) (m:Mode) (H:List (Ob K)) (f:FuncId) (args:List (AV K)):Option (AV K×List (Ob K)×Bool×List Nat):=
 match m with
 | .plain=>if iQ (EG cx.D H args) then match cx.call f (EG cx.D H args) [] with
     |some (r,[],c)=>if r.closed&&(!jG r|| !LZ args) then some (r,H,c,[]) else none
     |_=>none else none
 | .FC=>if iQ (EG cx.D H args)&& !LZ args then match cx.call f (EG cx.D H args) [] with
     |some (r,Hn,c)=>match back ((List.range Hn.length).map (H.length+·)) r,G7 (LY ((List.range Hn.length).map (H.length+·))) Hn with
      |some r',some Hn'=>some (r',H++Hn',c,[])
      |_,_=>none
     |none=>none else none
 | .fresh=>if iQ (EG cx.D H args) then match cx.call f (EG cx.D H args) [] with
     |some (r,Hn,c)=>if !jG r&&Hn.all (aep cx.D) then match back ((List.range Hn.length).map (H.length+·)) r,G7 (LY ((List.range Hn.length).map (H.length+·))) Hn with
      |some r',some Hn'=>some (r',H++Hn',c,[])
      |_,_=>none else none
     |none=>none else none
 | .oU | .fF=>none
 | .pass=>if !LX H (reach H 64 (aT args) []) then none else match ahY (reach H 64 (aT args) []) args,G7 (ace (reach H 64 (aT args) [])) ((reach H 64 (aT args) []).map fun h=>H.getD h .dead) with
     |some args',some Hi=>match cx.call f args' Hi with
      |some (r,Ho,c)=>
       match back (reach H 64 (aT args) []++(List.range (Ho.length-Hi.length)).map (H.length+·)) r,G7 (LY (reach H 64 (aT args) []++(List.range (Ho.length-Hi.length)).map (H.length+·))) Ho with
       |some r',some V5=>if Hi.length<=Ho.length then some (r',lD H (reach H 64 (aT args) []) (V5.take Hi.length)++V5.drop Hi.length,c,reach H 64 (aT args) []) else none
       |_,_=>none
      |none=>none
     |_,_=>none
def U4 (cx:Cx K) (m:Mode) (H:List (Ob K)) (f:FuncId) (args:List (AV K)):Option (AV K×List (Ob K)×Bool×List Nat):=
 BP cx m (pF H (aT args)) f (Df (pF H (aT args)) args)
def Oh (q:Bool) (cx:Cx K) (H:List (Ob K)) (f:FuncId) (args:List (AV K)):Option (AV K×List (Ob K)×Bool×List Nat):=
 match cx.mode f with
 | .plain=>BP cx .plain H f args
 | .oU=>match BP cx .plain H f args with
   |some r=>some r
   |none=>if q then none else U4 cx .plain H f args
 | .FC=>if q then none else U4 cx .FC H f args
 | .pass=>if q then none else BP cx .pass H f args
 | .fF=>if q then none else U4 cx .pass H f args
 | .fresh=>if q then none else match BP cx .FC H f args with
   |some r=>some r
   |none=>match BP cx .fresh H f args with
    |some r=>some r
    |none=>U4 cx .FC H f args
def tN : List Nat->Bool
 | []=>true
 |x::r=> !r.contains x&&tN r
def ach (D:iU K) (H:List (Ob K)):AV K->Option (AV K)
 | .sl h=>match H[h]? with
   |some (.arr c l)=>if dO (D.cells c (K.zero c)) then none else some (.bn c l)
   |some (.tree c l)=>some (.bn c l)
   |_=>none
 | .eu=>some .eu
 | .int k n=>some (.int k n)
 | .bool b=>some (.bool b)
 | .str s=>some (.str s)
 | .nD=>some .nD
 |_=>none
def wE (D:iU K) (H:List (Ob K)):List (AV K)->Option (List (AV K))
 | []=>some []
 |v::r=>match ach D H v,wE D H r with
  |some x,some l=>some (x::l)
  |_,_=>none
def Jv (D:iU K) (H:List (Ob K)):List (AV K)->Option (List (AV K))
 | []=>some []
 |v::r=>match wE D H v.aN,Jv D H r with
  |some cs,some l=>some (.agg cs::l)
  |_,_=>none
def eP (H:List (Ob K)):List Nat->List (Ob K)
 | []=>H
 |h::r=>eP (H.set h .dead) r
def FW (H:List (Ob K)) (c:K.U):AV K->Option (List (K.El c)×List Nat)
 | .eu=>some ([],[])
 | .sl h=>match H[h]? with
   |some (.tree c' l)=>match K.deq c' c with
    | .isTrue e=>some (e ▸ l,[h])
    | .isFalse _=>none
   |_=>none
 |_=>none
def Xx (cx:Cx K) (ev:Operand->AV K) (H:List (Ob K)):Op->Option (AV K×List (Ob K)×Bool×List Nat)
 | .makeSlice t len cap=>match elemOf? cx.P t with
   |none=>none
   |some e=>match tyE cx e,(zeroOf cx.P e:Option (AV K)),ev len,ev cap with
    |some c,some z, .int _ n, .int _ m=>if cx.deep c=true /\ mQ cx.P e=some (K.sz c) /\ room e cx.P=true /\ z.known=true then
      match wE cx.D [] z.aN with
      |some zs=>match cx.D.dec c zs with
       |some (y,b)=>some (.sl H.length,H++[.tree c (List.replicate n.toNat y)],b&&(decide (0<=n)&&(decide (n<=m)&&decide (m<=1073741824))),[])
       |none=>none
      |none=>none
     else none
    |_,_,_,_=>none
 | .buildSlice t len parts=>match elemOf? cx.P t with
   |none=>none
   |some e=>match tyE cx e,inOrder ev 0 parts.toList with
    |some c,some l=>if cx.deep c=true /\ mQ cx.P e=some (K.sz c) /\ wF cx.P e=true /\ l.length=len /\ len<=4096 /\ K.sz c<=4096 /\ l.all (fun v=>v.known&&decide (v.aN.length=K.sz c))=true /\ tN (aT l)=true then
      match Jv cx.D H l with
      |some l'=>match Dc cx.D c l' with
       |some (y,b)=>some (.sl H.length,eP H (aT l)++[.tree c y],b,aT l)
       |none=>none
      |none=>none
     else none
    |_,_=>none
 | .store t p x=>match ev p,mQ cx.P t with
   | .ep h st i off,some n=>match H[h]? with
     |some (.tree c l)=>if st=K.sz c /\ off+n<=K.sz c /\ (ev x).aN.length=n /\ (ev x).aN.all AV.one=true /\ tN (h::aT (ev x).aN)=true then
       match wE cx.D H (ev x).aN with
       |some xs=>match cx.D.dec c (setCells (cx.D.cells c (l.getD i (K.zero c))) off xs) with
        |some (y,b)=>some (.any,(eP H (h::aT (ev x).aN)).set h (.tree c (l.set i y)),b,h::aT (ev x).aN)
        |none=>none
       |none=>none
      else none
     |some (.opn c l i' off' cs)=>if st=K.sz c /\ off=off' /\ n=cs.length /\ (ev x).aN.length=n /\ (ev x).aN.all AV.one=true /\ tN (h::aT (ev x).aN)=true then
       match wE cx.D H (ev x).aN with
       |some xs=>match cx.D.dec c (setCells (cx.D.cells c (l.getD i (K.zero c))) off xs) with
        |some (y,b)=>some (.any,(eP H (h::aT (ev x).aN)).set h (.tree c (l.set i y)),b&&decide (i=i'),h::aT (ev x).aN)
        |none=>none
       |none=>none
      else none
     |_=>none
   |_,_=>none
 | .call {callee:= .builtin .append,args,argTypes}=>match args.toList,argTypes.toList with
   | [s,x],[sT,xT]=>if (Jy cx.P xT).isSome||(cx.P.underlying xT).isNone then none else match elemOf? cx.P sT with
     |none=>none
     |some e=>match tyE cx e with
      |none=>none
      |some c=>if cx.deep c=true /\ mQ cx.P e=some (K.sz c) /\ room e cx.P=true /\ wF cx.P e=true then
        match FW H c (ev s),FW H c (ev x) with
        |some (l,hs),some (m,hs')=>if tN (hs++hs') then some (.sl H.length,eP H (hs++hs')++[.tree c (l++m)],decide (l.length+m.length<=1073741824),hs++hs') else none
        |_,_=>none
       else none
   |_,_=>none
 |_=>none
def IZ (D:iU K) (dp:K.U->Bool):Nat->List (AV K)->Option (List (AV K)×List (Ob K))
 |_,[]=>some ([],[])
 |n, .bn c l::r=>if dp c|| !dO (D.cells c (K.zero c)) then match IZ D dp (n+1) r with
    |some (cs,os)=>some (.sl n::cs,cond (dp c) (.tree c l) (.arr c l)::os)
    |none=>none
  else none
 |n,v::r=>match IZ D dp n r with
    |some (cs,os)=>some (v::cs,os)
    |none=>none
def Xy (cx:Cx K) (ev:Operand->AV K) (H:List (Ob K)):Op->Option (AV K×List (Ob K)×Bool×List Nat)
 | .load t p=>if cx.opn then match ev p,ack cx.P t,mQ cx.P t with
     | .ep h st i off,some ag,some n=>match H[h]? with
       |some (.tree c l)=>if st=K.sz c /\ off+n<=K.sz c /\ 0<n then match IZ cx.D cx.deep H.length (((cx.D.cells c (l.getD i (K.zero c))).drop off).take n) with
         |some (cs,os)=>some (cond ag (.agg cs) (cs.getD 0 .any),H.set h (.opn c l i off cs)++os,true,[h])
         |none=>none
        else none
       |_=>none
     |_,_,_=>none
   else none
 |_=>none
def abe : List (Ob K)->Option Nat
 | []=>none
 | .opn ..::_=>some 0
 |_::r=>(abe r).map (· +1)
def shut (D:iU K) (H:List (Ob K)):Option (List (Ob K)×Bool×List Nat):=
 match abe H with
 |none=>some (H,true,[])
 |some h=>match H[h]? with
  |some (.opn c l i off cs)=>if tN (h::aT cs)=true then match wE D H cs with
    |some xs=>match D.dec c (setCells (D.cells c (l.getD i (K.zero c))) off xs) with
     |some (y,b)=>some ((eP H (h::aT cs)).set h (.tree c (l.set i y)),b,h::aT cs)
     |none=>none
    |none=>none
   else none
  |_=>none
def Xz (q:Bool) (cx:Cx K) (H:List (Ob K)) (f:FuncId) (args:List (AV K)):Option (AV K×List (Ob K)×Bool×List Nat):=
 if cx.opn&& !cx.lz&& !q then match Oh q cx H f args with
  |some (r,H1,c,t)=>match shut cx.D H1 with
   |some (H2,b,t2)=>some (r,H2,c&&b,t++t2)
   |none=>none
  |none=>none
 else Oh q cx H f args
def guardOf (ops:List Oper) (o:Oper):Option (Option (Nat×Bool)):=
 match o.guard with
 |none=>some none
 |some (j,w)=>match ops[j]? with
  |some g=>match g.dst with
   |some t=>some (some (t,w))
   |none=>none
  |none=>none
def abf (st:St K) (wr:List Nat) (dst:Option Nat) (v:AV K) (H:List (Ob K)) (ok:Bool):Option (St K×List Nat):=
 match dst with
 |none=>some (⟨st.tm,H,ok⟩,wr)
 |some d=>if wr.contains d||decide (st.tm.length<=d) then none else some (⟨st.tm.set d v,H,ok⟩,d::wr)
def ac9 (cx:Cx K) (ev:Operand->AV K) (H:List (Ob K)) (op:Op):Option (AV K×List (Ob K)×Bool×List Nat):=
 match Xx cx (fun x=>ji H (ev x)) H op with
 |some r=>some r
 |none=>match BZ ev op with
 | []=>abd cx (fun x=>ji H (ev x)) H op
 |hs=>match Vm cx (fun x=>ji (pF H hs) (ev x)) (pF H hs) op with
  |some (v,c)=>some (v,pF H hs,c,[])
  |none=>abd cx (fun x=>ji (pF H hs) (ev x)) (pF H hs) op
def Vo : Operand->Bool
 | .const (.slice none 0 0)=>true
 |_=>false
def iR (cx:Cx K):Op->Bool
 | .assign x=> !Vo x
 | .slice t ..=>aet cx.P t
 | .load t _=> !cx.opn||(cx.lz&&(cx.sls t).all Option.isNone)
 | .makeFunc .. | .move _ | .pick .. | .binOp .. | .unOp .. | .extract .. | .fieldAddr .. | .indexAddr .. | .index .. | .nilCheck _=>true
 | .convert _ dst _=>(elemOf? cx.P dst).isNone
 | .call {callee:= .builtin .len, ..} | .call {callee:= .builtin .min, ..} | .call {callee:= .builtin .max, ..}=>true
 | .call {callee:= .value (.func f), ..}=>cx.mode f== .plain&&(!cx.opn||cx.lz)
 |_=>false
def cutV (cx:Cx K) (ev:Operand->AV K) (H:List (Ob K)):Op->Option (AV K×List (Ob K)×Bool×List Nat)
 | .slice t x none (some y) none=>if cx.cut then match ev x,ev y,elemOf? cx.P t with
   | .sl h, .int _ n,some e=>match H[h]? with
     |some (.arr c l)=>if mQ cx.P e=some (K.sz c) then some (.sl H.length,H.set h .dead++[.arr c (l.take n.toNat)],qg 0 n l.length,[h]) else none
     |some (.tree c l)=>if mQ cx.P e=some (K.sz c) then some (.sl H.length,H.set h .dead++[.tree c (l.take n.toNat)],qg 0 n l.length,[h]) else none
     |_=>none
   |_,_,_=>none else none
 | .slice t x (some y) none none=>if cx.cut then match ev x,ev y,elemOf? cx.P t with
   | .sl h, .int _ n,some e=>match H[h]? with
     |some (.arr c l)=>if mQ cx.P e=some (K.sz c) /\ cx.D.elT c=none then some (.sl H.length,H.set h .dead++[.arr c (l.drop n.toNat)],qg n l.length l.length,[h]) else none
     |some (.tree c l)=>if mQ cx.P e=some (K.sz c) /\ cx.D.elT c=none then some (.sl H.length,H.set h .dead++[.tree c (l.drop n.toNat)],qg n l.length l.length,[h]) else none
     |_=>none
   |_,_,_=>none else none
 |_=>none
def aew (cx:Cx K) (ev:Operand->AV K) (H:List (Ob K)):Op->Option (AV K×List (Ob K)×Bool×List Nat)
 | .buildSlice t len parts=>match elemOf? cx.P t with
   |none=>none
   |some e=>match cx.ty e,inOrder ev 0 parts.toList with
    |some c,some l=>if mQ cx.P e=some (K.sz c) /\ wF cx.P e=true /\ l.length=len /\ len<=4096 /\ K.sz c<=4096 /\ l.all (fun v=>iQ v.aN&&(v.known&&decide (v.aN.length=K.sz c)))=true then
      match Dc cx.D c l with
      |some (y,b)=>some (.bn c y,H,b,[])
      |none=>none
     else none
    |_,_=>none
 |_=>none
def wG (q:Bool) (cx:Cx K) (tm:List (AV K)) (gs:List (Nat×Bool)) (H:List (Ob K)) (T:TypeId):Op->Option (AV K×List (Ob K)×Bool×List Nat)
 | .pick c x y=>match c,CZ tm gs c with
   | .tmp t, .bool b=>match known cx t with
     |some b0=>some (cond b0 (CZ tm gs x) (CZ tm gs y),H,b==b0,[])
     |none=>some (merge b (CZ tm ((t,true)::gs) x) (CZ tm ((t,false)::gs) y),H,true,[])
   | .const _, .bool b=>some (merge b (CZ tm gs x) (CZ tm gs y),H,true,[])
   |_,_=>none
 | .call {callee:= .value f,args, ..}=>match CZ tm gs f with
   | .fn g caps=>Xz q cx H g (args.toList.map (fun x=>ji H (CZ tm gs x))++caps)
   |_=>none
 | .assign x=>if !q&&Vo x then match elemOf? cx.P T with
     |some e=>match cx.ty e with
      |some c=>some (.sl H.length,H++[cond (cx.deep c) (.tree c []) (.arr c [])],true,[])
      |none=>some (CZ tm gs x,H,true,[])
     |none=>some (CZ tm gs x,H,true,[])
   else some (ji H (CZ tm gs x),H,true,[])
 |op=>match Vm cx (fun x=>ji H (CZ tm gs x)) H op with
  |some (v,c)=>some (v,H,c,[])
  |none=>if q then aew cx (fun x=>ji H (CZ tm gs x)) H op else if iR cx op then none else match Xy cx (CZ tm gs) H op with
   |some r=>some r
   |none=>match cutV cx (CZ tm gs) H op with
   |some r=>some r
   |none=>ac9 cx (CZ tm gs) H op
def wH (cx:Cx K):Op->Bool
 | .assign _=>true
 | .slice t ..=> !cx.cut||aet cx.P t
 | .call {callee:= .value (.func f), ..}=>cx.mode f== .plain||cx.mode f== .oU
 |op=>iR cx op
def afF (cx:Cx K):Op->Bool
 | .buildSlice ..=>true
 |op=>wH cx op
def uJ (q:Bool) (cx:Cx K) (ops:List Oper) (tm:List (AV K)) (H:List (Ob K)) (wr:List Nat) (o:Oper):Option (AV K×List (Ob K)×Bool):=
 match guardOf ops o with
 |none=>none
 |some none=>match wG q cx tm [] H o.type o.op with
  |some (v,H',c,_)=>if v.wU then none else some (v,H',c)
  |none=>none
 |some (some (g,w))=>match known cx g with
  |some b0=>match tm[g]? with
   |some (.bool b)=>if b0=w then match wG q cx tm [] H o.type o.op with
     |some (v,H',c,_)=>if v.wU then none else some (v,H',c&&(b==b0))
     |none=>none
    else some (.any,H,b==b0)
   |_=>none
  |none=>match ac4 tm 6 (g,w) with
   |none=>none
   |some b=>if afF cx o.op&&wr.contains g then match wG true cx tm [(g,w)] H o.type o.op with
     |some (v,_,c,_)=>some (.opt g w v,H,c|| !b)
     |none=>none else none
def XC (cx:Cx K) (ops:List Oper) (st:St K) (wr:List Nat) (o:Oper):Option (St K×List Nat):=
 match uJ false cx ops st.tm st.H wr o with
 |some (v,H',c)=>abf st wr o.dst v H' (c&&st.ok)
 |none=>none
def wI (cx:Cx K) (ops:List Oper):List Oper->St K->List Nat->Option (St K×List Nat)
 | [],st,wr=>some (st,wr)
 |o::r,st,wr=>match XC cx ops st wr o with
  |some (st',wr')=>wI cx ops r st' wr'
  |none=>none
def lF (tm:List (AV K)):List Nat->List (AV K)
 | []=>tm
 |d::r=>match tm[d]? with
  |some (.opt ..)=>lF (tm.set d .any) r
  |_=>lF tm r
def jv : List Oper->List Nat->List Nat
 | [],acc=>acc
 |o::r,acc=>jv r (acc++[o.after.toList.foldl (fun s e=>s|||2^e.on|||acc.getD e.on 0) 0])
def fU (bits:Nat):List Oper->Nat->List (AV K)->List (AV K)
 | [],_,tm=>tm
 |o::r,i,tm=>fU bits r (i+1) (match o.dst with
  |some d=>if bits.testBit i then tm else tm.set d .any
  |none=>tm)
def Vp (i:Nat):Nat->List Nat->Nat
 |_,[]=>0
 |k,b::r=>(cond (b.testBit i) (2^k) 0)|||Vp i (k+1) r
def sG (bs:List Nat) (i:Nat):Nat:=bs.getD i 0|||Vp i 0 bs
def sN (cx:Cx K) (ops:List Oper) (bs:List Nat):List Oper->Nat->St K->List Nat->Option (St K×List Nat)
 | [],_,st,wr=>some (st,wr)
 |o::r,i,st,wr=>match uJ true cx ops (fU (sG bs i) ops 0 st.tm) st.H wr o with
  |some (v,_,c)=>match abf st wr o.dst v st.H (c&&st.ok) with
   |some (st',wr')=>sN cx ops bs r (i+1) st' wr'
   |none=>none
  |none=>none
def nK : List Oper->Nat->Bool
 | [],_=>true
 |o::r,i=>(o.after.toList.all fun e=>decide (e.on<i)&&Region.binds .any e)&&nK r (i+1)
def uK (bits:Nat):Nat->List (Ob K)->List (Ob K)
 |_,[]=>[]
 |i,o::r=>(if bits.testBit i then .dead else o)::uK bits (i+1) r
def Mc (bits:Nat):Nat->List (Ob K)->List (Ob K)->List (Ob K)
 |i,o::r,o'::r'=>(if bits.testBit i then o else o')::Mc bits (i+1) r r'
 |_,[],r'=>r'
 |_,_::_,[]=>[]
mutual
def AV.upto (n:Nat):AV K->Bool
 | .ptr h _ | .sl h | .ep h _ _ _ | .np h | .vw h _ _ _=>decide (h<n)
 | .fn _ l | .agg l | .ik l=>KE n l
 | .opt _ _ v=>v.upto n
 |_=>true
def KE (n:Nat):List (AV K)->Bool
 | []=>true
 |v::r=>v.upto n&&KE n r
end
def Ob.upto (n:Nat):Ob K->Bool
 | .box cs=>KE n cs
 | .opn _ _ _ _ cs=>KE n cs
 |_=>true
def lG (ev:Operand->AV K) (op:Op):List Nat:=
 BZ ev op++(match op with
  | .store _ p _=>hands (ev p)
  | .call {callee:= .builtin .append,args, ..}=>(match args.toList with
    |s::x::_=>hands (ev s)++hands (ev x)
    | [s]=>hands (ev s)
    | []=>[])
  |_=>[])
def Rf (cx:Cx K):Op->Bool
 | .box .. | .alloc _ | .build .. | .store .. | .makeSlice .. | .buildSlice .. | .convert .. | .slice ..=>true
 | .call {callee:= .builtin .append, ..}=>true
 | .call {callee:= .value (.func f), ..}=>(cx.mode f== .fresh||(cx.mode f== .pass||cx.mode f== .fF))&&(!cx.opn||cx.lz)
 | .load ..=>cx.opn&&cx.lz
 |_=>false
def Vq (ev:Operand->AV K):Op->List Nat
 | .call {callee:= .value _,args, ..}=>aT (args.toList.map ev)
 |_=>[]
def EK (cx:Cx K) (H:List (Ob K)) (ev:Operand->AV K):Op->List Nat
 | .call {callee:= .value (.func f),args, ..}=>(match cx.mode f with
   | .pass=>reach H 64 (aT (args.toList.map fun y=>ji H (ev y))) []
   | .fF=>aT (args.toList.map fun y=>ji H (ev y))++reach (pF H (aT (args.toList.map fun y=>ji H (ev y)))) 64 (aT (Df (pF H (aT (args.toList.map fun y=>ji H (ev y)))) (args.toList.map fun y=>ji H (ev y)))) []
   |_=>[])
 |_=>[]
def bitsOf : List Nat->Nat
 | []=>0
 |h::r=>2^h|||bitsOf r
def XD (cx:Cx K) (ops:List Oper) (tm:List (AV K)) (H:List (Ob K)) (wr:List Nat) (o:Oper):Option (AV K×List (Ob K)×Bool):=
 if wH cx o.op then uJ true cx ops tm H wr o else if Rf cx o.op then uJ false cx ops tm H wr o else none
def Dh (cx:Cx K) (tm:List (AV K)) (H:List (Ob K)) (op:Op):List Nat:=if wH cx op then [] else match op with
 | .load t p=>(match Vm cx (fun x=>ji H (CZ tm [] x)) H (.load t p) with
   |some _=>[]
   |none=>hands (CZ tm [] p))
 |op=>(lG (CZ tm []) op++Vq (CZ tm []) op)++EK cx H (CZ tm []) op
def Qe (A:Nat):Nat->List Nat->Nat
 |_,[]=>0
 |k,b::r=>(if A.testBit k then 0 else b)|||Qe A (k+1) r
def Jz (A:Nat) (T:List Nat):Nat->List (Nat×Nat)->Bool
 |_,[]=>true
 |i,(m,n)::r=>(A.testBit i||T.all fun h=>decide (n<=h)||m.testBit h)&&Jz A T (i+1) r
def agO : Op->Option (List Operand)
 | .slice _ x _ _ _=>some [x]
 | .move _=>some []
 | .load _ p=>some [p]
 | .fieldAddr ..=>some []
 | .indexAddr _ x _=>some [x]
 | .nilCheck _=>some []
 | .store _ p x=>some [p,x]
 | .binOp ..=>some []
 | .unOp ..=>some []
 |_=>none
def af7 (tm:List (AV K)) (n:Nat) (op:Op):Nat:=
 match agO op with
 |none=>0
 |some l=>bitsOf ((List.range n).filter fun h=> !(aT (l.map (CZ tm []))).contains h)
def Ox (bs ws:List Nat) (i:Nat) (tm:List (AV K)) (n:Nat) (op:Op):Nat:=Qe (bs.getD i 0) 0 ws|||af7 tm n op
def zO (cx:Cx K) (ops:List Oper) (bs:List Nat):List Oper->Nat->St K->List Nat->List (Nat×Nat)->List Nat->Option (St K×List Nat)
 | [],_,st,wr,_,_=>some (st,wr)
 |o::r,i,st,wr,ms,ws=>
  if KE st.H.length (fU (sG bs i) ops 0 st.tm)&&(uK (Ox bs ws i (fU (sG bs i) ops 0 st.tm) st.H.length o.op) 0 st.H).all (Ob.upto st.H.length) then
   match XD cx ops (fU (sG bs i) ops 0 st.tm) (uK (Ox bs ws i (fU (sG bs i) ops 0 st.tm) st.H.length o.op) 0 st.H) wr o with
   |none=>none
   |some (v,H',c)=>
    if (Jz (bs.getD i 0) (Dh cx (fU (sG bs i) ops 0 st.tm) (uK (Ox bs ws i (fU (sG bs i) ops 0 st.tm) st.H.length o.op) 0 st.H) o.op) 0 ms&&(Dh cx (fU (sG bs i) ops 0 st.tm) (uK (Ox bs ws i (fU (sG bs i) ops 0 st.tm) st.H.length o.op) 0 st.H) o.op).all fun h=> !(Ox bs ws i (fU (sG bs i) ops 0 st.tm) st.H.length o.op).testBit h&&decide (h<st.H.length))&&decide (st.H.length<=H'.length) then
     match abf st wr o.dst v (Mc (Ox bs ws i (fU (sG bs i) ops 0 st.tm) st.H.length o.op) 0 st.H H') (c&&st.ok) with
     |some (st',wr')=>zO cx ops bs r (i+1) st' wr' (ms++[(Ox bs ws i (fU (sG bs i) ops 0 st.tm) st.H.length o.op,st.H.length)])
       (ws++[bitsOf (Dh cx (fU (sG bs i) ops 0 st.tm) (uK (Ox bs ws i (fU (sG bs i) ops 0 st.tm) st.H.length o.op) 0 st.H) o.op++List.range' st.H.length (H'.length-st.H.length))])
     |none=>none
    else none
  else none
def sH (cx:Cx K) (ops:List Oper) (st:St K):Option (St K):=
 if (ops.all fun o=>wH cx o.op)&&nK ops 0 then match sN cx ops (jv ops []) ops 0 st [] with
     |some (st',wr)=>some ⟨lF st'.tm wr,st'.H,st'.ok⟩
     |none=>none
  else if nK ops 0 then match zO cx ops (jv ops []) ops 0 st [] [] [] with
   |some (st',wr)=>some ⟨lF st'.tm wr,st'.H,st'.ok⟩
   |none=>none
  else none
def aae (π:List Nat) (n:Nat):Bool:=decide (π.length=n)&&(π.all (fun i=>decide (i<n))&&((List.range n).all (fun i=>π.contains i)&&tN π))
def abg (π:List Nat) (n:Nat) (o:Oper):Oper:=
 {o with after:=(o.after.filter (Region.binds .any)).map (fun e=>{e with on:=(π.idxOf? e.on).getD n}),guard:=o.guard.map fun g=>((π.idxOf? g.1).getD n,g.2)}
def permuted (π:List Nat) (ops:List Oper):List Oper:=π.map fun i=>match ops[i]? with
 |some o=>abg π ops.length o
 |none=>{dst:=none,op:= .move (.const .nilIface),type:=0,pos:= "",after:= #[],guard:=none}
def ah0 (cx:Cx K) (ops:List Oper) (bs:List Nat):List Nat:=
 match (List.range ops.length).foldl (fun acc i=>match ops[i]? with
  |some o=>if Rf cx o.op&&(!wH cx o.op&& !acc.contains i) then acc++((List.range ops.length).filter fun j=>(bs.getD i 0).testBit j&& !acc.contains j)++[i] else acc
  |none=>acc) [] with
 |acc=>acc++(List.range ops.length).filter fun j=> !acc.contains j
def Oy (cx:Cx K) (ops:List Oper) (π:List Nat) (st:St K):Option (St K):=
 if aae π ops.length then sH cx (permuted π ops) st else none
def abh (cx:Cx K) (ops:List Oper) (st:St K):Option (St K):=
 if nK ops 0 then match sH cx ops st with
  |some r=>some r
  |none=>Oy cx ops (ah0 cx ops (jv ops [])) st
 else match Oy cx ops (List.range ops.length) st with
  |some r=>some r
  |none=>Oy cx ops (ah0 cx ops (jv (permuted (List.range ops.length) ops) [])) st
def kR (cx:Cx K) (ops:List Oper) (draw:Bool) (st:St K):Option (St K):=
 if draw then abh cx ops st
 else match wI cx ops ops st [] with
  |some (st',wr)=>some ⟨lF st'.tm wr,st'.H,st'.ok⟩
  |none=>none
def writes : Code->List Nat
 | .region _ ops _=>ops.toList.filterMap (·.dst)
 | .seq a b=>writes a++writes b
 | .cond _ a b=>writes a++writes b
 | .block _ c=>writes c
 | .loop c=>writes c
 | .scope c=>writes c
 | .rangeFunc _ ps a c=>ps.toList++writes a++writes c
 |_=>[]
def simple (cx:Cx K):Code->Bool
 | .skip=>true
 | .region _ ops _=>ops.toList.all fun o=>iR cx o.op
 | .seq a b=>simple cx a&&simple cx b
 | .cond _ a b=>simple cx a&&simple cx b
 |_=>false
def lH (b:Bool) (wr:List Nat):Nat->List (AV K)->List (AV K)->List (AV K)->List (AV K)
 |n,v::r,x::s,y::t=>(if wr.contains n then merge b x y else v)::lH b wr (n+1) r s t
 |_,_,_,_=>[]
def dN (tm:List (AV K)):List Nat->List (AV K)->List (AV K)
 |d::r,v::s=>dN (tm.set d v) r s
 |_,_=>tm
def keyOf : Code->Nat
 | .region id _ _=>id
 | .seq a _=>keyOf a
 | .cond _ a _=>keyOf a
 | .block _ c=>keyOf c
 | .loop c=>keyOf c
 |_=>0
def inLoop (H:List (Ob K)) (vals:List (AV K)):Option (List Nat×List (AV K)×List (Ob K)):=
 if LX H (reach H 64 (aT vals) []) then match ahY (reach H 64 (aT vals) []) vals,G7 (ace (reach H 64 (aT vals) [])) ((reach H 64 (aT vals) []).map fun h=>H.getD h .dead) with
  |some Be,some Hi=>some (reach H 64 (aT vals) [],Be,Hi)
  |_,_=>none
 else none
def iP (m:List Nat) (n k:Nat):List Nat:=m++(List.range (k-m.length)).map (n+·)
def TJ (L:gZ K) (m:List Nat) (st:St K) (vs:List (AV K)) (Ho:List (Ob K)):Option (St K):=
 match ahZ (iP m st.H.length Ho.length) vs,G7 (LY (iP m st.H.length Ho.length)) Ho with
 |some vs',some V5=>if m.length<=Ho.length then some ⟨dN (List.replicate L.n .any) L.outs vs',lD st.H m (V5.take m.length)++V5.drop m.length,st.ok⟩ else none
 |_,_=>none
def afG (ops:List Oper):List Nat:=(ops.filterMap fun o=>match guardOf ops o with
 |some (some (g,_))=>some g
 |_=>none).eraseDups
def I5 (cx:Cx K) (ops:List Oper) (draw:Bool) (st:St K):List Nat->Option (Bool×St K×St K)
 | []=>none
 |t::r=>match kR {cx with gs:=some (t,true)} ops draw st,kR {cx with gs:=some (t,false)} ops draw st with
  |some s1,some s2=>match s1.tm.getD t .any with
   | .bool b=>some (b,s1,s2)
   |_=>I5 cx ops draw st r
  |_,_=>I5 cx ops draw st r
def xP : Ex->St K->Option (St K)
 | .normal,st=>some st
 |_,_=>none
def oL (cx:Cx K):Code->{R:Type}->St K->(Ex->St K->Option R)->Option R
 | .skip,_,st,k=>k .normal st
 | .region _ ops draw,_,st,k=>match kR cx ops.toList draw st with
   |some st'=>k .normal st'
   |none=>match I5 cx ops.toList draw st (afG ops.toList) with
    |some (b,s1,s2)=>cond b (k .normal s1) (k .normal s2)
    |none=>if (ops.toList.all fun o=>iR cx o.op)=true then none else match kR {cx with call:=cx.alt true,mode:=cx.Zt true} ops.toList draw st,kR {cx with call:=cx.alt false,mode:=cx.Zt false} ops.toList draw st with
     |some s1,some s2=>cx.orF (k .normal s1) (k .normal s2)
     |_,_=>none
 | .seq a b,_,st,k=>oL cx a st fun e s=>match e with
   | .normal=>oL cx b s k
   |e=>k e s
 | .cond c a b,_,st,k=>match CZ st.tm [] c with
   | .bool t=>if simple cx a&&simple cx b then
       match oL cx a st xP,oL cx b st xP with
       |some sa,some sb=>k .normal ⟨lH t (writes a++writes b) 0 st.tm sa.tm sb.tm,st.H,(sa.ok|| !t)&&(sb.ok||t)⟩
       |_,_=>none
     else cond t (oL cx a st k) (oL cx b st k)
   |_=>none
 | .block id c,_,st,k=>oL cx c st fun e s=>match e with
   | .exit i=>if i=id then k .normal s else k (.exit i) s
   |e=>k e s
 | .loop c,_,st,k=>match cx.loop (keyOf c) with
   |some L=>if st.tm.length=L.n then match inLoop st.H (L.ins.map fun t=>st.tm.getD t .any) with
     |some (m,vals,Hi)=>L.run vals Hi fun e vs Ho=>match TJ L m st vs Ho with
      |some st'=>k e st'
      |none=>none
     |none=>none else none
   |none=>none
 | .exit id,_,st,k=>k (.exit id) st
 | .ret,_,st,k=>k .ret st
 |_,_,_,_=>none
def Cb (cx:Cx K) (st:St K):List ResultVar->Option (List (AV K))
 | []=>some []
 | .tmp t::r=>match Cb cx st r with
   |some l=>some (st.tm.getD t .any::l)
   |none=>none
 | .cell a t::r=>match acn cx.P cx.D st.H t (st.tm.getD a .any),Cb cx st r with
   |some v,some l=>some (v::l)
   |_,_=>none
def resV (cx:Cx K) (fn:Func) (st:St K):Option (AV K):=
 match Cb cx st fn.results.toList with
 |some [v]=>some (ji st.H v)
 |some l=>some (.ik (Df st.H l))
 |none=>none
def abj {α β:Type} (f:α->Option β):List α->Option (List β)
 | []=>some []
 |x::r=>match f x,abj f r with
  |some y,some l=>some (y::l)
  |_,_=>none
def aaf (src:List (Option Nat)) (h:Nat):Option Nat:=src.idxOf? (some h)
def Rh (n0 n:Nat):Nat->List (Option Nat)->Bool
 |_,[]=>true
 |i,none::r=>decide (i<n0)&&Rh n0 n (i+1) r
 |i,some h::r=>decide (h<n)&&((decide (n0<=i)||decide (h=i))&&(!r.contains (some h)&&Rh n0 n (i+1) r))
def Vr (src:List (Option Nat)) (H:List (Ob K)):Option Nat->Option (Ob K)
 |none=>some .dead
 |some h=>match H[h]? with
  |some o=>LU (aaf src) o
  |none=>none
def YH (n0:Nat) (src:List (Option Nat)) (keep:List Nat) (st:St K):Option (St K):=
 if Rh n0 st.H.length 0 src&&decide (n0<=src.length) then
  match Hl (aaf src) (keep.map fun t=>st.tm.getD t .any),abj (Vr src st.H) src with
  |some vs,some H=>some ⟨dN (List.replicate st.tm.length .any) keep vs,H,st.ok⟩
  |_,_=>none
 else none
def Md (n0:Nat) (keep:List Nat) (st:St K):Option (St K):=
 YH n0 ((reach st.H 64 (List.range n0++aT (keep.map fun t=>st.tm.getD t .any)) []).map some) keep st
def Cc (cx:Cx K) (s:St K):Option (Bool×St K):=match abe s.H with
 |none=>some (true,s)
 |some _=>match shut cx.D s.H with
  |some (H',b,_)=>some (b,⟨s.tm,H',s.ok⟩)
  |none=>none
def YI (cx:Cx K) (n0:Nat) (keep outs:List Nat) (body:Code) (st:St K):Option (St K⊕Ex×St K):=
 oL cx body st fun e s=>cond s.ok (match e with
  | .normal=>match Cc cx s with
    |some (b,s1)=>cond b (match Md n0 keep s1 with
     |some s'=>some (.inl s')
     |none=>none) none
    |none=>none
  |e=>match Cc cx s with
   |some (b,s1)=>cond b (match Md n0 outs s1 with
    |some s'=>some (.inr (e,s'))
    |none=>none) none
   |none=>none) none
def aex (n0:Nat) (src:List (Option Nat)) (v:AV K) (H:List (Ob K)):Option (AV K×List (Ob K)):=
 if Rh n0 H.length 0 src&&decide (n0<=src.length) then
  match Og (aaf src) v,abj (Vr src H) src with
  |some v',some H'=>some (v',H')
  |_,_=>none
 else none
def pack (n0:Nat) (v:AV K) (H:List (Ob K)):Option (AV K×List (Ob K)):=
 aex n0 ((reach H 64 (List.range n0++hands v) []).map some) v H
def abk (H:List (Ob K)) (h:Nat):Bool:=match H[h]? with
 |some (.arr ..)=>false
 |some (.tree ..)=>false
 |_=>true
def aiG (n0:Nat) (v:AV K) (H:List (Ob K)):List (Option Nat):=
 ((List.range n0).map fun h=>cond (abk H h) (some h) none)++((reach H 64 ((List.range n0).filter (abk H)++hands v) []).filter fun h=> !(decide (h<n0)&&abk H h)).map some
def aco (mv:Bool) (n0:Nat) (v:AV K) (H:List (Ob K)):Option (AV K×List (Ob K)):=
 aex n0 (cond mv (aiG n0 v H) ((reach H 64 (List.range n0++hands v) []).map some)) v H
def aiH (cx:Cx K) (fn:Func) (n0:Nat) (e:Ex) (st:St K):Option (AV K×List (Ob K)):=
 match e with
 | .exit _=>none
 |_=>match resV cx fn st with
  |some v=>cond st.ok (pack n0 v st.H) none
  |none=>none
def ajM (cx:Cx K) (fn:Func) (args:List (AV K)) (H:List (Ob K)):Option (AV K×List (Ob K)):=
 match fn.body with
 |some c=>oL cx c ⟨args++List.replicate (fn.ntmps-args.length) .any,H,true⟩ (aiH cx fn H.length)
 |none=>none
end Go.V
