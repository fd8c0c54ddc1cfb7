/-
  A VALUE-LEVEL READING OF THE LOADED CODE: abstract values, objects, operations, and a function 'execC' that runs a body on them. Nothing here speaks of one program: the program is a parameter. The proofs that what it yields is what the machine does are in the texts that follow.
-/

import Derived.WalkKit
import Derived.KernelRfl
import Derived.Orders
namespace Go.V
open Go
structure Uni where
  U : Type
  El : U → Type
  deq : DecidableEq U
  sz : U → Nat
  zero : (c : U) → El c
inductive AV (K : Uni) where
  | any
  | int (k : IntKind) (n : Int)
  | bool (b : Bool)
  | str (s : List UInt8)
  | nilp
  | nilsl
  | fn (f : Nat) (caps : List (AV K))
  | ptr (h off : Nat)
  | sl (h : Nat)
  | ep (h st i off : Nat)
  | dsl (c : K.U) (l : List (K.El c))
  | rp (c : K.U) (x : K.El c) (off : Nat)
  | agg (l : List (AV K))
  | tup (l : List (AV K))
  | opt (g : Nat) (want : Bool) (v : AV K)
  | np (h : Nat)
  | vw (h st lo hi : Nat)

inductive Ob (K : Uni) where
  | dead
  | box (cells : List (AV K))
  | arr (c : K.U) (l : List (K.El c))
  | fro (c : K.U) (l : List (K.El c))
  | tree (c : K.U) (l : List (K.El c))
  | opn (c : K.U) (l : List (K.El c)) (i off : Nat) (cs : List (AV K))
structure Base where
  inv : (Nat → Prop) → World → Prop
  mono : ∀ {S S' : Nat → Prop} {w w' : World}, (∀ b, S b → S' b) → (∀ b, S b → w'.heap[b]? = w.heap[b]?) → inv S w → inv S' w'
def Base.triv : Base := ⟨fun _ _ => True, fun _ _ h => h⟩
structure Cod (K : Uni) where
  cells : (c : K.U) → K.El c → List (AV K)
  dec : (c : K.U) → List (AV K) → Option (K.El c × Bool)
  byte : (c : K.U) → Option ((K.El c → UInt8) × (UInt8 → K.El c))
  find : List (AV K) → Option K.U
  base : Base := Base.triv
  selfT : Option TypeId := none
  elT : K.U → Option TypeId := fun _ => none

variable {K : Uni}

def AV.toCells : AV K → List (AV K)
  | .agg l => l
  | v => [v]
def AV.known : AV K → Bool
  | .any | .opt .. => false
  | _ => true

def AV.isOpt : AV K → Bool
  | .opt .. => true
  | _ => false
def AV.one : AV K → Bool
  | .any | .opt .. | .agg _ | .tup _ | .vw .. => false
  | _ => true

structure St (K : Uni) where
  tm : List (AV K)
  H : List (Ob K)
  ok : Bool

inductive Ex where
  | normal
  | exit (id : Nat)
  | ret

def Ex.toExit : Ex → Exit
  | .normal => .normal
  | .exit id => .exit id
  | .ret => .ret
structure LoopD (K : Uni) where
  n : Nat
  ins : List Nat
  outs : List Nat
  run : {R : Type} → List (AV K) → List (Ob K) → (Ex → List (AV K) → List (Ob K) → Option R) → Option R
inductive Mode where
  | plain | lend | giveup | pass | passf | fresh
  deriving DecidableEq

structure Cx (K : Uni) where
  P : Program
  D : Cod K
  ty : TypeId → Option K.U
  call : FuncId → List (AV K) → List (Ob K) → Option (AV K × List (Ob K) × Bool)
  mode : FuncId → Mode
  loop : Nat → Option (LoopD K)
  sls : TypeId → List (Option K.U)
  cut : Bool := false
  rsl : List (List (Option K.U)) := []
  rany : List Bool := []
  mv : Bool := false
  deep : K.U → Bool := fun _ => false
  opn : Bool := false
  vws : Bool := false
  lz : Bool := false
  gs : Option (Nat × Bool) := none

def known (cx : Cx K) (g : Nat) : Option Bool := match cx.gs with
  | some (t, b) => if t = g then some b else none
  | none => none

/-! ### constants, operands -/

mutual
def ofVal : Value → Option (AV K)
  | .bool b => some (.bool b)
  | .int k n => some (.int k n)
  | .string s => some (.str s.data.toList)
  | .pointer none => some .nilp
  | .slice none 0 0 => some .nilsl
  | .agg cs => (ofVals cs.toList).map .agg
  | _ => none
def ofVals : List Value → Option (List (AV K))
  | [] => some []
  | v :: r => match ofVal v, ofVals r with
    | some x, some l => some (x :: l)
    | _, _ => none
end
def covers (tm : List (AV K)) : Nat → Nat × Bool → Nat × Bool → Bool
  | 0, g, t => g.1 == t.1 && g.2 == t.2
  | n + 1, g, t => (g.1 == t.1 && g.2 == t.2) || (match tm[g.1]? with
    | some (.opt g1 w1 _) => covers tm n (g1, w1) t
    | _ => false)

def evS (tm : List (AV K)) (gs : List (Nat × Bool)) : Operand → AV K
  | .tmp t => match tm[t]? with
    | some (.opt g w v) => if gs.any (fun p => covers tm 6 p (g, w)) then v else .any
    | some v => v
    | none => .any
  | .const v => (ofVal v).getD .any
  | .global _ => .any
  | .func f => .fn f []
def gval (tm : List (AV K)) : Nat → Nat × Bool → Option Bool
  | 0, _ => none
  | n + 1, (g, w) => match tm[g]? with
    | some (.bool b) => some (b == w)
    | some (.opt g1 w1 (.bool b)) => (gval tm n (g1, w1)).map fun e => e && (b == w)
    | _ => none

mutual
def merge (b : Bool) : AV K → AV K → AV K
  | .int k m, .int k' n => if k = k' then .int k (cond b m n) else .any
  | .bool m, .bool n => .bool (cond b m n)
  | .str m, .str n => .str (cond b m n)
  | .dsl c l, .dsl c' l' => match K.deq c c' with
    | .isTrue h => .dsl c' (cond b (h ▸ l) l')
    | .isFalse _ => .any
  | .agg l, .agg l' => if l.length = l'.length then .agg (merges b l l') else .any
  | .nilsl, .nilsl => .nilsl
  | .nilp, .nilp => .nilp
  | _, _ => .any
def merges (b : Bool) : List (AV K) → List (AV K) → List (AV K)
  | x :: r, y :: s => merge b x y :: merges b r s
  | _, _ => []
end

/-! ### arithmetic -/

def bitsV (op : BinOp) (k : IntKind) (x y : Int) : Int :=
  let a := BitVec.ofInt k.bits x
  let b := BitVec.ofInt k.bits y
  k.wrap ((match op with
    | .and => (a &&& b) | .or => (a ||| b) | .xor => (a ^^^ b) | _ => (a &&& ~~~b)).toNat)

def shlV (k : IntKind) (x y : Int) : Int := k.wrap (x * 2 ^ (min y.toNat k.bits))
def shrV (k : IntKind) (x y : Int) : Int := x.fdiv (2 ^ (min y.toNat k.bits))
def catB (a b : List UInt8) : Bool := decide (a.length + b.length ≤ 4611686018427387904)
def ltS (a b : List UInt8) : Bool := Op.bytesLess a b

def intV (op : BinOp) (k : IntKind) (a b : Int) : Option (AV K × Bool) :=
  match op with
  | .add => some (.int k (k.wrap (a + b)), true)
  | .sub => some (.int k (k.wrap (a - b)), true)
  | .mul => some (.int k (k.wrap (a * b)), true)
  | .quo => some (.int k (k.wrap (a.tdiv b)), b != 0)
  | .rem => some (.int k (a.tmod b), b != 0)
  | .and | .or | .xor | .andNot => some (.int k (bitsV op k a b), true)
  | .eql => some (.bool (a == b), true)
  | .neq => some (.bool (a != b), true)
  | .lss => some (.bool (decide (a < b)), true)
  | .leq => some (.bool (decide (a ≤ b)), true)
  | .gtr => some (.bool (decide (b < a)), true)
  | .geq => some (.bool (decide (b ≤ a)), true)
  | .shl | .shr => none

def strV (op : BinOp) (a b : List UInt8) : Option (AV K × Bool) :=
  match op with
  | .add => some (.str (a ++ b), catB a b)
  | .eql => some (.bool (a == b), true)
  | .neq => some (.bool (!(a == b)), true)
  | .lss => some (.bool (ltS a b), true)
  | .leq => some (.bool (ltS a b || a == b), true)
  | .gtr => some (.bool (!(ltS a b || a == b)), true)
  | .geq => some (.bool (!ltS a b), true)
  | _ => none

def isStrT (P : Program) (t : TypeId) : Bool := P.underlying t matches some .string
def isBoolT (P : Program) (t : TypeId) : Bool := P.underlying t matches some .bool

def unV (op : UnOp) : AV K → Option (AV K × Bool)
  | .bool b => match op with
    | .not => some (.bool (!b), true)
    | _ => none
  | .int k n => match op with
    | .neg => some (.int k (k.wrap (0 - n)), true)
    | .xor => some (.int k (bitsV .xor k (if k.signed then -1 else k.max) n), true)
    | _ => none
  | _ => none

/-! ### types -/

def szOf (P : Program) (t : TypeId) : Option Nat := (P.info? t).map (·.size)
def aggOf (P : Program) (t : TypeId) : Option Bool :=
  match P.underlying t with
  | some (.struct _) | some (.array _ _) => some true
  | some _ => some false
  | none => none
def fieldOf (P : Program) (t : TypeId) (f : Nat) : Option Field :=
  match P.underlying t with
  | some (.struct fs) => fs[f]?
  | _ => none
def elemOf? (P : Program) (t : TypeId) : Option TypeId :=
  match P.underlying t with
  | some (.slice e) => some e
  | _ => none
def zeroOf (P : Program) (t : TypeId) : Option (AV K) :=
  match P.info? t with
  | some i => match i.zero with
    | some v => ofVal v
    | none => none
  | none => none
def intKindOf (P : Program) (t : TypeId) : Option IntKind :=
  match P.underlying t with
  | some (.int k) => some k
  | _ => none
def takeT (P : Program) (t : TypeId) (cs : List (AV K)) (off : Nat) : Option (AV K) :=
  match aggOf P t, szOf P t with
  | some true, some n => if off + n ≤ cs.length then some (.agg ((cs.drop off).take n)) else none
  | some false, some _ => cs[off]?
  | _, _ => none
def eqFsA (P : Program) (rec : TypeId → AV K → AV K → Option Bool) (xs ys : List (AV K)) : List Field → Option Bool
  | [] => some true
  | f :: fs => if f.name = "_" then none else
    match takeT P f.type xs f.offset, takeT P f.type ys f.offset with
    | some a, some b => match rec f.type a b, eqFsA P rec xs ys fs with
      | some p, some q => some (p && q)
      | _, _ => none
    | _, _ => none
def eqA (P : Program) : Nat → TypeId → AV K → AV K → Option Bool
  | 0, _, _, _ => none
  | n + 1, t, .int k a, .int k' b => if k = k' then (match P.underlying t with
    | some (.int _) => some (a == b)
    | _ => none) else none
  | n + 1, t, .bool a, .bool b => (match P.underlying t with
    | some .bool => some (a == b)
    | _ => none)
  | n + 1, t, .str a, .str b => (match P.underlying t with
    | some .string => some (a == b)
    | _ => none)
  | n + 1, t, .agg xs, .agg ys => (match P.underlying t with
    | some (.struct fs) => if P.stoodInHeld t then none else eqFsA P (eqA P n) xs ys fs.toList
    | _ => none)
  | _ + 1, _, _, _ => none

def binV (P : Program) (op : BinOp) (t : TypeId) : AV K → AV K → Option (AV K × Bool)
  | .int k a, .int k' b => match op with
    | .shl => some (.int k (shlV k a b), decide (0 ≤ b))
    | .shr => some (.int k (shrV k a b), decide (0 ≤ b))
    | _ => if k = k' then intV op k a b else none
  | .bool a, .bool b => if isBoolT P t then (match op with
    | .eql => some (.bool (a == b), true)
    | .neq => some (.bool (!(a == b)), true)
    | _ => none) else none
  | .str a, .str b => strV op a b
  | .agg a, .agg b => match op with
    | .eql => if P.eqGuardType P.depth t then none else (eqA P 6 t (.agg a) (.agg b)).map fun e => (.bool e, true)
    | .neq => if P.eqGuardType P.depth t then none else (eqA P 6 t (.agg a) (.agg b)).map fun e => (.bool (!e), true)
    | _ => none
  | _, _ => none

def inB (n : Int) (len : Nat) : Bool := decide (0 ≤ n) && decide (n < len)
def slB (lo hi : Int) (len : Nat) : Bool := decide (0 ≤ lo) && (decide (lo ≤ hi) && decide (hi ≤ len))

mutual
def AV.closed : AV K → Bool
  | .int .. | .bool _ | .str _ | .nilp | .nilsl | .dsl .. | .rp .. | .any => true
  | .ptr .. | .sl _ | .ep .. | .opt .. | .np _ | .vw .. => false
  | .fn _ l | .agg l | .tup l => closeds l
def closeds : List (AV K) → Bool
  | [] => true
  | v :: r => v.closed && closeds r
end
def lendC (H : List (Ob K)) : AV K → AV K
  | .sl h => match H[h]? with
    | some (.arr c l) => .dsl c l
    | some (.fro c l) => .dsl c l
    | some (.tree c l) => .dsl c l
    | _ => .any
  | v => v

mutual
def lend (D : Cod K) (H : List (Ob K)) : AV K → AV K
  | .sl h => match H[h]? with
    | some (.arr c l) => .dsl c l
    | some (.fro c l) => .dsl c l
    | some (.tree c l) => .dsl c l
    | _ => .any
  | .ptr h off => match H[h]? with
    | some (.box cs) => match D.find (cs.map (lendC H)) with
      | some c => match D.dec c (cs.map (lendC H)) with
        | some (x, true) => .rp c x off
        | _ => .any
      | none => .any
    | _ => .any
  | .vw h st lo hi => match H[h]? with
    | some (.arr c l) => if st = K.sz c then .dsl c ((l.take hi).drop lo) else .any
    | some (.tree c l) => if st = K.sz c then .dsl c ((l.take hi).drop lo) else .any
    | _ => .any
  | .fn g l => .fn g (lends D H l)
  | .agg l => .agg (lends D H l)
  | .tup l => .tup (lends D H l)
  | v => v
def lends (D : Cod K) (H : List (Ob K)) : List (AV K) → List (AV K)
  | [] => []
  | v :: r => lend D H v :: lends D H r
end
def elems (H : List (Ob K)) (c : K.U) : AV K → Option (List (K.El c))
  | .nilsl => some []
  | .dsl c' l => match K.deq c' c with
    | .isTrue h => some (h ▸ l)
    | .isFalse _ => none
  | .sl h => match H[h]? with
    | some (.arr c' l) => match K.deq c' c with
      | .isTrue h => some (h ▸ l)
      | .isFalse _ => none
    | _ => none
  | _ => none

def setCells (cs : List (AV K)) (off : Nat) : List (AV K) → List (AV K)
  | [] => cs
  | v :: r => setCells (cs.set off v) (off + 1) r

mutual
def hands : AV K → List Nat
  | .ptr h _ | .sl h | .ep h _ _ _ | .np h | .vw h _ _ _ => [h]
  | .agg l | .tup l | .fn _ l => handss l
  | _ => []
def handss : List (AV K) → List Nat
  | [] => []
  | v :: r => hands v ++ handss r
end

/-! An owned slice that is given up: it can be read from then on. -/

def frz1 (H : List (Ob K)) (h : Nat) : List (Ob K) :=
  match H[h]? with
  | some (.arr c l) => H.set h (.fro c l)
  | some (.tree c l) => H.set h (.fro c l)
  | _ => H
def frzAll (H : List (Ob K)) : List Nat → List (Ob K)
  | [] => H
  | h :: r => frzAll (frz1 H h) r

mutual
def unfro (H : List (Ob K)) : AV K → AV K
  | .sl h => match H[h]? with
    | some (.fro c l) => .dsl c l
    | _ => .sl h
  | .agg l => .agg (unfros H l)
  | .tup l => .tup (unfros H l)
  | v => v
def unfros (H : List (Ob K)) : List (AV K) → List (AV K)
  | [] => []
  | v :: r => unfro H v :: unfros H r
end
def thaw (dp : K.U → Bool) (H : List (Ob K)) : List (Option K.U) → List (AV K) → List (AV K) × List (Ob K)
  | some c :: cs, .nilsl :: r => match thaw dp (H ++ [cond (dp c) (.tree c []) (.arr c [])]) cs r with
    | (l, H') => (.sl H.length :: l, H')
  | _ :: cs, v :: r => match thaw dp H cs r with
    | (l, H') => (v :: l, H')
  | [], l => (l, H)
  | _, [] => ([], H)
def thawR (dp : K.U → Bool) (H : List (Ob K)) : List (List (Option K.U)) → List (AV K) → List (AV K) × List (Ob K)
  | cs :: css, .agg l :: r => match thaw dp H cs l with
    | (l', H1) => match thawR dp H1 css r with
      | (s, H2) => (.agg l' :: s, H2)
  | cs :: css, v :: r => match thaw dp H cs [v] with
    | (l', H1) => match thawR dp H1 css r with
      | (s, H2) => (l'.headD v :: s, H2)
  | [], l => (l, H)
  | _, [] => ([], H)
def npHead : List (AV K) → Bool
  | .np _ :: _ => true
  | _ => false
def selfNp (b : Bool) (h : Nat) : List (AV K) → List (AV K)
  | .nilp :: r => cond b (.np h) .nilp :: r
  | l => l

mutual
def hasRead : AV K → Bool
  | .dsl .. | .rp .. => true
  | .agg l | .tup l | .fn _ l => hasReads l
  | _ => false
def hasReads : List (AV K) → Bool
  | [] => false
  | v :: r => hasRead v || hasReads r
end

/-! ### operations that leave the objects alone -/

def loadV (P : Program) (D : Cod K) (H : List (Ob K)) (t : TypeId) : AV K → Option (AV K)
  | .ptr h off => match H[h]? with
    | some (.box cs) => takeT P t cs off
    | _ => none
  | .rp c x off => takeT P t (D.cells c x) off
  | .ep h st i off => match H[h]? with
    | some (.arr c l) => if st = K.sz c then takeT P t (D.cells c (l.getD i (K.zero c))) off else none
    | some (.tree c l) => if st = K.sz c then (match takeT P t (D.cells c (l.getD i (K.zero c))) off with
        | some v => if hasRead v then none else some v
        | none => none) else none
    | _ => none
  | _ => none
def loadO (P : Program) (H : List (Ob K)) (t : TypeId) : AV K → Option (AV K × Bool)
  | .ep h st i off => match H[h]? with
    | some (.opn c l i' off' cs) => if st = K.sz c ∧ off' ≤ off then (match takeT P t (List.replicate off' .any ++ cs) off with
      | some v => some (v, decide (i = i'))
      | none => none) else none
    | _ => none
  | _ => none

def fieldAddrV (P : Program) (s : TypeId) (f : Nat) (x : AV K) : Option (AV K) :=
  match fieldOf P s f with
  | some fd => match szOf P fd.type with
    | some (_ + 1) => match x with
      | .ptr h off => some (.ptr h (off + fd.offset))
      | .rp c x off => some (.rp c x (off + fd.offset))
      | .ep h st i off => some (.ep h st i (off + fd.offset))
      | _ => none
    | _ => none
  | none => none

def indexAddrV (P : Program) (H : List (Ob K)) (t : TypeId) (x i : AV K) : Option (AV K × Bool) :=
  match elemOf? P t, i with
  | some e, .int _ n => match x with
    | .dsl c l => if szOf P e = some (K.sz c) then some (.rp c (l.getD n.toNat (K.zero c)) 0, inB n l.length) else none
    | .sl h => match H[h]? with
      | some (.arr c l) => if szOf P e = some (K.sz c) then some (.ep h (K.sz c) n.toNat 0, inB n l.length) else none
      | some (.tree c l) => if szOf P e = some (K.sz c) then some (.ep h (K.sz c) n.toNat 0, inB n l.length) else none
      | _ => none
    | _ => none
  | _, _ => none

def bndV (d : Int) : Option (AV K) → Option Int
  | none => some d
  | some (.int _ n) => some n
  | some _ => none

def sliceV (P : Program) (t : TypeId) (x : AV K) (lo hi : Option (AV K)) : Option (AV K × Bool) :=
  match P.underlying t, x with
  | some .string, .str s => match bndV 0 lo, bndV s.length hi with
    | some l, some h => some (.str ((s.take h.toNat).drop l.toNat), slB l h s.length)
    | _, _ => none
  | some (.slice e), .dsl c s => if szOf P e = some (K.sz c) then match bndV 0 lo, bndV s.length hi with
    | some l, some h => some (.dsl c ((s.take h.toNat).drop l.toNat), slB l h s.length)
    | _, _ => none else none
  | _, _ => none
def viewV (P : Program) (H : List (Ob K)) (t : TypeId) (x : AV K) (lo : Option (AV K)) (hi : AV K) : Option (AV K × Bool) :=
  match elemOf? P t, x with
  | some e, .sl h => match H[h]? with
    | some (.arr c l) => if szOf P e = some (K.sz c) then match bndV 0 lo, bndV l.length (some hi) with
      | some a, some b => some (.vw h (K.sz c) a.toNat b.toNat, slB a b l.length)
      | _, _ => none else none
    | some (.tree c l) => if szOf P e = some (K.sz c) then match bndV 0 lo, bndV l.length (some hi) with
      | some a, some b => some (.vw h (K.sz c) a.toNat b.toNat, slB a b l.length)
      | _, _ => none else none
    | _ => none
  | _, _ => none
def pureV (cx : Cx K) (ev : Operand → AV K) (H : List (Ob K)) : Op → Option (AV K × Bool)
  | .move x | .assign x => some (ev x, true)
  | .binOp op t x y _ => binV cx.P op t (ev x) (ev y)
  | .unOp op _ x => unV op (ev x)
  | .convert src dst x => match cx.P.underlying src, cx.P.underlying dst, ev x with
    | some _, some (.int k), .int _ n => some (.int k (k.wrap n), true)
    | some _, some .string, .str s => some (.str s, true)
    | some (.slice e), some .string, x => match cx.P.underlying e, cx.ty e with
      | some (.int .u8), some c => match cx.D.byte c, elems H c x with
        | some (f, _), some l => some (.str (l.map f), true)
        | _, _ => none
      | _, _ => none
    | _, _, _ => none
  | .extract t i => match ev t with
    | .tup l => (l[i]?).map fun v => (v, true)
    | _ => none
  | .fieldAddr s x f => (fieldAddrV cx.P s f (ev x)).map fun v => (v, true)
  | .load t p => match loadV cx.P cx.D H t (ev p) with
    | some v => some (v, true)
    | none => loadO cx.P H t (ev p)
  | .indexAddr t x i => indexAddrV cx.P H t (ev x) (ev i)
  | .index t x i => match cx.P.underlying t, ev x, ev i with
    | some .string, .str s, .int _ n => some (.int .u8 ((s.getD n.toNat 0).toNat : Int), inB n s.length)
    | _, _, _ => none
  | .slice t x lo hi none => match sliceV cx.P t (ev x) (lo.map ev) (hi.map ev) with
    | some r => some r
    | none => match hi with
      | some y => if cx.vws then viewV cx.P H t (ev x) (lo.map ev) (ev y) else none
      | none => none
  | .nilCheck x => match ev x with
    | .ptr h o => some (.ptr h o, true)
    | .rp c x o => some (.rp c x o, true)
    | .ep h s i o => some (.ep h s i o, true)
    | _ => none
  | .makeFunc (.func f) first caps => if first.isEmpty then some (.fn f (caps.toList.map ev), true) else none
  | .call { callee := .builtin .len, args, argTypes } => match args.toList, argTypes.toList with
    | [x], [t] => match cx.P.underlying t, ev x with
      | some .string, .str s => some (.int .i64 (s.length : Int), true)
      | some (.slice _), .nilsl => some (.int .i64 0, true)
      | some (.slice _), .dsl _ l => some (.int .i64 (l.length : Int), true)
      | some (.slice _), .vw _ _ a b => some (.int .i64 ((b - a : Nat) : Int), true)
      | some (.slice _), .sl h => match H[h]? with
        | some (.arr _ l) => some (.int .i64 (l.length : Int), true)
        | some (.tree _ l) => some (.int .i64 (l.length : Int), true)
        | _ => none
      | _, _ => none
    | _, _ => none
  | .call { callee := .builtin .min, args, .. } => match args.toList with
    | [x, y] => match ev x, ev y with
      | .int k a, .int k' b => if k = k' then some (.int k (cond (decide (b < a)) b a), true) else none
      | _, _ => none
    | _ => none
  | .call { callee := .builtin .max, args, .. } => match args.toList with
    | [x, y] => match ev x, ev y with
      | .int k a, .int k' b => if k = k' then some (.int k (cond (decide (a < b)) b a), true) else none
      | _, _ => none
    | _ => none
  | _ => none
def elOk (D : Cod K) (c : K.U) (e : TypeId) : Bool := match D.elT c with
  | none => true
  | some t => t == e
def tyE (cx : Cx K) (e : TypeId) : Option K.U := match cx.ty e with
  | some c => if elOk cx.D c e then some c else none
  | none => none

/-! ### operations that make or turn objects. What is yielded; the objects; a check; which objects were turned. -/

def room (e : TypeId) (P : Program) : Bool := match P.info? e with
  | some i => decide (i.bytes ≤ 4096)
  | none => false

def decAll (D : Cod K) (c : K.U) : List (AV K) → Option (List (K.El c) × Bool)
  | [] => some ([], true)
  | v :: r => match D.dec c v.toCells, decAll D c r with
    | some (x, b), some (l, b') => some (x :: l, b && b')
    | _, _ => none
def inOrder (ev : Operand → AV K) : Nat → List (Nat × Operand) → Option (List (AV K))
  | _, [] => some []
  | n, (i, x) :: r => if i = n then (inOrder ev (n + 1) r).map (ev x :: ·) else none

def placesOf (P : Program) (t : TypeId) : Option (List (Nat × Nat)) :=
  match P.underlying t with
  | some (.struct fs) => fs.toList.mapM (fun f => (P.info? f.type).map fun i => (f.offset, i.size))
  | _ => none

def fillV (places : List (Nat × Nat)) (ev : Operand → AV K) (cs : List (AV K)) : List (Nat × Operand) → Option (List (AV K))
  | [] => some cs
  | (i, x) :: r => match places[i]? with
    | some (off, n) => if (ev x).known = true ∧ (ev x).toCells.length = n ∧ off + n ≤ cs.length then fillV places ev (setCells cs off (ev x).toCells) r else none
    | none => none

def hasZero (P : Program) (t : TypeId) : Bool := match P.info? t with
  | some i => match i.zero with
    | some v => v.cells.size == i.size
    | none => false
  | none => false

def source (D : Cod K) (H : List (Ob K)) (c : K.U) : AV K → Option (List (K.El c))
  | .str s => match D.byte c with
    | some (_, g) => some (s.map g)
    | none => none
  | v => elems H c v

def appendV (cx : Cx K) (H : List (Ob K)) (sT : TypeId) (s x : AV K) : Option (AV K × List (Ob K) × Bool × List Nat) :=
  match elemOf? cx.P sT with
  | none => none
  | some e => match tyE cx e with
    | none => none
    | some c => if szOf cx.P e = some (K.sz c) ∧ room e cx.P = true ∧ hasZero cx.P e = true then
        match source cx.D H c x with
        | none => none
        | some m => match s with
          | .nilsl => some (.sl H.length, H ++ [.arr c m], decide (m.length ≤ 1073741824), [])
          | .sl h => match x with
            | .sl h' => if h = h' then none else match elems H c (.sl h) with
              | some l => some (.sl H.length, H.set h .dead ++ [.arr c (l ++ m)], decide (l.length + m.length ≤ 1073741824), [h])
              | none => none
            | _ => match elems H c (.sl h) with
              | some l => some (.sl H.length, H.set h .dead ++ [.arr c (l ++ m)], decide (l.length + m.length ≤ 1073741824), [h])
              | none => none
          | _ => none
      else none
def frzOf (ev : Operand → AV K) : Op → List Nat
  | .buildSlice _ _ parts => handss (parts.toList.map fun p => ev p.2)
  | .store _ p x => match ev p with
    | .ep .. => hands (ev x)
    | _ => []
  | .slice _ x _ _ _ => match ev x with
    | .sl h => [h]
    | _ => []
  | _ => []

def objV (cx : Cx K) (ev : Operand → AV K) (H : List (Ob K)) : Op → Option (AV K × List (Ob K) × Bool × List Nat)
  | .box t x => if (ev x).known then match thaw cx.deep H (cx.sls t) (ev x).toCells with
      | (cs, H1) => if npHead cs then none else some (.ptr H1.length 0, H1 ++ [.box cs], true, []) else none
  | .alloc t => match (zeroOf cx.P t : Option (AV K)) with
    | some z => if z.known then match thaw cx.deep H (cx.sls t) z.toCells with
      | (cs, H1) => if npHead cs then none else some (.ptr H1.length 0, H1 ++ [.box (selfNp (cx.D.selfT == some t) H1.length cs)], true, []) else none
    | none => none
  | .build t parts => match placesOf cx.P t, (zeroOf cx.P t : Option (AV K)) with
    | some ps, some z => if z.known then (fillV ps ev z.toCells parts.toList).map fun cs => (.agg cs, H, true, []) else none
    | _, _ => none
  | .store t p x => match szOf cx.P t with
    | some n => if (ev x).toCells.length = n ∧ (ev x).toCells.all AV.one = true then match ev p with
      | .ptr h off => match H[h]? with
        | some (.box cs) => if off + n ≤ cs.length then match thaw cx.deep H (cx.sls t) (ev x).toCells with
          | (xs, H1) => if npHead (setCells cs off xs) && !npHead cs then none else some (.any, H1.set h (.box (setCells cs off xs)), true, [h]) else none
        | _ => none
      | .ep h st i off => match H[h]? with
        | some (.arr c l) => if st = K.sz c ∧ closeds (ev x).toCells = true ∧ off + n ≤ K.sz c then
            match cx.D.dec c (setCells (cx.D.cells c (l.getD i (K.zero c))) off (ev x).toCells) with
            | some (y, b) => some (.any, H.set h (.arr c (l.set i y)), b, [h])
            | none => none
          else none
        | _ => none
      | _ => none else none
    | none => none
  | .makeSlice t len cap => match elemOf? cx.P t with
    | none => none
    | some e => match tyE cx e, (zeroOf cx.P e : Option (AV K)), ev len, ev cap with
      | some c, some z, .int _ n, .int _ m => if szOf cx.P e = some (K.sz c) ∧ room e cx.P = true ∧ closeds z.toCells = true ∧ z.known = true then
          match cx.D.dec c z.toCells with
          | some (y, b) => some (.sl H.length, H ++ [.arr c (List.replicate n.toNat y)], b && (decide (0 ≤ n) && (decide (n ≤ m) && decide (m ≤ 1073741824))), [])
          | none => none
        else none
      | _, _, _, _ => none
  | .buildSlice t len parts => match elemOf? cx.P t with
    | none => none
    | some e => match tyE cx e, inOrder ev 0 parts.toList with
      | some c, some l => if szOf cx.P e = some (K.sz c) ∧ hasZero cx.P e = true ∧ l.length = len ∧ len ≤ 4096 ∧ K.sz c ≤ 4096 ∧ l.all (fun v => closeds v.toCells && (v.known && decide (v.toCells.length = K.sz c))) = true then
          match decAll cx.D c l with
          | some (y, b) => some (.sl H.length, H ++ [.arr c y], b, [])
          | none => none
        else none
      | _, _ => none
  | .convert src dst x => match cx.P.underlying src, elemOf? cx.P dst, ev x with
    | some .string, some e, .str s => match cx.P.underlying e, tyE cx e with
      | some (.int .u8), some c => match cx.D.byte c with
        | some (_, g) => if szOf cx.P e = some (K.sz c) then some (.sl H.length, H ++ [.arr c (s.map g)], decide (s.length ≤ 1073741824), []) else none
        | none => none
      | _, _ => none
    | _, _, _ => none
  | .call { callee := .builtin .append, args, argTypes } => match args.toList, argTypes.toList with
    | [s, x], [sT, xT] => if (intKindOf cx.P xT).isSome || (cx.P.underlying xT).isNone then none else appendV cx H sT (ev s) (ev x)
    | _, _ => none
  | _ => none

/-! ### calls -/

mutual
def hasSl : AV K → Bool
  | .sl _ | .ptr .. | .ep .. | .np _ | .vw .. => true
  | .agg l | .tup l | .fn _ l => hasSls l
  | _ => false
def hasSls : List (AV K) → Bool
  | [] => false
  | v :: r => hasSl v || hasSls r
end


mutual
def reH (f : Nat → Option Nat) : AV K → Option (AV K)
  | .ptr h o => (f h).map (.ptr · o)
  | .sl h => (f h).map .sl
  | .np h => (f h).map .np
  | .ep h s i o => (f h).map (.ep · s i o)
  | .vw h s a b => (f h).map (.vw · s a b)
  | .fn g l => (reHs f l).map (.fn g)
  | .agg l => (reHs f l).map .agg
  | .tup l => (reHs f l).map .tup
  | .opt .. => none
  | v => some v
def reHs (f : Nat → Option Nat) : List (AV K) → Option (List (AV K))
  | [] => some []
  | v :: r => match reH f v, reHs f r with
    | some x, some l => some (x :: l)
    | _, _ => none
end
def ren (m : List Nat) : AV K → Option (AV K) := reH fun h => m.idxOf? h
def rens (m : List Nat) : List (AV K) → Option (List (AV K)) := reHs fun h => m.idxOf? h
def back (m : List Nat) : AV K → Option (AV K) := reH fun h => m[h]?
def backs (m : List Nat) : List (AV K) → Option (List (AV K)) := reHs fun h => m[h]?

def reOb (f : Nat → Option Nat) : Ob K → Option (Ob K)
  | .box cs => (reHs f cs).map .box
  | .opn .. => none
  | o => some o
def renOb (m : List Nat) : Ob K → Option (Ob K) := reOb fun h => m.idxOf? h
def backOb (m : List Nat) : Ob K → Option (Ob K) := reOb fun h => m[h]?
def allOb (f : Ob K → Option (Ob K)) : List (Ob K) → Option (List (Ob K))
  | [] => some []
  | o :: r => match f o, allOb f r with
    | some x, some l => some (x :: l)
    | _, _ => none
def reach (H : List (Ob K)) : Nat → List Nat → List Nat → List Nat
  | 0, _, acc => acc
  | _, [], acc => acc
  | n + 1, h :: r, acc => if acc.contains h then reach H n r acc else
      reach H n (r ++ (match H[h]? with | some (.box cs) => handss cs | _ => [])) (acc ++ [h])
def passOk (H : List (Ob K)) : List Nat → Bool
  | [] => true
  | h :: m => decide (h < H.length) && (!m.contains h && passOk H m)

def putBack : List (Ob K) → List Nat → List (Ob K) → List (Ob K)
  | H, h :: m, o :: r => putBack (H.set h o) m r
  | H, _, _ => H
def flatOb (D : Cod K) : Ob K → Bool
  | .arr c _ => !hasReads (D.cells c (K.zero c))
  | .tree .. => true
  | _ => false
def callP (cx : Cx K) (m : Mode) (H : List (Ob K)) (f : FuncId) (args : List (AV K)) : Option (AV K × List (Ob K) × Bool × List Nat) :=
  match m with
  | .plain => if closeds (lends cx.D H args) then match cx.call f (lends cx.D H args) [] with
      | some (r, [], c) => if r.closed && (!hasRead r || !hasSls args) then some (r, H, c, []) else none
      | _ => none else none
  | .lend => if closeds (lends cx.D H args) && !hasSls args then match cx.call f (lends cx.D H args) [] with
      | some (r, Hn, c) => match back ((List.range Hn.length).map (H.length + ·)) r, allOb (backOb ((List.range Hn.length).map (H.length + ·))) Hn with
        | some r', some Hn' => some (r', H ++ Hn', c, [])
        | _, _ => none
      | none => none else none
  | .fresh => if closeds (lends cx.D H args) then match cx.call f (lends cx.D H args) [] with
      | some (r, Hn, c) => if !hasRead r && Hn.all (flatOb cx.D) then match back ((List.range Hn.length).map (H.length + ·)) r, allOb (backOb ((List.range Hn.length).map (H.length + ·))) Hn with
        | some r', some Hn' => some (r', H ++ Hn', c, [])
        | _, _ => none else none
      | none => none else none
  | .giveup | .passf => none
  | .pass => if !passOk H (reach H 64 (handss args) []) then none else match rens (reach H 64 (handss args) []) args, allOb (renOb (reach H 64 (handss args) [])) ((reach H 64 (handss args) []).map fun h => H.getD h .dead) with
      | some args', some Hi => match cx.call f args' Hi with
        | some (r, Ho, c) =>
          match back (reach H 64 (handss args) [] ++ (List.range (Ho.length - Hi.length)).map (H.length + ·)) r, allOb (backOb (reach H 64 (handss args) [] ++ (List.range (Ho.length - Hi.length)).map (H.length + ·))) Ho with
          | some r', some Ho' => if Hi.length ≤ Ho.length then some (r', putBack H (reach H 64 (handss args) []) (Ho'.take Hi.length) ++ Ho'.drop Hi.length, c, reach H 64 (handss args) []) else none
          | _, _ => none
        | none => none
      | _, _ => none

def callF (cx : Cx K) (m : Mode) (H : List (Ob K)) (f : FuncId) (args : List (AV K)) : Option (AV K × List (Ob K) × Bool × List Nat) :=
  callP cx m (frzAll H (handss args)) f (unfros (frzAll H (handss args)) args)
def callV (q : Bool) (cx : Cx K) (H : List (Ob K)) (f : FuncId) (args : List (AV K)) : Option (AV K × List (Ob K) × Bool × List Nat) :=
  match cx.mode f with
  | .plain => callP cx .plain H f args
  | .giveup => match callP cx .plain H f args with
    | some r => some r
    | none => if q then none else callF cx .plain H f args
  | .lend => if q then none else callF cx .lend H f args
  | .pass => if q then none else callP cx .pass H f args
  | .passf => if q then none else callF cx .pass H f args
  | .fresh => if q then none else match callP cx .lend H f args with
    | some r => some r
    | none => match callP cx .fresh H f args with
      | some r => some r
      | none => callF cx .lend H f args

/-! ### deep objects -/

def nodupN : List Nat → Bool
  | [] => true
  | x :: r => !r.contains x && nodupN r
def giveC (D : Cod K) (H : List (Ob K)) : AV K → Option (AV K)
  | .sl h => match H[h]? with
    | some (.arr c l) => if hasReads (D.cells c (K.zero c)) then none else some (.dsl c l)
    | some (.tree c l) => some (.dsl c l)
    | _ => none
  | .nilsl => some .nilsl
  | .int k n => some (.int k n)
  | .bool b => some (.bool b)
  | .str s => some (.str s)
  | .nilp => some .nilp
  | _ => none
def giveCs (D : Cod K) (H : List (Ob K)) : List (AV K) → Option (List (AV K))
  | [] => some []
  | v :: r => match giveC D H v, giveCs D H r with
    | some x, some l => some (x :: l)
    | _, _ => none
def giveAll (D : Cod K) (H : List (Ob K)) : List (AV K) → Option (List (AV K))
  | [] => some []
  | v :: r => match giveCs D H v.toCells, giveAll D H r with
    | some cs, some l => some (.agg cs :: l)
    | _, _ => none
def killAll (H : List (Ob K)) : List Nat → List (Ob K)
  | [] => H
  | h :: r => killAll (H.set h .dead) r
def deepEl (H : List (Ob K)) (c : K.U) : AV K → Option (List (K.El c) × List Nat)
  | .nilsl => some ([], [])
  | .sl h => match H[h]? with
    | some (.tree c' l) => match K.deq c' c with
      | .isTrue e => some (e ▸ l, [h])
      | .isFalse _ => none
    | _ => none
  | _ => none
def deepV (cx : Cx K) (ev : Operand → AV K) (H : List (Ob K)) : Op → Option (AV K × List (Ob K) × Bool × List Nat)
  | .makeSlice t len cap => match elemOf? cx.P t with
    | none => none
    | some e => match tyE cx e, (zeroOf cx.P e : Option (AV K)), ev len, ev cap with
      | some c, some z, .int _ n, .int _ m => if cx.deep c = true ∧ szOf cx.P e = some (K.sz c) ∧ room e cx.P = true ∧ z.known = true then
          match giveCs cx.D [] z.toCells with
          | some zs => match cx.D.dec c zs with
            | some (y, b) => some (.sl H.length, H ++ [.tree c (List.replicate n.toNat y)], b && (decide (0 ≤ n) && (decide (n ≤ m) && decide (m ≤ 1073741824))), [])
            | none => none
          | none => none
        else none
      | _, _, _, _ => none
  | .buildSlice t len parts => match elemOf? cx.P t with
    | none => none
    | some e => match tyE cx e, inOrder ev 0 parts.toList with
      | some c, some l => if cx.deep c = true ∧ szOf cx.P e = some (K.sz c) ∧ hasZero cx.P e = true ∧ l.length = len ∧ len ≤ 4096 ∧ K.sz c ≤ 4096 ∧ l.all (fun v => v.known && decide (v.toCells.length = K.sz c)) = true ∧ nodupN (handss l) = true then
          match giveAll cx.D H l with
          | some l' => match decAll cx.D c l' with
            | some (y, b) => some (.sl H.length, killAll H (handss l) ++ [.tree c y], b, handss l)
            | none => none
          | none => none
        else none
      | _, _ => none
  | .store t p x => match ev p, szOf cx.P t with
    | .ep h st i off, some n => match H[h]? with
      | some (.tree c l) => if st = K.sz c ∧ off + n ≤ K.sz c ∧ (ev x).toCells.length = n ∧ (ev x).toCells.all AV.one = true ∧ nodupN (h :: handss (ev x).toCells) = true then
          match giveCs cx.D H (ev x).toCells with
          | some xs => match cx.D.dec c (setCells (cx.D.cells c (l.getD i (K.zero c))) off xs) with
            | some (y, b) => some (.any, (killAll H (h :: handss (ev x).toCells)).set h (.tree c (l.set i y)), b, h :: handss (ev x).toCells)
            | none => none
          | none => none
        else none
      | some (.opn c l i' off' cs) => if st = K.sz c ∧ off = off' ∧ n = cs.length ∧ (ev x).toCells.length = n ∧ (ev x).toCells.all AV.one = true ∧ nodupN (h :: handss (ev x).toCells) = true then
          match giveCs cx.D H (ev x).toCells with
          | some xs => match cx.D.dec c (setCells (cx.D.cells c (l.getD i (K.zero c))) off xs) with
            | some (y, b) => some (.any, (killAll H (h :: handss (ev x).toCells)).set h (.tree c (l.set i y)), b && decide (i = i'), h :: handss (ev x).toCells)
            | none => none
          | none => none
        else none
      | _ => none
    | _, _ => none
  | .call { callee := .builtin .append, args, argTypes } => match args.toList, argTypes.toList with
    | [s, x], [sT, xT] => if (intKindOf cx.P xT).isSome || (cx.P.underlying xT).isNone then none else match elemOf? cx.P sT with
      | none => none
      | some e => match tyE cx e with
        | none => none
        | some c => if cx.deep c = true ∧ szOf cx.P e = some (K.sz c) ∧ room e cx.P = true ∧ hasZero cx.P e = true then
            match deepEl H c (ev s), deepEl H c (ev x) with
            | some (l, hs), some (m, hs') => if nodupN (hs ++ hs') then some (.sl H.length, killAll H (hs ++ hs') ++ [.tree c (l ++ m)], decide (l.length + m.length ≤ 1073741824), hs ++ hs') else none
            | _, _ => none
          else none
    | _, _ => none
  | _ => none
def openCs (D : Cod K) (dp : K.U → Bool) : Nat → List (AV K) → Option (List (AV K) × List (Ob K))
  | _, [] => some ([], [])
  | n, .dsl c l :: r => if dp c || !hasReads (D.cells c (K.zero c)) then match openCs D dp (n + 1) r with
      | some (cs, os) => some (.sl n :: cs, cond (dp c) (.tree c l) (.arr c l) :: os)
      | none => none
    else none
  | n, v :: r => match openCs D dp n r with
      | some (cs, os) => some (v :: cs, os)
      | none => none
def openV (cx : Cx K) (ev : Operand → AV K) (H : List (Ob K)) : Op → Option (AV K × List (Ob K) × Bool × List Nat)
  | .load t p => if cx.opn then match ev p, aggOf cx.P t, szOf cx.P t with
      | .ep h st i off, some ag, some n => match H[h]? with
        | some (.tree c l) => if st = K.sz c ∧ off + n ≤ K.sz c ∧ 0 < n then match openCs cx.D cx.deep H.length (((cx.D.cells c (l.getD i (K.zero c))).drop off).take n) with
            | some (cs, os) => some (cond ag (.agg cs) (cs.getD 0 .any), H.set h (.opn c l i off cs) ++ os, true, [h])
            | none => none
          else none
        | _ => none
      | _, _, _ => none
    else none
  | _ => none
def opnIdx : List (Ob K) → Option Nat
  | [] => none
  | .opn .. :: _ => some 0
  | _ :: r => (opnIdx r).map (· + 1)
def shut (D : Cod K) (H : List (Ob K)) : Option (List (Ob K) × Bool × List Nat) :=
  match opnIdx H with
  | none => some (H, true, [])
  | some h => match H[h]? with
    | some (.opn c l i off cs) => if nodupN (h :: handss cs) = true then match giveCs D H cs with
        | some xs => match D.dec c (setCells (D.cells c (l.getD i (K.zero c))) off xs) with
          | some (y, b) => some ((killAll H (h :: handss cs)).set h (.tree c (l.set i y)), b, h :: handss cs)
          | none => none
        | none => none
      else none
    | _ => none
def callO (q : Bool) (cx : Cx K) (H : List (Ob K)) (f : FuncId) (args : List (AV K)) : Option (AV K × List (Ob K) × Bool × List Nat) :=
  if cx.opn && !cx.lz && !q then match callV q cx H f args with
    | some (r, H1, c, t) => match shut cx.D H1 with
      | some (H2, b, t2) => some (r, H2, c && b, t ++ t2)
      | none => none
    | none => none
  else callV q cx H f args

/-! ### regions -/
def guardOf (ops : List Oper) (o : Oper) : Option (Option (Nat × Bool)) :=
  match o.guard with
  | none => some none
  | some (j, w) => match ops[j]? with
    | some g => match g.dst with
      | some t => some (some (t, w))
      | none => none
    | none => none

def putV (st : St K) (wr : List Nat) (dst : Option Nat) (v : AV K) (H : List (Ob K)) (ok : Bool) : Option (St K × List Nat) :=
  match dst with
  | none => some (⟨st.tm, H, ok⟩, wr)
  | some d => if wr.contains d || decide (st.tm.length ≤ d) then none else some (⟨st.tm.set d v, H, ok⟩, d :: wr)
def objF (cx : Cx K) (ev : Operand → AV K) (H : List (Ob K)) (op : Op) : Option (AV K × List (Ob K) × Bool × List Nat) :=
  match deepV cx (fun x => unfro H (ev x)) H op with
  | some r => some r
  | none => match frzOf ev op with
  | [] => objV cx (fun x => unfro H (ev x)) H op
  | hs => match pureV cx (fun x => unfro (frzAll H hs) (ev x)) (frzAll H hs) op with
    | some (v, c) => some (v, frzAll H hs, c, [])
    | none => objV cx (fun x => unfro (frzAll H hs) (ev x)) (frzAll H hs) op

def nilConst : Operand → Bool
  | .const (.slice none 0 0) => true
  | _ => false
def simpleOp (cx : Cx K) : Op → Bool
  | .assign x => !nilConst x
  | .slice t .. => isStrT cx.P t
  | .load t _ => !cx.opn || (cx.lz && (cx.sls t).all Option.isNone)
  | .makeFunc .. | .move _ | .pick .. | .binOp .. | .unOp .. | .extract .. | .fieldAddr .. | .indexAddr .. | .index .. | .nilCheck _ => true
  | .convert _ dst _ => (elemOf? cx.P dst).isNone
  | .call { callee := .builtin .len, .. } | .call { callee := .builtin .min, .. } | .call { callee := .builtin .max, .. } => true
  | .call { callee := .value (.func f), .. } => cx.mode f == .plain && (!cx.opn || cx.lz)
  | _ => false
def cutV (cx : Cx K) (ev : Operand → AV K) (H : List (Ob K)) : Op → Option (AV K × List (Ob K) × Bool × List Nat)
  | .slice t x none (some y) none => if cx.cut then match ev x, ev y, elemOf? cx.P t with
    | .sl h, .int _ n, some e => match H[h]? with
      | some (.arr c l) => if szOf cx.P e = some (K.sz c) then some (.sl H.length, H.set h .dead ++ [.arr c (l.take n.toNat)], slB 0 n l.length, [h]) else none
      | some (.tree c l) => if szOf cx.P e = some (K.sz c) then some (.sl H.length, H.set h .dead ++ [.tree c (l.take n.toNat)], slB 0 n l.length, [h]) else none
      | _ => none
    | _, _, _ => none else none
  | .slice t x (some y) none none => if cx.cut then match ev x, ev y, elemOf? cx.P t with
    | .sl h, .int _ n, some e => match H[h]? with
      | some (.arr c l) => if szOf cx.P e = some (K.sz c) ∧ cx.D.elT c = none then some (.sl H.length, H.set h .dead ++ [.arr c (l.drop n.toNat)], slB n l.length l.length, [h]) else none
      | some (.tree c l) => if szOf cx.P e = some (K.sz c) ∧ cx.D.elT c = none then some (.sl H.length, H.set h .dead ++ [.tree c (l.drop n.toNat)], slB n l.length l.length, [h]) else none
      | _ => none
    | _, _, _ => none else none
  | _ => none
def froV (cx : Cx K) (ev : Operand → AV K) (H : List (Ob K)) : Op → Option (AV K × List (Ob K) × Bool × List Nat)
  | .buildSlice t len parts => match elemOf? cx.P t with
    | none => none
    | some e => match cx.ty e, inOrder ev 0 parts.toList with
      | some c, some l => if szOf cx.P e = some (K.sz c) ∧ hasZero cx.P e = true ∧ l.length = len ∧ len ≤ 4096 ∧ K.sz c ≤ 4096 ∧ l.all (fun v => closeds v.toCells && (v.known && decide (v.toCells.length = K.sz c))) = true then
          match decAll cx.D c l with
          | some (y, b) => some (.dsl c y, H, b, [])
          | none => none
        else none
      | _, _ => none
  | _ => none
def yieldV (q : Bool) (cx : Cx K) (tm : List (AV K)) (gs : List (Nat × Bool)) (H : List (Ob K)) (T : TypeId) : Op → Option (AV K × List (Ob K) × Bool × List Nat)
  | .pick c x y => match c, evS tm gs c with
    | .tmp t, .bool b => match known cx t with
      | some b0 => some (cond b0 (evS tm gs x) (evS tm gs y), H, b == b0, [])
      | none => some (merge b (evS tm ((t, true) :: gs) x) (evS tm ((t, false) :: gs) y), H, true, [])
    | .const _, .bool b => some (merge b (evS tm gs x) (evS tm gs y), H, true, [])
    | _, _ => none
  | .call { callee := .value f, args, .. } => match evS tm gs f with
    | .fn g caps => callO q cx H g (args.toList.map (fun x => unfro H (evS tm gs x)) ++ caps)
    | _ => none
  | .assign x => if !q && nilConst x then match elemOf? cx.P T with
      | some e => match cx.ty e with
        | some c => some (.sl H.length, H ++ [cond (cx.deep c) (.tree c []) (.arr c [])], true, [])
        | none => some (evS tm gs x, H, true, [])
      | none => some (evS tm gs x, H, true, [])
    else some (unfro H (evS tm gs x), H, true, [])
  | op => match pureV cx (fun x => unfro H (evS tm gs x)) H op with
    | some (v, c) => some (v, H, c, [])
    | none => if q then froV cx (fun x => unfro H (evS tm gs x)) H op else if simpleOp cx op then none else match openV cx (evS tm gs) H op with
      | some r => some r
      | none => match cutV cx (evS tm gs) H op with
      | some r => some r
      | none => objF cx (evS tm gs) H op
def quietOp (cx : Cx K) : Op → Bool
  | .assign _ => true
  | .slice t .. => !cx.cut || isStrT cx.P t
  | .call { callee := .value (.func f), .. } => cx.mode f == .plain || cx.mode f == .giveup
  | op => simpleOp cx op
def guardOp (cx : Cx K) : Op → Bool
  | .buildSlice .. => true
  | op => quietOp cx op
def slotV (q : Bool) (cx : Cx K) (ops : List Oper) (tm : List (AV K)) (H : List (Ob K)) (wr : List Nat) (o : Oper) : Option (AV K × List (Ob K) × Bool) :=
  match guardOf ops o with
  | none => none
  | some none => match yieldV q cx tm [] H o.type o.op with
    | some (v, H', c, _) => if v.isOpt then none else some (v, H', c)
    | none => none
  | some (some (g, w)) => match known cx g with
    | some b0 => match tm[g]? with
      | some (.bool b) => if b0 = w then match yieldV q cx tm [] H o.type o.op with
          | some (v, H', c, _) => if v.isOpt then none else some (v, H', c && (b == b0))
          | none => none
        else some (.any, H, b == b0)
      | _ => none
    | none => match gval tm 6 (g, w) with
      | none => none
      | some b => if guardOp cx o.op && wr.contains g then match yieldV true cx tm [(g, w)] H o.type o.op with
          | some (v, _, c, _) => some (.opt g w v, H, c || !b)
          | none => none else none

def stepV (cx : Cx K) (ops : List Oper) (st : St K) (wr : List Nat) (o : Oper) : Option (St K × List Nat) :=
  match slotV false cx ops st.tm st.H wr o with
  | some (v, H', c) => putV st wr o.dst v H' (c && st.ok)
  | none => none

def runOps (cx : Cx K) (ops : List Oper) : List Oper → St K → List Nat → Option (St K × List Nat)
  | [], st, wr => some (st, wr)
  | o :: r, st, wr => match stepV cx ops st wr o with
    | some (st', wr') => runOps cx ops r st' wr'
    | none => none

def wipeOpt (tm : List (AV K)) : List Nat → List (AV K)
  | [] => tm
  | d :: r => match tm[d]? with
    | some (.opt ..) => wipeOpt (tm.set d .any) r
    | _ => wipeOpt tm r

/-! An order is left open: each operation is read with no more than what it waits for. -/
def befores : List Oper → List Nat → List Nat
  | [], acc => acc
  | o :: r, acc => befores r (acc ++ [o.after.toList.foldl (fun s e => s ||| 2 ^ e.on ||| acc.getD e.on 0) 0])
def maskTm (bits : Nat) : List Oper → Nat → List (AV K) → List (AV K)
  | [], _, tm => tm
  | o :: r, i, tm => maskTm bits r (i + 1) (match o.dst with
    | some d => if bits.testBit i then tm else tm.set d .any
    | none => tm)

def afterB (i : Nat) : Nat → List Nat → Nat
  | _, [] => 0
  | k, b :: r => (cond (b.testBit i) (2 ^ k) 0) ||| afterB i (k + 1) r
def seeB (bs : List Nat) (i : Nat) : Nat := bs.getD i 0 ||| afterB i 0 bs

def runDraw (cx : Cx K) (ops : List Oper) (bs : List Nat) : List Oper → Nat → St K → List Nat → Option (St K × List Nat)
  | [], _, st, wr => some (st, wr)
  | o :: r, i, st, wr => match slotV true cx ops (maskTm (seeB bs i) ops 0 st.tm) st.H wr o with
    | some (v, _, c) => match putV st wr o.dst v st.H (c && st.ok) with
      | some (st', wr') => runDraw cx ops bs r (i + 1) st' wr'
      | none => none
    | none => none

def edgesOk : List Oper → Nat → Bool
  | [], _ => true
  | o :: r, i => (o.after.toList.all fun e => decide (e.on < i) && Region.binds .any e) && edgesOk r (i + 1)

/-! An order is left open, and operations make or turn objects: each is read with no more than what it waits for. -/
def maskH (bits : Nat) : Nat → List (Ob K) → List (Ob K)
  | _, [] => []
  | i, o :: r => (if bits.testBit i then .dead else o) :: maskH bits (i + 1) r
def mixH (bits : Nat) : Nat → List (Ob K) → List (Ob K) → List (Ob K)
  | i, o :: r, o' :: r' => (if bits.testBit i then o else o') :: mixH bits (i + 1) r r'
  | _, [], r' => r'
  | _, _ :: _, [] => []
mutual
def AV.upto (n : Nat) : AV K → Bool
  | .ptr h _ | .sl h | .ep h _ _ _ | .np h | .vw h _ _ _ => decide (h < n)
  | .fn _ l | .agg l | .tup l => uptos n l
  | .opt _ _ v => v.upto n
  | _ => true
def uptos (n : Nat) : List (AV K) → Bool
  | [] => true
  | v :: r => v.upto n && uptos n r
end
def Ob.upto (n : Nat) : Ob K → Bool
  | .box cs => uptos n cs
  | .opn _ _ _ _ cs => uptos n cs
  | _ => true
def touchOf (ev : Operand → AV K) (op : Op) : List Nat :=
  frzOf ev op ++ (match op with
    | .store _ p _ => hands (ev p)
    | .call { callee := .builtin .append, args, .. } => (match args.toList with
      | s :: x :: _ => hands (ev s) ++ hands (ev x)
      | [s] => hands (ev s)
      | [] => [])
    | _ => [])
def effOp (cx : Cx K) : Op → Bool
  | .box .. | .alloc _ | .build .. | .store .. | .makeSlice .. | .buildSlice .. | .convert .. | .slice .. => true
  | .call { callee := .builtin .append, .. } => true
  | .call { callee := .value (.func f), .. } => (cx.mode f == .fresh || (cx.mode f == .pass || cx.mode f == .passf)) && (!cx.opn || cx.lz)
  | .load .. => cx.opn && cx.lz
  | _ => false
def callArgs (ev : Operand → AV K) : Op → List Nat
  | .call { callee := .value _, args, .. } => handss (args.toList.map ev)
  | _ => []
def passArgs (cx : Cx K) (H : List (Ob K)) (ev : Operand → AV K) : Op → List Nat
  | .call { callee := .value (.func f), args, .. } => (match cx.mode f with
    | .pass => reach H 64 (handss (args.toList.map fun y => unfro H (ev y))) []
    | .passf => handss (args.toList.map fun y => unfro H (ev y)) ++ reach (frzAll H (handss (args.toList.map fun y => unfro H (ev y)))) 64 (handss (unfros (frzAll H (handss (args.toList.map fun y => unfro H (ev y)))) (args.toList.map fun y => unfro H (ev y)))) []
    | _ => [])
  | _ => []

def bitsOf : List Nat → Nat
  | [] => 0
  | h :: r => 2 ^ h ||| bitsOf r
def slotF (cx : Cx K) (ops : List Oper) (tm : List (AV K)) (H : List (Ob K)) (wr : List Nat) (o : Oper) : Option (AV K × List (Ob K) × Bool) :=
  if quietOp cx o.op then slotV true cx ops tm H wr o else if effOp cx o.op then slotV false cx ops tm H wr o else none
def touchF (cx : Cx K) (tm : List (AV K)) (H : List (Ob K)) (op : Op) : List Nat := if quietOp cx op then [] else match op with
  | .load t p => (match pureV cx (fun x => unfro H (evS tm [] x)) H (.load t p) with
    | some _ => []
    | none => hands (evS tm [] p))
  | op => (touchOf (evS tm []) op ++ callArgs (evS tm []) op) ++ passArgs cx H (evS tm []) op
def maskOf (A : Nat) : Nat → List Nat → Nat
  | _, [] => 0
  | k, b :: r => (if A.testBit k then 0 else b) ||| maskOf A (k + 1) r
def readersOk (A : Nat) (T : List Nat) : Nat → List (Nat × Nat) → Bool
  | _, [] => true
  | i, (m, n) :: r => (A.testBit i || T.all fun h => decide (n ≤ h) || m.testBit h) && readersOk A T (i + 1) r
def leanOf : Op → Option (List Operand)
  | .slice _ x _ _ _ => some [x]
  | .move _ => some []
  | .load _ p => some [p]
  | .fieldAddr .. => some []
  | .indexAddr _ x _ => some [x]
  | .nilCheck _ => some []
  | .store _ p x => some [p, x]
  | .binOp .. => some []
  | .unOp .. => some []
  | _ => none
def hideF (tm : List (AV K)) (n : Nat) (op : Op) : Nat :=
  match leanOf op with
  | none => 0
  | some l => bitsOf ((List.range n).filter fun h => !(handss (l.map (evS tm []))).contains h)
def maskF (bs ws : List Nat) (i : Nat) (tm : List (AV K)) (n : Nat) (op : Op) : Nat := maskOf (bs.getD i 0) 0 ws ||| hideF tm n op
def runFree (cx : Cx K) (ops : List Oper) (bs : List Nat) : List Oper → Nat → St K → List Nat → List (Nat × Nat) → List Nat → Option (St K × List Nat)
  | [], _, st, wr, _, _ => some (st, wr)
  | o :: r, i, st, wr, ms, ws =>
    if uptos st.H.length (maskTm (seeB bs i) ops 0 st.tm) && (maskH (maskF bs ws i (maskTm (seeB bs i) ops 0 st.tm) st.H.length o.op) 0 st.H).all (Ob.upto st.H.length) then
      match slotF cx ops (maskTm (seeB bs i) ops 0 st.tm) (maskH (maskF bs ws i (maskTm (seeB bs i) ops 0 st.tm) st.H.length o.op) 0 st.H) wr o with
      | none => none
      | some (v, H', c) =>
        if (readersOk (bs.getD i 0) (touchF cx (maskTm (seeB bs i) ops 0 st.tm) (maskH (maskF bs ws i (maskTm (seeB bs i) ops 0 st.tm) st.H.length o.op) 0 st.H) o.op) 0 ms && (touchF cx (maskTm (seeB bs i) ops 0 st.tm) (maskH (maskF bs ws i (maskTm (seeB bs i) ops 0 st.tm) st.H.length o.op) 0 st.H) o.op).all fun h => !(maskF bs ws i (maskTm (seeB bs i) ops 0 st.tm) st.H.length o.op).testBit h && decide (h < st.H.length)) && decide (st.H.length ≤ H'.length) then
          match putV st wr o.dst v (mixH (maskF bs ws i (maskTm (seeB bs i) ops 0 st.tm) st.H.length o.op) 0 st.H H') (c && st.ok) with
          | some (st', wr') => runFree cx ops bs r (i + 1) st' wr' (ms ++ [(maskF bs ws i (maskTm (seeB bs i) ops 0 st.tm) st.H.length o.op, st.H.length)])
              (ws ++ [bitsOf (touchF cx (maskTm (seeB bs i) ops 0 st.tm) (maskH (maskF bs ws i (maskTm (seeB bs i) ops 0 st.tm) st.H.length o.op) 0 st.H) o.op ++ List.range' st.H.length (H'.length - st.H.length))])
          | none => none
        else none
    else none
def runDrawn (cx : Cx K) (ops : List Oper) (st : St K) : Option (St K) :=
  if (ops.all fun o => quietOp cx o.op) && edgesOk ops 0 then match runDraw cx ops (befores ops []) ops 0 st [] with
      | some (st', wr) => some ⟨wipeOpt st'.tm wr, st'.H, st'.ok⟩
      | none => none
    else if edgesOk ops 0 then match runFree cx ops (befores ops []) ops 0 st [] [] [] with
      | some (st', wr) => some ⟨wipeOpt st'.tm wr, st'.H, st'.ok⟩
      | none => none
    else none

/-! The operations in another order. -/

def permB (π : List Nat) (n : Nat) : Bool := decide (π.length = n) && (π.all (fun i => decide (i < n)) && ((List.range n).all (fun i => π.contains i) && nodupN π))
def reIx (π : List Nat) (n : Nat) (o : Oper) : Oper :=
  { o with after := (o.after.filter (Region.binds .any)).map (fun e => { e with on := (π.idxOf? e.on).getD n }), guard := o.guard.map fun g => ((π.idxOf? g.1).getD n, g.2) }
def permuted (π : List Nat) (ops : List Oper) : List Oper := π.map fun i => match ops[i]? with
  | some o => reIx π ops.length o
  | none => { dst := none, op := .move (.const .nilIface), type := 0, pos := "", after := #[], guard := none }
def ordF (cx : Cx K) (ops : List Oper) (bs : List Nat) : List Nat :=
  match (List.range ops.length).foldl (fun acc i => match ops[i]? with
    | some o => if effOp cx o.op && (!quietOp cx o.op && !acc.contains i) then acc ++ ((List.range ops.length).filter fun j => (bs.getD i 0).testBit j && !acc.contains j) ++ [i] else acc
    | none => acc) [] with
  | acc => acc ++ (List.range ops.length).filter fun j => !acc.contains j
def runPerm (cx : Cx K) (ops : List Oper) (π : List Nat) (st : St K) : Option (St K) :=
  if permB π ops.length then runDrawn cx (permuted π ops) st else none
def runAny (cx : Cx K) (ops : List Oper) (st : St K) : Option (St K) :=
  if edgesOk ops 0 then match runDrawn cx ops st with
    | some r => some r
    | none => runPerm cx ops (ordF cx ops (befores ops [])) st
  else match runPerm cx ops (List.range ops.length) st with
    | some r => some r
    | none => runPerm cx ops (ordF cx ops (befores (permuted (List.range ops.length) ops) [])) st

def runRegion (cx : Cx K) (ops : List Oper) (draw : Bool) (st : St K) : Option (St K) :=
  if draw then runAny cx ops st
  else match runOps cx ops ops st [] with
    | some (st', wr) => some ⟨wipeOpt st'.tm wr, st'.H, st'.ok⟩
    | none => none

/-! ### code -/

def writes : Code → List Nat
  | .region _ ops _ => ops.toList.filterMap (·.dst)
  | .seq a b => writes a ++ writes b
  | .cond _ a b => writes a ++ writes b
  | .block _ c => writes c
  | .loop c => writes c
  | .scope c => writes c
  | .rangeFunc _ ps a c => ps.toList ++ writes a ++ writes c
  | _ => []

def simple (cx : Cx K) : Code → Bool
  | .skip => true
  | .region _ ops _ => ops.toList.all fun o => simpleOp cx o.op
  | .seq a b => simple cx a && simple cx b
  | .cond _ a b => simple cx a && simple cx b
  | _ => false
def mergeTm (b : Bool) (wr : List Nat) : Nat → List (AV K) → List (AV K) → List (AV K) → List (AV K)
  | n, v :: r, x :: s, y :: t => (if wr.contains n then merge b x y else v) :: mergeTm b wr (n + 1) r s t
  | _, _, _, _ => []

def setOuts (tm : List (AV K)) : List Nat → List (AV K) → List (AV K)
  | d :: r, v :: s => setOuts (tm.set d v) r s
  | _, _ => tm

def keyOf : Code → Nat
  | .region id _ _ => id
  | .seq a _ => keyOf a
  | .cond _ a _ => keyOf a
  | .block _ c => keyOf c
  | .loop c => keyOf c
  | _ => 0
def inLoop (H : List (Ob K)) (vals : List (AV K)) : Option (List Nat × List (AV K) × List (Ob K)) :=
  if passOk H (reach H 64 (handss vals) []) then match rens (reach H 64 (handss vals) []) vals, allOb (renOb (reach H 64 (handss vals) [])) ((reach H 64 (handss vals) []).map fun h => H.getD h .dead) with
    | some vals', some Hi => some (reach H 64 (handss vals) [], vals', Hi)
    | _, _ => none
  else none
def backMap (m : List Nat) (n k : Nat) : List Nat := m ++ (List.range (k - m.length)).map (n + ·)

def outLoop (L : LoopD K) (m : List Nat) (st : St K) (vs : List (AV K)) (Ho : List (Ob K)) : Option (St K) :=
  match backs (backMap m st.H.length Ho.length) vs, allOb (backOb (backMap m st.H.length Ho.length)) Ho with
  | some vs', some Ho' => if m.length ≤ Ho.length then some ⟨setOuts (List.replicate L.n .any) L.outs vs', putBack st.H m (Ho'.take m.length) ++ Ho'.drop m.length, st.ok⟩ else none
  | _, _ => none
def guardTs (ops : List Oper) : List Nat := (ops.filterMap fun o => match guardOf ops o with
  | some (some (g, _)) => some g
  | _ => none).eraseDups
def splitRun (cx : Cx K) (ops : List Oper) (draw : Bool) (st : St K) : List Nat → Option (Bool × St K × St K)
  | [] => none
  | t :: r => match runRegion { cx with gs := some (t, true) } ops draw st, runRegion { cx with gs := some (t, false) } ops draw st with
    | some s1, some s2 => match s1.tm.getD t .any with
      | .bool b => some (b, s1, s2)
      | _ => splitRun cx ops draw st r
    | _, _ => splitRun cx ops draw st r

def onlyNormal : Ex → St K → Option (St K)
  | .normal, st => some st
  | _, _ => none

def execC (cx : Cx K) : Code → {R : Type} → St K → (Ex → St K → Option R) → Option R
  | .skip, _, st, k => k .normal st
  | .region _ ops draw, _, st, k => match runRegion cx ops.toList draw st with
    | some st' => k .normal st'
    | none => match splitRun cx ops.toList draw st (guardTs ops.toList) with
      | some (b, s1, s2) => cond b (k .normal s1) (k .normal s2)
      | none => none
  | .seq a b, _, st, k => execC cx a st fun e s => match e with
    | .normal => execC cx b s k
    | e => k e s
  | .cond c a b, _, st, k => match evS st.tm [] c with
    | .bool t => if simple cx a && simple cx b then
        match execC cx a st onlyNormal, execC cx b st onlyNormal with
        | some sa, some sb => k .normal ⟨mergeTm t (writes a ++ writes b) 0 st.tm sa.tm sb.tm, st.H, (sa.ok || !t) && (sb.ok || t)⟩
        | _, _ => none
      else cond t (execC cx a st k) (execC cx b st k)
    | _ => none
  | .block id c, _, st, k => execC cx c st fun e s => match e with
    | .exit i => if i = id then k .normal s else k (.exit i) s
    | e => k e s
  | .loop c, _, st, k => match cx.loop (keyOf c) with
    | some L => if st.tm.length = L.n then match inLoop st.H (L.ins.map fun t => st.tm.getD t .any) with
        | some (m, vals, Hi) => L.run vals Hi fun e vs Ho => match outLoop L m st vs Ho with
          | some st' => k e st'
          | none => none
        | none => none else none
    | none => none
  | .exit id, _, st, k => k (.exit id) st
  | .ret, _, st, k => k .ret st
  | _, _, _, _ => none

/-! ### functions -/

def resVars (cx : Cx K) (st : St K) : List ResultVar → Option (List (AV K))
  | [] => some []
  | .tmp t :: r => match resVars cx st r with
    | some l => some (st.tm.getD t .any :: l)
    | none => none
  | .cell a t :: r => match loadV cx.P cx.D st.H t (st.tm.getD a .any), resVars cx st r with
    | some v, some l => some (v :: l)
    | _, _ => none

def resV (cx : Cx K) (fn : Func) (st : St K) : Option (AV K) :=
  match resVars cx st fn.results.toList with
  | some [v] => some (unfro st.H v)
  | some l => some (.tup (unfros st.H l))
  | none => none

/-! New numbers for the objects: number i is what 'src' says, or none; the first n0 stay. -/

def mapO {α β : Type} (f : α → Option β) : List α → Option (List β)
  | [] => some []
  | x :: r => match f x, mapO f r with
    | some y, some l => some (y :: l)
    | _, _ => none

def srcF (src : List (Option Nat)) (h : Nat) : Option Nat := src.idxOf? (some h)

def srcOk (n0 n : Nat) : Nat → List (Option Nat) → Bool
  | _, [] => true
  | i, none :: r => decide (i < n0) && srcOk n0 n (i + 1) r
  | i, some h :: r => decide (h < n) && ((decide (n0 ≤ i) || decide (h = i)) && (!r.contains (some h) && srcOk n0 n (i + 1) r))

def srcOb (src : List (Option Nat)) (H : List (Ob K)) : Option Nat → Option (Ob K)
  | none => some .dead
  | some h => match H[h]? with
    | some o => reOb (srcF src) o
    | none => none

def reSt (n0 : Nat) (src : List (Option Nat)) (keep : List Nat) (st : St K) : Option (St K) :=
  if srcOk n0 st.H.length 0 src && decide (n0 ≤ src.length) then
    match reHs (srcF src) (keep.map fun t => st.tm.getD t .any), mapO (srcOb src st.H) src with
    | some vs, some H => some ⟨setOuts (List.replicate st.tm.length .any) keep vs, H, st.ok⟩
    | _, _ => none
  else none
def normSt (n0 : Nat) (keep : List Nat) (st : St K) : Option (St K) :=
  reSt n0 ((reach st.H 64 (List.range n0 ++ handss (keep.map fun t => st.tm.getD t .any)) []).map some) keep st
def closeSt (cx : Cx K) (s : St K) : Option (Bool × St K) := match opnIdx s.H with
  | none => some (true, s)
  | some _ => match shut cx.D s.H with
    | some (H', b, _) => some (b, ⟨s.tm, H', s.ok⟩)
    | none => none
def roundV (cx : Cx K) (n0 : Nat) (keep outs : List Nat) (body : Code) (st : St K) : Option (St K ⊕ Ex × St K) :=
  execC cx body st fun e s => cond s.ok (match e with
    | .normal => match closeSt cx s with
      | some (b, s1) => cond b (match normSt n0 keep s1 with
        | some s' => some (.inl s')
        | none => none) none
      | none => none
    | e => match closeSt cx s with
      | some (b, s1) => cond b (match normSt n0 outs s1 with
        | some s' => some (.inr (e, s'))
        | none => none) none
      | none => none) none

def reVal (n0 : Nat) (src : List (Option Nat)) (v : AV K) (H : List (Ob K)) : Option (AV K × List (Ob K)) :=
  if srcOk n0 H.length 0 src && decide (n0 ≤ src.length) then
    match reH (srcF src) v, mapO (srcOb src H) src with
    | some v', some H' => some (v', H')
    | _, _ => none
  else none
def pack (n0 : Nat) (v : AV K) (H : List (Ob K)) : Option (AV K × List (Ob K)) :=
  reVal n0 ((reach H 64 (List.range n0 ++ hands v) []).map some) v H

def notArr (H : List (Ob K)) (h : Nat) : Bool := match H[h]? with
  | some (.arr ..) => false
  | some (.tree ..) => false
  | _ => true
def srcM (n0 : Nat) (v : AV K) (H : List (Ob K)) : List (Option Nat) :=
  ((List.range n0).map fun h => cond (notArr H h) (some h) none) ++ ((reach H 64 ((List.range n0).filter (notArr H) ++ hands v) []).filter fun h => !(decide (h < n0) && notArr H h)).map some
def packV (mv : Bool) (n0 : Nat) (v : AV K) (H : List (Ob K)) : Option (AV K × List (Ob K)) :=
  reVal n0 (cond mv (srcM n0 v H) ((reach H 64 (List.range n0 ++ hands v) []).map some)) v H

def finV (cx : Cx K) (fn : Func) (n0 : Nat) (e : Ex) (st : St K) : Option (AV K × List (Ob K)) :=
  match e with
  | .exit _ => none
  | _ => match resV cx fn st with
    | some v => cond st.ok (pack n0 v st.H) none
    | none => none

def runV (cx : Cx K) (fn : Func) (args : List (AV K)) (H : List (Ob K)) : Option (AV K × List (Ob K)) :=
  match fn.body with
  | some c => execC cx c ⟨args ++ List.replicate (fn.ntmps - args.length) .any, H, true⟩ (finV cx fn H.length)
  | none => none

end Go.V
