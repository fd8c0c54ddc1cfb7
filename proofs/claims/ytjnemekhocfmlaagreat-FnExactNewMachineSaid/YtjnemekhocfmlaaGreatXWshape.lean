/-
  SHAPES: of arguments, of what a loop knows, of what is yielded: how unknowns lie in abstract values and objects, how they are read off, and that reading off loses nothing that is true.
-/
import Derived.Test.YtjnemekhocfmlaaGreatXWloop
set_option linter.unusedVariables false
namespace Go.V
open Go
variable {K : Uni} {D : Cod K} {ρ ρ' : List Value} {S S' : Nat → Prop} {w w' : World} {H H' : List (Ob K)}

inductive Sh (K : Uni) where
  | any
  | int (k : IntKind)
  | bool
  | str
  | dsl (c : K.U)
  | el (c : K.U)
  | rp (c : K.U) (off : Nat)
  | nilp
  | nilsl
  | ptr (h off : Nat)
  | own (h : Nat)
  | fn (g : Nat) (caps : List (Sh K))
  | agg (l : List (Sh K))
  | tup (l : List (Sh K))
  | np (h : Nat)
  | ep (h : Nat) (c : K.U) (off : Nat)

inductive OSh (K : Uni) where
  | dead
  | box (l : List (Sh K))
  | el (c : K.U)
  | arr (c : K.U)
  | fro (c : K.U)
  | tree (c : K.U)

mutual
def Sh.T : Sh K → Type
  | .int _ => Int
  | .bool => Bool
  | .str => List UInt8
  | .dsl c => List (K.El c)
  | .el c => K.El c
  | .rp c _ => K.El c
  | .ep _ _ _ => Nat
  | .fn _ l => Sh.Ts l
  | .agg l => Sh.Ts l
  | .tup l => Sh.Ts l
  | _ => Unit
def Sh.Ts : List (Sh K) → Type
  | [] => Unit
  | s :: r => Sh.T s × Sh.Ts r
end

def OSh.T : OSh K → Type
  | .dead => Unit
  | .box l => Sh.Ts l
  | .el c => K.El c
  | .arr c => List (K.El c)
  | .fro c => List (K.El c)
  | .tree c => List (K.El c)
def OSh.Ts : List (OSh K) → Type
  | [] => Unit
  | s :: r => OSh.T s × OSh.Ts r

mutual
def Sh.enc (D : Cod K) : (s : Sh K) → s.T → AV K
  | .any, _ => .any
  | .int k, n => .int k n
  | .bool, b => .bool b
  | .str, s => .str s
  | .dsl c, l => .dsl c l
  | .el c, x => .agg (D.cells c x)
  | .rp c o, x => .rp c x o
  | .nilp, _ => .nilp
  | .nilsl, _ => .nilsl
  | .ptr h o, _ => .ptr h o
  | .own h, _ => .sl h
  | .np h, _ => .np h
  | .ep h c o, i => .ep h (K.sz c) i o
  | .fn g l, x => .fn g (Sh.encs D l x)
  | .agg l, x => .agg (Sh.encs D l x)
  | .tup l, x => .tup (Sh.encs D l x)
def Sh.encs (D : Cod K) : (l : List (Sh K)) → Sh.Ts l → List (AV K)
  | [], _ => []
  | s :: r, x => Sh.enc D s x.1 :: Sh.encs D r x.2
end
def OSh.enc (D : Cod K) : (s : OSh K) → s.T → Ob K
  | .dead, _ => .dead
  | .box l, x => .box (Sh.encs D l x)
  | .el c, x => .box (D.cells c x)
  | .arr c, x => .arr c x
  | .fro c, x => .fro c x
  | .tree c, x => .tree c x
def OSh.encs (D : Cod K) : (l : List (OSh K)) → OSh.Ts l → List (Ob K)
  | [], _ => []
  | s :: r, x => OSh.enc D s x.1 :: OSh.encs D r x.2

def AV.getInt (k : IntKind) : AV K → Option Int
  | .int k' n => if k = k' then some n else none
  | _ => none
def AV.getBool : AV K → Option Bool
  | .bool b => some b
  | _ => none
def AV.getStr : AV K → Option (List UInt8)
  | .str s => some s
  | _ => none
def AV.getAgg : AV K → Option (List (AV K))
  | .agg l => some l
  | _ => none
def AV.getTup : AV K → Option (List (AV K))
  | .tup l => some l
  | _ => none
def AV.getFn (g : Nat) : AV K → Option (List (AV K))
  | .fn g' l => if g = g' then some l else none
  | _ => none
def AV.getRp (c : K.U) (o : Nat) : AV K → Option (K.El c)
  | .rp c' x o' => if o = o' then match K.deq c' c with
    | .isTrue h => some (h ▸ x)
    | .isFalse _ => none else none
  | _ => none
def AV.isNilp : AV K → Option Unit
  | .nilp => some ()
  | _ => none
def AV.isNilsl : AV K → Option Unit
  | .nilsl => some ()
  | _ => none
def AV.isPtr (h o : Nat) : AV K → Option Unit
  | .ptr h' o' => if h = h' then if o = o' then some () else none else none
  | _ => none
def AV.isOwn (h : Nat) : AV K → Option Unit
  | .sl h' => if h = h' then some () else none
  | _ => none

def AV.isNp (h : Nat) : AV K → Option Unit
  | .np h' => if h = h' then some () else none
  | _ => none

def AV.getEp (h : Nat) (c : K.U) (o : Nat) : AV K → Option Nat
  | .ep h' st i o' => if h = h' then if K.sz c = st then if o = o' then some i else none else none else none
  | _ => none
theorem AV.getEp_eq {h : Nat} {c : K.U} {o : Nat} {v : AV K} {n : Nat} (hh : v.getEp h c o = some n) : v = .ep h (K.sz c) n o := by
  unfold AV.getEp at hh
  split at hh
  · split at hh
    · split at hh
      · split at hh
        · rename_i h1 h2 h3; subst h1; subst h2; subst h3
          simp only [Option.some.injEq] at hh; subst hh; rfl
        · cases hh
      · cases hh
    · cases hh
  · cases hh

theorem AV.getInt_eq {k : IntKind} {v : AV K} {n : Int} (h : v.getInt k = some n) : v = .int k n := by
  unfold AV.getInt at h
  split at h
  · split at h
    · rename_i hk; subst hk; simp only [Option.some.injEq] at h; subst h; rfl
    · cases h
  · cases h
theorem AV.getBool_eq {v : AV K} {n : Bool} (h : v.getBool = some n) : v = .bool n := by
  unfold AV.getBool at h
  split at h
  · simp only [Option.some.injEq] at h; subst h; rfl
  · cases h
theorem AV.getStr_eq {v : AV K} {n : List UInt8} (h : v.getStr = some n) : v = .str n := by
  unfold AV.getStr at h
  split at h
  · simp only [Option.some.injEq] at h; subst h; rfl
  · cases h
theorem AV.getAgg_eq {v : AV K} {n : List (AV K)} (h : v.getAgg = some n) : v = .agg n := by
  unfold AV.getAgg at h
  split at h
  · simp only [Option.some.injEq] at h; subst h; rfl
  · cases h
theorem AV.getTup_eq {v : AV K} {n : List (AV K)} (h : v.getTup = some n) : v = .tup n := by
  unfold AV.getTup at h
  split at h
  · simp only [Option.some.injEq] at h; subst h; rfl
  · cases h
theorem AV.getFn_eq {g : Nat} {v : AV K} {n : List (AV K)} (h : v.getFn g = some n) : v = .fn g n := by
  unfold AV.getFn at h
  split at h
  · split at h
    · rename_i hk; subst hk; simp only [Option.some.injEq] at h; subst h; rfl
    · cases h
  · cases h
theorem AV.getRp_eq {c : K.U} {o : Nat} {v : AV K} {n : K.El c} (h : v.getRp c o = some n) : v = .rp c n o := by
  unfold AV.getRp at h
  split at h
  · split at h
    · rename_i hk; subst hk
      split at h
      · rename_i he _; subst he; simp only [Option.some.injEq] at h; subst h; rfl
      · cases h
    · cases h
  · cases h
theorem AV.isNilp_eq {v : AV K} {n : Unit} (h : v.isNilp = some n) : v = .nilp := by
  unfold AV.isNilp at h
  split at h
  · rfl
  · cases h
theorem AV.isNilsl_eq {v : AV K} {n : Unit} (h : v.isNilsl = some n) : v = .nilsl := by
  unfold AV.isNilsl at h
  split at h
  · rfl
  · cases h
theorem AV.isPtr_eq {a o : Nat} {v : AV K} {n : Unit} (h : v.isPtr a o = some n) : v = .ptr a o := by
  unfold AV.isPtr at h
  split at h
  · split at h
    · split at h
      · rename_i h1 h2; subst h1; subst h2; rfl
      · cases h
    · cases h
  · cases h
theorem AV.isOwn_eq {a : Nat} {v : AV K} {n : Unit} (h : v.isOwn a = some n) : v = .sl a := by
  unfold AV.isOwn at h
  split at h
  · split at h
    · rename_i h1; subst h1; rfl
    · cases h
  · cases h

theorem AV.isNp_eq {a : Nat} {v : AV K} {n : Unit} (h : v.isNp a = some n) : v = .np a := by
  unfold AV.isNp at h
  split at h
  · split at h
    · rename_i h1; subst h1; rfl
    · cases h
  · cases h
def sure {α : Type} : Option (α × Bool) → Option α
  | some (x, true) => some x
  | _ => none
theorem sure_eq {α : Type} {o : Option (α × Bool)} {x : α} (h : sure o = some x) : o = some (x, true) := by
  unfold sure at h
  split at h
  · simp only [Option.some.injEq] at h; subst h; rfl
  · cases h

mutual
def Sh.dec (D : Cod K) : (s : Sh K) → AV K → Option s.T
  | .any, _ => some ()
  | .int k, v => v.getInt k
  | .bool, v => v.getBool
  | .str, v => v.getStr
  | .dsl c, v => elems [] c v
  | .el c, v => match v.getAgg with
    | some l => sure (D.dec c l)
    | none => none
  | .rp c o, v => v.getRp c o
  | .nilp, v => v.isNilp
  | .nilsl, v => v.isNilsl
  | .ptr h o, v => v.isPtr h o
  | .own h, v => v.isOwn h
  | .np h, v => v.isNp h
  | .ep h c o, v => v.getEp h c o
  | .fn g l, v => match v.getFn g with
    | some l' => Sh.decs D l l'
    | none => none
  | .agg l, v => match v.getAgg with
    | some l' => Sh.decs D l l'
    | none => none
  | .tup l, v => match v.getTup with
    | some l' => Sh.decs D l l'
    | none => none
def Sh.decs (D : Cod K) : (l : List (Sh K)) → List (AV K) → Option (Sh.Ts l)
  | [], [] => some ()
  | s :: r, v :: l => match Sh.dec D s v, Sh.decs D r l with
    | some x, some y => some (x, y)
    | _, _ => none
  | _, _ => none
end
def Ob.getBox : Ob K → Option (List (AV K))
  | .box l => some l
  | _ => none
def Ob.getArr (c : K.U) : Ob K → Option (List (K.El c))
  | .arr c' l => match K.deq c' c with
    | .isTrue h => some (h ▸ l)
    | .isFalse _ => none
  | _ => none
def Ob.getFro (c : K.U) : Ob K → Option (List (K.El c))
  | .fro c' l => match K.deq c' c with
    | .isTrue h => some (h ▸ l)
    | .isFalse _ => none
  | _ => none
def Ob.getTree (c : K.U) : Ob K → Option (List (K.El c))
  | .tree c' l => match K.deq c' c with
    | .isTrue h => some (h ▸ l)
    | .isFalse _ => none
  | _ => none
theorem Ob.getBox_eq {v : Ob K} {n : List (AV K)} (h : v.getBox = some n) : v = .box n := by
  unfold Ob.getBox at h
  split at h
  · simp only [Option.some.injEq] at h; subst h; rfl
  · cases h
theorem Ob.getArr_eq {c : K.U} {v : Ob K} {n : List (K.El c)} (h : v.getArr c = some n) : v = .arr c n := by
  unfold Ob.getArr at h
  split at h
  · split at h
    · rename_i he _; subst he; simp only [Option.some.injEq] at h; subst h; rfl
    · cases h
  · cases h
theorem Ob.getFro_eq {c : K.U} {v : Ob K} {n : List (K.El c)} (h : v.getFro c = some n) : v = .fro c n := by
  unfold Ob.getFro at h
  split at h
  · split at h
    · rename_i he _; subst he; simp only [Option.some.injEq] at h; subst h; rfl
    · cases h
  · cases h
theorem Ob.getTree_eq {c : K.U} {v : Ob K} {n : List (K.El c)} (h : v.getTree c = some n) : v = .tree c n := by
  unfold Ob.getTree at h
  split at h
  · split at h
    · rename_i he _; subst he; simp only [Option.some.injEq] at h; subst h; rfl
    · cases h
  · cases h
def OSh.dec (D : Cod K) : (s : OSh K) → Ob K → Option s.T
  | .dead, _ => some ()
  | .box l, o => match o.getBox with
    | some cs => Sh.decs D l cs
    | none => none
  | .el c, o => match o.getBox with
    | some cs => sure (D.dec c cs)
    | none => none
  | .arr c, o => o.getArr c
  | .fro c, o => o.getFro c
  | .tree c, o => o.getTree c
def OSh.decs (D : Cod K) : (l : List (OSh K)) → List (Ob K) → Option (OSh.Ts l)
  | [], [] => some ()
  | s :: r, v :: l => match OSh.dec D s v, OSh.decs D r l with
    | some x, some y => some (x, y)
    | _, _ => none
  | _, _ => none

theorem elems_nil_sound (hD : CodOk D) {c : K.U} {v : AV K} {l : List (K.El c)} (h : elems [] c v = some l) {u : Value} (hr : Rep D ρ S w v u) : Rep D ρ S w (.dsl c l) u := by
  unfold elems at h
  split at h
  · simp only [Option.some.injEq] at h; subst h; cases hr; exact .dsl0 _ _
  · split at h
    · rename_i he _; subst he; simp only [Option.some.injEq] at h; subst h; exact hr
    · cases h
  · simp at h
  · cases h

mutual
theorem Sh.dec_sound (hD : CodOk D) : ∀ (s : Sh K) (v : AV K) (x : s.T), Sh.dec D s v = some x → ∀ u, Rep D ρ S w v u → Rep D ρ S w (Sh.enc D s x) u
  | .any, v, x, h, u, hr => .any u
  | .int k, v, x, h, u, hr => by rw [AV.getInt_eq h] at hr; exact hr
  | .bool, v, x, h, u, hr => by rw [AV.getBool_eq h] at hr; exact hr
  | .str, v, x, h, u, hr => by rw [AV.getStr_eq h] at hr; exact hr
  | .dsl c, v, x, h, u, hr => elems_nil_sound hD h hr
  | .el c, v, x, h, u, hr => by
    unfold Sh.dec at h
    split at h
    · rename_i l hl
      rw [AV.getAgg_eq hl] at hr
      cases hr with
      | agg hl hh =>
        have := hD.dec c _ _ (sure_eq h) ρ S w _ ⟨hl, hh⟩
        exact .agg this.1 this.2
    · cases h
  | .rp c o, v, x, h, u, hr => by rw [AV.getRp_eq h] at hr; exact hr
  | .nilp, v, x, h, u, hr => by rw [AV.isNilp_eq h] at hr; exact hr
  | .nilsl, v, x, h, u, hr => by rw [AV.isNilsl_eq h] at hr; exact hr
  | .ptr a b, v, x, h, u, hr => by rw [AV.isPtr_eq h] at hr; exact hr
  | .own a, v, x, h, u, hr => by rw [AV.isOwn_eq h] at hr; exact hr
  | .np a, v, x, h, u, hr => by rw [AV.isNp_eq h] at hr; exact hr
  | .ep a c o, v, x, h, u, hr => by rw [AV.getEp_eq h] at hr; exact hr
  | .fn g l, v, x, h, u, hr => by
    unfold Sh.dec at h
    split at h
    · rename_i l' hl
      rw [AV.getFn_eq hl] at hr
      cases hr with
      | fn hl hh =>
        have := Sh.decs_sound hD l _ x h _ ⟨hl, hh⟩
        exact .fn this.1 this.2
    · cases h
  | .agg l, v, x, h, u, hr => by
    unfold Sh.dec at h
    split at h
    · rename_i l' hl
      rw [AV.getAgg_eq hl] at hr
      cases hr with
      | agg hl hh =>
        have := Sh.decs_sound hD l _ x h _ ⟨hl, hh⟩
        exact .agg this.1 this.2
    · cases h
  | .tup l, v, x, h, u, hr => by
    unfold Sh.dec at h
    split at h
    · rename_i l' hl
      rw [AV.getTup_eq hl] at hr
      cases hr with
      | tup hl hh =>
        have := Sh.decs_sound hD l _ x h _ ⟨hl, hh⟩
        exact .tup this.1 this.2
    · cases h
theorem Sh.decs_sound (hD : CodOk D) : ∀ (l : List (Sh K)) (vs : List (AV K)) (x : Sh.Ts l), Sh.decs D l vs = some x → ∀ us, Reps D ρ S w vs us → Reps D ρ S w (Sh.encs D l x) us
  | [], vs, x, h, us, hr => by
    cases vs with
    | nil => exact hr
    | cons v r => unfold Sh.decs at h; cases h
  | s :: r, vs, x, h, us, hr => by
    cases vs with
    | nil => unfold Sh.decs at h; cases h
    | cons v l =>
      unfold Sh.decs at h
      split at h
      · rename_i a b h1 h2
        have h := Option.some.inj h; subst h
        obtain ⟨u, t, rfl, g1, g2⟩ := hr.uncons
        exact .cons (Sh.dec_sound hD s v a h1 u g1) (Sh.decs_sound hD r l b h2 t g2)
      · cases h
end

theorem npHead_closed {l : List (AV K)} (h : closeds l = true) : npHead l = false := by
  cases l with
  | nil => rfl
  | cons v r =>
    simp only [closeds, Bool.and_eq_true] at h
    cases v <;> first | rfl | (simp [AV.closed] at h)
theorem decs_npHead {l : List (Sh K)} {cs : List (AV K)} {x : Sh.Ts l} (h : Sh.decs D l cs = some x) (hn : npHead (Sh.encs D l x) = true) : npHead cs = true := by
  cases l with
  | nil => unfold Sh.encs at hn; cases hn
  | cons s r =>
    cases cs with
    | nil => unfold Sh.decs at h; cases h
    | cons v vs =>
      unfold Sh.decs at h
      split at h
      · rename_i a b h1 h2
        have h := Option.some.inj h; subst h
        change npHead (Sh.enc D s a :: Sh.encs D r b) = true at hn
        cases s
        all_goals first
          | exact absurd (show false = true from hn) (by simp)
          | (have h3 := AV.isNp_eq (v := v) h1; rw [h3]; rfl)
      · cases h
theorem OSh.dec_sound (hD : CodOk D) (s : OSh K) (o : Ob K) (x : s.T) (h : OSh.dec D s o = some x) : ((OSh.enc D s x).live = true → o.live = true ∧ ∀ w r b, Foot D w (OSh.enc D s x) r b → Foot D w o r b) ∧ ∀ r, ObSat D ρ S w o r → ObSat D ρ S w (OSh.enc D s x) r := by
  cases s with
  | dead => exact ⟨fun h => Bool.noConfusion h, fun _ _ => trivial⟩
  | box l =>
    change (match o.getBox with
      | some cs => Sh.decs D l cs
      | none => none) = some x at h
    split at h
    · rename_i cs hcs
      rw [Ob.getBox_eq hcs]
      refine ⟨fun _ => ⟨rfl, fun _ _ _ h => h⟩, fun r hh => ?_⟩
      obtain ⟨b, vs, T, e, h1, h2, h3⟩ := hh
      exact ⟨b, vs, T, e, h1, Sh.decs_sound hD l _ x h _ h2, fun hn => h3 (decs_npHead h hn)⟩
    · cases h
  | el c =>
    change (match o.getBox with
      | some cs => sure (D.dec c cs)
      | none => none) = some x at h
    split at h
    · rename_i cs hcs
      rw [Ob.getBox_eq hcs]
      refine ⟨fun _ => ⟨rfl, fun _ _ _ h => h⟩, fun r hh => ?_⟩
      obtain ⟨b, vs, T, e, h1, h2, h3⟩ := hh
      exact ⟨b, vs, T, e, h1, hD.dec c _ _ (sure_eq h) ρ S w _ h2, fun hn => by rw [npHead_closed (hD.closed c x)] at hn; cases hn⟩
    · cases h
  | arr c => rw [Ob.getArr_eq h]; exact ⟨fun h => ⟨h, fun _ _ _ h => h⟩, fun _ h => h⟩
  | fro c => rw [Ob.getFro_eq h]; exact ⟨fun h => ⟨h, fun _ _ _ h => h⟩, fun _ h => h⟩
  | tree c => rw [Ob.getTree_eq h]; exact ⟨fun h => ⟨h, fun _ _ _ h => h⟩, fun _ h => h⟩

theorem OSh.decs_get : ∀ (l : List (OSh K)) (os : List (Ob K)) (x : OSh.Ts l), OSh.decs D l os = some x → (OSh.encs D l x).length = os.length ∧ ∀ (i : Nat) o', (OSh.encs D l x)[i]? = some o' → ∃ o, os[i]? = some o ∧ ∃ (s : OSh K) (y : s.T), OSh.dec D s o = some y ∧ o' = OSh.enc D s y
  | [], os, x, h => by
    cases os with
    | nil => exact ⟨rfl, fun i o' h => by simp [OSh.encs] at h⟩
    | cons v r => simp [OSh.decs] at h
  | s :: r, os, x, h => by
    cases os with
    | nil => simp [OSh.decs] at h
    | cons v l =>
      simp only [OSh.decs] at h
      split at h
      · rename_i a b h1 h2
        have h := Option.some.inj h; subst h
        obtain ⟨g1, g2⟩ := OSh.decs_get r l b h2
        refine ⟨by simp only [OSh.encs, List.length_cons]; rw [g1], fun i o' hi => ?_⟩
        cases i with
        | zero => simp [OSh.encs] at hi; exact ⟨v, rfl, s, a, h1, hi.symm⟩
        | succ i => simp [OSh.encs] at hi; obtain ⟨o, q⟩ := g2 i o' hi; exact ⟨o, by simpa using q.1, q.2⟩
      · cases h
structure Wk (D : Cod K) (vs : List (AV K)) (H : List (Ob K)) (vs' : List (AV K)) (H' : List (Ob K)) : Prop where
  len : H'.length = H.length
  reps : ∀ ρ S w us, Reps D ρ S w vs us → Reps D ρ S w vs' us
  heap : ∀ ρ S w, HeapSat D ρ S w H → HeapSat D ρ S w H'
  own : ∀ w ρ b, Own D w ρ H' b → Own D w ρ H b

theorem Wk.step {vs vs' : List (AV K)} {n0 : Nat} (h : Wk D vs H vs' H') : Step D n0 ρ S H w ρ S H' w :=
  ⟨rfl, rfl, rfl, Nat.le_refl _, fun _ _ _ => rfl, fun b hb => .inl (h.own _ _ b hb), fun _ h => h, fun _ h => .inl h, fun _ _ => rfl⟩

theorem OSh.decs_own {l : List (OSh K)} {os : List (Ob K)} {x : OSh.Ts l} (hD : CodOk D) (h : OSh.decs D l os = some x) (w : World) (ρ : List Value) (b : Nat) (hb : Own D w ρ (OSh.encs D l x) b) : Own D w ρ os b := by
  obtain ⟨i, o', r, h1, h2, h3, h4⟩ := hb
  obtain ⟨o, q1, s, y, q2, rfl⟩ := (OSh.decs_get l os x h).2 i o' h1
  have q3 := (OSh.dec_sound (ρ := ρ) (S := fun _ => False) (w := w) hD s o y q2).1 h2
  exact ⟨i, o, r, q1, q3.1, h3, q3.2 _ _ _ h4⟩

theorem OSh.decs_sound {l : List (OSh K)} {os : List (Ob K)} {x : OSh.Ts l} (hD : CodOk D) (h : OSh.decs D l os = some x) (hs : HeapSat D ρ S w os) : HeapSat D ρ S w (OSh.encs D l x) := by
  obtain ⟨g1, g2⟩ := OSh.decs_get l os x h
  refine ⟨by rw [g1]; exact hs.len, fun i o' r h1 h2 => ?_, fun i j o o' r r' b h1 h2 h3 h4 c1 c2 c3 c4 => ?_, fun b hb => hs.lt b (OSh.decs_own hD h w ρ b hb), hs.slt, hs.base⟩
  · obtain ⟨o, q1, s, y, q2, rfl⟩ := g2 i o' h1
    exact (OSh.dec_sound hD s o y q2).2 r (hs.ob i o r q1 h2)
  · obtain ⟨o1, q1, s, y, q2, rfl⟩ := g2 i o h1
    obtain ⟨o2, p1, s', y', p2, rfl⟩ := g2 j o' c1
    have a1 := (OSh.dec_sound (ρ := ρ) (S := S) (w := w) hD s o1 y q2).1 h2
    have a2 := (OSh.dec_sound (ρ := ρ) (S := S) (w := w) hD s' o2 y' p2).1 c2
    exact hs.dist i j o1 o2 r r' b q1 a1.1 h3 (a1.2 _ _ _ h4) p1 a2.1 c3 (a2.2 _ _ _ c4)

structure CSh (K : Uni) where
  vs : List (Sh K)
  os : List (OSh K)
def CSh.T (c : CSh K) : Type := Sh.Ts c.vs × OSh.Ts c.os
def CSh.dec (D : Cod K) (c : CSh K) (vs : List (AV K)) (H : List (Ob K)) : Option c.T :=
  match Sh.decs D c.vs vs, OSh.decs D c.os H with
  | some a, some b => some (a, b)
  | _, _ => none
def CSh.encV (D : Cod K) (c : CSh K) (x : c.T) : List (AV K) := Sh.encs D c.vs x.1
def CSh.encO (D : Cod K) (c : CSh K) (x : c.T) : List (Ob K) := OSh.encs D c.os x.2

theorem CSh.dec_wk (hD : CodOk D) {c : CSh K} {vs : List (AV K)} {x : c.T} (h : c.dec D vs H = some x) : Wk D vs H (c.encV D x) (c.encO D x) := by
  unfold CSh.dec at h
  split at h
  · rename_i a b h1 h2
    have h := Option.some.inj h; subst h
    exact ⟨(OSh.decs_get c.os H b h2).1, fun ρ S w us hr => Sh.decs_sound hD c.vs vs a h1 us hr, fun ρ S w hs => OSh.decs_sound hD h2 hs, fun w ρ b' hb => OSh.decs_own hD h2 w ρ b' hb⟩
  · cases h

end Go.V
