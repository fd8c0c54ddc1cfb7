/-
  slices.Sorted(slices.Values(s)), and the program's function that asks whether names are distinct, walked where they lie.
-/
import Derived.Test.YtjdnmlhfiblhdaaGreatXNHd1
import Derived.Shelf.Lay
import Derived.Shelf.Sort.Plain
import Derived.Shelf.Slices.CompactS
import Derived.Shelf.Slices.In.SortNone
import Derived.Sort.OwnSorted
import Derived.Sort.Grow
import Derived.Lib.OwnBridge
import Derived.Ground.NamesProg
import Derived.RegionIn
import Derived.Sort.LoopGhostIn
import Derived.Sort.CutIn
import Derived.Sort.QuietIn
import Derived.Shelf.AbstractIn
import Derived.Shelf.RegionOpen
set_option linter.unusedVariables false
set_option linter.unusedSimpArgs false
namespace Go.Proofs
open Go.RowKit Go.Shelf Go.Sort
open Go.V (Strs srt srt_len uq uq_le int_beq)
shelf_lay Lays.n190 Nm 190 at Tryz as Tryz.laysSort
shelf_lay Lays.n194 Nm 194 at Tryz as Tryz.laysCompact
namespace Tryzh

theorem sort_some (blk off cap : Nat) (ss : List (List UInt8)) (w : World) (hH : Holds encStr w blk off ss.toArray) (hblk : blk < w.heap.size) (hsz : ss.length < 4611686018427387904) :
    CallsIn Fence.wide 1 Tryz.prog 117 #[.slice (some ⟨blk, off, none⟩) ss.length cap] w fun e w' =>
      e = .returned (.tuple #[]) ∧ ∃ n os, w' = grow (putRow encStr (Sort.ahead w n) blk off (srt ss).toArray) os :=
  callsIn_wide.2 (Any.slices_Sort_string Tryz.laysSort blk off cap ss w hH hblk hsz)
theorem sort_none (p : Option Addr) (cap : Nat) (w : World) : CallsIn Fence.wide 1 Tryz.prog 117 #[.slice p 0 cap] w fun e w' => e = .returned (.tuple #[]) ∧ w' = w :=
  callsIn_wide.2 (Any.slices_Sort_string_none Tryz.laysSort p cap w)
theorem compact_some (blk off cap : Nat) (zs : List (List UInt8)) (w : World) (hH : Holds encStr w blk off zs.toArray) (hsz : zs.length ≤ 9223372036854775807) (hcap : zs.length ≤ cap) :
    CallsIn Fence.wide 1 Tryz.prog 112 #[.slice (some ⟨blk, off, none⟩) zs.length cap] w fun e w' => e = .returned (.slice (some ⟨blk, off, none⟩) (Lib.compact zs).length cap) ∧ ∃ q, w' = putRow encStr (Sort.ahead w q) blk off (Lib.compact zs ++ List.replicate (zs.length - (Lib.compact zs).length) []).toArray :=
  callsIn_wide.2 (Any.slices_Compact_string Tryz.laysCompact blk off cap zs w hH hsz hcap)
theorem compact_none (a : Option Addr) (cap : Nat) (w : World) : CallsIn Fence.wide 1 Tryz.prog 112 #[.slice a 0 cap] w fun e w' => e = .returned (.slice a 0 cap) ∧ w' = w :=
  callsIn_wide.2 (Any.slices_Compact_string_empty Tryz.laysCompact a cap w)

set_option maxRecDepth 100000 in
set_option maxHeartbeats 2000000 in
theorem sorted_in (Bs : Nat) (sv : Value) (xs : List (List UInt8)) (hlen : xs.length ≤ maxLen) (hbytes : xs.length * 16 ≤ 140737488351232) (w : World) (hBs : Bs < w.heap.size)
    (hc : w.cell? ⟨Bs, 0, none⟩ = some sv) (hI : Strs w.heap.size w sv xs) :
    CallsIn Fence.wide 6 Tryz.prog 113 #[.func (.func 118) #[] #[.pointer (some ⟨Bs, 0, none⟩)]] w fun e w' => ∃ v, e = .returned v ∧ w'.ownsRow w.heap.size 9 1 v xs.length ((srt xs).map encStr) ∧ (v = .slice none 0 0 ↔ xs = []) ∧ Below w.heap.size w w' := by
  have h1 : 1 ≤ 6 := by omega
  refine callsIn_of_wp Tryz.func113 rfl trivial ?_ rfl
  simp only [Tryz.ntmps113, List.size_toArray, List.length_cons, List.length_nil, Nat.reduceAdd, Nat.reduceSub, Array.replicate_succ, Array.replicate_zero, List.push_toArray, List.append_toArray, List.nil_append, List.cons_append]
  gi_wp2_with (refine ⟨trivial, ?_⟩; gi_at_call 116; refine (collect_in Fence.wide 5 trivial trivial trivial rfl (by omega) Bs sv xs hlen hbytes _ hBs hc hI).mono ?_; rintro e W ⟨v, rfl, hrow, hnil, hb⟩)
  rcases hrow.2 with ⟨rfl, hz⟩ | ⟨gb, cap, cur, rfl, hbase, hgb, r1, r2, r3, r4⟩
  · have hss : xs = [] := List.eq_nil_of_length_eq_zero hz
    subst hss
    gi_wp2_with (refine ⟨trivial, ?_⟩; gi_at_call 117; refine ((sort_none none 0 W).more (show 1 ≤ 5 by omega)).mono ?_; rintro e w' ⟨rfl, rfl⟩)
    go_ret
    exact ⟨.slice none 0 0, rfl, by simpa [srt] using hrow, by simp, hb⟩
  · have hH : Holds encStr W gb 0 xs.toArray := holds_of_block hgb (by simpa using r4)
    have hgl : gb < W.heap.size := (Array.getElem?_eq_some_iff.1 hgb).1
    have hsz : xs.length < 4611686018427387904 := by omega
    have cS := (sort_some gb 0 cap xs W hH hgl hsz).more (show 1 ≤ 5 by omega)
    gi_wp2_with (refine ⟨trivial, ?_⟩; gi_at_call 117; refine cS.mono ?_; rintro e w' ⟨rfl, nn, os, rfl⟩)
    go_ret
    exact ⟨_, rfl, ownsRow_sorted (by simp [srt]) hbase hgb r1 r2 r3, hnil, hb.grown (grownBy_sorted _) hb.size (fun j hj => by cases hj; exact hbase)⟩

set_option maxRecDepth 100000 in
set_option maxHeartbeats 2000000 in
theorem distinct_in (sv : Value) (a : Option Addr) (cap : Nat) (xs : List (List UInt8)) (hlen : xs.length ≤ maxLen) (hbytes : xs.length * 16 ≤ 140737488351232) (w : World) (hsv : sv = .slice a xs.length cap) (hI : Strs w.heap.size w sv xs) :
    CallsIn Fence.wide 8 Tryz.prog 109 #[sv] w fun e w' => e = .returned (.bool ((uq xs).length == xs.length)) ∧ Below w.heap.size w w' := by
  subst hsv
  have h1 : 1 ≤ 8 := by omega
  refine callsIn_of_wp Tryz.func109 rfl trivial ?_ rfl
  simp only [Tryz.ntmps109, List.size_toArray, List.length_cons, List.length_nil, Nat.reduceAdd, Nat.reduceSub, Array.replicate_succ, Array.replicate_zero, List.push_toArray, List.append_toArray, List.nil_append, List.cons_append]
  have hB1 : Below w.heap.size w (w.alloc (.cells #[.slice a xs.length cap] 48)) := (Below.refl _ w).alloc (Nat.le_refl _) _
  have bO := Boxed.new w 48 (.slice a xs.length cap)
  gi_wp2_with (first
    | (refine ⟨trivial, ?_⟩; gi_at_call 114; refine (values_in Fence.wide 7 trivial rfl _ _ _ _).mono ?_; rintro e w1 ⟨rfl, rfl⟩)
    | (refine ⟨trivial, ?_⟩; gi_at_call 113
       refine ((sorted_in w.heap.size _ xs hlen hbytes (w.alloc (.cells #[.slice a xs.length cap] 48)) (by simp) bO.cell ?_).more (show 6 ≤ 7 by omega)).mono ?_
       · exact Go.V.Strs.up (by simp) (hI.below hB1)
       rintro e W ⟨v, rfl, hrow, hnil, hb⟩))
  have hbw : Below w.heap.size w W := hB1.trans (hb.mono (by simp))
  rcases hrow.2 with ⟨rfl, hz⟩ | ⟨gb, cap', cur, rfl, hbase, hgb, r1, r2, r3, r4⟩
  · have hss : xs = [] := List.eq_nil_of_length_eq_zero hz
    subst hss
    gi_wp2_with (refine ⟨trivial, ?_⟩; gi_at_call 112; refine ((compact_none none 0 W).more (show 1 ≤ 7 by omega)).mono ?_; rintro e w' ⟨rfl, rfl⟩)
    go_ret
    exact ⟨by simp [uq, srt, Lib.compact]; rfl, hbw⟩
  · have hH : Holds encStr W gb 0 (srt xs).toArray := holds_of_block hgb (by simpa [srt_len] using r4)
    have hsz : (srt xs).length ≤ 9223372036854775807 := by rw [srt_len]; omega
    have hu := uq_le xs
    have cS := (compact_some gb 0 cap' (srt xs) W hH hsz (by rw [srt_len]; exact r1)).more (show 1 ≤ 7 by omega)
    rw [srt_len] at cS
    change CallsIn _ _ _ _ _ _ (fun e w' => e = .returned (.slice (some ⟨gb, 0, none⟩) (uq xs).length cap') ∧ _) at cS
    gi_wp2_with (refine ⟨trivial, ?_⟩; gi_at_call 112; refine cS.mono ?_; rintro e w' ⟨rfl, q, rfl⟩)
    go_ret
    exact ⟨by rw [int_beq]; rfl, Lib.below_putRow hbw (by simp at hbase; omega)⟩
end Tryzh
end Go.Proofs
