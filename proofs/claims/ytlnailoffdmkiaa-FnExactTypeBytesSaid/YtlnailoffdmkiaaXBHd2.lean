/-
  slices.Sorted(slices.Values(s)), and the program's function that asks whether names are distinct, walked where they lie.
-/
import Derived.Test.YtlnailoffdmkiaaXBHd1
import Derived.Shelf.Abstract
import Derived.Shelf.Sort.Plain
import Derived.Shelf.Slices.CompactS
import Derived.Shelf.Slices.In.SortNone
import Derived.Sort.OwnSorted
import Derived.Sort.Grow
import Derived.Lib.OwnBridge
import Derived.Ground.NamesProg
import Derived.RegionIn
import Derived.Sort.LoopGhostIn
import Derived.Sort.CutIn
import Derived.Sort.QuietIn
import Derived.Shelf.AbstractIn
import Derived.Shelf.RegionOpen
set_option linter.unusedVariables false
set_option linter.unusedSimpArgs false
namespace Go.Proofs
open Go.RowKit Go.Shelf Go.Sort
open Go.V (Strs srt srt_len uq uq_le int_beq)
theorem Try_laysSortF {a : Option Func} {x y : Func} (h : a = some x) (k : x = y) : a = some y := h.trans (congrArg some k)
def Try.laysSort_ren : Go.Shelf.Ren := ⟨fun | 190 => 68 | 125 => 72 | 258 => 71 | 128 => 82 | 129 => 83 | 302 => 73 | 303 => 74 | 304 => 75 | 305 => 76 | 306 => 77 | 307 => 78 | 308 => 79 | 309 => 80 | 310 => 81 | 333 => 84 | 329 => 85 | 330 => 86 | 334 => 87 | 335 => 88 | 336 => 89 | 344 => 90 | n => n, fun | 31 => 22 | 46 => 53 | 51 => 99 | 53 => 101 | 183 => 91 | 182 => 90 | 131 => 96 | 218 => 102 | 222 => 106 | 228 => 108 | 229 => 109 | n => n, fun | n => n⟩
theorem Try.laysSort : Go.Proofs.Lays.n190 Try.prog Try.laysSort_ren := {
  mixed := by kernel_rfl
  f125 := Try_laysSortF Try.func72 (by kernel_rfl)
  f128 := Try_laysSortF Try.func82 (by kernel_rfl)
  f129 := Try_laysSortF Try.func83 (by kernel_rfl)
  f190 := Try_laysSortF Try.func68 (by kernel_rfl)
  f258 := Try_laysSortF Try.func71 (by kernel_rfl)
  f302 := Try_laysSortF Try.func73 (by kernel_rfl)
  f303 := Try_laysSortF Try.func74 (by kernel_rfl)
  f304 := Try_laysSortF Try.func75 (by kernel_rfl)
  f305 := Try_laysSortF Try.func76 (by kernel_rfl)
  f306 := Try_laysSortF Try.func77 (by kernel_rfl)
  f307 := Try_laysSortF Try.func78 (by kernel_rfl)
  f308 := Try_laysSortF Try.func79 (by kernel_rfl)
  f309 := Try_laysSortF Try.func80 (by kernel_rfl)
  f310 := Try_laysSortF Try.func81 (by kernel_rfl)
  f329 := Try_laysSortF Try.func85 (by kernel_rfl)
  f330 := Try_laysSortF Try.func86 (by kernel_rfl)
  f333 := Try_laysSortF Try.func84 (by kernel_rfl)
  f334 := Try_laysSortF Try.func87 (by kernel_rfl)
  f335 := Try_laysSortF Try.func88 (by kernel_rfl)
  f336 := Try_laysSortF Try.func89 (by kernel_rfl)
  f344 := Try_laysSortF Try.func90 (by kernel_rfl)
  t0 := Try.underlying0
  a0 := Try.isAgg0
  z0 := Try.sizeOf0
  v0 := Try.zeroValue0
  t3 := Try.underlying3
  a3 := Try.isAgg3
  z3 := Try.sizeOf3
  v3 := Try.zeroValue3
  t4 := Try.underlying4
  a4 := Try.isAgg4
  z4 := Try.sizeOf4
  v4 := Try.zeroValue4
  t5 := Try.underlying5
  a5 := Try.isAgg5
  z5 := Try.sizeOf5
  v5 := Try.zeroValue5
  t9 := Try.underlying9
  a9 := Try.isAgg9
  z9 := Try.sizeOf9
  v9 := Try.zeroValue9
  t31 := Try.underlying22
  a31 := Try.isAgg22
  z31 := Try.sizeOf22
  v31 := Try.zeroValue22
  t46 := Try.underlying53
  a46 := Try.isAgg53
  z46 := Try.sizeOf53
  v46 := Try.zeroValue53
  t51 := Try.underlying99
  a51 := Try.isAgg99
  z51 := Try.sizeOf99
  v51 := Try.zeroValue99
  t53 := Try.underlying101
  a53 := Try.isAgg101
  z53 := Try.sizeOf101
  v53 := Try.zeroValue101
  t131 := Try.underlying96
  a131 := Try.isAgg96
  z131 := Try.sizeOf96
  v131 := Try.zeroValue96
  t182 := Try.underlying90
  a182 := Try.isAgg90
  z182 := Try.sizeOf90
  v182 := Try.zeroValue90
  t183 := Try.underlying91
  a183 := Try.isAgg91
  z183 := Try.sizeOf91
  v183 := Try.zeroValue91
  t218 := Try.underlying102
  a218 := Try.isAgg102
  z218 := Try.sizeOf102
  v218 := Try.zeroValue102
  t222 := Try.underlying106
  a222 := Try.isAgg106
  z222 := Try.sizeOf106
  v222 := Try.zeroValue106
  t228 := Try.underlying108
  a228 := Try.isAgg108
  z228 := Try.sizeOf108
  v228 := Try.zeroValue108
  t229 := Try.underlying109
  a229 := Try.isAgg109
  z229 := Try.sizeOf109
  v229 := Try.zeroValue109 }
theorem Try_laysCompactF {a : Option Func} {x y : Func} (h : a = some x) (k : x = y) : a = some y := h.trans (congrArg some k)
def Try.laysCompact_ren : Go.Shelf.Ren := ⟨fun | 194 => 61 | n => n, fun | 31 => 22 | n => n, fun | n => n⟩
theorem Try.laysCompact : Go.Proofs.Lays.n194 Try.prog Try.laysCompact_ren := {
  mixed := by kernel_rfl
  f194 := Try_laysCompactF Try.func61 (by kernel_rfl)
  t0 := Try.underlying0
  a0 := Try.isAgg0
  z0 := Try.sizeOf0
  v0 := Try.zeroValue0
  t3 := Try.underlying3
  a3 := Try.isAgg3
  z3 := Try.sizeOf3
  v3 := Try.zeroValue3
  t4 := Try.underlying4
  a4 := Try.isAgg4
  z4 := Try.sizeOf4
  v4 := Try.zeroValue4
  t9 := Try.underlying9
  a9 := Try.isAgg9
  z9 := Try.sizeOf9
  v9 := Try.zeroValue9
  t31 := Try.underlying22
  a31 := Try.isAgg22
  z31 := Try.sizeOf22
  v31 := Try.zeroValue22 }
namespace Tryh

theorem sort_some (blk off cap : Nat) (ss : List (List UInt8)) (w : World) (hH : Holds encStr w blk off ss.toArray) (hblk : blk < w.heap.size) (hsz : ss.length < 4611686018427387904) :
    CallsIn Fence.wide 1 Try.prog 68 #[.slice (some ⟨blk, off, none⟩) ss.length cap] w fun e w' =>
      e = .returned (.tuple #[]) ∧ ∃ n os, w' = grow (putRow encStr (Sort.ahead w n) blk off (srt ss).toArray) os :=
  callsIn_wide.2 (Any.slices_Sort_string Try.laysSort blk off cap ss w hH hblk hsz)
theorem sort_none (p : Option Addr) (cap : Nat) (w : World) : CallsIn Fence.wide 1 Try.prog 68 #[.slice p 0 cap] w fun e w' => e = .returned (.tuple #[]) ∧ w' = w :=
  callsIn_wide.2 (Any.slices_Sort_string_none Try.laysSort p cap w)
theorem compact_some (blk off cap : Nat) (zs : List (List UInt8)) (w : World) (hH : Holds encStr w blk off zs.toArray) (hsz : zs.length ≤ 9223372036854775807) (hcap : zs.length ≤ cap) :
    CallsIn Fence.wide 1 Try.prog 61 #[.slice (some ⟨blk, off, none⟩) zs.length cap] w fun e w' => e = .returned (.slice (some ⟨blk, off, none⟩) (Lib.compact zs).length cap) ∧ ∃ q, w' = putRow encStr (Sort.ahead w q) blk off (Lib.compact zs ++ List.replicate (zs.length - (Lib.compact zs).length) []).toArray :=
  callsIn_wide.2 (Any.slices_Compact_string Try.laysCompact blk off cap zs w hH hsz hcap)
theorem compact_none (a : Option Addr) (cap : Nat) (w : World) : CallsIn Fence.wide 1 Try.prog 61 #[.slice a 0 cap] w fun e w' => e = .returned (.slice a 0 cap) ∧ w' = w :=
  callsIn_wide.2 (Any.slices_Compact_string_empty Try.laysCompact a cap w)

set_option maxRecDepth 100000 in
set_option maxHeartbeats 2000000 in
/-- slices.Sorted(slices.Values(s)): a new slice with the strings of s in order. -/
theorem sorted_in (Bs : Nat) (sv : Value) (xs : List (List UInt8)) (hlen : xs.length ≤ maxLen) (hbytes : xs.length * 16 ≤ 140737488351232) (w : World) (hBs : Bs < w.heap.size)
    (hc : w.cell? ⟨Bs, 0, none⟩ = some sv) (hI : Strs w.heap.size w sv xs) :
    CallsIn Fence.wide 6 Try.prog 62 #[.func (.func 69) #[] #[.pointer (some ⟨Bs, 0, none⟩)]] w fun e w' => ∃ v, e = .returned v ∧ w'.ownsRow w.heap.size 9 1 v xs.length ((srt xs).map encStr) ∧ (v = .slice none 0 0 ↔ xs = []) ∧ Below w.heap.size w w' := by
  have h1 : 1 ≤ 6 := by omega
  refine callsIn_of_wp Try.func62 rfl trivial ?_ rfl
  simp only [Try.ntmps62, List.size_toArray, List.length_cons, List.length_nil, Nat.reduceAdd, Nat.reduceSub, Array.replicate_succ, Array.replicate_zero, List.push_toArray, List.append_toArray, List.nil_append, List.cons_append]
  gi_wp2_with (refine ⟨trivial, ?_⟩; gi_at_call 67; refine (collect_in Fence.wide 5 trivial trivial trivial rfl (by omega) Bs sv xs hlen hbytes _ hBs hc hI).mono ?_; rintro e W ⟨v, rfl, hrow, hnil, hb⟩)
  rcases hrow.2 with ⟨rfl, hz⟩ | ⟨gb, cap, cur, rfl, hbase, hgb, r1, r2, r3, r4⟩
  · have hss : xs = [] := List.eq_nil_of_length_eq_zero hz
    subst hss
    gi_wp2_with (refine ⟨trivial, ?_⟩; gi_at_call 68; refine ((sort_none none 0 W).more (show 1 ≤ 5 by omega)).mono ?_; rintro e w' ⟨rfl, rfl⟩)
    go_ret
    exact ⟨.slice none 0 0, rfl, by simpa [srt] using hrow, by simp, hb⟩
  · have hH : Holds encStr W gb 0 xs.toArray := holds_of_block hgb (by simpa using r4)
    have hgl : gb < W.heap.size := (Array.getElem?_eq_some_iff.1 hgb).1
    have hsz : xs.length < 4611686018427387904 := by omega
    have cS := (sort_some gb 0 cap xs W hH hgl hsz).more (show 1 ≤ 5 by omega)
    gi_wp2_with (refine ⟨trivial, ?_⟩; gi_at_call 68; refine cS.mono ?_; rintro e w' ⟨rfl, nn, os, rfl⟩)
    go_ret
    exact ⟨_, rfl, ownsRow_sorted (by simp [srt]) hbase hgb r1 r2 r3, hnil, hb.grown (grownBy_sorted _) hb.size (fun j hj => by cases hj; exact hbase)⟩

set_option maxRecDepth 100000 in
set_option maxHeartbeats 2000000 in
theorem distinct_in (sv : Value) (a : Option Addr) (cap : Nat) (xs : List (List UInt8)) (hlen : xs.length ≤ maxLen) (hbytes : xs.length * 16 ≤ 140737488351232) (w : World) (hsv : sv = .slice a xs.length cap) (hI : Strs w.heap.size w sv xs) :
    CallsIn Fence.wide 8 Try.prog 50 #[sv] w fun e w' => e = .returned (.bool ((uq xs).length == xs.length)) ∧ Below w.heap.size w w' := by
  subst hsv
  have h1 : 1 ≤ 8 := by omega
  refine callsIn_of_wp Try.func50 rfl trivial ?_ rfl
  simp only [Try.ntmps50, List.size_toArray, List.length_cons, List.length_nil, Nat.reduceAdd, Nat.reduceSub, Array.replicate_succ, Array.replicate_zero, List.push_toArray, List.append_toArray, List.nil_append, List.cons_append]
  have hB1 : Below w.heap.size w (w.alloc (.cells #[.slice a xs.length cap] 22)) := (Below.refl _ w).alloc (Nat.le_refl _) _
  have bO := Boxed.new w 22 (.slice a xs.length cap)
  gi_wp2_with (first
    | (refine ⟨trivial, ?_⟩; gi_at_call 63; refine (values_in Fence.wide 7 trivial rfl _ _ _ _).mono ?_; rintro e w1 ⟨rfl, rfl⟩)
    | (refine ⟨trivial, ?_⟩; gi_at_call 62
       refine ((sorted_in w.heap.size _ xs hlen hbytes (w.alloc (.cells #[.slice a xs.length cap] 22)) (by simp) bO.cell ?_).more (show 6 ≤ 7 by omega)).mono ?_
       · exact Go.V.Strs.up (by simp) (hI.below hB1)
       rintro e W ⟨v, rfl, hrow, hnil, hb⟩))
  have hbw : Below w.heap.size w W := hB1.trans (hb.mono (by simp))
  rcases hrow.2 with ⟨rfl, hz⟩ | ⟨gb, cap', cur, rfl, hbase, hgb, r1, r2, r3, r4⟩
  · have hss : xs = [] := List.eq_nil_of_length_eq_zero hz
    subst hss
    gi_wp2_with (refine ⟨trivial, ?_⟩; gi_at_call 61; refine ((compact_none none 0 W).more (show 1 ≤ 7 by omega)).mono ?_; rintro e w' ⟨rfl, rfl⟩)
    go_ret
    exact ⟨by simp [uq, srt, Lib.compact]; rfl, hbw⟩
  · have hH : Holds encStr W gb 0 (srt xs).toArray := holds_of_block hgb (by simpa [srt_len] using r4)
    have hsz : (srt xs).length ≤ 9223372036854775807 := by rw [srt_len]; omega
    have hu := uq_le xs
    have cS := (compact_some gb 0 cap' (srt xs) W hH hsz (by rw [srt_len]; exact r1)).more (show 1 ≤ 7 by omega)
    rw [srt_len] at cS
    change CallsIn _ _ _ _ _ _ (fun e w' => e = .returned (.slice (some ⟨gb, 0, none⟩) (uq xs).length cap') ∧ _) at cS
    gi_wp2_with (refine ⟨trivial, ?_⟩; gi_at_call 61; refine cS.mono ?_; rintro e w' ⟨rfl, q, rfl⟩)
    go_ret
    exact ⟨by rw [int_beq]; rfl, Lib.below_putRow hbw (by simp at hbase; omega)⟩
end Tryh
end Go.Proofs
