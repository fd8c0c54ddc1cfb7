/-
  slices.Sorted(slices.Values(s)), and the program's function that asks whether names are distinct, walked where they lie.
-/
import Derived.Test.YtbkcpcfcccahnaaGreatDoorXGHd1
import Derived.Shelf.Abstract
import Derived.Shelf.Sort.Plain
import Derived.Shelf.Slices.CompactS
import Derived.Shelf.Slices.In.SortNone
import Derived.Sort.OwnSorted
import Derived.Sort.Grow
import Derived.Lib.OwnBridge
import Derived.Ground.NamesProg
import Derived.RegionIn
import Derived.Sort.LoopGhostIn
import Derived.Sort.CutIn
import Derived.Sort.QuietIn
import Derived.Shelf.AbstractIn
import Derived.Shelf.RegionOpen
set_option linter.unusedVariables false
set_option linter.unusedSimpArgs false
namespace Go.Proofs
open Go.RowKit Go.Shelf Go.Sort
open Go.V (Strs srt srt_len uq uq_le int_beq)
theorem Tryz_laysSortF {a : Option Func} {x y : Func} (h : a = some x) (k : x = y) : a = some y := h.trans (congrArg some k)
def Tryz.laysSort_ren : Go.Shelf.Ren := ⟨fun | 190 => 149 | 125 => 164 | 258 => 163 | 128 => 188 | 129 => 189 | 302 => 179 | 303 => 180 | 304 => 181 | 305 => 182 | 306 => 183 | 307 => 184 | 308 => 185 | 309 => 186 | 310 => 187 | 333 => 197 | 329 => 198 | 330 => 199 | 334 => 200 | 335 => 201 | 336 => 202 | 344 => 205 | n => n, fun | 31 => 22 | 46 => 105 | 51 => 199 | 53 => 169 | 183 => 191 | 182 => 190 | 131 => 196 | 218 => 213 | 222 => 217 | 228 => 219 | 229 => 220 | n => n, fun | n => n⟩
theorem Tryz.laysSort : Go.Proofs.Lays.n190 Tryz.prog Tryz.laysSort_ren := {
  mixed := by kernel_rfl
  f125 := Tryz_laysSortF Tryz.func164 (by kernel_rfl)
  f128 := Tryz_laysSortF Tryz.func188 (by kernel_rfl)
  f129 := Tryz_laysSortF Tryz.func189 (by kernel_rfl)
  f190 := Tryz_laysSortF Tryz.func149 (by kernel_rfl)
  f258 := Tryz_laysSortF Tryz.func163 (by kernel_rfl)
  f302 := Tryz_laysSortF Tryz.func179 (by kernel_rfl)
  f303 := Tryz_laysSortF Tryz.func180 (by kernel_rfl)
  f304 := Tryz_laysSortF Tryz.func181 (by kernel_rfl)
  f305 := Tryz_laysSortF Tryz.func182 (by kernel_rfl)
  f306 := Tryz_laysSortF Tryz.func183 (by kernel_rfl)
  f307 := Tryz_laysSortF Tryz.func184 (by kernel_rfl)
  f308 := Tryz_laysSortF Tryz.func185 (by kernel_rfl)
  f309 := Tryz_laysSortF Tryz.func186 (by kernel_rfl)
  f310 := Tryz_laysSortF Tryz.func187 (by kernel_rfl)
  f329 := Tryz_laysSortF Tryz.func198 (by kernel_rfl)
  f330 := Tryz_laysSortF Tryz.func199 (by kernel_rfl)
  f333 := Tryz_laysSortF Tryz.func197 (by kernel_rfl)
  f334 := Tryz_laysSortF Tryz.func200 (by kernel_rfl)
  f335 := Tryz_laysSortF Tryz.func201 (by kernel_rfl)
  f336 := Tryz_laysSortF Tryz.func202 (by kernel_rfl)
  f344 := Tryz_laysSortF Tryz.func205 (by kernel_rfl)
  t0 := Tryz.underlying0
  a0 := Tryz.isAgg0
  z0 := Tryz.sizeOf0
  v0 := Tryz.zeroValue0
  t3 := Tryz.underlying3
  a3 := Tryz.isAgg3
  z3 := Tryz.sizeOf3
  v3 := Tryz.zeroValue3
  t4 := Tryz.underlying4
  a4 := Tryz.isAgg4
  z4 := Tryz.sizeOf4
  v4 := Tryz.zeroValue4
  t5 := Tryz.underlying5
  a5 := Tryz.isAgg5
  z5 := Tryz.sizeOf5
  v5 := Tryz.zeroValue5
  t9 := Tryz.underlying9
  a9 := Tryz.isAgg9
  z9 := Tryz.sizeOf9
  v9 := Tryz.zeroValue9
  t31 := Tryz.underlying22
  a31 := Tryz.isAgg22
  z31 := Tryz.sizeOf22
  v31 := Tryz.zeroValue22
  t46 := Tryz.underlying105
  a46 := Tryz.isAgg105
  z46 := Tryz.sizeOf105
  v46 := Tryz.zeroValue105
  t51 := Tryz.underlying199
  a51 := Tryz.isAgg199
  z51 := Tryz.sizeOf199
  v51 := Tryz.zeroValue199
  t53 := Tryz.underlying169
  a53 := Tryz.isAgg169
  z53 := Tryz.sizeOf169
  v53 := Tryz.zeroValue169
  t131 := Tryz.underlying196
  a131 := Tryz.isAgg196
  z131 := Tryz.sizeOf196
  v131 := Tryz.zeroValue196
  t182 := Tryz.underlying190
  a182 := Tryz.isAgg190
  z182 := Tryz.sizeOf190
  v182 := Tryz.zeroValue190
  t183 := Tryz.underlying191
  a183 := Tryz.isAgg191
  z183 := Tryz.sizeOf191
  v183 := Tryz.zeroValue191
  t218 := Tryz.underlying213
  a218 := Tryz.isAgg213
  z218 := Tryz.sizeOf213
  v218 := Tryz.zeroValue213
  t222 := Tryz.underlying217
  a222 := Tryz.isAgg217
  z222 := Tryz.sizeOf217
  v222 := Tryz.zeroValue217
  t228 := Tryz.underlying219
  a228 := Tryz.isAgg219
  z228 := Tryz.sizeOf219
  v228 := Tryz.zeroValue219
  t229 := Tryz.underlying220
  a229 := Tryz.isAgg220
  z229 := Tryz.sizeOf220
  v229 := Tryz.zeroValue220 }
theorem Tryz_laysCompactF {a : Option Func} {x y : Func} (h : a = some x) (k : x = y) : a = some y := h.trans (congrArg some k)
def Tryz.laysCompact_ren : Go.Shelf.Ren := ⟨fun | 194 => 130 | n => n, fun | 31 => 22 | n => n, fun | n => n⟩
theorem Tryz.laysCompact : Go.Proofs.Lays.n194 Tryz.prog Tryz.laysCompact_ren := {
  mixed := by kernel_rfl
  f194 := Tryz_laysCompactF Tryz.func130 (by kernel_rfl)
  t0 := Tryz.underlying0
  a0 := Tryz.isAgg0
  z0 := Tryz.sizeOf0
  v0 := Tryz.zeroValue0
  t3 := Tryz.underlying3
  a3 := Tryz.isAgg3
  z3 := Tryz.sizeOf3
  v3 := Tryz.zeroValue3
  t4 := Tryz.underlying4
  a4 := Tryz.isAgg4
  z4 := Tryz.sizeOf4
  v4 := Tryz.zeroValue4
  t9 := Tryz.underlying9
  a9 := Tryz.isAgg9
  z9 := Tryz.sizeOf9
  v9 := Tryz.zeroValue9
  t31 := Tryz.underlying22
  a31 := Tryz.isAgg22
  z31 := Tryz.sizeOf22
  v31 := Tryz.zeroValue22 }
namespace Tryzh

theorem sort_some (blk off cap : Nat) (ss : List (List UInt8)) (w : World) (hH : Holds encStr w blk off ss.toArray) (hblk : blk < w.heap.size) (hsz : ss.length < 4611686018427387904) :
    CallsIn Fence.wide 1 Tryz.prog 149 #[.slice (some ⟨blk, off, none⟩) ss.length cap] w fun e w' =>
      e = .returned (.tuple #[]) ∧ ∃ n os, w' = grow (putRow encStr (Sort.ahead w n) blk off (srt ss).toArray) os :=
  callsIn_wide.2 (Any.slices_Sort_string Tryz.laysSort blk off cap ss w hH hblk hsz)
theorem sort_none (p : Option Addr) (cap : Nat) (w : World) : CallsIn Fence.wide 1 Tryz.prog 149 #[.slice p 0 cap] w fun e w' => e = .returned (.tuple #[]) ∧ w' = w :=
  callsIn_wide.2 (Any.slices_Sort_string_none Tryz.laysSort p cap w)
theorem compact_some (blk off cap : Nat) (zs : List (List UInt8)) (w : World) (hH : Holds encStr w blk off zs.toArray) (hsz : zs.length ≤ 9223372036854775807) (hcap : zs.length ≤ cap) :
    CallsIn Fence.wide 1 Tryz.prog 130 #[.slice (some ⟨blk, off, none⟩) zs.length cap] w fun e w' => e = .returned (.slice (some ⟨blk, off, none⟩) (Lib.compact zs).length cap) ∧ ∃ q, w' = putRow encStr (Sort.ahead w q) blk off (Lib.compact zs ++ List.replicate (zs.length - (Lib.compact zs).length) []).toArray :=
  callsIn_wide.2 (Any.slices_Compact_string Tryz.laysCompact blk off cap zs w hH hsz hcap)
theorem compact_none (a : Option Addr) (cap : Nat) (w : World) : CallsIn Fence.wide 1 Tryz.prog 130 #[.slice a 0 cap] w fun e w' => e = .returned (.slice a 0 cap) ∧ w' = w :=
  callsIn_wide.2 (Any.slices_Compact_string_empty Tryz.laysCompact a cap w)

set_option maxRecDepth 100000 in
set_option maxHeartbeats 2000000 in
/-- slices.Sorted(slices.Values(s)): a new slice with the strings of s in order. -/
theorem sorted_in (Bs : Nat) (sv : Value) (xs : List (List UInt8)) (hlen : xs.length ≤ maxLen) (hbytes : xs.length * 16 ≤ 140737488351232) (w : World) (hBs : Bs < w.heap.size)
    (hc : w.cell? ⟨Bs, 0, none⟩ = some sv) (hI : Strs w.heap.size w sv xs) :
    CallsIn Fence.wide 6 Tryz.prog 131 #[.func (.func 150) #[] #[.pointer (some ⟨Bs, 0, none⟩)]] w fun e w' => ∃ v, e = .returned v ∧ w'.ownsRow w.heap.size 9 1 v xs.length ((srt xs).map encStr) ∧ (v = .slice none 0 0 ↔ xs = []) ∧ Below w.heap.size w w' := by
  have h1 : 1 ≤ 6 := by omega
  refine callsIn_of_wp Tryz.func131 rfl trivial ?_ rfl
  simp only [Tryz.ntmps131, List.size_toArray, List.length_cons, List.length_nil, Nat.reduceAdd, Nat.reduceSub, Array.replicate_succ, Array.replicate_zero, List.push_toArray, List.append_toArray, List.nil_append, List.cons_append]
  gi_wp2_with (refine ⟨trivial, ?_⟩; gi_at_call 148; refine (collect_in Fence.wide 5 trivial trivial trivial rfl (by omega) Bs sv xs hlen hbytes _ hBs hc hI).mono ?_; rintro e W ⟨v, rfl, hrow, hnil, hb⟩)
  rcases hrow.2 with ⟨rfl, hz⟩ | ⟨gb, cap, cur, rfl, hbase, hgb, r1, r2, r3, r4⟩
  · have hss : xs = [] := List.eq_nil_of_length_eq_zero hz
    subst hss
    gi_wp2_with (refine ⟨trivial, ?_⟩; gi_at_call 149; refine ((sort_none none 0 W).more (show 1 ≤ 5 by omega)).mono ?_; rintro e w' ⟨rfl, rfl⟩)
    go_ret
    exact ⟨.slice none 0 0, rfl, by simpa [srt] using hrow, by simp, hb⟩
  · have hH : Holds encStr W gb 0 xs.toArray := holds_of_block hgb (by simpa using r4)
    have hgl : gb < W.heap.size := (Array.getElem?_eq_some_iff.1 hgb).1
    have hsz : xs.length < 4611686018427387904 := by omega
    have cS := (sort_some gb 0 cap xs W hH hgl hsz).more (show 1 ≤ 5 by omega)
    gi_wp2_with (refine ⟨trivial, ?_⟩; gi_at_call 149; refine cS.mono ?_; rintro e w' ⟨rfl, nn, os, rfl⟩)
    go_ret
    exact ⟨_, rfl, ownsRow_sorted (by simp [srt]) hbase hgb r1 r2 r3, hnil, hb.grown (grownBy_sorted _) hb.size (fun j hj => by cases hj; exact hbase)⟩

set_option maxRecDepth 100000 in
set_option maxHeartbeats 2000000 in
theorem distinct_in (sv : Value) (a : Option Addr) (cap : Nat) (xs : List (List UInt8)) (hlen : xs.length ≤ maxLen) (hbytes : xs.length * 16 ≤ 140737488351232) (w : World) (hsv : sv = .slice a xs.length cap) (hI : Strs w.heap.size w sv xs) :
    CallsIn Fence.wide 8 Tryz.prog 109 #[sv] w fun e w' => e = .returned (.bool ((uq xs).length == xs.length)) ∧ Below w.heap.size w w' := by
  subst hsv
  have h1 : 1 ≤ 8 := by omega
  refine callsIn_of_wp Tryz.func109 rfl trivial ?_ rfl
  simp only [Tryz.ntmps109, List.size_toArray, List.length_cons, List.length_nil, Nat.reduceAdd, Nat.reduceSub, Array.replicate_succ, Array.replicate_zero, List.push_toArray, List.append_toArray, List.nil_append, List.cons_append]
  have hB1 : Below w.heap.size w (w.alloc (.cells #[.slice a xs.length cap] 22)) := (Below.refl _ w).alloc (Nat.le_refl _) _
  have bO := Boxed.new w 22 (.slice a xs.length cap)
  gi_wp2_with (first
    | (refine ⟨trivial, ?_⟩; gi_at_call 132; refine (values_in Fence.wide 7 trivial rfl _ _ _ _).mono ?_; rintro e w1 ⟨rfl, rfl⟩)
    | (refine ⟨trivial, ?_⟩; gi_at_call 131
       refine ((sorted_in w.heap.size _ xs hlen hbytes (w.alloc (.cells #[.slice a xs.length cap] 22)) (by simp) bO.cell ?_).more (show 6 ≤ 7 by omega)).mono ?_
       · exact Go.V.Strs.up (by simp) (hI.below hB1)
       rintro e W ⟨v, rfl, hrow, hnil, hb⟩))
  have hbw : Below w.heap.size w W := hB1.trans (hb.mono (by simp))
  rcases hrow.2 with ⟨rfl, hz⟩ | ⟨gb, cap', cur, rfl, hbase, hgb, r1, r2, r3, r4⟩
  · have hss : xs = [] := List.eq_nil_of_length_eq_zero hz
    subst hss
    gi_wp2_with (refine ⟨trivial, ?_⟩; gi_at_call 130; refine ((compact_none none 0 W).more (show 1 ≤ 7 by omega)).mono ?_; rintro e w' ⟨rfl, rfl⟩)
    go_ret
    exact ⟨by simp [uq, srt, Lib.compact]; rfl, hbw⟩
  · have hH : Holds encStr W gb 0 (srt xs).toArray := holds_of_block hgb (by simpa [srt_len] using r4)
    have hsz : (srt xs).length ≤ 9223372036854775807 := by rw [srt_len]; omega
    have hu := uq_le xs
    have cS := (compact_some gb 0 cap' (srt xs) W hH hsz (by rw [srt_len]; exact r1)).more (show 1 ≤ 7 by omega)
    rw [srt_len] at cS
    change CallsIn _ _ _ _ _ _ (fun e w' => e = .returned (.slice (some ⟨gb, 0, none⟩) (uq xs).length cap') ∧ _) at cS
    gi_wp2_with (refine ⟨trivial, ?_⟩; gi_at_call 130; refine cS.mono ?_; rintro e w' ⟨rfl, q, rfl⟩)
    go_ret
    exact ⟨by rw [int_beq]; rfl, Lib.below_putRow hbw (by simp at hbase; omega)⟩
end Tryzh
end Go.Proofs
