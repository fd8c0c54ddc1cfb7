/-
  slices.Sorted(slices.Values(s)), and the program's function that asks whether names are distinct, walked where they lie.
-/
import Derived.Test.YtjpehkgnlgbikaaGreatXJHd1
import Derived.Shelf.Abstract
import Derived.Shelf.Sort.Plain
import Derived.Shelf.Slices.CompactS
import Derived.Shelf.Slices.In.SortNone
import Derived.Sort.OwnSorted
import Derived.Sort.Grow
import Derived.Lib.OwnBridge
import Derived.Ground.NamesProg
import Derived.RegionIn
import Derived.Sort.LoopGhostIn
import Derived.Sort.CutIn
import Derived.Sort.QuietIn
import Derived.Shelf.AbstractIn
import Derived.Shelf.RegionOpen
set_option linter.unusedVariables false
set_option linter.unusedSimpArgs false
namespace Go.Proofs
open Go.RowKit Go.Shelf Go.Sort
open Go.V (Strs srt srt_len uq uq_le int_beq)
theorem Tryz_laysSortF {a : Option Func} {x y : Func} (h : a = some x) (k : x = y) : a = some y := h.trans (congrArg some k)
def Tryz.laysSort_ren : Go.Shelf.Ren := ⟨fun | 190 => 116 | 125 => 121 | 258 => 120 | 128 => 132 | 129 => 133 | 302 => 123 | 303 => 124 | 304 => 125 | 305 => 126 | 306 => 127 | 307 => 128 | 308 => 129 | 309 => 130 | 310 => 131 | 333 => 134 | 329 => 135 | 330 => 136 | 334 => 137 | 335 => 138 | 336 => 139 | 344 => 140 | n => n, fun | 31 => 109 | 46 => 165 | 51 => 176 | 53 => 178 | 183 => 168 | 182 => 167 | 131 => 173 | 218 => 179 | 222 => 183 | 228 => 185 | 229 => 186 | n => n, fun | n => n⟩
theorem Tryz.laysSort : Go.Proofs.Lays.n190 Tryz.prog Tryz.laysSort_ren := {
  mixed := by kernel_rfl
  f125 := Tryz_laysSortF Tryz.func121 (by kernel_rfl)
  f128 := Tryz_laysSortF Tryz.func132 (by kernel_rfl)
  f129 := Tryz_laysSortF Tryz.func133 (by kernel_rfl)
  f190 := Tryz_laysSortF Tryz.func116 (by kernel_rfl)
  f258 := Tryz_laysSortF Tryz.func120 (by kernel_rfl)
  f302 := Tryz_laysSortF Tryz.func123 (by kernel_rfl)
  f303 := Tryz_laysSortF Tryz.func124 (by kernel_rfl)
  f304 := Tryz_laysSortF Tryz.func125 (by kernel_rfl)
  f305 := Tryz_laysSortF Tryz.func126 (by kernel_rfl)
  f306 := Tryz_laysSortF Tryz.func127 (by kernel_rfl)
  f307 := Tryz_laysSortF Tryz.func128 (by kernel_rfl)
  f308 := Tryz_laysSortF Tryz.func129 (by kernel_rfl)
  f309 := Tryz_laysSortF Tryz.func130 (by kernel_rfl)
  f310 := Tryz_laysSortF Tryz.func131 (by kernel_rfl)
  f329 := Tryz_laysSortF Tryz.func135 (by kernel_rfl)
  f330 := Tryz_laysSortF Tryz.func136 (by kernel_rfl)
  f333 := Tryz_laysSortF Tryz.func134 (by kernel_rfl)
  f334 := Tryz_laysSortF Tryz.func137 (by kernel_rfl)
  f335 := Tryz_laysSortF Tryz.func138 (by kernel_rfl)
  f336 := Tryz_laysSortF Tryz.func139 (by kernel_rfl)
  f344 := Tryz_laysSortF Tryz.func140 (by kernel_rfl)
  t0 := Tryz.underlying0
  a0 := Tryz.isAgg0
  z0 := Tryz.sizeOf0
  v0 := Tryz.zeroValue0
  t3 := Tryz.underlying3
  a3 := Tryz.isAgg3
  z3 := Tryz.sizeOf3
  v3 := Tryz.zeroValue3
  t4 := Tryz.underlying4
  a4 := Tryz.isAgg4
  z4 := Tryz.sizeOf4
  v4 := Tryz.zeroValue4
  t5 := Tryz.underlying5
  a5 := Tryz.isAgg5
  z5 := Tryz.sizeOf5
  v5 := Tryz.zeroValue5
  t9 := Tryz.underlying9
  a9 := Tryz.isAgg9
  z9 := Tryz.sizeOf9
  v9 := Tryz.zeroValue9
  t31 := Tryz.underlying109
  a31 := Tryz.isAgg109
  z31 := Tryz.sizeOf109
  v31 := Tryz.zeroValue109
  t46 := Tryz.underlying165
  a46 := Tryz.isAgg165
  z46 := Tryz.sizeOf165
  v46 := Tryz.zeroValue165
  t51 := Tryz.underlying176
  a51 := Tryz.isAgg176
  z51 := Tryz.sizeOf176
  v51 := Tryz.zeroValue176
  t53 := Tryz.underlying178
  a53 := Tryz.isAgg178
  z53 := Tryz.sizeOf178
  v53 := Tryz.zeroValue178
  t131 := Tryz.underlying173
  a131 := Tryz.isAgg173
  z131 := Tryz.sizeOf173
  v131 := Tryz.zeroValue173
  t182 := Tryz.underlying167
  a182 := Tryz.isAgg167
  z182 := Tryz.sizeOf167
  v182 := Tryz.zeroValue167
  t183 := Tryz.underlying168
  a183 := Tryz.isAgg168
  z183 := Tryz.sizeOf168
  v183 := Tryz.zeroValue168
  t218 := Tryz.underlying179
  a218 := Tryz.isAgg179
  z218 := Tryz.sizeOf179
  v218 := Tryz.zeroValue179
  t222 := Tryz.underlying183
  a222 := Tryz.isAgg183
  z222 := Tryz.sizeOf183
  v222 := Tryz.zeroValue183
  t228 := Tryz.underlying185
  a228 := Tryz.isAgg185
  z228 := Tryz.sizeOf185
  v228 := Tryz.zeroValue185
  t229 := Tryz.underlying186
  a229 := Tryz.isAgg186
  z229 := Tryz.sizeOf186
  v229 := Tryz.zeroValue186 }
theorem Tryz_laysCompactF {a : Option Func} {x y : Func} (h : a = some x) (k : x = y) : a = some y := h.trans (congrArg some k)
def Tryz.laysCompact_ren : Go.Shelf.Ren := ⟨fun | 194 => 104 | n => n, fun | 31 => 109 | n => n, fun | n => n⟩
theorem Tryz.laysCompact : Go.Proofs.Lays.n194 Tryz.prog Tryz.laysCompact_ren := {
  mixed := by kernel_rfl
  f194 := Tryz_laysCompactF Tryz.func104 (by kernel_rfl)
  t0 := Tryz.underlying0
  a0 := Tryz.isAgg0
  z0 := Tryz.sizeOf0
  v0 := Tryz.zeroValue0
  t3 := Tryz.underlying3
  a3 := Tryz.isAgg3
  z3 := Tryz.sizeOf3
  v3 := Tryz.zeroValue3
  t4 := Tryz.underlying4
  a4 := Tryz.isAgg4
  z4 := Tryz.sizeOf4
  v4 := Tryz.zeroValue4
  t9 := Tryz.underlying9
  a9 := Tryz.isAgg9
  z9 := Tryz.sizeOf9
  v9 := Tryz.zeroValue9
  t31 := Tryz.underlying109
  a31 := Tryz.isAgg109
  z31 := Tryz.sizeOf109
  v31 := Tryz.zeroValue109 }
namespace Tryzh

theorem sort_some (blk off cap : Nat) (ss : List (List UInt8)) (w : World) (hH : Holds encStr w blk off ss.toArray) (hblk : blk < w.heap.size) (hsz : ss.length < 4611686018427387904) :
    CallsIn Fence.wide 1 Tryz.prog 116 #[.slice (some ⟨blk, off, none⟩) ss.length cap] w fun e w' =>
      e = .returned (.tuple #[]) ∧ ∃ n os, w' = grow (putRow encStr (Sort.ahead w n) blk off (srt ss).toArray) os :=
  callsIn_wide.2 (Any.slices_Sort_string Tryz.laysSort blk off cap ss w hH hblk hsz)
theorem sort_none (p : Option Addr) (cap : Nat) (w : World) : CallsIn Fence.wide 1 Tryz.prog 116 #[.slice p 0 cap] w fun e w' => e = .returned (.tuple #[]) ∧ w' = w :=
  callsIn_wide.2 (Any.slices_Sort_string_none Tryz.laysSort p cap w)
theorem compact_some (blk off cap : Nat) (zs : List (List UInt8)) (w : World) (hH : Holds encStr w blk off zs.toArray) (hsz : zs.length ≤ 9223372036854775807) (hcap : zs.length ≤ cap) :
    CallsIn Fence.wide 1 Tryz.prog 104 #[.slice (some ⟨blk, off, none⟩) zs.length cap] w fun e w' => e = .returned (.slice (some ⟨blk, off, none⟩) (Lib.compact zs).length cap) ∧ ∃ q, w' = putRow encStr (Sort.ahead w q) blk off (Lib.compact zs ++ List.replicate (zs.length - (Lib.compact zs).length) []).toArray :=
  callsIn_wide.2 (Any.slices_Compact_string Tryz.laysCompact blk off cap zs w hH hsz hcap)
theorem compact_none (a : Option Addr) (cap : Nat) (w : World) : CallsIn Fence.wide 1 Tryz.prog 104 #[.slice a 0 cap] w fun e w' => e = .returned (.slice a 0 cap) ∧ w' = w :=
  callsIn_wide.2 (Any.slices_Compact_string_empty Tryz.laysCompact a cap w)

set_option maxRecDepth 100000 in
set_option maxHeartbeats 2000000 in
theorem sorted_in (Bs : Nat) (sv : Value) (xs : List (List UInt8)) (hlen : xs.length ≤ maxLen) (hbytes : xs.length * 16 ≤ 140737488351232) (w : World) (hBs : Bs < w.heap.size)
    (hc : w.cell? ⟨Bs, 0, none⟩ = some sv) (hI : Strs w.heap.size w sv xs) :
    CallsIn Fence.wide 6 Tryz.prog 105 #[.func (.func 117) #[] #[.pointer (some ⟨Bs, 0, none⟩)]] w fun e w' => ∃ v, e = .returned v ∧ w'.ownsRow w.heap.size 9 1 v xs.length ((srt xs).map encStr) ∧ (v = .slice none 0 0 ↔ xs = []) ∧ Below w.heap.size w w' := by
  have h1 : 1 ≤ 6 := by omega
  refine callsIn_of_wp Tryz.func105 rfl trivial ?_ rfl
  simp only [Tryz.ntmps105, List.size_toArray, List.length_cons, List.length_nil, Nat.reduceAdd, Nat.reduceSub, Array.replicate_succ, Array.replicate_zero, List.push_toArray, List.append_toArray, List.nil_append, List.cons_append]
  gi_wp2_with (refine ⟨trivial, ?_⟩; gi_at_call 115; refine (collect_in Fence.wide 5 trivial trivial trivial rfl (by omega) Bs sv xs hlen hbytes _ hBs hc hI).mono ?_; rintro e W ⟨v, rfl, hrow, hnil, hb⟩)
  rcases hrow.2 with ⟨rfl, hz⟩ | ⟨gb, cap, cur, rfl, hbase, hgb, r1, r2, r3, r4⟩
  · have hss : xs = [] := List.eq_nil_of_length_eq_zero hz
    subst hss
    gi_wp2_with (refine ⟨trivial, ?_⟩; gi_at_call 116; refine ((sort_none none 0 W).more (show 1 ≤ 5 by omega)).mono ?_; rintro e w' ⟨rfl, rfl⟩)
    go_ret
    exact ⟨.slice none 0 0, rfl, by simpa [srt] using hrow, by simp, hb⟩
  · have hH : Holds encStr W gb 0 xs.toArray := holds_of_block hgb (by simpa using r4)
    have hgl : gb < W.heap.size := (Array.getElem?_eq_some_iff.1 hgb).1
    have hsz : xs.length < 4611686018427387904 := by omega
    have cS := (sort_some gb 0 cap xs W hH hgl hsz).more (show 1 ≤ 5 by omega)
    gi_wp2_with (refine ⟨trivial, ?_⟩; gi_at_call 116; refine cS.mono ?_; rintro e w' ⟨rfl, nn, os, rfl⟩)
    go_ret
    exact ⟨_, rfl, ownsRow_sorted (by simp [srt]) hbase hgb r1 r2 r3, hnil, hb.grown (grownBy_sorted _) hb.size (fun j hj => by cases hj; exact hbase)⟩

set_option maxRecDepth 100000 in
set_option maxHeartbeats 2000000 in
theorem distinct_in (sv : Value) (a : Option Addr) (cap : Nat) (xs : List (List UInt8)) (hlen : xs.length ≤ maxLen) (hbytes : xs.length * 16 ≤ 140737488351232) (w : World) (hsv : sv = .slice a xs.length cap) (hI : Strs w.heap.size w sv xs) :
    CallsIn Fence.wide 8 Tryz.prog 80 #[sv] w fun e w' => e = .returned (.bool ((uq xs).length == xs.length)) ∧ Below w.heap.size w w' := by
  subst hsv
  have h1 : 1 ≤ 8 := by omega
  refine callsIn_of_wp Tryz.func80 rfl trivial ?_ rfl
  simp only [Tryz.ntmps80, List.size_toArray, List.length_cons, List.length_nil, Nat.reduceAdd, Nat.reduceSub, Array.replicate_succ, Array.replicate_zero, List.push_toArray, List.append_toArray, List.nil_append, List.cons_append]
  have hB1 : Below w.heap.size w (w.alloc (.cells #[.slice a xs.length cap] 109)) := (Below.refl _ w).alloc (Nat.le_refl _) _
  have bO := Boxed.new w 109 (.slice a xs.length cap)
  gi_wp2_with (first
    | (refine ⟨trivial, ?_⟩; gi_at_call 106; refine (values_in Fence.wide 7 trivial rfl _ _ _ _).mono ?_; rintro e w1 ⟨rfl, rfl⟩)
    | (refine ⟨trivial, ?_⟩; gi_at_call 105
       refine ((sorted_in w.heap.size _ xs hlen hbytes (w.alloc (.cells #[.slice a xs.length cap] 109)) (by simp) bO.cell ?_).more (show 6 ≤ 7 by omega)).mono ?_
       · exact Go.V.Strs.up (by simp) (hI.below hB1)
       rintro e W ⟨v, rfl, hrow, hnil, hb⟩))
  have hbw : Below w.heap.size w W := hB1.trans (hb.mono (by simp))
  rcases hrow.2 with ⟨rfl, hz⟩ | ⟨gb, cap', cur, rfl, hbase, hgb, r1, r2, r3, r4⟩
  · have hss : xs = [] := List.eq_nil_of_length_eq_zero hz
    subst hss
    gi_wp2_with (refine ⟨trivial, ?_⟩; gi_at_call 104; refine ((compact_none none 0 W).more (show 1 ≤ 7 by omega)).mono ?_; rintro e w' ⟨rfl, rfl⟩)
    go_ret
    exact ⟨by simp [uq, srt, Lib.compact]; rfl, hbw⟩
  · have hH : Holds encStr W gb 0 (srt xs).toArray := holds_of_block hgb (by simpa [srt_len] using r4)
    have hsz : (srt xs).length ≤ 9223372036854775807 := by rw [srt_len]; omega
    have hu := uq_le xs
    have cS := (compact_some gb 0 cap' (srt xs) W hH hsz (by rw [srt_len]; exact r1)).more (show 1 ≤ 7 by omega)
    rw [srt_len] at cS
    change CallsIn _ _ _ _ _ _ (fun e w' => e = .returned (.slice (some ⟨gb, 0, none⟩) (uq xs).length cap') ∧ _) at cS
    gi_wp2_with (refine ⟨trivial, ?_⟩; gi_at_call 104; refine cS.mono ?_; rintro e w' ⟨rfl, q, rfl⟩)
    go_ret
    exact ⟨by rw [int_beq]; rfl, Lib.below_putRow hbw (by simp at hbase; omega)⟩
end Tryzh
end Go.Proofs
