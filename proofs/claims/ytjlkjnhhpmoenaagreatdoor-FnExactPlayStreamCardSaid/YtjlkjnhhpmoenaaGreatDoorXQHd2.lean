/-
  slices.Sorted(slices.Values(s)), and the program's function that asks whether names are distinct, walked where they lie.
-/
import Derived.Test.YtjlkjnhhpmoenaaGreatDoorXQHd1
import Derived.Shelf.Abstract
import Derived.Shelf.Sort.Plain
import Derived.Shelf.Slices.CompactS
import Derived.Shelf.Slices.In.SortNone
import Derived.Sort.OwnSorted
import Derived.Sort.Grow
import Derived.Lib.OwnBridge
import Derived.Ground.NamesProg
import Derived.RegionIn
import Derived.Sort.LoopGhostIn
import Derived.Sort.CutIn
import Derived.Sort.QuietIn
import Derived.Shelf.AbstractIn
import Derived.Shelf.RegionOpen
set_option linter.unusedVariables false
set_option linter.unusedSimpArgs false
namespace Go.Proofs
open Go.RowKit Go.Shelf Go.Sort
open Go.V (Strs srt CU uq ahC abO)
theorem di {a:Option Func} {x y:Func} (h:a=some x) (k:x=y):a=some y:=h.trans (congrArg some k)
def Tryz.laysSort_ren :Go.Shelf.Ren:=⟨fun |190=>175 |125=>179 |258=>178 |128=>189 |129=>190 |302=>180 |303=>181 |304=>182 |305=>183 |306=>184 |307=>185 |308=>186 |309=>187 |310=>188 |333=>191 |329=>192 |330=>193 |334=>194 |335=>195 |336=>196 |344=>197 |n=>n,fun |31=>22 |46=>133 |51=>168 |53=>120 |183=>187 |182=>186 |131=>192 |218=>196 |222=>200 |228=>202 |229=>203 |n=>n,fun |n=>n⟩
theorem Tryz.laysSort :Go.Proofs.Lays.n190 Tryz.prog Tryz.laysSort_ren:={
 mixed:=by kernel_rfl
 f125:=di Tryz.func179 (by kernel_rfl)
 f128:=di Tryz.func189 (by kernel_rfl)
 f129:=di Tryz.func190 (by kernel_rfl)
 f190:=di Tryz.func175 (by kernel_rfl)
 f258:=di Tryz.func178 (by kernel_rfl)
 f302:=di Tryz.func180 (by kernel_rfl)
 f303:=di Tryz.func181 (by kernel_rfl)
 f304:=di Tryz.func182 (by kernel_rfl)
 f305:=di Tryz.func183 (by kernel_rfl)
 f306:=di Tryz.func184 (by kernel_rfl)
 f307:=di Tryz.func185 (by kernel_rfl)
 f308:=di Tryz.func186 (by kernel_rfl)
 f309:=di Tryz.func187 (by kernel_rfl)
 f310:=di Tryz.func188 (by kernel_rfl)
 f329:=di Tryz.func192 (by kernel_rfl)
 f330:=di Tryz.func193 (by kernel_rfl)
 f333:=di Tryz.func191 (by kernel_rfl)
 f334:=di Tryz.func194 (by kernel_rfl)
 f335:=di Tryz.func195 (by kernel_rfl)
 f336:=di Tryz.func196 (by kernel_rfl)
 f344:=di Tryz.func197 (by kernel_rfl)
 t0:=Tryz.underlying0
 a0:=Tryz.isAgg0
 z0:=Tryz.sizeOf0
 v0:=Tryz.zeroValue0
 t3:=Tryz.underlying3
 a3:=Tryz.isAgg3
 z3:=Tryz.sizeOf3
 v3:=Tryz.zeroValue3
 t4:=Tryz.underlying4
 a4:=Tryz.isAgg4
 z4:=Tryz.sizeOf4
 v4:=Tryz.zeroValue4
 t5:=Tryz.underlying5
 a5:=Tryz.isAgg5
 z5:=Tryz.sizeOf5
 v5:=Tryz.zeroValue5
 t9:=Tryz.underlying9
 a9:=Tryz.isAgg9
 z9:=Tryz.sizeOf9
 v9:=Tryz.zeroValue9
 t31:=Tryz.underlying22
 a31:=Tryz.isAgg22
 z31:=Tryz.sizeOf22
 v31:=Tryz.zeroValue22
 t46:=Tryz.underlying133
 a46:=Tryz.isAgg133
 z46:=Tryz.sizeOf133
 v46:=Tryz.zeroValue133
 t51:=Tryz.underlying168
 a51:=Tryz.isAgg168
 z51:=Tryz.sizeOf168
 v51:=Tryz.zeroValue168
 t53:=Tryz.underlying120
 a53:=Tryz.isAgg120
 z53:=Tryz.sizeOf120
 v53:=Tryz.zeroValue120
 t131:=Tryz.underlying192
 a131:=Tryz.isAgg192
 z131:=Tryz.sizeOf192
 v131:=Tryz.zeroValue192
 t182:=Tryz.underlying186
 a182:=Tryz.isAgg186
 z182:=Tryz.sizeOf186
 v182:=Tryz.zeroValue186
 t183:=Tryz.underlying187
 a183:=Tryz.isAgg187
 z183:=Tryz.sizeOf187
 v183:=Tryz.zeroValue187
 t218:=Tryz.underlying196
 a218:=Tryz.isAgg196
 z218:=Tryz.sizeOf196
 v218:=Tryz.zeroValue196
 t222:=Tryz.underlying200
 a222:=Tryz.isAgg200
 z222:=Tryz.sizeOf200
 v222:=Tryz.zeroValue200
 t228:=Tryz.underlying202
 a228:=Tryz.isAgg202
 z228:=Tryz.sizeOf202
 v228:=Tryz.zeroValue202
 t229:=Tryz.underlying203
 a229:=Tryz.isAgg203
 z229:=Tryz.sizeOf203
 v229:=Tryz.zeroValue203}
theorem RI {a:Option Func} {x y:Func} (h:a=some x) (k:x=y):a=some y:=h.trans (congrArg some k)
def Tryz.laysCompact_ren :Go.Shelf.Ren:=⟨fun |194=>169 |n=>n,fun |31=>22 |n=>n,fun |n=>n⟩
theorem Tryz.laysCompact :Go.Proofs.Lays.n194 Tryz.prog Tryz.laysCompact_ren:={
 mixed:=by kernel_rfl
 f194:=RI Tryz.func169 (by kernel_rfl)
 t0:=Tryz.underlying0
 a0:=Tryz.isAgg0
 z0:=Tryz.sizeOf0
 v0:=Tryz.zeroValue0
 t3:=Tryz.underlying3
 a3:=Tryz.isAgg3
 z3:=Tryz.sizeOf3
 v3:=Tryz.zeroValue3
 t4:=Tryz.underlying4
 a4:=Tryz.isAgg4
 z4:=Tryz.sizeOf4
 v4:=Tryz.zeroValue4
 t9:=Tryz.underlying9
 a9:=Tryz.isAgg9
 z9:=Tryz.sizeOf9
 v9:=Tryz.zeroValue9
 t31:=Tryz.underlying22
 a31:=Tryz.isAgg22
 z31:=Tryz.sizeOf22
 v31:=Tryz.zeroValue22}
namespace Ko
theorem agz (blk off cap:Nat) (ss:List (List UInt8)) (w:World) (hH:Holds encStr w blk off ss.toArray) (hblk:blk<w.heap.size) (hsz:ss.length<4611686018427387904):
 CallsIn Fence.wide 1 Tryz.prog 175 #[.slice (some ⟨blk,off,none⟩) ss.length cap] w fun e w'=>
  e= .returned (.tuple #[]) /\ ∃n os,w'=grow (putRow encStr (Sort.ahead w n) blk off (srt ss).toArray) os:=
 callsIn_wide.2 (Any.slices_Sort_string Tryz.laysSort blk off cap ss w hH hblk hsz)
theorem agA (p:Option Addr) (cap:Nat) (w:World):CallsIn Fence.wide 1 Tryz.prog 175 #[.slice p 0 cap] w fun e w'=>e= .returned (.tuple #[]) /\ w'=w:=
 callsIn_wide.2 (Any.slices_Sort_string_none Tryz.laysSort p cap w)
theorem abP (blk off cap:Nat) (zs:List (List UInt8)) (w:World) (hH:Holds encStr w blk off zs.toArray) (hsz:zs.length<=9223372036854775807) (hcap:zs.length<=cap):
 CallsIn Fence.wide 1 Tryz.prog 169 #[.slice (some ⟨blk,off,none⟩) zs.length cap] w fun e w'=>e= .returned (.slice (some ⟨blk,off,none⟩) (Lib.compact zs).length cap) /\ ∃q,w'=putRow encStr (Sort.ahead w q) blk off (Lib.compact zs++List.replicate (zs.length-(Lib.compact zs).length) []).toArray:=
 callsIn_wide.2 (Any.slices_Compact_string Tryz.laysCompact blk off cap zs w hH hsz hcap)
theorem abQ (a:Option Addr) (cap:Nat) (w:World):CallsIn Fence.wide 1 Tryz.prog 169 #[.slice a 0 cap] w fun e w'=>e= .returned (.slice a 0 cap) /\ w'=w:=
 callsIn_wide.2 (Any.slices_Compact_string_empty Tryz.laysCompact a cap w)
set_option maxRecDepth 100000 in
set_option maxHeartbeats 2000000 in
theorem sorted_in (Bs:Nat) (sv:Value) (xs:List (List UInt8)) (hlen:xs.length<=maxLen) (hbytes:xs.length*16<=140737488351232) (w:World) (hBs:Bs<w.heap.size)
 (hc:w.cell? ⟨Bs,0,none⟩=some sv) (hI:Strs w.heap.size w sv xs):
 CallsIn Fence.wide 6 Tryz.prog 170 #[.func (.func 176) #[] #[.pointer (some ⟨Bs,0,none⟩)]] w fun e w'=>∃v,e= .returned v /\ w'.ownsRow w.heap.size 9 1 v xs.length ((srt xs).map encStr) /\ (v= .slice none 0 0↔xs=[]) /\ Below w.heap.size w w':=by
 have h1:1<=6:=by omega
 refine callsIn_of_wp Tryz.func170 rfl trivial ?_ rfl;simp only[Tryz.ntmps170,List.size_toArray,List.length_cons,List.length_nil,Nat.reduceAdd,Nat.reduceSub,Array.replicate_succ,Array.replicate_zero,List.push_toArray,List.append_toArray,List.nil_append,List.cons_append]
 gi_wp2_with (refine ⟨trivial, ?_⟩;gi_at_call 174;refine (collect_in Fence.wide 5 trivial trivial trivial rfl (by omega) Bs sv xs hlen hbytes _ hBs hc hI).mono ?_;rintro e W ⟨v,rfl,hrow,hnil,hb⟩)
 rcases hrow.2 with ⟨rfl,hz⟩ |⟨gb,cap,cur,rfl,hbase,hgb,r1,r2,r3,r4⟩
 ·have hss:xs=[]:=List.eq_nil_of_length_eq_zero hz
  subst hss
  gi_wp2_with (refine ⟨trivial, ?_⟩;gi_at_call 175;refine ((agA none 0 W).more (show 1<=5 by omega)).mono ?_;rintro e w' ⟨rfl,rfl⟩)
  go_ret
  exact ⟨.slice none 0 0,rfl,by simpa [srt] using hrow,by simp,hb⟩
 ·have hH:Holds encStr W gb 0 xs.toArray:=holds_of_block hgb (by simpa using r4)
  have hgl:gb<W.heap.size:=(Array.getElem?_eq_some_iff.1 hgb).1;have hsz:xs.length<4611686018427387904:=by omega
  have cS:=(agz gb 0 cap xs W hH hgl hsz).more (show 1<=5 by omega)
  gi_wp2_with (refine ⟨trivial, ?_⟩;gi_at_call 175;refine cS.mono ?_;rintro e w' ⟨rfl,nn,os,rfl⟩)
  go_ret
  exact ⟨_,rfl,ownsRow_sorted (by simp[srt]) hbase hgb r1 r2 r3,hnil,hb.grown (grownBy_sorted _) hb.size (fun j hj=>by cases hj;exact hbase)⟩
set_option maxRecDepth 100000 in
set_option maxHeartbeats 2000000 in
theorem ac3 (sv:Value) (a:Option Addr) (cap:Nat) (xs:List (List UInt8)) (hlen:xs.length<=maxLen) (hbytes:xs.length*16<=140737488351232) (w:World) (hsv:sv= .slice a xs.length cap) (hI:Strs w.heap.size w sv xs):
 CallsIn Fence.wide 8 Tryz.prog 163 #[sv] w fun e w'=>e= .returned (.bool ((uq xs).length==xs.length)) /\ Below w.heap.size w w':=by
 subst hsv;have h1:1<=8:=by omega
 refine callsIn_of_wp Tryz.func163 rfl trivial ?_ rfl;simp only[Tryz.ntmps163,List.size_toArray,List.length_cons,List.length_nil,Nat.reduceAdd,Nat.reduceSub,Array.replicate_succ,Array.replicate_zero,List.push_toArray,List.append_toArray,List.nil_append,List.cons_append];have hB1:Below w.heap.size w (w.alloc (.cells #[.slice a xs.length cap] 22)):=(Below.refl _ w).alloc (Nat.le_refl _) _;have bO:=Boxed.new w 22 (.slice a xs.length cap)
 gi_wp2_with (first
  |(refine ⟨trivial, ?_⟩;gi_at_call 171;refine (values_in Fence.wide 7 trivial rfl _ _ _ _).mono ?_;rintro e w1 ⟨rfl,rfl⟩)
  |(refine ⟨trivial, ?_⟩;gi_at_call 170
    refine ((sorted_in w.heap.size _ xs hlen hbytes (w.alloc (.cells #[.slice a xs.length cap] 22)) (by simp) bO.cell ?_).more (show 6<=7 by omega)).mono ?_
    ·exact Go.V.Strs.up (by simp) (hI.below hB1)
    rintro e W ⟨v,rfl,hrow,hnil,hb⟩))
 have hbw:Below w.heap.size w W:=hB1.trans (hb.mono (by simp))
 rcases hrow.2 with ⟨rfl,hz⟩ |⟨gb,cap',cur,rfl,hbase,hgb,r1,r2,r3,r4⟩
 ·have hss:xs=[]:=List.eq_nil_of_length_eq_zero hz
  subst hss
  gi_wp2_with (refine ⟨trivial, ?_⟩;gi_at_call 169;refine ((abQ none 0 W).more (show 1<=7 by omega)).mono ?_;rintro e w' ⟨rfl,rfl⟩)
  go_ret
  exact ⟨by simp[uq,srt,Lib.compact];rfl,hbw⟩
 ·have hH:Holds encStr W gb 0 (srt xs).toArray:=holds_of_block hgb (by simpa [CU] using r4)
  have hsz:(srt xs).length<=9223372036854775807:=by rw[CU];omega
  have hu:=ahC xs;have cS:=(abP gb 0 cap' (srt xs) W hH hsz (by rw[CU];exact r1)).more (show 1<=7 by omega)
  rw[CU] at cS;change CallsIn _ _ _ _ _ _ (fun e w'=>e= .returned (.slice (some ⟨gb,0,none⟩) (uq xs).length cap') /\ _) at cS
  gi_wp2_with (refine ⟨trivial, ?_⟩;gi_at_call 169;refine cS.mono ?_;rintro e w' ⟨rfl,q,rfl⟩)
  go_ret
  exact ⟨by rw[abO];rfl,Lib.below_putRow hbw (by simp at hbase;omega)⟩
end Ko
end Go.Proofs
