/-
  slices.Sorted(slices.Values(s)), and the program's function that asks whether names are distinct, walked where they lie.
-/
import Derived.Test.YtjdnmlhfiblhdaaGreatXNHd1
import Derived.Shelf.Abstract
import Derived.Shelf.Sort.Plain
import Derived.Shelf.Slices.CompactS
import Derived.Shelf.Slices.In.SortNone
import Derived.Sort.OwnSorted
import Derived.Sort.Grow
import Derived.Lib.OwnBridge
import Derived.Ground.NamesProg
import Derived.RegionIn
import Derived.Sort.LoopGhostIn
import Derived.Sort.CutIn
import Derived.Sort.QuietIn
import Derived.Shelf.AbstractIn
import Derived.Shelf.RegionOpen
set_option linter.unusedVariables false
set_option linter.unusedSimpArgs false
namespace Go.Proofs
open Go.RowKit Go.Shelf Go.Sort
open Go.V (Strs srt Ag uq adM YF)
def Tryz.laysSort_ren :Go.Shelf.Ren:=⟨fun |190=>117 |125=>121 |258=>120 |128=>131 |129=>132 |302=>122 |303=>123 |304=>124 |305=>125 |306=>126 |307=>127 |308=>128 |309=>129 |310=>130 |333=>133 |329=>134 |330=>135 |334=>136 |335=>137 |336=>138 |344=>139 |n=>n,fun |31=>48 |9=>9 |3=>3 |46=>140 |0=>0 |51=>151 |53=>153 |4=>4 |183=>143 |182=>142 |131=>148 |5=>5 |218=>154 |222=>158 |228=>160 |229=>161 |n=>n,fun |n=>n⟩
theorem Tryz.laysSort :Go.Proofs.Lays.n190 Tryz.prog Tryz.laysSort_ren:={
 mixed:=by kernel_rfl
 f125:=Tryz.func121.trans (congrArg some (by kernel_rfl))
 f128:=Tryz.func131.trans (congrArg some (by kernel_rfl))
 f129:=Tryz.func132.trans (congrArg some (by kernel_rfl))
 f190:=Tryz.func117.trans (congrArg some (by kernel_rfl))
 f258:=Tryz.func120.trans (congrArg some (by kernel_rfl))
 f302:=Tryz.func122.trans (congrArg some (by kernel_rfl))
 f303:=Tryz.func123.trans (congrArg some (by kernel_rfl))
 f304:=Tryz.func124.trans (congrArg some (by kernel_rfl))
 f305:=Tryz.func125.trans (congrArg some (by kernel_rfl))
 f306:=Tryz.func126.trans (congrArg some (by kernel_rfl))
 f307:=Tryz.func127.trans (congrArg some (by kernel_rfl))
 f308:=Tryz.func128.trans (congrArg some (by kernel_rfl))
 f309:=Tryz.func129.trans (congrArg some (by kernel_rfl))
 f310:=Tryz.func130.trans (congrArg some (by kernel_rfl))
 f329:=Tryz.func134.trans (congrArg some (by kernel_rfl))
 f330:=Tryz.func135.trans (congrArg some (by kernel_rfl))
 f333:=Tryz.func133.trans (congrArg some (by kernel_rfl))
 f334:=Tryz.func136.trans (congrArg some (by kernel_rfl))
 f335:=Tryz.func137.trans (congrArg some (by kernel_rfl))
 f336:=Tryz.func138.trans (congrArg some (by kernel_rfl))
 f344:=Tryz.func139.trans (congrArg some (by kernel_rfl))
 t0:=Tryz.underlying0
 a0:=Tryz.isAgg0
 z0:=Tryz.sizeOf0
 v0:=Tryz.zeroValue0
 t3:=Tryz.underlying3
 a3:=Tryz.isAgg3
 z3:=Tryz.sizeOf3
 v3:=Tryz.zeroValue3
 t4:=Tryz.underlying4
 a4:=Tryz.isAgg4
 z4:=Tryz.sizeOf4
 v4:=Tryz.zeroValue4
 t5:=Tryz.underlying5
 a5:=Tryz.isAgg5
 z5:=Tryz.sizeOf5
 v5:=Tryz.zeroValue5
 t9:=Tryz.underlying9
 a9:=Tryz.isAgg9
 z9:=Tryz.sizeOf9
 v9:=Tryz.zeroValue9
 t31:=Tryz.underlying48
 a31:=Tryz.isAgg48
 z31:=Tryz.sizeOf48
 v31:=Tryz.zeroValue48
 t46:=Tryz.underlying140
 a46:=Tryz.isAgg140
 z46:=Tryz.sizeOf140
 v46:=Tryz.zeroValue140
 t51:=Tryz.underlying151
 a51:=Tryz.isAgg151
 z51:=Tryz.sizeOf151
 v51:=Tryz.zeroValue151
 t53:=Tryz.underlying153
 a53:=Tryz.isAgg153
 z53:=Tryz.sizeOf153
 v53:=Tryz.zeroValue153
 t131:=Tryz.underlying148
 a131:=Tryz.isAgg148
 z131:=Tryz.sizeOf148
 v131:=Tryz.zeroValue148
 t182:=Tryz.underlying142
 a182:=Tryz.isAgg142
 z182:=Tryz.sizeOf142
 v182:=Tryz.zeroValue142
 t183:=Tryz.underlying143
 a183:=Tryz.isAgg143
 z183:=Tryz.sizeOf143
 v183:=Tryz.zeroValue143
 t218:=Tryz.underlying154
 a218:=Tryz.isAgg154
 z218:=Tryz.sizeOf154
 v218:=Tryz.zeroValue154
 t222:=Tryz.underlying158
 a222:=Tryz.isAgg158
 z222:=Tryz.sizeOf158
 v222:=Tryz.zeroValue158
 t228:=Tryz.underlying160
 a228:=Tryz.isAgg160
 z228:=Tryz.sizeOf160
 v228:=Tryz.zeroValue160
 t229:=Tryz.underlying161
 a229:=Tryz.isAgg161
 z229:=Tryz.sizeOf161
 v229:=Tryz.zeroValue161}
def Tryz.laysCompact_ren :Go.Shelf.Ren:=⟨fun |194=>112 |n=>n,fun |31=>48 |9=>9 |3=>3 |4=>4 |0=>0 |n=>n,fun |n=>n⟩
theorem Tryz.laysCompact :Go.Proofs.Lays.n194 Tryz.prog Tryz.laysCompact_ren:={
 mixed:=by kernel_rfl
 f194:=Tryz.func112.trans (congrArg some (by kernel_rfl))
 t0:=Tryz.underlying0
 a0:=Tryz.isAgg0
 z0:=Tryz.sizeOf0
 v0:=Tryz.zeroValue0
 t3:=Tryz.underlying3
 a3:=Tryz.isAgg3
 z3:=Tryz.sizeOf3
 v3:=Tryz.zeroValue3
 t4:=Tryz.underlying4
 a4:=Tryz.isAgg4
 z4:=Tryz.sizeOf4
 v4:=Tryz.zeroValue4
 t9:=Tryz.underlying9
 a9:=Tryz.isAgg9
 z9:=Tryz.sizeOf9
 v9:=Tryz.zeroValue9
 t31:=Tryz.underlying48
 a31:=Tryz.isAgg48
 z31:=Tryz.sizeOf48
 v31:=Tryz.zeroValue48}
namespace X5
theorem ac7 (blk off cap:Nat) (ss:List (List UInt8)) (w:World) (hH:Holds encStr w blk off ss.toArray) (hblk:blk<w.heap.size) (hsz:ss.length<4611686018427387904):
 CallsIn Fence.wide 1 Tryz.prog 117 #[.slice (some ⟨blk,off,none⟩) ss.length cap] w fun e w'=>
  e= .returned (.tuple #[]) /\ ∃n os,w'=grow (putRow encStr (Sort.ahead w n) blk off (srt ss).toArray) os:=
 callsIn_wide.2 (Any.slices_Sort_string Tryz.laysSort blk off cap ss w hH hblk hsz)
theorem ac8 (p:Option Addr) (cap:Nat) (w:World):CallsIn Fence.wide 1 Tryz.prog 117 #[.slice p 0 cap] w fun e w'=>e= .returned (.tuple #[]) /\ w'=w:=
 callsIn_wide.2 (Any.slices_Sort_string_none Tryz.laysSort p cap w)
theorem YG (blk off cap:Nat) (zs:List (List UInt8)) (w:World) (hH:Holds encStr w blk off zs.toArray) (hsz:zs.length<=9223372036854775807) (hcap:zs.length<=cap):
 CallsIn Fence.wide 1 Tryz.prog 112 #[.slice (some ⟨blk,off,none⟩) zs.length cap] w fun e w'=>e= .returned (.slice (some ⟨blk,off,none⟩) (Lib.compact zs).length cap) /\ ∃q,w'=putRow encStr (Sort.ahead w q) blk off (Lib.compact zs++List.replicate (zs.length-(Lib.compact zs).length) []).toArray:=
 callsIn_wide.2 (Any.slices_Compact_string Tryz.laysCompact blk off cap zs w hH hsz hcap)
theorem YH (a:Option Addr) (cap:Nat) (w:World):CallsIn Fence.wide 1 Tryz.prog 112 #[.slice a 0 cap] w fun e w'=>e= .returned (.slice a 0 cap) /\ w'=w:=
 callsIn_wide.2 (Any.slices_Compact_string_empty Tryz.laysCompact a cap w)
set_option maxRecDepth 100000 in
set_option maxHeartbeats 2000000 in
theorem sorted_in (Bs:Nat) (sv:Value) (xs:List (List UInt8)) (hlen:xs.length<=maxLen) (hbytes:xs.length*16<=140737488351232) (w:World) (hBs:Bs<w.heap.size)
 (hc:w.cell? ⟨Bs,0,none⟩=some sv) (hI:Strs w.heap.size w sv xs):
 CallsIn Fence.wide 6 Tryz.prog 113 #[.func (.func 118) #[] #[.pointer (some ⟨Bs,0,none⟩)]] w fun e w'=>∃v,e= .returned v /\ w'.ownsRow w.heap.size 9 1 v xs.length ((srt xs).map encStr) /\ (v= .slice none 0 0↔xs=[]) /\ Below w.heap.size w w':=by
 have h1:1<=6:=by omega
 refine callsIn_of_wp Tryz.func113 rfl trivial ?_ rfl;simp only[Tryz.ntmps113,List.size_toArray,List.length_cons,List.length_nil,Nat.reduceAdd,Nat.reduceSub,Array.replicate_succ,Array.replicate_zero,List.push_toArray,List.append_toArray,List.nil_append,List.cons_append]
 gi_wp2_with (refine ⟨trivial, ?_⟩;gi_at_call 116;refine (collect_in Fence.wide 5 trivial trivial trivial rfl (by omega) Bs sv xs hlen hbytes _ hBs hc hI).mono ?_;rintro e W ⟨v,rfl,hrow,hnil,hb⟩)
 rcases hrow.2 with ⟨rfl,hz⟩ |⟨gb,cap,cur,rfl,hbase,hgb,r1,r2,r3,r4⟩
 ·have hss:xs=[]:=List.eq_nil_of_length_eq_zero hz
  subst hss
  gi_wp2_with (refine ⟨trivial, ?_⟩;gi_at_call 117;refine ((ac8 none 0 W).more (show 1<=5 by omega)).mono ?_;rintro e w' ⟨rfl,rfl⟩)
  go_ret
  exact ⟨.slice none 0 0,rfl,by simpa [srt] using hrow,by simp,hb⟩
 ·have hH:Holds encStr W gb 0 xs.toArray:=holds_of_block hgb (by simpa using r4)
  have hgl:gb<W.heap.size:=(Array.getElem?_eq_some_iff.1 hgb).1;have hsz:xs.length<4611686018427387904:=by omega
  have cS:=(ac7 gb 0 cap xs W hH hgl hsz).more (show 1<=5 by omega)
  gi_wp2_with (refine ⟨trivial, ?_⟩;gi_at_call 117;refine cS.mono ?_;rintro e w' ⟨rfl,nn,os,rfl⟩)
  go_ret
  exact ⟨_,rfl,ownsRow_sorted (by simp[srt]) hbase hgb r1 r2 r3,hnil,hb.grown (grownBy_sorted _) hb.size (fun j hj=>by cases hj;exact hbase)⟩
set_option maxRecDepth 100000 in
set_option maxHeartbeats 2000000 in
theorem ZE (sv:Value) (a:Option Addr) (cap:Nat) (xs:List (List UInt8)) (hlen:xs.length<=maxLen) (hbytes:xs.length*16<=140737488351232) (w:World) (hsv:sv= .slice a xs.length cap) (hI:Strs w.heap.size w sv xs):
 CallsIn Fence.wide 8 Tryz.prog 109 #[sv] w fun e w'=>e= .returned (.bool ((uq xs).length==xs.length)) /\ Below w.heap.size w w':=by
 subst hsv;have h1:1<=8:=by omega
 refine callsIn_of_wp Tryz.func109 rfl trivial ?_ rfl;simp only[Tryz.ntmps109,List.size_toArray,List.length_cons,List.length_nil,Nat.reduceAdd,Nat.reduceSub,Array.replicate_succ,Array.replicate_zero,List.push_toArray,List.append_toArray,List.nil_append,List.cons_append];have hB1:Below w.heap.size w (w.alloc (.cells #[.slice a xs.length cap] 48)):=(Below.refl _ w).alloc (Nat.le_refl _) _;have bO:=Boxed.new w 48 (.slice a xs.length cap)
 gi_wp2_with (first
  |(refine ⟨trivial, ?_⟩;gi_at_call 114;refine (values_in Fence.wide 7 trivial rfl _ _ _ _).mono ?_;rintro e w1 ⟨rfl,rfl⟩)
  |(refine ⟨trivial, ?_⟩;gi_at_call 113
    refine ((sorted_in w.heap.size _ xs hlen hbytes (w.alloc (.cells #[.slice a xs.length cap] 48)) (by simp) bO.cell ?_).more (show 6<=7 by omega)).mono ?_
    ·exact Go.V.Strs.up (by simp) (hI.below hB1)
    rintro e W ⟨v,rfl,hrow,hnil,hb⟩))
 have hbw:Below w.heap.size w W:=hB1.trans (hb.mono (by simp))
 rcases hrow.2 with ⟨rfl,hz⟩ |⟨gb,cap',cur,rfl,hbase,hgb,r1,r2,r3,r4⟩
 ·have hss:xs=[]:=List.eq_nil_of_length_eq_zero hz
  subst hss
  gi_wp2_with (refine ⟨trivial, ?_⟩;gi_at_call 112;refine ((YH none 0 W).more (show 1<=7 by omega)).mono ?_;rintro e w' ⟨rfl,rfl⟩)
  go_ret
  exact ⟨by simp[uq,srt,Lib.compact];rfl,hbw⟩
 ·have hH:Holds encStr W gb 0 (srt xs).toArray:=holds_of_block hgb (by simpa [Ag] using r4)
  have hsz:(srt xs).length<=9223372036854775807:=by rw[Ag];omega
  have hu:=adM xs;have cS:=(YG gb 0 cap' (srt xs) W hH hsz (by rw[Ag];exact r1)).more (show 1<=7 by omega)
  rw[Ag] at cS;change CallsIn _ _ _ _ _ _ (fun e w'=>e= .returned (.slice (some ⟨gb,0,none⟩) (uq xs).length cap') /\ _) at cS
  gi_wp2_with (refine ⟨trivial, ?_⟩;gi_at_call 112;refine cS.mono ?_;rintro e w' ⟨rfl,q,rfl⟩)
  go_ret
  exact ⟨by rw[YF];rfl,Lib.below_putRow hbw (by simp at hbase;omega)⟩
end X5
end Go.Proofs
