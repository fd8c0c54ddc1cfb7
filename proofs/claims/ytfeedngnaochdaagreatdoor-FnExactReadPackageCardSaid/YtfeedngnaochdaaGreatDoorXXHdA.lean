/-
  slices.Values, slices.AppendSeq, slices.Collect at strings, walked where they lie in this program: a slice's strings come, in order.
-/
import Derived.Test.YtfeedngnaochdaaGreatDoorXXhandA
import Derived.RangeFuncNested
import Derived.RangeFuncBound
import Derived.RangeFuncCalls
import Derived.RangeFuncLeaves
import Derived.RangeFuncBox
import Derived.Shelf.Abstract
import Derived.Shelf.RegionOpen
import Derived.WalkKit
import Derived.OwnWalkIn
import Derived.TacticsInMore
import Derived.LoopNIn
import Derived.LoopIn
import Derived.Maps.AppendAt
import Derived.Sort.EncStr
import Derived.Test.YtfeedngnaochdaaGreatDoorProg
import Derived.Shelf.Sort.Plain
import Derived.Shelf.Slices.CompactS
import Derived.Shelf.Slices.In.SortNone
import Derived.Sort.OwnSorted
import Derived.Sort.Grow
import Derived.Lib.OwnBridge
import Derived.Ground.NamesProg
import Derived.RegionIn
import Derived.Sort.LoopGhostIn
import Derived.Sort.CutIn
import Derived.Sort.QuietIn
import Derived.Shelf.AbstractIn
set_option linter.unusedVariables false
set_option linter.unusedSimpArgs false
namespace Go.Proofs
open Go.RowKit Go.Shelf Go.Sort
open Go.V (Strs jE oQ uq F7 F8)
namespace lu
attribute [local go_sem] Oper.semAt_some
theorem LM(x:List UInt8):encStr x=.string ⟨x.toArray⟩:=rfl
def upto{α:Type}(f:Nat->α)(k:Nat):List α:=(List.range k).map f
theorem upto_succ{α:Type}(f:Nat->α)(k:Nat):upto f (k+1)=upto f k++[f k]:=by simp[upto,List.range_succ]
theorem upto_length{α:Type}(f:Nat->α)(k:Nat):(upto f k).length=k:=by simp[upto]
theorem upto_all(zs:List (List UInt8)):upto (fun j=>zs[j]?.getD []) zs.length=zs:=by
 apply List.ext_getElem
 ·simp[upto]
 ·intro i h1 h2;simp[upto,h2]
theorem upto_take(zs:List (List UInt8)){k:Nat}(hk:k<=zs.length):upto (fun j=>zs[j]?.getD []) k=zs.take k:=by
 apply List.ext_getElem
 ·simp[upto,hk]
 ·intro i h1 h2;have:i<zs.length:=by simp[upto]at h1;omega
  simp[upto,this]
set_option maxHeartbeats 2000000 in
theorem values1_in(F:Fence)(n:Nat)(h7:F.fn 97)(hro:F.round=none)(hn:1<=n)(l Bs n₀ b off len cap:Nat)(zs:List (List UInt8))(hreach:len*16<=140737488351232)(hb:b<n₀)(J Jx:List (List UInt8)->World->Prop)
 (hY:∀pre x W,J pre W->pre.length<len->YieldAt F (n-1) Tryz.prog l #[encStr x] W fun e W'=>
   (e=.returned (.bool true)/\J (pre++[x]) W'/\Below n₀ W W')\/(e=.returned (.bool false)/\Jx (pre++[x]) W'))
 (W:World) (hBs:W.cell? ⟨Bs,0,none⟩=some (.slice (some ⟨b,off,none⟩) len cap)) (hc:∀j,j<len->W.cell? ⟨b,off+j,none⟩=some (encStr (zs[j]?.getD []))) (h0:J [] W):
 CallsIn F n Tryz.prog 97 #[.func (.yield l) #[] #[],.pointer (some ⟨Bs,0,none⟩)] W fun e W'=>(∃v,e=.returned v)/\
  ((∃ys,ys=upto (fun j=>zs[j]?.getD []) len/\J ys W')\/(∃pre,(∃k,k<=len/\pre=upto (fun j=>zs[j]?.getD []) k)/\Jx pre W')):=by
 refine callsIn_of_wp Tryz.func97 rfl h7 ?_ hro;simp only[Tryz.ntmps97,m7,dH,fM,Nat.reduceAdd,Nat.reduceSub,rj,Array.replicate_zero,rm,rk,fC,oa]
 gi_wp2
 gi_loopw [7] (fun i wr=>∃k:Nat,k<=len/\i=.int .i64 k/\J (upto (fun j=>zs[j]?.getD []) k) wr/\Below n₀ W wr)
  (fun i _=>len-(intOf i).toNat)
 case atStart=>exact⟨0,eY _,rfl,h0,Below.refl _ _⟩
 case round=>
  obtain⟨k,hk,rfl,hJs,hnx⟩:=hrel;have hcx:k<len->wr.cell? ⟨b,off+k,none⟩=some (encStr (zs[k]?.getD [])):=fun h=>(hnx.cell (p:=⟨b,off+k,none⟩) hb).trans (hc k h)
  by_cases hlt:k<len
  ·obtain⟨fn,tmps,assign,body,hy,hR⟩:=hY _ (zs[k]?.getD []) wr hJs (by rw[upto_length];exact hlt);have hcx':=hcx hlt;obtain⟨X,hX⟩:∃X,encStr (zs[k]?.getD [])=X:=⟨_,rfl⟩;rw[hX]at hcx' hy
   gi_wp2
   refine hR.mono ?_
   rintro e W3 (⟨rfl,hJ3,hk3⟩|⟨rfl,hJx3⟩)
   ·gi_wp2
    go_roundw
    case rel=>exact⟨k+1,by omega,by simp,by rw[upto_succ];exact hJ3,hnx.trans hk3⟩
    case measure=>simp[intOf];omega
   ·gi_wp2
    refine bodyPost_ret (results_none rfl _ _ _) rfl ?_;exact⟨⟨_,rfl⟩,.inr ⟨_,⟨k+1,by omega,(upto_succ _ _).symm⟩,hJx3⟩⟩
  ·obtain rfl:k=len:=by omega
   gi_wp2
   go_end0
   exact⟨⟨_,rfl⟩,.inl ⟨_,rfl,hJs⟩⟩
set_option maxHeartbeats 1000000 in
theorem Yx(F:Fence)(n:Nat)(h7:F.fn 97)(hro:F.round=none)(l Bs:Nat)(a:Option Addr)(cap:Nat)(J:List (List UInt8)->World->Prop)(W:World)(hBs:W.cell? ⟨Bs,0,none⟩=some (.slice a 0 cap))(h0:J [] W):
 CallsIn F n Tryz.prog 97 #[.func (.yield l) #[] #[],.pointer (some ⟨Bs,0,none⟩)] W fun e W'=>(∃v,e=.returned v)/\J [] W':=by
 refine callsIn_of_wp Tryz.func97 rfl h7 ?_ hro;simp only[Tryz.ntmps97,m7,dH,fM,Nat.reduceAdd,Nat.reduceSub,rj,Array.replicate_zero,rm,rk,fC,oa]
 gi_wp2
 gi_loopw [7] (fun i wr=>i=.int .i64 0/\J [] wr) (fun _ _=>0)
 case atStart=>exact⟨rfl,h0⟩
 case round=>
  obtain⟨rfl,hJs⟩:=hrel
  gi_wp2
  go_end0
  exact⟨⟨_,rfl⟩,hJs⟩
set_option maxHeartbeats 1000000 in
theorem values_in(F:Fence)(n:Nat)(h5:F.fn 60)(hro:F.round=none)(a:Option Addr)(len cap:Nat)(w:World):
 CallsIn F n Tryz.prog 60 #[.slice a len cap] w fun e w'=>e=.returned (.func (.func 97) #[] #[.pointer (some ⟨w.heap.size,0,none⟩)])/\w'=w.alloc (.cells #[.slice a len cap] 62):=by
 refine callsIn_of_wp Tryz.func60 rfl h5 ?_ hro;simp only[Tryz.ntmps60,m7,dH,fM,Nat.reduceAdd,Nat.reduceSub,rj,Array.replicate_zero,rm,rk,fC,oa]
 gi_wp2
 go_ret
 exact⟨rfl,rfl⟩
theorem values_stops(F:Fence)(n:Nat)(h7:F.fn 97)(hro:F.round=none)(hn:1<=n)(Bs n₀:Nat)(sv:Value)(zs:List (List UInt8))(hreach:zs.length*16<=140737488351232)(w:World)(hBs:Bs<w.heap.size)(hn₀:n₀<=w.heap.size)
 (hc:w.cell? ⟨Bs,0,none⟩=some sv) (hI:Strs n₀ w sv zs):
 SeqStopsK F n Tryz.prog 97 #[.pointer (some ⟨Bs,0,none⟩)] (fun x:List UInt8=> #[encStr x]) (Below n₀) (fun ys=>ys=zs) (fun pre=>pre<+:zs) zs.length w:=fun l J Jx W hW _ _ hY h0=>by
 have hc':=(hW.cell (p:=⟨Bs,0,none⟩) hBs).trans hc;rcases hI.below (hW.mono hn₀)with⟨a,cap,rfl,rfl⟩|⟨b,off,cap,rfl,hb,hcs⟩
 ·exact(Yx F n h7 hro l Bs a cap J W hc' h0).mono fun e W' ⟨he,hj⟩=>⟨he,.inl ⟨_,rfl,hj⟩⟩
 ·refine(values1_in F n h7 hro hn l Bs n₀ b off zs.length cap zs hreach hb J Jx hY W hc' hcs h0).mono ?_
  rintro e W' ⟨he,⟨ys,rfl,hj⟩|⟨pre,⟨k,hk,rfl⟩,hj⟩⟩
  ·exact⟨he,.inl ⟨_,upto_all zs,hj⟩⟩
  ·exact⟨he,.inr ⟨_,by rw[upto_take zs hk];exact List.take_prefix _ _,hj⟩⟩
theorem Yy:(Tryz.prog.info? 9).map (fun i=>(i.zero,i.size,i.bytes))=some (some (.string ⟨#[]⟩),1,16):=by kernel_rfl
set_option maxHeartbeats 2000000 in
theorem appendSeq_in(F:Fence)(n:Nat)(h3:F.fn 121)(h5:F.fn 97)(hro:F.round=none)(hn:3<=n)(Bs:Nat)(sv:Value)(xs:List (List UInt8))(hlen:xs.length<=maxLen)(hbytes:xs.length*16<=140737488351232)(w:World)(hBs:Bs<w.heap.size)
 (hc:w.cell? ⟨Bs,0,none⟩=some sv) (hI:Strs w.heap.size w sv xs):
 CallsIn F n Tryz.prog 121 #[.slice none 0 0,.func (.func 97) #[] #[.pointer (some ⟨Bs,0,none⟩)]] w fun e W'=>∃v,e=.returned v/\W'.ownsRow w.heap.size 9 1 v xs.length (xs.map encStr)/\(v=.slice none 0 0↔xs=[])/\Below w.heap.size w W':=by
 have h1:1<=n:=by omega
 obtain⟨i0,hi,hz0,hz1,hz2⟩:=info_parts Yy;refine callsIn_of_wp_marks Tryz.func121 rfl h3 ?_ hro;simp only[Tryz.ntmps121,m7,dH,fM,Nat.reduceAdd,Nat.reduceSub,rj,Array.replicate_zero,rm,rk,fC,oa]
 gi_wp2
 have bO:=Boxed.new w 62 (.slice none 0 0);have hB0:Below w.heap.size w (w.alloc (.cells #[.slice none 0 0] 62)):=(Below.refl _ w).alloc (bH _) _;refine wpIn_rangeFunc_ownG hro h1 (gf:=97) (lb:= #[.pointer (some ⟨Bs,0,none⟩)]) rfl h5 (enters_of Tryz.func97 (by kernel_rfl) rfl)
  (values_stops F (n-1) h5 hro (by omega) Bs w.heap.size sv xs hbytes _ (by simp;omega) (by simp) ((hB0.cell (p:=⟨Bs,0,none⟩) hBs).trans hc) (hI.below hB0)) belowK_t (belowK_b (by simp)) (Below.refl _ _) (fun _=>rfl)
  (fun pre W=>(∃v,Boxed W w.heap.size 62 v/\W.ownsRow w.heap.size 9 1 v pre.length (pre.map encStr)/\(v=.slice none 0 0↔pre=[]))/\Below w.heap.size w W)
  (fun _ _ _=>False)
  (OwnFrom.and (Own.from (holdsRow_own w.heap.size w.heap.size 62 9 1 (fun pre=>pre.length) (fun pre=>pre.map encStr) (fun pre v=>v=.slice none 0 0↔pre=[])) _) (ownFrom_below (bH _) (by simp)))
  (fun _ _ _ _ _ hs _ _=>hs)
  ⟨⟨_,bO,World.ownsRow_nil _ _ _ _,by simp⟩,hB0⟩
  (fun x=>{tmps:= #[.slice none 0 0,.func (.func 97) #[] #[.pointer (some ⟨Bs,0,none⟩)],.pointer (some ⟨w.heap.size,0,none⟩),undef,.slice none 0 0,encStr x,.func (.func 97) #[] #[.pointer (some ⟨Bs,0,none⟩)],encStr x,undef,undef,undef,undef,undef],defers:=[]}) ?assign ?body ?done ?stop
 case assign=>
  intro l x W K hK
  gi_wp2
  exact hK
 case body=>
  rintro l pre x W ⟨⟨v,hv,hrow,hnil⟩,hB⟩ hlt
  have hc:=hv.cell;rw[LM]
  gi_wp2_with (gi_at_builtin;refine wpListIn_append_own _ rfl _ _ 62 rfl w.heap.size 9 i0 (.string ⟨#[]⟩) 1 16 Tryz.underlying62 hi hz0 hz1 hz2 rfl (by decide) _ _ _ rfl (hrow.alloc _) ⟨W.heap.size,0,none⟩ 1 1 [.string ⟨x.toArray⟩] rfl rfl (cell_one_new _ _ _) (by simp[Value.oneCell']) (by omega) (by omega) (by have:=hB.size;simp;omega) ?_;intro v' w1 hown' hgrow _;obtain⟨g',cap',rfl⟩:=ownsRow_succ hown';obtain⟨hv1,hv2,hr2,hk2,hb2⟩:=hv.appended (by decide) hrow hB.size (bH _) hown' hgrow;have hc1:=hv1.cell;have hf1:=hv1.frozen)
  exact⟨hk2.from _,hb2,⟨_,hv2,by simpa [LM]using hr2,by simp⟩,hB.trans hb2⟩
 case done=>
  rintro D ys W hD rfl ⟨⟨v,hv,hrow,hnil⟩,hB⟩ hK
  have hc:=hv.cell
  gi_wp2
  refine⟨by simp,.inl ⟨_,_,rfl,run_takeDeferred hK,?_⟩⟩;exact⟨_,results_tmp rfl _ _ _,v,rfl,ownsRow_putObj hrow _ hK rfl,hnil,hB.trans (belowK_b (w:=w) (bH _) W D _ _ (by simp at hD;omega) hK rfl rfl)⟩
 case stop=>
  rintro D c pre W _ _ h _
  exact h.elim
set_option maxHeartbeats 1000000 in
theorem collect_in(F:Fence)(n:Nat)(h2:F.fn 95)(h3:F.fn 121)(h5:F.fn 97)(hro:F.round=none)(hn:4<=n)(Bs:Nat)(sv:Value)(xs:List (List UInt8))(hlen:xs.length<=maxLen)(hbytes:xs.length*16<=140737488351232)(w:World)(hBs:Bs<w.heap.size)
 (hc:w.cell? ⟨Bs,0,none⟩=some sv) (hI:Strs w.heap.size w sv xs):
 CallsIn F n Tryz.prog 95 #[.func (.func 97) #[] #[.pointer (some ⟨Bs,0,none⟩)]] w fun e W'=>∃v,e=.returned v/\W'.ownsRow w.heap.size 9 1 v xs.length (xs.map encStr)/\(v=.slice none 0 0↔xs=[])/\Below w.heap.size w W':=by
 have h1:1<=n:=by omega
 refine callsIn_of_wp Tryz.func95 rfl h2 ?_ hro;simp only[Tryz.ntmps95,m7,dH,fM,Nat.reduceAdd,Nat.reduceSub,rj,Array.replicate_zero,rm,rk,fC,oa]
 gi_wp2_with (gi_at_call 121;refine(appendSeq_in F (n-1) h3 h5 hro (by omega) Bs sv xs hlen hbytes _ hBs hc hI).mono ?_;rintro e w' ⟨v,rfl,hrow,hnil,hb⟩)
 go_ret
 exact⟨v,rfl,hrow,hnil,hb⟩
end lu
end Go.Proofs
namespace Go.Proofs
open Go.RowKit Go.Shelf Go.Sort
open Go.V (Strs jE oQ uq F7 F8)
theorem gI{a:Option Func}{x y:Func}(h:a=some x)(k:x=y):a=some y:=h.trans (fN some k)
def Tryz.laysSort_ren:Go.Shelf.Ren:=⟨fun|190=>96|125=>123|258=>122|128=>150|129=>151|302=>141|303=>142|304=>143|305=>144|306=>145|307=>146|308=>147|309=>148|310=>149|333=>165|329=>166|330=>167|334=>168|335=>169|336=>170|344=>181|n=>n,fun|31=>62|46=>136|51=>161|53=>163|183=>154|182=>153|131=>158|218=>172|222=>176|228=>187|229=>188|n=>n,fun|n=>n⟩
theorem Tryz.laysSort:Go.Proofs.Lays.n190 Tryz.prog Tryz.laysSort_ren:={
 mixed:=by kernel_rfl
 f125:=gI Tryz.func123 (by kernel_rfl)
 f128:=gI Tryz.func150 (by kernel_rfl)
 f129:=gI Tryz.func151 (by kernel_rfl)
 f190:=gI Tryz.func96 (by kernel_rfl)
 f258:=gI Tryz.func122 (by kernel_rfl)
 f302:=gI Tryz.func141 (by kernel_rfl)
 f303:=gI Tryz.func142 (by kernel_rfl)
 f304:=gI Tryz.func143 (by kernel_rfl)
 f305:=gI Tryz.func144 (by kernel_rfl)
 f306:=gI Tryz.func145 (by kernel_rfl)
 f307:=gI Tryz.func146 (by kernel_rfl)
 f308:=gI Tryz.func147 (by kernel_rfl)
 f309:=gI Tryz.func148 (by kernel_rfl)
 f310:=gI Tryz.func149 (by kernel_rfl)
 f329:=gI Tryz.func166 (by kernel_rfl)
 f330:=gI Tryz.func167 (by kernel_rfl)
 f333:=gI Tryz.func165 (by kernel_rfl)
 f334:=gI Tryz.func168 (by kernel_rfl)
 f335:=gI Tryz.func169 (by kernel_rfl)
 f336:=gI Tryz.func170 (by kernel_rfl)
 f344:=gI Tryz.func181 (by kernel_rfl)
 t0:=Tryz.underlying0
 a0:=Tryz.isAgg0
 z0:=Tryz.sizeOf0
 v0:=Tryz.zeroValue0
 t3:=Tryz.underlying3
 a3:=Tryz.isAgg3
 z3:=Tryz.sizeOf3
 v3:=Tryz.zeroValue3
 t4:=Tryz.underlying4
 a4:=Tryz.isAgg4
 z4:=Tryz.sizeOf4
 v4:=Tryz.zeroValue4
 t5:=Tryz.underlying5
 a5:=Tryz.isAgg5
 z5:=Tryz.sizeOf5
 v5:=Tryz.zeroValue5
 t9:=Tryz.underlying9
 a9:=Tryz.isAgg9
 z9:=Tryz.sizeOf9
 v9:=Tryz.zeroValue9
 t31:=Tryz.underlying62
 a31:=Tryz.isAgg62
 z31:=Tryz.sizeOf62
 v31:=Tryz.zeroValue62
 t46:=Tryz.underlying136
 a46:=Tryz.isAgg136
 z46:=Tryz.sizeOf136
 v46:=Tryz.zeroValue136
 t51:=Tryz.underlying161
 a51:=Tryz.isAgg161
 z51:=Tryz.sizeOf161
 v51:=Tryz.zeroValue161
 t53:=Tryz.underlying163
 a53:=Tryz.isAgg163
 z53:=Tryz.sizeOf163
 v53:=Tryz.zeroValue163
 t131:=Tryz.underlying158
 a131:=Tryz.isAgg158
 z131:=Tryz.sizeOf158
 v131:=Tryz.zeroValue158
 t182:=Tryz.underlying153
 a182:=Tryz.isAgg153
 z182:=Tryz.sizeOf153
 v182:=Tryz.zeroValue153
 t183:=Tryz.underlying154
 a183:=Tryz.isAgg154
 z183:=Tryz.sizeOf154
 v183:=Tryz.zeroValue154
 t218:=Tryz.underlying172
 a218:=Tryz.isAgg172
 z218:=Tryz.sizeOf172
 v218:=Tryz.zeroValue172
 t222:=Tryz.underlying176
 a222:=Tryz.isAgg176
 z222:=Tryz.sizeOf176
 v222:=Tryz.zeroValue176
 t228:=Tryz.underlying187
 a228:=Tryz.isAgg187
 z228:=Tryz.sizeOf187
 v228:=Tryz.zeroValue187
 t229:=Tryz.underlying188
 a229:=Tryz.isAgg188
 z229:=Tryz.sizeOf188
 v229:=Tryz.zeroValue188}
theorem Yz{a:Option Func}{x y:Func}(h:a=some x)(k:x=y):a=some y:=h.trans (fN some k)
def Tryz.laysCompact_ren:Go.Shelf.Ren:=⟨fun|194=>58|n=>n,fun|31=>62|n=>n,fun|n=>n⟩
theorem Tryz.laysCompact:Go.Proofs.Lays.n194 Tryz.prog Tryz.laysCompact_ren:={
 mixed:=by kernel_rfl
 f194:=Yz Tryz.func58 (by kernel_rfl)
 t0:=Tryz.underlying0
 a0:=Tryz.isAgg0
 z0:=Tryz.sizeOf0
 v0:=Tryz.zeroValue0
 t3:=Tryz.underlying3
 a3:=Tryz.isAgg3
 z3:=Tryz.sizeOf3
 v3:=Tryz.zeroValue3
 t4:=Tryz.underlying4
 a4:=Tryz.isAgg4
 z4:=Tryz.sizeOf4
 v4:=Tryz.zeroValue4
 t9:=Tryz.underlying9
 a9:=Tryz.isAgg9
 z9:=Tryz.sizeOf9
 v9:=Tryz.zeroValue9
 t31:=Tryz.underlying62
 a31:=Tryz.isAgg62
 z31:=Tryz.sizeOf62
 v31:=Tryz.zeroValue62}
namespace lu
theorem YA(blk off cap:Nat)(ss:List (List UInt8))(w:World)(hH:Holds encStr w blk off ss.toArray)(hblk:blk<w.heap.size)(hsz:ss.length<4611686018427387904):
 CallsIn Fence.wide 1 Tryz.prog 96 #[.slice (some ⟨blk,off,none⟩) ss.length cap] w fun e w'=>
  e=.returned (.tuple #[])/\∃n os,w'=grow (putRow encStr (Sort.ahead w n) blk off (jE ss).toArray) os:=
 callsIn_wide.2 (Any.slices_Sort_string Tryz.laysSort blk off cap ss w hH hblk hsz)
theorem YB(p:Option Addr)(cap:Nat)(w:World):CallsIn Fence.wide 1 Tryz.prog 96 #[.slice p 0 cap] w fun e w'=>e=.returned (.tuple #[])/\w'=w:=
 callsIn_wide.2 (Any.slices_Sort_string_none Tryz.laysSort p cap w)
theorem YC(blk off cap:Nat)(zs:List (List UInt8))(w:World)(hH:Holds encStr w blk off zs.toArray)(hsz:zs.length<=9223372036854775807)(hcap:zs.length<=cap):
 CallsIn Fence.wide 1 Tryz.prog 58 #[.slice (some ⟨blk,off,none⟩) zs.length cap] w fun e w'=>e=.returned (.slice (some ⟨blk,off,none⟩) (Lib.compact zs).length cap)/\∃q,w'=putRow encStr (Sort.ahead w q) blk off (Lib.compact zs++List.replicate (zs.length-(Lib.compact zs).length) []).toArray:=
 callsIn_wide.2 (Any.slices_Compact_string Tryz.laysCompact blk off cap zs w hH hsz hcap)
theorem YD(a:Option Addr)(cap:Nat)(w:World):CallsIn Fence.wide 1 Tryz.prog 58 #[.slice a 0 cap] w fun e w'=>e=.returned (.slice a 0 cap)/\w'=w:=
 callsIn_wide.2 (Any.slices_Compact_string_empty Tryz.laysCompact a cap w)
set_option maxHeartbeats 2000000 in
theorem sorted_in(Bs:Nat)(sv:Value)(xs:List (List UInt8))(hlen:xs.length<=maxLen)(hbytes:xs.length*16<=140737488351232)(w:World)(hBs:Bs<w.heap.size)
 (hc:w.cell? ⟨Bs,0,none⟩=some sv) (hI:Strs w.heap.size w sv xs):
 CallsIn Fence.wide 6 Tryz.prog 59 #[.func (.func 97) #[] #[.pointer (some ⟨Bs,0,none⟩)]] w fun e w'=>∃v,e=.returned v/\w'.ownsRow w.heap.size 9 1 v xs.length ((jE xs).map encStr)/\(v=.slice none 0 0↔xs=[])/\Below w.heap.size w w':=by
 have h1:1<=6:=by omega
 refine callsIn_of_wp Tryz.func59 rfl trivial ?_ rfl;simp only[Tryz.ntmps59,m7,dH,fM,Nat.reduceAdd,Nat.reduceSub,rj,Array.replicate_zero,rm,rk,fC,oa]
 gi_wp2_with (refine⟨trivial,?_⟩;gi_at_call 95;refine(collect_in Fence.wide 5 trivial trivial trivial rfl (by omega) Bs sv xs hlen hbytes _ hBs hc hI).mono ?_;rintro e W ⟨v,rfl,hrow,hnil,hb⟩)
 rcases hrow.2 with⟨rfl,hz⟩|⟨gb,cap,cur,rfl,hbase,hgb,r1,r2,r3,r4⟩
 ·have hss:xs=[]:=kU hz;subst hss
  gi_wp2_with (refine⟨trivial,?_⟩;gi_at_call 96;refine((YB none 0 W).more (show 1<=5 by omega)).mono ?_;rintro e w' ⟨rfl,rfl⟩)
  go_ret
  exact⟨.slice none 0 0,rfl,by simpa [jE]using hrow,by simp,hb⟩
 ·have hH:Holds encStr W gb 0 xs.toArray:=holds_of_block hgb (by simpa using r4);have hgl:gb<W.heap.size:=(js.1 hgb).1;have hsz:xs.length<4611686018427387904:=by omega
  have cS:=(YA gb 0 cap xs W hH hgl hsz).more (show 1<=5 by omega)
  gi_wp2_with (refine⟨trivial,?_⟩;gi_at_call 96;refine cS.mono ?_;rintro e w' ⟨rfl,nn,os,rfl⟩)
  go_ret
  exact⟨_,rfl,ownsRow_sorted (by simp[jE]) hbase hgb r1 r2 r3,hnil,hb.grown (grownBy_sorted _) hb.size (fun j hj=>by cases hj;exact hbase)⟩
set_option maxHeartbeats 2000000 in
theorem YE(sv:Value)(a:Option Addr)(cap:Nat)(xs:List (List UInt8))(hlen:xs.length<=maxLen)(hbytes:xs.length*16<=140737488351232)(w:World)(hsv:sv=.slice a xs.length cap)(hI:Strs w.heap.size w sv xs):
 CallsIn Fence.wide 8 Tryz.prog 32 #[sv] w fun e w'=>e=.returned (.bool ((uq xs).length==xs.length))/\Below w.heap.size w w':=by
 subst hsv;have h1:1<=8:=by omega
 refine callsIn_of_wp Tryz.func32 rfl trivial ?_ rfl;simp only[Tryz.ntmps32,m7,dH,fM,Nat.reduceAdd,Nat.reduceSub,rj,Array.replicate_zero,rm,rk,fC,oa];have hB1:Below w.heap.size w (w.alloc (.cells #[.slice a xs.length cap] 62)):=(Below.refl _ w).alloc (bH _) _;have bO:=Boxed.new w 62 (.slice a xs.length cap)
 gi_wp2_with (first
  |(refine⟨trivial,?_⟩;gi_at_call 60;refine(values_in Fence.wide 7 trivial rfl _ _ _ _).mono ?_;rintro e w1 ⟨rfl,rfl⟩)
  |(refine⟨trivial,?_⟩;gi_at_call 59
    refine((sorted_in w.heap.size _ xs hlen hbytes (w.alloc (.cells #[.slice a xs.length cap] 62)) (by simp) bO.cell ?_).more (show 6<=7 by omega)).mono ?_
    ·exact Go.V.Strs.up (by simp) (hI.below hB1)
    rintro e W ⟨v,rfl,hrow,hnil,hb⟩))
 have hbw:Below w.heap.size w W:=hB1.trans (hb.mono (by simp));rcases hrow.2 with⟨rfl,hz⟩|⟨gb,cap',cur,rfl,hbase,hgb,r1,r2,r3,r4⟩
 ·have hss:xs=[]:=kU hz;subst hss
  gi_wp2_with (refine⟨trivial,?_⟩;gi_at_call 58;refine((YD none 0 W).more (show 1<=7 by omega)).mono ?_;rintro e w' ⟨rfl,rfl⟩)
  go_ret
  exact⟨by simp[uq,jE,Lib.compact];rfl,hbw⟩
 ·have hH:Holds encStr W gb 0 (jE xs).toArray:=holds_of_block hgb (by simpa [oQ]using r4);have hsz:(jE xs).length<=9223372036854775807:=by rw[oQ];omega
  have hu:=F7 xs;have cS:=(YC gb 0 cap' (jE xs) W hH hsz (by rw[oQ];exact r1)).more (show 1<=7 by omega);rw[oQ]at cS;change CallsIn _ _ _ _ _ _ (fun e w'=>e=.returned (.slice (some ⟨gb,0,none⟩) (uq xs).length cap')/\_)at cS
  gi_wp2_with (refine⟨trivial,?_⟩;gi_at_call 58;refine cS.mono ?_;rintro e w' ⟨rfl,q,rfl⟩)
  go_ret
  exact⟨by rw[F8];rfl,Lib.below_putRow hbw (by simp at hbase;omega)⟩
end lu
end Go.Proofs
noncomputable def F9(m:(List (List UInt8))->Option (Bool)):Go.V.aP Go.V.K:={f:=32,sh:=⟨[.ax Go.V.U.str],[]⟩,R:=Bool,run:=fun x=>m x.1.1,dflt:=default,out:=fun r=>(Go.V.Sh.enc Go.V.D (.bool) r,Go.V.aR.encs Go.V.D [] ())}
namespace Go.Proofs
open Go.V
theorem lu.YF:(F9 M.mC).Ok Go.V.D Tryz.prog:=by
 intro x r hr;obtain⟨hl,hv⟩:x.1.1.length<=1099511627776/\((uq x.1.1).length==x.1.1.length)=r:=by
  change M.mC x.1.1=some r at hr;unfold M.mC at hr;by_cases h:x.1.1.length<=1099511627776
  ·simp only[h,gW,af]at hr;exact⟨h,gU hr⟩
  ·simp[h]at hr
 subst hv;refine LN ⟨Tryz.f32,Tryz.func32,by kernel_rfl,by kernel_rfl⟩ fun S w vals hS ha=>?_
 obtain⟨X,rfl,hX⟩:=LP (x:=.ax U.str x.1.1) ha;have hI:=YG hS hX;obtain⟨a,cap,hsv⟩:=hI.len;refine(callsIn_wide.1 (lu.YE X a cap x.1.1 (by have h:maxLen=9223372036854775807:=(by decide);omega) (by omega) w hsv hI)).mono ?_
 rintro e w' ⟨rfl,hb⟩
 exact⟨_,rfl,hb,S,fun _ h=>h,fun _ h=>.inl h,.bool _⟩
end Go.Proofs
theorem YH:(F9 M.mC).Ok Go.V.D Go.Proofs.Tryz.prog:=Go.Proofs.lu.YF
