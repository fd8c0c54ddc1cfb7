/-
  slices.Values, slices.AppendSeq, slices.Collect at strings, walked where they lie in this program: a slice's strings come, in order.
-/
import Derived.Test.YtdehjkmaaljlpaaGreatDoorXEhandA
import Derived.RangeFuncNested
import Derived.RangeFuncBound
import Derived.RangeFuncCalls
import Derived.RangeFuncLeaves
import Derived.RangeFuncBox
import Derived.Shelf.Abstract
import Derived.Shelf.RegionOpen
import Derived.WalkKit
import Derived.OwnWalkIn
import Derived.TacticsInMore
import Derived.LoopNIn
import Derived.LoopIn
import Derived.Maps.AppendAt
import Derived.Sort.EncStr
import Derived.Test.YtdehjkmaaljlpaaGreatDoorProg
import Derived.Shelf.Sort.Plain
import Derived.Shelf.Slices.CompactS
import Derived.Shelf.Slices.In.SortNone
import Derived.Sort.OwnSorted
import Derived.Sort.Grow
import Derived.Lib.OwnBridge
import Derived.Ground.NamesProg
import Derived.RegionIn
import Derived.Sort.LoopGhostIn
import Derived.Sort.CutIn
import Derived.Sort.QuietIn
import Derived.Shelf.AbstractIn
set_option linter.unusedVariables false
set_option linter.unusedSimpArgs false
namespace Go.Proofs
open Go.RowKit Go.Shelf Go.Sort
open Go.V (Strs jL qN uq ON OO)
namespace fD
attribute [local go_sem] Oper.semAt_some
theorem ahR(x:List UInt8):encStr x=.string ⟨x.toArray⟩:=rfl
def upto{α:Type}(f:Nat->α)(k:Nat):List α:=(List.range k).map f
theorem upto_succ{α:Type}(f:Nat->α)(k:Nat):upto f (k+1)=upto f k++[f k]:=by simp[upto,List.range_succ]
theorem upto_length{α:Type}(f:Nat->α)(k:Nat):(upto f k).length=k:=by simp[upto]
theorem upto_all(zs:List (List UInt8)):upto (fun j=>zs[j]?.getD []) zs.length=zs:=by
 apply List.ext_getElem
 ·simp[upto]
 ·intro i h1 h2;simp[upto,h2]
theorem upto_take(zs:List (List UInt8)){k:Nat}(hk:k<=zs.length):upto (fun j=>zs[j]?.getD []) k=zs.take k:=by
 apply List.ext_getElem
 ·simp[upto,hk]
 ·intro i h1 h2;have:i<zs.length:=by simp[upto]at h1;omega
  simp[upto,this]
set_option maxHeartbeats 2000000 in
theorem values1_in(F:Fence)(n:Nat)(h7:F.fn 227)(hro:F.round=none)(hn:1<=n)(l Bs n₀ b off len cap:Nat)(zs:List (List UInt8))(hreach:len*16<=140737488351232)(hb:b<n₀)(J Jx:List (List UInt8)->World->Prop)
 (hY:∀pre x W,J pre W->pre.length<len->YieldAt F (n-1) Tryz.prog l #[encStr x] W fun e W'=>
   (e=.returned (.bool true)/\J (pre++[x]) W'/\Below n₀ W W')\/(e=.returned (.bool false)/\Jx (pre++[x]) W'))
 (W:World) (hBs:W.cell? ⟨Bs,0,none⟩=some (.slice (some ⟨b,off,none⟩) len cap)) (hc:∀j,j<len->W.cell? ⟨b,off+j,none⟩=some (encStr (zs[j]?.getD []))) (h0:J [] W):
 CallsIn F n Tryz.prog 227 #[.func (.yield l) #[] #[],.pointer (some ⟨Bs,0,none⟩)] W fun e W'=>(∃v,e=.returned v)/\
  ((∃ys,ys=upto (fun j=>zs[j]?.getD []) len/\J ys W')\/(∃pre,(∃k,k<=len/\pre=upto (fun j=>zs[j]?.getD []) k)/\Jx pre W')):=by
 refine callsIn_of_wp Tryz.func227 rfl h7 ?_ hro;simp only[Tryz.ntmps227,pG,aO,aU,Nat.reduceAdd,Nat.reduceSub,tW,Array.replicate_zero,wP,rH,kP,kJ]
 gi_wp2
 gi_loopw [7] (fun i wr=>∃k:Nat,k<=len/\i=.int .i64 k/\J (upto (fun j=>zs[j]?.getD []) k) wr/\Below n₀ W wr)
  (fun i _=>len-(intOf i).toNat)
 case atStart=>exact⟨0,abo _,rfl,h0,Below.refl _ _⟩
 case round=>
  obtain⟨k,hk,rfl,hJs,hnx⟩:=hrel;have hcx:k<len->wr.cell? ⟨b,off+k,none⟩=some (encStr (zs[k]?.getD [])):=fun h=>(hnx.cell (p:=⟨b,off+k,none⟩) hb).trans (hc k h)
  by_cases hlt:k<len
  ·obtain⟨fn,tmps,assign,body,hy,hR⟩:=hY _ (zs[k]?.getD []) wr hJs (by rw[upto_length];exact hlt);have hcx':=hcx hlt;obtain⟨X,hX⟩:∃X,encStr (zs[k]?.getD [])=X:=⟨_,rfl⟩;rw[hX]at hcx' hy
   gi_wp2
   refine hR.mono ?_
   rintro e W3 (⟨rfl,hJ3,hk3⟩|⟨rfl,hJx3⟩)
   ·gi_wp2
    go_roundw
    case rel=>exact⟨k+1,by omega,by simp,by rw[upto_succ];exact hJ3,hnx.trans hk3⟩
    case measure=>simp[intOf];omega
   ·gi_wp2
    refine bodyPost_ret (results_none rfl _ _ _) rfl ?_;exact⟨⟨_,rfl⟩,.inr ⟨_,⟨k+1,by omega,(upto_succ _ _).symm⟩,hJx3⟩⟩
  ·obtain rfl:k=len:=by omega
   gi_wp2
   go_end0
   exact⟨⟨_,rfl⟩,.inl ⟨_,rfl,hJs⟩⟩
set_option maxHeartbeats 1000000 in
theorem azw(F:Fence)(n:Nat)(h7:F.fn 227)(hro:F.round=none)(l Bs:Nat)(a:Option Addr)(cap:Nat)(J:List (List UInt8)->World->Prop)(W:World)(hBs:W.cell? ⟨Bs,0,none⟩=some (.slice a 0 cap))(h0:J [] W):
 CallsIn F n Tryz.prog 227 #[.func (.yield l) #[] #[],.pointer (some ⟨Bs,0,none⟩)] W fun e W'=>(∃v,e=.returned v)/\J [] W':=by
 refine callsIn_of_wp Tryz.func227 rfl h7 ?_ hro;simp only[Tryz.ntmps227,pG,aO,aU,Nat.reduceAdd,Nat.reduceSub,tW,Array.replicate_zero,wP,rH,kP,kJ]
 gi_wp2
 gi_loopw [7] (fun i wr=>i=.int .i64 0/\J [] wr) (fun _ _=>0)
 case atStart=>exact⟨rfl,h0⟩
 case round=>
  obtain⟨rfl,hJs⟩:=hrel
  gi_wp2
  go_end0
  exact⟨⟨_,rfl⟩,hJs⟩
set_option maxHeartbeats 1000000 in
theorem values_in(F:Fence)(n:Nat)(h5:F.fn 187)(hro:F.round=none)(a:Option Addr)(len cap:Nat)(w:World):
 CallsIn F n Tryz.prog 187 #[.slice a len cap] w fun e w'=>e=.returned (.func (.func 227) #[] #[.pointer (some ⟨w.heap.size,0,none⟩)])/\w'=w.alloc (.cells #[.slice a len cap] 65):=by
 refine callsIn_of_wp Tryz.func187 rfl h5 ?_ hro;simp only[Tryz.ntmps187,pG,aO,aU,Nat.reduceAdd,Nat.reduceSub,tW,Array.replicate_zero,wP,rH,kP,kJ]
 gi_wp2
 go_ret
 exact⟨rfl,rfl⟩
theorem values_stops(F:Fence)(n:Nat)(h7:F.fn 227)(hro:F.round=none)(hn:1<=n)(Bs n₀:Nat)(sv:Value)(zs:List (List UInt8))(hreach:zs.length*16<=140737488351232)(w:World)(hBs:Bs<w.heap.size)(hn₀:n₀<=w.heap.size)
 (hc:w.cell? ⟨Bs,0,none⟩=some sv) (hI:Strs n₀ w sv zs):
 SeqStopsK F n Tryz.prog 227 #[.pointer (some ⟨Bs,0,none⟩)] (fun x:List UInt8=> #[encStr x]) (Below n₀) (fun ys=>ys=zs) (fun pre=>pre<+:zs) zs.length w:=fun l J Jx W hW _ _ hY h0=>by
 have hc':=(hW.cell (p:=⟨Bs,0,none⟩) hBs).trans hc;rcases hI.below (hW.mono hn₀)with⟨a,cap,rfl,rfl⟩|⟨b,off,cap,rfl,hb,hcs⟩
 ·exact(azw F n h7 hro l Bs a cap J W hc' h0).mono fun e W' ⟨he,hj⟩=>⟨he,.inl ⟨_,rfl,hj⟩⟩
 ·refine(values1_in F n h7 hro hn l Bs n₀ b off zs.length cap zs hreach hb J Jx hY W hc' hcs h0).mono ?_
  rintro e W' ⟨he,⟨ys,rfl,hj⟩|⟨pre,⟨k,hk,rfl⟩,hj⟩⟩
  ·exact⟨he,.inl ⟨_,upto_all zs,hj⟩⟩
  ·exact⟨he,.inr ⟨_,by rw[upto_take zs hk];exact List.take_prefix _ _,hj⟩⟩
theorem azx:(Tryz.prog.info? 9).map (fun i=>(i.zero,i.size,i.bytes))=some (some (.string ⟨#[]⟩),1,16):=by kernel_rfl
set_option maxHeartbeats 2000000 in
theorem appendSeq_in(F:Fence)(n:Nat)(h3:F.fn 269)(h5:F.fn 227)(hro:F.round=none)(hn:3<=n)(Bs:Nat)(sv:Value)(xs:List (List UInt8))(hlen:xs.length<=maxLen)(hbytes:xs.length*16<=140737488351232)(w:World)(hBs:Bs<w.heap.size)
 (hc:w.cell? ⟨Bs,0,none⟩=some sv) (hI:Strs w.heap.size w sv xs):
 CallsIn F n Tryz.prog 269 #[.slice none 0 0,.func (.func 227) #[] #[.pointer (some ⟨Bs,0,none⟩)]] w fun e W'=>∃v,e=.returned v/\W'.ownsRow w.heap.size 9 1 v xs.length (xs.map encStr)/\(v=.slice none 0 0↔xs=[])/\Below w.heap.size w W':=by
 have h1:1<=n:=by omega
 obtain⟨i0,hi,hz0,hz1,hz2⟩:=info_parts azx;refine callsIn_of_wp_marks Tryz.func269 rfl h3 ?_ hro;simp only[Tryz.ntmps269,pG,aO,aU,Nat.reduceAdd,Nat.reduceSub,tW,Array.replicate_zero,wP,rH,kP,kJ]
 gi_wp2
 have bO:=Boxed.new w 65 (.slice none 0 0);have hB0:Below w.heap.size w (w.alloc (.cells #[.slice none 0 0] 65)):=(Below.refl _ w).alloc (bY _) _;refine wpIn_rangeFunc_ownG hro h1 (gf:=227) (lb:= #[.pointer (some ⟨Bs,0,none⟩)]) rfl h5 (enters_of Tryz.func227 (by kernel_rfl) rfl)
  (values_stops F (n-1) h5 hro (by omega) Bs w.heap.size sv xs hbytes _ (by simp;omega) (by simp) ((hB0.cell (p:=⟨Bs,0,none⟩) hBs).trans hc) (hI.below hB0)) belowK_t (belowK_b (by simp)) (Below.refl _ _) (fun _=>rfl)
  (fun pre W=>(∃v,Boxed W w.heap.size 65 v/\W.ownsRow w.heap.size 9 1 v pre.length (pre.map encStr)/\(v=.slice none 0 0↔pre=[]))/\Below w.heap.size w W)
  (fun _ _ _=>False)
  (OwnFrom.and (Own.from (holdsRow_own w.heap.size w.heap.size 65 9 1 (fun pre=>pre.length) (fun pre=>pre.map encStr) (fun pre v=>v=.slice none 0 0↔pre=[])) _) (ownFrom_below (bY _) (by simp)))
  (fun _ _ _ _ _ hs _ _=>hs)
  ⟨⟨_,bO,World.ownsRow_nil _ _ _ _,by simp⟩,hB0⟩
  (fun x=>{tmps:= #[.slice none 0 0,.func (.func 227) #[] #[.pointer (some ⟨Bs,0,none⟩)],.pointer (some ⟨w.heap.size,0,none⟩),undef,.slice none 0 0,encStr x,.func (.func 227) #[] #[.pointer (some ⟨Bs,0,none⟩)],encStr x,undef,undef,undef,undef,undef],defers:=[]}) ?assign ?body ?done ?stop
 case assign=>
  intro l x W K hK
  gi_wp2
  exact hK
 case body=>
  rintro l pre x W ⟨⟨v,hv,hrow,hnil⟩,hB⟩ hlt
  have hc:=hv.cell;rw[ahR]
  gi_wp2_with (gi_at_builtin;refine wpListIn_append_own _ rfl _ _ 65 rfl w.heap.size 9 i0 (.string ⟨#[]⟩) 1 16 Tryz.underlying65 hi hz0 hz1 hz2 rfl (by decide) _ _ _ rfl (hrow.alloc _) ⟨W.heap.size,0,none⟩ 1 1 [.string ⟨x.toArray⟩] rfl rfl (cell_one_new _ _ _) (by simp[Value.oneCell']) (by omega) (by omega) (by have:=hB.size;simp;omega) ?_;intro v' w1 hown' hgrow _;obtain⟨g',cap',rfl⟩:=ownsRow_succ hown';obtain⟨hv1,hv2,hr2,hk2,hb2⟩:=hv.appended (by decide) hrow hB.size (bY _) hown' hgrow;have hc1:=hv1.cell;have hf1:=hv1.frozen)
  exact⟨hk2.from _,hb2,⟨_,hv2,by simpa [ahR]using hr2,by simp⟩,hB.trans hb2⟩
 case done=>
  rintro D ys W hD rfl ⟨⟨v,hv,hrow,hnil⟩,hB⟩ hK
  have hc:=hv.cell
  gi_wp2
  refine⟨by simp,.inl ⟨_,_,rfl,run_takeDeferred hK,?_⟩⟩;exact⟨_,results_tmp rfl _ _ _,v,rfl,ownsRow_putObj hrow _ hK rfl,hnil,hB.trans (belowK_b (w:=w) (bY _) W D _ _ (by simp at hD;omega) hK rfl rfl)⟩
 case stop=>
  rintro D c pre W _ _ h _
  exact h.elim
set_option maxHeartbeats 1000000 in
theorem collect_in(F:Fence)(n:Nat)(h2:F.fn 225)(h3:F.fn 269)(h5:F.fn 227)(hro:F.round=none)(hn:4<=n)(Bs:Nat)(sv:Value)(xs:List (List UInt8))(hlen:xs.length<=maxLen)(hbytes:xs.length*16<=140737488351232)(w:World)(hBs:Bs<w.heap.size)
 (hc:w.cell? ⟨Bs,0,none⟩=some sv) (hI:Strs w.heap.size w sv xs):
 CallsIn F n Tryz.prog 225 #[.func (.func 227) #[] #[.pointer (some ⟨Bs,0,none⟩)]] w fun e W'=>∃v,e=.returned v/\W'.ownsRow w.heap.size 9 1 v xs.length (xs.map encStr)/\(v=.slice none 0 0↔xs=[])/\Below w.heap.size w W':=by
 have h1:1<=n:=by omega
 refine callsIn_of_wp Tryz.func225 rfl h2 ?_ hro;simp only[Tryz.ntmps225,pG,aO,aU,Nat.reduceAdd,Nat.reduceSub,tW,Array.replicate_zero,wP,rH,kP,kJ]
 gi_wp2_with (gi_at_call 269;refine(appendSeq_in F (n-1) h3 h5 hro (by omega) Bs sv xs hlen hbytes _ hBs hc hI).mono ?_;rintro e w' ⟨v,rfl,hrow,hnil,hb⟩)
 go_ret
 exact⟨v,rfl,hrow,hnil,hb⟩
end fD
end Go.Proofs
namespace Go.Proofs
open Go.RowKit Go.Shelf Go.Sort
open Go.V (Strs jL qN uq ON OO)
theorem ic{a:Option Func}{x y:Func}(h:a=some x)(k:x=y):a=some y:=h.trans (wH some k)
def Tryz.laysSort_ren:Go.Shelf.Ren:=⟨fun|190=>226|125=>271|258=>270|128=>327|129=>229|302=>318|303=>319|304=>320|305=>321|306=>322|307=>323|308=>324|309=>325|310=>326|333=>344|329=>345|330=>346|334=>347|335=>348|336=>349|344=>353|n=>n,fun|31=>65|46=>274|51=>271|53=>233|183=>351|182=>350|131=>356|218=>376|222=>380|228=>392|229=>393|n=>n,fun|n=>n⟩
theorem Tryz.laysSort:Go.Proofs.Lays.n190 Tryz.prog Tryz.laysSort_ren:={
 mixed:=by kernel_rfl
 f125:=ic Tryz.func271 (by kernel_rfl)
 f128:=ic Tryz.func327 (by kernel_rfl)
 f129:=ic Tryz.func229 (by kernel_rfl)
 f190:=ic Tryz.func226 (by kernel_rfl)
 f258:=ic Tryz.func270 (by kernel_rfl)
 f302:=ic Tryz.func318 (by kernel_rfl)
 f303:=ic Tryz.func319 (by kernel_rfl)
 f304:=ic Tryz.func320 (by kernel_rfl)
 f305:=ic Tryz.func321 (by kernel_rfl)
 f306:=ic Tryz.func322 (by kernel_rfl)
 f307:=ic Tryz.func323 (by kernel_rfl)
 f308:=ic Tryz.func324 (by kernel_rfl)
 f309:=ic Tryz.func325 (by kernel_rfl)
 f310:=ic Tryz.func326 (by kernel_rfl)
 f329:=ic Tryz.func345 (by kernel_rfl)
 f330:=ic Tryz.func346 (by kernel_rfl)
 f333:=ic Tryz.func344 (by kernel_rfl)
 f334:=ic Tryz.func347 (by kernel_rfl)
 f335:=ic Tryz.func348 (by kernel_rfl)
 f336:=ic Tryz.func349 (by kernel_rfl)
 f344:=ic Tryz.func353 (by kernel_rfl)
 t0:=Tryz.underlying0
 a0:=Tryz.isAgg0
 z0:=Tryz.sizeOf0
 v0:=Tryz.zeroValue0
 t3:=Tryz.underlying3
 a3:=Tryz.isAgg3
 z3:=Tryz.sizeOf3
 v3:=Tryz.zeroValue3
 t4:=Tryz.underlying4
 a4:=Tryz.isAgg4
 z4:=Tryz.sizeOf4
 v4:=Tryz.zeroValue4
 t5:=Tryz.underlying5
 a5:=Tryz.isAgg5
 z5:=Tryz.sizeOf5
 v5:=Tryz.zeroValue5
 t9:=Tryz.underlying9
 a9:=Tryz.isAgg9
 z9:=Tryz.sizeOf9
 v9:=Tryz.zeroValue9
 t31:=Tryz.underlying65
 a31:=Tryz.isAgg65
 z31:=Tryz.sizeOf65
 v31:=Tryz.zeroValue65
 t46:=Tryz.underlying274
 a46:=Tryz.isAgg274
 z46:=Tryz.sizeOf274
 v46:=Tryz.zeroValue274
 t51:=Tryz.underlying271
 a51:=Tryz.isAgg271
 z51:=Tryz.sizeOf271
 v51:=Tryz.zeroValue271
 t53:=Tryz.underlying233
 a53:=Tryz.isAgg233
 z53:=Tryz.sizeOf233
 v53:=Tryz.zeroValue233
 t131:=Tryz.underlying356
 a131:=Tryz.isAgg356
 z131:=Tryz.sizeOf356
 v131:=Tryz.zeroValue356
 t182:=Tryz.underlying350
 a182:=Tryz.isAgg350
 z182:=Tryz.sizeOf350
 v182:=Tryz.zeroValue350
 t183:=Tryz.underlying351
 a183:=Tryz.isAgg351
 z183:=Tryz.sizeOf351
 v183:=Tryz.zeroValue351
 t218:=Tryz.underlying376
 a218:=Tryz.isAgg376
 z218:=Tryz.sizeOf376
 v218:=Tryz.zeroValue376
 t222:=Tryz.underlying380
 a222:=Tryz.isAgg380
 z222:=Tryz.sizeOf380
 v222:=Tryz.zeroValue380
 t228:=Tryz.underlying392
 a228:=Tryz.isAgg392
 z228:=Tryz.sizeOf392
 v228:=Tryz.zeroValue392
 t229:=Tryz.underlying393
 a229:=Tryz.isAgg393
 z229:=Tryz.sizeOf393
 v229:=Tryz.zeroValue393}
theorem azy{a:Option Func}{x y:Func}(h:a=some x)(k:x=y):a=some y:=h.trans (wH some k)
def Tryz.laysCompact_ren:Go.Shelf.Ren:=⟨fun|194=>185|n=>n,fun|31=>65|n=>n,fun|n=>n⟩
theorem Tryz.laysCompact:Go.Proofs.Lays.n194 Tryz.prog Tryz.laysCompact_ren:={
 mixed:=by kernel_rfl
 f194:=azy Tryz.func185 (by kernel_rfl)
 t0:=Tryz.underlying0
 a0:=Tryz.isAgg0
 z0:=Tryz.sizeOf0
 v0:=Tryz.zeroValue0
 t3:=Tryz.underlying3
 a3:=Tryz.isAgg3
 z3:=Tryz.sizeOf3
 v3:=Tryz.zeroValue3
 t4:=Tryz.underlying4
 a4:=Tryz.isAgg4
 z4:=Tryz.sizeOf4
 v4:=Tryz.zeroValue4
 t9:=Tryz.underlying9
 a9:=Tryz.isAgg9
 z9:=Tryz.sizeOf9
 v9:=Tryz.zeroValue9
 t31:=Tryz.underlying65
 a31:=Tryz.isAgg65
 z31:=Tryz.sizeOf65
 v31:=Tryz.zeroValue65}
namespace fD
theorem azz(blk off cap:Nat)(ss:List (List UInt8))(w:World)(hH:Holds encStr w blk off ss.toArray)(hblk:blk<w.heap.size)(hsz:ss.length<4611686018427387904):
 CallsIn Fence.wide 1 Tryz.prog 226 #[.slice (some ⟨blk,off,none⟩) ss.length cap] w fun e w'=>
  e=.returned (.tuple #[])/\∃n os,w'=grow (putRow encStr (Sort.ahead w n) blk off (jL ss).toArray) os:=
 callsIn_wide.2 (Any.slices_Sort_string Tryz.laysSort blk off cap ss w hH hblk hsz)
theorem azA(p:Option Addr)(cap:Nat)(w:World):CallsIn Fence.wide 1 Tryz.prog 226 #[.slice p 0 cap] w fun e w'=>e=.returned (.tuple #[])/\w'=w:=
 callsIn_wide.2 (Any.slices_Sort_string_none Tryz.laysSort p cap w)
theorem azB(blk off cap:Nat)(zs:List (List UInt8))(w:World)(hH:Holds encStr w blk off zs.toArray)(hsz:zs.length<=9223372036854775807)(hcap:zs.length<=cap):
 CallsIn Fence.wide 1 Tryz.prog 185 #[.slice (some ⟨blk,off,none⟩) zs.length cap] w fun e w'=>e=.returned (.slice (some ⟨blk,off,none⟩) (Lib.compact zs).length cap)/\∃q,w'=putRow encStr (Sort.ahead w q) blk off (Lib.compact zs++List.replicate (zs.length-(Lib.compact zs).length) []).toArray:=
 callsIn_wide.2 (Any.slices_Compact_string Tryz.laysCompact blk off cap zs w hH hsz hcap)
theorem azC(a:Option Addr)(cap:Nat)(w:World):CallsIn Fence.wide 1 Tryz.prog 185 #[.slice a 0 cap] w fun e w'=>e=.returned (.slice a 0 cap)/\w'=w:=
 callsIn_wide.2 (Any.slices_Compact_string_empty Tryz.laysCompact a cap w)
set_option maxHeartbeats 2000000 in
theorem sorted_in(Bs:Nat)(sv:Value)(xs:List (List UInt8))(hlen:xs.length<=maxLen)(hbytes:xs.length*16<=140737488351232)(w:World)(hBs:Bs<w.heap.size)
 (hc:w.cell? ⟨Bs,0,none⟩=some sv) (hI:Strs w.heap.size w sv xs):
 CallsIn Fence.wide 6 Tryz.prog 186 #[.func (.func 227) #[] #[.pointer (some ⟨Bs,0,none⟩)]] w fun e w'=>∃v,e=.returned v/\w'.ownsRow w.heap.size 9 1 v xs.length ((jL xs).map encStr)/\(v=.slice none 0 0↔xs=[])/\Below w.heap.size w w':=by
 have h1:1<=6:=by omega
 refine callsIn_of_wp Tryz.func186 rfl trivial ?_ rfl;simp only[Tryz.ntmps186,pG,aO,aU,Nat.reduceAdd,Nat.reduceSub,tW,Array.replicate_zero,wP,rH,kP,kJ]
 gi_wp2_with (refine⟨trivial,?_⟩;gi_at_call 225;refine(collect_in Fence.wide 5 trivial trivial trivial rfl (by omega) Bs sv xs hlen hbytes _ hBs hc hI).mono ?_;rintro e W ⟨v,rfl,hrow,hnil,hb⟩)
 rcases hrow.2 with⟨rfl,hz⟩|⟨gb,cap,cur,rfl,hbase,hgb,r1,r2,r3,r4⟩
 ·have hss:xs=[]:=ja hz;subst hss
  gi_wp2_with (refine⟨trivial,?_⟩;gi_at_call 226;refine((azA none 0 W).more (show 1<=5 by omega)).mono ?_;rintro e w' ⟨rfl,rfl⟩)
  go_ret
  exact⟨.slice none 0 0,rfl,by simpa [jL]using hrow,by simp,hb⟩
 ·have hH:Holds encStr W gb 0 xs.toArray:=holds_of_block hgb (by simpa using r4);have hgl:gb<W.heap.size:=(jd.1 hgb).1;have hsz:xs.length<4611686018427387904:=by omega
  have cS:=(azz gb 0 cap xs W hH hgl hsz).more (show 1<=5 by omega)
  gi_wp2_with (refine⟨trivial,?_⟩;gi_at_call 226;refine cS.mono ?_;rintro e w' ⟨rfl,nn,os,rfl⟩)
  go_ret
  exact⟨_,rfl,ownsRow_sorted (by simp[jL]) hbase hgb r1 r2 r3,hnil,hb.grown (grownBy_sorted _) hb.size (fun j hj=>by cases hj;exact hbase)⟩
set_option maxHeartbeats 2000000 in
theorem azD(sv:Value)(a:Option Addr)(cap:Nat)(xs:List (List UInt8))(hlen:xs.length<=maxLen)(hbytes:xs.length*16<=140737488351232)(w:World)(hsv:sv=.slice a xs.length cap)(hI:Strs w.heap.size w sv xs):
 CallsIn Fence.wide 8 Tryz.prog 137 #[sv] w fun e w'=>e=.returned (.bool ((uq xs).length==xs.length))/\Below w.heap.size w w':=by
 subst hsv;have h1:1<=8:=by omega
 refine callsIn_of_wp Tryz.func137 rfl trivial ?_ rfl;simp only[Tryz.ntmps137,pG,aO,aU,Nat.reduceAdd,Nat.reduceSub,tW,Array.replicate_zero,wP,rH,kP,kJ];have hB1:Below w.heap.size w (w.alloc (.cells #[.slice a xs.length cap] 65)):=(Below.refl _ w).alloc (bY _) _;have bO:=Boxed.new w 65 (.slice a xs.length cap)
 gi_wp2_with (first
  |(refine⟨trivial,?_⟩;gi_at_call 187;refine(values_in Fence.wide 7 trivial rfl _ _ _ _).mono ?_;rintro e w1 ⟨rfl,rfl⟩)
  |(refine⟨trivial,?_⟩;gi_at_call 186
    refine((sorted_in w.heap.size _ xs hlen hbytes (w.alloc (.cells #[.slice a xs.length cap] 65)) (by simp) bO.cell ?_).more (show 6<=7 by omega)).mono ?_
    ·exact Go.V.Strs.up (by simp) (hI.below hB1)
    rintro e W ⟨v,rfl,hrow,hnil,hb⟩))
 have hbw:Below w.heap.size w W:=hB1.trans (hb.mono (by simp));rcases hrow.2 with⟨rfl,hz⟩|⟨gb,cap',cur,rfl,hbase,hgb,r1,r2,r3,r4⟩
 ·have hss:xs=[]:=ja hz;subst hss
  gi_wp2_with (refine⟨trivial,?_⟩;gi_at_call 185;refine((azC none 0 W).more (show 1<=7 by omega)).mono ?_;rintro e w' ⟨rfl,rfl⟩)
  go_ret
  exact⟨by simp[uq,jL,Lib.compact];rfl,hbw⟩
 ·have hH:Holds encStr W gb 0 (jL xs).toArray:=holds_of_block hgb (by simpa [qN]using r4);have hsz:(jL xs).length<=9223372036854775807:=by rw[qN];omega
  have hu:=ON xs;have cS:=(azB gb 0 cap' (jL xs) W hH hsz (by rw[qN];exact r1)).more (show 1<=7 by omega);rw[qN]at cS;change CallsIn _ _ _ _ _ _ (fun e w'=>e=.returned (.slice (some ⟨gb,0,none⟩) (uq xs).length cap')/\_)at cS
  gi_wp2_with (refine⟨trivial,?_⟩;gi_at_call 185;refine cS.mono ?_;rintro e w' ⟨rfl,q,rfl⟩)
  go_ret
  exact⟨by rw[OO];rfl,Lib.below_putRow hbw (by simp at hbase;omega)⟩
end fD
end Go.Proofs
noncomputable def ym(m:(List (List UInt8))->Option (Bool)):Go.V.ax Go.V.K:={f:=137,sh:=⟨[.ah Go.V.U.str],[]⟩,R:=Bool,run:=fun x=>m x.1.1,dflt:=default,out:=fun r=>(Go.V.Sh.enc Go.V.D (.bool) r,Go.V.bh.encs Go.V.D [] ())}
namespace Go.Proofs
open Go.V
theorem fD.azE:(ym M.kS).Ok Go.V.D Tryz.prog:=by
 intro x r hr;obtain⟨hl,hv⟩:x.1.1.length<=1099511627776/\((uq x.1.1).length==x.1.1.length)=r:=by
  change M.kS x.1.1=some r at hr;unfold M.kS at hr;by_cases h:x.1.1.length<=1099511627776
  ·simp only[h,bg,aA]at hr;exact⟨h,f6 hr⟩
  ·simp[h]at hr
 subst hv;refine OM ⟨Tryz.f137,Tryz.func137,by kernel_rfl,by kernel_rfl⟩ fun S w vals hS ha=>?_
 obtain⟨X,rfl,hX⟩:=wN (x:=.ah U.str x.1.1) ha;have hI:=azF hS hX;obtain⟨a,cap,hsv⟩:=hI.len;refine(callsIn_wide.1 (fD.azD X a cap x.1.1 (by have h:maxLen=9223372036854775807:=(by decide);omega) (by omega) w hsv hI)).mono ?_
 rintro e w' ⟨rfl,hb⟩
 exact⟨_,rfl,hb,S,fun _ h=>h,fun _ h=>.inl h,.bool _⟩
end Go.Proofs
theorem HG:(ym M.kS).Ok Go.V.D Go.Proofs.Tryz.prog:=Go.Proofs.fD.azE
