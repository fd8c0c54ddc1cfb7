/-
  strings.Builder's WriteString and Grow, as the walk of strings.Join wants them.
-/
import Derived.Test.YtdehjkmaaljlpaaGreatDoorXEHdB
import Derived.Shelf.Abstract
import Derived.Ground.NamesProg
import Derived.Shelf.Strings.OnBuilder
set_option linter.unusedVariables false
namespace Go.Proofs
open Go.RowKit Go.Shelf Go.V
theorem ahW{a:Option Func}{x y:Func}(h:a=some x)(k:x=y):a=some y:=h.trans (wH some k)
def Tryz.laysGrow_ren:Go.Shelf.Ren:=⟨fun|241=>142|277=>194|n=>n,fun|70=>142|72=>144|37=>121|n=>n,fun|n=>n⟩
theorem Tryz.laysGrow:Go.Proofs.Lays.n241 Tryz.prog Tryz.laysGrow_ren:={
 mixed:=by kernel_rfl
 f241:=ahW Tryz.func142 (by kernel_rfl)
 f277:=ahW Tryz.func194 (by kernel_rfl)
 t0:=Tryz.underlying0
 a0:=Tryz.isAgg0
 z0:=Tryz.sizeOf0
 v0:=Tryz.zeroValue0
 t3:=Tryz.underlying3
 a3:=Tryz.isAgg3
 z3:=Tryz.sizeOf3
 v3:=Tryz.zeroValue3
 t37:=Tryz.underlying121
 a37:=Tryz.isAgg121
 z37:=Tryz.sizeOf121
 v37:=Tryz.zeroValue121
 t70:=Tryz.underlying142
 a70:=Tryz.isAgg142
 z70:=Tryz.sizeOf142
 v70:=Tryz.zeroValue142
 t72:=Tryz.underlying144
 a72:=Tryz.isAgg144
 z72:=Tryz.sizeOf144
 v72:=Tryz.zeroValue144}
namespace fD
theorem azP:Builder.Extra Tryz.prog Tryz.laysGrow_ren:={
 sizeBuilder:=by kernel_rfl
 liesBuilder:=by kernel_rfl
 t5:=Tryz.underlying5
 a5:=fun _=>by kernel_rfl
 z5:=fun _=>by kernel_rfl
 v5:=fun _=>by kernel_rfl
 infoByte:=by kernel_rfl
 cellsByte:=by kernel_rfl
 sizeByte:=by kernel_rfl
 neB5:=by decide}
abbrev BA(B b:Nat)(bs:List Value)(w:World):Prop:=Lib.BuilderAt 144 5 B b (.pointer (some ⟨b,0,none⟩)) bs w
set_option maxRecDepth 100000 in
theorem OQ(B b:Nat)(bs:List Value)(s:ByteArray)(w:World)(h:BA B b bs w)(hlen:bs.length+s.size<=1099511627776)(hBw:B<=w.heap.size):
 Calls Tryz.prog 96 #[.pointer (some ⟨b,0,none⟩),.string s] w fun e w'=>e=.returned (.tuple #[.int .i64 s.size,.nilIface])/\BA B b (bs++Lib.strCells s) w'/\Below B w w':=by
 obtain⟨i0,hi,hz0,hz1,hz2⟩:=info_parts (show(Tryz.prog.info? 5).map (fun i=>(i.zero,i.size,i.bytes))=some (some (.int .u8 0),1,1) by kernel_rfl);have azQ:=ahS b w h.cell0;obtain⟨hB,v,hbk,hown,hne⟩:=h;have c0:w.cell? ⟨b,0,none⟩=some (.pointer (some ⟨b,0,none⟩)):=by rw[Lib.cell_of_heap hbk];rfl
 have c1:w.cell? ⟨b,1,none⟩=some v:=by rw[Lib.cell_of_heap hbk];rfl
 go_enter Tryz.func96,Tryz.ntmps96
 go_wp2_with (go_at_fn 141)
 refine azQ.mono ?_
 rintro e w1 ⟨rfl,rfl⟩
 go_wp2_with (at_builtin;refine Lib.wpList_append_own_string _ rfl _ _ 121 9 rfl B 5 i0 Tryz.underlying121 Tryz.underlying9 hi hz0 hz1 hz2 _ _ _ rfl hown s rfl ?c3 ?c4 ?c5 ?_)
 case c3=>unfold maxLen;omega
 case c4=>omega
 case c5=>exact hBw
 intro v' w2 hown' hgrow _;have hlt:b<w1.heap.size:=by
  rcases cA b w1.heap.size with h'|h'
  ·exact h'
  ·simp[qK h']at hbk
 have hb2:w2.heap[b]?=some (.cells #[.pointer (some ⟨b,0,none⟩),v] 144 (0,0)):=by
  rw[hgrow.block b hlt (fun e=>hne e.symm)];exact hbk
 have d1:w2.cell? ⟨b,1,none⟩=some v:=by rw[Lib.cell_of_heap hb2];rfl
 have f1:w2.frozen? ⟨b,1,none⟩=false:=Lib.frozen_of_heap hb2 1;obtain⟨ao,n',cap,rfl⟩:∃ao n' cap,v'=.slice ao n' cap:=by
  rcases hown'.2 with⟨hv,_⟩|⟨g,cap,cur,hv,_⟩
  ·exact⟨_,_,_,hv⟩
  ·exact⟨_,_,_,hv⟩
 go_wp2
 go_ret2
 exact⟨rfl,Lib.BuilderAt.put hB hb2 (bs':=bs++Lib.strCells s) (by simpa [Lib.strCells_length]using hown') (by decide),((Below.refl B w1).grown hgrow hBw (fun k hk=>(hown.lt k hk).1)).setCell (p:=⟨b,1,none⟩) hB _⟩
set_option maxRecDepth 100000 in
theorem azR(b n:Nat)(w:World)(hbk:w.heap[b]?=some (.cells #[.pointer none,.slice none 0 0] 144 (0,0)))(B:Nat)(hB:B<=b)(hBw:B<=w.heap.size)(hn:n<=1099511627776):
 Calls Tryz.prog 95 #[.pointer (some ⟨b,0,none⟩),.int .i64 n] w fun e w'=>e=.returned (.tuple #[])/\BA B b [] w'/\Below B w w':=by
 have mixed:Tryz.prog.follows .mixedOrders=true:=by kernel_rfl
 have hcc:=ahT b w (by simp[World.cell?,hbk]) (by simp[World.shape?,hbk]) (by simp[World.frozen?,hbk]);have hbk1:(w.setCell ⟨b,0,none⟩ (.pointer (some ⟨b,0,none⟩))).heap[b]?=some (.cells #[.pointer (some ⟨b,0,none⟩),.slice none 0 0] 144 (0,0)):=by
  simp[World.setCell,Array.getElem?_modify,hbk]
 have hsz:(w.setCell ⟨b,0,none⟩ (.pointer (some ⟨b,0,none⟩))).heap.size=w.heap.size:=by simp[World.setCell]
 have hb1:Below B w (w.setCell ⟨b,0,none⟩ (.pointer (some ⟨b,0,none⟩))):=(Below.refl B w).setCell (p:=⟨b,0,none⟩) hB _;generalize w.setCell ⟨b,0,none⟩ (.pointer (some ⟨b,0,none⟩))=w1 at hcc hbk1 hsz hb1;have c1:w1.drew.cell? ⟨b,1,none⟩=some (.slice none 0 0):=by
  have:w1.drew.heap[b]?=_:=hbk1;rw[Lib.cell_of_heap this];rfl
 have c0:w1.cell? ⟨b,1,none⟩=some (.slice none 0 0):=c1;have hgr:=Any.Builder_grow_fresh Tryz.laysGrow azP B b n w1.drew hB hbk1 (by simpa [World.drew,-World.drew_eq,hsz]using hBw) (by omega);have azS:Calls Tryz.prog 142 #[.pointer (some ⟨b,0,none⟩),.int .i64 n] w1.drew fun e w'=>e=.returned (.tuple #[])/\BA B b [] w'/\Below B w1.drew w':=hgr
 have hU:BA B b [] w1.drew:=Lib.BuilderAt.drew (show BA B b [] w1 from⟨hB,.slice none 0 0,hbk1,World.ownsRow_nil _ _ _ _,by simp[Value.ownBlock]⟩);clear hgr
 go_enter Tryz.func95,Tryz.ntmps95
 go_wp2_with (go_at_fn 141)
 refine hcc.mono ?_
 rintro e w' ⟨rfl,rfl⟩
 go_wp2
 go_region_o
 all_goals go_wp2_with (go_at_fn 142)
 all_goals first
  |(refine azS.mono ?_;rintro e w2 ⟨rfl,h1,h2⟩;go_wp2;go_end0;exact⟨rfl,h1,hb1.drew.trans h2⟩)
  |(go_end0;exact⟨rfl,hU,hb1.drew⟩)
end fD
end Go.Proofs
