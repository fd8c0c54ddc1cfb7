/-
  For every argument the law FnExactReadPackage returns true, and its arguments read behind the call as they read before. Conditions: none beside those of the given row.
-/
import Derived.Test.YtfeedngnaochdaaGreatDoorXZ2C
import Derived.Test.YtfeedngnaochdaaGreatDoorXXlaw2
import Derived.Test.YtfeedngnaochdaaGreatDoorXXPc
import Derived.Test.YtfeedngnaochdaaGreatDoorRows
import Derived.Test.YtfeedngnaochdaaGreatDoorTie
import Derived.Test.YtfeedngnaochdaaGreatDoorCards
import Derived.ProofKit
import Derived.LaidMore
import Derived.OpenShut
import Derived.Stop.Joined
import Derived.PinnedBridge
import Derived.Lay
import Derived.LaidOnce
import Derived.SevenTiedAt
import Derived.Lib.LaidU8T
import Derived.Lib.LaidIn
import Derived.Lib.LaidTab
import Derived.Stop.LaidErr
import Derived.Shelf.Vars
import Derived.HandedShaped
import Derived.RowKitTokens
set_option linter.unusedVariables false
set_option maxRecDepth 100000
namespace Go.Proofs.YtfeedngnaochdaaGreatDoor
open Go Go.V Go.Shelf Go.RowKit
theorem own:ownKnob Tryz.prog.godebug=none:=by kernel_rfl
theorem laid:laidOutB Tryz.prog=true:=by kernel_rfl
def tab:List Nat:=[2,3,4,5,6,9,10,11,12,21,22,23,25,41,46,48,51,54,56,58,60,62,63,65,66,68,69,71,73,88,94,103,124,136,153,161,163,172,181,221,222,224,225]
theorem aho:wa Tryz.prog H8 tab=true:=by kernel_rfl
theorem ahp:∀e c,H8 e=some c->e∈tab:=NF _
theorem ahq(x1:List UInt8):M.yU x1=some true:=M.abA x1
theorem handed{H:Type}{enc:TypeId×Value->H}{a:Assume}{C:Checked}{os:Os}{f:FuncId}{fn:Func}{s:ChangeSpec}{conds:List PathCond}{apart fresh handsOn again:Bool}{X:World->Array Value->Prop}
 (hX:∀(w w':World)(args:Array Value),w.heap=w'.heap->X w args->X w' args)
 (own:ownKnob C.prog.godebug=none) (started:os.Started) (noInit:C.prog.inits.idxOf? f=none) (hfn:C.prog.funcs[f]?=some fn)
 (witness:∃(w:World)(tape:Tape)(i:Input),w.os=os/\(w.forCall tape i).Shaped C.prog/\i.vars=[]/\Input.okWide C.prog (w.forCall tape i) .any w.heap.size f i/\
   ((s.pre enc C.prog fn conds apart (w.forCall tape i).memory i.args/\X (w.forCall tape i).memory i.args)/\sizedMet enc C.prog fn (OpenSpec.ofChange s) apart (w.forCall tape i).memory i.args)/\a.holds C.prog (lone (Frame.enter C.prog f i.args .normal) [] (w.forCall tape i)))
 (contract:∀(W:World)(base:Nat)(args:Array Value)(ds gs:List (DataW H))(before:List MemPlace),
   (∀(j:Nat) t v,fn.params[j]?=some t->args[j]?=some v->Value.okWide C.prog W .any base t v)->
   DataW.Whole enc C.prog fn.params.toList s.vars apart W args.toList ds gs before->
   X W args->W.ShapedOpen C.prog->
   Calls C.prog f args W fun e W'=>∃v,e=.returned v/\s.post enc C.prog fn apart fresh handsOn again W args v W'):
 ReturnsInHanded a C os f .any (fun w args=>(s.pre enc C.prog fn conds apart w args/\X w args)/\sizedMet enc C.prog fn (OpenSpec.ofChange s) apart w args) (s.post enc C.prog fn apart fresh handsOn again):=by
 refine returnsInHanded_of_calls own started noInit witness ?_;intro w tape i _ hsh _ hok hpre hholds;obtain⟨_,_,_,fn',hfn',_,_,_,_,hval⟩:=hok;have e:fn'=fn:=gU (hfn'.symm.trans hfn);subst e;obtain⟨⟨⟨ds,gs,before,hw,hc⟩,hx⟩,hz⟩:=hpre;have hw':=DataW.Whole.of_heap (w':=w.forCall tape i) (by rfl) hw;refine(contract (w.forCall tape i) w.heap.size i.args ds gs before hval hw' (hX _ _ _ (by rfl) hx) hsh).mono fun e W' ⟨v,he,hp⟩=>?_
 subst he;exact ChangeSpec.post_blind hp
theorem star: "*" ++ "errors.errorString" = "*errors.errorString" :=by decide
theorem Vz(u:TypeId)(h:Tryz.prog.typeName? 3 u=some "*errors.errorString"):u=206:=
 typeName_ptr_named (nm:= "errors.errorString") (by rw[star];kernel_rfl) (by kernel_rfl) (by decide) u (by rw[star];exact h)
theorem tabs{W:World}(hL:laidMetH Tryz.prog Rows.fnExactReadPackageRow.laid W)(hsh:W.ShapedOpen Tryz.prog):Go.V.D.base.inv (Old W) W:=by
 rw[MakeChecks.laidMetH_plain _ _ _ (by kernel_rfl)]at hL;have hlt:∀(b:Nat)(v:Value),W.cell? ⟨b,0,none⟩=some v->b<W.heap.size:=fun b v h=>by
  rcases cV b W.heap.size with h'|h'
  ·exact h'
  ·simp[World.cell?,ri h']at h
 have hM:=cell_of_shapedOpen_int (P:=Tryz.prog) (g:=0) (t:=3) (zero:= #[.int .i64 0]) hsh (jQ (by kernel_rfl)) (by kernel_rfl) rfl (by kernel_rfl) (by kernel_rfl) Tryz.underlying3;have h2:laidMet Tryz.prog (("internal/strconv.uint64pow10",Lib.tabData .u64 Lib.pow10Tab)::Rows.fnExactReadPackageRow.laid.drop 3) W:=by
  have:=hL.tail.tail;exact this
 have hT:=Lib.tabIs_of_head (by kernel_rfl:Tryz.prog.globalNamed "internal/strconv.uint64pow10" =some 5) (by kernel_rfl:(Tryz.prog.globals[5]?).map (·.type)=some 210) Tryz.underlying210 (by kernel_rfl:Tryz.prog.underlying 163=some (.int .u64)) (by kernel_rfl) (by kernel_rfl) h2;obtain⟨a0,s0,hv0,-,-,-⟩:=laid_sentinel hL.tail.tail.tail.tail (by kernel_rfl:Tryz.prog.globalNamed "strconv.ErrRange" =some 2) (by kernel_rfl:(Tryz.prog.globals[2]?).map (·.type)=some 148) Tryz.underlying148 Vz Tryz.underlying206 Tryz.underlying208 rfl rfl Tryz.underlying9 (by kernel_rfl) (by kernel_rfl);obtain⟨a1,s1,hv1,-,-,-⟩:=laid_sentinel hL.tail.tail.tail.tail.tail (by kernel_rfl:Tryz.prog.globalNamed "strconv.ErrSyntax" =some 1) (by kernel_rfl:(Tryz.prog.globals[1]?).map (·.type)=some 148) Tryz.underlying148 Vz Tryz.underlying206 Tryz.underlying208 rfl rfl Tryz.underlying9 (by kernel_rfl) (by kernel_rfl);have cR:W.cell? ⟨2,0,none⟩=some (.iface 206 (.pointer (some a0))):=by
  have h0:=World.var?_cell (by kernel_rfl:Tryz.prog.globalNamed "strconv.ErrRange" =some 2) hv0 0;simpa using h0
 have cS:W.cell? ⟨1,0,none⟩=some (.iface 206 (.pointer (some a1))):=by
  have h0:=World.var?_cell (by kernel_rfl:Tryz.prog.globalNamed "strconv.ErrSyntax" =some 1) hv1 0;simpa using h0
 have hblk:∃T fr,W.heap[5]?=some (.cells (Lib.pow10Tab.map fun z=>Value.int .u64 z).toArray T fr):=by
  have h:=hT;unfold Lib.TabIs World.var? at h;rw[show Tryz.prog.globalNamed "internal/strconv.uint64pow10" =some 5 by kernel_rfl]at h;simp only[Option.bind_some]at h;split at h
  ·rename_i cs T fr e;simp only[aj]at h;exact⟨T,fr,by rw[<-h];exact e⟩
  ·cases h
 obtain⟨m,hm⟩:=hM;obtain⟨T,fr,hb⟩:=hblk;exact⟨⟨hlt _ _ hm,(js.1 hb).1,hlt _ _ cS,hlt _ _ cR⟩,⟨m,hm⟩,⟨T,fr,hb⟩,⟨_,_,cS⟩,⟨_,_,cR⟩⟩
theorem lifted(os:Os)(started:os.Started)(H:Type)(enc:TypeId×Value->H):
 ReturnsInHanded {} Tryz.checked os 3 .any (fun w args=>(Rows.fnExactReadPackageSpec.pre enc Tryz.prog Tryz.f3 [] false w args/\laidMetH Tryz.prog Rows.fnExactReadPackageRow.laid w)/\sizedMet enc Tryz.prog Tryz.f3 (OpenSpec.ofChange Rows.fnExactReadPackageSpec) false w args) (Rows.fnExactReadPackageSpec.post enc Tryz.prog Tryz.f3 false true false false):=by
 refine handed (C:=Tryz.checked) (X:=fun w _=>laidMetH Tryz.prog Rows.fnExactReadPackageRow.laid w) (fun _ _ _ hh h=>h.of_heap hh) own started (by kernel_rfl) Tryz.func3
  (ChangeSpec.witness_shaped (enc:=enc) (C:=Tryz.checked) (os:=os) (X:=fun w _=>laidMetH Tryz.prog Rows.fnExactReadPackageRow.laid w) false (World.laidAll Tryz.prog os Rows.fnExactReadPackageRow.laid) #[.string ⟨#[]⟩] 8 (World.laidAll_os _ _ _)
    (World.shaped_of_ZipB (by kernel_rfl) (by kernel_rfl)) (by kernel_rfl) (by kernel_rfl) (by kernel_rfl)
    (by rw[MakeChecks.laidMetH_plain _ _ _ (by kernel_rfl)];exact laidMet_laidAll _ (by kernel_rfl) (by kernel_rfl))) ?_
 intro W base args ds gs before hval hW hL hsh;exact abP (C:=Tryz.checked) (c:=Q6 M.yU) laid aho ahp (by kernel_rfl) rfl (fun|[d1],_=>rfl) rfl Tryz.underlying4 rfl aeh rfl (by kernel_rfl)
  ⟨true,rfl,fun x y h=>ahq x.1⟩ hval hW (tabs hL hsh)
end Go.Proofs.YtfeedngnaochdaaGreatDoor
