/-
  For every argument the law FnExactComponentText returns true, and its arguments read behind the call as they read before. Conditions: none beside those of the given row.
-/
import Derived.Test.YtdehjkmaaljlpaaGreatDoorXEFC
import Derived.Test.YtdehjkmaaljlpaaGreatDoorXElaw2
import Derived.Test.YtdehjkmaaljlpaaGreatDoorXET
import Derived.Test.YtdehjkmaaljlpaaGreatDoorRows
import Derived.Test.YtdehjkmaaljlpaaGreatDoorTie
import Derived.Test.YtdehjkmaaljlpaaGreatDoorCards
import Derived.ProofKit
import Derived.LaidMore
import Derived.OpenShut
import Derived.Stop.Joined
import Derived.PinnedBridge
import Derived.Lay
import Derived.LaidOnce
import Derived.SevenTiedAt
import Derived.Lib.LaidU8T
import Derived.Lib.LaidIn
import Derived.Lib.LaidTab
import Derived.Stop.LaidErr
import Derived.Shelf.Vars
import Derived.HandedShaped
import Derived.RowKitTokens
set_option linter.unusedVariables false
set_option maxRecDepth 100000
namespace Go.Proofs.YtdehjkmaaljlpaaGreatDoor
open Go Go.V Go.Shelf Go.RowKit
theorem own:ownKnob Tryz.prog.godebug=none:=by kernel_rfl
theorem laid:laidOutB Tryz.prog=true:=by kernel_rfl
def tab:List Nat:=[2,3,4,5,6,9,10,11,12,21,22,23,24,26,27,28,29,31,34,35,36,38,39,40,41,43,65,66,68,73,76,79,86,88,89,90,91,111,113,115,121,122,123,125,127,129,133,135,137,153,160,161,163,165,167,177,191,195,206,213,233,248,264,271,274,283,291,293,308,322,324,336,350,364,376,401,402,404,405]
theorem azj:zr Tryz.prog NQ tab=true:=by kernel_rfl
theorem azk:∀e c,NQ e=some c->e∈tab:=ahI _
theorem azl(x1:M.aP)(hx1:∀m,iH m U.eG x1):M.Dj x1=some true:=M.azm x1 (M.aP.fq x1 hx1)
theorem handed{H:Type}{enc:TypeId×Value->H}{a:Assume}{C:Checked}{os:Os}{f:FuncId}{fn:Func}{s:ChangeSpec}{conds:List PathCond}{apart fresh handsOn again:Bool}{X:World->Array Value->Prop}
 (hX:∀(w w':World)(args:Array Value),w.heap=w'.heap->X w args->X w' args)
 (own:ownKnob C.prog.godebug=none) (started:os.Started) (noInit:C.prog.inits.idxOf? f=none) (hfn:C.prog.funcs[f]?=some fn)
 (witness:∃(w:World)(tape:Tape)(i:Input),w.os=os/\(w.forCall tape i).Shaped C.prog/\i.vars=[]/\Input.okWide C.prog (w.forCall tape i) .any w.heap.size f i/\
   ((s.pre enc C.prog fn conds apart (w.forCall tape i).memory i.args/\X (w.forCall tape i).memory i.args)/\sizedMet enc C.prog fn (OpenSpec.ofChange s) apart (w.forCall tape i).memory i.args)/\a.holds C.prog (lone (Frame.enter C.prog f i.args .normal) [] (w.forCall tape i)))
 (contract:∀(W:World)(base:Nat)(args:Array Value)(ds gs:List (DataW H))(before:List MemPlace),
   (∀(j:Nat) t v,fn.params[j]?=some t->args[j]?=some v->Value.okWide C.prog W .any base t v)->
   DataW.Whole enc C.prog fn.params.toList s.vars apart W args.toList ds gs before->
   X W args->W.ShapedOpen C.prog->
   Calls C.prog f args W fun e W'=>∃v,e=.returned v/\s.post enc C.prog fn apart fresh handsOn again W args v W'):
 ReturnsInHanded a C os f .any (fun w args=>(s.pre enc C.prog fn conds apart w args/\X w args)/\sizedMet enc C.prog fn (OpenSpec.ofChange s) apart w args) (s.post enc C.prog fn apart fresh handsOn again):=by
 refine returnsInHanded_of_calls own started noInit witness ?_;intro w tape i _ hsh _ hok hpre hholds;obtain⟨_,_,_,fn',hfn',_,_,_,_,hval⟩:=hok;have e:fn'=fn:=f6 (hfn'.symm.trans hfn);subst e;obtain⟨⟨⟨ds,gs,before,hw,hc⟩,hx⟩,hz⟩:=hpre;have hw':=DataW.Whole.of_heap (w':=w.forCall tape i) (by rfl) hw;refine(contract (w.forCall tape i) w.heap.size i.args ds gs before hval hw' (hX _ _ _ (by rfl) hx) hsh).mono fun e W' ⟨v,he,hp⟩=>?_
 subst he;exact ChangeSpec.post_blind hp
theorem star: "*" ++ "errors.errorString" = "*errors.errorString" :=by decide
theorem ahJ(u:TypeId)(h:Tryz.prog.typeName? 3 u=some "*errors.errorString"):u=389:=
 typeName_ptr_named (nm:= "errors.errorString") (by rw[star];kernel_rfl) (by kernel_rfl) (by decide) u (by rw[star];exact h)
theorem tabs{W:World}(hL:laidMetH Tryz.prog Rows.fnExactComponentTextRow.laid W)(hsh:W.ShapedOpen Tryz.prog):Go.V.D.base.inv (Old W) W:=by
 rw[MakeChecks.laidMetH_plain _ _ _ (by kernel_rfl)]at hL;have hlt:∀(b:Nat)(v:Value),W.cell? ⟨b,0,none⟩=some v->b<W.heap.size:=fun b v h=>by
  rcases cA b W.heap.size with h'|h'
  ·exact h'
  ·simp[World.cell?,qK h']at h
 have hM:=cell_of_shapedOpen_int (P:=Tryz.prog) (g:=1) (t:=3) (zero:= #[.int .i64 0]) hsh (zt (by kernel_rfl)) (by kernel_rfl) rfl (by kernel_rfl) (by kernel_rfl) Tryz.underlying3;have h2:laidMet Tryz.prog (("internal/strconv.uint64pow10",Lib.tabData .u64 Lib.pow10Tab)::Rows.fnExactComponentTextRow.laid.drop 3) W:=by
  have:=hL.tail.tail;exact this
 have hT:=Lib.tabIs_of_head (by kernel_rfl:Tryz.prog.globalNamed "internal/strconv.uint64pow10" =some 0) (by kernel_rfl:(Tryz.prog.globals[0]?).map (·.type)=some 270) Tryz.underlying270 (by kernel_rfl:Tryz.prog.underlying 233=some (.int .u64)) (by kernel_rfl) (by kernel_rfl) h2;have h8:laidMet Tryz.prog (("strings.asciiSpace",Lib.tabData .u8 Lib.asciiSpaceTab)::Rows.fnExactComponentTextRow.laid.drop 8) W:=by
  have:=hL.tail.tail.tail.tail.tail.tail.tail;exact this
 have hA:=Lib.tabIs_of_head (by kernel_rfl:Tryz.prog.globalNamed "strings.asciiSpace" =some 2) (by kernel_rfl:(Tryz.prog.globals[2]?).map (·.type)=some 276) Tryz.underlying276 (by kernel_rfl:Tryz.prog.underlying 5=some (.int .u8)) (by kernel_rfl) (by kernel_rfl) h8;obtain⟨a0,s0,hv0,-,-,-⟩:=laid_sentinel hL.tail.tail.tail.tail (by kernel_rfl:Tryz.prog.globalNamed "strconv.ErrRange" =some 7) (by kernel_rfl:(Tryz.prog.globals[7]?).map (·.type)=some 147) Tryz.underlying147 ahJ Tryz.underlying389 Tryz.underlying391 rfl rfl Tryz.underlying9 (by kernel_rfl) (by kernel_rfl);obtain⟨a1,s1,hv1,-,-,-⟩:=laid_sentinel hL.tail.tail.tail.tail.tail (by kernel_rfl:Tryz.prog.globalNamed "strconv.ErrSyntax" =some 6) (by kernel_rfl:(Tryz.prog.globals[6]?).map (·.type)=some 147) Tryz.underlying147 ahJ Tryz.underlying389 Tryz.underlying391 rfl rfl Tryz.underlying9 (by kernel_rfl) (by kernel_rfl);have cR:W.cell? ⟨7,0,none⟩=some (.iface 389 (.pointer (some a0))):=by
  have h0:=World.var?_cell (by kernel_rfl:Tryz.prog.globalNamed "strconv.ErrRange" =some 7) hv0 0;simpa using h0
 have cS:W.cell? ⟨6,0,none⟩=some (.iface 389 (.pointer (some a1))):=by
  have h0:=World.var?_cell (by kernel_rfl:Tryz.prog.globalNamed "strconv.ErrSyntax" =some 6) hv1 0;simpa using h0
 have hblk:∃T fr,W.heap[0]?=some (.cells (Lib.pow10Tab.map fun z=>Value.int .u64 z).toArray T fr):=by
  have h:=hT;unfold Lib.TabIs World.var? at h;rw[show Tryz.prog.globalNamed "internal/strconv.uint64pow10" =some 0 by kernel_rfl]at h;simp only[Option.bind_some]at h;split at h
  ·rename_i cs T fr e;simp only[aD]at h;exact⟨T,fr,by rw[<-h];exact e⟩
  ·cases h
 have azn:∃T fr,W.heap[2]?=some (.cells (Lib.asciiSpaceTab.map fun z=>Value.int .u8 z).toArray T fr):=by
  have h:=hA;unfold Lib.TabIs World.var? at h;rw[show Tryz.prog.globalNamed "strings.asciiSpace" =some 2 by kernel_rfl]at h;simp only[Option.bind_some]at h;split at h
  ·rename_i cs T fr e;simp only[aD]at h;exact⟨T,fr,by rw[<-h];exact e⟩
  ·cases h
 obtain⟨m,hm⟩:=hM;obtain⟨T,fr,hb⟩:=hblk;obtain⟨TA,OH,hbA⟩:=azn;exact⟨⟨(jd.1 hbA).1,⟨TA,OH,hbA⟩,hlt _ _ hm,(jd.1 hb).1,hlt _ _ cS,hlt _ _ cR⟩,⟨m,hm⟩,⟨T,fr,hb⟩,⟨_,_,cS⟩,⟨_,_,cR⟩⟩
theorem lifted(os:Os)(started:os.Started)(H:Type)(enc:TypeId×Value->H):
 ReturnsInHanded {} Tryz.checked os 3 .any (fun w args=>(Rows.fnExactComponentTextSpec.pre enc Tryz.prog Tryz.f3 [] false w args/\laidMetH Tryz.prog Rows.fnExactComponentTextRow.laid w)/\sizedMet enc Tryz.prog Tryz.f3 (OpenSpec.ofChange Rows.fnExactComponentTextSpec) false w args) (Rows.fnExactComponentTextSpec.post enc Tryz.prog Tryz.f3 false true false false):=by
 refine handed (C:=Tryz.checked) (X:=fun w _=>laidMetH Tryz.prog Rows.fnExactComponentTextRow.laid w) (fun _ _ _ hh h=>h.of_heap hh) own started (by kernel_rfl) Tryz.func3
  (ChangeSpec.witness_shaped (enc:=enc) (C:=Tryz.checked) (os:=os) (X:=fun w _=>laidMetH Tryz.prog Rows.fnExactComponentTextRow.laid w) false (World.laidAll Tryz.prog os Rows.fnExactComponentTextRow.laid) #[.agg #[.string ⟨#[]⟩,.string ⟨#[]⟩,.slice none 0 0,.slice none 0 0,.int .i64 0,.int .i64 0,.int .i64 0,.slice none 0 0,.slice none 0 0,.slice none 0 0,.slice none 0 0,.slice none 0 0]] 8 (World.laidAll_os _ _ _)
    (World.shaped_of_ZipB (by kernel_rfl) (by kernel_rfl)) (by kernel_rfl) (by kernel_rfl) (by kernel_rfl)
    (by rw[MakeChecks.laidMetH_plain _ _ _ (by kernel_rfl)];exact laidMet_laidAll _ (by kernel_rfl) (by kernel_rfl))) ?_
 intro W base args ds gs before hval hW hL hsh;exact azo (C:=Tryz.checked) (c:=abm M.Dj) laid azj azk (by kernel_rfl) rfl (fun|[d1],_=>rfl) rfl Tryz.underlying4 rfl atw rfl (by kernel_rfl)
  ⟨true,rfl,fun x y h=>azl x.1 (fun m=>(h m).1)⟩ hval hW (tabs hL hsh)
end Go.Proofs.YtdehjkmaaljlpaaGreatDoor
