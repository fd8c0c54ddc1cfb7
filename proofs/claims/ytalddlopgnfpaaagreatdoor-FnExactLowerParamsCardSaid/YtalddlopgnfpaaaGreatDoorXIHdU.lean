/-
  The contract of unicode/utf8.ValidString, where the two tables read as their initialisers lay them.
-/
import Derived.Test.YtalddlopgnfpaaaGreatDoorXIhandA
import Derived.Shelf.Abstract
import Derived.Shelf.Unicode.ValidAny
import Derived.Ground.NamesProg
import Derived.Test.YtalddlopgnfpaaaGreatDoorProg
set_option linter.unusedVariables false
noncomputable def HS(m:(List UInt8)->Option (Bool)):Go.V.aC Go.V.K:={f:=139,sh:=⟨[.str],[]⟩,R:=Bool,run:=fun x=>m x.1.1,dflt:=default,out:=fun r=>(Go.V.Sh.enc Go.V.D (.bool) r,Go.V.az.encs Go.V.D [] ())}
namespace Go.Proofs
open Go.RowKit Go.Shelf Go.V
theorem W2{a:Option Func}{x y:Func}(h:a=some x)(k:x=y):a=some y:=h.trans (gW some k)
def Tryz.laysValid_ren:Go.Shelf.Ren:=⟨fun|196=>139|259=>165|n=>n,fun|119=>171|46=>149|139=>174|138=>173|53=>184|n=>n,fun|3=>0|4=>1|n=>n⟩
theorem Tryz.laysValid:Go.Proofs.Lays.n196 Tryz.prog Tryz.laysValid_ren:={
 mixed:=by kernel_rfl
 f196:=W2 Tryz.func139 (by kernel_rfl)
 f259:=W2 Tryz.func165 (by kernel_rfl)
 t0:=Tryz.underlying0
 a0:=Tryz.isAgg0
 z0:=Tryz.sizeOf0
 v0:=Tryz.zeroValue0
 t3:=Tryz.underlying3
 a3:=Tryz.isAgg3
 z3:=Tryz.sizeOf3
 v3:=Tryz.zeroValue3
 t4:=Tryz.underlying4
 a4:=Tryz.isAgg4
 z4:=Tryz.sizeOf4
 v4:=Tryz.zeroValue4
 t5:=Tryz.underlying5
 a5:=Tryz.isAgg5
 z5:=Tryz.sizeOf5
 v5:=Tryz.zeroValue5
 t9:=Tryz.underlying9
 a9:=Tryz.isAgg9
 z9:=Tryz.sizeOf9
 v9:=Tryz.zeroValue9
 t12:=Tryz.underlying12
 a12:=Tryz.isAgg12
 z12:=Tryz.sizeOf12
 v12:=Tryz.zeroValue12
 t46:=Tryz.underlying149
 a46:=Tryz.isAgg149
 z46:=Tryz.sizeOf149
 v46:=Tryz.zeroValue149
 t53:=Tryz.underlying184
 a53:=Tryz.isAgg184
 z53:=Tryz.sizeOf184
 v53:=Tryz.zeroValue184
 t119:=Tryz.underlying171
 a119:=Tryz.isAgg171
 z119:=Tryz.sizeOf171
 t138:=Tryz.underlying173
 a138:=Tryz.isAgg173
 z138:=Tryz.sizeOf173
 v138:=Tryz.zeroValue173
 t139:=Tryz.underlying174
 a139:=Tryz.isAgg174
 z139:=Tryz.sizeOf174
 v139:=Tryz.zeroValue174
 g3:=by kernel_rfl
 g4:=by kernel_rfl}
namespace ma
theorem akf{P:Program}{f:FuncId}{args:List (AV K)}{r:AV K}(hf:qs P f)
 (h:∀(S:Nat->Prop)(w:World)(vals:List Value),(∀b,S b->b<w.heap.size)->Go.V.D.base.inv S w->aS Go.V.D [] S w args vals->Calls P f vals.toArray w fun e w'=>∃u,e=.returned u/\Below w.heap.size w w'/\∃S':Nat->Prop,(∀b,S b->S' b)/\(∀b,S' b->S b\/(w.heap.size<=b/\b<w'.heap.size))/\Rep Go.V.D [] S' w' r u):RC Go.V.D P f args [] r []:=by
 refine⟨hf,fun ρ S w vals hs ha=>?_⟩;have hρ:ρ=[]:=by have:=hs.len;simpa using this
 subst hρ;have own:∀(w:World) b,¬Own Go.V.D w [] ([]:List (Ob K)) b:=fun w b hb=>by
  obtain⟨h,o,r,ho,_⟩:=hb;simp at ho
 refine(h S w vals hs.slt hs.base ha).mono ?_
 rintro e w' ⟨u,rfl,hb,S',h1,h2,h3⟩
 refine⟨u,[],S',rfl,⟨rfl,fun h o r ho _=>by simp at ho,fun h h' o o' r r' b ho=>by simp at ho,fun b hO=>absurd hO (own _ b),fun b hO=>?_,Go.V.D.base.mono h1 (fun b h=>hb.block b (hs.slt b h)) hs.base⟩,h3,
  ⟨hb.os,hb.tape,hb.output,hb.size,fun b hlt _=>hb.block b hlt,fun b hO=>absurd hO (own _ b),h1,fun b hO=>?_,fun h hh=>rfl⟩⟩
 ·rcases h2 b hO with h|h
  ·exact kH (hs.slt b h) hb.size
  ·exact h.2
 ·rcases h2 b hO with h|h
  ·exact .inl h
  ·exact .inr (.inr h.1)
theorem akg(s:ByteArray)(w:World)(hs:s.size<=9223372036854775807)(hT:Lib.Utf8Tabs 0 1 w):Calls Tryz.prog 139 #[.string s] w fun e w'=>e=.returned (.bool (Lib.validD s.data.toList))/\Below w.heap.size w w':=
 Any.utf8_ValidString Tryz.laysValid s w hs hT
theorem size_eq(l:List UInt8):(ByteArray.mk l.toArray).size=l.length:=oG
theorem akh:(HS M.rH).Ok Go.V.D Tryz.prog:=by
 intro x r hr;obtain⟨hl,hv⟩:List.length (α:=UInt8) x.1.1<=9223372036854775807/\Lib.validD x.1.1=r:=by
  change M.rH x.1.1=some r at hr;unfold M.rH at hr;by_cases h:List.length (α:=UInt8) x.1.1<=9223372036854775807
  ·simp only[h,cn,aA]at hr;exact⟨h,ft hr⟩
  ·simp[h]at hr
 subst hv;refine akf ⟨Tryz.f139,Tryz.func139,by kernel_rfl,by kernel_rfl⟩ fun S w vals hS hB ha=>?_
 obtain⟨X,rfl,hX⟩:=AN (x:=.str x.1.1) ha;rw[jG hX];refine(akg ⟨List.toArray (α:=UInt8) x.1.1⟩ w (eS (Nat.le_of_eq (size_eq x.1.1)) hl) hB.2.2).mono ?_
 rintro e w' ⟨rfl,hb⟩
 exact⟨_,rfl,hb,S,fun _ h=>h,fun _ h=>.inl h,.bool _⟩
end ma
end Go.Proofs
theorem aeB:(HS M.rH).Ok Go.V.D Go.Proofs.Tryz.prog:=Go.Proofs.ma.akh
