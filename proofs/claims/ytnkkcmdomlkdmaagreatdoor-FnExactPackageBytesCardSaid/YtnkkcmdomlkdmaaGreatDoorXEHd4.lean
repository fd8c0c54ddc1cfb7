/-
  The contracts of strings.IndexByte and of slices.Clone at int64.
-/
import Derived.Test.YtnkkcmdomlkdmaaGreatDoorXEhandA
import Derived.Shelf.Abstract
import Derived.Shelf.Small.Strs
import Derived.Ground.NamesProg
import Derived.OwnWalk
import Derived.Deep.LoopGhost
import Derived.Lib.SliceRun
import Derived.Shelf.RegionOpenPlain
import Derived.WalkKit
import Derived.Test.YtnkkcmdomlkdmaaGreatDoorProg
set_option linter.unusedVariables false
noncomputable def Oz(m:List UInt8->Int->Option Int):Go.V.an Go.V.K:={f:=274,sh:=⟨[.str,.int .u8],[]⟩,R:=Int,run:=fun x=>m x.1.1 x.1.2.1,dflt:=default,out:=fun r=>(Go.V.Sh.enc Go.V.D (.int .i64) r,Go.V.bk.encs Go.V.D [] ())}
noncomputable def PC(m:List Int->Option (List Int)):Go.V.an Go.V.K:={f:=342,sh:=⟨[.ah Go.V.U.i64],[]⟩,R:=List Int,run:=fun x=>m x.1.1,dflt:=default,out:=fun r=>(Go.V.Sh.enc Go.V.D (.own 0) (),Go.V.bk.encs Go.V.D [.arr Go.V.U.i64] (r,()))}
namespace Go.Proofs
open Go.RowKit Go.Shelf Go.V
theorem Qb{a:Option Func}{x y:Func}(h:a=some x)(k:x=y):a=some y:=h.trans (xw some k)
def Tryz.laysIndexByte_ren:Go.Shelf.Ren:=⟨fun|137=>274|217=>311|266=>361|n=>n,fun|n=>n,fun|n=>n⟩
theorem Tryz.laysIndexByte:Go.Proofs.Lays.n137 Tryz.prog Tryz.laysIndexByte_ren:={
 mixed:=by kernel_rfl
 f137:=Qb Tryz.func274 (by kernel_rfl)
 f217:=Qb Tryz.func311 (by kernel_rfl)
 f266:=Qb Tryz.func361 (by kernel_rfl)
 t3:=Tryz.underlying3
 a3:=Tryz.isAgg3
 z3:=Tryz.sizeOf3
 v3:=Tryz.zeroValue3
 t5:=Tryz.underlying5
 a5:=Tryz.isAgg5
 z5:=Tryz.sizeOf5
 v5:=Tryz.zeroValue5
 t9:=Tryz.underlying9
 a9:=Tryz.isAgg9
 z9:=Tryz.sizeOf9
 v9:=Tryz.zeroValue9}
namespace jC
theorem aBL(s:ByteArray)(c:Int)(w:World):Calls Tryz.prog 274 #[.string s,.int .u8 c] w fun e w'=>e=.returned (.int .i64 (Lib.indexByte s.data.toList c.toNat.toUInt8))/\w'=w:=
 Any.strings_IndexByte Tryz.laysIndexByte s c w
theorem aBM:(Oz M.strings_IndexByte).Ok Go.V.D Tryz.prog:=by
 intro x r hr;have hv:Lib.indexByte x.1.1 x.1.2.1.toNat.toUInt8=r:=(jl hr:M.FB x.1.1 x.1.2.1=r);subst hv;refine aj6 ⟨Tryz.f274,Tryz.func274,by kernel_rfl,by kernel_rfl⟩ fun S w vals hS ha=>?_
 obtain⟨X,r1,rfl,hX,hr1⟩:=bB.gW (v:=.str x.1.1) (l:=[.int .u8 x.1.2.1]) ha;obtain⟨Y,r2,rfl,hY,hr2⟩:=hr1.gW;rw[hr2.nI,jj hX,gC hY];refine(aBL _ _ w).mono ?_
 rintro e w' ⟨rfl,rfl⟩
 exact⟨_,rfl,Below.refl _ _,S,fun _ h=>h,fun _ h=>.inl h,.int _ _⟩
set_option maxRecDepth 100000 in
theorem aj7(ad:Addr)(n c:Nat)(news:List Value)(w:World)(hl:news.length=n*1)(hn:n<=maxLen)(hbig:n*8<=140737488355328)
 (hc:∀j u,news[j]?=some u->w.cell? (ad.add j)=some u) (h1:∀u∈news,u.oneCell'=true):
 Calls Tryz.prog 342 #[.slice (some ad) n c] w fun e w'=>∃v',e=.returned v'/\w'.ownsRow w.heap.size 2 1 v' n news/\Below w.heap.size w w':=by
 have A:Aside (∀j u,news[j]?=some u->w.cell? (ad.add j)=some u):=hc;clear hc;have q22:∀(w:World)(a:Option Addr)(n c n' c':Nat),(binOp .eql 239 (.slice a n c) (.slice none n' c')).run Tryz.prog w=.ok (.bool a.isNone) w:=fun w a n c n' c'=>Lib.run_eql_slice_nil w _ _ a n c n' c' Tryz.underlying239
 go_enter Tryz.func342,Tryz.ntmps342
 go_wp2_with (at_builtin;refine wpList_append_own _ rfl _ _ 239 rfl w.heap.size 2 Tryz.t2 (.int .i64 0) 1 8 Tryz.underlying239 (by kernel_rfl) (by kernel_rfl) (by kernel_rfl) (by kernel_rfl) (by kernel_rfl) (by decide) _ _ _ rfl (World.ownsRow_made w #[] 0 (eL _) (cZ _) (by simp)) ad n c news rfl ?qc1 ?qc2 ?qc3 ?qc4 ?qc5 ?qc6 ?_)
 case qc1=>exact hl
 case qc2=>
  intro j u hj;exact Lib.cell?_alloc_some _ (A.out j u hj)
 case qc3=>exact h1
 case qc4=>rw[gV];exact hn
 case qc5=>rw[gV];exact hbig
 case qc6=>simp
 intro v' w1 hown hgrow hnil
 go_wp2
 go_ret
 refine⟨v',rfl,by simpa using hown,?_⟩;exact((Below.refl _ w).alloc (eL _) _).grown hgrow (by simp) (by intro k hk;simp[Value.ownBlock]at hk;omega)
set_option maxRecDepth 100000 in
theorem aBN(n c:Nat)(w:World):Calls Tryz.prog 342 #[.slice none n c] w fun e w'=>e=.returned (.slice none 0 0)/\w'=w:=by
 have q22:∀(w:World)(a:Option Addr)(n c n' c':Nat),(binOp .eql 239 (.slice a n c) (.slice none n' c')).run Tryz.prog w=.ok (.bool a.isNone) w:=fun w a n c n' c'=>Lib.run_eql_slice_nil w _ _ a n c n' c' Tryz.underlying239
 go_enter Tryz.func342,Tryz.ntmps342
 go_wp2
 go_ret
 exact⟨rfl,rfl⟩
theorem aBO(l:List Int)(hl:l.length<=1099511627776):RC Go.V.D Tryz.prog 342 [.ah U.i64 l] [] (.sl 0) [.arr U.i64 l]:=by
 refine aBP (T:=2) (c:=U.i64) (l:=l) aj8 ⟨Tryz.f342,Tryz.func342,by kernel_rfl,by kernel_rfl⟩ (fun t h=>by cases h) fun S w vals hS ha=>?_
 obtain⟨X,rfl,hX⟩:=FC (x:=.ah U.i64 l) ha;rcases aBQ aj8 hS hX with⟨a,cap,rfl,rfl⟩|⟨b,off,cap,rfl,hb,hc⟩
 ·cases a with
  |none=>
   refine(aBN 0 cap w).mono ?_
   rintro e w' ⟨rfl,rfl⟩
   exact⟨_,rfl,World.ownsRow_nil _ _ _ _,Below.refl _ _⟩
  |some ad=>exact aj7 ad 0 cap [] w rfl (cZ _) (by omega) (fun j u h=>by simp at h) (fun u h=>by simp at h)
 ·refine aj7 ⟨b,off,none⟩ l.length cap (l.map fun n=>Value.int .i64 n) w (by simp) (by have h:maxLen=9223372036854775807:=(by decide);omega) (by omega) (fun j u h=>?_) (fun u h=>?_)
  ·rw[fL,fw]at h;obtain⟨y,hy,rfl⟩:=h;rw[Addr.add_lit];exact hc j y hy
  ·obtain⟨y,-,rfl⟩:=qh.1 h;rfl
theorem aBR:(PC M.tK).Ok Go.V.D Tryz.prog:=by
 intro x r hr;obtain⟨hl,hv⟩:x.1.1.length<=1099511627776/\x.1.1=r:=by
  change M.tK x.1.1=some r at hr;unfold M.tK at hr;by_cases h:List.length (α:=Int) x.1.1<=1099511627776
  ·simp only[h,bj,cr]at hr;exact⟨h,jl hr⟩
  ·simp[h]at hr
 subst hv;exact aBO x.1.1 hl
end jC
end Go.Proofs
theorem arz:(Oz M.strings_IndexByte).Ok Go.V.D Go.Proofs.Tryz.prog:=Go.Proofs.jC.aBM
theorem awy:(PC M.tK).Ok Go.V.D Go.Proofs.Tryz.prog:=Go.Proofs.jC.aBR
