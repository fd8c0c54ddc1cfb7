/-
  The contracts of strings.IndexByte and of slices.Clone at int64.
-/
import Derived.Test.YtdehjkmaaljlpaaGreatDoorXEhandA
import Derived.Shelf.Abstract
import Derived.Shelf.Small.Strs
import Derived.Ground.NamesProg
import Derived.OwnWalk
import Derived.Deep.LoopGhost
import Derived.Lib.SliceRun
import Derived.Shelf.RegionOpenPlain
import Derived.WalkKit
import Derived.Test.YtdehjkmaaljlpaaGreatDoorProg
set_option linter.unusedVariables false
noncomputable def M6(m:List UInt8->Int->Option Int):Go.V.ax Go.V.K:={f:=307,sh:=⟨[.str,.int .u8],[]⟩,R:=Int,run:=fun x=>m x.1.1 x.1.2.1,dflt:=default,out:=fun r=>(Go.V.Sh.enc Go.V.D (.int .i64) r,Go.V.bh.encs Go.V.D [] ())}
noncomputable def N2(m:List Int->Option (List Int)):Go.V.ax Go.V.K:={f:=310,sh:=⟨[.ah Go.V.U.i64],[]⟩,R:=List Int,run:=fun x=>m x.1.1,dflt:=default,out:=fun r=>(Go.V.Sh.enc Go.V.D (.own 0) (),Go.V.bh.encs Go.V.D [.arr Go.V.U.i64] (r,()))}
namespace Go.Proofs
open Go.RowKit Go.Shelf Go.V
theorem OL{a:Option Func}{x y:Func}(h:a=some x)(k:x=y):a=some y:=h.trans (wH some k)
def Tryz.laysIndexByte_ren:Go.Shelf.Ren:=⟨fun|137=>307|217=>333|266=>350|n=>n,fun|n=>n,fun|n=>n⟩
theorem Tryz.laysIndexByte:Go.Proofs.Lays.n137 Tryz.prog Tryz.laysIndexByte_ren:={
 mixed:=by kernel_rfl
 f137:=OL Tryz.func307 (by kernel_rfl)
 f217:=OL Tryz.func333 (by kernel_rfl)
 f266:=OL Tryz.func350 (by kernel_rfl)
 t3:=Tryz.underlying3
 a3:=Tryz.isAgg3
 z3:=Tryz.sizeOf3
 v3:=Tryz.zeroValue3
 t5:=Tryz.underlying5
 a5:=Tryz.isAgg5
 z5:=Tryz.sizeOf5
 v5:=Tryz.zeroValue5
 t9:=Tryz.underlying9
 a9:=Tryz.isAgg9
 z9:=Tryz.sizeOf9
 v9:=Tryz.zeroValue9}
namespace fD
theorem azp(s:ByteArray)(c:Int)(w:World):Calls Tryz.prog 307 #[.string s,.int .u8 c] w fun e w'=>e=.returned (.int .i64 (Lib.indexByte s.data.toList c.toNat.toUInt8))/\w'=w:=
 Any.strings_IndexByte Tryz.laysIndexByte s c w
theorem azq:(M6 M.strings_IndexByte).Ok Go.V.D Tryz.prog:=by
 intro x r hr;have hv:Lib.indexByte x.1.1 x.1.2.1.toNat.toUInt8=r:=(f6 hr:M.ER x.1.1 x.1.2.1=r);subst hv;refine OM ⟨Tryz.f307,Tryz.func307,by kernel_rfl,by kernel_rfl⟩ fun S w vals hS ha=>?_
 obtain⟨X,r1,rfl,hX,hr1⟩:=bE.fE (v:=.str x.1.1) (l:=[.int .u8 x.1.2.1]) ha;obtain⟨Y,r2,rfl,hY,hr2⟩:=hr1.fE;rw[hr2.lS,gX hX,f7 hY];refine(azp _ _ w).mono ?_
 rintro e w' ⟨rfl,rfl⟩
 exact⟨_,rfl,Below.refl _ _,S,fun _ h=>h,fun _ h=>.inl h,.int _ _⟩
set_option maxRecDepth 100000 in
theorem ahP(ad:Addr)(n c:Nat)(news:List Value)(w:World)(hl:news.length=n*1)(hn:n<=maxLen)(hbig:n*8<=140737488355328)
 (hc:∀j u,news[j]?=some u->w.cell? (ad.add j)=some u) (h1:∀u∈news,u.oneCell'=true):
 Calls Tryz.prog 310 #[.slice (some ad) n c] w fun e w'=>∃v',e=.returned v'/\w'.ownsRow w.heap.size 2 1 v' n news/\Below w.heap.size w w':=by
 have A:Aside (∀j u,news[j]?=some u->w.cell? (ad.add j)=some u):=hc;clear hc;have q22:∀(w:World)(a:Option Addr)(n c n' c':Nat),(binOp .eql 206 (.slice a n c) (.slice none n' c')).run Tryz.prog w=.ok (.bool a.isNone) w:=fun w a n c n' c'=>Lib.run_eql_slice_nil w _ _ a n c n' c' Tryz.underlying206
 go_enter Tryz.func310,Tryz.ntmps310
 go_wp2_with (at_builtin;refine wpList_append_own _ rfl _ _ 206 rfl w.heap.size 2 Tryz.t2 (.int .i64 0) 1 8 Tryz.underlying206 (by kernel_rfl) (by kernel_rfl) (by kernel_rfl) (by kernel_rfl) (by kernel_rfl) (by decide) _ _ _ rfl (World.ownsRow_made w #[] 0 (bY _) (abo _) (by simp)) ad n c news rfl ?qc1 ?qc2 ?qc3 ?qc4 ?qc5 ?qc6 ?_)
 case qc1=>exact hl
 case qc2=>
  intro j u hj;exact Lib.cell?_alloc_some _ (A.out j u hj)
 case qc3=>exact h1
 case qc4=>rw[dI];exact hn
 case qc5=>rw[dI];exact hbig
 case qc6=>simp
 intro v' w1 hown hgrow hnil
 go_wp2
 go_ret
 refine⟨v',rfl,by simpa using hown,?_⟩;exact((Below.refl _ w).alloc (bY _) _).grown hgrow (by simp) (by intro k hk;simp[Value.ownBlock]at hk;omega)
set_option maxRecDepth 100000 in
theorem azr(n c:Nat)(w:World):Calls Tryz.prog 310 #[.slice none n c] w fun e w'=>e=.returned (.slice none 0 0)/\w'=w:=by
 have q22:∀(w:World)(a:Option Addr)(n c n' c':Nat),(binOp .eql 206 (.slice a n c) (.slice none n' c')).run Tryz.prog w=.ok (.bool a.isNone) w:=fun w a n c n' c'=>Lib.run_eql_slice_nil w _ _ a n c n' c' Tryz.underlying206
 go_enter Tryz.func310,Tryz.ntmps310
 go_wp2
 go_ret
 exact⟨rfl,rfl⟩
theorem azs(l:List Int)(hl:l.length<=1099511627776):RC Go.V.D Tryz.prog 310 [.ah U.i64 l] [] (.sl 0) [.arr U.i64 l]:=by
 refine azt (T:=2) (c:=U.i64) (l:=l) ahQ ⟨Tryz.f310,Tryz.func310,by kernel_rfl,by kernel_rfl⟩ (fun t h=>by cases h) fun S w vals hS ha=>?_
 obtain⟨X,rfl,hX⟩:=wN (x:=.ah U.i64 l) ha;rcases azu ahQ hS hX with⟨a,cap,rfl,rfl⟩|⟨b,off,cap,rfl,hb,hc⟩
 ·cases a with
  |none=>
   refine(azr 0 cap w).mono ?_
   rintro e w' ⟨rfl,rfl⟩
   exact⟨_,rfl,World.ownsRow_nil _ _ _ _,Below.refl _ _⟩
  |some ad=>exact ahP ad 0 cap [] w rfl (abo _) (by omega) (fun j u h=>by simp at h) (fun u h=>by simp at h)
 ·refine ahP ⟨b,off,none⟩ l.length cap (l.map fun n=>Value.int .i64 n) w (by simp) (by have h:maxLen=9223372036854775807:=(by decide);omega) (by omega) (fun j u h=>?_) (fun u h=>?_)
  ·rw[f5,eN]at h;obtain⟨y,hy,rfl⟩:=h;rw[Addr.add_lit];exact hc j y hy
  ·obtain⟨y,-,rfl⟩:=jB.1 h;rfl
theorem azv:(N2 M.tc).Ok Go.V.D Tryz.prog:=by
 intro x r hr;obtain⟨hl,hv⟩:x.1.1.length<=1099511627776/\x.1.1=r:=by
  change M.tc x.1.1=some r at hr;unfold M.tc at hr;by_cases h:List.length (α:=Int) x.1.1<=1099511627776
  ·simp only[h,bg,aA]at hr;exact⟨h,f6 hr⟩
  ·simp[h]at hr
 subst hv;exact azs x.1.1 hl
end fD
end Go.Proofs
theorem api:(M6 M.strings_IndexByte).Ok Go.V.D Go.Proofs.Tryz.prog:=Go.Proofs.fD.azq
theorem aug:(N2 M.tc).Ok Go.V.D Go.Proofs.Tryz.prog:=Go.Proofs.fD.azv
