/-
  The contract of slices.Clone at a struct of 4 integers.
-/
import Derived.Test.YtgonjnjoklpegaaGreatDoorXOHdM
import Derived.Shelf.Lay
import Derived.Shelf.Small.Strs
import Derived.Ground.NamesProg
import Derived.OwnWalk
import Derived.Deep.LoopGhost
import Derived.Lib.SliceRun
import Derived.Shelf.RegionOpenPlain
import Derived.WalkKit
import Derived.Test.YtgonjnjoklpegaaGreatDoorProg
set_option linter.unusedVariables false
def M.mP(l:List M.ay):Option (List M.ay):=bif decide (l.length<=1048576)then some l else none
noncomputable def Av(m:List M.ay->Option (List M.ay)):Go.V.aK Go.V.K:={f:=26,sh:=⟨[.ai Go.V.U.Note],[]⟩,R:=List M.ay,run:=fun x=>m x.1.1,dflt:=default,out:=fun r=>(Go.V.Sh.enc Go.V.D (.own 0) (),Go.V.aB.encs Go.V.D [.arr Go.V.U.Note] (r,()))}
namespace Go.Proofs
open Go.RowKit Go.Shelf Go.V
namespace G9
theorem many:rl U.Note (fun x=>[.int .i64 x.Task,.int .i64 x.Kind,.int .i64 x.A,.int .i64 x.B]):=⟨by decide,fun x=>rfl,fun x ρ S w=>.cons (.int _ _) (.cons (.int _ _) (.cons (.int _ _) (.cons (.int _ _) .nil))),fun x ρ S w vs h=>by
 obtain⟨u0,r0,rfl,g0,h⟩:=h.eR;obtain⟨u1,r1,rfl,g1,h⟩:=h.eR;obtain⟨u2,r2,rfl,g2,h⟩:=h.eR;obtain⟨u3,r3,rfl,g3,h⟩:=h.eR;rw[h.lH,dG g0,dG g1,dG g2,dG g3];rfl,fun x u hu=>by
 simp only[eJ,List.not_mem_nil,iY]at hu;rcases hu with rfl|rfl|rfl|rfl<;>rfl⟩
set_option maxRecDepth 100000 in
theorem Ha(ad:Addr)(n c:Nat)(news:List Value)(w:World)(hl:news.length=n*4)(hn:n<=maxLen)(hbig:n*32<=140737488355328)
 (hc:∀j u,news[j]?=some u->w.cell? (ad.add j)=some u) (h1:∀u∈news,u.oneCell'=true):
 Calls Tryz.prog 26 #[.slice (some ad) n c] w fun e w'=>∃v',e=.returned v'/\w'.ownsRow w.heap.size 51 4 v' n news/\Below w.heap.size w w':=by
 have A:Aside (∀j u,news[j]?=some u->w.cell? (ad.add j)=some u):=hc;clear hc;have q22:∀(w:World)(a:Option Addr)(n c n' c':Nat),(binOp .eql 30 (.slice a n c) (.slice none n' c')).run Tryz.prog w=.ok (.bool a.isNone) w:=fun w a n c n' c'=>Lib.run_eql_slice_nil w _ _ a n c n' c' Tryz.underlying30
 go_enter Tryz.func26,Tryz.ntmps26
 go_wp2_with (at_builtin;refine wpList_append_own _ rfl _ _ 30 rfl w.heap.size 51 Tryz.t51 (.agg #[.int .i64 0,.int .i64 0,.int .i64 0,.int .i64 0]) 4 32 Tryz.underlying30 (by kernel_rfl) (by kernel_rfl) (by kernel_rfl) (by kernel_rfl) (by kernel_rfl) (by decide) _ _ _ rfl (World.ownsRow_made w #[] 0 (bu _) (ew _) (by simp)) ad n c news rfl ?qc1 ?qc2 ?qc3 ?qc4 ?qc5 ?qc6 ?_)
 case qc1=>exact hl
 case qc2=>
  intro j u hj;exact Lib.cell?_alloc_some _ (A.out j u hj)
 case qc3=>exact h1
 case qc4=>rw[dB];exact hn
 case qc5=>rw[dB];exact hbig
 case qc6=>simp
 intro v' w1 hown hgrow hnil
 go_wp2
 go_ret
 refine⟨v',rfl,by simpa using hown,?_⟩;exact((Below.refl _ w).alloc (bu _) _).grown hgrow (by simp) (by intro k hk;simp[Value.ownBlock]at hk;omega)
set_option maxRecDepth 100000 in
theorem Ud(n c:Nat)(w:World):Calls Tryz.prog 26 #[.slice none n c] w fun e w'=>e=.returned (.slice none 0 0)/\w'=w:=by
 have q22:∀(w:World)(a:Option Addr)(n c n' c':Nat),(binOp .eql 30 (.slice a n c) (.slice none n' c')).run Tryz.prog w=.ok (.bool a.isNone) w:=fun w a n c n' c'=>Lib.run_eql_slice_nil w _ _ a n c n' c' Tryz.underlying30
 go_enter Tryz.func26,Tryz.ntmps26
 go_wp2
 go_ret
 exact⟨rfl,rfl⟩
theorem Ue(l:List M.ay)(hl:l.length<=1048576):RC Go.V.D Tryz.prog 26 [.ai U.Note l] [] (.sl 0) [.arr U.Note l]:=by
 refine Uf (T:=51) (c:=U.Note) (l:=l) many ⟨Tryz.f26,Tryz.func26,by kernel_rfl,by kernel_rfl⟩ (fun t h=>by cases h) fun S w vals hS ha=>?_
 obtain⟨X,rfl,hX⟩:=Au (x:=.ai U.Note l) ha;rcases Ug many hS hX with⟨a,cap,rfl,rfl⟩|⟨b,off,cap,rfl,hb,hc⟩
 ·cases a with
  |none=>
   refine(Ud 0 cap w).mono ?_
   rintro e w' ⟨rfl,rfl⟩
   exact⟨_,rfl,World.ownsRow_nil _ _ _ _,Below.refl _ _⟩
  |some ad=>exact Ha ad 0 cap [] w rfl (ew _) (by omega) (fun j u h=>by simp at h) (fun u h=>by simp at h)
 ·have hm:maxLen=9223372036854775807:=by decide
  refine Ha ⟨b,off,none⟩ l.length cap _ w (Aw many l) (by omega) (by omega) (fun j u h=>?_) (fun u h=>?_)
  ·rw[Addr.add_lit];exact hc j u h
  ·obtain⟨y,hy,hu⟩:=List.mem_flatMap.1 h;exact many.one y u hu
theorem Uh:(Av M.mP).Ok Go.V.D Tryz.prog:=by
 intro x r hr;obtain⟨hl,hv⟩:x.1.1.length<=1048576/\x.1.1=r:=by
  change M.mP x.1.1=some r at hr;unfold M.mP at hr;by_cases h:List.length (α:=M.ay) x.1.1<=1048576
  ·simp only[h,cz,aT]at hr;exact⟨h,eQ hr⟩
  ·simp[h]at hr
 subst hv;exact Ue x.1.1 hl
end G9
end Go.Proofs
theorem Ui:(Av M.mP).Ok Go.V.D Go.Proofs.Tryz.prog:=Go.Proofs.G9.Uh
