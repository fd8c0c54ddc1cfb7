/-
  The contract of slices.Clone at a struct of 3 integers.
-/
import Derived.Test.YtpablcpgdagijaaGreatXCHdM
import Derived.Shelf.Lay
import Derived.Shelf.Small.Strs
import Derived.Ground.NamesProg
import Derived.OwnWalk
import Derived.Deep.LoopGhost
import Derived.Lib.SliceRun
import Derived.Shelf.RegionOpenPlain
import Derived.WalkKit
import Derived.Test.YtpablcpgdagijaaGreatProg
set_option linter.unusedVariables false
noncomputable def yb(m:List M.ai->Option (List M.ai)):Go.V.aF Go.V.K:={f:=110,sh:=⟨[.au Go.V.U.aC],[]⟩,R:=List M.ai,run:=fun x=>m x.1.1,dflt:=default,out:=fun r=>(Go.V.Sh.enc Go.V.D (.own 0) (),Go.V.az.encs Go.V.D [.arr Go.V.U.aC] (r,()))}
namespace Go.Proofs
open Go.RowKit Go.Shelf Go.V
namespace EU
theorem many:lZ U.aC (fun x=>[.int .i64 x.Id,.int .i64 x.bI,.int .i64 x.Rep]):=⟨by decide,fun x=>rfl,fun x ρ S w=>.cons (.int _ _) (.cons (.int _ _) (.cons (.int _ _) .nil)),fun x ρ S w vs h=>by
 obtain⟨u0,r0,rfl,g0,h⟩:=h.cS;obtain⟨u1,r1,rfl,g1,h⟩:=h.cS;obtain⟨u2,r2,rfl,g2,h⟩:=h.cS;rw[h.gR,cg g0,cg g1,cg g2];rfl,fun x u hu=>by
 simp only[List.mem_cons,List.not_mem_nil,or_false]at hu;rcases hu with rfl|rfl|rfl<;>rfl⟩
set_option maxHeartbeats 2000000 in
set_option maxRecDepth 100000 in
theorem kd(ad:Addr)(n c:Nat)(news:List Value)(w:World)(hl:news.length=n*3)(hn:n<=maxLen)(hbig:n*24<=140737488355328)
 (hc:∀j u,news[j]?=some u->w.cell? (ad.add j)=some u) (h1:∀u∈news,u.oneCell'=true):
 Calls Tryz.prog 110 #[.slice (some ad) n c] w fun e w'=>∃v',e=.returned v'/\w'.ownsRow w.heap.size 127 3 v' n news/\Below w.heap.size w w':=by
 have A:Aside (∀j u,news[j]?=some u->w.cell? (ad.add j)=some u):=hc;clear hc;have q22:∀(w:World)(a:Option Addr)(n c n' c':Nat),(binOp .eql 34 (.slice a n c) (.slice none n' c')).run Tryz.prog w=.ok (.bool a.isNone) w:=fun w a n c n' c'=>Lib.run_eql_slice_nil w _ _ a n c n' c' Tryz.underlying34
 go_enter Tryz.func110,Tryz.ntmps110
 go_wp2_with (at_builtin;refine wpList_append_own _ rfl _ _ 34 rfl w.heap.size 127 Tryz.t127 (.agg #[.int .i64 0,.int .i64 0,.int .i64 0]) 3 24 Tryz.underlying34 (by kernel_rfl) (by kernel_rfl) (by kernel_rfl) (by kernel_rfl) (by kernel_rfl) (by decide) _ _ _ rfl (World.ownsRow_made w #[] 0 (Nat.le_refl _) (Nat.zero_le _) (by simp)) ad n c news rfl ?qc1 ?qc2 ?qc3 ?qc4 ?qc5 ?qc6 ?_)
 case qc1=>exact hl
 case qc2=>
  intro j u hj;exact Lib.cell?_alloc_some _ (A.out j u hj)
 case qc3=>exact h1
 case qc4=>rw[Nat.zero_add];exact hn
 case qc5=>rw[Nat.zero_add];exact hbig
 case qc6=>simp
 intro v' w1 hown hgrow hnil
 go_wp2
 go_ret
 refine⟨v',rfl,by simpa using hown,?_⟩;exact((Below.refl _ w).alloc (Nat.le_refl _) _).grown hgrow (by simp) (by intro k hk;simp[Value.ownBlock]at hk;omega)
set_option maxHeartbeats 1000000 in
set_option maxRecDepth 100000 in
theorem sB(n c:Nat)(w:World):Calls Tryz.prog 110 #[.slice none n c] w fun e w'=>e=.returned (.slice none 0 0)/\w'=w:=by
 have q22:∀(w:World)(a:Option Addr)(n c n' c':Nat),(binOp .eql 34 (.slice a n c) (.slice none n' c')).run Tryz.prog w=.ok (.bool a.isNone) w:=fun w a n c n' c'=>Lib.run_eql_slice_nil w _ _ a n c n' c' Tryz.underlying34
 go_enter Tryz.func110,Tryz.ntmps110
 go_wp2
 go_ret
 exact⟨rfl,rfl⟩
theorem sD(l:List M.ai)(hl:l.length<=1048576):RC Go.V.D Tryz.prog 110 [.au U.aC l] [] (.sl 0) [.arr U.aC l]:=by
 refine ES (T:=127) (c:=U.aC) (l:=l) many ⟨Tryz.f110,Tryz.func110,by kernel_rfl,by kernel_rfl⟩ (fun t h=>by cases h) fun S w vals hS ha=>?_
 obtain⟨X,rfl,hX⟩:=x9 (x:=.au U.aC l) ha;rcases ET many hS hX with⟨a,cap,rfl,rfl⟩|⟨b,off,cap,rfl,hb,hc⟩
 ·cases a with
  |none=>
   refine(sB 0 cap w).mono ?_
   rintro e w' ⟨rfl,rfl⟩
   exact⟨_,rfl,World.ownsRow_nil _ _ _ _,Below.refl _ _⟩
  |some ad=>exact kd ad 0 cap [] w rfl (Nat.zero_le _) (by omega) (fun j u h=>by simp at h) (fun u h=>by simp at h)
 ·have hm:maxLen=9223372036854775807:=by decide
  refine kd ⟨b,off,none⟩ l.length cap _ w (uN many l) (by omega) (by omega) (fun j u h=>?_) (fun u h=>?_)
  ·rw[Addr.add_lit];exact hc j u h
  ·obtain⟨y,hy,hu⟩:=List.mem_flatMap.1 h;exact many.one y u hu
theorem sE:(yb M.kf).Ok Go.V.D Tryz.prog:=by
 intro x r hr;obtain⟨hl,hv⟩:x.1.1.length<=1048576/\x.1.1=r:=by
  change M.kf x.1.1=some r at hr;unfold M.kf at hr;by_cases h:List.length (α:=M.ai) x.1.1<=1048576
  ·simp only[h,decide_true,cond_true]at hr;exact⟨h,Option.some.inj hr⟩
  ·simp[h]at hr
 subst hv;exact sD x.1.1 hl
end EU
end Go.Proofs
theorem Qy:(yb M.kf).Ok Go.V.D Go.Proofs.Tryz.prog:=Go.Proofs.EU.sE
