/-
  The contract of slices.Clone at int64.
-/
import Derived.Test.YtpablcpgdagijaaGreatXChandA
import Derived.Shelf.Lay
import Derived.Shelf.Small.Strs
import Derived.Ground.NamesProg
import Derived.OwnWalk
import Derived.Deep.LoopGhost
import Derived.Lib.SliceRun
import Derived.Shelf.RegionOpenPlain
import Derived.WalkKit
import Derived.Test.YtpablcpgdagijaaGreatProg
set_option linter.unusedVariables false
noncomputable def uM(m:List Int->Option (List Int)):Go.V.aF Go.V.K:={f:=64,sh:=⟨[.au Go.V.U.i64],[]⟩,R:=List Int,run:=fun x=>m x.1.1,dflt:=default,out:=fun r=>(Go.V.Sh.enc Go.V.D (.own 0) (),Go.V.az.encs Go.V.D [.arr Go.V.U.i64] (r,()))}
namespace Go.Proofs
open Go.RowKit Go.Shelf Go.V
namespace EN
set_option maxHeartbeats 2000000 in
set_option maxRecDepth 100000 in
theorem kd(ad:Addr)(n c:Nat)(news:List Value)(w:World)(hl:news.length=n*1)(hn:n<=maxLen)(hbig:n*8<=140737488355328)
 (hc:∀j u,news[j]?=some u->w.cell? (ad.add j)=some u) (h1:∀u∈news,u.oneCell'=true):
 Calls Tryz.prog 64 #[.slice (some ad) n c] w fun e w'=>∃v',e=.returned v'/\w'.ownsRow w.heap.size 2 1 v' n news/\Below w.heap.size w w':=by
 have A:Aside (∀j u,news[j]?=some u->w.cell? (ad.add j)=some u):=hc;clear hc;have q22:∀(w:World)(a:Option Addr)(n c n' c':Nat),(binOp .eql 27 (.slice a n c) (.slice none n' c')).run Tryz.prog w=.ok (.bool a.isNone) w:=fun w a n c n' c'=>Lib.run_eql_slice_nil w _ _ a n c n' c' Tryz.underlying27
 go_enter Tryz.func64,Tryz.ntmps64
 go_wp2_with (at_builtin;refine wpList_append_own _ rfl _ _ 27 rfl w.heap.size 2 Tryz.t2 (.int .i64 0) 1 8 Tryz.underlying27 (by kernel_rfl) (by kernel_rfl) (by kernel_rfl) (by kernel_rfl) (by kernel_rfl) (by decide) _ _ _ rfl (World.ownsRow_made w #[] 0 (Nat.le_refl _) (Nat.zero_le _) (by simp)) ad n c news rfl ?qc1 ?qc2 ?qc3 ?qc4 ?qc5 ?qc6 ?_)
 case qc1=>exact hl
 case qc2=>
  intro j u hj;exact Lib.cell?_alloc_some _ (A.out j u hj)
 case qc3=>exact h1
 case qc4=>rw[Nat.zero_add];exact hn
 case qc5=>rw[Nat.zero_add];exact hbig
 case qc6=>simp
 intro v' w1 hown hgrow hnil
 go_wp2
 go_ret
 refine⟨v',rfl,by simpa using hown,?_⟩;exact((Below.refl _ w).alloc (Nat.le_refl _) _).grown hgrow (by simp) (by intro k hk;simp[Value.ownBlock]at hk;omega)
set_option maxHeartbeats 1000000 in
set_option maxRecDepth 100000 in
theorem sB(n c:Nat)(w:World):Calls Tryz.prog 64 #[.slice none n c] w fun e w'=>e=.returned (.slice none 0 0)/\w'=w:=by
 have q22:∀(w:World)(a:Option Addr)(n c n' c':Nat),(binOp .eql 27 (.slice a n c) (.slice none n' c')).run Tryz.prog w=.ok (.bool a.isNone) w:=fun w a n c n' c'=>Lib.run_eql_slice_nil w _ _ a n c n' c' Tryz.underlying27
 go_enter Tryz.func64,Tryz.ntmps64
 go_wp2
 go_ret
 exact⟨rfl,rfl⟩
theorem sD(l:List Int)(hl:l.length<=1099511627776):RC Go.V.D Tryz.prog 64 [.au U.i64 l] [] (.sl 0) [.arr U.i64 l]:=by
 refine Qv (T:=2) (c:=U.i64) (l:=l) EO ⟨Tryz.f64,Tryz.func64,by kernel_rfl,by kernel_rfl⟩ (fun t h=>by cases h) fun S w vals hS ha=>?_
 obtain⟨X,rfl,hX⟩:=x9 (x:=.au U.i64 l) ha;rcases Qw EO hS hX with⟨a,cap,rfl,rfl⟩|⟨b,off,cap,rfl,hb,hc⟩
 ·cases a with
  |none=>
   refine(sB 0 cap w).mono ?_
   rintro e w' ⟨rfl,rfl⟩
   exact⟨_,rfl,World.ownsRow_nil _ _ _ _,Below.refl _ _⟩
  |some ad=>exact kd ad 0 cap [] w rfl (Nat.zero_le _) (by omega) (fun j u h=>by simp at h) (fun u h=>by simp at h)
 ·refine kd ⟨b,off,none⟩ l.length cap (l.map fun n=>Value.int .i64 n) w (by simp) (by have h:maxLen=9223372036854775807:=(by decide);omega) (by omega) (fun j u h=>?_) (fun u h=>?_)
  ·rw[List.getElem?_map,Option.map_eq_some_iff]at h;obtain⟨y,hy,rfl⟩:=h;rw[Addr.add_lit];exact hc j y hy
  ·obtain⟨y,-,rfl⟩:=List.mem_map.1 h;rfl
theorem sE:(uM M.gQ).Ok Go.V.D Tryz.prog:=by
 intro x r hr;obtain⟨hl,hv⟩:x.1.1.length<=1099511627776/\x.1.1=r:=by
  change M.gQ x.1.1=some r at hr;unfold M.gQ at hr;by_cases h:List.length (α:=Int) x.1.1<=1099511627776
  ·simp only[h,decide_true,cond_true]at hr;exact⟨h,Option.some.inj hr⟩
  ·simp[h]at hr
 subst hv;exact sD x.1.1 hl
end EN
end Go.Proofs
theorem EP:(uM M.gQ).Ok Go.V.D Go.Proofs.Tryz.prog:=Go.Proofs.EN.sE
