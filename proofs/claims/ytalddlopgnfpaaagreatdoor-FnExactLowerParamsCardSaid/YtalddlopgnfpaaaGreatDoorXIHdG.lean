/-
  The contract of slices.Clone at a struct of 2 integers.
-/
import Derived.Test.YtalddlopgnfpaaaGreatDoorXIHdM
import Derived.Test.YtalddlopgnfpaaaGreatDoorXIhandA
import Derived.Shelf.Lay
import Derived.Shelf.Small.Strs
import Derived.Ground.NamesProg
import Derived.OwnWalk
import Derived.Deep.LoopGhost
import Derived.Lib.SliceRun
import Derived.Shelf.RegionOpenPlain
import Derived.WalkKit
import Derived.Test.YtalddlopgnfpaaaGreatDoorProg
import Derived.Lib.Walk
import Derived.Lib.AppendZerosOnto
set_option linter.unusedVariables false
noncomputable def DV(m:List M.af->Option (List M.af)):Go.V.aC Go.V.K:={f:=94,sh:=⟨[.aj Go.V.U.Block],[]⟩,R:=List M.af,run:=fun x=>m x.1.1,dflt:=default,out:=fun r=>(Go.V.Sh.enc Go.V.D (.own 0) (),Go.V.az.encs Go.V.D [.arr Go.V.U.Block] (r,()))}
namespace Go.Proofs
open Go.RowKit Go.Shelf Go.V
namespace AO
theorem many:yh U.Block (fun x=>[.int .i64 x.At,.int .i64 x.Size]):=⟨by decide,fun x=>rfl,fun x ρ S w=>.cons (.int _ _) (.cons (.int _ _) .nil),fun x ρ S w vs h=>by
 obtain⟨u0,r0,rfl,g0,h⟩:=h.fX;obtain⟨u1,r1,rfl,g1,h⟩:=h.fX;rw[h.mV,ee g0,ee g1];rfl,fun x u hu=>by
 simp only[dY,JL,kG]at hu;rcases hu with rfl|rfl<;>rfl⟩
set_option maxRecDepth 100000 in
theorem AM(ad:Addr)(n c:Nat)(news:List Value)(w:World)(hl:news.length=n*2)(hn:n<=maxLen)(hbig:n*16<=140737488355328)
 (hc:∀j u,news[j]?=some u->w.cell? (ad.add j)=some u) (h1:∀u∈news,u.oneCell'=true):
 Calls Tryz.prog 94 #[.slice (some ad) n c] w fun e w'=>∃v',e=.returned v'/\w'.ownsRow w.heap.size 122 2 v' n news/\Below w.heap.size w w':=by
 have A:Aside (∀j u,news[j]?=some u->w.cell? (ad.add j)=some u):=hc;clear hc;have q22:∀(w:World)(a:Option Addr)(n c n' c':Nat),(binOp .eql 35 (.slice a n c) (.slice none n' c')).run Tryz.prog w=.ok (.bool a.isNone) w:=fun w a n c n' c'=>Lib.run_eql_slice_nil w _ _ a n c n' c' Tryz.underlying35
 go_enter Tryz.func94,Tryz.ntmps94
 go_wp2_with (at_builtin;refine wpList_append_own _ rfl _ _ 35 rfl w.heap.size 122 Tryz.t122 (.agg #[.int .i64 0,.int .i64 0]) 2 16 Tryz.underlying35 (by kernel_rfl) (by kernel_rfl) (by kernel_rfl) (by kernel_rfl) (by kernel_rfl) (by decide) _ _ _ rfl (World.ownsRow_made w #[] 0 (bg _) (cU _) (by simp)) ad n c news rfl ?qc1 ?qc2 ?qc3 ?qc4 ?qc5 ?qc6 ?_)
 case qc1=>exact hl
 case qc2=>
  intro j u hj;exact Lib.cell?_alloc_some _ (A.out j u hj)
 case qc3=>exact h1
 case qc4=>rw[dD];exact hn
 case qc5=>rw[dD];exact hbig
 case qc6=>simp
 intro v' w1 hown hgrow hnil
 go_wp2
 go_ret
 refine⟨v',rfl,by simpa using hown,?_⟩;exact((Below.refl _ w).alloc (bg _) _).grown hgrow (by simp) (by intro k hk;simp[Value.ownBlock]at hk;omega)
set_option maxRecDepth 100000 in
theorem JF(n c:Nat)(w:World):Calls Tryz.prog 94 #[.slice none n c] w fun e w'=>e=.returned (.slice none 0 0)/\w'=w:=by
 have q22:∀(w:World)(a:Option Addr)(n c n' c':Nat),(binOp .eql 35 (.slice a n c) (.slice none n' c')).run Tryz.prog w=.ok (.bool a.isNone) w:=fun w a n c n' c'=>Lib.run_eql_slice_nil w _ _ a n c n' c' Tryz.underlying35
 go_enter Tryz.func94,Tryz.ntmps94
 go_wp2
 go_ret
 exact⟨rfl,rfl⟩
theorem JG(l:List M.af)(hl:l.length<=1048576):RC Go.V.D Tryz.prog 94 [.aj U.Block l] [] (.sl 0) [.arr U.Block l]:=by
 refine WW (T:=122) (c:=U.Block) (l:=l) many ⟨Tryz.f94,Tryz.func94,by kernel_rfl,by kernel_rfl⟩ (fun t h=>by cases h) fun S w vals hS ha=>?_
 obtain⟨X,rfl,hX⟩:=AN (x:=.aj U.Block l) ha;rcases ajS many hS hX with⟨a,cap,rfl,rfl⟩|⟨b,off,cap,rfl,hb,hc⟩
 ·cases a with
  |none=>
   refine(JF 0 cap w).mono ?_
   rintro e w' ⟨rfl,rfl⟩
   exact⟨_,rfl,World.ownsRow_nil _ _ _ _,Below.refl _ _⟩
  |some ad=>exact AM ad 0 cap [] w rfl (cU _) (by omega) (fun j u h=>by simp at h) (fun u h=>by simp at h)
 ·have hm:maxLen=9223372036854775807:=by decide
  refine AM ⟨b,off,none⟩ l.length cap _ w (JM many l) (by omega) (by omega) (fun j u h=>?_) (fun u h=>?_)
  ·rw[Addr.add_lit];exact hc j u h
  ·obtain⟨y,hy,hu⟩:=List.mem_flatMap.1 h;exact many.one y u hu
theorem WT:(DV M.mN).Ok Go.V.D Tryz.prog:=by
 intro x r hr;obtain⟨hl,hv⟩:x.1.1.length<=1048576/\x.1.1=r:=by
  change M.mN x.1.1=some r at hr;unfold M.mN at hr;by_cases h:List.length (α:=M.af) x.1.1<=1048576
  ·simp only[h,cn,aA]at hr;exact⟨h,ft hr⟩
  ·simp[h]at hr
 subst hv;exact JG x.1.1 hl
end AO
end Go.Proofs
theorem Ta:(DV M.mN).Ok Go.V.D Go.Proofs.Tryz.prog:=Go.Proofs.AO.WT
noncomputable def IH(m:Int->Option (List M.af)):Go.V.aC Go.V.K:={f:=180,sh:=⟨[.cB,.int .i64],[]⟩,R:=List M.af,run:=fun x=>m x.1.2.1,dflt:=default,out:=fun r=>(Go.V.Sh.enc Go.V.D (.own 0) (),Go.V.az.encs Go.V.D [.arr Go.V.U.Block] (r,()))}
namespace Go.Proofs
open Go.RowKit Go.Shelf Go.V
namespace AO
set_option maxRecDepth 100000 in
theorem ajT(n:Nat)(w:World)(h0:0<n)(hn:n<=1048576):
 Calls Tryz.prog 180 #[.slice none 0 0,.int .i64 n] w fun e w'=>∃cap,e=.returned (.slice (some ⟨w.heap.size,0,none⟩) 0 cap)/\cap=grownCap w n 0 122/\
  w'=w.drew.alloc (.cells (#[]++Builtin.zeroCells #[.int .i64 0,.int .i64 0] n++Builtin.zeroCells #[.int .i64 0,.int .i64 0] (grownCap w n 0 122-n)) 122):=by
 have h1:¬((n:Int)<0):=by omega
 have h2:wrap64 (((0:Nat):Int)-((0:Nat):Int))=0:=by unfold wrap64;omega
 have h3:wrap64 ((n:Int)-0)=(n:Int):=by unfold wrap64;omega
 have h4:(n:Int)>0:=by omega
 have hrz:∀ty,(Builtin.append_ #[35,3] ty #[.slice none 0 0,.int .i64 (n:Int)]).run Tryz.prog w=
  .ok (.slice (some ⟨w.heap.size,0,none⟩) n (grownCap w n 0 122)) (w.drew.alloc (.cells (#[]++Builtin.zeroCells #[.int .i64 0,.int .i64 0] n++Builtin.zeroCells #[.int .i64 0,.int .i64 0] (grownCap w n 0 122-n)) 122)):=fun ty=>by
  have hfit:Builtin.nextslicecap n 0*16<=281474976710656:=growslice_fits h0 (by omega);have h:=Lib.run_append_grow_zeros (P:=Tryz.prog) w 35 3 ty 122 Tryz.t122 (.agg #[.int .i64 0,.int .i64 0]) .i64 .i64 Tryz.underlying35 Tryz.underlying3 (by kernel_rfl) (by kernel_rfl) none 0 0 [] (run_firstCells_none w.drew _ 0 0 0) n h0 (by decide) (by omega) (by omega)
   (show n*16<=_ by omega) (by rw[dD];exact hfit)
  rw[dD]at h;exact h
 have hGn:n<=grownCap w n 0 122:=grownCap_ge w _ _ _;have hG63:grownCap w n 0 122<=9223372036854775807:=by
  have:=grownCap_le_maxLen w n 0 122 (by unfold maxLen;omega);unfold maxLen at this;omega
 generalize hG:grownCap w n 0 122=G at hrz hGn hG63⊢;clear hG
 go_enter Tryz.func180,Tryz.ntmps180
 go_wp2_with (at_builtin;refine Lib.wpList_append_run _ rfl _ _ _ _ rfl _ _ rfl rfl _ _ (hrz _) ?_)
 all_goals (go_ret;exact⟨_,rfl,rfl,rfl⟩)
set_option maxRecDepth 100000 in
theorem ajU(w:World):Calls Tryz.prog 180 #[.slice none 0 0,.int .i64 0] w fun e w'=>e=.returned (.slice none 0 0)/\w'=w:=by
 have h2:wrap64 (((0:Nat):Int)-((0:Nat):Int))=0:=by unfold wrap64;omega
 have h3:wrap64 ((0:Int)-0)=0:=by unfold wrap64;omega
 go_enter Tryz.func180,Tryz.ntmps180
 go_wp2
 go_ret
 exact⟨rfl,rfl⟩
theorem ajV(n:Nat)(hn:n<=1048576):RC Go.V.D Tryz.prog 180 [.cB,.int .i64 n] [] (.sl 0) [.arr U.Block []]:=by
 refine WW (T:=122) (c:=U.Block) (l:=[]) many ⟨Tryz.f180,Tryz.func180,by kernel_rfl,by kernel_rfl⟩ (fun t h=>by cases h) fun S w vals hS ha=>?_
 obtain⟨X,r1,rfl,hX,hr1⟩:=aS.fX (v:=.cB) (l:=[.int .i64 n]) ha;obtain⟨Y,r2,rfl,hY,hr2⟩:=hr1.fX;cases hX;rw[hr2.mV,ee hY];rcases jq n with h0|h0
 ·subst h0;refine(ajU w).mono ?_
  rintro e w' ⟨rfl,rfl⟩
  exact⟨_,rfl,World.ownsRow_nil _ _ _ _,Below.refl _ _⟩
 ·refine(ajT n w h0 hn).mono ?_
  rintro e w' ⟨cap,rfl,hc,rfl⟩
  have hGn:n<=grownCap w n 0 122:=grownCap_ge w _ _ _;have hG63:=grownCap_le_maxLen w n 0 122 (by unfold maxLen;omega);subst hc;refine⟨_,rfl,⟨by simp,.inr ⟨w.heap.size,_,(#[]++Builtin.zeroCells #[.int .i64 0,.int .i64 0] n++Builtin.zeroCells #[.int .i64 0,.int .i64 0] (grownCap w n 0 122-n)),rfl,bg _,?_,cU _,hG63,?_,by simp⟩⟩,?_⟩
  ·exact Array.getElem?_push_size
  ·rw[Array.size_append,Array.size_append,size_zeroCells,size_zeroCells,show K.sz U.Block=2 from rfl];simp;omega
  ·exact((Below.refl _ w).drew).alloc (bg _) _
theorem ajW:(IH M.rV).Ok Go.V.D Tryz.prog:=by
 intro x r hr;have key:∀k:Int,M.rV k=some r->RC Go.V.D Tryz.prog 180 [.cB,.int .i64 k] [] (.sl 0) [.arr U.Block r]:=fun k hk=>by
  unfold M.rV at hk;by_cases h:0<=k/\k<=1048576
  ·simp only[h.1,h.2,cn,aO,aA]at hk;obtain rfl:=ft hk;obtain⟨n,rfl⟩:=mW h.1;exact ajV n (by omega)
  ·have:(decide (0<=k)&&decide (k<=1048576))=false:=by
    rw[Bool.and_eq_false_iff,lE,lE];omega
   rw[this]at hk;cases hk
 exact key x.1.2.1 hr
end AO
end Go.Proofs
theorem agQ:(IH M.rV).Ok Go.V.D Go.Proofs.Tryz.prog:=Go.Proofs.AO.ajW
