/-
  The contract of slices.Repeat of a slice of one Type, at most 8 times.
-/
import Derived.Test.YtbeijibjinbgcaaGreatDoorXHhandA
import Derived.Shelf.Abstract
import Derived.Shelf.Bits.Mul64
import Derived.Ground.NamesProg
import Derived.OwnWalk
import Derived.Deep.LoopGhost
import Derived.Deep.RegionLaw
import Derived.Lib.SliceRun
import Derived.Lib.SlBuf
import Derived.Laws.IdiomCopy
import Derived.Shelf.RegionOpenPlain
import Derived.WalkKit
import Derived.Test.YtbeijibjinbgcaaGreatDoorProg
set_option linter.unusedVariables false
noncomputable def Dv(m:(List M.aa)->Int->Option (List M.aa)):Go.V.aI Go.V.K:={f:=183,sh:=⟨[.ah Go.V.U.Type,.int .i64],[]⟩,R:=List M.aa,run:=fun x=>m x.1.1 x.1.2.1,dflt:=default,out:=fun r=>(Go.V.Sh.enc Go.V.D (.ah Go.V.U.Type) r,Go.V.aB.encs Go.V.D [] ())}
namespace Go.Proofs
open Go.RowKit Go.Shelf Go.V Go.Lib
theorem Dw{a:Option Func}{x y:Func}(h:a=some x)(k:x=y):a=some y:=h.trans (fF some k)
def Tryz.laysMul_ren:Go.Shelf.Ren:=⟨fun|212=>200|263=>208|264=>209|n=>n,fun|46=>221|51=>238|146=>239|53=>237|148=>241|n=>n,fun|n=>n⟩
theorem Tryz.laysMul:Go.Proofs.Lays.n212 Tryz.prog Tryz.laysMul_ren:={
 mixed:=by kernel_rfl
 f212:=Dw Tryz.func200 (by kernel_rfl)
 f263:=Dw Tryz.func208 (by kernel_rfl)
 f264:=Dw Tryz.func209 (by kernel_rfl)
 t46:=Tryz.underlying221
 a46:=Tryz.isAgg221
 z46:=Tryz.sizeOf221
 v46:=Tryz.zeroValue221
 t51:=Tryz.underlying238
 a51:=Tryz.isAgg238
 z51:=Tryz.sizeOf238
 v51:=Tryz.zeroValue238
 t53:=Tryz.underlying237
 a53:=Tryz.isAgg237
 z53:=Tryz.sizeOf237
 v53:=Tryz.zeroValue237
 t146:=Tryz.underlying239
 a146:=Tryz.isAgg239
 z146:=Tryz.sizeOf239
 v146:=Tryz.zeroValue239
 t148:=Tryz.underlying241
 a148:=Tryz.isAgg241
 z148:=Tryz.sizeOf241
 v148:=Tryz.zeroValue241}
namespace jW
theorem Ks{P:Program}(w:World)(dT sT ty elem:TypeId)(d s:Addr)(dLen dCap sLen sCap sz:Nat)(cs:List Value)
 (hu:P.underlying dT=some (.slice elem)) (hs:(P.info? elem).map (·.size)=some sz) (hn:cs.length=Nat.min sLen dLen*sz)
 (hsrc:∀j v,cs[j]?=some v->w.cell? (s.add j)=some v) {w':World} (hst:(storeCells d cs 0).run P w=.ok () w'):
 (Builtin.copy_ #[dT,sT] ty #[.slice (some d) dLen dCap,.slice (some s) sLen sCap]).run P w=.ok (goInt (Nat.min sLen dLen)) w':=by
 have hl:=run_loadCells_list (P:=P) w s cs hsrc;cases hq:P.info? elem with
 |none=>simp[hq]at hs
 |some i=>
  have hi:i.size=sz:=by simpa [hq]using hs
  rw[hn]at hl;simp[Builtin.copy_,run_underlying hu,Builtin.lenOf,Builtin.firstCells,sizeOf,typeInfo,hq,hi,hl,hst]
theorem XZ(n:Nat)(hn:n<=8):IntKind.wrap .u64 (n:Int)=(n:Int):=by
 have h:∀m:Fin 9,IntKind.wrap .u64 ((m.val:Nat):Int)=((m.val:Nat):Int):=by decide
 exact h ⟨n,by omega⟩
theorem wrap_i64_small(k m:Nat)(hk:k<=8)(hm:m<=8):IntKind.wrap .i64 ((k:Int)+(m:Int))=((k+m:Nat):Int):=by
 have h:∀(a b:Fin 9),IntKind.wrap .i64 (((a.val:Nat):Int)+((b.val:Nat):Int))=((a.val+b.val:Nat):Int):=by decide
 exact h ⟨k,by omega⟩ ⟨m,by omega⟩
theorem X0(y:Nat)(hy:y<18446744073709551616)(w:World):
 Calls Tryz.prog 200 #[.int .u64 1,.int .u64 y] w fun e w'=>e=.returned (.tuple #[.int .u64 0,.int .u64 y])/\w'=w:=by
 have:=Any.bits_Mul Tryz.laysMul 1 y (by decide) hy w;have h1:1*y/18446744073709551616=0:=by omega
 have h2:1*y%18446744073709551616=y:=by omega
 rw[h1,h2]at this;exact this
def kA(W:World)(n k:Nat)(vs:List Value)(wx:World):Prop:=
 ∃arr,wx.heap[W.heap.size]?=some (.cells arr 93 (0,0))/\arr.size=n*4/\arr.toList.take (k*4)=(List.replicate k vs).flatten/\Below W.heap.size W wx
theorem nQ(k:Nat)(vs:List Value)(hl:vs.length=4):((List.replicate k vs).flatten).length=k*4:=by
 induction k with
 |zero=>rfl
 |succ k ih=>rw[List.replicate_succ,List.flatten_cons,dA,ih,hl];omega
theorem zp(k m:Nat)(vs:List Value):(List.replicate (k+m) vs).flatten=(List.replicate k vs).flatten++(List.replicate m vs).flatten:=by
 rw[<-List.replicate_append_replicate,List.flatten_append]
theorem X1(k:Nat)(vs:List Value)(h1:∀v∈vs,v.oneCell'=true):∀v∈(List.replicate k vs).flatten,v.oneCell'=true:=fun v hv=>by
 obtain⟨l,hl,hv⟩:=List.mem_flatten.1 hv;rw[(List.mem_replicate.1 hl).2]at hv;exact h1 v hv
theorem kA.store{P:Program}{W wx:World}{n k m:Nat}{vs:List Value}(h:kA W n k vs wx)(hl:vs.length=4)(h1:∀v∈vs,v.oneCell'=true)(hkm:k+m<=n):
 ∃w',(storeCells ⟨W.heap.size,k*4,none⟩ (List.replicate m vs).flatten 0).run P wx=.ok () w'/\kA W n (k+m) vs w':=by
 obtain⟨arr,h2,h3,h4,h5⟩:=h;have hm:=nQ m vs hl;obtain⟨w',vs',e1,e2,e3,e4,e5,e6,e7,e8⟩:=lv (P:=P) (b:=W.heap.size) (o:=k*4) (T:=93) (fr:=(0,0)) (List.replicate m vs).flatten 0 arr wx h2 (by rw[hm];omega) (fun k _ _ hh=>by have:=hh.2;simp at this) (X1 m vs h1);have hsz:vs'.size=arr.size:=by have:=fF List.length e3;rw[jX]at this;simpa using this
 refine⟨w',e1,vs',e2,by omega,?_,⟨e6.trans h5.os,e7.trans h5.tape,e8.trans h5.output,by rw[e4];exact h5.size,fun j hj=>(e5 j (by omega)).trans (h5.block j hj)⟩⟩;rw[zp,<-h4,e3,Nat.add_zero];apply kK;intro j;rw[ca];have hll:arr.toList.length=n*4:=by simpa using h3
 by_cases hj:j<(k+m)*4
 ·rw[aF hj,jb _ _ _ _ (by rw[hm,hll];omega)];by_cases hk:j<k*4
  ·rw[bF (by omega),cD (by rw[jY,hll];omega),ca,aF hk]
  ·rw[aF ⟨by omega,by rw[hm];omega⟩,cO (by rw[jY,hll];omega),jY,hll];congr 1;omega
 ·rw[bF hj,dV];rw[dA,jY,hll,hm];omega
theorem kA.read{W wx:World}{n k:Nat}{vs:List Value}(h:kA W n k vs wx)(hl:vs.length=4)(m:Nat)(hm:m<=k):∀j v,((List.replicate m vs).flatten)[j]?=some v->wx.cell? ((⟨W.heap.size,0,none⟩:Addr).add j)=some v:=by
 obtain⟨arr,h2,h3,h4,h5⟩:=h;intro j v hv;have hj:j<m*4:=by have:=(bB.1 hv).1;rwa [nQ m vs hl]at this
 have e:(arr.toList.take (k*4))[j]?=some v:=by
  rw[h4,show k=m+(k-m) by omega,zp,cD (by rw[nQ m vs hl];exact hj)];exact hv
 rw[ca,aF (by omega)]at e;rw[Addr.add_lit,kW];simp only[World.cell?,h2];simpa using e
theorem X2{P:Program}{ops:Array Oper}{o:Oper}{a:Act}{w:World}{K:Act->World->Prop}{Q:Exit->Act->World->Prop}{E:Prop}(hg:o.guard=none)(d s:Operand)(t t':TypeId)
 (hop:o.op=.call {callee:=.builtin .copy,args:= #[d,s],argTypes:= #[t,t']}) {v u:Value} (hd:a.eval d=v) (hs:a.eval s=u) {v':Value} {w':World}
 (hr:(Builtin.copy_ #[t,t'] o.type #[v,u]).run P w=.ok v' w') (hK:K (a.put o.dst v') w'):
 if Region.wanted o (yielded ops a.tmps)=true then Oper.wp P o a w K Q else E:=by
 have hw:Region.wanted o (yielded ops a.tmps)=true:=by simp[Region.wanted,hg]
 rw[aF hw];exact wp_copy_run w d s t t' hop v u hd hs hr hK
set_option maxRecDepth 100000 in
theorem X3(b o cap n:Nat)(vs:List Value)(w:World)(hn:n<=8)(hl:vs.length=4)(h1:∀v∈vs,v.oneCell'=true)(hc:fq w b o vs)(hb:b<w.heap.size):
 Calls Tryz.prog 183 #[.slice (some ⟨b,o,none⟩) 1 cap,.int .i64 n] w fun e w'=>e=.returned (.slice (some ⟨w.heap.size,0,none⟩) n n)/\kA w n n vs w':=by
 have hneg:¬((n:Int)<0):=by omega
 have hconv:IntKind.wrap .u64 (n:Int)=(n:Int):=XZ n hn;obtain⟨i,hi,hisz⟩:=ly (P:=Tryz.prog) (t:=93) (n:=4) (by kernel_rfl);obtain⟨z,hz,alP⟩:=wW (P:=Tryz.prog) (t:=93) (by kernel_rfl) hi;have hbytes:=sP (P:=Tryz.prog) (e:=93) (by kernel_rfl) hi;have hmul:(i.bytes:Int)*n<=4096*8:=Int.mul_le_mul (by omega) (by omega) (by omega) (by omega);have zq:=run_make (P:=Tryz.prog) w 91 93 i z Tryz.underlying91 hi hz .i64 .i64 n n (by omega) (by omega) (by omega) (by omega);have hsz:(Tryz.prog.info? 93).map (·.size)=some 4:=by rw[hi];simp[hisz]
 rw[hisz,bV]at zq;obtain⟨wm,hwm⟩:∃wm,w.alloc (.cells (madeCells z.cells (n*4)) 93)=wm:=⟨_,rfl⟩;rw[hwm]at zq;have h0:kA w n 0 vs wm:=⟨madeCells z.cells (n*4),by rw[<-hwm];exact ql _ _,by rw[size_madeCells],by rw[nR,List.take_zero];rfl,by rw[<-hwm];exact(Below.refl _ w).alloc (cH _) _⟩;obtain⟨m,hm⟩:∃m,Nat.min 1 n=m:=⟨_,rfl⟩;have hm':min 1 n=m:=hm;have hsrc:∀j v,((List.replicate (Nat.min 1 n) vs).flatten)[j]?=some v->wm.cell? ((⟨b,o,none⟩:Addr).add j)=some v:=fun j v hv=>by
  rw[<-hwm];refine Lib.cell?_alloc_some _ ?_;rw[Addr.add_lit];rw[hm]at hv;by_cases h:n=0
  ·have:m=0:=by omega
   subst this;simp at hv
  ·have:m=1:=by omega
   subst this;have e:(List.replicate 1 vs).flatten=vs:=by rw[show List.replicate 1 vs=[vs]from rfl,List.flatten_cons,List.flatten_nil,sQ]
   rw[e]at hv;exact hc j v hv
 obtain⟨w1,hs1,hr1⟩:=h0.store (P:=Tryz.prog) hl h1 (m:=Nat.min 1 n) (by rw[hm];omega);have Dx:=Ks (P:=Tryz.prog) wm 91 91 3 93 ⟨w.heap.size,0*4,none⟩ ⟨b,o,none⟩ n n 1 cap 4 _ Tryz.underlying91 hsz (nQ _ vs hl) hsrc hs1;rw[hm,nR]at Dx;rw[hm,kW]at hr1;clear hs1 h0 hsrc hz hi hwm hm;have A1:Aside ((Instr.makeSlice 91 (.int .i64 n) (.int .i64 n)).run Tryz.prog w=.ok (.slice (some ⟨w.heap.size,0,none⟩) n n) wm):=zq;have A2:Aside ((Builtin.copy_ #[91,91] 3 #[.slice (some ⟨w.heap.size,0,none⟩) n n,.slice (some ⟨b,o,none⟩) 1 cap]).run Tryz.prog wm=.ok (goInt m) w1):=Dx;have A3:Aside (kA w n m vs w1):=hr1;clear zq Dx hr1
 go_enter Tryz.func183,Tryz.ntmps183
 go_wp2_with (go_at_call 200;refine(X0 n (by omega) _).mono ?_;rintro e w' ⟨rfl,hw⟩;rw[hw])
 rw[A1.out];simp only[Result.andThen];rw[Oper.upon_value]
 go_wp2
 rw[A2.out];simp only[Result.andThen];rw[Oper.upon_value]
 go_wp2
 go_loopg [8] (n+1) (fun gk s0 wx=>∃k:Nat,s0=.int .i64 k/\k<=n/\n<gk+k/\(k=0->n=0)/\kA w n k vs wx)
 case atStart=>exact⟨m,rfl,by omega,by omega,by omega,A3.out⟩
 case round=>
  obtain⟨k,rfl,hk1,hk2,hk3,hrk⟩:=hrel;by_cases hkn:k<n
  ·have hkz:(k:Int)<(n:Int):=by omega
   have hrd:kA w n k vs wr.drew:=by
    obtain⟨arr,q1,q2,q3,q4⟩:=hrk;exact⟨arr,q1,q2,q3,q4.drew⟩
   obtain⟨m2,hm2⟩:∃m2,Nat.min k (n-k)=m2:=⟨_,rfl⟩;have alQ:min k (n-k)=m2:=hm2;obtain⟨w2,hs2,hr2⟩:=hrd.store (P:=Tryz.prog) hl h1 (m:=Nat.min k (n-k)) (by rw[hm2];omega);have Dy:=Ks (P:=Tryz.prog) wr.drew 91 91 3 93 ⟨w.heap.size,k*4,none⟩ ⟨w.heap.size,0,none⟩ (n-k) (n-k) k n 4 _ Tryz.underlying91 hsz (nQ _ vs hl) (hrd.read hl _ (by rw[hm2];omega)) hs2;rw[hm2]at Dy hr2;have B1:Aside ((Builtin.copy_ #[91,91] 3 #[.slice (if n=k then some ⟨w.heap.size,0,none⟩else some ⟨w.heap.size,k*4,none⟩) (n-k) (n-k),.slice (some ⟨w.heap.size,0,none⟩) k n]).run Tryz.prog wr.drew=.ok (goInt m2) w2):=by rw[bF (by omega)];exact Dy
   have B2:Aside (kA w n (k+m2) vs w2):=hr2;clear Dy hr2 hs2 hrd hrk
   go_wp2
   go_region_law (refine X2 (v:=.slice (if n=k then some ⟨w.heap.size,0,none⟩else some ⟨w.heap.size,k*4,none⟩) (n-k) (n-k)) (u:=.slice (some ⟨w.heap.size,0,none⟩) k n) (v':=goInt m2) (w':=w2) (by kernel_rfl) (.tmp 41) (.tmp 44) 91 91 (by kernel_rfl) (by kernel_rfl) (by kernel_rfl) B1.out ?_)
   obtain⟨g',rfl⟩:∃g',gk=g'+1:=⟨gk-1,by omega⟩;have hwr:IntKind.wrap .i64 ((k:Int)+(m2:Int))=((k+m2:Nat):Int):=wrap_i64_small k m2 (by omega) (by omega)
   go_wp2
   go_roundg g'
   case measure=>omega
   case rel=>exact⟨k+m2,by simp,by omega,by omega,by omega,B2.out⟩
  ·have hkz:¬(k:Int)<(n:Int):=by omega
   obtain rfl:k=n:=by omega
   go_wp2
   go_ret
   exact⟨rfl,hrk⟩
theorem X4(x:M.aa)(n:Nat)(hn:n<=8):RC Go.V.D Tryz.prog 183 [.ah U.Type [x],.int .i64 (n:Int)] [] (.ah U.Type (List.replicate n x)) []:=by
 refine Kq ⟨Tryz.f183,Tryz.func183,by kernel_rfl,by kernel_rfl⟩ fun S w vals hS ha=>?_
 obtain⟨X,r1,rfl,hX,hr1⟩:=aV.gB (K:=Go.V.K) (v:=.ah U.Type [x]) (l:=[.int .i64 (n:Int)]) ha;obtain⟨Y,r2,rfl,hY,hr2⟩:=hr1.gB;rw[hr2.nS,ei hY];generalize hL:([x]:List M.aa)=L at hX;cases hX with
 |dK a cap=>cases hL
 | @ah c l b o cap val h1 h2 h3 h4 h5=>
   subst hL;have h30:=h3 0 x rfl;have hlen:(val 0).length=4:=h30.trans (aj.len U.Type x);have h50:aV Go.V.D [] S w (Go.V.D.cells U.Type x) (val 0):=⟨h30.symm,fun j v y hv hy=>h5 0 x rfl j v y hv hy⟩;have hc0:=h4 0 (by simp);have hz:(0:Nat)*K.sz U.Type=0:=nR _;rw[hz,Nat.add_zero]at hc0;have hone:=nU h50 (aj.one U.Type x);refine(X3 b o cap n (val 0) w hn hlen hone hc0 (hS b h1)).mono ?_
   rintro e w' ⟨rfl,arr,q1,q2,q3,q4⟩
   have hsz:w.heap.size<w'.heap.size:=(iP.1 q1).1;have hrep:Rep Go.V.D [] (fun b=>S b\/b=w.heap.size) w' (.ah U.Type (List.replicate n x)) (.slice (some ⟨w.heap.size,0,none⟩) n n):=by
    have:=Rep.ah (D:=Go.V.D) (ρ:=[]) (S:=fun b=>S b\/b=w.heap.size) (w:=w') (c:=U.Type) (l:=List.replicate n x) (b:=w.heap.size) (o:=0) (cap:=n) (fun _=>val 0) (.inr rfl) (by rw[fc];exact cH _)
     (fun i y hy=>by
       have:y=x:=by
        rw[dR]at hy;split at hy
        ·simpa using hy.symm
        ·cases hy
       subst this;exact h30)
     (fun i hi=>by
       intro j v hv;rw[fc]at hi;have hj:j<4:=by have:=(bB.1 hv).1;omega
       have hk:K.sz U.Type=4:=rfl;rw[hk,kW];have e:(arr.toList.take (n*4))[i*4+j]?=some v:=by
        rw[q3,show n=i+(1+(n-i-1)) by omega,zp,cO (by rw[nQ _ _ hlen];omega),nQ _ _ hlen,zp,
         cD (by rw[nQ _ _ hlen];omega),show List.replicate 1 (val 0)=[val 0]from rfl,List.flatten_cons,List.flatten_nil,sQ,show i*4+j-i*4=j by omega]
        exact hv
       rw[ca]at e;split at e
       ·simp only[World.cell?,q1];simpa using e
       ·cases e)
     (fun i y hy j v z hv hz=>by
       have:y=x:=by
        rw[dR]at hy;split at hy
        ·simpa using hy.symm
        ·cases hy
       subst this;exact(h50.2 j v z hv hz).mono (fun _ h=>.inl h) (fun b hb=>q4.block b (hS b hb)) (fun _ _ h=>h))
    rw[fc]at this;exact this
   exact⟨_,rfl,q4,fun b=>S b\/b=w.heap.size,fun _ h=>.inl h,fun b hb=>hb.imp id fun h=>⟨by omega,by omega⟩,hrep⟩
theorem X5(l:List M.aa)(n:Int)(r:List M.aa)(h:M.nV l n=some r):∃(y:M.aa)(k:Nat),l=[y]/\n=(k:Int)/\k<=8/\r=List.replicate k y:=by
 unfold M.nV at h;cases hb:(decide (l.length=1)&&(decide (0<=n)&&decide (n<=8)))
 ·rw[hb]at h;cases h
 ·rw[hb]at h;simp only[bk,bC]at hb;obtain⟨h1,h2,h3⟩:=hb;simp only[aE,av]at h
  match l,h1 with
  |[y],_=>exact⟨y,n.toNat,rfl,by omega,by omega,h.symm⟩
theorem X6:(Dv M.nV).Ok Go.V.D Tryz.prog:=by
 intro x r hr;obtain⟨y,k,h1,h2,h3,h4⟩:=X5 x.1.1 x.1.2.1 r hr
 show RC Go.V.D Tryz.prog 183 [.ah U.Type x.1.1,.int .i64 x.1.2.1] [] (.ah U.Type r) []
 rw[h1,h2,h4];exact X4 y k h3
end jW
end Go.Proofs
theorem X7:(Dv M.nV).Ok Go.V.D Go.Proofs.Tryz.prog:=Go.Proofs.jW.X6
