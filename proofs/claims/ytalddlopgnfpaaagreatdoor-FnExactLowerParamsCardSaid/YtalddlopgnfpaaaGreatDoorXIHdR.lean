/-
  The contract of slices.Repeat of a slice of one Type, at most 8 times.
-/
import Derived.Test.YtalddlopgnfpaaaGreatDoorXIhandA
import Derived.Shelf.Abstract
import Derived.Shelf.Bits.Mul64
import Derived.Ground.NamesProg
import Derived.OwnWalk
import Derived.Deep.LoopGhost
import Derived.Deep.RegionLaw
import Derived.Lib.SliceRun
import Derived.Lib.SlBuf
import Derived.Laws.IdiomCopy
import Derived.Shelf.RegionOpenPlain
import Derived.WalkKit
import Derived.Test.YtalddlopgnfpaaaGreatDoorProg
set_option linter.unusedVariables false
noncomputable def HV(m:(List M.aa)->Int->Option (List M.aa)):Go.V.aC Go.V.K:={f:=140,sh:=⟨[.aj Go.V.U.Type,.int .i64],[]⟩,R:=List M.aa,run:=fun x=>m x.1.1 x.1.2.1,dflt:=default,out:=fun r=>(Go.V.Sh.enc Go.V.D (.aj Go.V.U.Type) r,Go.V.az.encs Go.V.D [] ())}
namespace Go.Proofs
open Go.RowKit Go.Shelf Go.V Go.Lib
theorem JO{a:Option Func}{x y:Func}(h:a=some x)(k:x=y):a=some y:=h.trans (gW some k)
def Tryz.laysMul_ren:Go.Shelf.Ren:=⟨fun|212=>166|263=>178|264=>179|n=>n,fun|46=>149|51=>185|146=>186|53=>184|148=>188|n=>n,fun|n=>n⟩
theorem Tryz.laysMul:Go.Proofs.Lays.n212 Tryz.prog Tryz.laysMul_ren:={
 mixed:=by kernel_rfl
 f212:=JO Tryz.func166 (by kernel_rfl)
 f263:=JO Tryz.func178 (by kernel_rfl)
 f264:=JO Tryz.func179 (by kernel_rfl)
 t46:=Tryz.underlying149
 a46:=Tryz.isAgg149
 z46:=Tryz.sizeOf149
 v46:=Tryz.zeroValue149
 t51:=Tryz.underlying185
 a51:=Tryz.isAgg185
 z51:=Tryz.sizeOf185
 v51:=Tryz.zeroValue185
 t53:=Tryz.underlying184
 a53:=Tryz.isAgg184
 z53:=Tryz.sizeOf184
 v53:=Tryz.zeroValue184
 t146:=Tryz.underlying186
 a146:=Tryz.isAgg186
 z146:=Tryz.sizeOf186
 v146:=Tryz.zeroValue186
 t148:=Tryz.underlying188
 a148:=Tryz.isAgg188
 z148:=Tryz.sizeOf188
 v148:=Tryz.zeroValue188}
namespace ma
theorem W1{P:Program}(w:World)(dT sT ty elem:TypeId)(d s:Addr)(dLen dCap sLen sCap sz:Nat)(cs:List Value)
 (hu:P.underlying dT=some (.slice elem)) (hs:(P.info? elem).map (·.size)=some sz) (hn:cs.length=Nat.min sLen dLen*sz)
 (hsrc:∀j v,cs[j]?=some v->w.cell? (s.add j)=some v) {w':World} (hst:(storeCells d cs 0).run P w=.ok () w'):
 (Builtin.copy_ #[dT,sT] ty #[.slice (some d) dLen dCap,.slice (some s) sLen sCap]).run P w=.ok (goInt (Nat.min sLen dLen)) w':=by
 have hl:=run_loadCells_list (P:=P) w s cs hsrc;cases hq:P.info? elem with
 |none=>simp[hq]at hs
 |some i=>
  have hi:i.size=sz:=by simpa [hq]using hs
  rw[hn]at hl;simp[Builtin.copy_,run_underlying hu,Builtin.lenOf,Builtin.firstCells,sizeOf,typeInfo,hq,hi,hl,hst]
theorem aj7(n:Nat)(hn:n<=8):IntKind.wrap .u64 (n:Int)=(n:Int):=by
 have h:∀m:Fin 9,IntKind.wrap .u64 ((m.val:Nat):Int)=((m.val:Nat):Int):=by decide
 exact h ⟨n,by omega⟩
theorem wrap_i64_small(k m:Nat)(hk:k<=8)(hm:m<=8):IntKind.wrap .i64 ((k:Int)+(m:Int))=((k+m:Nat):Int):=by
 have h:∀(a b:Fin 9),IntKind.wrap .i64 (((a.val:Nat):Int)+((b.val:Nat):Int))=((a.val+b.val:Nat):Int):=by decide
 exact h ⟨k,by omega⟩ ⟨m,by omega⟩
theorem aj8(y:Nat)(hy:y<18446744073709551616)(w:World):
 Calls Tryz.prog 166 #[.int .u64 1,.int .u64 y] w fun e w'=>e=.returned (.tuple #[.int .u64 0,.int .u64 y])/\w'=w:=by
 have:=Any.bits_Mul Tryz.laysMul 1 y (by decide) hy w;have h1:1*y/18446744073709551616=0:=by omega
 have h2:1*y%18446744073709551616=y:=by omega
 rw[h1,h2]at this;exact this
def mY(W:World)(n k:Nat)(vs:List Value)(wx:World):Prop:=
 ∃arr,wx.heap[W.heap.size]?=some (.cells arr 43 (0,0))/\arr.size=n*4/\arr.toList.take (k*4)=(List.replicate k vs).flatten/\Below W.heap.size W wx
theorem sD(k:Nat)(vs:List Value)(hl:vs.length=4):((List.replicate k vs).flatten).length=k*4:=by
 induction k with
 |zero=>rfl
 |succ k ih=>rw[List.replicate_succ,List.flatten_cons,cI,ih,hl];omega
theorem ES(k m:Nat)(vs:List Value):(List.replicate (k+m) vs).flatten=(List.replicate k vs).flatten++(List.replicate m vs).flatten:=by
 rw[<-List.replicate_append_replicate,List.flatten_append]
theorem aj9(k:Nat)(vs:List Value)(h1:∀v∈vs,v.oneCell'=true):∀v∈(List.replicate k vs).flatten,v.oneCell'=true:=fun v hv=>by
 obtain⟨l,hl,hv⟩:=List.mem_flatten.1 hv;rw[(List.mem_replicate.1 hl).2]at hv;exact h1 v hv
theorem mY.store{P:Program}{W wx:World}{n k m:Nat}{vs:List Value}(h:mY W n k vs wx)(hl:vs.length=4)(h1:∀v∈vs,v.oneCell'=true)(hkm:k+m<=n):
 ∃w',(storeCells ⟨W.heap.size,k*4,none⟩ (List.replicate m vs).flatten 0).run P wx=.ok () w'/\mY W n (k+m) vs w':=by
 obtain⟨arr,h2,h3,h4,h5⟩:=h;have hm:=sD m vs hl;obtain⟨w',vs',e1,e2,e3,e4,e5,e6,e7,e8⟩:=oH (P:=P) (b:=W.heap.size) (o:=k*4) (T:=43) (fr:=(0,0)) (List.replicate m vs).flatten 0 arr wx h2 (by rw[hm];omega) (fun k _ _ hh=>by have:=hh.2;simp at this) (aj9 m vs h1);have hsz:vs'.size=arr.size:=by have:=gW List.length e3;rw[mc]at this;simpa using this
 refine⟨w',e1,vs',e2,by omega,?_,⟨e6.trans h5.os,e7.trans h5.tape,e8.trans h5.output,by rw[e4];exact h5.size,fun j hj=>(e5 j (by omega)).trans (h5.block j hj)⟩⟩;rw[ES,<-h4,e3,Nat.add_zero];apply mZ;intro j;rw[cP];have hll:arr.toList.length=n*4:=by simpa using h3
 by_cases hj:j<(k+m)*4
 ·rw[av hj,kJ _ _ _ _ (by rw[hm,hll];omega)];by_cases hk:j<k*4
  ·rw[an (by omega),cH (by rw[i3,hll];omega),cP,av hk]
  ·rw[av ⟨by omega,by rw[hm];omega⟩,cM (by rw[i3,hll];omega),i3,hll];congr 1;omega
 ·rw[an hj,m3];rw[cI,i3,hll,hm];omega
theorem mY.read{W wx:World}{n k:Nat}{vs:List Value}(h:mY W n k vs wx)(hl:vs.length=4)(m:Nat)(hm:m<=k):∀j v,((List.replicate m vs).flatten)[j]?=some v->wx.cell? ((⟨W.heap.size,0,none⟩:Addr).add j)=some v:=by
 obtain⟨arr,h2,h3,h4,h5⟩:=h;intro j v hv;have hj:j<m*4:=by have:=(bo.1 hv).1;rwa [sD m vs hl]at this
 have e:(arr.toList.take (k*4))[j]?=some v:=by
  rw[h4,show k=m+(k-m) by omega,ES,cH (by rw[sD m vs hl];exact hj)];exact hv
 rw[cP,av (by omega)]at e;rw[Addr.add_lit,dD];simp only[World.cell?,h2];simpa using e
theorem aka{P:Program}{ops:Array Oper}{o:Oper}{a:Act}{w:World}{K:Act->World->Prop}{Q:Exit->Act->World->Prop}{E:Prop}(hg:o.guard=none)(d s:Operand)(t t':TypeId)
 (hop:o.op=.call {callee:=.builtin .copy,args:= #[d,s],argTypes:= #[t,t']}) {v u:Value} (hd:a.eval d=v) (hs:a.eval s=u) {v':Value} {w':World}
 (hr:(Builtin.copy_ #[t,t'] o.type #[v,u]).run P w=.ok v' w') (hK:K (a.put o.dst v') w'):
 if Region.wanted o (yielded ops a.tmps)=true then Oper.wp P o a w K Q else E:=by
 have hw:Region.wanted o (yielded ops a.tmps)=true:=by simp[Region.wanted,hg]
 rw[av hw];exact wp_copy_run w d s t t' hop v u hd hs hr hK
set_option maxRecDepth 100000 in
theorem akb(b o cap n:Nat)(vs:List Value)(w:World)(hn:n<=8)(hl:vs.length=4)(h1:∀v∈vs,v.oneCell'=true)(hc:gv w b o vs)(hb:b<w.heap.size):
 Calls Tryz.prog 140 #[.slice (some ⟨b,o,none⟩) 1 cap,.int .i64 n] w fun e w'=>e=.returned (.slice (some ⟨w.heap.size,0,none⟩) n n)/\mY w n n vs w':=by
 have hneg:¬((n:Int)<0):=by omega
 have hconv:IntKind.wrap .u64 (n:Int)=(n:Int):=aj7 n hn;obtain⟨i,hi,hisz⟩:=oI (P:=Tryz.prog) (t:=43) (n:=4) (by kernel_rfl);obtain⟨z,hz,apL⟩:=AP (P:=Tryz.prog) (t:=43) (by kernel_rfl) hi;have hbytes:=yi (P:=Tryz.prog) (e:=43) (by kernel_rfl) hi;have hmul:(i.bytes:Int)*n<=4096*8:=Int.mul_le_mul (by omega) (by omega) (by omega) (by omega);have ET:=run_make (P:=Tryz.prog) w 41 43 i z Tryz.underlying41 hi hz .i64 .i64 n n (by omega) (by omega) (by omega) (by omega);have hsz:(Tryz.prog.info? 43).map (·.size)=some 4:=by rw[hi];simp[hisz]
 rw[hisz,bL]at ET;obtain⟨wm,hwm⟩:∃wm,w.alloc (.cells (madeCells z.cells (n*4)) 43)=wm:=⟨_,rfl⟩;rw[hwm]at ET;have h0:mY w n 0 vs wm:=⟨madeCells z.cells (n*4),by rw[<-hwm];exact u9 _ _,by rw[size_madeCells],by rw[mX,List.take_zero];rfl,by rw[<-hwm];exact(Below.refl _ w).alloc (bg _) _⟩;obtain⟨m,hm⟩:∃m,Nat.min 1 n=m:=⟨_,rfl⟩;have hm':min 1 n=m:=hm;have hsrc:∀j v,((List.replicate (Nat.min 1 n) vs).flatten)[j]?=some v->wm.cell? ((⟨b,o,none⟩:Addr).add j)=some v:=fun j v hv=>by
  rw[<-hwm];refine Lib.cell?_alloc_some _ ?_;rw[Addr.add_lit];rw[hm]at hv;by_cases h:n=0
  ·have:m=0:=by omega
   subst this;simp at hv
  ·have:m=1:=by omega
   subst this;have e:(List.replicate 1 vs).flatten=vs:=by rw[show List.replicate 1 vs=[vs]from rfl,List.flatten_cons,List.flatten_nil,mb]
   rw[e]at hv;exact hc j v hv
 obtain⟨w1,hs1,hr1⟩:=h0.store (P:=Tryz.prog) hl h1 (m:=Nat.min 1 n) (by rw[hm];omega);have JP:=W1 (P:=Tryz.prog) wm 41 41 3 43 ⟨w.heap.size,0*4,none⟩ ⟨b,o,none⟩ n n 1 cap 4 _ Tryz.underlying41 hsz (sD _ vs hl) hsrc hs1;rw[hm,mX]at JP;rw[hm,dD]at hr1;clear hs1 h0 hsrc hz hi hwm hm;have A1:Aside ((Instr.makeSlice 41 (.int .i64 n) (.int .i64 n)).run Tryz.prog w=.ok (.slice (some ⟨w.heap.size,0,none⟩) n n) wm):=ET;have A2:Aside ((Builtin.copy_ #[41,41] 3 #[.slice (some ⟨w.heap.size,0,none⟩) n n,.slice (some ⟨b,o,none⟩) 1 cap]).run Tryz.prog wm=.ok (goInt m) w1):=JP;have A3:Aside (mY w n m vs w1):=hr1;clear ET JP hr1
 go_enter Tryz.func140,Tryz.ntmps140
 go_wp2_with (go_at_call 166;refine(aj8 n (by omega) _).mono ?_;rintro e w' ⟨rfl,hw⟩;rw[hw])
 rw[A1.out];simp only[Result.andThen];rw[Oper.upon_value]
 go_wp2
 rw[A2.out];simp only[Result.andThen];rw[Oper.upon_value]
 go_wp2
 go_loopg [8] (n+1) (fun gk s0 wx=>∃k:Nat,s0=.int .i64 k/\k<=n/\n<gk+k/\(k=0->n=0)/\mY w n k vs wx)
 case atStart=>exact⟨m,rfl,by omega,by omega,by omega,A3.out⟩
 case round=>
  obtain⟨k,rfl,hk1,hk2,hk3,hrk⟩:=hrel;by_cases hkn:k<n
  ·have hkz:(k:Int)<(n:Int):=by omega
   have hrd:mY w n k vs wr.drew:=by
    obtain⟨arr,q1,q2,q3,q4⟩:=hrk;exact⟨arr,q1,q2,q3,q4.drew⟩
   obtain⟨m2,hm2⟩:∃m2,Nat.min k (n-k)=m2:=⟨_,rfl⟩;have apM:min k (n-k)=m2:=hm2;obtain⟨w2,hs2,hr2⟩:=hrd.store (P:=Tryz.prog) hl h1 (m:=Nat.min k (n-k)) (by rw[hm2];omega);have JQ:=W1 (P:=Tryz.prog) wr.drew 41 41 3 43 ⟨w.heap.size,k*4,none⟩ ⟨w.heap.size,0,none⟩ (n-k) (n-k) k n 4 _ Tryz.underlying41 hsz (sD _ vs hl) (hrd.read hl _ (by rw[hm2];omega)) hs2;rw[hm2]at JQ hr2;have B1:Aside ((Builtin.copy_ #[41,41] 3 #[.slice (if n=k then some ⟨w.heap.size,0,none⟩else some ⟨w.heap.size,k*4,none⟩) (n-k) (n-k),.slice (some ⟨w.heap.size,0,none⟩) k n]).run Tryz.prog wr.drew=.ok (goInt m2) w2):=by rw[an (by omega)];exact JQ
   have B2:Aside (mY w n (k+m2) vs w2):=hr2;clear JQ hr2 hs2 hrd hrk
   go_wp2
   go_region_law (refine aka (v:=.slice (if n=k then some ⟨w.heap.size,0,none⟩else some ⟨w.heap.size,k*4,none⟩) (n-k) (n-k)) (u:=.slice (some ⟨w.heap.size,0,none⟩) k n) (v':=goInt m2) (w':=w2) (by kernel_rfl) (.tmp 41) (.tmp 44) 41 41 (by kernel_rfl) (by kernel_rfl) (by kernel_rfl) B1.out ?_)
   obtain⟨g',rfl⟩:∃g',gk=g'+1:=⟨gk-1,by omega⟩;have hwr:IntKind.wrap .i64 ((k:Int)+(m2:Int))=((k+m2:Nat):Int):=wrap_i64_small k m2 (by omega) (by omega)
   go_wp2
   go_roundg g'
   case measure=>omega
   case rel=>exact⟨k+m2,by simp,by omega,by omega,by omega,B2.out⟩
  ·have hkz:¬(k:Int)<(n:Int):=by omega
   obtain rfl:k=n:=by omega
   go_wp2
   go_ret
   exact⟨rfl,hrk⟩
theorem akc(x:M.aa)(n:Nat)(hn:n<=8):RC Go.V.D Tryz.prog 140 [.aj U.Type [x],.int .i64 (n:Int)] [] (.aj U.Type (List.replicate n x)) []:=by
 refine WV ⟨Tryz.f140,Tryz.func140,by kernel_rfl,by kernel_rfl⟩ fun S w vals hS ha=>?_
 obtain⟨X,r1,rfl,hX,hr1⟩:=aS.fX (K:=Go.V.K) (v:=.aj U.Type [x]) (l:=[.int .i64 (n:Int)]) ha;obtain⟨Y,r2,rfl,hY,hr2⟩:=hr1.fX;rw[hr2.mV,ee hY];generalize hL:([x]:List M.aa)=L at hX;cases hX with
 |dU a cap=>cases hL
 | @aj c l b o cap val h1 h2 h3 h4 h5=>
   subst hL;have h30:=h3 0 x rfl;have hlen:(val 0).length=4:=h30.trans (ak.len U.Type x);have h50:aS Go.V.D [] S w (Go.V.D.cells U.Type x) (val 0):=⟨h30.symm,fun j v y hv hy=>h5 0 x rfl j v y hv hy⟩;have hc0:=h4 0 (by simp);have hz:(0:Nat)*K.sz U.Type=0:=mX _;rw[hz,Nat.add_zero]at hc0;have hone:=sE h50 (ak.one U.Type x);refine(akb b o cap n (val 0) w hn hlen hone hc0 (hS b h1)).mono ?_
   rintro e w' ⟨rfl,arr,q1,q2,q3,q4⟩
   have hsz:w.heap.size<w'.heap.size:=(iH.1 q1).1;have hrep:Rep Go.V.D [] (fun b=>S b\/b=w.heap.size) w' (.aj U.Type (List.replicate n x)) (.slice (some ⟨w.heap.size,0,none⟩) n n):=by
    have:=Rep.aj (D:=Go.V.D) (ρ:=[]) (S:=fun b=>S b\/b=w.heap.size) (w:=w') (c:=U.Type) (l:=List.replicate n x) (b:=w.heap.size) (o:=0) (cap:=n) (fun _=>val 0) (.inr rfl) (by rw[gw];exact bg _)
     (fun i y hy=>by
       have:y=x:=by
        rw[il]at hy;split at hy
        ·simpa using hy.symm
        ·cases hy
       subst this;exact h30)
     (fun i hi=>by
       intro j v hv;rw[gw]at hi;have hj:j<4:=by have:=(bo.1 hv).1;omega
       have hk:K.sz U.Type=4:=rfl;rw[hk,dD];have e:(arr.toList.take (n*4))[i*4+j]?=some v:=by
        rw[q3,show n=i+(1+(n-i-1)) by omega,ES,cM (by rw[sD _ _ hlen];omega),sD _ _ hlen,ES,
         cH (by rw[sD _ _ hlen];omega),show List.replicate 1 (val 0)=[val 0]from rfl,List.flatten_cons,List.flatten_nil,mb,show i*4+j-i*4=j by omega]
        exact hv
       rw[cP]at e;split at e
       ·simp only[World.cell?,q1];simpa using e
       ·cases e)
     (fun i y hy j v z hv hz=>by
       have:y=x:=by
        rw[il]at hy;split at hy
        ·simpa using hy.symm
        ·cases hy
       subst this;exact(h50.2 j v z hv hz).mono (fun _ h=>.inl h) (fun b hb=>q4.block b (hS b hb)) (fun _ _ h=>h))
    rw[gw]at this;exact this
   exact⟨_,rfl,q4,fun b=>S b\/b=w.heap.size,fun _ h=>.inl h,fun b hb=>hb.imp id fun h=>⟨by omega,by omega⟩,hrep⟩
theorem akd(l:List M.aa)(n:Int)(r:List M.aa)(h:M.rI l n=some r):∃(y:M.aa)(k:Nat),l=[y]/\n=(k:Int)/\k<=8/\r=List.replicate k y:=by
 unfold M.rI at h;cases hb:(decide (l.length=1)&&(decide (0<=n)&&decide (n<=8)))
 ·rw[hb]at h;cases h
 ·rw[hb]at h;simp only[aZ,bh]at hb;obtain⟨h1,h2,h3⟩:=hb;simp only[aA,ar]at h
  match l,h1 with
  |[y],_=>exact⟨y,n.toNat,rfl,by omega,by omega,h.symm⟩
theorem ake:(HV M.rI).Ok Go.V.D Tryz.prog:=by
 intro x r hr;obtain⟨y,k,h1,h2,h3,h4⟩:=akd x.1.1 x.1.2.1 r hr
 show RC Go.V.D Tryz.prog 140 [.aj U.Type x.1.1,.int .i64 x.1.2.1] [] (.aj U.Type r) []
 rw[h1,h2,h4];exact akc y k h3
end ma
end Go.Proofs
theorem aeF:(HV M.rI).Ok Go.V.D Go.Proofs.Tryz.prog:=Go.Proofs.ma.ake
