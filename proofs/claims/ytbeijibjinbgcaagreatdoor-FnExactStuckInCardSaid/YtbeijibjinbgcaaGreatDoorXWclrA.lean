/-
  'clear' on a part of an owned slice.
-/
import Derived.Test.YtbeijibjinbgcaaGreatDoorXWobj3
namespace Go.V
open Go
variable {K :cA}{D:bj K}{ρ:List Value}{S:Nat->Prop}{w:World}{H:List (Ob K)}
theorem ajl{P:Program}{t e ty:TypeId}{a:Option Addr}{cp:Nat}(ht:P.underlying t=some (.slice e)):(Builtin.clear_ #[t] ty #[.slice a 0 cp]).run P w=.ok (.tuple #[]) w:=by
 cases a<;>simp[Builtin.clear_,run_underlying ht]
theorem ajm{P:Program}{t e ty:TypeId}{a:Addr}{n cp:Nat}{z:Value}{w':World}(ht:P.underlying t=some (.slice e))(hz:(zeroValue e).run P w=.ok z w)(hn:0<n)
 (hst:(storeCells a (Builtin.zeroCells z.cells n).toList).run P w=.ok () w'):(Builtin.clear_ #[t] ty #[.slice (some a) n cp]).run P w=.ok (.tuple #[]) w':=by
 obtain⟨m,rfl⟩:∃m,n=m+1:=⟨n-1,by omega⟩;simp[Builtin.clear_,run_underlying ht,hz,hst]
theorem ajn{P:Program}(hD:bo D)(hs:aS D ρ S w H){t e ty:TypeId}{c:K.U}{z:AV K}{y:K.El c}{l:List (K.El c)}{h lo hi:Nat}{A:Value}
 (ht:elemOf? P t=some e) (hsz:cM P e=some (K.sz c)) (hz:zeroOf P e=some z) (h1:z.bp.all AV.one=true) (hdec:D.dec c z.bp=some (y,true))
 (ho:H[h]?=some (.arr c l)) (hA:Rep D ρ S w (.vw h (K.sz c) lo hi) A) (hl:hi<=l.length):
 Does D P ρ S H w (do pure (.value (<-Builtin.clear_ #[t] ty #[A]))) .any (H.set h (.arr c (l.take lo++List.replicate (hi-lo) y++l.drop hi))):=by
 obtain⟨i,hi',hisz⟩:=ly hsz;obtain⟨zv,hzv,hov⟩:=v7 hz hi';have yI:(zeroValue e).run P w=.ok zv w:=by simp[zeroValue,typeInfo,hi',hzv]
 have hc0:=iJ (D:=D) (ρ:=ρ) (S:=S) (w:=w) (pO zv z hov) (yJ h1);have hrz:aV D ρ S w (D.cells c y) zv.cells.toList:=hD.dec c _ _ hdec ρ S w _ hc0;have hzs:zv.cells.size=K.sz c:=by have:=hrz.1;rw[hD.len]at this;simpa using this.symm
 cases hA with
 | @vw _ _ _ _ n cap cap' a a' hp q1 q2 ha=>
   rcases gJ (hi-lo)with h0|h0
   ·have e1:lo=hi:=by omega
    subst e1;have e2:l.take lo++List.replicate (lo-lo) y++l.drop lo=l:=by simp
    have e3:H.set h (.arr c l)=H:=by
     apply kK;intro k;rw[iO];split
     ·rename_i hk;subst hk;split
      ·exact ho.symm
      ·rename_i hk;exact absurd (bB.1 ho).1 hk
     ·rfl
    rw[e2,e3,rh];exact⟨.value (.tuple #[]),.tuple #[],w,ρ,eD (f:=.value) (ajl (gw ht)),.inl rfl,hs,.any _,Step.refl⟩
   ·rcases ha with ha|⟨b,o,rfl,rfl,hc'⟩
    ·omega
    ·rcases sk hs ho hp with⟨e,-⟩|⟨b',o',cp,vs,T,fr,e,hblk,⟨hcap,dw⟩,hsz',hfr,hall⟩
     ·cases e
     ·simp only[Value.slice.injEq,av,Addr.mk.injEq]at e;obtain⟨⟨rfl,rfl,-⟩,rfl,rfl⟩:=e;have hmul:hi*K.sz c<=cap*K.sz c:=bT _ (by omega);have hlen:(Builtin.zeroCells zv.cells (hi-lo)).toList.length=(hi-lo)*K.sz c:=by simp[Builtin.zeroCells,hzs]
      have hsub:lo*K.sz c+(hi-lo)*K.sz c=hi*K.sz c:=by rw[<-dh];congr 1;omega
      have hone:∀x∈(Builtin.zeroCells zv.cells (hi-lo)).toList,x.oneCell'=true:=fun x hx=>by
       simp only[Builtin.zeroCells,Array.toList_map,kV,Array.toList_range,mK]at hx;obtain⟨k,hk,rfl⟩:=hx;have hpos:0<zv.cells.size:=by
        rcases gJ zv.cells.size with g|g
        ·rw[g]at hk;omega
        ·exact g
       have hlt:k%zv.cells.size<zv.cells.size:=Nat.mod_lt _ hpos;rw[r7 zv.cells _ hlt];exact nU hc0 h1 _ (by rw[Array.mem_toList_iff];exact Array.getElem_mem hlt)
      obtain⟨w',vs',e1,e2,e3,e4,e5,e6,e7,e8⟩:=lv (P:=P) (b:=b) (o:=o+lo*K.sz c) (Builtin.zeroCells zv.cells (hi-lo)).toList 0 vs w hblk (by omega) (fun k hk hk'=>hfr k (by omega) (by omega)) hone;rw[Nat.add_zero]at e3;have hnS:¬S b:=(hs.lt b ⟨h,_,_,ho,rfl,hp,rfl⟩).2;refine⟨.value (.tuple #[]),.tuple #[],w',ρ,eD (f:=.value) (ajm (gw ht) yI h0 e1),.inl rfl,hs.turn ho rfl hp rfl e4 e5 (fun _ h=>h) ?_,.any _,Step.turn hs ho rfl hp rfl e4 e5 (fun _ h=>h) e6 e7 e8⟩;have hsize:vs'.size=vs.size:=by have:=fF List.length e3;rw[jX]at this;simpa using this
      have hll:(l.take lo++List.replicate (hi-lo) y++l.drop hi).length=l.length:=by simp;omega
      refine .inr ⟨b,o,cap,vs',T,fr,by rw[hll],e2,⟨by rw[hll];exact hcap,dw⟩,by omega,hfr,fun k x hx=>?_⟩;have hmono:∀{l:List (AV K)}{us:List Value},aV D ρ S w l us->aV D ρ S w' l us:=fun h=>h.mono (fun _ h=>h) (fun k hk=>e5 k (fun e=>by subst e;exact hnS hk)) (fun _ _ h=>h)
      have hkl:k<l.length:=by have:=(bB.1 hx).1;rwa [hll]at this
      rcases fY k lo with g|g
      ·rw[nX,cD (by simp;omega),ca,aF g]at hx;have:(k+1)*K.sz c<=lo*K.sz c:=bT _ g;rw[dh,fH]at this;rw[sn e3 (.inl (by omega))];exact hmono (hall k x hx)
      ·rcases fY k hi with g'|g'
       ·have hxy:x=y:=by
         rw[nX,cO (by simp;omega),cD (by simp;omega),dR]at hx;split at hx
         ·simpa using hx.symm
         ·cases hx
        subst hxy;have hk1:(k-lo+1)*K.sz c<=(hi-lo)*K.sz c:=bT _ (by omega);rw[dh,fH]at hk1;have hk2:k*K.sz c=lo*K.sz c+(k-lo)*K.sz c:=by rw[<-dh];congr 1;omega
        have:bR vs' (o+k*K.sz c) (K.sz c)=bR (madeCells zv.cells ((hi-lo)*K.sz c)) ((k-lo)*K.sz c) (K.sz c):=by
         apply kK;intro q;simp only[bR,ca,dC];by_cases hq:q<K.sz c
         ·rw[aF hq,aF hq,e3,jb _ _ _ _ (by rw[hlen];simp;omega),aF ⟨by omega,by rw[hlen];omega⟩];rw[show o+k*K.sz c+q-(o+lo*K.sz c)=(k-lo)*K.sz c+q by omega];simp only[Builtin.zeroCells,madeCells,hzs]
         ·rw[bF hq,bF hq]
        rw[this,Il hzs (by omega)];exact hmono hrz
       ·rw[cO (by simp;omega)]at hx;have hx':l[k]?=some x:=by
         rw[dC]at hx;rw[<-hx];congr 1;simp;omega
        have:hi*K.sz c<=k*K.sz c:=bT _ g';rw[sn e3 (.inr (by rw[hlen];omega))];exact hmono (hall k x hx')
end Go.V
namespace Go.V
open Go
variable {K :cA}{D:bj K}{ρ:List Value}{S:Nat->Prop}{w:World}{H:List (Ob K)}
theorem ajo{P:Program}{t sT e ty:TypeId}{a:Option Addr}{n cp:Nat}{i:TypeInfo}(ht:P.underlying t=some (.slice e))(hi:P.info? e=some i):
 (Builtin.copy_ #[t,sT] ty #[.slice a n cp,.string ⟨([]:List UInt8).toArray⟩]).run P w=.ok (goInt 0) w:=by
 cases a<;>simp[Builtin.copy_,run_underlying ht,Builtin.lenOf,Builtin.firstCells,sizeOf,typeInfo,hi,storeCells,ByteArray.size]
theorem ajp{P:Program}{t sT e ty:TypeId}{a:Addr}{n cp:Nat}{i:TypeInfo}{s:List UInt8}{w':World}(ht:P.underlying t=some (.slice e))(hi:P.info? e=some i)(hn:s.length<=n)
 (hst:(storeCells a (s.map fun b=>Value.int .u8 (b.toNat:Int))).run P w=.ok () w'):
 (Builtin.copy_ #[t,sT] ty #[.slice (some a) n cp,.string ⟨s.toArray⟩]).run P w=.ok (goInt s.length) w':=by
 have hmin:Nat.min s.length n=s.length:=Nat.min_eq_left hn;have htk:List.take s.length (s.map fun b=>Value.int .u8 (b.toNat:Int))=s.map fun b=>Value.int .u8 (b.toNat:Int):=vP (by simp)
 simp[Builtin.copy_,run_underlying ht,Builtin.lenOf,Builtin.firstCells,sizeOf,typeInfo,hi,v8,hmin];rw[<-List.map_take,vP (cH _),hst];rfl
theorem ajq{P:Program}(hD:bo D)(hs:aS D ρ S w H){t sT e ty:TypeId}{c:K.U}{f:K.El c->UInt8}{g:UInt8->K.El c}{l:List (K.El c)}{h lo hi:Nat}{A:Value}{s:List UInt8}
 (ht:elemOf? P t=some e) (hsz:cM P e=some (K.sz c)) (hb:D.byte c=some (f,g)) (ho:H[h]?=some (.arr c l)) (hA:Rep D ρ S w (.vw h (K.sz c) lo hi) A) (hl:hi<=l.length) (hsl:s.length<=hi-lo):
 Does D P ρ S H w (do pure (.value (<-Builtin.copy_ #[t,sT] ty #[A,.string ⟨s.toArray⟩]))) (.int .i64 (s.length:Int)) (H.set h (.arr c (l.take lo++s.map g++l.drop (lo+s.length)))):=by
 obtain⟨i,hi',hisz⟩:=ly hsz;obtain⟨b1,b2⟩:=hD.byte c f g hb;have hs1:K.sz c=1:=by rw[<-hD.len c (g 0),b1];rfl
 cases hA with
 | @vw _ _ _ _ n cap cap' a a' hp q1 q2 ha=>
   rcases gJ s.length with h0|h0
   ·have:s=[]:=ja h0;subst this;have e2:l.take lo++([]:List UInt8).map g++l.drop (lo+([]:List UInt8).length)=l:=by simp
    have e3:H.set h (.arr c l)=H:=by
     apply kK;intro k;rw[iO];split
     ·rename_i hk;subst hk;split
      ·exact ho.symm
      ·rename_i hk;exact absurd (bB.1 ho).1 hk
     ·rfl
    rw[e2,e3];exact⟨.value (goInt 0),goInt 0,w,ρ,eD (f:=.value) (ajo (gw ht) hi'),.inl rfl,hs,.int _ _,Step.refl⟩
   ·rcases ha with ha|⟨b,o,rfl,rfl,hc'⟩
    ·omega
    ·rcases sk hs ho hp with⟨e,-⟩|⟨b',o',cp,vs,T,fr,e,hblk,⟨hcap,dw⟩,hsz',hfr,hall⟩
     ·cases e
     ·simp only[Value.slice.injEq,av,Addr.mk.injEq]at e;obtain⟨⟨rfl,rfl,-⟩,rfl,rfl⟩:=e;have hlen:(s.map fun b=>Value.int .u8 (b.toNat:Int)).length=s.length:=by simp
      have hone:∀x∈(s.map fun b=>Value.int .u8 (b.toNat:Int)),x.oneCell'=true:=fun x hx=>by
       obtain⟨u,-,rfl⟩:=kV.1 hx;rfl
      rw[hs1]at hsz' hfr;simp only[nw]at hsz' hfr;obtain⟨w',vs',e1,e2,e3,e4,e5,e6,e7,e8⟩:=lv (P:=P) (b:=b) (o:=o+lo*K.sz c) (s.map fun b=>Value.int .u8 (b.toNat:Int)) 0 vs w hblk (by rw[hlen,hs1];omega) (fun k hk hk'=>hfr k (by rw[hs1]at hk;omega) (by rw[hs1,hlen]at hk';omega)) hone;rw[Nat.add_zero]at e3;have hnS:¬S b:=(hs.lt b ⟨h,_,_,ho,rfl,hp,rfl⟩).2;refine⟨.value (goInt s.length),goInt s.length,w',ρ,eD (f:=.value) (ajp (gw ht) hi' hsl e1),.inl rfl,hs.turn ho rfl hp rfl e4 e5 (fun _ h=>h) ?_,.int _ _,Step.turn hs ho rfl hp rfl e4 e5 (fun _ h=>h) e6 e7 e8⟩;have hsize:vs'.size=vs.size:=by have:=fF List.length e3;rw[jX]at this;simpa using this
      have hll:(l.take lo++s.map g++l.drop (lo+s.length)).length=l.length:=by simp;omega
      refine .inr ⟨b,o,cap,vs',T,fr,by rw[hll],e2,⟨by rw[hll];exact hcap,dw⟩,by rw[hs1];omega,by rw[hs1];simpa using hfr,fun k x hx=>?_⟩;have hmono:∀{l:List (AV K)}{us:List Value},aV D ρ S w l us->aV D ρ S w' l us:=fun h=>h.mono (fun _ h=>h) (fun k hk=>e5 k (fun e=>by subst e;exact hnS hk)) (fun _ _ h=>h)
      have hkl:k<l.length:=by have:=(bB.1 hx).1;rwa [hll]at this
      rw[hs1,nw]at e3;rw[hs1,nw];have hall':∀(i:Nat)(x:K.El c),l[i]?=some x->aV D ρ S w (D.cells c x) (bR vs (o+i) 1):=fun i x hx=>by have:=hall i x hx;rwa [hs1,nw]at this
      rcases fY k lo with g1|g1
      ·rw[nX,cD (by simp;omega),ca,aF g1]at hx;rw[sn e3 (.inl (by omega))];exact hmono (hall' k x hx)
      ·rcases fY k (lo+s.length)with g2|g2
       ·rw[nX,cO (by simp;omega),cD (by simp;omega),fG,dS]at hx;obtain⟨u,hu,rfl⟩:=hx;have:bR vs' (o+k) 1=[.int .u8 (u.toNat:Int)]:=by
         have hk3:vs'.toList[o+k]?=some (.int .u8 (u.toNat:Int)):=by
          rw[e3,jb _ _ _ _ (by rw[hlen];simp;omega),aF ⟨by omega,by rw[hlen];omega⟩];rw[fG,show o+k-(o+lo)=k-(l.take lo).length by simp;omega,hu];rfl
         simp only[bR,List.take_one,List.head?_drop,hk3,Option.toList_some]
        rw[this,b1,b2];exact .cons (.int _ _) .nil
       ·rw[cO (by simp;omega)]at hx;have hx':l[k]?=some x:=by
         rw[dC]at hx;rw[<-hx];congr 1;simp;omega
        rw[sn e3 (.inr (by rw[hlen];omega))];exact hmono (hall' k x hx')
end Go.V
