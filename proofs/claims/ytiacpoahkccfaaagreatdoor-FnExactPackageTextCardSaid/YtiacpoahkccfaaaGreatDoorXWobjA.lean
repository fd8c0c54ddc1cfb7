/-
  OPERATIONS THAT MAKE OBJECTS OR TURN THEM.
-/
import Derived.Test.YtiacpoahkccfaaaGreatDoorXWpureA
import Derived.Test.YtiacpoahkccfaaaGreatDoorXWtreeA
import Derived.Laws.MakeOwn
set_option linter.unusedVariables false
namespace Go.V
open Go
variable {K :dh}{D:bF K}{ρ:List Value}{S:Nat->Prop}{w:World}{H:List (Ob K)}
theorem one_cell{v:AV K}{X:Value}(h:Rep D ρ S w v X)(h1:v.one=true):X.oneCell'=true:=by
 cases h<;>first|rfl|cases h1
theorem uw{l:List (AV K)}{vs:List Value}(h:bc D ρ S w l vs)(h1:l.all AV.one=true):∀x∈vs,x.oneCell'=true:=fun x hx=>by
 obtain⟨i,hi,rfl⟩:=oy hx;have hl:i<l.length:=by rw[h.1];exact hi
 exact one_cell (h.2 i l[i] _ (bB hl) (bB hi)) (fb.1 h1 _ (dM hl))
theorem tl{v:AV K}{X:Value}(h:Rep D ρ S w v X)(hk:v.known=true):bc D ρ S w v.bR X.cells.toList:=by
 cases h with
 |any=>cases hk
 |agg hl hr=>exact⟨hl,hr⟩
 |int k n=>exact .cons (.int k n) .nil
 |bool b=>exact .cons (.bool b) .nil
 |str s=>exact .cons (.str s) .nil
 |dA=>exact .cons .dA .nil
 |dn=>exact .cons .dn .nil
 |fn hl hr=>exact .cons (.fn hl hr) .nil
 |kF=>exact .cons .kF .nil
 |np hp=>exact .cons (.np hp) .nil
 |ptr hp=>exact .cons (.ptr hp) .nil
 |sl hp=>exact .cons (.sl hp) .nil
 |ep hp hi=>exact .cons (.ep hp hi) .nil
 |vw hp h1 h2 ha=>exact .cons (.vw hp h1 h2 ha) .nil
 |fj a cap=>exact .cons (.fj a cap) .nil
 |an val h1 h2 h3 h4 h5=>exact .cons (.an val h1 h2 h3 h4 h5) .nil
 |rp vs h1 h2 h3 h4=>exact .cons (.rp vs h1 h2 h3 h4) .nil
 |bD hl hr=>exact .cons (.bD hl hr) .nil
theorem zb{v:AV K}(h:v.bR.all AV.one=true):v.known=true:=by
 cases v<;>first|rfl|simp[AV.bR,AV.one]at h
theorem rL{w:World}{o:Obj}{k:Nat}(h:k<w.heap.size):(w.heap.push o)[k]?=w.heap[k]?:=by rw[Array.getElem?_push,gq (by omega)]
theorem uA(h:Array Obj)(o:Obj):(h.push o)[h.size]?=some o:=by rw[Array.getElem?_push,dP rfl]
def Does(D:bF K)(P:Program)(ρ:List Value)(S:Nat->Prop)(H:List (Ob K))(w:World)(s:Sem Next)(v:AV K)(H':List (Ob K)):Prop:=
 ∃n u w' ρ',s.run P w=.ok n w'/\((n=.value u)\/(n=.skip/\u=undef))/\aT D ρ' S w' H'/\Rep D ρ' S w' v u/\Step D H.length ρ S H w ρ' S H' w'
theorem qk{cx:Cx K}{e:TypeId}{c:K.U}(h:oH cx e=some c):iq cx.D c e 0:=by
 intro t ht;unfold oH at h;split at h
 ·split at h
  ·rename_i hel;simp only[ay]at h;subst h;unfold OC at hel;rw[ht]at hel;exact⟨(dJ.1 hel).symm,rfl⟩
  ·cases h
 ·cases h
theorem aeZ{T:TypeId}{h:Nat}{cs:List (AV K)}(hn:kC cs=false):J4 D (zq (D.qb==some T) h cs) T:=by
 intro hh;unfold zq at hh;split at hh
 ·cases hb:(D.qb==some T)
  ·rw[hb]at hh;cases hh
  ·simpa using hb
 ·rw[hn]at hh;cases hh
theorem aeY{b:Bool}{h:Nat}{cs:List (AV K)}{vs:List Value}(hr:bc D ρ S w cs vs):bc D ρ S w (zq b h cs) vs:=by
 unfold zq;split
 ·obtain⟨u,t,rfl,h1,h2⟩:=hr.gB;cases h1;cases b
  ·exact .cons .dA h2
  ·exact .cons .kF h2
 ·exact hr
theorem J2{P:Program}(hs:aT D ρ S w H){cs:List (AV K)}{vs:Array Value}{T:TypeId}(hr:bc D ρ S w cs vs.toList)(hT:J4 D cs T){s:Sem Next}
 (hrun:s.run P w=.ok (.value (.pointer (some ⟨w.heap.size,0,none⟩))) (w.alloc (.cells vs T))):Does D P ρ S H w s (.ptr H.length 0) (H++[.box cs]):=by
 have hold:∀k,k<w.heap.size->(w.alloc (.cells vs T)).heap[k]?=w.heap[k]?:=fun k hk=>rL hk
 have hpre:∀(h:Nat) r,ρ[h]?=some r->(ρ++[.pointer (some ⟨w.heap.size,0,none⟩)])[h]?=some r:=fun _ _ h=>oo h
 refine⟨_,_,_,ρ++[.pointer (some ⟨w.heap.size,0,none⟩)],hrun,.inl rfl,hs.new (by simp) hold ?_ ?_,.ptr ?_,Step.new hs (by simp) hold ?_ rfl rfl rfl⟩
 ·exact⟨_,vs,T,rfl,uA _ _,hr.mono (fun _ h=>h) (fun b hb=>hold b (hs.slt b hb)) hpre,hT⟩
 ·intro b hb;simp[cG,jM]at hb;subst hb;simp
 ·rw[cM (by rw[hs.len];exact cw _)];simp[hs.len]
 ·intro b hb;simp[cG,jM]at hb;omega
def gu(vs:List Value)(off:Nat):List Value->List Value
 |[]=>vs
 |v::r=>gu (vs.set off v) (off+1) r
theorem nr(xs:List Value):∀(vs:List Value)(off:Nat),(gu vs off xs).length=vs.length:=by
 induction xs with
 |nil=>intro vs off;rfl
 |cons x r ih=>intro vs off;simp[gu,ih]
theorem bc.gu{l:List (AV K)}{xs:List Value}(h:bc D ρ S w l xs):∀{cs:List (AV K)}{vs:List Value}(off:Nat),bc D ρ S w cs vs->bc D ρ S w (setCells cs off l) (V.gu vs off xs):=by
 induction l generalizing xs with
 |nil=>intro cs vs off hc;rw[h.nk];exact hc
 |cons v r ih=>
  intro cs vs off hc;obtain⟨x,t,rfl,hx,ht⟩:=h.gB;exact ih ht (off+1) (hc.set hx)
theorem On(xs:List Value):∀(vs:List Value)(off k:Nat),(k<off\/off+xs.length<=k)->(gu vs off xs)[k]?=vs[k]?:=by
 induction xs with
 |nil=>intro vs off k _;rfl
 |cons x r ih=>
  intro vs off k h;simp only[aU]at h;rw[gu,ih _ _ _ (by omega),kD,gq (by omega)]
theorem qa{P:Program}{b o:Nat}{T:TypeId}{fr:Nat×Nat}:∀(xs:List Value)(i:Nat)(vs:Array Value)(w:World),w.heap[b]?=some (.cells vs T fr)->o+i+xs.length<=vs.size->
 (∀k,o+i<=k->k<o+i+xs.length->¬(fr.1<=k/\k<fr.2))->(∀x∈xs,x.oneCell'=true)->
 ∃w' vs',(storeCells ⟨b,o,none⟩ xs i).run P w=.ok () w'/\w'.heap[b]?=some (.cells vs' T fr)/\vs'.toList=gu vs.toList (o+i) xs/\w'.heap.size=w.heap.size/\(∀k,k≠b->w'.heap[k]?=w.heap[k]?)/\
  w'.os=w.os/\w'.tape=w.tape/\w'.output=w.output
 |[],i,vs,w,hb,_,_,_=>⟨w,vs,rfl,hb,rfl,rfl,fun _ _=>rfl,rfl,rfl,rfl⟩
 |x::r,i,vs,w,hb,hsz,hfr,h1=>by
  simp only[aU]at hsz hfr;have hc:w.cell? ⟨b,o+i,none⟩=some vs[o+i]:=by simp[World.cell?,hb]
  have hf:w.frozen? ⟨b,o+i,none⟩=false:=by
   have:=hfr (o+i) (cw _) (by omega);simp only[World.frozen?,hb];simpa using this
  have hlt:b<w.heap.size:=(eS.1 hb).1;have hset:(w.setCell ⟨b,o+i,none⟩ x).heap[b]?=some (.cells (vs.setIfInBounds (o+i) x) T fr):=by
   simp[World.setCell,Array.getElem?_modify,hb]
  have hst:(store ⟨b,o+i,none⟩ x).run P w=.ok () (w.setCell ⟨b,o+i,none⟩ x):=by
   rw[run_store P w _ x .plain (h1 x (by simp))];simp[hc,hf]
  obtain⟨w',vs',e1,e2,e3,e4,e5,e6,e7,e8⟩:=qa (P:=P) (b:=b) (o:=o) (T:=T) (fr:=fr) r (i+1) _ _ hset (by simp;omega) (fun k hk hk'=>hfr k (by omega) (by omega)) (fun y hy=>h1 y (by simp[hy]));refine⟨w',vs',?_,e2,?_,?_,fun k hk=>?_,e6,e7,e8⟩
  ·simp only[storeCells,Sem.run_bind,add_plain,hst,Result.andThen_ok,e1]
  ·rw[e3,gu];simp[ql]
  ·rw[e4];simp[World.setCell]
  ·rw[e5 k hk];simp[World.setCell,Array.getElem?_modify,wL hk]
theorem Dx{P:Program}{t:TypeId}{n:Nat}{a:Addr}{X:Value}(hn:dC P t=some n)(hX:X.cells.size=n):(storeVar t a X).run P w=(storeCells a X.cells.toList).run P w:=by
 simp[storeVar,jL hn,hX]
theorem lZ(xs:List Value):∀(vs:List Value)(off k:Nat),off+xs.length<=vs.length->(gu vs off xs)[k]?=if off<=k/\k<off+xs.length then xs[k-off]? else vs[k]?:=by
 induction xs with
 |nil=>intro vs off k _;rw[gq (by first|omega|simp)];rfl
 |cons x r ih=>
  intro vs off k h;simp only[aU]at h;rw[gu,ih _ _ _ (by simp;omega)];by_cases h1:off+1<=k/\k<off+1+r.length
  ·rw[dP h1,dP (by simp;omega)];rw[show k-off=(k-(off+1))+1 by omega];rfl
  ·rw[gq h1];by_cases h2:k=off
   ·subst h2;rw[dP (by simp)];rw[kD];simp;omega
   ·rw[gq (by simp;omega),kD,gq (by omega)]
theorem afa{vs':Array Value}{vs:Array Value}{p off n:Nat}{xs:List Value}(h:vs'.toList=gu vs.toList (p+off) xs)(h1:off+xs.length<=n)(h2:p+n<=vs.size):
 cD vs' p n=gu (cD vs p n) off xs:=by
 apply uF;intro k;have hl:(cD vs p n).length=n:=by simp[cD];omega
 rw[lZ _ _ _ _ (by rw[hl];exact h1)];simp only[cD,dE,ej,h];rw[lZ _ _ _ _ (by simp;omega)];by_cases hk:k<n
 ·rw[dP hk,dP hk];by_cases hc:off<=k/\k<off+xs.length
  ·rw[dP (by omega),dP hc];congr 1;omega
  ·rw[gq (by omega),gq hc]
 ·rw[gq hk,gq hk,gq (by omega)]
theorem ux{vs':Array Value}{vs:Array Value}{p q n:Nat}{xs:List Value}(h:vs'.toList=gu vs.toList q xs)(h1:p+n<=q\/q+xs.length<=p):cD vs' p n=cD vs p n:=by
 apply uF;intro k;simp only[cD,dE,ej,h];by_cases hk:k<n
 ·rw[dP hk,dP hk,On _ _ _ _ (by omega)]
 ·rw[gq hk,gq hk]
theorem Does.behind{P:Program}{ρ1:List Value}{H1 H':List (Ob K)}(h:Step D H.length ρ S H w ρ1 S H1 w)(hl:H.length<=H1.length){s:Sem Next}{v:AV K}(d:Does D P ρ1 S H1 w s v H'):Does D P ρ S H w s v H':=by
 obtain⟨n,u,w',ρ',e1,e2,e3,e4,e5⟩:=d;exact⟨n,u,w',ρ',e1,e2,e3,e4,h.trans (e5.weaken hl)⟩
theorem ae1{P:Program}(hs:aT D ρ S w H){t:TypeId}{n h off:Nat}{cs xs:List (AV K)}{X A:Value}(hn:dC P t=some n)(kH:xs.length=n)(h1:∀x∈X.cells.toList,x.oneCell'=true)
 (ho:H[h]?=some (.box cs)) (hoff:off+n<=cs.length) (hc:bc D ρ S w xs X.cells.toList) (hA:Rep D ρ S w (.ptr h off) A) (sd:kC (setCells cs off xs)=true->kC cs=true):
 Does D P ρ S H w (do Instr.storeAt t A X;pure .skip) .any (H.set h (.box (setCells cs off xs))):=by
 obtain⟨b,rfl,hb⟩:=rG hA;obtain⟨b',vs,T,e,hblk,Ee,hbT⟩:=hs.ob _ _ _ ho hb;simp only[Value.pointer.injEq,ay,Addr.mk.injEq]at e;obtain⟨rfl,-,-⟩:=e;have hlen:X.cells.toList.length=n:=by rw[<-hc.1,kH]
 have hvs:cs.length=vs.size:=by simpa using Ee.1
 obtain⟨w',vs',e1,e2,e3,e4,e5,e6,e7,e8⟩:=qa (P:=P) (b:=b) (o:=off) X.cells.toList 0 vs w hblk (by omega) (fun k _ _ hh=>by have:=hh.2;simp at this) h1;rw[Nat.add_zero]at e3;have hnS:¬S b:=(hs.lt b ⟨h,_,_,ho,rfl,hb,rfl⟩).2;refine⟨.skip,undef,w',ρ,?_,.inr ⟨rfl,rfl⟩,hs.turn ho rfl hb rfl e4 e5 (fun _ h=>h) ?_,.any _,Step.turn hs ho rfl hb rfl e4 e5 (fun _ h=>h) e6 e7 e8⟩
 ·have:(storeVar t ⟨b,off,none⟩ X).run P w=.ok () w':=by rw[Dx hn (by simpa using hlen)];exact e1
  simp[Instr.storeAt,Instr.sureAddr,this]
 ·refine⟨b,vs',T,rfl,e2,?_,fun h=>hbT (sd h)⟩;rw[e3];exact(hc.gu off Ee).mono (fun _ h=>h) (fun k hk=>e5 k (fun e=>by subst e;exact hnS hk)) (fun _ _ h=>h)
theorem ae2{P:Program}(hD:bQ D)(hs:aT D ρ S w H){t:TypeId}{n h i off:Nat}{c:K.U}{l:List (K.El c)}{y:K.El c}{x:AV K}{X A:Value}(hn:dC P t=some n)(kH:x.bR.length=n)
 (h1:x.bR.all AV.one=true) (ho:H[h]?=some (.arr c l)) (hoff:off+n<=K.sz c) (hcl:ia x.bR=true) (hdec:D.dec c (setCells (D.cells c (l.getD i (K.zero c))) off x.bR)=some (y,true))
 (hx:Rep D ρ S w x X) (hA:Rep D ρ S w (.ep h (K.sz c) i off) A):Does D P ρ S H w (do Instr.storeAt t A X;pure .skip) .any (H.set h (.arr c (l.set i y))):=by
 obtain⟨b,o,m,cp,rfl,hb,hi⟩:=oq hA;rcases rH hs ho hb with⟨e,-⟩|⟨b',o',cap,vs,T,fr,e,hblk,⟨hcap,ef⟩,hsz,hfr,hall⟩
 ·cases e
 ·simp only[Value.slice.injEq,ay,Addr.mk.injEq]at e;obtain⟨⟨rfl,rfl,-⟩,rfl,rfl⟩:=e;have hc:=tl hx (zb h1);have hlen:X.cells.toList.length=n:=by rw[<-hc.1,kH]
  have hmul:(i+1)*K.sz c<=cp*K.sz c:=cL _ (by omega);rw[kJ,ln]at hmul;obtain⟨w',vs',e1,e2,e3,e4,e5,e6,e7,e8⟩:=qa (P:=P) (b:=b) (o:=o+i*K.sz c+off) X.cells.toList 0 vs w hblk (by omega) (fun k hk hk'=>hfr k (by omega) (by omega)) (uw hc h1);rw[Nat.add_zero]at e3;have hnS:¬S b:=(hs.lt b ⟨h,_,_,ho,rfl,hb,rfl⟩).2;refine⟨.skip,undef,w',ρ,?_,.inr ⟨rfl,rfl⟩,hs.turn ho rfl hb rfl e4 e5 (fun _ h=>h) ?_,.any _,Step.turn hs ho rfl hb rfl e4 e5 (fun _ h=>h) e6 e7 e8⟩
  ·have:(storeVar t ⟨b,o+i*K.sz c+off,none⟩ X).run P w=.ok () w':=by rw[Dx hn (by simpa using hlen)];exact e1
   simp[Instr.storeAt,Instr.sureAddr,this]
  ·have hsize:vs'.size=vs.size:=by have:=ot List.length e3;rw[nr]at this;simpa using this
   refine .inr ⟨b,o,cp,vs',T,fr,by simp,e2,⟨by simpa using hcap,ef⟩,by omega,hfr,fun k z hz=>?_⟩;have hmono:∀{l:List (AV K)}{us:List Value},bc D ρ S w l us->bc D ρ S w' l us:=fun h=>h.mono (fun _ h=>h) (fun k hk=>e5 k (fun e=>by subst e;exact hnS hk)) (fun _ _ h=>h)
   rcases fa hz with⟨rfl,rfl,-⟩|⟨hk,hz⟩
   ·have hold:=hall k _ (getD_some (K.zero c) hi);rw[afa e3 (by rw[hlen];exact hoff) (by omega)];exact hmono (hD.dec c _ _ hdec ρ S w _ (hc.gu off hold))
   ·have hkl:k<l.length:=(bg.1 hz).1;rw[ux e3]
    ·exact hmono (hall k z hz)
    ·rw[hlen];rcases cP k i with hlt|hge
     ·have:(k+1)*K.sz c<=i*K.sz c:=cL _ (by omega);rw[kJ,ln]at this;left;omega
     ·have:(i+1)*K.sz c<=k*K.sz c:=cL _ (by omega);rw[kJ,ln]at this;right;omega
theorem Ed{P:Program}(hs:aT D ρ S w H){c:K.U}{l:List (K.El c)}{vs:Array Value}{T:TypeId}{fr:Nat×Nat}{cap:Nat}{w':World}(hw:w'.heap=w.heap.push (.cells vs T fr))
 (e1:w'.os=w.os) (e2:w'.tape=w.tape) (e3:w'.output=w.output) (hcap:l.length<=cap) (ef:iq D c T 0) (hsz:cap*K.sz c<=vs.size) (hfr:∀k,k<cap*K.sz c->¬(fr.1<=k/\k<fr.2))
 (hall:∀i x,l[i]?=some x->bc D ρ S w (D.cells c x) (cD vs (i*K.sz c) (K.sz c))) {s:Sem Next}
 (hrun:s.run P w=.ok (.value (.slice (some ⟨w.heap.size,0,none⟩) l.length cap)) w'):Does D P ρ S H w s (.sl H.length) (H++[.arr c l]):=by
 have hold:∀k,k<w.heap.size->w'.heap[k]?=w.heap[k]?:=fun k hk=>by rw[hw];exact rL hk
 have hpre:∀(h:Nat) r,ρ[h]?=some r->(ρ++[.slice (some ⟨w.heap.size,0,none⟩) l.length cap])[h]?=some r:=fun _ _ h=>oo h
 have hsize:w'.heap.size=w.heap.size+1:=by rw[hw];simp
 refine⟨_,_,_,ρ++[.slice (some ⟨w.heap.size,0,none⟩) l.length cap],hrun,.inl rfl,hs.new (by omega) hold ?_ ?_,.sl ?_,Step.new hs (by omega) hold ?_ e1 e2 e3⟩
 ·refine .inr ⟨_,0,cap,vs,T,fr,rfl,by rw[hw];exact uA _ _,⟨hcap,ef⟩,by omega,fun k _ hk=>hfr k (by omega),fun i x hx=>?_⟩;rw[iC];exact(hall i x hx).mono (fun _ h=>h) (fun b hb=>hold b (hs.slt b hb)) hpre
 ·intro b hb;simp[cG,jM]at hb;omega
 ·rw[cM (by rw[hs.len];exact cw _)];simp[hs.len]
 ·intro b hb;simp[cG,jM]at hb;omega
theorem ae9{P:Program}(hs:aT D ρ S w H){c:K.U}{l:List (K.El c)}{vs:Array Value}{T:TypeId}{fr:Nat×Nat}{w':World}(hw:w'.heap=w.heap.push (.cells vs T fr))
 (e1:w'.os=w.os) (e2:w'.tape=w.tape) (e3:w'.output=w.output)
 (hall:∀i x,l[i]?=some x->bc D ρ S w (D.cells c x) (cD vs (i*K.sz c) (K.sz c))):
 aT D ρ (fun b=>S b\/b=w.heap.size) w' H/\Rep D ρ (fun b=>S b\/b=w.heap.size) w' (.an c l) (.slice (some ⟨w.heap.size,0,none⟩) l.length l.length)/\Step D H.length ρ S H w ρ (fun b=>S b\/b=w.heap.size) H w':=by
 have hold:∀k,k<w.heap.size->w'.heap[k]?=w.heap[k]?:=fun k hk=>by rw[hw];exact rL hk
 have hnew:w'.heap[w.heap.size]?=some (.cells vs T fr):=by rw[hw];exact uA _ _
 have hsize:w'.heap.size=w.heap.size+1:=by rw[hw];simp
 have hs2:=hs.world (w':=w') (by omega) (fun b hb=>hold b (hs.lt b hb).1) (fun b hb=>hold b (hs.slt b hb));have hO:∀b,Own D w' ρ H b->Own D w ρ H b:=fun b hb=>hb.old fun b hb=>hold b (hs.lt b hb).1
 refine⟨⟨hs.len,fun k o r g1 g2=>(hs2.ob k o r g1 g2).mono (fun _ h=>.inl h) (fun _ _=>rfl) (fun _ _ h=>h) (fun _ _ _=>rfl),hs2.eM,fun b hb=>⟨(hs2.lt b hb).1,fun hS=>?_⟩,fun b hb=>?_,D.base.mono (fun _ h=>.inl h) (fun _ _=>rfl) hs2.base⟩,?_,
  ⟨e1,e2,e3,by omega,fun b hb _=>hold b hb,fun b hb=>.inl (hO b hb),fun _ h=>.inl h,fun b hb=>?_,fun _ _=>rfl⟩⟩
 ·rcases hS with h|h
  ·exact(hs.lt b (hO b hb)).2 h
  ·have:=(hs.lt b (hO b hb)).1;omega
 ·rcases hb with h|h
  ·have:=hs.slt b h;omega
  ·omega
 ·refine .an (fun i=>cD vs (i*K.sz c) (K.sz c)) (.inr rfl) (cw _) (fun i x hx=>(hall i x hx).1.symm) (fun i _=>?_) (fun i x hx j v y hv hy=>?_)
  ·rw[iC];intro j v hv;simp only[cD,dE,ej]at hv;split at hv
   ·simp[World.cell?,hnew];simpa using hv
   ·cases hv
  ·exact((hall i x hx).2 j v y hv hy).mono (fun _ h=>.inl h) (fun b hb=>hold b (hs.slt b hb)) (fun _ _ h=>h)
 ·rcases hb with h|h
  ·exact .inl h
  ·exact .inr (.inr (by omega))
theorem IB{z:Array Value}{n i sz:Nat}(hz:z.size=sz)(h:i<n):cD (madeCells z (n*sz)) (i*sz) sz=z.toList:=by
 have hmul:(i+1)*sz<=n*sz:=cL _ h;rw[kJ,ln]at hmul;apply uF;intro k;simp only[cD,dE,ej,madeCells,Array.toList_map,Array.toList_range,fU];by_cases hk:k<sz
 ·rw[dP hk,List.getElem?_range (by omega)];simp only[lx];rw[show(i*sz+k)%z.size=k by rw[hz,DD,Nat.add_mul_mod_self_right,Nat.mod_eq_of_lt hk]];rw[bB (by simpa [hz]using hk)];rw[DG z k (by omega)];simp
 ·rw[gq hk,f8 (by simp;omega)]
end Go.V
namespace Go.V
open Go
variable {K :dh}{D:bF K}{ρ:List Value}{S:Nat->Prop}{w:World}{H:List (Ob K)}
theorem fR{α:Type}{P:Program}{x:Sem α}{f:α->Next}{a:α}{w':World}(h:x.run P w=.ok a w'):(do pure (f (<-x)):Sem Next).run P w=.ok (f a) w':=by simp[h]
theorem iZ{P:Program}{t e:TypeId}(h:elemOf? P t=some e):P.underlying t=some (.slice e):=by
 unfold elemOf? at h;split at h
 ·simp only[ay]at h;subst h;assumption
 ·cases h
theorem nq{P:Program}{t:TypeId}{n:Nat}(h:dC P t=some n):∃i,P.info? t=some i/\i.size=n:=by
 unfold dC at h;cases hi:P.info? t with
 |none=>simp[hi]at h
 |some i=>simp[hi]at h;exact⟨i,rfl,h⟩
theorem zh{P:Program}{e:TypeId}{i:TypeInfo}(h:room e P=true)(hi:P.info? e=some i):i.bytes<=4096:=by
 unfold room at h;rw[hi]at h;simpa using h
theorem wy{P:Program}{t:TypeId}{z:AV K}{i:TypeInfo}(h:zeroOf P t=some z)(hi:P.info? t=some i):∃v,i.zero=some v/\lX v=some z:=by
 unfold zeroOf at h;rw[hi]at h;cases hz:i.zero with
 |none=>simp[hz]at h
 |some v=>simp[hz]at h;exact⟨v,rfl,h⟩
theorem Ds{P:Program}{t:TypeId}{i:TypeInfo}(h:ns P t=true)(hi:P.info? t=some i):∃v,i.zero=some v/\v.cells.size=i.size:=by
 unfold ns at h;rw[hi]at h;cases hz:i.zero with
 |none=>simp[hz]at h
 |some v=>simp[hz]at h;exact⟨v,rfl,h⟩
theorem ae3{P:Program}(hD:bQ D)(hs:aT D ρ S w H){t e:TypeId}{c:K.U}{z:AV K}{y:K.El c}{kl kc:IntKind}{n m:Int}(ht:elemOf? P t=some e)(hsz:dC P e=some (K.sz c))(hroom:room e P=true)
 (hz:zeroOf P e=some z) (hk:z.known=true) (hdec:D.dec c z.bR=some (y,true)) (h0:0<=n) (h1:n<=m) (h2:m<=1073741824) (ef:iq D c e 0):
 Does D P ρ S H w (do pure (.value (<-Instr.makeSlice t (.int kl n) (.int kc m)))) (.sl H.length) (H++[.arr c (List.replicate n.toNat y)]):=by
 obtain⟨i,hi,hisz⟩:=nq hsz;obtain⟨v,hv,hov⟩:=wy hz hi;have hb:=zh hroom hi;have hrz:bc D ρ S w (D.cells c y) v.cells.toList:=hD.dec c _ _ hdec ρ S w _ (tl (rE v z hov) hk);have hvs:v.cells.size=K.sz c:=by have:=hrz.1;rw[hD.len]at this;simpa using this.symm
 have hmul:(i.bytes:Int)*m<=4096*1073741824:=Int.mul_le_mul (by omega) h2 (by omega) (by omega);have hrun:=run_make (P:=P) w t e i v (iZ ht) hi hv kl kc n m h0 h1 (by omega) (by omega);rw[hisz]at hrun;refine Ed hs (c:=c) (l:=List.replicate n.toNat y) (vs:=madeCells v.cells (m.toNat*K.sz c)) (T:=e) (fr:=(0,0)) (cap:=m.toNat) (w':=w.alloc (.cells (madeCells v.cells (m.toNat*K.sz c)) e)) rfl rfl rfl rfl (by simp;omega) ef (by rw[size_madeCells];exact cw _) (fun k _ hh=>by have:=hh.2;simp at this)
  (fun j x hx=>?_) (by rw[DC];exact fR (f:=.value) hrun)
 have hj:j<n.toNat:=by have:=(bg.1 hx).1;simpa using this
 have hxy:x=y:=by
  rw[acN]at hx;split at hx
  ·simpa using hx.symm
  ·rename_i hn;exact absurd hj hn
 rw[hxy,IB hvs (by omega)];exact hrz
theorem Qg(off:Nat):∀(xs:List Value)(j:Nat)(cs:Array Value),((xs.zipIdx j).foldl (fun cs (cj:Value×Nat)=>cs.setIfInBounds (off+cj.2) cj.1) cs).toList=gu cs.toList (off+j) xs
 |[],j,cs=>rfl
 |x::r,j,cs=>by
  rw[List.zipIdx_cons,List.foldl_cons,Qg off r (j+1) _,gu,Array.toList_setIfInBounds,ql]
theorem afc(off:Nat)(xs cs:Array Value):(xs.zipIdx.foldl (fun cs (x:Value×Nat)=>match x with|(c,j)=>cs.setIfInBounds (off+j) c) cs).toList=gu cs.toList off xs.toList:=by
 rw[<-Array.foldl_toList,Array.toList_zipIdx];exact Qg off xs.toList 0 cs
theorem Qh{place:Nat->Option (Nat×Nat)}{cells:Array Value}{i off size:Nat}{v:Value}{rest:List (Nat×Value)}(hp:place i=some (off,size))(hv:v.cells.size=size)(hle:off+size<=cells.size):
 Instr.fill place cells ((i,v)::rest)=Instr.fill place (gu cells.toList off v.cells.toList).toArray rest:=by
 simp only[Instr.fill,hp];rw[gq (by simp[hv];omega)];congr 1;apply Array.ext';rw[afc]
theorem Qi{places:List (Nat×Nat)}{ev:Operand->AV K}{ρe:Operand->Value}(hev:∀x,Rep D ρ S w (ev x) (ρe x)):∀(parts:List (Nat×Operand))(cs cs':List (AV K))(vs:Array Value),wY places ev cs parts=some cs'->
 bc D ρ S w cs vs.toList->∃vs',Instr.fill (places.toArray[·]?) vs (parts.map fun p=>(p.1,ρe p.2))=some vs'/\bc D ρ S w cs' vs'.toList
 |[],cs,cs',vs,h,hr=>by simp[wY]at h;subst h;exact⟨vs,rfl,hr⟩
 |(i,x)::r,cs,cs',vs,h,hr=>by
  simp only[wY]at h;split at h
  ·rename_i off n hp;split at h
   ·rename_i hc;obtain⟨hk,hl,hle⟩:=hc;have hx:=tl (hev x) hk;have hsz:(ρe x).cells.size=n:=by have:=hx.1;simp at this;omega
    have hvl:vs.size=cs.length:=by have:=hr.1;simp at this;omega
    obtain⟨vs',e1,e2⟩:=Qi hev r _ cs' (gu vs.toList off (ρe x).cells.toList).toArray h (by simpa using hx.gu off hr);refine⟨vs',?_,e2⟩;rw[fy,Qh (by simpa using hp) hsz (by omega)];exact e1
   ·cases h
  ·cases h
theorem ae0{P:Program}{ev:Operand->AV K}{ρe:Operand->Value}(hev:∀x,Rep D ρ S w (ev x) (ρe x)){t:TypeId}{ps:List (Nat×Nat)}{z:AV K}{parts:Array (Nat×Operand)}{cs:List (AV K)}
 (hps:placesOf P t=some ps) (hz:zeroOf P t=some z) (hk:z.known=true) (h:wY ps ev z.bR parts.toList=some cs):
 ∃u,(Instr.build t (parts.map fun(i,x)=>(i,ρe x))).run P w=.ok u w/\Rep D ρ S w (.agg cs) u:=by
 unfold placesOf at hps;split at hps
 ·rename_i fs hu;have hi:∃i,P.info? t=some i:=by
   unfold zeroOf at hz;cases h:P.info? t with
   |none=>simp[h]at hz
   |some i=>exact⟨i,rfl⟩
  obtain⟨i,hi⟩:=hi;obtain⟨v,hv,hov⟩:=wy hz hi;obtain⟨vs',e1,e2⟩:=Qi hev parts.toList _ cs v.cells h (tl (rE v z hov) hk);refine⟨.agg vs',run_build w t _ vs' ?_,?_⟩
  ·simp only[Program.built,hi,hu,hv,hps];rw[<-e1];congr 1;simp
  ·have:=Rep.agg e2.1 e2.2;simpa using this
 ·cases hps
theorem afd{cs:List Value}{p n:Nat}{xs:List Value}(h1:xs.length=n)(h2:p+n<=cs.length):cD (gu cs p xs).toArray p n=xs:=by
 apply uF;intro k;simp only[cD,dE,ej];rw[lZ _ _ _ _ (by omega)];by_cases hk:k<n
 ·rw[dP hk,dP (by omega)];congr 1;omega
 ·rw[gq hk,f8 (by omega)]
theorem IM{sz:Nat}:∀(vs:List Value)(k:Nat)(cs:Array Value),(∀v∈vs,v.cells.size=sz)->(k+vs.length)*sz<=cs.size->
 ∃cs',Instr.fill (fun i=>some (i*sz,sz)) cs ((vs.zipIdx k).map fun p=>(p.2,p.1))=some cs'/\cs'.size=cs.size/\(∀i,i<k->cD cs' (i*sz) sz=cD cs (i*sz) sz)/\∀j v,vs[j]?=some v->cD cs' ((k+j)*sz) sz=v.cells.toList
 |[],k,cs,_,_=>⟨cs,rfl,rfl,fun _ _=>rfl,fun j v h=>by simp at h⟩
 |v::r,k,cs,h1,h2=>by
  have hv:=h1 v (by simp);simp only[aU]at h2;have h2':(k+1)*sz<=cs.size:=mD (cL _ (by omega)) h2;rw[kJ,ln]at h2';obtain⟨cs',e1,e2,e3,e4⟩:=IM r (k+1) (gu cs.toList (k*sz) v.cells.toList).toArray (fun u hu=>h1 u (by simp[hu])) (by simp[nr];rw[show k+1+r.length=k+(r.length+1) by omega];exact h2);refine⟨cs',?_,by simpa [nr]using e2,fun i hi=>?_,fun j u hu=>?_⟩
  ·rw[List.zipIdx_cons,fy,Qh rfl hv (by omega)];exact e1
  ·rw[e3 i (by omega)];have:(i+1)*sz<=k*sz:=cL _ (by omega);rw[kJ,ln]at this;exact ux (by simp;rfl) (.inl this)
  ·cases j with
   |zero=>
    simp at hu;subst hu;rw[Nat.add_zero,e3 k (by omega)];exact afd (by simpa using hv) (by simpa using h2')
   |succ j=>
    have:=e4 j u (by simpa using hu);rw[<-this];congr 2;omega
theorem Dt{ev:Operand->AV K}:∀(parts:List (Nat×Operand))(k:Nat)(l:List (AV K)),inOrder ev k parts=some l->l=parts.map (fun p=>ev p.2)/\parts.map (·.1)=List.range' k parts.length
 |[],k,l,h=>by simp[inOrder]at h;subst h;simp
 |(i,x)::r,k,l,h=>by
  simp only[inOrder]at h;split at h
  ·rename_i hk;subst hk;simp only[fu]at h;obtain⟨m,hm,rfl⟩:=h;obtain⟨e1,e2⟩:=Dt r (i+1) m hm;exact⟨by simp[e1],by simp[e2,List.range'_succ]⟩
  ·cases h
theorem IN:∀(parts:List (Nat×Operand))(ρe:Operand->Value)(k:Nat),parts.map (·.1)=List.range' k parts.length->parts.map (fun p=>(p.1,ρe p.2))=((parts.map fun p=>ρe p.2).zipIdx k).map fun p=>(p.2,p.1)
 |[],_,_,_=>rfl
 |(i,x)::r,ρe,k,h=>by
  simp only[fy,aU,List.range'_succ,List.cons.injEq]at h;obtain⟨rfl,h⟩:=h;simp only[fy,List.zipIdx_cons,List.cons.injEq,true_and];exact IN r ρe (i+1) h
theorem IP:∀(l:List (AV K))(c:K.U)(y:List (K.El c)),ov D c l=some (y,true)->y.length=l.length/\∀(i:Nat) v x,l[i]?=some v->y[i]?=some x->D.dec c v.bR=some (x,true)
 |[],c,y,h=>by simp[ov]at h;subst h;exact⟨rfl,fun i v x h=>by simp at h⟩
 |u::r,c,y,h=>by
  simp only[ov]at h;split at h
  ·rename_i x b m b' hx hm;simp only[ay,aR,cC]at h;obtain⟨rfl,rfl,rfl⟩:=h;obtain⟨e1,e2⟩:=IP r c m hm;refine⟨by simp[e1],fun i v z hv hz=>?_⟩;cases i with
   |zero=>simp at hv hz;subst hv;subst hz;exact hx
   |succ i=>exact e2 i v z (by simpa using hv) (by simpa using hz)
  ·cases h
theorem Qf{P:Program}(hD:bQ D)(hs:aT D ρ S w H){ev:Operand->AV K}{ρe:Operand->Value}(hev:∀x,Rep D ρ S w (ev x) (ρe x)){t e:TypeId}{c:K.U}{len:Nat}{parts:Array (Nat×Operand)}{l:List (AV K)}{y:List (K.El c)}
 (ht:elemOf? P t=some e) (hsz:dC P e=some (K.sz c)) (hz:ns P e=true) (hl:inOrder ev 0 parts.toList=some l) (hlen:l.length=len) (h1:len<=4096) (h2:K.sz c<=4096)
 (hall:l.all (fun v=>ia v.bR&&(v.known&&decide (v.bR.length=K.sz c)))=true) (hdec:ov D c l=some (y,true)):
 ∃cs':Array Value,(do pure (.value (<-Instr.buildSlice t len (parts.map fun(i,x)=>(i,ρe x)))):Sem Next).run P w=.ok (.value (.slice (some ⟨w.heap.size,0,none⟩) y.length y.length)) (w.alloc (.cells cs' e))/\y.length*K.sz c<=cs'.size/\
  ∀i x,y[i]?=some x->bc D ρ S w (D.cells c x) (cD cs' (i*K.sz c) (K.sz c)):=by
 obtain⟨i,hi,hisz⟩:=nq hsz;obtain⟨zv,hzv,-⟩:=Ds hz hi;obtain⟨el,er⟩:=Dt _ _ _ hl;obtain⟨dl,dd⟩:=IP l c y hdec;have hpl:parts.toList.length=len:=by rw[<-hlen,el];simp
 have hmul:len*K.sz c<=4096*4096:=Nat.mul_le_mul h1 h2;have hget:∀(j:Nat) v,l[j]?=some v->ia v.bR=true/\v.known=true/\v.bR.length=K.sz c:=fun j v hv=>by
  have:=fb.1 hall v (fZ hv);simpa using this
 generalize hus:parts.toList.map (fun p=>ρe p.2)=us;have hrel:∀(j:Nat) v u,l[j]?=some v->us[j]?=some u->Rep D ρ S w v u:=fun j v u hv hu=>by
  rw[el]at hv;rw[<-hus]at hu;simp only[fU,fu]at hv hu;obtain⟨p,hp,rfl⟩:=hv;obtain⟨q,hq,rfl⟩:=hu;rw[hp]at hq;simp at hq;subst hq;exact hev _
 have rM:us.length=l.length:=by rw[<-hus,el];simp
 have hcs:∀u∈us,u.cells.size=K.sz c:=fun u hu=>by
  obtain⟨j,hj,rfl⟩:=oy hu;have hjl:j<l.length:=by omega
  obtain⟨-,hk,hn⟩:=hget j _ (bB hjl);have:=(tl (hrel j _ _ (bB hjl) (bB hj)) hk).1;rw[hn]at this;simpa using this.symm
 let zero:Array Value:=if len*K.sz c=0 then #[]else zv.cells
 obtain⟨cs',e1,e2,-,e4⟩:=IM (sz:=K.sz c) us 0 ((Array.range (len*K.sz c)).map (zero[· %zero.size]!)) hcs (by simp[rM,hlen]);have hparts:(parts.map fun(x:Nat×Operand)=>match x with|(i,x)=>(i,ρe x)).toList=(us.zipIdx 0).map fun p=>(p.2,p.1):=by
  rw[<-hus,<-IN parts.toList ρe 0 (by rw[er])];simp
 have hrun:(Instr.buildSlice t len (parts.map fun(i,x)=>(i,ρe x))).run P w=.ok (.slice (some ⟨w.heap.size,0,none⟩) len len) (w.alloc (.cells cs' e)):=by
  have hsize:(sizeOf e).run P w=.ok (K.sz c) w:=jL hsz;unfold Instr.buildSlice;rw[hparts];simp only[Sem.run_bind,fc (iZ ht),Result.andThen_ok,hsize];rw[gq (by omega)];by_cases h0:len*K.sz c=0
  ·rw[dP h0];have e1':=e1;simp only[zero,dP h0]at e1';simp only[Sem.run_bind,Sem.run_pure,Result.andThen_ok,e1'];simp[newRow]
  ·rw[gq h0];have e1':=e1;simp only[zero,gq h0]at e1';have za:(zeroValue e).run P w=.ok zv w:=by simp[zeroValue,typeInfo,hi,hzv]
   simp only[Sem.run_bind,Sem.run_pure,Result.andThen_ok,za,e1'];simp[newRow]
 have hyl:y.length=len:=by rw[dl,hlen]
 refine⟨cs',by rw[hyl];exact fR (f:=.value) hrun,by rw[hyl,e2];simp,fun j x hx=>?_⟩;have hj:j<l.length:=by rw[<-dl];exact(bg.1 hx).1
 have J5:=bB hj;have qg:=bB (show j<us.length by omega);obtain⟨-,hk,-⟩:=hget j _ J5;have:=e4 j _ qg;rw[iC]at this;rw[this];exact hD.dec c _ _ (dd j _ _ J5 hx) ρ S w _ (tl (hrel j _ _ J5 qg) hk)
theorem ae4{P:Program}(hD:bQ D)(hs:aT D ρ S w H){ev:Operand->AV K}{ρe:Operand->Value}(hev:∀x,Rep D ρ S w (ev x) (ρe x)){t e:TypeId}{c:K.U}{len:Nat}{parts:Array (Nat×Operand)}{l:List (AV K)}{y:List (K.El c)}
 (ht:elemOf? P t=some e) (hsz:dC P e=some (K.sz c)) (hz:ns P e=true) (hl:inOrder ev 0 parts.toList=some l) (hlen:l.length=len) (h1:len<=4096) (h2:K.sz c<=4096)
 (hall:l.all (fun v=>ia v.bR&&(v.known&&decide (v.bR.length=K.sz c)))=true) (hdec:ov D c l=some (y,true)) (ef:iq D c e 0):
 Does D P ρ S H w (do pure (.value (<-Instr.buildSlice t len (parts.map fun(i,x)=>(i,ρe x))))) (.sl H.length) (H++[.arr c y]):=by
 obtain⟨cs',hrun,hcs,hseg⟩:=Qf hD hs hev ht hsz hz hl hlen h1 h2 hall hdec;exact Ed hs (c:=c) (l:=y) (vs:=cs') (T:=e) (fr:=(0,0)) (cap:=y.length) (w':=w.alloc (.cells cs' e)) rfl rfl rfl rfl (cw _) ef hcs (fun k _ hh=>by have:=hh.2;simp at this) hseg hrun
end Go.V
