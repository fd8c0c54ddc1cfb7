/-
  OPERATIONS THAT MAKE OBJECTS OR TURN THEM.
-/
import Derived.Test.YtghkckfhaljjjaaGreatDoorXWpureA
import Derived.Test.YtghkckfhaljjjaaGreatDoorXWtreeA
import Derived.Laws.MakeOwn
set_option linter.unusedVariables false
namespace Go.V
open Go
variable {K :dh}{D:bH K}{ρ:List Value}{S:Nat->Prop}{w:World}{H:List (Ob K)}
theorem one_cell{v:AV K}{X:Value}(h:Rep D ρ S w v X)(h1:v.one=true):X.oneCell'=true:=by
 cases h<;>first|rfl|cases h1
theorem Dn{l:List (AV K)}{vs:List Value}(h:bh D ρ S w l vs)(h1:l.all AV.one=true):∀x∈vs,x.oneCell'=true:=fun x hx=>by
 obtain⟨i,hi,rfl⟩:=vY hx;have hl:i<l.length:=by rw[h.1];exact hi
 exact one_cell (h.2 i l[i] _ (cH hl) (cH hi)) (fN.1 h1 _ (cE hl))
theorem lQ{v:AV K}{X:Value}(h:Rep D ρ S w v X)(hk:v.known=true):bh D ρ S w v.cw X.cells.toList:=by
 cases h with
 |any=>cases hk
 |agg hl hr=>exact⟨hl,hr⟩
 |int k n=>exact .cons (.int k n) .nil
 |bool b=>exact .cons (.bool b) .nil
 |str s=>exact .cons (.str s) .nil
 |dx=>exact .cons .dx .nil
 |dn=>exact .cons .dn .nil
 |fn hl hr=>exact .cons (.fn hl hr) .nil
 |kz=>exact .cons .kz .nil
 |np hp=>exact .cons (.np hp) .nil
 |ptr hp=>exact .cons (.ptr hp) .nil
 |sl hp=>exact .cons (.sl hp) .nil
 |ep hp hi=>exact .cons (.ep hp hi) .nil
 |vw hp h1 h2 ha=>exact .cons (.vw hp h1 h2 ha) .nil
 |fc a cap=>exact .cons (.fc a cap) .nil
 |an val h1 h2 h3 h4 h5=>exact .cons (.an val h1 h2 h3 h4 h5) .nil
 |rp vs h1 h2 h3 h4=>exact .cons (.rp vs h1 h2 h3 h4) .nil
 |bC hl hr=>exact .cons (.bC hl hr) .nil
theorem IZ{v:AV K}(h:v.cw.all AV.one=true):v.known=true:=by
 cases v<;>first|rfl|simp[AV.cw,AV.one]at h
theorem rA{w:World}{o:Obj}{k:Nat}(h:k<w.heap.size):(w.heap.push o)[k]?=w.heap[k]?:=by rw[Array.getElem?_push,aT (by omega)]
theorem ub(h:Array Obj)(o:Obj):(h.push o)[h.size]?=some o:=by rw[Array.getElem?_push,aY rfl]
def Does(D:bH K)(P:Program)(ρ:List Value)(S:Nat->Prop)(H:List (Ob K))(w:World)(s:Sem Next)(v:AV K)(H':List (Ob K)):Prop:=
 ∃n u w' ρ',s.run P w=.ok n w'/\((n=.value u)\/(n=.skip/\u=undef))/\aS D ρ' S w' H'/\Rep D ρ' S w' v u/\Step D H.length ρ S H w ρ' S H' w'
theorem rD{cx:Cx K}{e:TypeId}{c:K.U}(h:pY cx e=some c):im cx.D c e 0:=by
 intro t ht;unfold pY at h;split at h
 ·split at h
  ·rename_i hel;simp only[av]at h;subst h;unfold OR at hel;rw[ht]at hel;exact⟨(cK.1 hel).symm,rfl⟩
  ·cases h
 ·cases h
theorem afx{T:TypeId}{h:Nat}{cs:List (AV K)}(hn:ku cs=false):Kq D (yV (D.pP==some T) h cs) T:=by
 intro hh;unfold yV at hh;split at hh
 ·cases hb:(D.pP==some T)
  ·rw[hb]at hh;cases hh
  ·simpa using hb
 ·rw[hn]at hh;cases hh
theorem afw{b:Bool}{h:Nat}{cs:List (AV K)}{vs:List Value}(hr:bh D ρ S w cs vs):bh D ρ S w (yV b h cs) vs:=by
 unfold yV;split
 ·obtain⟨u,t,rfl,h1,h2⟩:=hr.gp;cases h1;cases b
  ·exact .cons .dx h2
  ·exact .cons .kz h2
 ·exact hr
theorem Kp{P:Program}(hs:aS D ρ S w H){cs:List (AV K)}{vs:Array Value}{T:TypeId}(hr:bh D ρ S w cs vs.toList)(hT:Kq D cs T){s:Sem Next}
 (hrun:s.run P w=.ok (.value (.pointer (some ⟨w.heap.size,0,none⟩))) (w.alloc (.cells vs T))):Does D P ρ S H w s (.ptr H.length 0) (H++[.box cs]):=by
 have hold:∀k,k<w.heap.size->(w.alloc (.cells vs T)).heap[k]?=w.heap[k]?:=fun k hk=>rA hk
 have hpre:∀(h:Nat) r,ρ[h]?=some r->(ρ++[.pointer (some ⟨w.heap.size,0,none⟩)])[h]?=some r:=fun _ _ h=>tN h
 refine⟨_,_,_,ρ++[.pointer (some ⟨w.heap.size,0,none⟩)],hrun,.inl rfl,hs.new (by simp) hold ?_ ?_,.ptr ?_,Step.new hs (by simp) hold ?_ rfl rfl rfl⟩
 ·exact⟨_,vs,T,rfl,ub _ _,hr.mono (fun _ h=>h) (fun b hb=>hold b (hs.slt b hb)) hpre,hT⟩
 ·intro b hb;simp[cJ,lT]at hb;subst hb;simp
 ·rw[eR (by rw[hs.len];exact fh _)];simp[hs.len]
 ·intro b hb;simp[cJ,lT]at hb;omega
def gq(vs:List Value)(off:Nat):List Value->List Value
 |[]=>vs
 |v::r=>gq (vs.set off v) (off+1) r
theorem tZ(xs:List Value):∀(vs:List Value)(off:Nat),(gq vs off xs).length=vs.length:=by
 induction xs with
 |nil=>intro vs off;rfl
 |cons x r ih=>intro vs off;simp[gq,ih]
theorem bh.gq{l:List (AV K)}{xs:List Value}(h:bh D ρ S w l xs):∀{cs:List (AV K)}{vs:List Value}(off:Nat),bh D ρ S w cs vs->bh D ρ S w (setCells cs off l) (V.gq vs off xs):=by
 induction l generalizing xs with
 |nil=>intro cs vs off hc;rw[h.m9];exact hc
 |cons v r ih=>
  intro cs vs off hc;obtain⟨x,t,rfl,hx,ht⟩:=h.gp;exact ih ht (off+1) (hc.set hx)
theorem OI(xs:List Value):∀(vs:List Value)(off k:Nat),(k<off\/off+xs.length<=k)->(gq vs off xs)[k]?=vs[k]?:=by
 induction xs with
 |nil=>intro vs off k _;rfl
 |cons x r ih=>
  intro vs off k h;simp only[ak]at h;rw[gq,ih _ _ _ (by omega),kC,aT (by omega)]
theorem wd{P:Program}{b o:Nat}{T:TypeId}{fr:Nat×Nat}:∀(xs:List Value)(i:Nat)(vs:Array Value)(w:World),w.heap[b]?=some (.cells vs T fr)->o+i+xs.length<=vs.size->
 (∀k,o+i<=k->k<o+i+xs.length->¬(fr.1<=k/\k<fr.2))->(∀x∈xs,x.oneCell'=true)->
 ∃w' vs',(storeCells ⟨b,o,none⟩ xs i).run P w=.ok () w'/\w'.heap[b]?=some (.cells vs' T fr)/\vs'.toList=gq vs.toList (o+i) xs/\w'.heap.size=w.heap.size/\(∀k,k≠b->w'.heap[k]?=w.heap[k]?)/\
  w'.os=w.os/\w'.tape=w.tape/\w'.output=w.output
 |[],i,vs,w,hb,_,_,_=>⟨w,vs,rfl,hb,rfl,rfl,fun _ _=>rfl,rfl,rfl,rfl⟩
 |x::r,i,vs,w,hb,hsz,hfr,h1=>by
  simp only[ak]at hsz hfr;have hc:w.cell? ⟨b,o+i,none⟩=some vs[o+i]:=by simp[World.cell?,hb]
  have hf:w.frozen? ⟨b,o+i,none⟩=false:=by
   have:=hfr (o+i) (fh _) (by omega);simp only[World.frozen?,hb];simpa using this
  have hlt:b<w.heap.size:=(kE.1 hb).1;have hset:(w.setCell ⟨b,o+i,none⟩ x).heap[b]?=some (.cells (vs.setIfInBounds (o+i) x) T fr):=by
   simp[World.setCell,Array.getElem?_modify,hb]
  have hst:(store ⟨b,o+i,none⟩ x).run P w=.ok () (w.setCell ⟨b,o+i,none⟩ x):=by
   rw[run_store P w _ x .plain (h1 x (by simp))];simp[hc,hf]
  obtain⟨w',vs',e1,e2,e3,e4,e5,e6,e7,e8⟩:=wd (P:=P) (b:=b) (o:=o) (T:=T) (fr:=fr) r (i+1) _ _ hset (by simp;omega) (fun k hk hk'=>hfr k (by omega) (by omega)) (fun y hy=>h1 y (by simp[hy]));refine⟨w',vs',?_,e2,?_,?_,fun k hk=>?_,e6,e7,e8⟩
  ·simp only[storeCells,Sem.run_bind,add_plain,hst,Result.andThen_ok,e1]
  ·rw[e3,gq];simp[oh]
  ·rw[e4];simp[World.setCell]
  ·rw[e5 k hk];simp[World.setCell,Array.getElem?_modify,ot hk]
theorem I3{P:Program}{t:TypeId}{n:Nat}{a:Addr}{X:Value}(hn:fm P t=some n)(hX:X.cells.size=n):(storeVar t a X).run P w=(storeCells a X.cells.toList).run P w:=by
 simp[storeVar,pQ hn,hX]
theorem rx(xs:List Value):∀(vs:List Value)(off k:Nat),off+xs.length<=vs.length->(gq vs off xs)[k]?=if off<=k/\k<off+xs.length then xs[k-off]? else vs[k]?:=by
 induction xs with
 |nil=>intro vs off k _;rw[aT (by first|omega|simp)];rfl
 |cons x r ih=>
  intro vs off k h;simp only[ak]at h;rw[gq,ih _ _ _ (by simp;omega)];by_cases h1:off+1<=k/\k<off+1+r.length
  ·rw[aY h1,aY (by simp;omega)];rw[show k-off=(k-(off+1))+1 by omega];rfl
  ·rw[aT h1];by_cases h2:k=off
   ·subst h2;rw[aY (by simp)];rw[kC];simp;omega
   ·rw[aT (by simp;omega),kC,aT (by omega)]
theorem afG{vs':Array Value}{vs:Array Value}{p off n:Nat}{xs:List Value}(h:vs'.toList=gq vs.toList (p+off) xs)(h1:off+xs.length<=n)(h2:p+n<=vs.size):
 db vs' p n=gq (db vs p n) off xs:=by
 apply lh;intro k;have hl:(db vs p n).length=n:=by simp[db];omega
 rw[rx _ _ _ _ (by rw[hl];exact h1)];simp only[db,fa,iY,h];rw[rx _ _ _ _ (by simp;omega)];by_cases hk:k<n
 ·rw[aY hk,aY hk];by_cases hc:off<=k/\k<off+xs.length
  ·rw[aY (by omega),aY hc];congr 1;omega
  ·rw[aT (by omega),aT hc]
 ·rw[aT hk,aT hk,aT (by omega)]
theorem Ko{vs':Array Value}{vs:Array Value}{p q n:Nat}{xs:List Value}(h:vs'.toList=gq vs.toList q xs)(h1:p+n<=q\/q+xs.length<=p):db vs' p n=db vs p n:=by
 apply lh;intro k;simp only[db,fa,iY,h];by_cases hk:k<n
 ·rw[aY hk,aY hk,OI _ _ _ _ (by omega)]
 ·rw[aT hk,aT hk]
theorem Does.behind{P:Program}{ρ1:List Value}{H1 H':List (Ob K)}(h:Step D H.length ρ S H w ρ1 S H1 w)(hl:H.length<=H1.length){s:Sem Next}{v:AV K}(d:Does D P ρ1 S H1 w s v H'):Does D P ρ S H w s v H':=by
 obtain⟨n,u,w',ρ',e1,e2,e3,e4,e5⟩:=d;exact⟨n,u,w',ρ',e1,e2,e3,e4,h.trans (e5.weaken hl)⟩
theorem afz{P:Program}(hs:aS D ρ S w H){t:TypeId}{n h off:Nat}{cs xs:List (AV K)}{X A:Value}(hn:fm P t=some n)(rC:xs.length=n)(h1:∀x∈X.cells.toList,x.oneCell'=true)
 (ho:H[h]?=some (.box cs)) (hoff:off+n<=cs.length) (hc:bh D ρ S w xs X.cells.toList) (hA:Rep D ρ S w (.ptr h off) A) (rQ:ku (setCells cs off xs)=true->ku cs=true):
 Does D P ρ S H w (do Instr.storeAt t A X;pure .skip) .any (H.set h (.box (setCells cs off xs))):=by
 obtain⟨b,rfl,hb⟩:=rm hA;obtain⟨b',vs,T,e,hblk,D7,hbT⟩:=hs.ob _ _ _ ho hb;simp only[Value.pointer.injEq,av,Addr.mk.injEq]at e;obtain⟨rfl,-,-⟩:=e;have hlen:X.cells.toList.length=n:=by rw[<-hc.1,rC]
 have hvs:cs.length=vs.size:=by simpa using D7.1
 obtain⟨w',vs',e1,e2,e3,e4,e5,e6,e7,e8⟩:=wd (P:=P) (b:=b) (o:=off) X.cells.toList 0 vs w hblk (by omega) (fun k _ _ hh=>by have:=hh.2;simp at this) h1;rw[Nat.add_zero]at e3;have hnS:¬S b:=(hs.lt b ⟨h,_,_,ho,rfl,hb,rfl⟩).2;refine⟨.skip,undef,w',ρ,?_,.inr ⟨rfl,rfl⟩,hs.turn ho rfl hb rfl e4 e5 (fun _ h=>h) ?_,.any _,Step.turn hs ho rfl hb rfl e4 e5 (fun _ h=>h) e6 e7 e8⟩
 ·have:(storeVar t ⟨b,off,none⟩ X).run P w=.ok () w':=by rw[I3 hn (by simpa using hlen)];exact e1
  simp[Instr.storeAt,Instr.sureAddr,this]
 ·refine⟨b,vs',T,rfl,e2,?_,fun h=>hbT (rQ h)⟩;rw[e3];exact(hc.gq off D7).mono (fun _ h=>h) (fun k hk=>e5 k (fun e=>by subst e;exact hnS hk)) (fun _ _ h=>h)
theorem afA{P:Program}(hD:bR D)(hs:aS D ρ S w H){t:TypeId}{n h i off:Nat}{c:K.U}{l:List (K.El c)}{y:K.El c}{x:AV K}{X A:Value}(hn:fm P t=some n)(rC:x.cw.length=n)
 (h1:x.cw.all AV.one=true) (ho:H[h]?=some (.arr c l)) (hoff:off+n<=K.sz c) (hcl:g9 x.cw=true) (hdec:D.dec c (setCells (D.cells c (l.getD i (K.zero c))) off x.cw)=some (y,true))
 (hx:Rep D ρ S w x X) (hA:Rep D ρ S w (.ep h (K.sz c) i off) A):Does D P ρ S H w (do Instr.storeAt t A X;pure .skip) .any (H.set h (.arr c (l.set i y))):=by
 obtain⟨b,o,m,cp,rfl,hb,hi⟩:=tX hA;rcases wO hs ho hb with⟨e,-⟩|⟨b',o',cap,vs,T,fr,e,hblk,⟨hcap,fU⟩,hsz,hfr,hall⟩
 ·cases e
 ·simp only[Value.slice.injEq,av,Addr.mk.injEq]at e;obtain⟨⟨rfl,rfl,-⟩,rfl,rfl⟩:=e;have hc:=lQ hx (IZ h1);have hlen:X.cells.toList.length=n:=by rw[<-hc.1,rC]
  have hmul:(i+1)*K.sz c<=cp*K.sz c:=ga _ (by omega);rw[gP,il]at hmul;obtain⟨w',vs',e1,e2,e3,e4,e5,e6,e7,e8⟩:=wd (P:=P) (b:=b) (o:=o+i*K.sz c+off) X.cells.toList 0 vs w hblk (by omega) (fun k hk hk'=>hfr k (by omega) (by omega)) (Dn hc h1);rw[Nat.add_zero]at e3;have hnS:¬S b:=(hs.lt b ⟨h,_,_,ho,rfl,hb,rfl⟩).2;refine⟨.skip,undef,w',ρ,?_,.inr ⟨rfl,rfl⟩,hs.turn ho rfl hb rfl e4 e5 (fun _ h=>h) ?_,.any _,Step.turn hs ho rfl hb rfl e4 e5 (fun _ h=>h) e6 e7 e8⟩
  ·have:(storeVar t ⟨b,o+i*K.sz c+off,none⟩ X).run P w=.ok () w':=by rw[I3 hn (by simpa using hlen)];exact e1
   simp[Instr.storeAt,Instr.sureAddr,this]
  ·have hsize:vs'.size=vs.size:=by have:=rB List.length e3;rw[tZ]at this;simpa using this
   refine .inr ⟨b,o,cp,vs',T,fr,by simp,e2,⟨by simpa using hcap,fU⟩,by omega,hfr,fun k z hz=>?_⟩;have hmono:∀{l:List (AV K)}{us:List Value},bh D ρ S w l us->bh D ρ S w' l us:=fun h=>h.mono (fun _ h=>h) (fun k hk=>e5 k (fun e=>by subst e;exact hnS hk)) (fun _ _ h=>h)
   rcases fj hz with⟨rfl,rfl,-⟩|⟨hk,hz⟩
   ·have hold:=hall k _ (getD_some (K.zero c) hi);rw[afG e3 (by rw[hlen];exact hoff) (by omega)];exact hmono (hD.dec c _ _ hdec ρ S w _ (hc.gq off hold))
   ·have hkl:k<l.length:=(bD.1 hz).1;rw[Ko e3]
    ·exact hmono (hall k z hz)
    ·rw[hlen];rcases cP k i with hlt|hge
     ·have:(k+1)*K.sz c<=i*K.sz c:=ga _ (by omega);rw[gP,il]at this;left;omega
     ·have:(i+1)*K.sz c<=k*K.sz c:=ga _ (by omega);rw[gP,il]at this;right;omega
theorem D5{P:Program}(hs:aS D ρ S w H){c:K.U}{l:List (K.El c)}{vs:Array Value}{T:TypeId}{fr:Nat×Nat}{cap:Nat}{w':World}(hw:w'.heap=w.heap.push (.cells vs T fr))
 (e1:w'.os=w.os) (e2:w'.tape=w.tape) (e3:w'.output=w.output) (hcap:l.length<=cap) (fU:im D c T 0) (hsz:cap*K.sz c<=vs.size) (hfr:∀k,k<cap*K.sz c->¬(fr.1<=k/\k<fr.2))
 (hall:∀i x,l[i]?=some x->bh D ρ S w (D.cells c x) (db vs (i*K.sz c) (K.sz c))) {s:Sem Next}
 (hrun:s.run P w=.ok (.value (.slice (some ⟨w.heap.size,0,none⟩) l.length cap)) w'):Does D P ρ S H w s (.sl H.length) (H++[.arr c l]):=by
 have hold:∀k,k<w.heap.size->w'.heap[k]?=w.heap[k]?:=fun k hk=>by rw[hw];exact rA hk
 have hpre:∀(h:Nat) r,ρ[h]?=some r->(ρ++[.slice (some ⟨w.heap.size,0,none⟩) l.length cap])[h]?=some r:=fun _ _ h=>tN h
 have hsize:w'.heap.size=w.heap.size+1:=by rw[hw];simp
 refine⟨_,_,_,ρ++[.slice (some ⟨w.heap.size,0,none⟩) l.length cap],hrun,.inl rfl,hs.new (by omega) hold ?_ ?_,.sl ?_,Step.new hs (by omega) hold ?_ e1 e2 e3⟩
 ·refine .inr ⟨_,0,cap,vs,T,fr,rfl,by rw[hw];exact ub _ _,⟨hcap,fU⟩,by omega,fun k _ hk=>hfr k (by omega),fun i x hx=>?_⟩;rw[jq];exact(hall i x hx).mono (fun _ h=>h) (fun b hb=>hold b (hs.slt b hb)) hpre
 ·intro b hb;simp[cJ,lT]at hb;omega
 ·rw[eR (by rw[hs.len];exact fh _)];simp[hs.len]
 ·intro b hb;simp[cJ,lT]at hb;omega
theorem afF{P:Program}(hs:aS D ρ S w H){c:K.U}{l:List (K.El c)}{vs:Array Value}{T:TypeId}{fr:Nat×Nat}{w':World}(hw:w'.heap=w.heap.push (.cells vs T fr))
 (e1:w'.os=w.os) (e2:w'.tape=w.tape) (e3:w'.output=w.output)
 (hall:∀i x,l[i]?=some x->bh D ρ S w (D.cells c x) (db vs (i*K.sz c) (K.sz c))):
 aS D ρ (fun b=>S b\/b=w.heap.size) w' H/\Rep D ρ (fun b=>S b\/b=w.heap.size) w' (.an c l) (.slice (some ⟨w.heap.size,0,none⟩) l.length l.length)/\Step D H.length ρ S H w ρ (fun b=>S b\/b=w.heap.size) H w':=by
 have hold:∀k,k<w.heap.size->w'.heap[k]?=w.heap[k]?:=fun k hk=>by rw[hw];exact rA hk
 have hnew:w'.heap[w.heap.size]?=some (.cells vs T fr):=by rw[hw];exact ub _ _
 have hsize:w'.heap.size=w.heap.size+1:=by rw[hw];simp
 have hs2:=hs.world (w':=w') (by omega) (fun b hb=>hold b (hs.lt b hb).1) (fun b hb=>hold b (hs.slt b hb));have hO:∀b,Own D w' ρ H b->Own D w ρ H b:=fun b hb=>hb.old fun b hb=>hold b (hs.lt b hb).1
 refine⟨⟨hs.len,fun k o r g1 g2=>(hs2.ob k o r g1 g2).mono (fun _ h=>.inl h) (fun _ _=>rfl) (fun _ _ h=>h) (fun _ _ _=>rfl),hs2.eV,fun b hb=>⟨(hs2.lt b hb).1,fun hS=>?_⟩,fun b hb=>?_,D.base.mono (fun _ h=>.inl h) (fun _ _=>rfl) hs2.base⟩,?_,
  ⟨e1,e2,e3,by omega,fun b hb _=>hold b hb,fun b hb=>.inl (hO b hb),fun _ h=>.inl h,fun b hb=>?_,fun _ _=>rfl⟩⟩
 ·rcases hS with h|h
  ·exact(hs.lt b (hO b hb)).2 h
  ·have:=(hs.lt b (hO b hb)).1;omega
 ·rcases hb with h|h
  ·have:=hs.slt b h;omega
  ·omega
 ·refine .an (fun i=>db vs (i*K.sz c) (K.sz c)) (.inr rfl) (fh _) (fun i x hx=>(hall i x hx).1.symm) (fun i _=>?_) (fun i x hx j v y hv hy=>?_)
  ·rw[jq];intro j v hv;simp only[db,fa,iY]at hv;split at hv
   ·simp[World.cell?,hnew];simpa using hv
   ·cases hv
  ·exact((hall i x hx).2 j v y hv hy).mono (fun _ h=>.inl h) (fun b hb=>hold b (hs.slt b hb)) (fun _ _ h=>h)
 ·rcases hb with h|h
  ·exact .inl h
  ·exact .inr (.inr (by omega))
theorem OC{z:Array Value}{n i sz:Nat}(hz:z.size=sz)(h:i<n):db (madeCells z (n*sz)) (i*sz) sz=z.toList:=by
 have hmul:(i+1)*sz<=n*sz:=ga _ h;rw[gP,il]at hmul;apply lh;intro k;simp only[db,fa,iY,madeCells,Array.toList_map,Array.toList_range,ik];by_cases hk:k<sz
 ·rw[aY hk,List.getElem?_range (by omega)];simp only[iC];rw[show(i*sz+k)%z.size=k by rw[hz,wu,Nat.add_mul_mod_self_right,Nat.mod_eq_of_lt hk]];rw[cH (by simpa [hz]using hk)];rw[yR z k (by omega)];simp
 ·rw[aT hk,hZ (by simp;omega)]
end Go.V
namespace Go.V
open Go
variable {K :dh}{D:bH K}{ρ:List Value}{S:Nat->Prop}{w:World}{H:List (Ob K)}
theorem kB{α:Type}{P:Program}{x:Sem α}{f:α->Next}{a:α}{w':World}(h:x.run P w=.ok a w'):(do pure (f (<-x)):Sem Next).run P w=.ok (f a) w':=by simp[h]
theorem rz{P:Program}{t e:TypeId}(h:elemOf? P t=some e):P.underlying t=some (.slice e):=by
 unfold elemOf? at h;split at h
 ·simp only[av]at h;subst h;assumption
 ·cases h
theorem ry{P:Program}{t:TypeId}{n:Nat}(h:fm P t=some n):∃i,P.info? t=some i/\i.size=n:=by
 unfold fm at h;cases hi:P.info? t with
 |none=>simp[hi]at h
 |some i=>simp[hi]at h;exact⟨i,rfl,h⟩
theorem Dh{P:Program}{e:TypeId}{i:TypeInfo}(h:room e P=true)(hi:P.info? e=some i):i.bytes<=4096:=by
 unfold room at h;rw[hi]at h;simpa using h
theorem Df{P:Program}{t:TypeId}{z:AV K}{i:TypeInfo}(h:zeroOf P t=some z)(hi:P.info? t=some i):∃v,i.zero=some v/\lN v=some z:=by
 unfold zeroOf at h;rw[hi]at h;cases hz:i.zero with
 |none=>simp[hz]at h
 |some v=>simp[hz]at h;exact⟨v,rfl,h⟩
theorem Dj{P:Program}{t:TypeId}{i:TypeInfo}(h:nf P t=true)(hi:P.info? t=some i):∃v,i.zero=some v/\v.cells.size=i.size:=by
 unfold nf at h;rw[hi]at h;cases hz:i.zero with
 |none=>simp[hz]at h
 |some v=>simp[hz]at h;exact⟨v,rfl,h⟩
theorem afB{P:Program}(hD:bR D)(hs:aS D ρ S w H){t e:TypeId}{c:K.U}{z:AV K}{y:K.El c}{kl kc:IntKind}{n m:Int}(ht:elemOf? P t=some e)(hsz:fm P e=some (K.sz c))(hroom:room e P=true)
 (hz:zeroOf P e=some z) (hk:z.known=true) (hdec:D.dec c z.cw=some (y,true)) (h0:0<=n) (h1:n<=m) (h2:m<=1073741824) (fU:im D c e 0):
 Does D P ρ S H w (do pure (.value (<-Instr.makeSlice t (.int kl n) (.int kc m)))) (.sl H.length) (H++[.arr c (List.replicate n.toNat y)]):=by
 obtain⟨i,hi,hisz⟩:=ry hsz;obtain⟨v,hv,hov⟩:=Df hz hi;have hb:=Dh hroom hi;have hrz:bh D ρ S w (D.cells c y) v.cells.toList:=hD.dec c _ _ hdec ρ S w _ (lQ (v7 v z hov) hk);have hvs:v.cells.size=K.sz c:=by have:=hrz.1;rw[hD.len]at this;simpa using this.symm
 have hmul:(i.bytes:Int)*m<=4096*1073741824:=Int.mul_le_mul (by omega) h2 (by omega) (by omega);have hrun:=run_make (P:=P) w t e i v (rz ht) hi hv kl kc n m h0 h1 (by omega) (by omega);rw[hisz]at hrun;refine D5 hs (c:=c) (l:=List.replicate n.toNat y) (vs:=madeCells v.cells (m.toNat*K.sz c)) (T:=e) (fr:=(0,0)) (cap:=m.toNat) (w':=w.alloc (.cells (madeCells v.cells (m.toNat*K.sz c)) e)) rfl rfl rfl rfl (by simp;omega) fU (by rw[size_madeCells];exact fh _) (fun k _ hh=>by have:=hh.2;simp at this)
  (fun j x hx=>?_) (by rw[Di];exact kB (f:=.value) hrun)
 have hj:j<n.toNat:=by have:=(bD.1 hx).1;simpa using this
 have hxy:x=y:=by
  rw[m8]at hx;split at hx
  ·simpa using hx.symm
  ·rename_i hn;exact absurd hj hn
 rw[hxy,OC hvs (by omega)];exact hrz
theorem Qq(off:Nat):∀(xs:List Value)(j:Nat)(cs:Array Value),((xs.zipIdx j).foldl (fun cs (cj:Value×Nat)=>cs.setIfInBounds (off+cj.2) cj.1) cs).toList=gq cs.toList (off+j) xs
 |[],j,cs=>rfl
 |x::r,j,cs=>by
  rw[List.zipIdx_cons,List.foldl_cons,Qq off r (j+1) _,gq,Array.toList_setIfInBounds,oh]
theorem afI(off:Nat)(xs cs:Array Value):(xs.zipIdx.foldl (fun cs (x:Value×Nat)=>match x with|(c,j)=>cs.setIfInBounds (off+j) c) cs).toList=gq cs.toList off xs.toList:=by
 rw[<-Array.foldl_toList,Array.toList_zipIdx];exact Qq off xs.toList 0 cs
theorem Qr{place:Nat->Option (Nat×Nat)}{cells:Array Value}{i off size:Nat}{v:Value}{rest:List (Nat×Value)}(hp:place i=some (off,size))(hv:v.cells.size=size)(hle:off+size<=cells.size):
 Instr.fill place cells ((i,v)::rest)=Instr.fill place (gq cells.toList off v.cells.toList).toArray rest:=by
 simp only[Instr.fill,hp];rw[aT (by simp[hv];omega)];congr 1;apply Array.ext';rw[afI]
theorem Qs{places:List (Nat×Nat)}{ev:Operand->AV K}{ρe:Operand->Value}(hev:∀x,Rep D ρ S w (ev x) (ρe x)):∀(parts:List (Nat×Operand))(cs cs':List (AV K))(vs:Array Value),wy places ev cs parts=some cs'->
 bh D ρ S w cs vs.toList->∃vs',Instr.fill (places.toArray[·]?) vs (parts.map fun p=>(p.1,ρe p.2))=some vs'/\bh D ρ S w cs' vs'.toList
 |[],cs,cs',vs,h,hr=>by simp[wy]at h;subst h;exact⟨vs,rfl,hr⟩
 |(i,x)::r,cs,cs',vs,h,hr=>by
  simp only[wy]at h;split at h
  ·rename_i off n hp;split at h
   ·rename_i hc;obtain⟨hk,hl,hle⟩:=hc;have hx:=lQ (hev x) hk;have hsz:(ρe x).cells.size=n:=by have:=hx.1;simp at this;omega
    have hvl:vs.size=cs.length:=by have:=hr.1;simp at this;omega
    obtain⟨vs',e1,e2⟩:=Qs hev r _ cs' (gq vs.toList off (ρe x).cells.toList).toArray h (by simpa using hx.gq off hr);refine⟨vs',?_,e2⟩;rw[eG,Qr (by simpa using hp) hsz (by omega)];exact e1
   ·cases h
  ·cases h
theorem afy{P:Program}{ev:Operand->AV K}{ρe:Operand->Value}(hev:∀x,Rep D ρ S w (ev x) (ρe x)){t:TypeId}{ps:List (Nat×Nat)}{z:AV K}{parts:Array (Nat×Operand)}{cs:List (AV K)}
 (hps:placesOf P t=some ps) (hz:zeroOf P t=some z) (hk:z.known=true) (h:wy ps ev z.cw parts.toList=some cs):
 ∃u,(Instr.build t (parts.map fun(i,x)=>(i,ρe x))).run P w=.ok u w/\Rep D ρ S w (.agg cs) u:=by
 unfold placesOf at hps;split at hps
 ·rename_i fs hu;have hi:∃i,P.info? t=some i:=by
   unfold zeroOf at hz;cases h:P.info? t with
   |none=>simp[h]at hz
   |some i=>exact⟨i,rfl⟩
  obtain⟨i,hi⟩:=hi;obtain⟨v,hv,hov⟩:=Df hz hi;obtain⟨vs',e1,e2⟩:=Qs hev parts.toList _ cs v.cells h (lQ (v7 v z hov) hk);refine⟨.agg vs',run_build w t _ vs' ?_,?_⟩
  ·simp only[Program.built,hi,hu,hv,hps];rw[<-e1];congr 1;simp
  ·have:=Rep.agg e2.1 e2.2;simpa using this
 ·cases hps
theorem afJ{cs:List Value}{p n:Nat}{xs:List Value}(h1:xs.length=n)(h2:p+n<=cs.length):db (gq cs p xs).toArray p n=xs:=by
 apply lh;intro k;simp only[db,fa,iY];rw[rx _ _ _ _ (by omega)];by_cases hk:k<n
 ·rw[aY hk,aY (by omega)];congr 1;omega
 ·rw[aT hk,hZ (by omega)]
theorem IQ{sz:Nat}:∀(vs:List Value)(k:Nat)(cs:Array Value),(∀v∈vs,v.cells.size=sz)->(k+vs.length)*sz<=cs.size->
 ∃cs',Instr.fill (fun i=>some (i*sz,sz)) cs ((vs.zipIdx k).map fun p=>(p.2,p.1))=some cs'/\cs'.size=cs.size/\(∀i,i<k->db cs' (i*sz) sz=db cs (i*sz) sz)/\∀j v,vs[j]?=some v->db cs' ((k+j)*sz) sz=v.cells.toList
 |[],k,cs,_,_=>⟨cs,rfl,rfl,fun _ _=>rfl,fun j v h=>by simp at h⟩
 |v::r,k,cs,h1,h2=>by
  have hv:=h1 v (by simp);simp only[ak]at h2;have h2':(k+1)*sz<=cs.size:=lU (ga _ (by omega)) h2;rw[gP,il]at h2';obtain⟨cs',e1,e2,e3,e4⟩:=IQ r (k+1) (gq cs.toList (k*sz) v.cells.toList).toArray (fun u hu=>h1 u (by simp[hu])) (by simp[tZ];rw[show k+1+r.length=k+(r.length+1) by omega];exact h2);refine⟨cs',?_,by simpa [tZ]using e2,fun i hi=>?_,fun j u hu=>?_⟩
  ·rw[List.zipIdx_cons,eG,Qr rfl hv (by omega)];exact e1
  ·rw[e3 i (by omega)];have:(i+1)*sz<=k*sz:=ga _ (by omega);rw[gP,il]at this;exact Ko (by simp;rfl) (.inl this)
  ·cases j with
   |zero=>
    simp at hu;subst hu;rw[Nat.add_zero,e3 k (by omega)];exact afJ (by simpa using hv) (by simpa using h2')
   |succ j=>
    have:=e4 j u (by simpa using hu);rw[<-this];congr 2;omega
theorem Dk{ev:Operand->AV K}:∀(parts:List (Nat×Operand))(k:Nat)(l:List (AV K)),inOrder ev k parts=some l->l=parts.map (fun p=>ev p.2)/\parts.map (·.1)=List.range' k parts.length
 |[],k,l,h=>by simp[inOrder]at h;subst h;simp
 |(i,x)::r,k,l,h=>by
  simp only[inOrder]at h;split at h
  ·rename_i hk;subst hk;simp only[dy]at h;obtain⟨m,hm,rfl⟩:=h;obtain⟨e1,e2⟩:=Dk r (i+1) m hm;exact⟨by simp[e1],by simp[e2,List.range'_succ]⟩
  ·cases h
theorem IS:∀(parts:List (Nat×Operand))(ρe:Operand->Value)(k:Nat),parts.map (·.1)=List.range' k parts.length->parts.map (fun p=>(p.1,ρe p.2))=((parts.map fun p=>ρe p.2).zipIdx k).map fun p=>(p.2,p.1)
 |[],_,_,_=>rfl
 |(i,x)::r,ρe,k,h=>by
  simp only[eG,ak,List.range'_succ,List.cons.injEq]at h;obtain⟨rfl,h⟩:=h;simp only[eG,List.zipIdx_cons,List.cons.injEq,true_and];exact IS r ρe (i+1) h
theorem IU:∀(l:List (AV K))(c:K.U)(y:List (K.El c)),oe D c l=some (y,true)->y.length=l.length/\∀(i:Nat) v x,l[i]?=some v->y[i]?=some x->D.dec c v.cw=some (x,true)
 |[],c,y,h=>by simp[oe]at h;subst h;exact⟨rfl,fun i v x h=>by simp at h⟩
 |u::r,c,y,h=>by
  simp only[oe]at h;split at h
  ·rename_i x b m b' hx hm;simp only[av,aZ,cG]at h;obtain⟨rfl,rfl,rfl⟩:=h;obtain⟨e1,e2⟩:=IU r c m hm;refine⟨by simp[e1],fun i v z hv hz=>?_⟩;cases i with
   |zero=>simp at hv hz;subst hv;subst hz;exact hx
   |succ i=>exact e2 i v z (by simpa using hv) (by simpa using hz)
  ·cases h
theorem Qp{P:Program}(hD:bR D)(hs:aS D ρ S w H){ev:Operand->AV K}{ρe:Operand->Value}(hev:∀x,Rep D ρ S w (ev x) (ρe x)){t e:TypeId}{c:K.U}{len:Nat}{parts:Array (Nat×Operand)}{l:List (AV K)}{y:List (K.El c)}
 (ht:elemOf? P t=some e) (hsz:fm P e=some (K.sz c)) (hz:nf P e=true) (hl:inOrder ev 0 parts.toList=some l) (hlen:l.length=len) (h1:len<=4096) (h2:K.sz c<=4096)
 (hall:l.all (fun v=>g9 v.cw&&(v.known&&decide (v.cw.length=K.sz c)))=true) (hdec:oe D c l=some (y,true)):
 ∃cs':Array Value,(do pure (.value (<-Instr.buildSlice t len (parts.map fun(i,x)=>(i,ρe x)))):Sem Next).run P w=.ok (.value (.slice (some ⟨w.heap.size,0,none⟩) y.length y.length)) (w.alloc (.cells cs' e))/\y.length*K.sz c<=cs'.size/\
  ∀i x,y[i]?=some x->bh D ρ S w (D.cells c x) (db cs' (i*K.sz c) (K.sz c)):=by
 obtain⟨i,hi,hisz⟩:=ry hsz;obtain⟨zv,hzv,-⟩:=Dj hz hi;obtain⟨el,er⟩:=Dk _ _ _ hl;obtain⟨dl,dd⟩:=IU l c y hdec;have hpl:parts.toList.length=len:=by rw[<-hlen,el];simp
 have hmul:len*K.sz c<=4096*4096:=Nat.mul_le_mul h1 h2;have hget:∀(j:Nat) v,l[j]?=some v->g9 v.cw=true/\v.known=true/\v.cw.length=K.sz c:=fun j v hv=>by
  have:=fN.1 hall v (eN hv);simpa using this
 generalize hus:parts.toList.map (fun p=>ρe p.2)=us;have hrel:∀(j:Nat) v u,l[j]?=some v->us[j]?=some u->Rep D ρ S w v u:=fun j v u hv hu=>by
  rw[el]at hv;rw[<-hus]at hu;simp only[ik,dy]at hv hu;obtain⟨p,hp,rfl⟩:=hv;obtain⟨q,hq,rfl⟩:=hu;rw[hp]at hq;simp at hq;subst hq;exact hev _
 have yK:us.length=l.length:=by rw[<-hus,el];simp
 have hcs:∀u∈us,u.cells.size=K.sz c:=fun u hu=>by
  obtain⟨j,hj,rfl⟩:=vY hu;have hjl:j<l.length:=by omega
  obtain⟨-,hk,hn⟩:=hget j _ (cH hjl);have:=(lQ (hrel j _ _ (cH hjl) (cH hj)) hk).1;rw[hn]at this;simpa using this.symm
 let zero:Array Value:=if len*K.sz c=0 then #[]else zv.cells
 obtain⟨cs',e1,e2,-,e4⟩:=IQ (sz:=K.sz c) us 0 ((Array.range (len*K.sz c)).map (zero[· %zero.size]!)) hcs (by simp[yK,hlen]);have hparts:(parts.map fun(x:Nat×Operand)=>match x with|(i,x)=>(i,ρe x)).toList=(us.zipIdx 0).map fun p=>(p.2,p.1):=by
  rw[<-hus,<-IS parts.toList ρe 0 (by rw[er])];simp
 have hrun:(Instr.buildSlice t len (parts.map fun(i,x)=>(i,ρe x))).run P w=.ok (.slice (some ⟨w.heap.size,0,none⟩) len len) (w.alloc (.cells cs' e)):=by
  have hsize:(sizeOf e).run P w=.ok (K.sz c) w:=pQ hsz;unfold Instr.buildSlice;rw[hparts];simp only[Sem.run_bind,gh (rz ht),Result.andThen_ok,hsize];rw[aT (by omega)];by_cases h0:len*K.sz c=0
  ·rw[aY h0];have e1':=e1;simp only[zero,aY h0]at e1';simp only[Sem.run_bind,Sem.run_pure,Result.andThen_ok,e1'];simp[newRow]
  ·rw[aT h0];have e1':=e1;simp only[zero,aT h0]at e1';have IT:(zeroValue e).run P w=.ok zv w:=by simp[zeroValue,typeInfo,hi,hzv]
   simp only[Sem.run_bind,Sem.run_pure,Result.andThen_ok,IT,e1'];simp[newRow]
 have hyl:y.length=len:=by rw[dl,hlen]
 refine⟨cs',by rw[hyl];exact kB (f:=.value) hrun,by rw[hyl,e2];simp,fun j x hx=>?_⟩;have hj:j<l.length:=by rw[<-dl];exact(bD.1 hx).1
 have Kr:=cH hj;have pR:=cH (show j<us.length by omega);obtain⟨-,hk,-⟩:=hget j _ Kr;have:=e4 j _ pR;rw[jq]at this;rw[this];exact hD.dec c _ _ (dd j _ _ Kr hx) ρ S w _ (lQ (hrel j _ _ Kr pR) hk)
theorem afC{P:Program}(hD:bR D)(hs:aS D ρ S w H){ev:Operand->AV K}{ρe:Operand->Value}(hev:∀x,Rep D ρ S w (ev x) (ρe x)){t e:TypeId}{c:K.U}{len:Nat}{parts:Array (Nat×Operand)}{l:List (AV K)}{y:List (K.El c)}
 (ht:elemOf? P t=some e) (hsz:fm P e=some (K.sz c)) (hz:nf P e=true) (hl:inOrder ev 0 parts.toList=some l) (hlen:l.length=len) (h1:len<=4096) (h2:K.sz c<=4096)
 (hall:l.all (fun v=>g9 v.cw&&(v.known&&decide (v.cw.length=K.sz c)))=true) (hdec:oe D c l=some (y,true)) (fU:im D c e 0):
 Does D P ρ S H w (do pure (.value (<-Instr.buildSlice t len (parts.map fun(i,x)=>(i,ρe x))))) (.sl H.length) (H++[.arr c y]):=by
 obtain⟨cs',hrun,hcs,hseg⟩:=Qp hD hs hev ht hsz hz hl hlen h1 h2 hall hdec;exact D5 hs (c:=c) (l:=y) (vs:=cs') (T:=e) (fr:=(0,0)) (cap:=y.length) (w':=w.alloc (.cells cs' e)) rfl rfl rfl rfl (fh _) fU hcs (fun k _ hh=>by have:=hh.2;simp at this) hseg hrun
end Go.V
