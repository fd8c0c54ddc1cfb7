/-
  OPERATIONS THAT MAKE OBJECTS OR TURN THEM.
-/
import Derived.Test.YtdehjkmaaljlpaaGreatDoorXWgA
import Derived.Laws.MakeOwn
import Derived.Laws.Append
set_option linter.unusedVariables false
namespace Go.V
open Go
variable {K :db}{D:bP K}{ρ:List Value}{S:Nat->Prop}{w:World}{H:List (Ob K)}
theorem one_cell{v:AV K}{X:Value}(h:Rep D ρ S w v X)(h1:v.one=true):X.oneCell'=true:=by
 cases h<;>first|rfl|cases h1
theorem QP{l:List (AV K)}{vs:List Value}(h:bE D ρ S w l vs)(h1:l.all AV.one=true):∀x∈vs,x.oneCell'=true:=fun x hx=>by
 obtain⟨i,hi,rfl⟩:=pK hx;have hl:i<l.length:=by rw[h.1];exact hi
 exact one_cell (h.2 i l[i] _ (ct hl) (ct hi)) (dz.1 h1 _ (bG hl))
theorem nL{v:AV K}{X:Value}(h:Rep D ρ S w v X)(hk:v.known=true):bE D ρ S w v.df X.cells.toList:=by
 cases h with
 |any=>cases hk
 |agg hl hr=>exact⟨hl,hr⟩
 |int k n=>exact .cons (.int k n) .nil
 |bool b=>exact .cons (.bool b) .nil
 |str s=>exact .cons (.str s) .nil
 |dt=>exact .cons .dt .nil
 |dj=>exact .cons .dj .nil
 |mp r=>exact .cons (.mp r) .nil
 |fn hl hr=>exact .cons (.fn hl hr) .nil
 |ko=>exact .cons .ko .nil
 |np hp=>exact .cons (.np hp) .nil
 |ptr hp=>exact .cons (.ptr hp) .nil
 |sl hp=>exact .cons (.sl hp) .nil
 |ep hp hi=>exact .cons (.ep hp hi) .nil
 |vw hp h1 h2 ha=>exact .cons (.vw hp h1 h2 ha) .nil
 |eM a cap=>exact .cons (.eM a cap) .nil
 |ah val h1 h2 h3 h4 h5=>exact .cons (.ah val h1 h2 h3 h4 h5) .nil
 |rp vs h1 h2 h3 h4=>exact .cons (.rp vs h1 h2 h3 h4) .nil
 |bU hl hr=>exact .cons (.bU hl hr) .nil
theorem akI{v:AV K}(h:v.df.all AV.one=true):v.known=true:=by
 cases v<;>first|rfl|simp[AV.df,AV.one]at h
theorem uu{w:World}{o:Obj}{k:Nat}(h:k<w.heap.size):(w.heap.push o)[k]?=w.heap[k]?:=by rw[Array.getElem?_push,av (by omega)]
theorem wT(h:Array Obj)(o:Obj):(h.push o)[h.size]?=some o:=by rw[Array.getElem?_push,aE rfl]
def Does(D:bP K)(P:Program)(ρ:List Value)(S:Nat->Prop)(H:List (Ob K))(w:World)(s:Sem Next)(v:AV K)(H':List (Ob K)):Prop:=
 ∃n u w' ρ',s.run P w=.ok n w'/\((n=.value u)\/(n=.skip/\u=undef))/\aY D ρ' S w' H'/\Rep D ρ' S w' v u/\Step D H.length ρ S H w ρ' S H' w'
theorem xG{cx:Cx K}{e:TypeId}{c:K.U}(h:uf cx e=some c):kA cx.D c e 0:=by
 intro t ht;unfold uf at h;split at h
 ·split at h
  ·rename_i hel;simp only[aD]at h;subst h;unfold ake at hel;rw[ht]at hel;exact⟨(de.1 hel).symm,rfl⟩
  ·cases h
 ·cases h
theorem aC1{T:TypeId}{h:Nat}{cs:List (AV K)}(hn:kC cs=false):QF D (Fp (D.rf==some T) h cs) T:=by
 intro hh;unfold Fp at hh;split at hh
 ·cases hb:(D.rf==some T)
  ·rw[hb]at hh;cases hh
  ·simpa using hb
 ·rw[hn]at hh;cases hh
theorem aC2{b:Bool}{h:Nat}{cs:List (AV K)}{vs:List Value}(hr:bE D ρ S w cs vs):bE D ρ S w (Fp b h cs) vs:=by
 unfold Fp;split
 ·obtain⟨u,t,rfl,h1,h2⟩:=hr.fE;cases h1;cases b
  ·exact .cons .dt h2
  ·exact .cons .ko h2
 ·exact hr
theorem QQ{P:Program}(hs:aY D ρ S w H){cs:List (AV K)}{vs:Array Value}{T:TypeId}(hr:bE D ρ S w cs vs.toList)(hT:QF D cs T){s:Sem Next}
 (hrun:s.run P w=.ok (.value (.pointer (some ⟨w.heap.size,0,none⟩))) (w.alloc (.cells vs T))):Does D P ρ S H w s (.ptr H.length 0) (H++[.box cs]):=by
 have hold:∀k,k<w.heap.size->(w.alloc (.cells vs T)).heap[k]?=w.heap[k]?:=fun k hk=>uu hk
 have hpre:∀(h:Nat) r,ρ[h]?=some r->(ρ++[.pointer (some ⟨w.heap.size,0,none⟩)])[h]?=some r:=fun _ _ h=>uo h
 refine⟨_,_,_,ρ++[.pointer (some ⟨w.heap.size,0,none⟩)],hrun,.inl rfl,hs.new (by simp) hold ?_ ?_,.ptr ?_,Step.new hs (by simp) hold ?_ rfl rfl rfl⟩
 ·exact⟨_,vs,T,rfl,wT _ _,hr.mono (fun _ h=>h) (fun b hb=>hold b (hs.slt b hb)) hpre,hT⟩
 ·intro b hb;simp[cu,iM]at hb;subst hb;simp
 ·rw[d5 (by rw[hs.len];exact bY _)];simp[hs.len]
 ·intro b hb;simp[cu,iM]at hb;omega
def gj(vs:List Value)(off:Nat):List Value->List Value
 |[]=>vs
 |v::r=>gj (vs.set off v) (off+1) r
theorem Ar(xs:List Value):∀(vs:List Value)(off:Nat),(gj vs off xs).length=vs.length:=by
 induction xs with
 |nil=>intro vs off;rfl
 |cons x r ih=>intro vs off;simp[gj,ih]
theorem bE.gj{l:List (AV K)}{xs:List Value}(h:bE D ρ S w l xs):∀{cs:List (AV K)}{vs:List Value}(off:Nat),bE D ρ S w cs vs->bE D ρ S w (setCells cs off l) (V.gj vs off xs):=by
 induction l generalizing xs with
 |nil=>intro cs vs off hc;rw[h.lS];exact hc
 |cons v r ih=>
  intro cs vs off hc;obtain⟨x,t,rfl,hx,ht⟩:=h.fE;exact ih ht (off+1) (hc.set hx)
theorem akJ(xs:List Value):∀(vs:List Value)(off k:Nat),(k<off\/off+xs.length<=k)->(gj vs off xs)[k]?=vs[k]?:=by
 induction xs with
 |nil=>intro vs off k _;rfl
 |cons x r ih=>
  intro vs off k h;simp only[aO]at h;rw[gj,ih _ _ _ (by omega),jy,av (by omega)]
theorem FT{P:Program}{b o:Nat}{T:TypeId}{fr:Nat×Nat}:∀(xs:List Value)(i:Nat)(vs:Array Value)(w:World),w.heap[b]?=some (.cells vs T fr)->o+i+xs.length<=vs.size->
 (∀k,o+i<=k->k<o+i+xs.length->¬(fr.1<=k/\k<fr.2))->(∀x∈xs,x.oneCell'=true)->
 ∃w' vs',(storeCells ⟨b,o,none⟩ xs i).run P w=.ok () w'/\w'.heap[b]?=some (.cells vs' T fr)/\vs'.toList=gj vs.toList (o+i) xs/\w'.heap.size=w.heap.size/\(∀k,k≠b->w'.heap[k]?=w.heap[k]?)/\
  w'.os=w.os/\w'.tape=w.tape/\w'.output=w.output
 |[],i,vs,w,hb,_,_,_=>⟨w,vs,rfl,hb,rfl,rfl,fun _ _=>rfl,rfl,rfl,rfl⟩
 |x::r,i,vs,w,hb,hsz,hfr,h1=>by
  simp only[aO]at hsz hfr;have hc:w.cell? ⟨b,o+i,none⟩=some vs[o+i]:=by simp[World.cell?,hb]
  have hf:w.frozen? ⟨b,o+i,none⟩=false:=by
   have:=hfr (o+i) (bY _) (by omega);simp only[World.frozen?,hb];simpa using this
  have hlt:b<w.heap.size:=(jd.1 hb).1;have hset:(w.setCell ⟨b,o+i,none⟩ x).heap[b]?=some (.cells (vs.setIfInBounds (o+i) x) T fr):=by
   simp[World.setCell,Array.getElem?_modify,hb]
  have hst:(store ⟨b,o+i,none⟩ x).run P w=.ok () (w.setCell ⟨b,o+i,none⟩ x):=by
   rw[run_store P w _ x .plain (h1 x (by simp))];simp[hc,hf]
  obtain⟨w',vs',e1,e2,e3,e4,e5,e6,e7,e8⟩:=FT (P:=P) (b:=b) (o:=o) (T:=T) (fr:=fr) r (i+1) _ _ hset (by simp;omega) (fun k hk hk'=>hfr k (by omega) (by omega)) (fun y hy=>h1 y (by simp[hy]));refine⟨w',vs',?_,e2,?_,?_,fun k hk=>?_,e6,e7,e8⟩
  ·simp only[storeCells,Sem.run_bind,add_plain,hst,Result.andThen_ok,e1]
  ·rw[e3,gj];simp[jY]
  ·rw[e4];simp[World.setCell]
  ·rw[e5 k hk];simp[World.setCell,Array.getElem?_modify,nk hk]
theorem akK{P:Program}{t:TypeId}{n:Nat}{a:Addr}{X:Value}(hn:fk P t=some n)(hX:X.cells.size=n):(storeVar t a X).run P w=(storeCells a X.cells.toList).run P w:=by
 simp[storeVar,nK hn,hX]
theorem As(xs:List Value):∀(vs:List Value)(off k:Nat),off+xs.length<=vs.length->(gj vs off xs)[k]?=if off<=k/\k<off+xs.length then xs[k-off]? else vs[k]?:=by
 induction xs with
 |nil=>intro vs off k _;rw[av (by first|omega|simp)];rfl
 |cons x r ih=>
  intro vs off k h;simp only[aO]at h;rw[gj,ih _ _ _ (by simp;omega)];by_cases h1:off+1<=k/\k<off+1+r.length
  ·rw[aE h1,aE (by simp;omega)];rw[show k-off=(k-(off+1))+1 by omega];rfl
  ·rw[av h1];by_cases h2:k=off
   ·subst h2;rw[aE (by simp)];rw[jy];simp;omega
   ·rw[av (by simp;omega),jy,av (by omega)]
theorem aC3{vs':Array Value}{vs:Array Value}{p off n:Nat}{xs:List Value}(h:vs'.toList=gj vs.toList (p+off) xs)(h1:off+xs.length<=n)(h2:p+n<=vs.size):
 cQ vs' p n=gj (cQ vs p n) off xs:=by
 apply qg;intro k;have hl:(cQ vs p n).length=n:=by simp[cQ];omega
 rw[As _ _ _ _ (by rw[hl];exact h1)];simp only[cQ,eI,iK,h];rw[As _ _ _ _ (by simp;omega)];by_cases hk:k<n
 ·rw[aE hk,aE hk];by_cases hc:off<=k/\k<off+xs.length
  ·rw[aE (by omega),aE hc];congr 1;omega
  ·rw[av (by omega),av hc]
 ·rw[av hk,av hk,av (by omega)]
theorem QR{vs':Array Value}{vs:Array Value}{p q n:Nat}{xs:List Value}(h:vs'.toList=gj vs.toList q xs)(h1:p+n<=q\/q+xs.length<=p):cQ vs' p n=cQ vs p n:=by
 apply qg;intro k;simp only[cQ,eI,iK,h];by_cases hk:k<n
 ·rw[aE hk,aE hk,akJ _ _ _ _ (by omega)]
 ·rw[av hk,av hk]
theorem Does.behind{P:Program}{ρ1:List Value}{H1 H':List (Ob K)}(h:Step D H.length ρ S H w ρ1 S H1 w)(hl:H.length<=H1.length){s:Sem Next}{v:AV K}(d:Does D P ρ1 S H1 w s v H'):Does D P ρ S H w s v H':=by
 obtain⟨n,u,w',ρ',e1,e2,e3,e4,e5⟩:=d;exact⟨n,u,w',ρ',e1,e2,e3,e4,h.trans (e5.weaken hl)⟩
theorem aC4{P:Program}(hs:aY D ρ S w H){t:TypeId}{n h off:Nat}{cs xs:List (AV K)}{X A:Value}(hn:fk P t=some n)(QS:xs.length=n)(h1:∀x∈X.cells.toList,x.oneCell'=true)
 (ho:H[h]?=some (.box cs)) (hoff:off+n<=cs.length) (hc:bE D ρ S w xs X.cells.toList) (hA:Rep D ρ S w (.ptr h off) A) (uv:kC (setCells cs off xs)=true->kC cs=true):
 Does D P ρ S H w (do Instr.storeAt t A X;pure .skip) .any (H.set h (.box (setCells cs off xs))):=by
 obtain⟨b,rfl,hb⟩:=tU hA;obtain⟨b',vs,T,e,hblk,LD,hbT⟩:=hs.ob _ _ _ ho hb;simp only[Value.pointer.injEq,aD,Addr.mk.injEq]at e;obtain⟨rfl,-,-⟩:=e;have hlen:X.cells.toList.length=n:=by rw[<-hc.1,QS]
 have hvs:cs.length=vs.size:=by simpa using LD.1
 obtain⟨w',vs',e1,e2,e3,e4,e5,e6,e7,e8⟩:=FT (P:=P) (b:=b) (o:=off) X.cells.toList 0 vs w hblk (by omega) (fun k _ _ hh=>by have:=hh.2;simp at this) h1;rw[Nat.add_zero]at e3;have hnS:¬S b:=(hs.lt b ⟨h,_,_,ho,rfl,hb,rfl⟩).2;refine⟨.skip,undef,w',ρ,?_,.inr ⟨rfl,rfl⟩,hs.turn ho rfl hb rfl e4 e5 (fun _ h=>h) ?_,.any _,Step.turn hs ho rfl hb rfl e4 e5 (fun _ h=>h) e6 e7 e8⟩
 ·have:(storeVar t ⟨b,off,none⟩ X).run P w=.ok () w':=by rw[akK hn (by simpa using hlen)];exact e1
  simp[Instr.storeAt,Instr.sureAddr,this]
 ·refine⟨b,vs',T,rfl,e2,?_,fun h=>hbT (uv h)⟩;rw[e3];exact(hc.gj off LD).mono (fun _ h=>h) (fun k hk=>e5 k (fun e=>by subst e;exact hnS hk)) (fun _ _ h=>h)
theorem aC6{P:Program}(hD:bW D)(hs:aY D ρ S w H){t:TypeId}{n h i off:Nat}{c:K.U}{l:List (K.El c)}{y:K.El c}{x:AV K}{X A:Value}(hn:fk P t=some n)(QS:x.df.length=n)
 (h1:x.df.all AV.one=true) (ho:H[h]?=some (.arr c l)) (hoff:off+n<=K.sz c) (hcl:gI x.df=true) (hdec:D.dec c (setCells (D.cells c (l.getD i (K.zero c))) off x.df)=some (y,true))
 (hx:Rep D ρ S w x X) (hA:Rep D ρ S w (.ep h (K.sz c) i off) A):Does D P ρ S H w (do Instr.storeAt t A X;pure .skip) .any (H.set h (.arr c (l.set i y))):=by
 obtain⟨b,o,m,cp,rfl,hb,hi⟩:=Ap hA;rcases zx hs ho hb with⟨e,-⟩|⟨b',o',cap,vs,T,fr,e,hblk,⟨hcap,eV⟩,hsz,hfr,hall⟩
 ·cases e
 ·simp only[Value.slice.injEq,aD,Addr.mk.injEq]at e;obtain⟨⟨rfl,rfl,-⟩,rfl,rfl⟩:=e;have hc:=nL hx (akI h1);have hlen:X.cells.toList.length=n:=by rw[<-hc.1,QS]
  have hmul:(i+1)*K.sz c<=cp*K.sz c:=g9 _ (by omega);rw[ek,ij]at hmul;obtain⟨w',vs',e1,e2,e3,e4,e5,e6,e7,e8⟩:=FT (P:=P) (b:=b) (o:=o+i*K.sz c+off) X.cells.toList 0 vs w hblk (by omega) (fun k hk hk'=>hfr k (by omega) (by omega)) (QP hc h1);rw[Nat.add_zero]at e3;have hnS:¬S b:=(hs.lt b ⟨h,_,_,ho,rfl,hb,rfl⟩).2;refine⟨.skip,undef,w',ρ,?_,.inr ⟨rfl,rfl⟩,hs.turn ho rfl hb rfl e4 e5 (fun _ h=>h) ?_,.any _,Step.turn hs ho rfl hb rfl e4 e5 (fun _ h=>h) e6 e7 e8⟩
  ·have:(storeVar t ⟨b,o+i*K.sz c+off,none⟩ X).run P w=.ok () w':=by rw[akK hn (by simpa using hlen)];exact e1
   simp[Instr.storeAt,Instr.sureAddr,this]
  ·have hsize:vs'.size=vs.size:=by have:=wH List.length e3;rw[Ar]at this;simpa using this
   refine .inr ⟨b,o,cp,vs',T,fr,by simp,e2,⟨by simpa using hcap,eV⟩,by omega,hfr,fun k z hz=>?_⟩;have hmono:∀{l:List (AV K)}{us:List Value},bE D ρ S w l us->bE D ρ S w' l us:=fun h=>h.mono (fun _ h=>h) (fun k hk=>e5 k (fun e=>by subst e;exact hnS hk)) (fun _ _ h=>h)
   rcases ff hz with⟨rfl,rfl,-⟩|⟨hk,hz⟩
   ·have hold:=hall k _ (getD_some (K.zero c) hi);rw[aC3 e3 (by rw[hlen];exact hoff) (by omega)];exact hmono (hD.dec c _ _ hdec ρ S w _ (hc.gj off hold))
   ·have hkl:k<l.length:=(cz.1 hz).1;rw[QR e3]
    ·exact hmono (hall k z hz)
    ·rw[hlen];rcases cA k i with hlt|hge
     ·have:(k+1)*K.sz c<=i*K.sz c:=g9 _ (by omega);rw[ek,ij]at this;left;omega
     ·have:(i+1)*K.sz c<=k*K.sz c:=g9 _ (by omega);rw[ek,ij]at this;right;omega
theorem LH{P:Program}(hs:aY D ρ S w H){c:K.U}{l:List (K.El c)}{vs:Array Value}{T:TypeId}{fr:Nat×Nat}{cap:Nat}{w':World}(hw:w'.heap=w.heap.push (.cells vs T fr))
 (e1:w'.os=w.os) (e2:w'.tape=w.tape) (e3:w'.output=w.output) (hcap:l.length<=cap) (eV:kA D c T 0) (hsz:cap*K.sz c<=vs.size) (hfr:∀k,k<cap*K.sz c->¬(fr.1<=k/\k<fr.2))
 (hall:∀i x,l[i]?=some x->bE D ρ S w (D.cells c x) (cQ vs (i*K.sz c) (K.sz c))) {s:Sem Next}
 (hrun:s.run P w=.ok (.value (.slice (some ⟨w.heap.size,0,none⟩) l.length cap)) w') (hle:fr.1<=fr.2:=by first|exact bY _|exact Nat.le_succ _):Does D P ρ S H w s (.sl H.length) (H++[.arr c l]):=by
 have hold:∀k,k<w.heap.size->w'.heap[k]?=w.heap[k]?:=fun k hk=>by rw[hw];exact uu hk
 have hpre:∀(h:Nat) r,ρ[h]?=some r->(ρ++[.slice (some ⟨w.heap.size,0,none⟩) l.length cap])[h]?=some r:=fun _ _ h=>uo h
 have hsize:w'.heap.size=w.heap.size+1:=by rw[hw];simp
 refine⟨_,_,_,ρ++[.slice (some ⟨w.heap.size,0,none⟩) l.length cap],hrun,.inl rfl,hs.new (by omega) hold ?_ ?_,.sl ?_,Step.new hs (by omega) hold ?_ e1 e2 e3⟩
 ·refine .inr ⟨_,0,cap,vs,T,fr,rfl,by rw[hw];exact wT _ _,⟨hcap,eV,hle⟩,by omega,fun k _ hk=>hfr k (by omega),fun i x hx=>?_⟩;rw[dI];exact(hall i x hx).mono (fun _ h=>h) (fun b hb=>hold b (hs.slt b hb)) hpre
 ·intro b hb;simp[cu,iM]at hb;omega
 ·rw[d5 (by rw[hs.len];exact bY _)];simp[hs.len]
 ·intro b hb;simp[cu,iM]at hb;omega
theorem aC7{P:Program}(hs:aY D ρ S w H){c:K.U}{l:List (K.El c)}{vs:Array Value}{T:TypeId}{fr:Nat×Nat}{w':World}(hw:w'.heap=w.heap.push (.cells vs T fr))
 (e1:w'.os=w.os) (e2:w'.tape=w.tape) (e3:w'.output=w.output)
 (hall:∀i x,l[i]?=some x->bE D ρ S w (D.cells c x) (cQ vs (i*K.sz c) (K.sz c))):
 aY D ρ (fun b=>S b\/b=w.heap.size) w' H/\Rep D ρ (fun b=>S b\/b=w.heap.size) w' (.ah c l) (.slice (some ⟨w.heap.size,0,none⟩) l.length l.length)/\Step D H.length ρ S H w ρ (fun b=>S b\/b=w.heap.size) H w':=by
 have hold:∀k,k<w.heap.size->w'.heap[k]?=w.heap[k]?:=fun k hk=>by rw[hw];exact uu hk
 have hnew:w'.heap[w.heap.size]?=some (.cells vs T fr):=by rw[hw];exact wT _ _
 have hsize:w'.heap.size=w.heap.size+1:=by rw[hw];simp
 have hs2:=hs.world (w':=w') (by omega) (fun b hb=>hold b (hs.lt b hb).1) (fun b hb=>hold b (hs.slt b hb));have hO:∀b,Own D w' ρ H b->Own D w ρ H b:=fun b hb=>hb.old fun b hb=>hold b (hs.lt b hb).1
 refine⟨⟨hs.len,fun k o r g1 g2=>(hs2.ob k o r g1 g2).mono (fun _ h=>.inl h) (fun _ _=>rfl) (fun _ _ h=>h) (fun _ _ _=>rfl),hs2.eX,fun b hb=>⟨(hs2.lt b hb).1,fun hS=>?_⟩,fun b hb=>?_,D.base.mono (fun _ h=>.inl h) (fun _ _=>rfl) hs2.base⟩,?_,
  ⟨e1,e2,e3,by omega,fun b hb _=>hold b hb,fun b hb=>.inl (hO b hb),fun _ h=>.inl h,fun b hb=>?_,fun _ _=>rfl⟩⟩
 ·rcases hS with h|h
  ·exact(hs.lt b (hO b hb)).2 h
  ·have:=(hs.lt b (hO b hb)).1;omega
 ·rcases hb with h|h
  ·have:=hs.slt b h;omega
  ·omega
 ·refine .ah (fun i=>cQ vs (i*K.sz c) (K.sz c)) (.inr rfl) (bY _) (fun i x hx=>(hall i x hx).1.symm) (fun i _=>?_) (fun i x hx j v y hv hy=>?_)
  ·rw[dI];intro j v hv;simp only[cQ,eI,iK]at hv;split at hv
   ·simp[World.cell?,hnew];simpa using hv
   ·cases hv
  ·exact((hall i x hx).2 j v y hv hy).mono (fun _ h=>.inl h) (fun b hb=>hold b (hs.slt b hb)) (fun _ _ h=>h)
 ·rcases hb with h|h
  ·exact .inl h
  ·exact .inr (.inr (by omega))
theorem aC8{z:Array Value}{n i sz:Nat}(hz:z.size=sz)(h:i<n):cQ (madeCells z (n*sz)) (i*sz) sz=z.toList:=by
 have hmul:(i+1)*sz<=n*sz:=g9 _ h;rw[ek,ij]at hmul;apply qg;intro k;simp only[cQ,eI,iK,madeCells,Array.toList_map,Array.toList_range,f5];by_cases hk:k<sz
 ·rw[aE hk,List.getElem?_range (by omega)];simp only[pM];rw[show(i*sz+k)%z.size=k by rw[hz,Ff,Nat.add_mul_mod_self_right,Nat.mod_eq_of_lt hk]];rw[ct (by simpa [hz]using hk)];rw[Fa z k (by omega)];simp
 ·rw[av hk,m9 (by simp;omega)]
end Go.V
namespace Go.V
open Go
variable {K :db}{D:bP K}{ρ:List Value}{S:Nat->Prop}{w:World}{H:List (Ob K)}
theorem jo{α:Type}{P:Program}{x:Sem α}{f:α->Next}{a:α}{w':World}(h:x.run P w=.ok a w'):(do pure (f (<-x)):Sem Next).run P w=.ok (f a) w':=by simp[h]
theorem aC9{P:Program}(hs:aY D ρ S w H){T:TypeId}:Does D P ρ S H w (do pure (.value (<-Instr.makeMap T none))) .mp (H++[.dead]):=by
 have hold:∀k,k<w.heap.size->(w.alloc (.map #[] 0)).heap[k]?=w.heap[k]?:=fun k hk=>uu hk
 refine⟨_,_,_,ρ++[.bool false],jo (f:=.value) (by simp[Instr.makeMap,newObj];rfl),.inl rfl,hs.new (w':=w.alloc (.map #[] 0)) (by simp) hold trivial ?_,.mp _,Step.new hs (w':=w.alloc (.map #[] 0)) (by simp) hold ?_ rfl rfl rfl⟩
 ·intro b hb;simp[cu,iM]at hb
 ·intro b hb;simp[cu,iM]at hb
theorem qa{P:Program}{t e:TypeId}(h:elemOf? P t=some e):P.underlying t=some (.slice e):=by
 unfold elemOf? at h;split at h
 ·simp only[aD]at h;subst h;assumption
 ·cases h
theorem wR{P:Program}{t:TypeId}{n:Nat}(h:fk P t=some n):∃i,P.info? t=some i/\i.size=n:=by
 unfold fk at h;cases hi:P.info? t with
 |none=>simp[hi]at h
 |some i=>simp[hi]at h;exact⟨i,rfl,h⟩
theorem QT{P:Program}{e:TypeId}{i:TypeInfo}(h:room e P=true)(hi:P.info? e=some i):i.bytes<=4096:=by
 unfold room at h;rw[hi]at h;simpa using h
theorem QU{P:Program}{t:TypeId}{z:AV K}{i:TypeInfo}(h:zeroOf P t=some z)(hi:P.info? t=some i):∃v,i.zero=some v/\ly v=some z:=by
 unfold zeroOf at h;rw[hi]at h;cases hz:i.zero with
 |none=>simp[hz]at h
 |some v=>simp[hz]at h;exact⟨v,rfl,h⟩
theorem LI{P:Program}{t:TypeId}{i:TypeInfo}(h:nH P t=true)(hi:P.info? t=some i):∃v,i.zero=some v/\v.cells.size=i.size:=by
 unfold nH at h;rw[hi]at h;cases hz:i.zero with
 |none=>simp[hz]at h
 |some v=>simp[hz]at h;exact⟨v,rfl,h⟩
theorem aDa{P:Program}(hD:bW D)(hs:aY D ρ S w H){t e:TypeId}{c:K.U}{z:AV K}{y:K.El c}{kl kc:IntKind}{n m:Int}(ht:elemOf? P t=some e)(hsz:fk P e=some (K.sz c))(hroom:room e P=true)
 (hz:zeroOf P e=some z) (hk:z.known=true) (hdec:D.dec c z.df=some (y,true)) (h0:0<=n) (h1:n<=m) (h2:m<=1073741824) (eV:kA D c e 0):
 Does D P ρ S H w (do pure (.value (<-Instr.makeSlice t (.int kl n) (.int kc m)))) (.sl H.length) (H++[.arr c (List.replicate n.toNat y)]):=by
 obtain⟨i,hi,hisz⟩:=wR hsz;obtain⟨v,hv,hov⟩:=QU hz hi;have hb:=QT hroom hi;have hrz:bE D ρ S w (D.cells c y) v.cells.toList:=hD.dec c _ _ hdec ρ S w _ (nL (FO v z hov) hk);have hvs:v.cells.size=K.sz c:=by have:=hrz.1;rw[hD.len]at this;simpa using this.symm
 have hmul:(i.bytes:Int)*m<=4096*1073741824:=Int.mul_le_mul (by omega) h2 (by omega) (by omega);have hrun:=run_make (P:=P) w t e i v (qa ht) hi hv kl kc n m h0 h1 (by omega) (by omega);rw[hisz]at hrun;refine LH hs (c:=c) (l:=List.replicate n.toNat y) (vs:=madeCells v.cells (m.toNat*K.sz c)) (T:=e) (fr:=(0,0)) (cap:=m.toNat) (w':=w.alloc (.cells (madeCells v.cells (m.toNat*K.sz c)) e)) rfl rfl rfl rfl (by simp;omega) eV (by rw[size_madeCells];exact bY _) (fun k _ hh=>by have:=hh.2;simp at this)
  (fun j x hx=>?_) (by rw[List.length_replicate];exact jo (f:=.value) hrun)
 have hj:j<n.toNat:=by have:=(cz.1 hx).1;simpa using this
 have hxy:x=y:=by
  rw[mo]at hx;split at hx
  ·simpa using hx.symm
  ·rename_i hn;exact absurd hj hn
 rw[hxy,aC8 hvs (by omega)];exact hrz
theorem akL(off:Nat):∀(xs:List Value)(j:Nat)(cs:Array Value),((xs.zipIdx j).foldl (fun cs (cj:Value×Nat)=>cs.setIfInBounds (off+cj.2) cj.1) cs).toList=gj cs.toList (off+j) xs
 |[],j,cs=>rfl
 |x::r,j,cs=>by
  rw[List.zipIdx_cons,List.foldl_cons,akL off r (j+1) _,gj,Array.toList_setIfInBounds,jY]
theorem aDb(off:Nat)(xs cs:Array Value):(xs.zipIdx.foldl (fun cs (x:Value×Nat)=>match x with|(c,j)=>cs.setIfInBounds (off+j) c) cs).toList=gj cs.toList off xs.toList:=by
 rw[<-Array.foldl_toList,Array.toList_zipIdx];exact akL off xs.toList 0 cs
theorem akM{place:Nat->Option (Nat×Nat)}{cells:Array Value}{i off size:Nat}{v:Value}{rest:List (Nat×Value)}(hp:place i=some (off,size))(hv:v.cells.size=size)(hle:off+size<=cells.size):
 Instr.fill place cells ((i,v)::rest)=Instr.fill place (gj cells.toList off v.cells.toList).toArray rest:=by
 simp only[Instr.fill,hp];rw[av (by simp[hv];omega)];congr 1;apply Array.ext';rw[aDb]
theorem akN{places:List (Nat×Nat)}{ev:Operand->AV K}{ρe:Operand->Value}(hev:∀x,Rep D ρ S w (ev x) (ρe x)):∀(parts:List (Nat×Operand))(cs cs':List (AV K))(vs:Array Value),Ac places ev cs parts=some cs'->
 bE D ρ S w cs vs.toList->∃vs',Instr.fill (places.toArray[·]?) vs (parts.map fun p=>(p.1,ρe p.2))=some vs'/\bE D ρ S w cs' vs'.toList
 |[],cs,cs',vs,h,hr=>by simp[Ac]at h;subst h;exact⟨vs,rfl,hr⟩
 |(i,x)::r,cs,cs',vs,h,hr=>by
  simp only[Ac]at h;split at h
  ·rename_i off n hp;split at h
   ·rename_i hc;obtain⟨hk,hl,hle⟩:=hc;have hx:=nL (hev x) hk;have hsz:(ρe x).cells.size=n:=by have:=hx.1;simp at this;omega
    have hvl:vs.size=cs.length:=by have:=hr.1;simp at this;omega
    obtain⟨vs',e1,e2⟩:=akN hev r _ cs' (gj vs.toList off (ρe x).cells.toList).toArray h (by simpa using hx.gj off hr);refine⟨vs',?_,e2⟩;rw[eu,akM (by simpa using hp) hsz (by omega)];exact e1
   ·cases h
  ·cases h
theorem aDc{P:Program}{ev:Operand->AV K}{ρe:Operand->Value}(hev:∀x,Rep D ρ S w (ev x) (ρe x)){t:TypeId}{ps:List (Nat×Nat)}{z:AV K}{parts:Array (Nat×Operand)}{cs:List (AV K)}
 (hps:placesOf P t=some ps) (hz:zeroOf P t=some z) (hk:z.known=true) (h:Ac ps ev z.df parts.toList=some cs):
 ∃u,(Instr.build t (parts.map fun(i,x)=>(i,ρe x))).run P w=.ok u w/\Rep D ρ S w (.agg cs) u:=by
 unfold placesOf at hps;split at hps
 ·rename_i fs hu;have hi:∃i,P.info? t=some i:=by
   unfold zeroOf at hz;cases h:P.info? t with
   |none=>simp[h]at hz
   |some i=>exact⟨i,rfl⟩
  obtain⟨i,hi⟩:=hi;obtain⟨v,hv,hov⟩:=QU hz hi;obtain⟨vs',e1,e2⟩:=akN hev parts.toList _ cs v.cells h (nL (FO v z hov) hk);refine⟨.agg vs',run_build w t _ vs' ?_,?_⟩
  ·simp only[Program.built,hi,hu,hv,hps];rw[<-e1];congr 1;simp
  ·have:=Rep.agg e2.1 e2.2;simpa using this
 ·cases hps
theorem aDd{cs:List Value}{p n:Nat}{xs:List Value}(h1:xs.length=n)(h2:p+n<=cs.length):cQ (gj cs p xs).toArray p n=xs:=by
 apply qg;intro k;simp only[cQ,eI,iK];rw[As _ _ _ _ (by omega)];by_cases hk:k<n
 ·rw[aE hk,aE (by omega)];congr 1;omega
 ·rw[av hk,m9 (by omega)]
theorem QV{sz:Nat}:∀(vs:List Value)(k:Nat)(cs:Array Value),(∀v∈vs,v.cells.size=sz)->(k+vs.length)*sz<=cs.size->
 ∃cs',Instr.fill (fun i=>some (i*sz,sz)) cs ((vs.zipIdx k).map fun p=>(p.2,p.1))=some cs'/\cs'.size=cs.size/\(∀i,i<k->cQ cs' (i*sz) sz=cQ cs (i*sz) sz)/\∀j v,vs[j]?=some v->cQ cs' ((k+j)*sz) sz=v.cells.toList
 |[],k,cs,_,_=>⟨cs,rfl,rfl,fun _ _=>rfl,fun j v h=>by simp at h⟩
 |v::r,k,cs,h1,h2=>by
  have hv:=h1 v (by simp);simp only[aO]at h2;have h2':(k+1)*sz<=cs.size:=cD (g9 _ (by omega)) h2;rw[ek,ij]at h2';obtain⟨cs',e1,e2,e3,e4⟩:=QV r (k+1) (gj cs.toList (k*sz) v.cells.toList).toArray (fun u hu=>h1 u (by simp[hu])) (by simp[Ar];rw[show k+1+r.length=k+(r.length+1) by omega];exact h2);refine⟨cs',?_,by simpa [Ar]using e2,fun i hi=>?_,fun j u hu=>?_⟩
  ·rw[List.zipIdx_cons,eu,akM rfl hv (by omega)];exact e1
  ·rw[e3 i (by omega)];have:(i+1)*sz<=k*sz:=g9 _ (by omega);rw[ek,ij]at this;exact QR (by simp;rfl) (.inl this)
  ·cases j with
   |zero=>
    simp at hu;subst hu;rw[Nat.add_zero,e3 k (by omega)];exact aDd (by simpa using hv) (by simpa using h2')
   |succ j=>
    have:=e4 j u (by simpa using hu);rw[<-this];congr 2;omega
theorem LJ{ev:Operand->AV K}:∀(parts:List (Nat×Operand))(k:Nat)(l:List (AV K)),inOrder ev k parts=some l->l=parts.map (fun p=>ev p.2)/\parts.map (·.1)=List.range' k parts.length
 |[],k,l,h=>by simp[inOrder]at h;subst h;simp
 |(i,x)::r,k,l,h=>by
  simp only[inOrder]at h;split at h
  ·rename_i hk;subst hk;simp only[eN]at h;obtain⟨m,hm,rfl⟩:=h;obtain⟨e1,e2⟩:=LJ r (i+1) m hm;exact⟨by simp[e1],by simp[e2,List.range'_succ]⟩
  ·cases h
theorem QW:∀(parts:List (Nat×Operand))(ρe:Operand->Value)(k:Nat),parts.map (·.1)=List.range' k parts.length->parts.map (fun p=>(p.1,ρe p.2))=((parts.map fun p=>ρe p.2).zipIdx k).map fun p=>(p.2,p.1)
 |[],_,_,_=>rfl
 |(i,x)::r,ρe,k,h=>by
  simp only[eu,aO,List.range'_succ,List.cons.injEq]at h;obtain⟨rfl,h⟩:=h;simp only[eu,List.zipIdx_cons,List.cons.injEq,wF];exact QW r ρe (i+1) h
theorem QX:∀(l:List (AV K))(c:K.U)(y:List (K.El c)),pQ D c l=some (y,true)->y.length=l.length/\∀(i:Nat) v x,l[i]?=some v->y[i]?=some x->D.dec c v.df=some (x,true)
 |[],c,y,h=>by simp[pQ]at h;subst h;exact⟨rfl,fun i v x h=>by simp at h⟩
 |u::r,c,y,h=>by
  simp only[pQ]at h;split at h
  ·rename_i x b m b' hx hm;simp only[aD,bj,bC]at h;obtain⟨rfl,rfl,rfl⟩:=h;obtain⟨e1,e2⟩:=QX r c m hm;refine⟨by simp[e1],fun i v z hv hz=>?_⟩;cases i with
   |zero=>simp at hv hz;subst hv;subst hz;exact hx
   |succ i=>exact e2 i v z (by simpa using hv) (by simpa using hz)
  ·cases h
theorem akO{P:Program}(hD:bW D)(hs:aY D ρ S w H){ev:Operand->AV K}{ρe:Operand->Value}(hev:∀x,Rep D ρ S w (ev x) (ρe x)){t e:TypeId}{c:K.U}{len:Nat}{parts:Array (Nat×Operand)}{l:List (AV K)}{y:List (K.El c)}
 (ht:elemOf? P t=some e) (hsz:fk P e=some (K.sz c)) (hz:nH P e=true) (hl:inOrder ev 0 parts.toList=some l) (hlen:l.length=len) (h1:len<=4096) (h2:K.sz c<=4096)
 (hall:l.all (fun v=>gI v.df&&(v.known&&decide (v.df.length=K.sz c)))=true) (hdec:pQ D c l=some (y,true)):
 ∃cs':Array Value,(do pure (.value (<-Instr.buildSlice t len (parts.map fun(i,x)=>(i,ρe x)))):Sem Next).run P w=.ok (.value (.slice (some ⟨w.heap.size,0,none⟩) y.length y.length)) (w.alloc (.cells cs' e))/\y.length*K.sz c<=cs'.size/\
  ∀i x,y[i]?=some x->bE D ρ S w (D.cells c x) (cQ cs' (i*K.sz c) (K.sz c)):=by
 obtain⟨i,hi,hisz⟩:=wR hsz;obtain⟨zv,hzv,-⟩:=LI hz hi;obtain⟨el,er⟩:=LJ _ _ _ hl;obtain⟨dl,dd⟩:=QX l c y hdec;have hpl:parts.toList.length=len:=by rw[<-hlen,el];simp
 have hmul:len*K.sz c<=4096*4096:=Nat.mul_le_mul h1 h2;have hget:∀(j:Nat) v,l[j]?=some v->gI v.df=true/\v.known=true/\v.df.length=K.sz c:=fun j v hv=>by
  have:=dz.1 hall v (gG hv);simpa using this
 generalize hus:parts.toList.map (fun p=>ρe p.2)=us;have hrel:∀(j:Nat) v u,l[j]?=some v->us[j]?=some u->Rep D ρ S w v u:=fun j v u hv hu=>by
  rw[el]at hv;rw[<-hus]at hu;simp only[f5,eN]at hv hu;obtain⟨p,hp,rfl⟩:=hv;obtain⟨q,hq,rfl⟩:=hu;rw[hp]at hq;simp at hq;subst hq;exact hev _
 have FU:us.length=l.length:=by rw[<-hus,el];simp
 have hcs:∀u∈us,u.cells.size=K.sz c:=fun u hu=>by
  obtain⟨j,hj,rfl⟩:=pK hu;have hjl:j<l.length:=by omega
  obtain⟨-,hk,hn⟩:=hget j _ (ct hjl);have:=(nL (hrel j _ _ (ct hjl) (ct hj)) hk).1;rw[hn]at this;simpa using this.symm
 let zero:Array Value:=if len*K.sz c=0 then #[]else zv.cells
 obtain⟨cs',e1,e2,-,e4⟩:=QV (sz:=K.sz c) us 0 ((Array.range (len*K.sz c)).map (zero[· %zero.size]!)) hcs (by simp[FU,hlen]);have hparts:(parts.map fun(x:Nat×Operand)=>match x with|(i,x)=>(i,ρe x)).toList=(us.zipIdx 0).map fun p=>(p.2,p.1):=by
  rw[<-hus,<-QW parts.toList ρe 0 (by rw[er])];simp
 have hrun:(Instr.buildSlice t len (parts.map fun(i,x)=>(i,ρe x))).run P w=.ok (.slice (some ⟨w.heap.size,0,none⟩) len len) (w.alloc (.cells cs' e)):=by
  have hsize:(sizeOf e).run P w=.ok (K.sz c) w:=nK hsz;unfold Instr.buildSlice;rw[hparts];simp only[Sem.run_bind,fg (qa ht),Result.andThen_ok,hsize];rw[av (by omega)];by_cases h0:len*K.sz c=0
  ·rw[aE h0];have e1':=e1;simp only[zero,aE h0]at e1';simp only[Sem.run_bind,Sem.run_pure,Result.andThen_ok,e1'];simp[newRow]
  ·rw[av h0];have e1':=e1;simp only[zero,av h0]at e1';have QY:(zeroValue e).run P w=.ok zv w:=by simp[zeroValue,typeInfo,hi,hzv]
   simp only[Sem.run_bind,Sem.run_pure,Result.andThen_ok,QY,e1'];simp[newRow]
 have hyl:y.length=len:=by rw[dl,hlen]
 refine⟨cs',by rw[hyl];exact jo (f:=.value) hrun,by rw[hyl,e2];simp,fun j x hx=>?_⟩;have hj:j<l.length:=by rw[<-dl];exact(cz.1 hx).1
 have QZ:=ct hj;have ry:=ct (show j<us.length by omega);obtain⟨-,hk,-⟩:=hget j _ QZ;have:=e4 j _ ry;rw[dI]at this;rw[this];exact hD.dec c _ _ (dd j _ _ QZ hx) ρ S w _ (nL (hrel j _ _ QZ ry) hk)
theorem aDe{P:Program}(hD:bW D)(hs:aY D ρ S w H){ev:Operand->AV K}{ρe:Operand->Value}(hev:∀x,Rep D ρ S w (ev x) (ρe x)){t e:TypeId}{c:K.U}{len:Nat}{parts:Array (Nat×Operand)}{l:List (AV K)}{y:List (K.El c)}
 (ht:elemOf? P t=some e) (hsz:fk P e=some (K.sz c)) (hz:nH P e=true) (hl:inOrder ev 0 parts.toList=some l) (hlen:l.length=len) (h1:len<=4096) (h2:K.sz c<=4096)
 (hall:l.all (fun v=>gI v.df&&(v.known&&decide (v.df.length=K.sz c)))=true) (hdec:pQ D c l=some (y,true)) (eV:kA D c e 0):
 Does D P ρ S H w (do pure (.value (<-Instr.buildSlice t len (parts.map fun(i,x)=>(i,ρe x))))) (.sl H.length) (H++[.arr c y]):=by
 obtain⟨cs',hrun,hcs,hseg⟩:=akO hD hs hev ht hsz hz hl hlen h1 h2 hall hdec;exact LH hs (c:=c) (l:=y) (vs:=cs') (T:=e) (fr:=(0,0)) (cap:=y.length) (w':=w.alloc (.cells cs' e)) rfl rfl rfl rfl (bY _) eV hcs (fun k _ hh=>by have:=hh.2;simp at this) hseg hrun
end Go.V
namespace Go.V
open Go
variable {K :db}{D:bP K}{ρ:List Value}{S:Nat->Prop}{w:World}{H:List (Ob K)}
def RowOf(D:bP K)(ρ:List Value)(S:Nat->Prop)(w:World)(c:K.U)(m:List (K.El c))(news:List Value):Prop:=
 news.length=m.length*K.sz c/\∀i x,m[i]?=some x->bE D ρ S w (D.cells c x) ((news.drop (i*K.sz c)).take (K.sz c))
theorem gather{c:K.U}{b:Nat}:∀(m:List (K.El c))(o:Nat),(∀i x,m[i]?=some x->∃vs,vs.length=K.sz c/\il w b (o+i*K.sz c) vs/\bE D ρ S w (D.cells c x) vs)->
 ∃news,il w b o news/\RowOf D ρ S w c m news
 |[],o,_=>⟨[],fun j v h=>by simp at h,by simp,fun i x h=>by simp at h⟩
 |x::r,o,h=>by
  obtain⟨vs,h1,h2,h3⟩:=h 0 x rfl;rw[ES,Nat.add_zero]at h2;obtain⟨news,g1,g2,g3⟩:=gather r (o+K.sz c) (fun i y hy=>by
   obtain⟨us,a,b,c'⟩:=h (i+1) y (by simpa using hy);exact⟨us,a,by rw[ek,ij]at b;rw[show o+K.sz c+i*K.sz c=o+(i*K.sz c+K.sz c) by omega];exact b,c'⟩)
  refine⟨vs++news,fun j v hv=>?_,by simp[h1,g2,ek];omega,fun i y hy=>?_⟩
  ·by_cases hj:j<vs.length
   ·rw[dD hj]at hv;exact h2 j v hv
   ·rw[d5 (by omega)]at hv;have:=g1 (j-vs.length) v hv;rw[show o+j=o+K.sz c+(j-vs.length) by omega];exact this
  ·cases i with
   |zero=>
    simp at hy;subst hy;rw[ES,gm,Qj (by omega),ET (by omega)];exact h3
   |succ i=>
    have:=g3 i y (by simpa using hy);rw[show(i+1)*K.sz c=vs.length+i*K.sz c by rw[ek,ij,h1];omega,<-Gj,List.drop_left];exact this
theorem row_one(hD:bW D){c:K.U}{m:List (K.El c)}{news:List Value}(h:RowOf D ρ S w c m news):∀x∈news,x.oneCell'=true:=fun x hx=>by
 obtain⟨k,hk,rfl⟩:=pK hx;rw[h.1]at hk;have hsz:0<K.sz c:=by
  rcases lg (K.sz c)with h0|h0
  ·rw[h0]at hk;simp at hk
  ·exact h0
 have hi:k/K.sz c<m.length:=Nat.div_lt_of_lt_mul (by rw[Lc];exact hk);have hr:=h.2 _ _ (ct hi);refine QP hr (hD.one _ _) _ ?_;rw[List.mem_iff_getElem?];refine⟨k%K.sz c,?_⟩;rw[eI,aE (Nat.mod_lt _ hsz),iK,Lc,Nat.div_add_mod];simp
theorem akP{P:Program}(hD:bW D)(hs:aY D ρ S w H){c:K.U}{x:AV K}{m:List (K.El c)}{X:Value}(h:source D H c x=some m)(hx:Rep D ρ S w x X):
 (Builtin.lenOf X).run P w=.ok m.length w/\∃news,RowOf D ρ S w c m news/\∀w':World,w'.heap=w.heap->(Builtin.firstCells (K.sz c) m.length X).run P w'=.ok news.toArray w':=by
 have aDf:∀{X:Value},SliceAt D ρ S w c m X->(Builtin.lenOf X).run P w=.ok m.length w/\∃news,RowOf D ρ S w c m news/\∀w':World,w'.heap=w.heap->(Builtin.firstCells (K.sz c) m.length X).run P w'=.ok news.toArray w':=by
  rintro X ⟨a,cap,rfl,h⟩
  refine⟨by simp[Builtin.lenOf],?_⟩;by_cases hne:m=[]
  ·subst hne;refine⟨[],⟨by simp,fun i x h=>by simp at h⟩,fun w' _=>?_⟩;cases a with
   |none=>simp[Builtin.firstCells]
   |some a=>simp[Builtin.firstCells,loadCells,loadCellsFrom]
  ·obtain⟨b,o,rfl,h'⟩:=h hne;obtain⟨news,g1,g2⟩:=gather m o h';refine⟨news,g2,fun w' hw=>?_⟩;have:=LA (P:=P) (il.keep (w':=w') g1 (by rw[hw]));rw[g2.1]at this;simpa [Builtin.firstCells]using this
 unfold source at h;split at h
 ·rename_i s;obtain rfl:=gX hx;split at h
  ·rename_i f g hb;simp only[aD]at h;subst h;obtain⟨b1,b2⟩:=hD.byte c f g hb;have hsz:K.sz c=1:=by rw[<-hD.len c (g 0),b1];rfl
   refine⟨by simp[Builtin.lenOf,FN],s.map fun b=>.int .u8 (b.toNat:Int),⟨by simp[hsz],fun i y hy=>?_⟩,fun w' _=>?_⟩
   ·simp only[f5,eN]at hy;obtain⟨u,hu,rfl⟩:=hy;rw[b1,b2,hsz,m8];have:((s.map fun b=>Value.int .u8 (b.toNat:Int)).drop i).take 1=[.int .u8 (u.toNat:Int)]:=by
     rw[List.take_one];simp[hu]
    rw[this];exact .cons (.int _ _) .nil
   ·have:(ByteArray.mk s.toArray).extract 0 s.length=ByteArray.mk s.toArray:=by rw[akz];simp
    simp[Builtin.firstCells,this]
  ·cases h
 ·exact aDf (akD hD hs h hx)
theorem Q0{P:Program}{t xT ty e:TypeId}{d:TypeDesc}{i:TypeInfo}(ht:P.underlying t=some (.slice e))(hx:P.underlying xT=some d)(hd:∀k,d≠.int k)(hi:P.info? e=some i){base:Option Addr}{n cap m:Nat}{X:Value}{news:List Value}
 (hlen:(Builtin.lenOf X).run P w=.ok m w) (hnew:(Builtin.firstCells i.size m X).run P w=.ok news.toArray w) (hroom:n+m<=cap):
 (Builtin.append_ #[t,xT] ty #[.slice base n cap,X]).run P w=((match base with|some a=>storeCells (a.add (n*i.size)) news|none=>pure ():Sem Unit).run P w).andThen fun _ w'=>.ok (.slice base (n+m) cap) w':=by
 have hz:(do pure ((<-underlying xT) matches .int _):Sem Bool).run P w=.ok false w:=by
  simp only[Sem.run_bind,fg hx,Result.andThen_ok];cases d<;>first|rfl|exact absurd rfl (hd _)
 cases base with
 |none=>simp[Builtin.append_,fg ht,sizeOf,typeInfo,hi,hlen,hroom,hnew,fg hx]
 |some a=>simp[Builtin.append_,fg ht,sizeOf,typeInfo,hi,hlen,hroom,hnew,fg hx]
theorem akQ{P:Program}{t xT ty e:TypeId}{d:TypeDesc}{i:TypeInfo}{z:Value}(ht:P.underlying t=some (.slice e))(hx:P.underlying xT=some d)(hd:∀k,d≠.int k)(hi:P.info? e=some i)(hz:i.zero=some z)
 {base:Option Addr} {n cap m:Nat} {X:Value} {olds news:List Value} (hlen:(Builtin.lenOf X).run P w=.ok m w) (hnew:(Builtin.firstCells i.size m X).run P w.drew=.ok news.toArray w.drew)
 (hold:(Builtin.firstCells i.size n (.slice base n cap)).run P w.drew=.ok olds.toArray w.drew) (hroom:cap<n+m) (hsmall:n+m<=1073741824) (hb:i.bytes<=4096):
 (Builtin.append_ #[t,xT] ty #[.slice base n cap,X]).run P w=.ok (.slice (some ⟨w.heap.size,0,none⟩) (n+m) (grownCap w (n+m) cap e))
   (w.drew.alloc (.cells (olds++news++(Builtin.zeroCells z.cells (grownCap w (n+m) cap e-(n+m))).toList).toArray e)):=by
 have hn:¬(n+m<=cap):=by omega
 have h63:¬(9223372036854775807<((n:Int)+(m:Int))):=by omega
 have h48:¬(281474976710656<Builtin.nextslicecap (n+m) cap*i.bytes):=by
  have h1:=nextslicecap_le (need:=n+m) (old:=cap) hroom;have h2:Builtin.nextslicecap (n+m) cap*i.bytes<=(2*1073741824)*4096:=Nat.mul_le_mul (by omega) hb;omega
 simp[Builtin.append_,run_underlying ht,run_underlying hx,sizeOf,typeInfo,zeroValue,hi,hz,hlen,hn,h63,h48,Question.forced,hnew,hold,newRow,grownCap];congr 2;apply Array.ext';simp
structure FV (P:Program) (w:World) (t xT ty e:TypeId) (i:TypeInfo) (z:Value) (X:Value) (m:Nat) (news:List Value):Prop where
 room:∀{base:Option Addr}{n cap:Nat},n+m<=cap->(Builtin.append_ #[t,xT] ty #[.slice base n cap,X]).run P w=((match base with|some a=>storeCells (a.add (n*i.size)) news|none=>pure ():Sem Unit).run P w).andThen fun _ w'=>.ok (.slice base (n+m) cap) w'
 grow:∀{base:Option Addr}{n cap:Nat}{olds:List Value},(Builtin.firstCells i.size n (.slice base n cap)).run P w.drew=.ok olds.toArray w.drew->cap<n+m->n+m<=1073741824->
  (Builtin.append_ #[t,xT] ty #[.slice base n cap,X]).run P w=.ok (.slice (some ⟨w.heap.size,0,none⟩) (n+m) (grownCap w (n+m) cap e))
    (w.drew.alloc (.cells (olds++news++(Builtin.zeroCells z.cells (grownCap w (n+m) cap e-(n+m))).toList).toArray e))
theorem FV.of{P:Program}{t xT ty e:TypeId}{d:TypeDesc}{i:TypeInfo}{z:Value}(ht:P.underlying t=some (.slice e))(hx:P.underlying xT=some d)(hd:∀k,d≠.int k)(hi:P.info? e=some i)(hz:i.zero=some z)(hb:i.bytes<=4096)
 {m:Nat} {X:Value} {news:List Value} (hlen:(Builtin.lenOf X).run P w=.ok m w) (hnew:∀w':World,w'.heap=w.heap->(Builtin.firstCells i.size m X).run P w'=.ok news.toArray w'):FV P w t xT ty e i z X m news:=
 ⟨fun hroom=>Q0 ht hx hd hi hlen (hnew w rfl) hroom,fun hold hroom hsmall=>akQ ht hx hd hi hz hlen (hnew w.drew rfl) hold hroom hsmall hb⟩
theorem akR{a b:List Value}{k n:Nat}(h:k+n<=a.length):((a++b).drop k).take n=(a.drop k).take n:=by
 rw[List.drop_append_of_le_length (by omega),Qj (by simp;omega)]
theorem aDg{a b:List Value}{k n:Nat}:((a++b).drop (a.length+k)).take n=(b.drop k).take n:=by
 rw[<-Gj,List.drop_left]
theorem aDh{c:K.U}{l m:List (K.El c)}{olds news:List Value}(hl:RowOf D ρ S w c l olds)(hm:RowOf D ρ S w c m news):RowOf D ρ S w c (l++m) (olds++news):=by
 refine⟨by simp[hl.1,hm.1,ek],fun i x hx=>?_⟩;by_cases hi:i<l.length
 ·rw[dD hi]at hx;have:(i+1)*K.sz c<=l.length*K.sz c:=g9 _ hi;rw[ek,ij]at this;rw[akR (by rw[hl.1];exact this)];exact hl.2 i x hx
 ·rw[d5 (by omega)]at hx;have:i*K.sz c=olds.length+(i-l.length)*K.sz c:=by rw[hl.1,<-ek];congr 1;omega
  rw[this,aDg];exact hm.2 _ x hx
theorem aDi{c:K.U}{l:List (K.El c)}{a b:List Value}(h:RowOf D ρ S w c l a):∀i x,l[i]?=some x->bE D ρ S w (D.cells c x) (cQ (a++b).toArray (i*K.sz c) (K.sz c)):=fun i x hx=>by
 have hi:=(cz.1 hx).1;have:(i+1)*K.sz c<=l.length*K.sz c:=g9 _ hi;rw[ek,ij]at this;simp only[cQ];rw[akR (by rw[h.1];exact this)];exact h.2 i x hx
theorem akS{P:Program}(hD:bW D)(hs:aY D ρ S w H){t xT ty e:TypeId}{i:TypeInfo}{z:Value}{c:K.U}(hi:P.info? e=some i)(hisz:i.size=K.sz c)(hzs:z.cells.size=K.sz c){base:Option Addr}{cap:Nat}{X:Value}{l m:List (K.El c)}{olds news:List Value}
 (hA:FV P w t xT ty e i z X m.length news) (hm:RowOf D ρ S w c m news)
 (hl:RowOf D ρ S w c l olds) (hold:(Builtin.firstCells (K.sz c) l.length (.slice base l.length cap)).run P w.drew=.ok olds.toArray w.drew) (hroom:cap<l.length+m.length) (hsmall:l.length+m.length<=1073741824) (hE:kA D c e 0):
 Does D P ρ S H w (do pure (.value (<-Builtin.append_ #[t,xT] ty #[.slice base l.length cap,X]))) (.sl H.length) (H++[.arr c (l++m)]):=by
 have hrun:=hA.grow (by rw[hisz];exact hold) hroom hsmall;have hge:=grownCap_ge w (l.length+m.length) cap e;have hrow:=aDh hl hm;refine LH hs (c:=c) (l:=l++m) (T:=e) (fr:=(0,0)) (cap:=grownCap w (l.length+m.length) cap e) (w':=w.drew.alloc (.cells (olds++news++(Builtin.zeroCells z.cells (grownCap w (l.length+m.length) cap e-(l.length+m.length))).toList).toArray e))
  (vs:=(olds++news++(Builtin.zeroCells z.cells (grownCap w (l.length+m.length) cap e-(l.length+m.length))).toList).toArray) rfl rfl rfl rfl (by simpa using hge) hE ?_ (fun k _ hh=>by have:=hh.2;simp at this) (aDi hrow) (by
    rw[bA];exact jo (f:=.value) hrun)
 have:(Builtin.zeroCells z.cells (grownCap w (l.length+m.length) cap e-(l.length+m.length))).size=(grownCap w (l.length+m.length) cap e-(l.length+m.length))*K.sz c:=by simp[Builtin.zeroCells,hzs]
 have h2:(l.length+m.length)*K.sz c+(grownCap w (l.length+m.length) cap e-(l.length+m.length))*K.sz c=grownCap w (l.length+m.length) cap e*K.sz c:=by rw[<-ek];congr 1;omega
 have h3:=hrow.1;rw[bA,bA]at h3;simp only[pG,bA,Array.length_toList,this];omega
theorem Step.FW{n:Nat}{h:Nat}{ρ':List Value}{S':Nat->Prop}{H':List (Ob K)}{w':World}(a:Step D n ρ S (H.set h .dead) w ρ' S' H' w'):Step D n ρ S H w ρ' S' H' w':=
 ⟨a.os,a.tape,a.output,a.size,fun b hb ho=>a.old b hb fun hk=>ho (xE hk),fun b hb=>(a.own b hb).imp xE id,a.s1,fun b hb=>(a.s2 b hb).imp id (Or.imp xE id),a.pre⟩
theorem Does.FW{P:Program}{s:Sem Next}{v:AV K}{h:Nat}{H':List (Ob K)}(a:Does D P ρ S (H.set h .dead) w s v H'):Does D P ρ S H w s v H':=by
 obtain⟨n,u,w',ρ',h1,h2,h3,h4,h5⟩:=a;exact⟨n,u,w',ρ',h1,h2,h3,h4,Step.FW (by simpa using h5)⟩
theorem akT{P:Program}(hD:bW D)(hs:aY D ρ S w H){t xT ty e:TypeId}{i:TypeInfo}{z:Value}{c:K.U}(hi:P.info? e=some i)(hisz:i.size=K.sz c)(hzs:z.cells.size=K.sz c){X:Value}{m:List (K.El c)}{news:List Value}(hA:FV P w t xT ty e i z X m.length news)(hrow:RowOf D ρ S w c m news)(hsmall:m.length<=1073741824)
 {H1:List (Ob K)} (hs1:aY D ρ S w H1) (hE:kA D c e 0):
 Does D P ρ S H1 w (do pure (.value (<-Builtin.append_ #[t,xT] ty #[.slice none 0 0,X]))) (.sl H1.length) (H1++[.arr c m]):=by
 by_cases h0:m.length=0
 ·have hm0:m=[]:=ja h0;subst hm0;have hrun:=hA.room (base:=none) (n:=0) (cap:=0) (by simp);refine⟨_,_,w,ρ++[.slice none 0 0],jo (f:=.value) (by simpa using hrun),.inl rfl,hs1.new (bY _) (fun _ _=>rfl) (.inl ⟨rfl,rfl⟩) (fun b hb=>by simp[cu,iM]at hb),?_,Step.new hs1 (bY _) (fun _ _=>rfl) (fun b hb=>by simp[cu,iM]at hb) rfl rfl rfl⟩;exact .sl (by rw[d5 (by rw[hs1.len];exact bY _)];simp[hs1.len])
 ·have:=akS (P:=P) (ty:=ty) (base:=none) (cap:=0) (l:=[]) (olds:=[]) hD hs1 hi hisz hzs hA hrow ⟨by simp,fun i x h=>by simp at h⟩ (by simp[Builtin.firstCells]) (by simp;omega) (by simpa using hsmall) hE;simpa using this
theorem aDj{P:Program}(hD:bW D)(hs:aY D ρ S w H){t xT ty e:TypeId}{d:TypeDesc}{i:TypeInfo}{z:Value}{c:K.U}(ht:P.underlying t=some (.slice e))(hx:P.underlying xT=some d)(hd:∀k,d≠.int k)
 (hi:P.info? e=some i) (hisz:i.size=K.sz c) (hz:i.zero=some z) (hzs:z.cells.size=K.sz c) (hb:i.bytes<=4096) {x:AV K} {X:Value} {m:List (K.El c)} (hm:source D H c x=some m) (hX:Rep D ρ S w x X) (hsmall:m.length<=1073741824)
 {H1:List (Ob K)} (hs1:aY D ρ S w H1) (hE:kA D c e 0):
 Does D P ρ S H1 w (do pure (.value (<-Builtin.append_ #[t,xT] ty #[.slice none 0 0,X]))) (.sl H1.length) (H1++[.arr c m]):=by
 obtain⟨hlen,news,hrow,hnew⟩:=akP (P:=P) hD hs hm hX;exact akT hD hs hi hisz hzs (.of ht hx hd hi hz hb hlen (by rw[hisz];exact hnew)) hrow hsmall hs1 hE
theorem aDk{P:Program}(hD:bW D)(hs:aY D ρ S w H){t xT ty e:TypeId}{i:TypeInfo}{z:Value}{c:K.U}(hi:P.info? e=some i)(hisz:i.size=K.sz c)(hzs:z.cells.size=K.sz c){X:Value}{m:List (K.El c)}{news:List Value}(hA:FV P w t xT ty e i z X m.length news)(hrow:RowOf D ρ S w c m news)(hone:∀x∈news,x.oneCell'=true)
 {h:Nat} {l:List (K.El c)} (ho:H[h]?=some (.arr c l)) {Y:Value} (hY:ρ[h]?=some Y) (hsmall:l.length+m.length<=1073741824) (hE:kA D c e 0):
 Does D P ρ S H w (do pure (.value (<-Builtin.append_ #[t,xT] ty #[Y,X]))) (.sl H.length) (H.set h .dead++[.arr c (l++m)]):=by
 have hk:=hs.kill h;rcases zx hs ho hY with⟨rfl,rfl⟩|⟨b,o,cap,vs,T,fr,rfl,hblk,⟨hcap,eV⟩,hsz,hfr,hall⟩
 ·have:=akT (P:=P) (ty:=ty) hD hs hi hisz hzs hA hrow (by simpa using hsmall) hk hE;simpa using Does.FW this
 ·by_cases hroom:l.length+m.length<=cap
  ·have hlm:(l.length+m.length)*K.sz c<=cap*K.sz c:=g9 _ hroom;rw[ek]at hlm;have hrl:=hrow.1;obtain⟨w',vs',e1,e2,e3,e4,e5,e6,e7,e8⟩:=FT (P:=P) (b:=b) (o:=o+l.length*K.sz c) news 0 vs w hblk (by omega) (fun k hk hk'=>hfr k (by omega) (by omega)) hone;rw[Nat.add_zero]at e3;have hno:=Ls hs ho rfl hY (b:=b) rfl;have hlt:=hs.lt b ⟨h,_,_,ho,rfl,hY,rfl⟩;have hkeep:∀k,Own D w ρ (H.set h .dead) k->w'.heap[k]?=w.heap[k]?:=fun k hk'=>e5 k (fun e=>by subst e;exact hno hk')
   have hw1:aY D ρ S w' (H.set h .dead):=hk.world (by omega) hkeep (fun k hk'=>e5 k (fun e=>by subst e;exact hlt.2 hk'));have hrun:=hA.room (base:=some ⟨b,o,none⟩) (n:=l.length) (cap:=cap) hroom;simp only[hisz,add_plain,e1,Result.andThen_ok]at hrun;have hmono:∀{a:List (AV K)}{us:List Value},bE D ρ S w a us->bE D (ρ++[.slice (some ⟨b,o,none⟩) (l.length+m.length) cap]) S w' a us:=
    fun h=>h.mono (fun _ h=>h) (fun k hk=>e5 k (fun e=>by subst e;exact hlt.2 hk)) (fun _ _ h=>uo h)
   have hsize:vs'.size=vs.size:=by have:=wH List.length e3;rw[Ar]at this;simpa using this
   have hob:f8 D (ρ++[.slice (some ⟨b,o,none⟩) (l.length+m.length) cap]) S w' (.arr c (l++m)) (.slice (some ⟨b,o,none⟩) (l.length+m.length) cap):=by
    refine .inr ⟨b,o,cap,vs',T,fr,by simp,e2,⟨by simpa using hroom,eV⟩,by omega,hfr,fun j y hy=>?_⟩;by_cases hj:j<l.length
    ·rw[dD hj]at hy;have:(j+1)*K.sz c<=l.length*K.sz c:=g9 _ hj;rw[ek,ij]at this;rw[QR e3 (.inl (by omega))];exact hmono (hall j y hy)
    ·rw[d5 (by omega)]at hy;have hjm:=(cz.1 hy).1;have h1:(j-l.length+1)*K.sz c<=m.length*K.sz c:=g9 _ (by omega);rw[ek,ij]at h1;have h2:j*K.sz c=l.length*K.sz c+(j-l.length)*K.sz c:=by rw[<-ek];congr 1;omega
     have:cQ vs' (o+j*K.sz c) (K.sz c)=(news.drop ((j-l.length)*K.sz c)).take (K.sz c):=by
      apply qg;intro k;simp only[cQ,eI,iK,e3];by_cases hk:k<K.sz c
      ·rw[aE hk,aE hk,As _ _ _ _ (by simp;omega),aE (by omega)];congr 1;omega
      ·rw[av hk,av hk]
     rw[this];exact hmono (hrow.2 _ y hy)
   refine⟨_,_,w',_,jo (f:=.value) hrun,.inl rfl,hw1.push hob (fun k _ hk'=>by simp[cu,iM]at hk';subst hk';exact⟨by omega,hlt.2,fun hO=>hno (hO.old hkeep)⟩),?_,?_⟩
   ·exact .sl (by rw[d5 (by rw[hs.len];exact bY _)];simp[hs.len])
   ·refine⟨e6,e7,e8,by omega,fun k hk hno'=>e5 k (fun e=>by subst e;exact hno' ⟨h,_,_,ho,rfl,hY,rfl⟩),fun k hk'=>?_,fun _ h=>h,fun _ h=>.inl h,fun k hk=>by rw[dD (by rw[hs.len];exact hk)]⟩;rcases FK (by simpa using hs.len) hk' with hk'|⟨-,hk'⟩
    ·exact .inl (xE (hk'.old hkeep))
    ·simp[cu,iM]at hk';subst hk';exact .inl ⟨h,_,_,ho,rfl,hY,rfl⟩
  ·have hat:∀j y,l[j]?=some y->∃us,us.length=K.sz c/\il w b (o+j*K.sz c) us/\bE D ρ S w (D.cells c y) us:=fun j y hy=>⟨_,by rw[<-(hall j y hy).1,hD.len],Aq hblk _ _,hall j y hy⟩
   obtain⟨olds,g1,g2⟩:=gather l o hat;have hold:(Builtin.firstCells (K.sz c) l.length (.slice (some ⟨b,o,none⟩) l.length cap)).run P w.drew=.ok olds.toArray w.drew:=by
    have:=LA (P:=P) (il.keep (w':=w.drew) g1 rfl);rw[g2.1]at this;simpa [Builtin.firstCells]using this
   have:=akS (P:=P) (ty:=ty) (base:=some ⟨b,o,none⟩) (cap:=cap) (l:=l) (olds:=olds) hD hk hi hisz hzs hA hrow g2 hold (by omega) hsmall hE;simpa using Does.FW this
theorem aDl{P:Program}(hD:bW D)(hs:aY D ρ S w H){t xT ty e:TypeId}{d:TypeDesc}{i:TypeInfo}{z:Value}{c:K.U}(ht:P.underlying t=some (.slice e))(hx:P.underlying xT=some d)(hd:∀k,d≠.int k)
 (hi:P.info? e=some i) (hisz:i.size=K.sz c) (hz:i.zero=some z) (hzs:z.cells.size=K.sz c) (hb:i.bytes<=4096) {x:AV K} {X:Value} {m:List (K.El c)} (hm:source D H c x=some m) (hX:Rep D ρ S w x X)
 {h:Nat} {l:List (K.El c)} (ho:H[h]?=some (.arr c l)) {Y:Value} (hY:ρ[h]?=some Y) (hsmall:l.length+m.length<=1073741824) (hE:kA D c e 0):
 Does D P ρ S H w (do pure (.value (<-Builtin.append_ #[t,xT] ty #[Y,X]))) (.sl H.length) (H.set h .dead++[.arr c (l++m)]):=by
 obtain⟨hlen,news,hrow,hnew⟩:=akP (P:=P) hD hs hm hX;exact aDk hD hs hi hisz hzs (.of ht hx hd hi hz hb hlen (by rw[hisz];exact hnew)) hrow (row_one hD hrow) ho hY hsmall hE
end Go.V
namespace Go.V
open Go
variable {K :db}{D:bP K}{ρ:List Value}{S:Nat->Prop}{w:World}{H:List (Ob K)}
end Go.V
namespace Go.V
open Go
variable {K :db}{D:bP K}{ρ:List Value}{S:Nat->Prop}{w:World}{H:List (Ob K)}
end Go.V
namespace Go.V
open Go
variable {K :db}{D:bP K}{ρ:List Value}{S:Nat->Prop}{w:World}{H:List (Ob K)}
theorem aDm{P:Program}(hD:bW D)(hs:aY D ρ S w H){src dst e:TypeId}{c:K.U}{f:K.El c->UInt8}{g:UInt8->K.El c}{s:List UInt8}(h1:P.underlying src=some .string)(h2:P.underlying dst=some (.slice e))
 (h3:P.underlying e=some (.int .u8)) (hb:D.byte c=some (f,g)) (hE:kA D c e 0):
 Does D P ρ S H w (do pure (.value (<-convert src dst (.string ⟨s.toArray⟩)))) (.sl H.length) (H++[.arr c (s.map g)]):=by
 obtain⟨b1,b2⟩:=hD.byte c f g hb;have hsz:K.sz c=1:=by rw[<-hD.len c (g 0),b1];rfl
 have hge:=grownCap_ge w s.length 0 e
 let vs:Array Value:=(s.map fun b=>Value.int .u8 (b.toNat:Int)).toArray++Array.replicate (grownCap w s.length 0 e-s.length) (.int .u8 0)
 have hvs:vs.size=grownCap w s.length 0 e:=by simp[vs];omega
 let w':World:={w with heap:=w.heap.push (.cells vs e (vs.size,vs.size+1)),drawn:=w.drawn+1}
 have hrun:(convert src dst (.string ⟨s.toArray⟩)).run P w=.ok (.slice (some ⟨w.heap.size,0,none⟩) s.length (grownCap w s.length 0 e)) w':=by
  simp[convert,fg h1,fg h2,fg h3,Conv.stringToBytes,FN,Question.forced,grownCap];have e1:(newRow e vs).run P w.drew=.ok ⟨w.heap.size,0,none⟩ (w.drew.alloc (.cells vs e)):=by simp[newRow]
  have e0:(w.drew.alloc (.cells vs e)).heap=w.heap.push (.cells vs e):=rfl;have e2:(markStringish ⟨w.heap.size,0,none⟩).run P (w.drew.alloc (.cells vs e))=.ok () w':=by
   have hsh:(w.drew.alloc (.cells vs e)).shape? w.heap.size=some (e,vs.size):=by simp[World.shape?,e0]
   simp only[markStringish,Sem.run_bind];have:(shape w.heap.size).run P (w.drew.alloc (.cells vs e))=.ok (some (e,vs.size)) (w.drew.alloc (.cells vs e)):=by simp[shape,Sem.run,hsh]
   simp only[this,Result.andThen_ok,run_freeze];congr 1;simp only[World.freeze,w',e0];rw[av (by omega)];congr 1;apply Array.ext
   ·simp
   ·intro k h1 h2;simp only[Array.getElem_modify];by_cases hk:w.heap.size=k
    ·subst hk;simp
    ·rw[av hk];have hk':k<w.heap.size:=by simp at h2;omega
     simp[Array.getElem_push,hk']
  have e1':=e1;simp only[vs,grownCap]at e1';rw[e1'];simp only[Result.andThen_ok];have e2':=e2;simp only[vs,grownCap]at e2';rw[e2'];rfl
 refine LH hs (c:=c) (l:=s.map g) (vs:=vs) (T:=e) (fr:=(vs.size,vs.size+1)) (cap:=grownCap w s.length 0 e) (w':=w') rfl rfl rfl rfl (by simpa using hge) hE (by rw[hsz,hvs,m8];exact bY _) (fun k hk hh=>by have:=hh.1;rw[hvs]at this;rw[hsz,m8]at hk;simp at this;omega)
  (fun j x hx=>?_) (by rw[cr];exact jo (f:=.value) hrun)
 simp only[f5,eN]at hx;obtain⟨u,hu,rfl⟩:=hx;have hj:=(cz.1 hu).1;rw[b1,b2,hsz,m8];have:cQ vs j 1=[.int .u8 (u.toNat:Int)]:=by
  simp only[cQ,vs,Array.toList_append];rw[List.drop_append_of_le_length (by simp;omega),Qj (by simp;omega),List.take_one];simp[hu]
 rw[this];exact .cons (.int _ _) .nil
theorem aDn{P:Program}(hs:aY D ρ S w H){src e T':TypeId}{c:K.U}{l:List (K.El c)}{h:Nat}{Y:Value}(h1:P.underlying src=some (.slice e))(h3:P.underlying e=some (.int .u8))(hE:D.pO c=some T')
 (ho:H[h]?=some (.arr c l)) (hY:ρ[h]?=some Y) (hl:1<=l.length):Does D P ρ S H w (do pure (.value (<-convert src src Y))) (.sl h) H:=by
 rcases An hs ho hY with⟨-,rfl⟩|⟨b,o,cap,vs,T,fr,rfl,hblk,⟨hcap,eV⟩,hsz',hfr,hall⟩
 ·simp at hl
 ·obtain⟨-,rfl⟩:=eV.1 T' hE;have hsh:w.shape? b=some (T,vs.size):=by simp[World.shape?,hblk]
  have hrun:(convert src src (.slice (some ⟨b,0,none⟩) l.length cap)).run P w=.ok (.slice (some ⟨b,0,none⟩) l.length cap) (w.freeze ⟨b,vs.size,none⟩ 1):=by
   have hsr:(shape b).run P w=.ok (some (T,vs.size)) w:=by simp[shape,Sem.run,hsh]
   have e2:(markStringish ⟨b,0,none⟩).run P w=.ok () (w.freeze ⟨b,vs.size,none⟩ 1):=by
    simp only[markStringish,Sem.run_bind,hsr,Result.andThen_ok,run_freeze]
   simp[convert,fg h1,fg h3,e2]
  have hheap:(w.freeze ⟨b,vs.size,none⟩ 1).heap=w.heap.modify b fun
   |.cells c elem (lo,hi)=>.cells c elem (if lo==hi then(vs.size,vs.size+1)else(min lo vs.size,max hi (vs.size+1)))
   |o=>o:=by
   unfold World.freeze;rw[av (by omega)];rfl
  have hbl:b<w.heap.size:=(jd.1 hblk).1;have e4:(w.freeze ⟨b,vs.size,none⟩ 1).heap.size=w.heap.size:=by rw[hheap];simp
  have e5:∀k,k≠b->(w.freeze ⟨b,vs.size,none⟩ 1).heap[k]?=w.heap[k]?:=fun k hk=>by
   rw[hheap,Array.getElem?_modify,av (fun e=>hk e.symm)]
  have e2:(w.freeze ⟨b,vs.size,none⟩ 1).heap[b]?=some (.cells vs T (if fr.1==fr.2 then(vs.size,vs.size+1)else(min fr.1 vs.size,max fr.2 (vs.size+1)))):=by
   rw[hheap,Array.getElem?_modify,aE rfl,hblk];rfl
  have hos:(w.freeze ⟨b,vs.size,none⟩ 1).os=w.os/\(w.freeze ⟨b,vs.size,none⟩ 1).tape=w.tape/\(w.freeze ⟨b,vs.size,none⟩ 1).output=w.output:=by
   unfold World.freeze;rw[av (by omega)];exact⟨rfl,rfl,rfl⟩
  have hnS:¬S b:=(hs.lt b ⟨h,_,_,ho,rfl,hY,rfl⟩).2;have e3:H.set h (.arr c l)=H:=by
   apply qg;intro k;rw[jy];split
   ·rename_i hk;subst hk;split
    ·exact ho.symm
    ·rename_i hk;exact absurd (cz.1 ho).1 hk
   ·rfl
  have hT:=hs.turn (o':=.arr c l) (w':=w.freeze ⟨b,vs.size,none⟩ 1) ho rfl hY rfl e4 e5 (fun _ h=>h) (by
   refine .inr ⟨b,0,cap,vs,T,_,rfl,e2,⟨hcap,eV.1,?_⟩,hsz',?_,fun k x hx=>(hall k x hx).mono (fun _ h=>h) (fun k hk=>e5 k (fun e=>by subst e;exact hnS hk)) (fun _ _ h=>h)⟩
   ·by_cases hq:fr.1=fr.2
    ·rw[aE (by simpa using hq)];exact Nat.le_succ _
    ·rw[av (by simpa using hq)];simp only[];omega
   ·intro k hk0 hk;by_cases hq:fr.1=fr.2
    ·rw[aE (by simpa using hq)];simp only[];omega
    ·rw[av (by simpa using hq)];have h2:=eV.2;have h3:=hfr fr.1 (abo _);simp only[];omega)
  have hS:=Step.turn (n0:=H.length) (o':=.arr c l) (w':=w.freeze ⟨b,vs.size,none⟩ 1) hs ho rfl hY rfl e4 e5 (fun _ h=>h) hos.1 hos.2.1 hos.2.2;rw[e3]at hT hS;exact⟨_,_,_,ρ,jo (f:=.value) hrun,.inl rfl,hT,.sl hY,hS⟩
theorem aDp{cx:Cx K}(hD:bW cx.D)(hs:aY cx.D ρ S w H){ev:Operand->AV K}{ρe:Operand->Value}(hev:∀x,Rep cx.D ρ S w (ev x) (ρe x)){s x:Operand}{sT xT ty:TypeId}{v:AV K}{H':List (Ob K)}{c:Bool}{t:List Nat}
 (h:Fq cx H sT (ev s) (ev x)=some (v,H',c,t)) (hc:c=true) (hx:(Fj cx.P xT).isSome=true):Does cx.D cx.P ρ S H w (do pure (.value (<-Builtin.append_ #[sT,xT] ty #[ρe s,ρe x])):Sem Next) v H':=by unfold Fq at h;cases h
theorem akU{cx:Cx K}(hD:bW cx.D)(hs:aY cx.D ρ S w H){ev:Operand->AV K}{ρe:Operand->Value}(hev:∀x,Rep cx.D ρ S w (ev x) (ρe x)){o:Oper}{v:AV K}{H':List (Ob K)}{c:Bool}{t:List Nat}
 (h:xl cx ev H o.op=some (v,H',c,t)) (hc:c=true):Does cx.D cx.P ρ S H w (execOp ρe o) v H':=by
 unfold xl at h;unfold execOp;split at h
 all_goals first|(cases h;done)|(rename_i hop;rw[hop];dsimp only)
 ·
  rename_i T x;split at h
  ·rename_i hk;obtain⟨ρ1,t1,t2,t3,-,t5,-⟩:=xF cx.deep (cx.mU T) _ H ρ _ hs (nL (hev x) hk);generalize thaw cx.deep H (cx.mU T) (ev x).df=p at h t1 t2 t3 t5;obtain⟨cs,H1⟩:=p;dsimp only at h;split at h
   ·cases h
   rename_i uv;simp only[aD,bj]at h;obtain⟨rfl,rfl,rfl,rfl⟩:=h;exact(QQ t1 t2 (fun h=>absurd h uv) (T:=T) (jo (f:=.value) (by simp[Instr.box,newVar,newRow]))).behind t3 t5
  ·cases h
 ·
  rename_i T;split at h
  ·rename_i z hz;split at h
   ·rename_i hk;obtain⟨i,hi⟩:∃i,cx.P.info? T=some i:=by
     unfold zeroOf at hz;cases hh:cx.P.info? T with
     |none=>simp[hh]at hz
     |some i=>exact⟨i,rfl⟩
    obtain⟨zv,hzv,hov⟩:=QU hz hi;obtain⟨ρ1,t1,t2,t3,-,t5,-⟩:=xF cx.deep (cx.mU T) _ H ρ _ hs (nL (FO zv z hov) hk);generalize thaw cx.deep H (cx.mU T) z.df=p at h t1 t2 t3 t5;obtain⟨cs,H1⟩:=p;dsimp only at h;split at h
    ·cases h
    rename_i uv;simp only[aD,bj]at h;obtain⟨rfl,rfl,rfl,rfl⟩:=h;exact(QQ t1 (aC2 t2) (aC1 (by simpa using uv)) (T:=T) (jo (f:=.value) (by simp[Instr.alloc,zeroValue,typeInfo,hi,hzv,newVar,newRow]))).behind t3 t5
   ·cases h
  ·split at h
   ·rename_i hf;simp only[aD,bj]at h;obtain⟨rfl,rfl,rfl,rfl⟩:=h;obtain⟨i,hi,hz⟩:∃i,cx.P.info? T=some i/\i.zero=some .nilFunc:=by
     unfold akf at hf;split at hf
     ·rename_i i hi;split at hf
      ·rename_i hz;exact⟨i,hi,hz⟩
      ·cases hf
     ·cases hf
    have hr:bE cx.D ρ S w [.any] [Value.nilFunc]:=⟨rfl,fun j v x h1 h2=>by
     cases j with
     |zero=>simp at h1;subst h1;exact .any _
     |succ j=>simp at h1⟩
    exact QQ hs hr (fun h=>absurd h (by simp[kC])) (T:=T) (jo (f:=.value) (by simp[Instr.alloc,zeroValue,typeInfo,hi,hz,newVar,newRow,Value.cells]))
   ·cases h
 ·
  rename_i T parts;split at h
  ·rename_i ps z hps hz;split at h
   ·rename_i hk;simp only[eN,bj]at h;obtain⟨cs,hcs,rfl,rfl,rfl,rfl⟩:=h;obtain⟨u,hu,hr⟩:=aDc hev hps hz hk hcs;exact⟨_,u,w,ρ,jo (f:=.value) hu,.inl rfl,hs,hr,Step.refl⟩
   ·cases h
  ·cases h
 ·
  rename_i T p x;split at h
  ·rename_i n hn;split at h
   ·rename_i hcond;obtain⟨hl,h1⟩:=hcond;have hp:=hev p;split at h
    ·rename_i hh off he;rw[he]at hp;split at h
     ·rename_i cs hob;split at h
      ·rename_i hle;have hcx:=nL (hev x) (akI h1);have h1':=QP hcx h1;obtain⟨ρ1,t1,t2,t3,t4,t5,t6⟩:=xF cx.deep (cx.mU T) _ H ρ _ hs hcx;have akV:=t6 _ _ hob;generalize thaw cx.deep H (cx.mU T) (ev x).df=pp at h t1 t2 t3 t5 akV;obtain⟨xs,H1⟩:=pp;dsimp only at h;split at h
       ·cases h
       rename_i uv;simp only[aD,bj]at h;obtain⟨rfl,rfl,rfl,rfl⟩:=h;exact(aC4 t1 hn (by rw[<-hl];exact t2.1.trans hcx.1.symm) h1' akV hle t2 (hp.mono (fun _ h=>h) (fun _ _=>rfl) t4) (fun h=>by simp only[bC,eL,not_and,Bool.not_eq_false]at uv;exact uv h)).behind t3 t5
      ·cases h
     ·cases h
    ·rename_i hh st i off he;rw[he]at hp;split at h
     ·rename_i cc l hob;split at h
      ·rename_i hcc;obtain⟨rfl,hcl,hle⟩:=hcc;split at h
       ·rename_i y b hdec;simp only[aD,bj]at h;obtain⟨rfl,rfl,rfl,rfl⟩:=h;subst hc;exact aC6 hD hs hn hl h1 hob hle hcl hdec (hev x) hp
       ·cases h
      ·cases h
     ·cases h
    ·cases h
   ·cases h
  ·cases h
 ·
  rename_i T len cap;split at h
  ·cases h
  ·rename_i e he;split at h
   ·rename_i cc z kl n kc m hty hz hl hcp;split at h
    ·rename_i hcond;obtain⟨hsz,hroom,-,hk⟩:=hcond;split at h
     ·rename_i y b hdec;simp only[aD,bj]at h;obtain⟨rfl,rfl,rfl,rfl⟩:=h;have h1:=hev len;rw[hl]at h1;have h2:=hev cap;rw[hcp]at h2;rw[f7 h1,f7 h2];simp only[bC,bq]at hc;obtain⟨hb,hc⟩:=hc;subst hb;exact aDa hD hs he hsz hroom hz hk hdec hc.1 hc.2.1 hc.2.2 (xG hty)
     ·cases h
    ·cases h
   ·cases h
 ·
  rename_i T len parts;split at h
  ·cases h
  ·rename_i e he;split at h
   ·rename_i cc l hty hl;split at h
    ·rename_i hcond;obtain⟨hsz,hz,hlen,h1,h2,hall⟩:=hcond;split at h
     ·rename_i y b hdec;simp only[aD,bj]at h;obtain⟨rfl,rfl,rfl,rfl⟩:=h;subst hc;exact aDe hD hs hev he hsz hz hl hlen h1 h2 hall hdec (xG hty)
     ·cases h
    ·cases h
   ·cases h
 ·
  rename_i src dst x;split at h
  ·rename_i e s hu he hx;split at h
   ·rename_i cc h3 hty;split at h
    ·rename_i f g hb;split at h
     ·simp only[aD,bj]at h;obtain⟨rfl,rfl,rfl,rfl⟩:=h;have hxx:=hev x;rw[hx]at hxx;rw[gX hxx];exact aDm hD hs hu (qa he) h3 hb (xG hty)
     ·cases h
    ·cases h
   ·cases h
  ·rename_i e0 e h' hu he hx;split at h
   ·rename_i cc l h3 ho;split at h
    ·rename_i hcond;obtain⟨hsd,hel⟩:=hcond;simp only[aD,bj]at h;obtain⟨rfl,rfl,rfl,rfl⟩:=h;obtain⟨T',hT'⟩:=Option.isSome_iff_exists.1 hel;have hxx:=hev x;rw[hx]at hxx;subst hsd;generalize ρe x=X at hxx⊢;cases hxx with
     |sl hp=>exact aDn hs (qa he) h3 hT' ho hp (zt hc)
    ·cases h
   ·cases h
  ·cases h
 ·
  simp only[aD,bj]at h;obtain⟨rfl,rfl,rfl,rfl⟩:=h;exact aC9 hs
 ·
  rename_i args argTypes;split at h
  ·rename_i s x sT xT hargs hat;have ea:args= #[s,x]:=by rw[<-Array.toArray_toList (xs:=args),hargs]
   have et:argTypes= #[sT,xT]:=by rw[<-Array.toArray_toList (xs:=argTypes),hat]
   subst ea;subst et;have hres:(do let d<-resolve ρe {callee:=.builtin .append,args:= #[s,x],argTypes:= #[sT,xT]} o.type;invoke d.target d.args:Sem Next)=
    (do pure (.value (<-Builtin.append_ #[sT,xT] o.type #[ρe s,ρe x])):Sem Next):=by simp[resolve,invoke,builtin]
   rw[hres];split at h
   ·cases h
   rename_i hx2;split at h
   ·rename_i hx1;exact aDp hD hs hev h hc hx1
   ·rename_i hx1;simp only[wS,Option.isSome_eq_false_iff,Option.isNone_iff_eq_none]at hx1 hx2;obtain⟨d,hd⟩:=Option.ne_none_iff_exists'.1 hx2;have hdk:∀k,d≠.int k:=fun k e=>by subst e;simp[Fj,hd]at hx1
    unfold Lh at h;split at h
    ·cases h
    ·rename_i e he;split at h
     ·cases h
     ·rename_i cc hty;split at h
      ·rename_i hcond;obtain⟨hsz,hroom,hz⟩:=hcond;obtain⟨i,hi,hisz⟩:=wR hsz;obtain⟨z,hzv,hzs⟩:=LI hz hi;have hb:=QT hroom hi;split at h
       ·cases h
       ·rename_i m hm;have hss:=hev s;split at h
        ·rename_i es;simp only[aD,bj]at h;obtain⟨rfl,rfl,rfl,rfl⟩:=h;rw[es]at hss;have e0:ρe s=.slice none 0 0:=by generalize ρe s=Y at hss;cases hss;rfl
         rw[e0];exact aDj hD hs (qa he) hd hdk hi hisz hzv (by rw[hzs,hisz]) hb hm (hev x) (by simpa using hc) hs (xG hty)
        ·rename_i hh es;rw[es]at hss;obtain⟨hr,-⟩:=lj hss;have key:∀l,elems H cc (.sl hh)=some l->l.length+m.length<=1073741824->
          Does cx.D cx.P ρ S H w (do pure (.value (<-Builtin.append_ #[sT,xT] o.type #[ρe s,ρe x])):Sem Next) (.sl H.length) (H.set hh .dead++[.arr cc (l++m)]):=fun l hl hsm=>by
          simp only[elems]at hl;split at hl
          ·rename_i c' l' hob;cases hd':K.jR c' cc with
           |isFalse hn=>simp[hd']at hl
           |isTrue he'=>
            subst he';simp[hd']at hl;subst hl;exact aDl hD hs (qa he) hd hdk hi hisz hzv (by rw[hzs,hisz]) hb hm (hev x) hob hr hsm (xG hty)
          ·cases hl
         split at h
         ·split at h
          ·cases h
          ·split at h
           ·rename_i l hl;simp only[aD,bj]at h;obtain⟨rfl,rfl,rfl,rfl⟩:=h;exact key l hl (by simpa using hc)
           ·cases h
         ·split at h
          ·rename_i l hl;simp only[aD,bj]at h;obtain⟨rfl,rfl,rfl,rfl⟩:=h;exact key l hl (by simpa using hc)
          ·cases h
        ·cases h
      ·cases h
  ·cases h
theorem aDq{D:bP K}{P:Program}(hs:aY D ρ S w H){t e:TypeId}{c:K.U}{l:List (K.El c)}{h:Nat}{Y:Value}{k:IntKind}{n:Int}(ht:elemOf? P t=some e)(hsz:fk P e=some (K.sz c))
 (ho:H[h]?=some (.arr c l)) (hY:ρ[h]?=some Y) (hb:cF 0 n l.length=true):
 Does D P ρ S H w (do pure (.value (<-Instr.sliceAt t Y none (some (.int k n)) none))) (.sl H.length) (H.set h .dead++[.arr c (l.take n.toNat)]):=by
 have hk:=hs.kill h;obtain⟨-,h2,h3⟩:=QM hb;rcases An hs ho hY with⟨rfl,rfl⟩|⟨b,o,cap,vs,T,fr,rfl,hblk,⟨hcap,eV⟩,hsz',hfr,hall⟩
 ·have hn:n=0:=by simp at h3;omega
  subst hn;have hrun:(Instr.sliceAt t (.slice none 0 0) none (some (.int k 0)) none).run P w=.ok (.slice none 0 0) w:=by
   have:=FR (P:=P) (w:=w) (D:=D) (ρ:=ρ) (S:=S) (isS:=true) (len:=0) (cap:=0) (lo:=none) (hi:=some (.int k 0)) (l:=0) (h:=0) rfl rfl .none (.some (.int k 0)) (by omega) (by omega) (by omega) (bY _);simp[Instr.sliceAt,Instr.slice,fg (qa ht),nK hsz,this]
  have:=QH hk c false;simp only[mw,bN]at this;refine Does.FW (h:=h) ⟨_,_,w,ρ++[.slice none 0 0],jo (f:=.value) hrun,.inl rfl,by simpa using this.1,?_,by simpa using this.2⟩;exact .sl (by rw[d5 (by rw[hs.len];exact bY _)];simp[hs.len])
 ·have hrun:(Instr.sliceAt t (.slice (some ⟨b,o,none⟩) l.length cap) none (some (.int k n)) none).run P w=.ok (.slice (some ⟨b,o,none⟩) n.toNat cap) w:=by
   have:=FR (P:=P) (w:=w) (D:=D) (ρ:=ρ) (S:=S) (isS:=true) (len:=l.length) (cap:=cap) (lo:=none) (hi:=some (.int k n)) (l:=0) (h:=n) rfl rfl .none (.some (.int k n)) (by omega) h2 h3 hcap;simp[Instr.sliceAt,Instr.slice,fg (qa ht),nK hsz,this]
  have hno:=Ls hs ho rfl hY (b:=b) rfl;have hlt:=hs.lt b ⟨h,_,_,ho,rfl,hY,rfl⟩;have hlen:(l.take n.toNat).length=n.toNat:=by rw[ib];omega
  have hob:f8 D (ρ++[.slice (some ⟨b,o,none⟩) n.toNat cap]) S w (.arr c (l.take n.toNat)) (.slice (some ⟨b,o,none⟩) n.toNat cap):=by
   refine .inr ⟨b,o,cap,vs,T,fr,by rw[hlen],hblk,⟨by rw[hlen];omega,eV⟩,hsz',hfr,fun i x hx=>?_⟩;have hx':l[i]?=some x:=by
    rw[eI]at hx;split at hx
    ·exact hx
    ·cases hx
   exact(hall i x hx').mono (fun _ h=>h) (fun _ _=>rfl) (fun _ _ h=>uo h)
  refine⟨_,_,w,_,jo (f:=.value) hrun,.inl rfl,hk.push hob (fun k' _ hk'=>by simp[cu,iM]at hk';subst hk';exact⟨hlt.1,hlt.2,hno⟩),?_,?_⟩
  ·exact .sl (by rw[d5 (by rw[hs.len];exact bY _)];simp[hs.len])
  ·refine⟨rfl,rfl,rfl,bY _,fun _ _ _=>rfl,fun k' hk'=>?_,fun _ h=>h,fun _ h=>.inl h,fun k' hk'=>by rw[dD (by rw[hs.len];exact hk')]⟩;rcases FK (by simpa using hs.len) hk' with hk'|⟨-,hk'⟩
   ·exact .inl (xE hk')
   ·simp[cu,iM]at hk';subst hk';exact .inl ⟨h,_,_,ho,rfl,hY,rfl⟩
theorem Tree.take{D:bP K}{c:K.U}{l:List (K.El c)}{b o n cp m:Nat}(h:Tree D w c l (.slice (some ⟨b,o,none⟩) n cp))(hm:m<=l.length):Tree D w c (l.take m) (.slice (some ⟨b,o,none⟩) m cp)/\∀k,dW D w c (l.take m) (.slice (some ⟨b,o,none⟩) m cp) k->dW D w c l (.slice (some ⟨b,o,none⟩) n cp) k:=by
 have hget:∀{i:Nat}{x:K.El c},(l.take m)[i]?=some x->l[i]?=some x:=fun{i x} hi=>by
  simp only[eI]at hi;split at hi
  ·exact hi
  ·simp at hi
 refine⟨?_,fun k hk=>?_⟩
 ·cases h with
  |mk hb hcap hsz hfr hlen jz pW hself hdis=>
   have hml:(l.take m).length=m:=by simp;omega
   have:=Tree.mk (l:=l.take m) hb ⟨by rw[hml];omega,hcap.2⟩ hsz hfr (fun i x hx=>hlen i x (hget hx)) (fun i x hx=>jz i x (hget hx)) (fun i x hx=>pW i x (hget hx)) (fun i x hx=>hself i x (hget hx))
    (fun i x hx j c' l' y hj hy i2 x2 hx2=>hdis i x (hget hx) j c' l' y hj hy i2 x2 (hget hx2))
   rwa [hml]at this
 ·cases hk with
  |here=>exact .here
  |kid hx hj hy hk=>exact .kid (hget hx) hj hy hk
theorem Tree.drop{D:bP K}{c:K.U}{l:List (K.El c)}{b o n cp m:Nat}(h:Tree D w c l (.slice (some ⟨b,o,none⟩) n cp))(hm:m<=l.length)(hE:D.pO c=none){o':Nat}(ho':(cp=m/\o'=o)\/o'=o+m*K.sz c):
 Tree D w c (l.drop m) (.slice (some ⟨b,o',none⟩) (l.length-m) (cp-m))/\∀k,dW D w c (l.drop m) (.slice (some ⟨b,o',none⟩) (l.length-m) (cp-m)) k->dW D w c l (.slice (some ⟨b,o,none⟩) n cp) k:=by
 have hget:∀{i:Nat}{x:K.El c},(l.drop m)[i]?=some x->l[m+i]?=some x:=fun{i x} hi=>by simpa using hi
 have hml:(l.drop m).length=l.length-m:=by simp
 cases h with
 | @mk _ _ _ _ _ vs T fr hb hcap hsz hfr hlen jz pW hself hdis=>
   have hpos:∀{i:Nat}{x:K.El c},(l.drop m)[i]?=some x->o'+i*K.sz c=o+(m+i)*K.sz c:=fun{i x} hi=>by
    have hi':=(cz.1 hi).1;rcases ho' with⟨h,-⟩|h
    ·rw[hml]at hi';have:=hcap.1;omega
    ·rw[h,ek];omega
   have hmc:m*K.sz c+(cp-m)*K.sz c=cp*K.sz c:=by rw[<-ek];congr 1;have:=hcap.1;omega
   have hlo:o<=o':=by rcases ho' with⟨-,h⟩|h<;>omega
   have hhi:o'+(cp-m)*K.sz c<=o+cp*K.sz c:=by
    rcases ho' with⟨h,h'⟩|h
    ·rw[h,rF,ES];omega
    ·omega
   refine⟨?_,fun k hk=>?_⟩
   ·have:=Tree.mk (D:=D) (l:=l.drop m) (o:=o') (cap:=cp-m) hb ⟨by rw[hml];have:=hcap.1;omega,(fun t ht=>by rw[hE]at ht;cases ht),hcap.2.2⟩ (by omega) (fun k h1 h2=>hfr k (by omega) (by omega))
     (fun i x hx=>by rw[hpos hx];exact hlen _ x (hget hx)) (fun i x hx=>by rw[hpos hx];exact jz _ x (hget hx)) (fun i x hx=>by rw[hpos hx];exact pW _ x (hget hx)) (fun i x hx=>by rw[hpos hx];exact hself _ x (hget hx))
     (fun i x hx j c' l' y hj hy i2 x2 hx2 j2 c2 l2 y2 hj2 hy2 k h1 h2=>by
       rw[hpos hx]at hy;rw[hpos hx2]at hy2;obtain⟨e1,e2⟩:=hdis _ x (hget hx) j c' l' y hj hy _ x2 (hget hx2) j2 c2 l2 y2 hj2 hy2 k h1 h2;exact⟨by omega,e2⟩)
    rwa [hml]at this
   ·cases hk with
    |here=>exact .here
    |kid hx hj hy hk=>rw[hpos hx]at hy;exact .kid (hget hx) hj hy hk
theorem aDr{cx:Cx K}(hs:aY cx.D ρ S w H){ev:Operand->AV K}{ρe:Operand->Value}(hev:∀x,Rep cx.D ρ S w (ev x) (ρe x)){o:Oper}{v:AV K}{H':List (Ob K)}{c:Bool}{t:List Nat}
 (h:cutV cx ev H o.op=some (v,H',c,t)) (hc:c=true):Does cx.D cx.P ρ S H w (execOp ρe o) v H':=by
 unfold cutV at h;split at h
 ·rename_i T x y hop;split at h
  ·split at h
   ·rename_i hh k n e hx hy he;have h1:=hev x;rw[hx]at h1;have h2:=hev y;rw[hy]at h2;obtain⟨hr,-⟩:=lj h1;unfold execOp;rw[hop];split at h
    ·rename_i cc l hob;split at h
     ·rename_i hsz;simp only[aD,bj]at h;obtain⟨rfl,rfl,rfl,rfl⟩:=h;have:=aDq (P:=cx.P) (k:=k) hs he hsz hob hr hc;rw[<-f7 h2]at this;exact this
     ·cases h
    ·cases h
   ·cases h
  ·cases h
 ·cases h
theorem aDs{cx:Cx K}(hD:bW cx.D)(hs:aY cx.D ρ S w H){ev:Operand->AV K}{ρe:Operand->Value}(hev:∀x,Rep cx.D ρ S w (ev x) (ρe x)){o:Oper}{v:AV K}{H':List (Ob K)}{c:Bool}{t:List Nat}
 (h:Ft cx ev H o.op=some (v,H',c,t)) (hc:c=true):H'=H/\∃u w' S',(execOp ρe o).run cx.P w=.ok (.value u) w'/\aY cx.D ρ S' w' H/\Rep cx.D ρ S' w' v u/\Step cx.D H.length ρ S H w ρ S' H w':=by
 unfold Ft at h;split at h
 ·rename_i T len parts hop;split at h
  ·cases h
  ·rename_i e he;split at h
   ·rename_i cc l hty hl;split at h
    ·rename_i hcond;obtain⟨hsz,hz,hlen,h1,h2,hall⟩:=hcond;split at h
     ·rename_i y b hdec;simp only[aD,bj]at h;obtain⟨rfl,rfl,rfl,rfl⟩:=h;subst hc;obtain⟨cs',hrun,-,hseg⟩:=akO (P:=cx.P) hD hs hev he hsz hz hl hlen h1 h2 hall hdec;obtain⟨g1,g2,g3⟩:=aC7 (P:=cx.P) hs (c:=cc) (l:=y) (vs:=cs') (T:=e) (fr:=(0,0)) (w':=w.alloc (.cells cs' e)) rfl rfl rfl rfl hseg;refine⟨rfl,_,_,_,?_,g1,g2,g3⟩;unfold execOp;rw[hop];exact hrun
     ·cases h
    ·cases h
   ·cases h
 ·cases h
end Go.V
namespace Go.V
open Go
variable {K :db}{D:bP K}{ρ ρ':List Value}{S S':Nat->Prop}{w w':World}{H H':List (Ob K)}
def eF(D:bP K)(ρ:List Value)(S:Nat->Prop)(w:World)(tmps:Array Value):AV K->Value->Prop
 |.opt g want v,x=>(tmps[g]?=some (.bool want)/\Rep D ρ S w v x)\/(tmps[g]?≠some (.bool want)/\x=undef)
 |v,x=>Rep D ρ S w v x
structure eP (D:bP K) (ρ:List Value) (S:Nat->Prop) (w:World) (tm:List (AV K)) (tmps:Array Value):Prop where
 len:tm.length=tmps.size
 ok:∀(t:Nat) v x,tm[t]?=some v->tmps[t]?=some x->eF D ρ S w tmps v x
theorem eF.mono{tmps:Array Value}(hS:∀b,S b->S' b)(hw:∀b,S b->w'.heap[b]?=w.heap[b]?)(hρ:∀(h:Nat) r,ρ[h]?=some r->ρ'[h]?=some r){v:AV K}{x:Value}(h:eF D ρ S w tmps v x):eF D ρ' S' w' tmps v x:=by
 cases v<;>simp only[eF]at h⊢<;>first|exact h.mono hS hw hρ|(rcases h with⟨a,b⟩|h;exact .inl ⟨a,b.mono hS hw hρ⟩;exact .inr h)
theorem eP.mono{tm:List (AV K)}{tmps:Array Value}(hS:∀b,S b->S' b)(hw:∀b,S b->w'.heap[b]?=w.heap[b]?)(hρ:∀(h:Nat) r,ρ[h]?=some r->ρ'[h]?=some r)(h:eP D ρ S w tm tmps):eP D ρ' S' w' tm tmps:=
 ⟨h.len,fun t v x hv hx=>(h.ok t v x hv hx).mono hS hw hρ⟩
theorem eF.jV{tmps:Array Value}{v:AV K}{x:Value}(h:Rep D ρ S w v x):eF D ρ S w tmps v x:=by
 cases v<;>first|exact h|(cases h)
theorem eP.get{tm:List (AV K)}{tmps:Array Value}(h:eP D ρ S w tm tmps){t:Nat}{v:AV K}(hv:tm[t]?=some v):∃x,tmps[t]?=some x/\eF D ρ S w tmps v x:=by
 have ht:t<tmps.size:=by rw[<-h.len];exact(cz.1 hv).1
 exact⟨tmps[t],zW ht,h.ok t v _ hv (zW ht)⟩
theorem akW{tm:List (AV K)}{tmps:Array Value}(h:eP D ρ S w tm tmps):∀(n:Nat)(g t:Nat×Bool),covers tm n g t=true->tmps[g.1]?=some (.bool g.2)->tmps[t.1]?=some (.bool t.2)
 |0,g,t,hc,hg=>by simp[covers]at hc;rw[<-hc.1,<-hc.2];exact hg
 |n+1,g,t,hc,hg=>by
  simp only[covers,eC]at hc;rcases hc with hc|hc
  ·simp at hc;rw[<-hc.1,<-hc.2];exact hg
  ·split at hc
   ·rename_i g1 w1 v hv;obtain⟨x,hx,ho⟩:=h.get hv;rw[hg]at hx;simp at hx;subst hx;rcases ho with⟨a,-⟩|⟨-,b⟩
    ·exact akW h n (g1,w1) t hc a
    ·simp[undef]at b
   ·cases hc
theorem akX{tm:List (AV K)}{tmps:Array Value}(h:eP D ρ S w tm tmps):∀(n g:Nat)(want e:Bool),zZ tm n (g,want)=some e->(e=true↔tmps[g]?=some (.bool want))
 |0,g,want,e,hc=>by simp[zZ]at hc
 |n+1,g,want,e,hc=>by
  simp only[zZ]at hc;split at hc
  ·rename_i b hv;obtain⟨x,hx,ho⟩:=h.get hv;simp only[eF]at ho;rw[kB ho]at hx;simp only[aD]at hc;subst hc;rw[hx];simp
  ·rename_i g1 w1 b hv;obtain⟨x,hx,ho⟩:=h.get hv;simp only[eN]at hc;obtain⟨e1,he1,rfl⟩:=hc;have ih:=akX h n g1 w1 e1 he1;rcases ho with⟨a,ho⟩|⟨a,ho⟩
   ·rw[kB ho]at hx;rw[ih.2 a,hx];simp
   ·have:e1=false:=by cases e1;rfl;exact absurd (ih.1 rfl) a
    rw[this,hx,ho];simp[undef]
  ·cases hc
theorem akY{a:Act}{t:Nat}{x:Value}(h:a.tmps[t]?=some x):a.eval (.tmp t)=x:=by simp[Act.eval,nD,h]
theorem LK{tm:List (AV K)}{a:Act}(h:eP D ρ S w tm a.tmps){gs:List (Nat×Bool)}(hg:∀p∈gs,a.tmps[p.1]?=some (.bool p.2))(x:Operand):Rep D ρ S w (dH tm gs x) (a.eval x):=by
 cases x with
 |tmp t=>
  simp only[dH];split
  ·rename_i g w1 v hv;split
   ·rename_i hc;obtain⟨y,hy,ho⟩:=h.get hv;rw[akY hy];obtain⟨p,hp,hcov⟩:=List.any_eq_true.1 hc;have:=akW h 6 p (g,w1) hcov (hg p hp);rcases ho with⟨-,ho⟩|⟨n,-⟩
    ·exact ho
    ·exact absurd this n
   ·exact .any _
  ·rename_i v hne hv;obtain⟨y,hy,ho⟩:=h.get hv;rw[akY hy];cases v<;>first|exact ho|exact absurd rfl (hne _ _ _)
  ·exact .any _
 |const v=>
  simp only[dH,Act.eval];cases hv:(ly v:Option (AV K))with
  |none=>exact .any _
  |some y=>exact FO v y hv
 |global g=>exact .any _
 |func f=>exact .fn (caps:=[]) (vs:=[]) rfl (fun i v x h=>by simp at h)
mutual
theorem akZ:∀(x y:AV K)(v:Value),Rep D ρ S w x v->Rep D ρ S w (merge true x y) v
 |.int k m,y,v,h=>by cases y<;>first|exact .any _|(simp only[merge];split<;>first|exact h|exact .any _)
 |.bool m,y,v,h=>by cases y<;>first|exact .any _|exact h
 |.str m,y,v,h=>by cases y<;>first|exact .any _|exact h
 |.ah c l,y,v,h=>by
   cases y<;>first|exact .any _|skip
   rename_i c' l';simp only[merge];cases hd:K.jR c c' with
   |isTrue he=>subst he;exact h
   |isFalse hn=>exact .any _
 |.agg l,y,v,h=>by
   cases y<;>first|exact .any _|skip
   rename_i l';simp only[merge];split
   ·rename_i he;cases h with
    |agg hl hr=>
     have:=ak0 l l' he _ ⟨hl,hr⟩;exact .agg this.1 this.2
   ·exact .any _
 |.dj,y,v,h=>by cases y<;>first|exact .any _|exact h
 |.mp,y,v,h=>by cases y<;>first|exact .any _|exact h
 |.dt,y,v,h=>by cases y<;>first|exact .any _|exact h
 |.any,y,v,h|.fn _ _,y,v,h|.ptr _ _,y,v,h|.sl _,y,v,h|.ep _ _ _ _,y,v,h|.rp _ _ _,y,v,h|.bU _,y,v,h|.np _,y,v,h|.vw _ _ _ _,y,v,h|.opt _ _ _,y,v,h=>by simp only[merge];exact .any _
theorem ak0:∀(l l':List (AV K)),l.length=l'.length->∀(vs:List Value),bE D ρ S w l vs->bE D ρ S w (merges true l l') vs
 |[],l',hl,vs,h=>by cases l'<;>simp[merges]<;>exact h
 |x::r,[],hl,vs,h=>by simp at hl
 |x::r,y::s,hl,vs,h=>by
  obtain⟨u,t,rfl,h1,h2⟩:=h.fE;simp only[merges];exact .cons (akZ x y u h1) (ak0 r s (by simpa using hl) t h2)
end
mutual
theorem ak1:∀(x y:AV K)(v:Value),Rep D ρ S w y v->Rep D ρ S w (merge false x y) v
 |.int k m,y,v,h=>by cases y<;>first|exact .any _|(simp only[merge];split<;>first|(rename_i he;subst he;exact h)|exact .any _)
 |.bool m,y,v,h=>by cases y<;>first|exact .any _|exact h
 |.str m,y,v,h=>by cases y<;>first|exact .any _|exact h
 |.ah c l,y,v,h=>by
   cases y<;>first|exact .any _|skip
   rename_i c' l';simp only[merge];cases hd:K.jR c c' with
   |isTrue he=>subst he;exact h
   |isFalse hn=>exact .any _
 |.agg l,y,v,h=>by
   cases y<;>first|exact .any _|skip
   rename_i l';simp only[merge];split
   ·rename_i he;cases h with
    |agg hl hr=>
     have:=ak2 l l' he _ ⟨hl,hr⟩;exact .agg this.1 this.2
   ·exact .any _
 |.dj,y,v,h=>by cases y<;>first|exact .any _|exact h
 |.mp,y,v,h=>by cases y<;>first|exact .any _|exact h
 |.dt,y,v,h=>by cases y<;>first|exact .any _|exact h
 |.any,y,v,h|.fn _ _,y,v,h|.ptr _ _,y,v,h|.sl _,y,v,h|.ep _ _ _ _,y,v,h|.rp _ _ _,y,v,h|.bU _,y,v,h|.np _,y,v,h|.vw _ _ _ _,y,v,h|.opt _ _ _,y,v,h=>by simp only[merge];exact .any _
theorem ak2:∀(l l':List (AV K)),l.length=l'.length->∀(vs:List Value),bE D ρ S w l' vs->bE D ρ S w (merges false l l') vs
 |[],l',hl,vs,h=>by cases l'<;>simp[merges]at hl⊢<;>exact h
 |x::r,[],hl,vs,h=>by simp at hl
 |x::r,y::s,hl,vs,h=>by
  obtain⟨u,t,rfl,h1,h2⟩:=h.fE;simp only[merges];exact .cons (ak1 x y u h1) (ak2 r s (by simpa using hl) t h2)
end
theorem ak3{b:Bool}{x y:AV K}{v:Value}(h1:b=true->Rep D ρ S w x v)(h2:b=false->Rep D ρ S w y v):Rep D ρ S w (merge b x y) v:=by
 cases b
 ·exact ak1 x y v (h2 rfl)
 ·exact akZ x y v (h1 rfl)
end Go.V
namespace Go.V
open Go
variable {K :db}{D:bP K}{ρ ρ':List Value}{S S':Nat->Prop}{w w':World}{H H':List (Ob K)}
def tV(P:Program)(f:FuncId):Prop:=∃fn,P.funcs[f]?=some fn/\(fn.name== "runtime.NumGoroutine")=false/\fn.body.isNone=false
def RC(D:bP K)(P:Program)(f:FuncId)(args:List (AV K))(H:List (Ob K))(r:AV K)(H':List (Ob K)):Prop:=
 tV P f/\∀(ρ:List Value)(S:Nat->Prop)(w:World)(vals:List Value),aY D ρ S w H->bE D ρ S w args vals->
  Calls P f vals.toArray w fun e w'=>∃u ρ' S',e=.returned u/\aY D ρ' S' w' H'/\Rep D ρ' S' w' r u/\Step D H.length ρ S H w ρ' S' H' w'
theorem Q1(hs:aY D ρ S w H)(x:AV K)(v:Value)(hx:Rep D ρ S w x v):Rep D ρ (fun b=>S b\/Own D w ρ H b) w (xi H x) v:=by
 cases x with
 |sl h=>
  obtain⟨hp,a,n,c,rfl⟩:=lj hx;simp only[xi];split
  ·rename_i cc l hob;rcases An hs hob hp with⟨e,rfl⟩|⟨b,o,cap,vs,T,fr,e,hblk,⟨hcap,eV⟩,hsz,hfr,hall⟩
   ·rw[e];exact .eM _ _
   ·rw[e]at hp⊢;refine .ah (fun i=>cQ vs (o+i*K.sz cc) (K.sz cc)) (.inr ⟨h,_,_,hob,rfl,hp,rfl⟩) hcap (fun i x hx=>(hall i x hx).1.symm) (fun i _=>Aq hblk _ _) (fun i x hx j v y hv hy=>?_);exact((hall i x hx).2 j v y hv hy).mono (fun _ h=>.inl h) (fun _ _=>rfl) (fun _ _ h=>h)
  ·rename_i cc l hob;have:=hs.ob _ _ _ hob hp;exact Rep.mono (fun _ h=>.inl h) (fun _ _=>rfl) (fun _ _ h=>h) this
  ·rename_i cc l hob;exact Tree.rep (hs.ob _ _ _ hob hp) fun k hk=>.inr ⟨h,_,_,hob,rfl,hp,hk⟩
  ·exact .any _
 |_=>exact hx.mono (fun _ h=>.inl h) (fun _ _=>rfl) (fun _ _ h=>h)
theorem aDt(hs:aY D ρ S w H)(l:List (AV K))(vs:List Value)(hx:bE D ρ S w l vs):bE D ρ (fun b=>S b\/Own D w ρ H b) w (l.map (xi H)) vs:=
 ⟨by simp[hx.1],fun i v x hv hy=>by
   rw[f5,eN]at hv;obtain⟨u,hu,rfl⟩:=hv;exact Q1 hs u x (hx.2 i u x hu hy)⟩
mutual
theorem ak4(hD:bW D)(hs:aY D ρ S w H):∀(x:AV K)(v:Value),Rep D ρ S w x v->Rep D ρ (fun b=>S b\/Own D w ρ H b) w (iz D H x) v
 |.sl h,v,hx=>by
   obtain⟨hp,a,n,c,rfl⟩:=lj hx;simp only[iz];split
   ·rename_i cc l hob;rcases An hs hob hp with⟨e,rfl⟩|⟨b,o,cap,vs,T,fr,e,hblk,⟨hcap,eV⟩,hsz,hfr,hall⟩
    ·rw[e];exact .eM _ _
    ·rw[e]at hp⊢;refine .ah (fun i=>cQ vs (o+i*K.sz cc) (K.sz cc)) (.inr ⟨h,_,_,hob,rfl,hp,rfl⟩) hcap (fun i x hx=>(hall i x hx).1.symm) (fun i _=>Aq hblk _ _) (fun i x hx j v y hv hy=>?_);exact((hall i x hx).2 j v y hv hy).mono (fun _ h=>.inl h) (fun _ _=>rfl) (fun _ _ h=>h)
   ·rename_i cc l hob;have:=hs.ob _ _ _ hob hp;exact Rep.mono (fun _ h=>.inl h) (fun _ _=>rfl) (fun _ _ h=>h) this
   ·rename_i cc l hob;exact Tree.rep (hs.ob _ _ _ hob hp) fun k hk=>.inr ⟨h,_,_,hob,rfl,hp,hk⟩
   ·exact .any _
 |.vw h st lo hi,v,hx=>by
   cases hx with
   |vw hp h1 h2 ha=>
    simp only[iz];split
    ·rename_i cc l hob;split
     ·rename_i hst;subst hst;have:=Q1 (D:=D) hs (.sl h) _ (.sl hp);simp only[xi,hob]at this;exact akA this h1 h2 ha
     ·exact .any _
    ·rename_i cc l hob;split
     ·rename_i hst;subst hst;have:=Q1 (D:=D) hs (.sl h) _ (.sl hp);simp only[xi,hob]at this;exact akA this h1 h2 ha
     ·exact .any _
    ·exact .any _
 |.ptr h off,v,hx=>by
   obtain⟨b,rfl,hp⟩:=tU hx;simp only[iz];split
   ·rename_i cs hob;split
    ·rename_i c hf;split
     ·rename_i y hdec;obtain⟨b',vs,T,e,hblk,hr,-⟩:=hs.ob _ _ _ hob hp;simp only[Value.pointer.injEq,aD,Addr.mk.injEq]at e;obtain⟨rfl,-,-⟩:=e;have hc:=hD.dec c _ _ hdec ρ (fun b=>S b\/Own D w ρ H b) w _ (aDt hs _ _ hr);have:=Rep.rp (D:=D) (ρ:=ρ) (S:=fun b=>S b\/Own D w ρ H b) (w:=w) (c:=c) (x:=y) (b:=b) (o:=0) (off:=off) vs.toList (.inr ⟨h,_,_,hob,rfl,hp,rfl⟩) hc.1.symm
       (fun j v hv=>by simp[World.cell?,hblk];simpa using hv) (fun j v y' h1 h2=>hc.2 j v y' h1 h2)
      rw[dI]at this;exact this
     ·exact .any _
    ·exact .any _
   ·exact .any _
 |.fn g l,v,hx=>by
   cases hx with
   |fn hl hr=>
    have:=Au hD hs l _ ⟨hl,hr⟩;exact .fn this.1 this.2
 |.agg l,v,hx=>by
   cases hx with
   |agg hl hr=>
    have:=Au hD hs l _ ⟨hl,hr⟩;exact .agg this.1 this.2
 |.bU l,v,hx=>by
   cases hx with
   |bU hl hr=>
    have:=Au hD hs l _ ⟨hl,hr⟩;exact .bU this.1 this.2
 |.any,v,hx|.int _ _,v,hx|.bool _,v,hx|.str _,v,hx|.dt,v,hx|.dj,v,hx|.mp,v,hx|.ep _ _ _ _,v,hx|.ah _ _,v,hx|.rp _ _ _,v,hx|.np _,v,hx|.opt _ _ _,v,hx=>by
   simp only[iz];exact hx.mono (fun _ h=>.inl h) (fun _ _=>rfl) (fun _ _ h=>h)
theorem Au(hD:bW D)(hs:aY D ρ S w H):∀(l:List (AV K))(vs:List Value),bE D ρ S w l vs->bE D ρ (fun b=>S b\/Own D w ρ H b) w (lZ D H l) vs
 |[],vs,h=>by rw[h.lS];exact .nil
 |x::r,vs,h=>by
  obtain⟨u,t,rfl,h1,h2⟩:=h.fE;exact .cons (ak4 hD hs x u h1) (Au hD hs r t h2)
end
mutual
theorem aDu:∀(x:AV K),rj x=false->iz D H x=x
 |.sl h,hx=>by simp[rj]at hx
 |.ptr h o,hx=>by simp[rj]at hx
 |.np h,hx=>by simp[rj]at hx
 |.vw _ _ _ _,hx=>by simp[rj]at hx
 |.fn g l,hx=>by simp only[iz];rw[Av l (by simpa [rj]using hx)]
 |.agg l,hx=>by simp only[iz];rw[Av l (by simpa [rj]using hx)]
 |.bU l,hx=>by simp only[iz];rw[Av l (by simpa [rj]using hx)]
 |.any,hx|.int _ _,hx|.bool _,hx|.str _,hx|.dt,hx|.dj,hx|.mp,hx|.ep _ _ _ _,hx|.ah _ _,hx|.rp _ _ _,hx|.opt _ _ _,hx=>rfl
theorem Av:∀(l:List (AV K)),xm l=false->lZ D H l=l
 |[],_=>rfl
 |x::r,h=>by
  simp only[xm,wO]at h;simp only[lZ];rw[aDu x h.1,Av r h.2]
end
mutual
theorem Q2:∀(x:AV K)(v:Value),x.closed=true->iC x=false->Rep D ρ S w x v->Rep D ρ' S' w' x v
 |.any,v,_,_,h=>.any _
 |.int _ _,v,_,_,h=>by rw[f7 h];exact .int _ _
 |.bool _,v,_,_,h=>by rw[kB h];exact .bool _
 |.str _,v,_,_,h=>by rw[gX h];exact .str _
 |.dt,v,_,_,h=>by cases h;exact .dt
 |.dj,v,_,_,h=>by cases h;exact .dj
 |.mp,v,_,_,h=>by cases h;exact .mp _
 |.fn f l,v,hc,hr,h=>by
   cases h with
   |fn hl hh=>
    have:=LL l _ (by simpa [AV.closed]using hc) (by simpa [iC]using hr) ⟨hl,hh⟩;exact .fn this.1 this.2
 |.agg l,v,hc,hr,h=>by
   cases h with
   |agg hl hh=>
    have:=LL l _ (by simpa [AV.closed]using hc) (by simpa [iC]using hr) ⟨hl,hh⟩;exact .agg this.1 this.2
 |.bU l,v,hc,hr,h=>by
   cases h with
   |bU hl hh=>
    have:=LL l _ (by simpa [AV.closed]using hc) (by simpa [iC]using hr) ⟨hl,hh⟩;exact .bU this.1 this.2
 |.np _,v,hc,_,_|.vw _ _ _ _,v,hc,_,_|.ptr _ _,v,hc,_,_|.sl _,v,hc,_,_|.ep _ _ _ _,v,hc,_,_|.opt _ _ _,v,hc,_,_=>by simp[AV.closed]at hc
 |.ah _ _,v,_,hr,_|.rp _ _ _,v,_,hr,_=>by simp[iC]at hr
theorem LL:∀(l:List (AV K))(vs:List Value),gI l=true->iw l=false->bE D ρ S w l vs->bE D ρ' S' w' l vs
 |[],vs,_,_,h=>by rw[h.lS];exact .nil
 |x::r,vs,hc,hr,h=>by
  simp only[gI,bC]at hc;simp only[iw,wO]at hr;obtain⟨u,t,rfl,h1,h2⟩:=h.fE;exact .cons (Q2 x u hc.1 hr.1 h1) (LL r t hc.2 hr.2 h2)
end
def Ren(f:Nat->Option Nat)(ρ ρ':List Value):Prop:=∀(i j:Nat)(r:Value),f i=some j->ρ[i]?=some r->ρ'[j]?=some r
mutual
theorem uw(hD:bW D){f:Nat->Option Nat}(hm:Ren f ρ ρ'):∀(x x':AV K)(v:Value),fe f x=some x'->Rep D ρ S w x v->Rep D ρ' S w x' v
 |.ptr h o,x',v,hb,hx=>by
   simp only[fe,eN]at hb;obtain⟨j,hj,rfl⟩:=hb;obtain⟨b,rfl,hp⟩:=tU hx;exact .ptr (hm _ _ _ hj hp)
 |.vw h st lo hi,x',v,hb,hx=>by
   simp only[fe,eN]at hb;obtain⟨j,hj,rfl⟩:=hb;cases hx with
   |vw hp h1 h2 ha=>exact .vw (hm _ _ _ hj hp) h1 h2 ha
 |.np h,x',v,hb,hx=>by
   simp only[fe,eN]at hb;obtain⟨j,hj,rfl⟩:=hb;cases hx with
   |ko=>exact .ko
   |np hp=>exact .np (hm _ _ _ hj hp)
 |.sl h,x',v,hb,hx=>by
   simp only[fe,eN]at hb;obtain⟨j,hj,rfl⟩:=hb;obtain⟨hp,a,n,c,rfl⟩:=lj hx;exact .sl (hm _ _ _ hj hp)
 |.ep h s i o,x',v,hb,hx=>by
   simp only[fe,eN]at hb;obtain⟨j,hj,rfl⟩:=hb;obtain⟨b,o',n,c,rfl,hp,hi⟩:=Ap hx;exact .ep (hm _ _ _ hj hp) hi
 |.fn g l,x',v,hb,hx=>by
   simp only[fe,eN]at hb;obtain⟨l',hl',rfl⟩:=hb;cases hx with
   |fn hl hh=>
    have:=Aw hD hm l l' _ hl' ⟨hl,hh⟩;exact .fn this.1 this.2
 |.agg l,x',v,hb,hx=>by
   simp only[fe,eN]at hb;obtain⟨l',hl',rfl⟩:=hb;cases hx with
   |agg hl hh=>
    have:=Aw hD hm l l' _ hl' ⟨hl,hh⟩;exact .agg this.1 this.2
 |.bU l,x',v,hb,hx=>by
   simp only[fe,eN]at hb;obtain⟨l',hl',rfl⟩:=hb;cases hx with
   |bU hl hh=>
    have:=Aw hD hm l l' _ hl' ⟨hl,hh⟩;exact .bU this.1 this.2
 |.opt _ _ _,x',v,hb,hx=>by simp[fe]at hb
 |.any,x',v,hb,hx=>by simp only[fe,aD]at hb;subst hb;exact .any _
 |.int _ _,x',v,hb,hx=>by simp only[fe,aD]at hb;subst hb;rw[f7 hx];exact .int _ _
 |.bool _,x',v,hb,hx=>by simp only[fe,aD]at hb;subst hb;rw[kB hx];exact .bool _
 |.str _,x',v,hb,hx=>by simp only[fe,aD]at hb;subst hb;rw[gX hx];exact .str _
 |.dt,x',v,hb,hx=>by simp only[fe,aD]at hb;subst hb;cases hx;exact .dt
 |.dj,x',v,hb,hx=>by simp only[fe,aD]at hb;subst hb;cases hx;exact .dj
 |.mp,x',v,hb,hx=>by simp only[fe,aD]at hb;subst hb;cases hx;exact .mp _
 |.ah c l,x',v,hb,hx=>by simp only[fe,aD]at hb;subst hb;exact hx.closed hD rfl
 |.rp c y o,x',v,hb,hx=>by simp only[fe,aD]at hb;subst hb;exact hx.closed hD rfl
theorem Aw(hD:bW D){f:Nat->Option Nat}(hm:Ren f ρ ρ'):∀(l l':List (AV K))(vs:List Value),ji f l=some l'->bE D ρ S w l vs->bE D ρ' S w l' vs
 |[],l',vs,hb,h=>by simp only[ji,aD]at hb;subst hb;rw[h.lS];exact .nil
 |x::r,l',vs,hb,h=>by
  simp only[ji]at hb;split at hb
  ·rename_i x1 r1 hx1 hr1;simp only[aD]at hb;subst hb;obtain⟨u,t,rfl,h1,h2⟩:=h.fE;exact .cons (uw hD hm x x1 u hx1 h1) (Aw hD hm r r1 t hr1 h2)
  ·cases hb
end
end Go.V
namespace Go.V
open Go
variable {K :db}{D:bP K}{ρ ρ':List Value}{S S':Nat->Prop}{w w':World}{H H':List (Ob K)}
theorem nM{f:Nat->Option Nat}{o o':Ob K}(h:kD f o=some o'){r:Value}{b:Nat}:cu D w o' r b↔cu D w o r b:=by
 cases o<;>simp[kD]at h
 ·subst h;exact jc
 ·obtain⟨l,-,rfl⟩:=h;exact jc
 ·subst h;exact jc
 ·subst h;exact jc
 ·subst h;exact jc
theorem my{f:Nat->Option Nat}{o o':Ob K}(h:kD f o=some o'):o'.live=o.live:=by
 cases o<;>simp[kD]at h
 ·subst h;rfl
 ·obtain⟨l,-,rfl⟩:=h;rfl
 ·subst h;rfl
 ·subst h;rfl
 ·subst h;rfl
theorem aDv{f:Nat->Option Nat}{l l':List (AV K)}(h:ji f l=some l')(hn:kC l'=true):kC l=true:=by
 cases l with
 |nil=>simp[ji]at h;subst h;cases hn
 |cons v r=>
  simp only[ji]at h;split at h
  ·rename_i x y hx hy;simp only[aD]at h;subst h;cases v<;>simp only[fe,eN,aD,reduceCtorEq]at hx<;>first|rfl|(subst hx;cases hn)|(obtain⟨a,-,rfl⟩:=hx;cases hn)
  ·cases h
theorem Q3(hD:bW D){f:Nat->Option Nat}(hm:Ren f ρ ρ'){o o':Ob K}{r:Value}(h:kD f o=some o')(hs:f8 D ρ S w o r):f8 D ρ' S w o' r:=by
 cases o with
 |dead=>simp[kD]at h;subst h;trivial
 |gp c l=>simp[kD]at h;subst h;exact Rep.closed hD hs rfl
 |box cs=>
  simp only[kD,eN]at h;obtain⟨l,hl,rfl⟩:=h;obtain⟨b,vs,T,e,h1,h2,h3⟩:=hs;exact⟨b,vs,T,e,h1,Aw hD hm cs l _ hl h2,fun hn=>h3 (aDv hl hn)⟩
 |tree c l=>simp[kD]at h;subst h;exact hs
 |opn c l i off cs=>simp[kD]at h
 |arr c l=>
  simp[kD]at h;subst h;rcases hs with hs|⟨b,o,cap,vs,T,fr,e,h1,h2,h3,h4,h5⟩
  ·exact .inl hs
  ·exact .inr ⟨b,o,cap,vs,T,fr,e,h1,h2,h3,h4,fun i x hx=>(h5 i x hx).closed hD (hD.closed _ _)⟩
theorem Q4{f:Ob K->Option (Ob K)}:∀(l l':List (Ob K)),mq f l=some l'->l'.length=l.length/\∀(i:Nat) o o',l[i]?=some o->l'[i]?=some o'->f o=some o'
 |[],l',h=>by simp[mq]at h;subst h;exact⟨rfl,fun i o o' h=>by simp at h⟩
 |x::r,l',h=>by
  simp only[mq]at h;split at h
  ·rename_i y s hy hs;simp only[aD]at h;subst h;obtain⟨h1,h2⟩:=Q4 r s hs;refine⟨by simp[h1],fun i o o' ho ho'=>?_⟩;cases i with
   |zero=>simp at ho ho';subst ho;subst ho';exact hy
   |succ i=>exact h2 i o o' (by simpa using ho) (by simpa using ho')
  ·cases h
theorem FX:∀(m:List Nat),xo H m=true->(∀(i h:Nat),m[i]?=some h->h<H.length)/\∀(i j h:Nat),m[i]?=some h->m[j]?=some h->i=j
 |[],_=>⟨fun i h hi=>by simp at hi,fun i j h hi=>by simp at hi⟩
 |x::r,hp=>by
  simp only[xo,bC,bq,eL,zX,dR]at hp;obtain⟨h1,h2⟩:=FX r hp.2.2;refine⟨fun i h hi=>?_,fun i j h hi hj=>?_⟩
  ·cases i with
   |zero=>simp at hi;subst hi;exact hp.1
   |succ i=>exact h1 i h (by simpa using hi)
  ·cases i with
   |zero=>
    cases j with
    |zero=>rfl
    |succ j=>simp at hi hj;subst hi;exact absurd (gG hj) hp.2.1
   |succ i=>
    cases j with
    |zero=>simp at hi hj;subst hj;exact absurd (gG hi) hp.2.1
    |succ j=>rw[h2 i j h (by simpa using hi) (by simpa using hj)]
theorem FY:∀(m:List Nat)(H os:List (Ob K)),(jj H m os).length=H.length
 |[],H,os=>by simp[jj]
 |h::m,H,[]=>by simp[jj]
 |h::m,H,o::r=>by simp[jj,FY m]
theorem ak5:∀(m:List Nat)(H os:List (Ob K)),m.length<=os.length->∀(k:Nat)(o:Ob K),(jj H m os)[k]?=some o->(k∉m/\H[k]?=some o)\/∃i:Nat,m[i]?=some k/\os[i]?=some o
 |[],H,os,_,k,o,h=>.inl ⟨by simp,by simpa [jj]using h⟩
 |x::m,H,[],hl,k,o,h=>by simp at hl
 |x::m,H,y::r,hl,k,o,h=>by
  rcases ak5 m (H.set x y) r (by simpa using hl) k o (by simpa [jj]using h)with⟨h1,h2⟩|⟨i,h1,h2⟩
  ·rcases ff h2 with⟨rfl,rfl,-⟩|⟨hne,h2⟩
   ·exact .inr ⟨0,rfl,rfl⟩
   ·exact .inl ⟨by simp[hne,h1],h2⟩
  ·exact .inr ⟨i+1,by simpa using h1,by simpa using h2⟩
theorem Q5{m:List Nat}{n k i j:Nat}(h:(gJ m n k)[i]?=some j):(i<m.length/\m[i]?=some j)\/(m.length<=i/\i<k/\j=n+(i-m.length)):=by
 unfold gJ at h;by_cases hi:i<m.length
 ·rw[dD hi]at h;exact .inl ⟨hi,h⟩
 ·rw[d5 (by omega)]at h;simp only[f5,eN]at h;obtain⟨a,ha,rfl⟩:=h;have:=cz.1 ha;obtain⟨h1,h2⟩:=this;simp at h1 h2;exact .inr ⟨by omega,by omega,by omega⟩
theorem join(hD:bW D)(hs:aY D ρ S w H){m:List Nat}(hm:xo H m=true){ρi:List Value}{Hi:List (Ob K)}(Q6:∀(i h:Nat),m[i]?=some h->ρi[i]?=ρ[h]?)(hil:Hi.length=m.length)
 (hHi:∀(i h:Nat) o,m[i]?=some h->Hi[i]?=some o->∃o0,H[h]?=some o0/\o0.live=o.live/\∀r b,cu D w o r b↔cu D w o0 r b) (hsi:aY D ρi S w Hi)
 {ρo:List Value} {So:Nat->Prop} {Ho hC:List (Ob K)} (hso:aY D ρo So w' Ho) (st:Step D Hi.length ρi S Hi w ρo So Ho w') (hle:Hi.length<=Ho.length) (hb:mq (xn (gJ m H.length Ho.length)) Ho=some hC):
 aY D (ρ++ρo.drop m.length) So w' (jj H m (hC.take m.length)++hC.drop m.length)/\
  Step D H.length ρ S H w (ρ++ρo.drop m.length) So (jj H m (hC.take m.length)++hC.drop m.length) w'/\
  Ren (fun h=>(gJ m H.length Ho.length)[h]?) ρo (ρ++ρo.drop m.length):=by
 obtain⟨ux,Q7⟩:=FX m hm;obtain⟨hol,hog⟩:=Q4 _ _ hb;have hlen:=hs.len;have aE9:=hsi.len;have aFa:=hso.len;have rz:Ren (fun h=>(gJ m H.length Ho.length)[h]?) ρo (ρ++ρo.drop m.length):=fun i j r hij hr=>by
  rcases Q5 hij with⟨h1,h2⟩|⟨h1,h2,rfl⟩
  ·rw[dD (by rw[hlen];exact ux i j h2),<-Q6 i j h2,<-st.pre i (by omega)];exact hr
  ·rw[d5 (by omega),iK,<-hr];congr 1;omega
 have hget:∀{k:Nat}{o:Ob K}{r:Value},(jj H m (hC.take m.length)++hC.drop m.length)[k]?=some o->(ρ++ρo.drop m.length)[k]?=some r->
  (k∉m/\H[k]?=some o/\ρ[k]?=some r)\/∃i o1,(gJ m H.length Ho.length)[i]?=some k/\Ho[i]?=some o1/\xn (gJ m H.length Ho.length) o1=some o/\ρo[i]?=some r:=fun{k o r} ho hr=>by
  have inner:∀{i:Nat},(gJ m H.length Ho.length)[i]?=some k->hC[i]?=some o->∃i o1,(gJ m H.length Ho.length)[i]?=some k/\Ho[i]?=some o1/\xn (gJ m H.length Ho.length) o1=some o/\ρo[i]?=some r:=fun{i} h1 h2=>by
   have hi:i<Ho.length:=by rw[<-hol];exact(cz.1 h2).1
   have hg:=ct hi;have hρ:=ct (show i<ρo.length by omega);refine⟨i,_,h1,hg,hog i _ _ hg h2,?_⟩;rw[hρ,<-hr,<-rz i k _ h1 hρ]
  by_cases hk:k<H.length
  ·rw[dD (by rw[FY];exact hk)]at ho;rcases ak5 m H _ (by simp;omega) k o ho with⟨h1,h2⟩|⟨i,h1,h2⟩
   ·exact .inl ⟨h1,h2,by rwa [dD (by omega)]at hr⟩
   ·have him:=(cz.1 h1).1;rw[eI,aE him]at h2;exact .inr (inner (by unfold gJ;rw[dD him];exact h1) h2)
  ·rw[d5 (by rw[FY];omega),FY,iK]at ho;have hlt:=(cz.1 ho).1;refine .inr (inner (i:=m.length+(k-H.length)) ?_ ho);unfold gJ;rw[d5 (by omega)];simp only[f5,eN];refine⟨k-H.length,?_,by omega⟩;rw[List.getElem?_range (by omega)];congr 1;omega
 have hinj:∀{i j k:Nat},(gJ m H.length Ho.length)[i]?=some k->(gJ m H.length Ho.length)[j]?=some k->i=j:=fun{i j k} h1 h2=>by
  rcases Q5 h1 with⟨a1,a2⟩|⟨a1,a2,a3⟩<;>rcases Q5 h2 with⟨b1,b2⟩|⟨b1,b2,b3⟩
  ·exact Q7 i j k a2 b2
  ·have:=ux i k a2;omega
  ·have:=ux j k b2;omega
  ·omega
 have Q8:∀b,Own D w ρi Hi b->Own D w ρ H b:=fun b ⟨i,o,r,h1,h2,h3,h4⟩=>by
  have hi:i<m.length:=by rw[<-hil];exact(cz.1 h1).1
  have rA:=ct hi;obtain⟨o0,e1,e2,e3⟩:=hHi i _ o rA h1;exact⟨_,o0,r,e1,by rw[e2];exact h2,by rw[<-Q6 i _ rA];exact h3,(e3 r b).1 h4⟩
 have hapart:∀{k:Nat}{o:Ob K}{r:Value}{b:Nat},k∉m->H[k]?=some o->o.live=true->ρ[k]?=some r->cu D w o r b->¬Own D w ρi Hi b:=fun{k o r b} hk h1 h2 h3 h4 ⟨i,o1,r1,g1,g2,g3,g4⟩=>by
  have hi:i<m.length:=by rw[<-hil];exact(cz.1 g1).1
  have rA:=ct hi;obtain⟨o0,e1,e2,e3⟩:=hHi i _ o1 rA g1;have:=hs.eX k _ o o0 r r1 b h1 h2 h3 h4 e1 (by rw[e2];exact g2) (by rw[<-Q6 i _ rA];exact g3) ((e3 r1 b).1 g4);exact hk (by rw[this];exact bG hi)
 have hkeep:∀{k:Nat}{o:Ob K}{r:Value},k∉m->H[k]?=some o->o.live=true->ρ[k]?=some r->∀b,cu D w o r b->w'.heap[b]?=w.heap[b]?:=fun{k o r} hk h1 h2 h3 b h4=>st.old b (hs.lt b ⟨k,o,r,h1,h2,h3,h4⟩).1 (hapart hk h1 h2 h3 h4)
 have hSw:∀b,S b->w'.heap[b]?=w.heap[b]?:=st.FI hsi;have hpre:∀(h:Nat) r,ρ[h]?=some r->(ρ++ρo.drop m.length)[h]?=some r:=fun _ _ h=>uo h
 have ak6:∀b,Own D w' (ρ++ρo.drop m.length) (jj H m (hC.take m.length)++hC.drop m.length) b->(Own D w ρ H b/\¬Own D w ρi Hi b)\/Own D w' ρo Ho b:=fun b ⟨k,o,r,h1,h2,h3,h4⟩=>by
  rcases hget h1 h3 with⟨a1,a2,a3⟩|⟨i,o1,a1,a2,a3,a4⟩
  ·have h4':=h4.old (hkeep a1 a2 h2 a3);exact .inl ⟨⟨k,o,r,a2,h2,a3,h4'⟩,hapart a1 a2 h2 a3 h4'⟩
  ·exact .inr ⟨i,o1,r,a2,by rw[<-my a3];exact h2,a4,(nM a3).1 h4⟩
 refine⟨⟨?_,?_,?_,?_,hso.slt,hso.base⟩,⟨st.os,st.tape,st.output,st.size,fun b hb hno=>st.old b hb fun h=>hno (Q8 b h),fun b hb=>?_,st.s1,fun b hb=>?_,fun h hh=>?_⟩,rz⟩
 ·simp only[bA,FY,List.length_drop];omega
 ·intro k o r h1 h3;rcases hget h1 h3 with⟨a1,a2,a3⟩|⟨i,o1,a1,a2,a3,a4⟩
  ·exact(hs.ob k o r a2 a3).mono st.s1 hSw hpre fun b hl hb=>hkeep a1 a2 hl a3 b hb
  ·exact Q3 hD rz a3 (hso.ob i o1 r a2 a4)
 ·intro k k' o o' r r' b h1 h2 h3 h4 g1 g2 g3 g4;rcases hget h1 h3 with⟨a1,a2,a3⟩|⟨i,o1,a1,a2,a3,a4⟩
  ·have h4':=h4.old (hkeep a1 a2 h2 a3);rcases hget g1 g3 with⟨c1,c2,c3⟩|⟨j,o2,c1,c2,c3,c4⟩
   ·exact hs.eX k k' o o' r r' b a2 h2 a3 h4' c2 g2 c3 (g4.old (hkeep c1 c2 g2 c3))
   ·exfalso;rcases st.own b ⟨j,o2,r',c2,by rw[<-my c3];exact g2,c4,(nM c3).1 g4⟩with h|h
    ·exact hapart a1 a2 h2 a3 h4' h
    ·have:=(hs.lt b ⟨k,o,r,a2,h2,a3,h4'⟩).1;omega
  ·have h4':=(nM a3).1 h4;rcases hget g1 g3 with⟨c1,c2,c3⟩|⟨j,o2,c1,c2,c3,c4⟩
   ·exfalso;have g4':=g4.old (hkeep c1 c2 g2 c3);rcases st.own b ⟨i,o1,r,a2,by rw[<-my a3];exact h2,a4,h4'⟩with h|h
    ·exact hapart c1 c2 g2 c3 g4' h
    ·have:=(hs.lt b ⟨k',o',r',c2,g2,c3,g4'⟩).1;omega
   ·have:=hso.eX i j o1 o2 r r' b a2 (by rw[<-my a3];exact h2) a4 h4' c2 (by rw[<-my c3];exact g2) c4 ((nM c3).1 g4);subst this;rw[a1]at c1;simpa using c1
 ·intro b hb;rcases ak6 b hb with⟨h1,h2⟩|h
  ·refine⟨ju (hs.lt b h1).1 st.size,fun hS=>?_⟩;rcases st.s2 b hS with h|h|h
   ·exact(hs.lt b h1).2 h
   ·exact h2 h
   ·have:=(hs.lt b h1).1;omega
  ·exact hso.lt b h
 ·rcases ak6 b hb with⟨h1,h2⟩|h
  ·exact .inl h1
  ·exact(st.own b h).imp (Q8 b) id
 ·exact(st.s2 b hb).imp id (Or.imp (Q8 b) id)
 ·rw[dD (by omega)]
end Go.V
namespace Go.V
open Go
variable {K :db}{D:bP K}{ρ ρ':List Value}{S S':Nat->Prop}{w w':World}{H H':List (Ob K)}
theorem aDw{m:List Nat}{h i:Nat}(hi:m.idxOf? h=some i):m[i]?=some h:=by
 rw[List.idxOf?_eq_some_iff]at hi;obtain⟨hlt,he,-⟩:=hi;rw[ct hlt];simpa using he
def uy(ρ:List Value)(m:List Nat):List Value:=m.map fun h=>ρ.getD h undef
theorem Q9{m:List Nat}(hl:∀(i h:Nat),m[i]?=some h->h<ρ.length):∀(i h:Nat),m[i]?=some h->(uy ρ m)[i]?=ρ[h]?:=fun i h hi=>by
 simp only[uy,f5,hi,pM];rw[dG,ct (hl i h hi)];rfl
theorem ak7(hD:bW D)(hs:aY D ρ S w H){m:List Nat}(hm:xo H m=true){Hi:List (Ob K)}(hb:mq (Lj m) (m.map fun h=>H.getD h .dead)=some Hi):
 aY D (uy ρ m) S w Hi/\Hi.length=m.length/\(∀(i h:Nat) o,m[i]?=some h->Hi[i]?=some o->∃o0,H[h]?=some o0/\o0.live=o.live/\∀r b,cu D w o r b↔cu D w o0 r b)/\Ren (fun h=>m.idxOf? h) ρ (uy ρ m):=by
 obtain⟨ux,Q7⟩:=FX m hm;obtain⟨hol,hog⟩:=Q4 _ _ hb;have hlen:=hs.len;have hsub:=Q9 (ρ:=ρ) (m:=m) (fun i h hi=>by rw[hlen];exact ux i h hi);have rz:Ren (fun h=>m.idxOf? h) ρ (uy ρ m):=fun i j r hij hr=>by rw[hsub j i (aDw hij)];exact hr
 have hil:Hi.length=m.length:=by rw[hol];simp
 have hsrc:∀{i:Nat}{o:Ob K},Hi[i]?=some o->∃h o0,m[i]?=some h/\H[h]?=some o0/\Lj m o0=some o:=fun{i o} ho=>by
  have hi:i<m.length:=by rw[<-hil];exact(cz.1 ho).1
  have rA:=ct hi;have hh:=ux i _ rA;refine⟨_,H[m[i]],rA,ct hh,hog i _ o ?_ ho⟩;simp only[f5,rA,pM];rw[dG,ct hh];rfl
 refine⟨⟨by simp[uy,hil],fun i o r h1 h2=>?_,fun i j o o' r r' b h1 h2 h3 h4 g1 g2 g3 g4=>?_,fun b ⟨i,o,r,h1,h2,h3,h4⟩=>?_,hs.slt,hs.base⟩,hil,fun i h o h1 h2=>?_,rz⟩
 ·obtain⟨h,o0,e1,e2,e3⟩:=hsrc h1;rw[hsub i h e1]at h2;exact Q3 hD rz e3 (hs.ob h o0 r e2 h2)
 ·obtain⟨h,o0,e1,e2,e3⟩:=hsrc h1;obtain⟨h',Rb,c1,c2,c3⟩:=hsrc g1;rw[hsub i h e1]at h3;rw[hsub j h' c1]at g3;have:=hs.eX h h' o0 Rb r r' b e2 (by rw[<-my e3];exact h2) h3 ((nM e3).1 h4) c2 (by rw[<-my c3];exact g2) g3 ((nM c3).1 g4);subst this;exact Q7 i j h e1 c1
 ·obtain⟨h,o0,e1,e2,e3⟩:=hsrc h1;rw[hsub i h e1]at h3;exact hs.lt b ⟨h,o0,r,e2,by rw[<-my e3];exact h2,h3,(nM e3).1 h4⟩
 ·obtain⟨h',o0,e1,e2,e3⟩:=hsrc h2;rw[h1]at e1;simp at e1;subst e1;exact⟨o0,e2,(my e3).symm,fun r b=>nM e3⟩
def aJ(cx:Cx K):Prop:=(∀f args H r H',cx.call f args H=some (r,H',true)->RC cx.D cx.P f args H r H')/\(∀b f args H r H',cx.alt b f args H=some (r,H',true)->RC cx.D cx.P f args H r H')/\∀(R:Type)(a b:Option R) r,cx.Fg a b=some r->a=some r\/b=some r
theorem Ax{cx:Cx K}(hD:bW cx.D)(hc:aJ cx)(hs:aY cx.D ρ S w H){m:Mode}{f:FuncId}{args:List (AV K)}{vals:List Value}{v:AV K}{H':List (Ob K)}{t:List Nat}
 (h:lA cx m H f args=some (v,H',true,t)) (ha:bE cx.D ρ S w args vals):
 tV cx.P f/\Calls cx.P f vals.toArray w fun e w'=>∃u ρ' S',e=.returned u/\aY cx.D ρ' S' w' H'/\Rep cx.D ρ' S' w' v u/\Step cx.D H.length ρ S H w ρ' S' H' w':=by
 unfold lA at h;split at h
 ·
  split at h
  ·rename_i hcl;split at h
   ·rename_i r c hcall;split at h
    ·rename_i hr;simp only[aD,bj]at h;obtain⟨rfl,rfl,rfl,rfl⟩:=h;simp only[bC,eC,eL]at hr;obtain⟨hf,l5⟩:=hc.1 _ _ _ _ _ hcall;refine⟨hf,?_⟩;by_cases hsl:xm args=true
     ·have hrd:iC r=false:=hr.2.resolve_right (by rw[hsl];simp);have ha1:=(Au hD hs args vals ha).closed (ρ':=[]) hD hcl;have hs1:aY cx.D [] (fun b=>S b\/Own cx.D w ρ H b) w ([]:List (Ob K)):=⟨rfl,fun _ _ _ h=>by simp at h,fun _ _ _ _ _ _ _ h=>by simp at h,fun b ⟨_,_,_,h,_⟩=>by simp at h,fun b hb=>hb.elim (hs.slt b) fun h=>(hs.lt b h).1,cx.D.base.mono (fun _ h=>.inl h) (fun _ _=>rfl) hs.base⟩;refine(l5 [] _ w vals hs1 ha1).mono ?_
      rintro e w' ⟨u,ρ',S',rfl,h1,h2,h3⟩
      have hold:∀b,b<w.heap.size->w'.heap[b]?=w.heap[b]?:=fun b hb=>h3.old b hb fun⟨_,_,_,h,_⟩=>by simp at h
      have hO:∀b,Own cx.D w' ρ H b->Own cx.D w ρ H b:=fun b hb=>hb.old fun b hb=>hold b (hs.lt b hb).1
      exact⟨u,ρ,S,rfl,hs.world h3.size (fun b hb=>hold b (hs.lt b hb).1) (fun b hb=>hold b (hs.slt b hb)),Q2 r u hr.1 hrd h2,
       ⟨h3.os,h3.tape,h3.output,h3.size,fun b hb _=>hold b hb,fun b hb=>.inl (hO b hb),fun _ h=>h,fun _ h=>.inl h,fun _ _=>rfl⟩⟩
     ·simp only[wS]at hsl;rw[Av args hsl]at hcl l5;have hs1:aY cx.D [] S w ([]:List (Ob K)):=⟨rfl,fun _ _ _ h=>by simp at h,fun _ _ _ _ _ _ _ h=>by simp at h,fun b ⟨_,_,_,h,_⟩=>by simp at h,hs.slt,hs.base⟩;refine(l5 [] S w vals hs1 (ha.closed hD hcl)).mono ?_
      rintro e w' ⟨u,ρ',S',rfl,h1,h2,h3⟩
      have hold:∀b,b<w.heap.size->w'.heap[b]?=w.heap[b]?:=fun b hb=>h3.old b hb fun⟨_,_,_,h,_⟩=>by simp at h
      have hO:∀b,Own cx.D w' ρ H b->Own cx.D w ρ H b:=fun b hb=>hb.old fun b hb=>hold b (hs.lt b hb).1
      have hnew:∀b,S' b->S b\/w.heap.size<=b:=fun b hb=>(h3.s2 b hb).imp id fun h=>h.resolve_left fun⟨_,_,_,h,_⟩=>by simp at h
      have hs2:=hs.world h3.size (fun b hb=>hold b (hs.lt b hb).1) (fun b hb=>hold b (hs.slt b hb));refine⟨u,ρ,S',rfl,⟨hs.len,fun k o r' g1 g2=>(hs2.ob k o r' g1 g2).mono h3.s1 (fun _ _=>rfl) (fun _ _ h=>h) (fun _ _ _=>rfl),hs2.eX,fun b hb=>⟨(hs2.lt b hb).1,fun hS=>?_⟩,h1.slt,h1.base⟩,h2.closed hD hr.1,
       ⟨h3.os,h3.tape,h3.output,h3.size,fun b hb _=>hold b hb,fun b hb=>.inl (hO b hb),h3.s1,fun b hb=>(hnew b hb).imp id .inr,fun _ _=>rfl⟩⟩
      rcases hnew b hS with h|h
      ·exact(hs.lt b (hO b hb)).2 h
      ·have:=(hs.lt b (hO b hb)).1;omega
    ·cases h
   ·cases h
  ·cases h
 ·
  split at h
  ·rename_i hcl;simp only[bC,eL]at hcl;rw[Av args hcl.2]at h hcl;split at h
   ·rename_i r Hn c hcall;split at h
    ·rename_i r' xp hr Re;simp only[aD,bj]at h;obtain⟨rfl,rfl,rfl,rfl⟩:=h;obtain⟨hf,l5⟩:=hc.1 _ _ _ _ _ hcall;refine⟨hf,?_⟩;have hs1:aY cx.D [] S w ([]:List (Ob K)):=⟨rfl,fun _ _ _ h=>by simp at h,fun _ _ _ _ _ _ _ h=>by simp at h,fun b ⟨_,_,_,h,_⟩=>by simp at h,hs.slt,hs.base⟩;refine(l5 [] S w vals hs1 (ha.closed hD hcl.1)).mono ?_
     rintro e w' ⟨u,ρn,S',rfl,h1,h2,h3⟩
     have hbm:gJ [] H.length Hn.length=(List.range Hn.length).map (H.length+·):=by simp[gJ]
     have:=join hD hs (m:=[]) rfl (ρi:=[]) (Hi:=[]) (fun i h hi=>by simp at hi) rfl (fun i h o hi=>by simp at hi) hs1 h1 h3 (abo _) (hC:=xp) (by rw[hbm];exact Re);obtain⟨j1,j2,j3⟩:=this;simp only[jj,aU,gm]at j1 j2 j3;rw[hbm]at j3;exact⟨u,_,S',rfl,j1,uw hD j3 r r' u hr h2,j2⟩
    ·cases h
   ·cases h
  ·cases h
 ·
  split at h
  ·rename_i hcl;split at h
   ·rename_i r Hn c hcall;split at h
    ·rename_i hfl;simp only[bC,eL,dz]at hfl;split at h
     ·rename_i r' xp hr Re;simp only[aD,bj]at h;obtain⟨rfl,rfl,rfl,rfl⟩:=h;obtain⟨hf,l5⟩:=hc.1 _ _ _ _ _ hcall;refine⟨hf,?_⟩;have ha1:=(Au hD hs args vals ha).closed (ρ':=[]) hD hcl;have hs1:aY cx.D [] (fun b=>S b\/Own cx.D w ρ H b) w ([]:List (Ob K)):=⟨rfl,fun _ _ _ h=>by simp at h,fun _ _ _ _ _ _ _ h=>by simp at h,fun b ⟨_,_,_,h,_⟩=>by simp at h,fun b hb=>hb.elim (hs.slt b) fun h=>(hs.lt b h).1,cx.D.base.mono (fun _ h=>.inl h) (fun _ _=>rfl) hs.base⟩;have hs0:aY cx.D [] S w ([]:List (Ob K)):=⟨rfl,fun _ _ _ h=>by simp at h,fun _ _ _ _ _ _ _ h=>by simp at h,fun b ⟨_,_,_,h,_⟩=>by simp at h,hs.slt,hs.base⟩;refine(l5 [] _ w vals hs1 ha1).mono ?_
      rintro e w' ⟨u,ρn,S',rfl,h1,h2,h3⟩
      have hown:∀b,Own cx.D w' ρn Hn b->w.heap.size<=b:=fun b hb=>(h3.own b hb).resolve_left fun⟨_,_,_,h,_⟩=>by simp at h
      have hn:aY cx.D ρn S w' Hn:=by
       refine⟨h1.len,fun k o rr g1 g2=>?_,h1.eX,fun b hb=>⟨(h1.lt b hb).1,fun hS=>?_⟩,fun b hb=>ju (hs.slt b hb) h3.size,cx.D.base.mono (fun _ h=>h) (fun b hb=>h3.old b (hs.slt b hb) fun⟨_,_,_,h,_⟩=>by simp at h) hs.base⟩
       ·have:=h1.ob k o rr g1 g2;have hfo:=hfl.2 o (gG g1);cases o with
        |arr c l=>
         simp only[akh,eL]at hfo;rcases this with this|⟨b,o,cap,vs,T,fr,e,q1,q2,q3,q4,q5⟩
         ·exact .inl this
         ·exact .inr ⟨b,o,cap,vs,T,fr,e,q1,q2,q3,q4,fun i x hx=>FP _ _ (by rw[hD.flat];exact hfo) (q5 i x hx)⟩
        |tree c l=>exact this
        |_=>cases hfo
       ·have:=hown b hb;have:=hs.slt b hS;omega
      have st:Step cx.D ([]:List (Ob K)).length [] S [] w ρn S Hn w':=⟨h3.os,h3.tape,h3.output,h3.size,h3.old,h3.own,fun _ h=>h,fun _ h=>.inl h,h3.pre⟩;have hbm:gJ [] H.length Hn.length=(List.range Hn.length).map (H.length+·):=by simp[gJ]
      have:=join hD hs (m:=[]) rfl (ρi:=[]) (Hi:=[]) (fun i h hi=>by simp at hi) rfl (fun i h o hi=>by simp at hi) hs0 hn st (abo _) (hC:=xp) (by rw[hbm];exact Re);obtain⟨j1,j2,j3⟩:=this;simp only[jj,aU,gm]at j1 j2 j3;rw[hbm]at j3;exact⟨u,_,S,rfl,j1,uw hD j3 r r' u hr (QL r u hfl.1 h2),j2⟩
     ·cases h
    ·cases h
   ·cases h
  ·cases h
 ·cases h
 ·cases h
 ·
  split at h
  ·cases h
  ·rename_i hp;simp only[eL,Bool.not_eq_false]at hp;split at h
   ·rename_i args' Hi hargs hHi;split at h
    ·rename_i r Ho c hcall;split at h
     ·rename_i r' hC hr Rf;split at h
      ·rename_i hle;simp only[aD,bj]at h;obtain⟨rfl,rfl,rfl,rfl⟩:=h;obtain⟨hf,l5⟩:=hc.1 _ _ _ _ _ hcall;refine⟨hf,?_⟩;obtain⟨s1,s2,s3,s4⟩:=ak7 hD hs hp hHi;refine(l5 _ S w vals s1 (Aw hD s4 args args' vals hargs ha)).mono ?_
       rintro e w' ⟨u,ρo,So,rfl,h1,h2,h3⟩
       have hbm:gJ (reach H 64 (cJ args) []) H.length Ho.length=reach H 64 (cJ args) []++(List.range (Ho.length-Hi.length)).map (H.length+·):=by simp[gJ,s2]
       obtain⟨ux,-⟩:=FX _ hp;have:=join hD hs hp (ρi:=uy ρ (reach H 64 (cJ args) [])) (Q9 fun i h hi=>by rw[hs.len];exact ux i h hi) s2 s3 s1 h1 h3 hle (hC:=hC) (by rw[hbm];exact Rf);obtain⟨j1,j2,j3⟩:=this;rw[hbm]at j3;rw[s2];exact⟨u,_,So,rfl,j1,uw hD j3 r r' u hr h2,j2⟩
      ·cases h
     ·cases h
    ·cases h
   ·cases h
theorem LM{cx:Cx K}(hD:bW cx.D)(hc:aJ cx)(hs:aY cx.D ρ S w H){m:Mode}{f:FuncId}{args:List (AV K)}{vals:List Value}{v:AV K}{H':List (Ob K)}{t:List Nat}
 (h:xq cx m H f args=some (v,H',true,t)) (ha:bE cx.D ρ S w args vals):
 tV cx.P f/\Calls cx.P f vals.toArray w fun e w'=>∃u ρ' S',e=.returned u/\aY cx.D ρ' S' w' H'/\Rep cx.D ρ' S' w' v u/\Step cx.D H.length ρ S H w ρ' S' H' w':=by
 obtain⟨S1,g1,g2,g3⟩:=Lt (n0:=H.length) (cJ args) hs;obtain⟨hf,l5⟩:=Ax hD hc g1 h (FM g1 _ _ (ha.mono g2.s1 (fun _ _=>rfl) (fun _ _ h=>h)));refine⟨hf,l5.mono ?_⟩
 rintro e w' ⟨u,ρ',S',rfl,h1,h2,h3⟩
 rw[g3]at h3;exact⟨u,ρ',S',rfl,h1,h2,g2.trans h3⟩
theorem ak8{cx:Cx K}(hD:bW cx.D)(hc:aJ cx)(hs:aY cx.D ρ S w H){q:Bool}{f:FuncId}{args:List (AV K)}{vals:List Value}{v:AV K}{H':List (Ob K)}{t:List Nat}
 (h:rk q cx H f args=some (v,H',true,t)) (ha:bE cx.D ρ S w args vals):
 tV cx.P f/\Calls cx.P f vals.toArray w fun e w'=>∃u ρ' S',e=.returned u/\aY cx.D ρ' S' w' H'/\Rep cx.D ρ' S' w' v u/\Step cx.D H.length ρ S H w ρ' S' H' w':=by
 unfold rk at h;split at h
 ·exact Ax hD hc hs h ha
 ·split at h
  ·rename_i r hr;simp only[aD]at h;subst h;exact Ax hD hc hs hr ha
  ·split at h
   ·cases h
   ·exact LM hD hc hs h ha
 ·split at h
  ·cases h
  ·exact LM hD hc hs h ha
 ·split at h
  ·cases h
  ·exact Ax hD hc hs h ha
 ·split at h
  ·cases h
  ·exact LM hD hc hs h ha
 ·split at h
  ·cases h
  ·split at h
   ·rename_i r hr;simp only[aD]at h;subst h;exact Ax hD hc hs hr ha
   ·split at h
    ·rename_i r hr;simp only[aD]at h;subst h;exact Ax hD hc hs hr ha
    ·exact LM hD hc hs h ha
end Go.V
namespace Go.V
open Go
variable {K :db}{D:bP K}{ρ ρ':List Value}{S S':Nat->Prop}{w w':World}{H H':List (Ob K)}
structure nN (D:bP K) (w:World) (v:AV K) (u:Value) (G:Nat->Prop):Prop where
 flat:v.pV=false->iC v=false/\Rep D [] (fun _=>False) w v u
 kid:∀(c:K.U)(l:List (K.El c)),v=.ah c l->Tree D w c l u/\∀k,dW D w c l u k->G k
theorem nN.mono{v:AV K}{u:Value}{G G':Nat->Prop}(h:nN D w v u G)(hG:∀k,G k->G' k):nN D w v u G':=
 ⟨h.flat,fun c l e=>⟨(h.kid c l e).1,fun k hk=>hG k ((h.kid c l e).2 k hk)⟩⟩
theorem nN.world{v:AV K}{u:Value}{G:Nat->Prop}(h:nN D w v u G)(hw:∀k,G k->w'.heap[k]?=w.heap[k]?):nN D w' v u G:=
 ⟨fun hv=>⟨(h.flat hv).1,(h.flat hv).2.mono (fun _ h=>h) (fun _ h=>h.elim) (fun _ _ h=>h)⟩,fun c l e=>by
   obtain⟨h1,h2⟩:=h.kid c l e;have hk:∀k,dW D w c l u k->w'.heap[k]?=w.heap[k]?:=fun k hk=>hw k (h2 k hk)
   exact⟨h1.mono hk,fun k hk'=>h2 k (hk'.old hk)⟩⟩
structure Row (D:bP K) (w:World) (c:K.U) (l:List (K.El c)) (us:List Value) (F:Nat->Nat->Nat->Prop):Prop where
 len:us.length=l.length*K.sz c
 cell:∀i x,l[i]?=some x->∀(j:Nat) v u,(D.cells c x)[j]?=some v->us[i*K.sz c+j]?=some u->nN D w v u (F i j)
 FZ:∀i j i2 j2 k,F i j k->F i2 j2 k->i=i2/\j=j2
theorem Row.world{c:K.U}{l:List (K.El c)}{us:List Value}{F:Nat->Nat->Nat->Prop}(h:Row D w c l us F)(hw:∀i j k,F i j k->w'.heap[k]?=w.heap[k]?):Row D w' c l us F:=
 ⟨h.len,fun i x hx j v u hv hu=>(h.cell i x hx j v u hv hu).world (hw i j),h.FZ⟩
theorem LN{vs:Array Value}{p n j:Nat}(h:j<n):(cQ vs p n)[j]?=vs.toList[p+j]?:=by
 simp only[cQ,eI,iK,aE h]
theorem F3{i j n sz:Nat}(hi:i<n)(hj:j<sz):i*sz+j<n*sz:=by
 have:(i+1)*sz<=n*sz:=g9 _ hi;rw[ek,ij]at this;omega
theorem Row.tree(hD:bW D){c:K.U}{l:List (K.El c)}{us:List Value}{F:Nat->Nat->Nat->Prop}(R:Row D w c l us F){b o cap:Nat}{vs:Array Value}{T:TypeId}{fr:Nat×Nat}(hb:w.heap[b]?=some (.cells vs T fr))(hcap:l.length<=cap/\um D c T o fr)
 (hsz:o+cap*K.sz c<=vs.size) (hfr:∀k,o<=k->k<o+cap*K.sz c->¬(fr.1<=k/\k<fr.2)) (hus:∀k,k<l.length*K.sz c->vs.toList[o+k]?=us[k]?) (hF:∀i j,¬F i j b):
 Tree D w c l (.slice (some ⟨b,o,none⟩) l.length cap)/\∀k,dW D w c l (.slice (some ⟨b,o,none⟩) l.length cap) k->k=b\/∃i j,i<l.length/\F i j k:=by
 have hlc:l.length*K.sz c<=cap*K.sz c:=g9 _ hcap.1;have key:∀i x,l[i]?=some x->∀(j:Nat) v u,(D.cells c x)[j]?=some v->(cQ vs (o+i*K.sz c) (K.sz c))[j]?=some u->nN D w v u (F i j):=fun i x hx j v u hv hu=>by
  have hj:j<K.sz c:=by rw[<-hD.len c x];exact(cz.1 hv).1
  have hi:=(cz.1 hx).1;rw[LN hj,jY,hus _ (F3 hi hj)]at hu;exact R.cell i x hx j v u hv hu
 refine⟨.mk hb hcap hsz hfr (fun i x hx=>?_) (fun i x hx j v y hv hy hd=>(key i x hx j v y hv hy).flat hd) (fun i x hx j c' l' y hj hy=>((key i x hx j _ y hj hy).kid c' l' rfl).1)
  (fun i x hx j c' l' y hj hy hf=>hF i j (((key i x hx j _ y hj hy).kid c' l' rfl).2 _ hf))
  (fun i x hx j c' l' y hj hy i2 x2 hx2 j2 c2 l2 y2 hj2 hy2 k h1 h2=>R.FZ i j i2 j2 k (((key i x hx j _ y hj hy).kid c' l' rfl).2 _ h1) (((key i2 x2 hx2 j2 _ y2 hj2 hy2).kid c2 l2 rfl).2 _ h2)),fun k hk=>?_⟩
 ·rw[hD.len];have hi:=(cz.1 hx).1;have:(i+1)*K.sz c<=l.length*K.sz c:=g9 _ hi;rw[ek,ij]at this;simp[cQ];omega
 ·cases hk with
  |here=>exact .inl rfl
  | @kid _ _ _ _ _ _ i j _ x c' l' y hx hj hy hk=>
    have hj':j<K.sz c:=by rw[<-hD.len c x];exact(cz.1 hj).1
    have hi:=(cz.1 hx).1;have hlt:=F3 hi hj';have hs:(cQ vs (o+i*K.sz c) (K.sz c))[j]?=some y:=by
     rw[LN hj'];simp only[World.cell?,hb]at hy;simpa using hy
    exact .inr ⟨i,j,hi,((key i x hx j _ y hj hs).kid c' l' rfl).2 k hk⟩
theorem Tree.row(hD:bW D){c:K.U}{l:List (K.El c)}{r:Value}(h:Tree D w c l r):(r=.slice none 0 0/\l=[])\/∃b o cap vs T fr us F,r=.slice (some ⟨b,o,none⟩) l.length cap/\w.heap[b]?=some (.cells vs T fr)/\(l.length<=cap/\um D c T o fr)/\o+cap*K.sz c<=vs.size/\
 (∀k,o<=k->k<o+cap*K.sz c->¬(fr.1<=k/\k<fr.2))/\(∀k,k<l.length*K.sz c->vs.toList[o+k]?=us[k]?)/\Row D w c l us F/\(∀i j,¬F i j b)/\∀i j k,F i j k->dW D w c l r k:=by
 cases h with
 |nil=>exact .inl ⟨rfl,rfl⟩
 | @mk _ _ b o cap vs T fr hb hcap hsz hfr hlen jz pW hself hdis=>
   have hlc:l.length*K.sz c<=cap*K.sz c:=g9 _ hcap.1;have hus:∀k,k<l.length*K.sz c->vs.toList[o+k]?=((vs.toList.drop o).take (l.length*K.sz c))[k]?:=fun k hk=>by
    simp only[eI,iK,aE hk]
   have hseg:∀{i j:Nat}{x:K.El c}{v:AV K}{u:Value},l[i]?=some x->(D.cells c x)[j]?=some v->((vs.toList.drop o).take (l.length*K.sz c))[i*K.sz c+j]?=some u->(cQ vs (o+i*K.sz c) (K.sz c))[j]?=some u:=fun{i j x v u} hx hv hu=>by
    have hj:j<K.sz c:=by rw[<-hD.len c x];exact(cz.1 hv).1
    have hi:=(cz.1 hx).1;rw[<-hus _ (F3 hi hj),<-jY]at hu;rw[LN hj];exact hu
   refine .inr ⟨b,o,cap,vs,T,fr,_,fun i j k=>∃x c' l' u,l[i]?=some x/\(D.cells c x)[j]?=some (.ah c' l')/\(cQ vs (o+i*K.sz c) (K.sz c))[j]?=some u/\dW D w c' l' u k,rfl,hb,hcap,hsz,hfr,hus,⟨?_,?_,?_⟩,?_,?_⟩
   ·simp;omega
   ·intro i x hx j v u hv hu;have hs:=hseg hx hv hu;exact⟨fun hd=>jz i x hx j v u hv hs hd,fun c' l' e=>by subst e;exact⟨pW i x hx j c' l' u hv hs,fun k hk=>⟨x,c',l',u,hx,hv,hs,hk⟩⟩⟩
   ·rintro i j i2 j2 k ⟨x,c',l',u,h1,h2,h3,h4⟩ ⟨x2,c2,l2,u2,g1,g2,g3,g4⟩
    exact hdis i x h1 j c' l' u h2 h3 i2 x2 g1 j2 c2 l2 u2 g2 g3 k h4 g4
   ·rintro i j ⟨x,c',l',u,h1,h2,h3,h4⟩
    exact hself i x h1 j c' l' u h2 h3 h4
   ·rintro i j k ⟨x,c',l',u,h1,h2,h3,h4⟩
    exact .kid h1 h2 (seg_cell hb h3) h4
theorem Row.append(hD:bW D){c:K.U}{l1 l2:List (K.El c)}{us1 us2:List Value}{F1 F2:Nat->Nat->Nat->Prop}(R1:Row D w c l1 us1 F1)(R2:Row D w c l2 us2 F2)(hd:∀i j i2 j2 k,F1 i j k->F2 i2 j2 k->False):
 Row D w c (l1++l2) (us1++us2) (fun i j k=>(i<l1.length/\F1 i j k)\/(l1.length<=i/\F2 (i-l1.length) j k)):=by
 refine⟨by rw[bA,R1.len,R2.len,bA,ek],fun i x hx j v u hv hu=>?_,?_⟩
 ·have hj:j<K.sz c:=by rw[<-hD.len c x];exact(cz.1 hv).1
  by_cases hi:i<l1.length
  ·rw[dD hi]at hx;have:=F3 hi hj;rw[dD (by rw[R1.len];exact this)]at hu;exact(R1.cell i x hx j v u hv hu).mono fun k hk=>.inl ⟨hi,hk⟩
  ·rw[d5 (by omega)]at hx;have h1:l1.length*K.sz c<=i*K.sz c:=g9 _ (by omega);have h2:i*K.sz c+j-l1.length*K.sz c=(i-l1.length)*K.sz c+j:=by rw[Nat.sub_mul];omega
   rw[d5 (by rw[R1.len];omega),R1.len,h2]at hu;exact(R2.cell _ x hx j v u hv hu).mono fun k hk=>.inr ⟨by omega,hk⟩
 ·rintro i j i2 j2 k (⟨h1,h2⟩|⟨h1,h2⟩) (⟨g1,g2⟩|⟨g1,g2⟩)
  ·exact R1.FZ _ _ _ _ _ h2 g2
  ·exact(hd _ _ _ _ _ h2 g2).elim
  ·exact(hd _ _ _ _ _ g2 h2).elim
  ·have:=R2.FZ _ _ _ _ _ h2 g2;exact⟨by omega,this.2⟩
theorem Row.set(hD:bW D){c:K.U}{l:List (K.El c)}{us:List Value}{F:Nat->Nat->Nat->Prop}(R:Row D w c l us F){i off:Nat}{x0 y:K.El c}{xs:List Value}{G:Nat->Nat->Prop}(hx0:l[i]?=some x0)(hoff:off+xs.length<=K.sz c)
 (hout:∀j,(j<off\/off+xs.length<=j)->(D.cells c y)[j]?=(D.cells c x0)[j]?) (hin:∀j v u,(D.cells c y)[off+j]?=some v->xs[j]?=some u->nN D w v u (G j)) (hG:∀j j2 k,G j k->G j2 k->j=j2) (hGF:∀j i2 j2 k,G j k->¬F i2 j2 k):
 Row D w c (l.set i y) (gj us (i*K.sz c+off) xs) (fun i2 j k=>(i2=i/\off<=j/\j<off+xs.length/\G (j-off) k)\/(¬(i2=i/\off<=j/\j<off+xs.length)/\F i2 j k)):=by
 have hi:=(cz.1 hx0).1;have hmul:(i+1)*K.sz c<=l.length*K.sz c:=g9 _ hi;rw[ek,ij]at hmul;refine⟨by rw[Ar,R.len,List.length_set],fun i2 x hx j v u hv hu=>?_,?_⟩
 ·have hj:j<K.sz c:=by rw[<-hD.len c x];exact(cz.1 hv).1
  rw[As _ _ _ _ (by rw[R.len];omega)]at hu;rcases ff hx with⟨rfl,rfl,-⟩|⟨hne,hx⟩
  ·by_cases hc:off<=j/\j<off+xs.length
   ·rw[aE (by omega)]at hu;have e1:i2*K.sz c+j-(i2*K.sz c+off)=j-off:=by omega
    rw[e1]at hu;have e2:off+(j-off)=j:=by omega
    exact(hin (j-off) v u (by rw[e2];exact hv) hu).mono fun k hk=>.inl ⟨rfl,hc.1,hc.2,hk⟩
   ·rw[av (by omega)]at hu;rw[hout j (by omega)]at hv;exact(R.cell i2 x0 hx0 j v u hv hu).mono fun k hk=>.inr ⟨fun h=>hc ⟨h.2.1,h.2.2⟩,hk⟩
  ·rw[av ?_]at hu
   ·exact(R.cell i2 x hx j v u hv hu).mono fun k hk=>.inr ⟨fun h=>hne h.1,hk⟩
   ·rcases cA i2 i with h|h
    ·have:(i2+1)*K.sz c<=i*K.sz c:=g9 _ (by omega);rw[ek,ij]at this;omega
    ·have:(i+1)*K.sz c<=i2*K.sz c:=g9 _ (by omega);rw[ek,ij]at this;omega
 ·rintro i1 j1 i2 j2 k (⟨h1,h2,h3,h4⟩|⟨h1,h2⟩) (⟨g1,g2,g3,g4⟩|⟨g1,g2⟩)
  ·have:=hG _ _ _ h4 g4;exact⟨by omega,by omega⟩
  ·exact(hGF _ _ _ _ h4 g2).elim
  ·exact(hGF _ _ _ _ g4 h2).elim
  ·exact R.FZ _ _ _ _ _ h2 g2
end Go.V
namespace Go.V
open Go
variable {K :db}{D:bP K}{ρ ρ':List Value}{S S':Nat->Prop}{w w':World}{H H':List (Ob K)}
theorem alb:∀(ks:List Nat)(H:List (Ob K)),(jk H ks).length=H.length
 |[],H=>rfl
 |h::r,H=>by rw[jk,alb r];simp
theorem alc:∀(ks:List Nat)(H:List (Ob K))(k:Nat)(o:Ob K),(jk H ks)[k]?=some o->o=.dead\/(k∉ks/\H[k]?=some o)
 |[],H,k,o,h=>.inr ⟨by simp,h⟩
 |x::r,H,k,o,h=>by
  rcases alc r _ k o h with h|⟨h1,h2⟩
  ·exact .inl h
  ·rcases ff h2 with⟨-,rfl,-⟩|⟨hne,h2⟩
   ·exact .inl rfl
   ·exact .inr ⟨by simp[hne,h1],h2⟩
theorem ald:∀(ks:List Nat){H:List (Ob K)},aY D ρ S w H->aY D ρ S w (jk H ks)
 |[],H,hs=>hs
 |h::r,H,hs=>ald r (hs.kill h)
theorem ale{ks:List Nat}{b:Nat}(hb:Own D w ρ (jk H ks) b):∃(h:Nat)(o:Ob K)(r:Value),h∉ks/\H[h]?=some o/\o.live=true/\ρ[h]?=some r/\cu D w o r b:=by
 obtain⟨h,o,r,h1,h2,h3,h4⟩:=hb;rcases alc ks H h o h1 with rfl|⟨g1,g2⟩
 ·cases h2
 ·exact⟨h,o,r,g1,g2,h2,h3,h4⟩
def jA(D:bP K)(w:World)(ρ:List Value)(H:List (Ob K))(ks:List Nat)(b:Nat):Prop:=∃(h:Nat)(o:Ob K)(r:Value),h∈ks/\H[h]?=some o/\o.live=true/\ρ[h]?=some r/\cu D w o r b
theorem jA.own{ks:List Nat}{b:Nat}(h:jA D w ρ H ks b):Own D w ρ H b:=by
 obtain⟨h,o,r,-,h1,h2,h3,h4⟩:=h;exact⟨h,o,r,h1,h2,h3,h4⟩
theorem jA.alf(hs:aY D ρ S w H){ks:List Nat}{b:Nat}(h:jA D w ρ H ks b):¬Own D w ρ (jk H ks) b:=fun hb=>by
 obtain⟨k,o,r,h0,h1,h2,h3,h4⟩:=h;obtain⟨k',o',r',g0,g1,g2,g3,g4⟩:=ale hb;have:=hs.eX k k' o o' r r' b h1 h2 h3 h4 g1 g2 g3 g4;subst this;exact g0 h0
theorem aDx{ks:List Nat}{b:Nat}(hb:Own D w ρ (jk H ks) b):Own D w ρ H b:=by
 obtain⟨h,o,r,-,h1,h2,h3,h4⟩:=ale hb;exact⟨h,o,r,h1,h2,h3,h4⟩
theorem LP{P:Program}(hs:aY D ρ S w H){ks:List Nat}{c:K.U}{l:List (K.El c)}{a:Option Addr}{n cp:Nat}{s:Sem Next}(hrun:s.run P w=.ok (.value (.slice a n cp)) w')
 (hsz:w.heap.size<=w'.heap.size) (hold:∀k,k<w.heap.size->¬jA D w ρ H ks k->w'.heap[k]?=w.heap[k]?) (e1:w'.os=w.os) (e2:w'.tape=w.tape) (e3:w'.output=w.output)
 (hT:Tree D w' c l (.slice a n cp)) (hf:∀k,dW D w' c l (.slice a n cp) k->jA D w ρ H ks k\/w.heap.size<=k):Does D P ρ S H w s (.sl H.length) (jk H ks++[.tree c l]):=by
 have hs1:=ald ks hs;have hk1:∀k,Own D w ρ (jk H ks) k->w'.heap[k]?=w.heap[k]?:=fun k hk=>hold k (hs1.lt k hk).1 fun h=>h.alf hs hk
 have hS:∀k,S k->w'.heap[k]?=w.heap[k]?:=fun k hk=>hold k (hs.slt k hk) fun h=>(hs.lt k h.own).2 hk
 have hs2:aY D ρ S w' (jk H ks):=hs1.world hsz hk1 hS;have hlen:(jk H ks).length=H.length:=alb ks H;refine⟨_,_,w',ρ++[.slice a n cp],hrun,.inl rfl,hs2.push (o:=.tree c l) (r:=.slice a n cp) hT (fun k _ hk=>⟨hT.lt hk,fun hSk=>?_,fun hO=>?_⟩),.sl ?_,⟨e1,e2,e3,hsz,fun k hk hno=>hold k hk fun h=>hno h.own,fun k hk=>?_,fun _ h=>h,fun _ h=>.inl h,fun k hk=>?_⟩⟩
 ·rcases hf k hk with h|h
  ·exact(hs.lt k h.own).2 hSk
  ·have:=hs.slt k hSk;omega
 ·have hO':=hO.old hk1;rcases hf k hk with h|h
  ·exact h.alf hs hO'
  ·have:=(hs1.lt k hO').1;omega
 ·rw[d5 (by rw[hs.len];exact bY _)];simp[hs.len]
 ·rcases FK (by rw[hs.len,hlen]) hk with h|⟨-,h⟩
  ·exact .inl (aDx (h.old hk1))
  ·rcases hf k h with h|h
   ·exact .inl h.own
   ·exact .inr h
 ·rw[dD (by rw[hs.len];exact hk)]
def Rh(D:bP K)(w:World)(ρ:List Value)(H:List (Ob K))(v:AV K)(k:Nat):Prop:=∃(h:Nat)(o:Ob K)(r:Value),v=.sl h/\H[h]?=some o/\o.live=true/\ρ[h]?=some r/\cu D w o r k
theorem aDy(hD:bW D)(hs:aY D ρ S w H){v v':AV K}{u:Value}(h:Ll D H v=some v')(hr:Rep D ρ S w v u):nN D w v' u (Rh D w ρ H v)/\(v'=.dj->u=.slice none 0 0):=by
 unfold Ll at h;split at h
 ·rename_i h0;obtain⟨hp,a,n,cp,rfl⟩:=lj hr;split at h
  ·rename_i c l ho;split at h
   ·cases h
   ·rename_i hfl;simp only[aD]at h;subst h;simp only[wS]at hfl;refine⟨⟨fun e=>(by cases e),fun c' l' e=>?_⟩,fun e=>by cases e⟩;cases e;have LQ:∀x (j:Nat) c' l',(D.cells c x)[j]?≠some (.ah c' l'):=fun x j c' l' hj=>by
     have:iw (D.cells c x)=true:=by
      have hm:=gG hj;generalize D.cells c x=L at hm
      induction L with
      |nil=>cases hm
      |cons a r ih=>
       simp only[iw,eC];rcases fi.1 hm with rfl|hm
       ·exact .inl rfl
       ·exact .inr (ih hm)
     rw[hD.flat]at this;rw[this]at hfl;cases hfl
    rcases An hs ho hp with⟨e,rfl⟩|⟨b,o,cap,vs,T,fr,e,hblk,⟨hcap,eV⟩,hsz,hfr,hall⟩
    ·cases e;exact⟨.nil,fun k hk=>by cases hk⟩
    ·cases e;refine⟨.mk hblk ⟨hcap,eV⟩ hsz hfr (fun i x hx=>(hall i x hx).1) (fun i x hx j v y hv hy hd=>⟨(hD.kinds c x j v hv).2 hd,Q2 v y (xC (hD.closed c x) hv) ((hD.kinds c x j v hv).2 hd) ((hall i x hx).2 j v y hv hy)⟩)
      (fun i x hx j c' l' y hj=>absurd hj (LQ x j c' l')) (fun i x hx j c' l' y hj=>absurd hj (LQ x j c' l')) (fun i x hx j c' l' y hj=>absurd hj (LQ x j c' l')),fun k hk=>?_⟩
     cases hk with
     |here=>exact⟨h0,_,_,rfl,ho,rfl,hp,rfl⟩
     |kid hx hj hy hk=>exact absurd hj (LQ _ _ _ _)
  ·rename_i c l ho;simp only[aD]at h;subst h;refine⟨⟨fun e=>(by cases e),fun c' l' e=>?_⟩,fun e=>by cases e⟩;cases e;exact⟨hs.ob _ _ _ ho hp,fun k hk=>⟨h0,_,_,rfl,ho,rfl,hp,hk⟩⟩
  ·cases h
 ·simp only[aD]at h;subst h;have hu:u=.slice none 0 0:=by cases hr;rfl
  exact⟨⟨fun _=>⟨rfl,by rw[hu];exact .dj⟩,fun c l e=>by cases e⟩,fun _=>hu⟩
 ·simp only[aD]at h;subst h;exact⟨⟨fun _=>⟨rfl,by rw[f7 hr];exact .int _ _⟩,fun c l e=>by cases e⟩,fun e=>by cases e⟩
 ·simp only[aD]at h;subst h;exact⟨⟨fun _=>⟨rfl,by rw[kB hr];exact .bool _⟩,fun c l e=>by cases e⟩,fun e=>by cases e⟩
 ·simp only[aD]at h;subst h;exact⟨⟨fun _=>⟨rfl,by rw[gX hr];exact .str _⟩,fun c l e=>by cases e⟩,fun e=>by cases e⟩
 ·simp only[aD]at h;subst h;have hu:u=.pointer none:=by cases hr;rfl
  exact⟨⟨fun _=>⟨rfl,by rw[hu];exact .dt⟩,fun c l e=>by cases e⟩,fun e=>by cases e⟩
 ·cases h
theorem ali:∀(l l':List (AV K)),xt D H l=some l'->l'.length=l.length/\∀(j:Nat) v,l[j]?=some v->∃v',l'[j]?=some v'/\Ll D H v=some v'
 |[],l',h=>by simp[xt]at h;subst h;exact⟨rfl,fun j v h=>by simp at h⟩
 |x::r,l',h=>by
  simp only[xt]at h;split at h
  ·rename_i y s hy hs;simp only[aD]at h;subst h;obtain⟨g1,g2⟩:=ali r s hs;refine⟨by simp[g1],fun j v hv=>?_⟩;cases j with
   |zero=>simp at hv;subst hv;exact⟨y,rfl,hy⟩
   |succ j=>simpa using g2 j v (by simpa using hv)
  ·cases h
theorem alj:∀(l l':List (AV K)),Ad D H l=some l'->l'.length=l.length/\∀(i:Nat) v,l[i]?=some v->∃cs,l'[i]?=some (.agg cs)/\xt D H v.df=some cs
 |[],l',h=>by simp[Ad]at h;subst h;exact⟨rfl,fun j v h=>by simp at h⟩
 |x::r,l',h=>by
  simp only[Ad]at h;split at h
  ·rename_i y s hy hs;simp only[aD]at h;subst h;obtain⟨g1,g2⟩:=alj r s hs;refine⟨by simp[g1],fun j v hv=>?_⟩;cases j with
   |zero=>simp at hv;subst hv;exact⟨y,rfl,hy⟩
   |succ j=>simpa using g2 j v (by simpa using hv)
  ·cases h
theorem aDz(hD:bW D)(hs:aY D ρ S w H){c:K.U}{xs cs:List (AV K)}{y:K.El c}(hg:xt D H xs=some cs)(hdec:D.dec c cs=some (y,true)){us:List Value}(hr:bE D ρ S w xs us):
 ∀(j:Nat) v u,(D.cells c y)[j]?=some v->us[j]?=some u->∃x,xs[j]?=some x/\nN D w v u (Rh D w ρ H x):=fun j v u hv hu=>by
 obtain⟨g1,g2⟩:=ali _ _ hg;obtain⟨d1,d2⟩:=hD.akl c cs y hdec;have hj:j<xs.length:=by rw[hr.1];exact(cz.1 hu).1
 have hx:=ct hj;obtain⟨v',hv',hgc⟩:=g2 j _ hx;obtain⟨k1,k2⟩:=aDy hD hs hgc (hr.2 j _ _ hx hu);refine⟨_,hx,?_⟩;rcases d2 j v' v hv' hv with rfl|⟨rfl,c',rfl⟩
 ·exact k1
 ·rw[k2 rfl];refine⟨fun e=>(by cases e),fun c l e=>?_⟩;cases e;exact⟨.nil,fun k hk=>by cases hk⟩
theorem Ri:∀{l:List Nat},pR l=true->l.Nodup
 |[],_=>List.nodup_nil
 |x::r,h=>by
  simp only[pR,bC,eL,zX,dR]at h;exact AM.2 ⟨h.1,Ri h.2⟩
theorem alk:∀{r:List (AV K)}{h i:Nat},r[i]?=some (.sl h)->h∈cJ r
 |[],h,i,hi=>by simp at hi
 |x::s,h,i,hi=>by
  simp only[cJ,dx];cases i with
  |zero=>simp at hi;subst hi;exact .inl (by simp[hands])
  |succ i=>exact .inr (alk (i:=i) (by simpa using hi))
theorem alm:∀{l:List (AV K)},(cJ l).Nodup->∀{i j h:Nat},l[i]?=some (.sl h)->l[j]?=some (.sl h)->i=j
 |[],_,i,j,h,hi,_=>by simp at hi
 |v::r,hn,i,j,h,hi,hj=>by
  simp only[cJ]at hn;obtain⟨n1,n2,n3⟩:=List.nodup_append.1 hn;have hin:∀{i:Nat},r[i]?=some (.sl h)->h∈cJ r:=fun{i} hi=>alk hi
  cases i with
  |zero=>
   simp at hi;subst hi;cases j with
   |zero=>rfl
   |succ j=>exact absurd rfl (n3 h (by simp[hands]) h (hin (by simpa using hj)))
  |succ i=>
   cases j with
   |zero=>simp at hj;subst hj;exact absurd rfl (n3 h (by simp[hands]) h (hin (by simpa using hi)))
   |succ j=>exact wH (· +1) (alm (h:=h) n2 (by simpa using hi) (by simpa using hj))
theorem aDA(v:AV K):cJ v.df=hands v:=by
 cases v<;>simp[AV.df,cJ,hands]
theorem Rj:∀(l:List (AV K)),cJ l=cJ (l.map AV.df).flatten
 |[]=>rfl
 |v::r=>by
  simp only[cJ,eu,List.flatten_cons];have app:∀(a b:List (AV K)),cJ (a++b)=cJ a++cJ b:=fun a b=>by
   induction a with
   |nil=>rfl
   |cons x s ih=>simp only[kJ,cJ,ih,iR]
  rw[app,aDA,Rj r]
end Go.V
namespace Go.V
open Go
variable {K :db}{D:bP K}{ρ ρ':List Value}{S S':Nat->Prop}{w w':World}{H H':List (Ob K)}
theorem aDB{P:Program}{ev:Operand->AV K}{ρe:Operand->Value}(hev:∀x,Rep D ρ S w (ev x) (ρe x)){t e:TypeId}{c:K.U}{len:Nat}{parts:Array (Nat×Operand)}{l:List (AV K)}
 (ht:elemOf? P t=some e) (hsz:fk P e=some (K.sz c)) (hz:nH P e=true) (hl:inOrder ev 0 parts.toList=some l) (hlen:l.length=len) (h1:len<=4096) (h2:K.sz c<=4096)
 (hall:l.all (fun v=>v.known&&decide (v.df.length=K.sz c))=true):
 ∃cs':Array Value,(do pure (.value (<-Instr.buildSlice t len (parts.map fun(i,x)=>(i,ρe x)))):Sem Next).run P w=.ok (.value (.slice (some ⟨w.heap.size,0,none⟩) len len)) (w.alloc (.cells cs' e))/\len*K.sz c<=cs'.size/\
  ∀i v,l[i]?=some v->∃u,bE D ρ S w v.df u/\cQ cs' (i*K.sz c) (K.sz c)=u:=by
 obtain⟨i,hi,hisz⟩:=wR hsz;obtain⟨zv,hzv,-⟩:=LI hz hi;obtain⟨el,er⟩:=LJ _ _ _ hl;have hpl:parts.toList.length=len:=by rw[<-hlen,el];simp
 have hmul:len*K.sz c<=4096*4096:=Nat.mul_le_mul h1 h2;have hget:∀(j:Nat) v,l[j]?=some v->v.known=true/\v.df.length=K.sz c:=fun j v hv=>by
  have:=dz.1 hall v (gG hv);simpa using this
 generalize hus:parts.toList.map (fun p=>ρe p.2)=us;have hrel:∀(j:Nat) v u,l[j]?=some v->us[j]?=some u->Rep D ρ S w v u:=fun j v u hv hu=>by
  rw[el]at hv;rw[<-hus]at hu;simp only[f5,eN]at hv hu;obtain⟨p,hp,rfl⟩:=hv;obtain⟨q,hq,rfl⟩:=hu;rw[hp]at hq;simp at hq;subst hq;exact hev _
 have FU:us.length=l.length:=by rw[<-hus,el];simp
 have hcs:∀u∈us,u.cells.size=K.sz c:=fun u hu=>by
  obtain⟨j,hj,rfl⟩:=pK hu;have hjl:j<l.length:=by omega
  obtain⟨hk,hn⟩:=hget j _ (ct hjl);have:=(nL (hrel j _ _ (ct hjl) (ct hj)) hk).1;rw[hn]at this;simpa using this.symm
 let zero:Array Value:=if len*K.sz c=0 then #[]else zv.cells
 obtain⟨cs',e1,e2,-,e4⟩:=QV (sz:=K.sz c) us 0 ((Array.range (len*K.sz c)).map (zero[· %zero.size]!)) hcs (by simp[FU,hlen]);have hparts:(parts.map fun(x:Nat×Operand)=>match x with|(i,x)=>(i,ρe x)).toList=(us.zipIdx 0).map fun p=>(p.2,p.1):=by
  rw[<-hus,<-QW parts.toList ρe 0 (by rw[er])];simp
 have hrun:(Instr.buildSlice t len (parts.map fun(i,x)=>(i,ρe x))).run P w=.ok (.slice (some ⟨w.heap.size,0,none⟩) len len) (w.alloc (.cells cs' e)):=by
  have hsize:(sizeOf e).run P w=.ok (K.sz c) w:=nK hsz;unfold Instr.buildSlice;rw[hparts];simp only[Sem.run_bind,fg (qa ht),Result.andThen_ok,hsize];rw[av (by omega)];by_cases h0:len*K.sz c=0
  ·rw[aE h0];have e1':=e1;simp only[zero,aE h0]at e1';simp only[Sem.run_bind,Sem.run_pure,Result.andThen_ok,e1'];simp[newRow]
  ·rw[av h0];have e1':=e1;simp only[zero,av h0]at e1';have QY:(zeroValue e).run P w=.ok zv w:=by simp[zeroValue,typeInfo,hi,hzv]
   simp only[Sem.run_bind,Sem.run_pure,Result.andThen_ok,QY,e1'];simp[newRow]
 refine⟨cs',jo (f:=.value) hrun,by rw[e2];simp,fun j v hv=>?_⟩;have hj:j<l.length:=(cz.1 hv).1;have ry:=ct (show j<us.length by omega);obtain⟨hk,-⟩:=hget j _ hv;have:=e4 j _ ry;rw[dI]at this;exact⟨_,nL (hrel j _ _ hv ry) hk,this⟩
theorem flat_get{sz:Nat}:∀(l:List (List (AV K)))(i j:Nat)(v:List (AV K))(x:AV K),(∀a∈l,a.length=sz)->l[i]?=some v->v[j]?=some x->l.flatten[i*sz+j]?=some x
 |[],i,j,v,x,_,h,_=>by simp at h
 |a::r,i,j,v,x,hl,hv,hx=>by
  have ha:=hl a (by simp);rw[List.flatten_cons];cases i with
  |zero=>
   simp at hv;subst hv;rw[ES,dI,dD (cz.1 hx).1];exact hx
  |succ i=>
   rw[d5 (by rw[ek,ij,ha];omega),show(i+1)*sz+j-a.length=i*sz+j by rw[ek,ij,ha];omega];exact flat_get r i j v x (fun b hb=>hl b (by simp[hb])) (by simpa using hv) hx
theorem aDC{P:Program}(hD:bW D)(hs:aY D ρ S w H){ev:Operand->AV K}{ρe:Operand->Value}(hev:∀x,Rep D ρ S w (ev x) (ρe x)){t e:TypeId}{c:K.U}{len:Nat}{parts:Array (Nat×Operand)}{l l':List (AV K)}{y:List (K.El c)}
 (ht:elemOf? P t=some e) (hsz:fk P e=some (K.sz c)) (hz:nH P e=true) (hl:inOrder ev 0 parts.toList=some l) (hlen:l.length=len) (h1:len<=4096) (h2:K.sz c<=4096)
 (hall:l.all (fun v=>v.known&&decide (v.df.length=K.sz c))=true) (hnd:pR (cJ l)=true) (hg:Ad D H l=some l') (hdec:pQ D c l'=some (y,true)) (eV:kA D c e 0):
 Does D P ρ S H w (do pure (.value (<-Instr.buildSlice t len (parts.map fun(i,x)=>(i,ρe x))))) (.sl H.length) (jk H (cJ l)++[.tree c y]):=by
 obtain⟨cs',hrun,hcs,hseg⟩:=aDB (P:=P) hev ht hsz hz hl hlen h1 h2 hall;obtain⟨g1,g2⟩:=alj _ _ hg;obtain⟨d1,d2⟩:=QX l' c y hdec;have hyl:y.length=len:=by rw[d1,g1,hlen]
 have hcl:∀a∈l.map AV.df,a.length=K.sz c:=fun a ha=>by
  obtain⟨v,hv,rfl⟩:=jB.1 ha;have:=dz.1 hall v hv;simp only[bC,bq]at this;exact this.2
 have hnd':(cJ (l.map AV.df).flatten).Nodup:=by rw[<-Rj];exact Ri hnd
 let W:=w.alloc (.cells cs' e)
 let F:Nat->Nat->Nat->Prop:=fun i j k=>j<K.sz c/\∃v x,l[i]?=some v/\v.df[j]?=some x/\Rh D w ρ H x k
 have Rk:∀i j k,F i j k->jA D w ρ H (cJ l) k:=by
  rintro i j k ⟨hj,v,x,hv,hx,h,o,r,rfl,ho,hlv,hr,hf⟩
  refine⟨h,o,r,?_,ho,hlv,hr,hf⟩;rw[Rj];have hm:=gG (flat_get (l.map AV.df) i j v.df _ hcl (by simp[hv]) hx);generalize (l.map AV.df).flatten=L at hm
  induction L with
  |nil=>cases hm
  |cons a r ih=>
   simp only[cJ,dx];rcases fi.1 hm with rfl|hm
   ·exact .inl (by simp[hands])
   ·exact .inr (ih hm)
 have R0:Row D w c y (cs'.toList.take (len*K.sz c)) F:=by
  refine⟨by simp[hyl];omega,fun i x hx j a u ha hu=>?_,?_⟩
  ·have hi:i<l.length:=by rw[hlen,<-hyl];exact(cz.1 hx).1
   have hv:=ct hi;have hj:j<K.sz c:=by rw[<-hD.len c x];exact(cz.1 ha).1
   obtain⟨us,hus,hse⟩:=hseg i _ hv;obtain⟨cs,hcs1,hcs2⟩:=g2 i _ hv;have hdx:=d2 i _ x hcs1 hx;rw[eI,aE (F3 (show i<len by omega) hj),<-LN hj,hse]at hu;obtain⟨x',hx',hc⟩:=aDz hD hs hcs2 hdx hus j a u ha hu;exact hc.mono fun k hk=>⟨hj,_,x',hv,hx',hk⟩
  ·rintro i j i2 j2 k ⟨hj,v,x,hv,hx,h,o,r,rfl,ho,hlv,hr,hf⟩ ⟨hj2,v2,x2,hv2,hx2,h',o',r',rfl,ho',aDE,hr',hf'⟩
   have e1:=hs.eX h h' o o' r r' k ho hlv hr hf ho' aDE hr' hf';subst e1;have e2:=alm hnd' (flat_get (l.map AV.df) i j v.df _ hcl (by simp[hv]) hx) (flat_get (l.map AV.df) i2 j2 v2.df _ hcl (by simp[hv2]) hx2);have:i=i2:=by
    rcases Nat.lt_trichotomy i i2 with h|h|h
    ·have:(i+1)*K.sz c<=i2*K.sz c:=g9 _ (by omega);rw[ek,ij]at this;omega
    ·exact h
    ·have:(i2+1)*K.sz c<=i*K.sz c:=g9 _ (by omega);rw[ek,ij]at this;omega
   subst this;exact⟨rfl,by omega⟩
 have R:Row D W c y (cs'.toList.take (len*K.sz c)) F:=R0.world fun i j k hk=>uu (hs.lt k (Rk i j k hk).own).1
 obtain⟨T1,T2⟩:=R.tree hD (b:=w.heap.size) (o:=0) (cap:=len) (vs:=cs') (T:=e) (fr:=(0,0)) (wT _ _) ⟨by omega,eV,bY _⟩ (by omega) (fun k _ _ hh=>by have:=hh.2;simp at this)
  (fun k hk=>by rw[hyl]at hk;rw[dI,eI,aE hk]) (fun i j h=>by have:=(hs.lt _ (Rk i j _ h).own).1;omega)
 rw[hyl]at T1 T2;exact LP hs (ks:=cJ l) (w':=W) hrun (by simp[W]) (fun k hk _=>uu hk) rfl rfl rfl T1 fun k hk=>by
  rcases T2 k hk with rfl|⟨i,j,_,h⟩
  ·exact .inr (bY _)
  ·exact .inl (Rk i j k h)
end Go.V
namespace Go.V
open Go
variable {K :db}{D:bP K}{ρ ρ':List Value}{S S':Nat->Prop}{w w':World}{H H':List (Ob K)}
theorem aDF(hD:bW D){c:K.U}{l:List (K.El c)}{us:List Value}{F:Nat->Nat->Nat->Prop}(R:Row D w c l us F):∀x∈us,x.oneCell'=true:=fun x hx=>by
 obtain⟨k,hk,rfl⟩:=pK hx;rw[R.len]at hk;have hsz:0<K.sz c:=by
  rcases lg (K.sz c)with h0|h0
  ·rw[h0]at hk;simp at hk
  ·exact h0
 have hi:k/K.sz c<l.length:=Nat.div_lt_of_lt_mul (by rw[Lc];exact hk);have hj:k%K.sz c<K.sz c:=Nat.mod_lt _ hsz;have e:k/K.sz c*K.sz c+k%K.sz c=k:=by rw[Lc];exact Nat.div_add_mod _ _
 have hx:=ct hi;have hv:=ct (show k%K.sz c<(D.cells c l[k/K.sz c]).length by rw[hD.len];exact hj);have hu:us[k/K.sz c*K.sz c+k%K.sz c]?=some us[k]:=by rw[e];exact ct _
 have hc:=R.cell _ _ hx _ _ _ hv hu;have h1:=dz.1 (hD.one c l[k/K.sz c]) _ (bG (show k%K.sz c<(D.cells c l[k/K.sz c]).length by rw[hD.len];exact hj));generalize (D.cells c l[k/K.sz c])[k%K.sz c]'(by rw[hD.len];exact hj)=v at hc h1;cases hd:v.pV
 ·exact one_cell (hc.flat hd).2 h1
 ·obtain⟨c',l',rfl⟩:=QG hd;obtain⟨a,cp,e⟩:=akp (hc.kid c' l' rfl).1;rw[e];rfl
theorem aln{P:Program}(hD:bW D)(hs:aY D ρ S w H){c:K.U}{x:AV K}{m:List (K.El c)}{ks:List Nat}{X:Value}(h:rl H c x=some (m,ks))(hx:Rep D ρ S w x X):
 (Builtin.lenOf X).run P w=.ok m.length w/\∃news F,Row D w c m news F/\(∀i j k,F i j k->jA D w ρ H ks k)/\∀w':World,w'.heap=w.heap->(Builtin.firstCells (K.sz c) m.length X).run P w'=.ok news.toArray w':=by
 unfold rl at h;split at h
 ·simp only[aD,bj]at h;obtain⟨rfl,rfl⟩:=h;have e:X=.slice none 0 0:=by cases hx;rfl
  subst e;exact⟨by simp[Builtin.lenOf],[],fun _ _ _=>False,⟨by simp,fun i x h=>by simp at h,fun _ _ _ _ _ h=>h.elim⟩,fun _ _ _ h=>h.elim,fun w' _=>by simp[Builtin.firstCells]⟩
 ·rename_i h0;obtain⟨hp,a,n,cp,rfl⟩:=lj hx;split at h
  ·rename_i c' l ho;cases hd:K.jR c' c with
   |isFalse hn=>simp[hd]at h
   |isTrue he=>
    subst he;simp only[hd,aD,bj]at h;obtain⟨rfl,rfl⟩:=h;have hT:Tree D w c' l (.slice a n cp):=hs.ob _ _ _ ho hp;rcases hT.row hD with⟨e,rfl⟩|⟨b,o,cap,vs,T,fr,us,F,e,hb,hcap,hsz,hfr,hus,R,LR,hF⟩
    ·cases e;exact⟨by simp[Builtin.lenOf],[],fun _ _ _=>False,⟨by simp,fun i x h=>by simp at h,fun _ _ _ _ _ h=>h.elim⟩,fun _ _ _ h=>h.elim,fun w' _=>by simp[Builtin.firstCells]⟩
    ·cases e;refine⟨by simp[Builtin.lenOf],us,F,R,fun i j k hk=>⟨h0,_,_,by simp,ho,rfl,hp,hF i j k hk⟩,fun w' hw=>?_⟩;have hcells:il w' b o us:=fun k v hv=>by
      have hk:k<l.length*K.sz c':=by rw[<-R.len];exact(cz.1 hv).1
      have:=hus k hk;rw[hv]at this;rw[cell?_of_heap (w:=w) (a:=⟨b,o+k,none⟩) (by rw[hw])];simp only[World.cell?,hb];simpa using this
     have:=LA (P:=P) hcells;rw[R.len]at this;simpa [Builtin.firstCells]using this
  ·cases h
 ·cases h
theorem alo{P:Program}(hD:bW D)(hs:aY D ρ S w H){t xT ty e:TypeId}{d:TypeDesc}{i:TypeInfo}{z:Value}{c:K.U}(ht:P.underlying t=some (.slice e))(hx:P.underlying xT=some d)(hd:∀k,d≠.int k)
 (hi:P.info? e=some i) (hisz:i.size=K.sz c) (hz:i.zero=some z) (hzs:z.cells.size=K.sz c) (hb:i.bytes<=4096) {base:Option Addr} {cap:Nat} {X:Value} {l m:List (K.El c)} {us:List Value} {F:Nat->Nat->Nat->Prop} {ks:List Nat} {olds news:List Value}
 (R:Row D w c (l++m) us F) (hF:∀i j k,F i j k->jA D w ρ H ks k) (hus:us=olds++news) (hlen:(Builtin.lenOf X).run P w=.ok m.length w) (hnew:(Builtin.firstCells (K.sz c) m.length X).run P w.drew=.ok news.toArray w.drew)
 (hold:(Builtin.firstCells (K.sz c) l.length (.slice base l.length cap)).run P w.drew=.ok olds.toArray w.drew) (hroom:cap<l.length+m.length) (hsmall:l.length+m.length<=1073741824) (hE:kA D c e 0):
 Does D P ρ S H w (do pure (.value (<-Builtin.append_ #[t,xT] ty #[.slice base l.length cap,X]))) (.sl H.length) (jk H ks++[.tree c (l++m)]):=by
 have hrun:=akQ (P:=P) (w:=w) (ty:=ty) ht hx hd hi hz hlen (by rw[hisz];exact hnew) (by rw[hisz];exact hold) hroom hsmall hb;have hge:=grownCap_ge w (l.length+m.length) cap e
 let vs:=(olds++news++(Builtin.zeroCells z.cells (grownCap w (l.length+m.length) cap e-(l.length+m.length))).toList).toArray
 let W:=w.drew.alloc (.cells vs e)
 have hR:Row D W c (l++m) us F:=R.world fun i j k hk=>uu (hs.lt k (hF i j k hk).own).1
 have FU:us.length=(l.length+m.length)*K.sz c:=by rw[R.len,bA]
 have hzc:(Builtin.zeroCells z.cells (grownCap w (l.length+m.length) cap e-(l.length+m.length))).size=(grownCap w (l.length+m.length) cap e-(l.length+m.length))*K.sz c:=by simp[Builtin.zeroCells,hzs]
 have hcz:(l.length+m.length)*K.sz c+(grownCap w (l.length+m.length) cap e-(l.length+m.length))*K.sz c=grownCap w (l.length+m.length) cap e*K.sz c:=by rw[<-ek];congr 1;omega
 have hvl:vs.toList=us++(Builtin.zeroCells z.cells (grownCap w (l.length+m.length) cap e-(l.length+m.length))).toList:=by simp[vs,hus]
 obtain⟨T1,T2⟩:=hR.tree hD (b:=w.heap.size) (o:=0) (cap:=grownCap w (l.length+m.length) cap e) (vs:=vs) (T:=e) (fr:=(0,0)) (wT _ _) ⟨by simpa using hge,hE,bY _⟩
  (by
    have:vs.size=us.length+(Builtin.zeroCells z.cells (grownCap w (l.length+m.length) cap e-(l.length+m.length))).size:=by rw[<-Array.length_toList,hvl];simp
    rw[this,hzc,FU];omega)
  (fun k _ _ hh=>by have:=hh.2;simp at this) (fun k hk=>by rw[dI,hvl,dD (by rw[R.len];exact hk)]) (fun i j h=>by have:=(hs.lt _ (hF i j _ h).own).1;omega)
 rw[bA]at T1 T2;exact LP hs (ks:=ks) (w':=W) (jo (f:=.value) hrun) (by simp[W]) (fun k hk _=>uu hk) rfl rfl rfl T1 fun k hk=>by
  rcases T2 k hk with rfl|⟨i,j,_,h⟩
  ·exact .inr (bY _)
  ·exact .inl (hF i j k h)
theorem jA.more{ks ks':List Nat}(h:∀x∈ks,x∈ks'){k:Nat}(hk:jA D w ρ H ks k):jA D w ρ H ks' k:=by
 obtain⟨a,o,r,g1,g2,g3,g4,g5⟩:=hk;exact⟨a,o,r,h a g1,g2,g3,g4,g5⟩
theorem aDG{P:Program}(hD:bW D)(hs:aY D ρ S w H){t xT ty e:TypeId}{d:TypeDesc}{i:TypeInfo}{z:Value}{c:K.U}(ht:P.underlying t=some (.slice e))(hx:P.underlying xT=some d)(hd:∀k,d≠.int k)
 (hi:P.info? e=some i) (hisz:i.size=K.sz c) (hz:i.zero=some z) (hzs:z.cells.size=K.sz c) (hb:i.bytes<=4096) {s x:AV K} {Y X:Value} {l m:List (K.El c)} {ks ks':List Nat} (hl:rl H c s=some (l,ks)) (hm:rl H c x=some (m,ks'))
 (hnd:pR (ks++ks')=true) (hY:Rep D ρ S w s Y) (hX:Rep D ρ S w x X) (hsmall:l.length+m.length<=1073741824) (hE:kA D c e 0):
 Does D P ρ S H w (do pure (.value (<-Builtin.append_ #[t,xT] ty #[Y,X]))) (.sl H.length) (jk H (ks++ks')++[.tree c (l++m)]):=by
 have hnd':=Ri hnd;obtain⟨n1,n2,n3⟩:=List.nodup_append.1 hnd';obtain⟨hlen,news,F2,R2,hF2,hnew⟩:=aln (P:=P) hD hs hm hX;obtain⟨-,olds,F1,R1,hF1,hold⟩:=aln (P:=P) hD hs hl hY;have hapart:∀{a b:Nat},jA D w ρ H ks a->jA D w ρ H ks' b->a≠b:=fun{a b} ha hb e=>by
  subst e;obtain⟨h1,o1,r1,a1,a2,a3,a4,a5⟩:=ha;obtain⟨h2,o2,r2,b1,b2,b3,b4,b5⟩:=hb;have:=hs.eX h1 h2 o1 o2 r1 r2 a a2 a3 a4 a5 b2 b3 b4 b5;subst this;exact n3 h1 a1 h1 b1 rfl
 have R:=R1.append hD R2 fun i j i2 j2 k h1 h2=>hapart (hF1 _ _ _ h1) (hF2 _ _ _ h2) rfl
 have hF:∀i j k,((i<l.length/\F1 i j k)\/(l.length<=i/\F2 (i-l.length) j k))->jA D w ρ H (ks++ks') k:=fun i j k h=>by
  rcases h with⟨-,h⟩|⟨-,h⟩
  ·exact(hF1 _ _ _ h).more fun x hx=>dx.2 (.inl hx)
  ·exact(hF2 _ _ _ h).more fun x hx=>dx.2 (.inr hx)
 have hs':(Y=.slice none 0 0/\l=[])\/∃h0 b o cap vs T fr,ks=[h0]/\H[h0]?=some (.tree c l)/\ρ[h0]?=some Y/\Y=.slice (some ⟨b,o,none⟩) l.length cap/\w.heap[b]?=some (.cells vs T fr)/\(l.length<=cap/\um D c T o fr)/\o+cap*K.sz c<=vs.size/\
  (∀k,o<=k->k<o+cap*K.sz c->¬(fr.1<=k/\k<fr.2))/\∃us F,(∀k,k<l.length*K.sz c->vs.toList[o+k]?=us[k]?)/\Row D w c l us F/\(∀i j,¬F i j b)/\∀i j k,F i j k->dW D w c l Y k:=by
  unfold rl at hl;split at hl
  ·simp only[aD,bj]at hl;obtain⟨rfl,rfl⟩:=hl;exact .inl ⟨by cases hY;rfl,rfl⟩
  ·rename_i h0;obtain⟨hp,a,n,cp,rfl⟩:=lj hY;split at hl
   ·rename_i c' l0 ho;cases hd:K.jR c' c with
    |isFalse hn=>simp[hd]at hl
    |isTrue he=>
     subst he;simp only[hd,aD,bj]at hl;obtain⟨rfl,rfl⟩:=hl;have hT:Tree D w c' l0 (.slice a n cp):=hs.ob _ _ _ ho hp;rcases hT.row hD with⟨e,rfl⟩|⟨b,o,cap,vs,T,fr,us,F,e,hb,hcap,hsz,hfr,hus,R,LR,hF⟩
     ·exact .inl ⟨e,rfl⟩
     ·exact .inr ⟨h0,b,o,cap,vs,T,fr,rfl,ho,hp,e,hb,hcap,hsz,hfr,us,F,hus,R,LR,hF⟩
   ·cases hl
  ·cases hl
 rcases hs' with⟨rfl,rfl⟩|⟨h0,b,o,cap,vs,T,fr,rfl,ho,hp,rfl,hblk,⟨hcap,eV⟩,hsz,hfr,us,F,hus,R0,LR,hF0⟩
 ·by_cases h0:m.length=0
  ·have hm0:m=[]:=ja h0;subst hm0;have hrun:=Q0 (P:=P) (w:=w) (ty:=ty) (base:=none) (n:=0) (cap:=0) ht hx hd hi hlen (by rw[hisz];exact hnew w rfl) (by simp);exact LP hs (ks:=ks++ks') (a:=none) (n:=0) (cp:=0) (w':=w) (jo (f:=.value) (by simpa using hrun)) (bY _) (fun _ _ _=>rfl) rfl rfl rfl (by simpa using Tree.nil) fun k hk=>by simp at hk;cases hk
  ·have hO:olds=[]:=ja (by have:=R1.len;simpa using this);subst hO;exact alo (P:=P) (ty:=ty) (base:=none) (cap:=0) (l:=[]) (olds:=[]) hD hs ht hx hd hi hisz hz hzs hb R hF rfl hlen (hnew w.drew rfl) (by simp[Builtin.firstCells]) (by simp;omega) (by simpa using hsmall) hE
 ·by_cases hroom:l.length+m.length<=cap
  ·have hlm:(l.length+m.length)*K.sz c<=cap*K.sz c:=g9 _ hroom;rw[ek]at hlm;have hrl:=R2.len;obtain⟨w',vs',e1,e2,e3,e4,e5,e6,e7,e8⟩:=FT (P:=P) (b:=b) (o:=o+l.length*K.sz c) news 0 vs w hblk (by omega) (fun k hk hk'=>hfr k (by omega) (by omega)) (aDF hD R2);rw[Nat.add_zero]at e3;have Rl:jA D w ρ H [h0] b:=⟨h0,_,_,by simp,ho,rfl,hp,.here⟩;have hrun:=Q0 (P:=P) (w:=w) (ty:=ty) (base:=some ⟨b,o,none⟩) (n:=l.length) (cap:=cap) ht hx hd hi hlen (by rw[hisz];exact hnew w rfl) hroom;simp only[hisz,add_plain,e1,Result.andThen_ok]at hrun;have hsize:vs'.size=vs.size:=by have:=wH List.length e3;rw[Ar]at this;simpa using this
   have RA:=R0.append hD R2 fun i j i2 j2 k h1 h2=>hapart ⟨h0,_,_,by simp,ho,rfl,hp,hF0 i j k h1⟩ (hF2 _ _ _ h2) rfl
   have Rm:∀i j k,((i<l.length/\F i j k)\/(l.length<=i/\F2 (i-l.length) j k))->jA D w ρ H ([h0]++ks') k/\k≠b:=fun i j k h=>by
    rcases h with⟨-,h⟩|⟨-,h⟩
    ·exact⟨⟨h0,_,_,by simp,ho,rfl,hp,hF0 i j k h⟩,fun e=>by subst e;exact LR _ _ h⟩
    ·exact⟨(hF2 _ _ _ h).more fun x hx=>dx.2 (.inr hx),fun e=>hapart Rl (hF2 _ _ _ h) e.symm⟩
   have RW:Row D w' c (l++m) (us++news) _:=RA.world fun i j k hk=>e5 k (Rm i j k hk).2
   obtain⟨T1,T2⟩:=RW.tree hD e2 (o:=o) (cap:=cap) ⟨by simpa using hroom,eV⟩ (by omega) hfr (fun k hk=>by
    rw[bA,ek]at hk;rw[e3];by_cases hkl:k<l.length*K.sz c
    ·rw[akJ _ _ _ _ (.inl (by omega)),hus k hkl,dD (by rw[R0.len];exact hkl)]
    ·rw[As _ _ _ _ (by simp;omega),aE (by omega),d5 (by rw[R0.len];omega),R0.len];congr 1;omega) (fun i j h=>(Rm i j b h).2 rfl)
   rw[bA]at T1 T2;exact LP hs (ks:=[h0]++ks') (w':=w') (jo (f:=.value) hrun) (by omega) (fun k _ hno=>e5 k fun e=>by subst e;exact hno (Rl.more fun x hx=>dx.2 (.inl hx))) e6 e7 e8 T1 fun k hk=>by
    rcases T2 k hk with rfl|⟨i,j,_,h⟩
    ·exact .inl (Rl.more fun x hx=>dx.2 (.inl hx))
    ·exact .inl (Rm i j k h).1
  ·have hnl:(Builtin.firstCells (K.sz c) l.length (.slice (some ⟨b,o,none⟩) l.length cap)).run P w.drew=.ok olds.toArray w.drew:=hold w.drew rfl;exact alo (P:=P) (ty:=ty) (base:=some ⟨b,o,none⟩) (cap:=cap) (l:=l) (olds:=olds) hD hs ht hx hd hi hisz hz hzs hb R hF rfl hlen (hnew w.drew rfl) hnl (by omega) hsmall hE
theorem aDH{cx:Cx K}(hD:bW cx.D)(hs:aY cx.D ρ S w H){ev:Operand->AV K}{ρe:Operand->Value}(hev:∀x,Rep cx.D ρ S w (ev x) (ρe x)){o:Oper}{v:AV K}{H':List (Ob K)}{c:Bool}{t:List Nat}
 (h:Ae cx ev H o.op=some (v,H',c,t)) (hc:c=true):Does cx.D cx.P ρ S H w (execOp ρe o) v H':=by
 unfold Ae at h;unfold execOp;split at h
 all_goals first|(cases h;done)|(rename_i hop;rw[hop];dsimp only)
 ·
  rename_i T len parts;split at h
  ·cases h
  ·rename_i e he;split at h
   ·rename_i cc l hty hl;split at h
    ·rename_i hcond;obtain⟨-,hsz,hz,hlen,h1,h2,hall,hnd⟩:=hcond;split at h
     ·rename_i l' hg;split at h
      ·rename_i y b hdec;simp only[aD,bj]at h;obtain⟨rfl,rfl,rfl,rfl⟩:=h;subst hc;exact aDC hD hs hev he hsz hz hl hlen h1 h2 hall hnd hg hdec (xG hty)
      ·cases h
     ·cases h
    ·cases h
   ·cases h
 ·
  rename_i args argTypes;split at h
  ·rename_i s x sT xT hargs hat;have ea:args= #[s,x]:=by rw[<-Array.toArray_toList (xs:=args),hargs]
   have et:argTypes= #[sT,xT]:=by rw[<-Array.toArray_toList (xs:=argTypes),hat]
   subst ea;subst et;have hres:(do let d<-resolve ρe {callee:=.builtin .append,args:= #[s,x],argTypes:= #[sT,xT]} o.type;invoke d.target d.args:Sem Next)=
    (do pure (.value (<-Builtin.append_ #[sT,xT] o.type #[ρe s,ρe x])):Sem Next):=by simp[resolve,invoke,builtin]
   rw[hres];split at h
   ·cases h
   ·rename_i hxT;simp only[eC,not_or,wS,Option.isSome_eq_false_iff,Option.isNone_iff_eq_none]at hxT;obtain⟨hx1,hx2⟩:=hxT;obtain⟨d,hd⟩:=Option.ne_none_iff_exists'.1 hx2;have hdk:∀k,d≠.int k:=fun k e=>by subst e;simp[Fj,hd]at hx1
    split at h
    ·cases h
    ·rename_i e he;split at h
     ·cases h
     ·rename_i cc hty;split at h
      ·rename_i hcond;obtain⟨-,hsz,hroom,hz⟩:=hcond;obtain⟨i,hi,hisz⟩:=wR hsz;obtain⟨z,hzv,hzs⟩:=LI hz hi;have hb:=QT hroom hi;split at h
       ·rename_i l ks m ks' hl hm;split at h
        ·rename_i hnd;simp only[aD,bj]at h;obtain⟨rfl,rfl,rfl,rfl⟩:=h;exact aDG hD hs (qa he) hd hdk hi hisz hzv (by rw[hzs,hisz]) hb hl hm hnd (hev s) (hev x) (by simpa using hc) (xG hty)
        ·cases h
       ·cases h
      ·cases h
  ·cases h
theorem aDI{cx:Cx K}(hD:bW cx.D)(hs:aY cx.D ρ S w H){ev:Operand->AV K}{ρe:Operand->Value}(hev:∀x,Rep cx.D ρ S w (ev x) (ρe x)){o:Oper}{v:AV K}{H':List (Ob K)}{c:Bool}{t:List Nat}
 (h:Ah cx ev H o.op=some (v,H',c,t)) (hc:c=true):∃S1 H1,Step cx.D H.length ρ S H w ρ S1 H1 w/\H1.length=H.length/\Does cx.D cx.P ρ S1 H1 w (execOp ρe o) v H':=by
 unfold Ah at h;split at h
 ·rename_i r hd;simp only[aD]at h;subst h;exact⟨S,H,Step.refl,rfl,aDH hD hs (fun x=>pZ hs _ _ (hev x)) hd hc⟩
 split at h
 ·exact⟨S,H,Step.refl,rfl,akU hD hs (fun x=>pZ hs _ _ (hev x)) h hc⟩
 ·generalize ri ev o.op=hs0 at h;obtain⟨S1,g1,g2,g3⟩:=Lt (n0:=H.length) hs0 hs;have hev1:∀x,Rep cx.D ρ S1 w (eK (iN H hs0) (ev x)) (ρe x):=fun x=>pZ g1 _ _ ((hev x).mono g2.s1 (fun _ _=>rfl) (fun _ _ h=>h))
  refine⟨S1,_,g2,g3,?_⟩;split at h
  ·rename_i v1 c1 hp;simp only[aD,bj]at h;obtain⟨rfl,rfl,rfl,rfl⟩:=h;obtain⟨u,hu,hr⟩:=akH hD g1 hev1 hp hc;exact⟨_,u,w,ρ,hu,.inl rfl,g1,hr,Step.refl⟩
  ·exact akU hD g1 hev1 h hc
end Go.V
namespace Go.V
open Go
variable {K :db}{D:bP K}{ρ ρ':List Value}{S S':Nat->Prop}{w w':World}{H H':List (Ob K)}
theorem aY.split(hs:aY D ρ S w H){h:Nat}{o o':Ob K}{r:Value}{os:List (Ob K)}{rs:List Value}(h1:H[h]?=some o)(h2:o.live=true)(h3:ρ[h]?=some r)(hl:rs.length=os.length)
 (ho:∀(m:Nat) p q,os[m]?=some p->rs[m]?=some q->f8 D (ρ++rs) S w p q/\∀k,cu D w p q k->cu D w o r k)
 (hd:∀(m m':Nat) p p' q q' k,os[m]?=some p->rs[m]?=some q->os[m']?=some p'->rs[m']?=some q'->cu D w p q k->cu D w p' q' k->m=m')
 (ho':f8 D (ρ++rs) S w o' r) (hf':∀k,cu D w o' r k->cu D w o r k) (hx:∀(m:Nat) p q k,os[m]?=some p->rs[m]?=some q->cu D w p q k->¬cu D w o' r k):
 aY D (ρ++rs) S w (H.set h o'++os)/\Step D H.length ρ S H w (ρ++rs) S (H.set h o'++os) w:=by
 have hlen:=hs.len;have key:∀(k:Nat) x y,(H.set h o'++os)[k]?=some x->(ρ++rs)[k]?=some y->(k=h/\x=o'/\y=r)\/(k≠h/\k<H.length/\H[k]?=some x/\ρ[k]?=some y)\/(H.length<=k/\os[k-H.length]?=some x/\rs[k-H.length]?=some y):=fun k x y hk hy=>by
  by_cases hkl:k<H.length
  ·rw[dD (by simpa using hkl)]at hk;rw[dD (by omega)]at hy;rcases ff hk with⟨rfl,rfl,-⟩|⟨hne,hk⟩
   ·rw[h3]at hy;simp at hy;exact .inl ⟨rfl,rfl,hy.symm⟩
   ·exact .inr (.inl ⟨hne,hkl,hk,hy⟩)
  ·rw[d5 (by simp;omega)]at hk;rw[d5 (by omega)]at hy;simp only[List.length_set]at hk;rw[hlen]at hy;exact .inr (.inr ⟨by omega,hk,hy⟩)
 have own:∀b,Own D w (ρ++rs) (H.set h o'++os) b->Own D w ρ H b:=fun b ⟨k,x,y,g1,g2,g3,g4⟩=>by
  rcases key k x y g1 g3 with⟨-,rfl,rfl⟩|⟨-,-,a,b⟩|⟨-,a,b⟩
  ·exact⟨h,o,_,h1,h2,h3,hf' _ g4⟩
  ·exact⟨k,x,y,a,g2,b,g4⟩
  ·exact⟨h,o,r,h1,h2,h3,(ho _ _ _ a b).2 _ g4⟩
 refine⟨⟨by simp[hlen,hl],fun k x y g1 g3=>?_,fun k k' x x' y y' b g1 g2 g3 g4 e1 e2 e3 e4=>?_,fun b hb=>hs.lt b (own b hb),hs.slt,hs.base⟩,rfl,rfl,rfl,bY _,fun _ _ _=>rfl,fun b hb=>.inl (own b hb),fun _ h=>h,fun _ h=>.inl h,fun k hk=>?_⟩
 ·rcases key k x y g1 g3 with⟨-,rfl,rfl⟩|⟨-,-,a,b⟩|⟨-,a,b⟩
  ·exact ho'
  ·exact(hs.ob _ _ _ a b).mono (fun _ h=>h) (fun _ _=>rfl) (fun _ _ h=>uo h) (fun _ _ _=>rfl)
  ·exact(ho _ _ _ a b).1
 ·have other:∀{k:Nat}{x:Ob K}{y:Value},k≠h->H[k]?=some x->x.live=true->ρ[k]?=some y->cu D w x y b->¬cu D w o r b:=fun{k x y} hn a1 a2 a3 a4 a5=>hn (hs.eX _ _ _ _ _ _ _ a1 a2 a3 a4 h1 h2 h3 a5)
  rcases key k x y g1 g3 with⟨rfl,rfl,rfl⟩|⟨n1,l1,a1,b1⟩|⟨l1,a1,b1⟩
  ·rcases key k' x' y' e1 e3 with⟨rfl,rfl,rfl⟩|⟨n2,l2,a2,b2⟩|⟨l2,a2,b2⟩
   ·rfl
   ·exact absurd (hf' _ g4) (other n2 a2 e2 b2 e4)
   ·exact absurd g4 (hx _ _ _ _ a2 b2 e4)
  ·rcases key k' x' y' e1 e3 with⟨rfl,rfl,rfl⟩|⟨n2,l2,a2,b2⟩|⟨l2,a2,b2⟩
   ·exact absurd (hf' _ e4) (other n1 a1 g2 b1 g4)
   ·exact hs.eX _ _ _ _ _ _ _ a1 g2 b1 g4 a2 e2 b2 e4
   ·exact absurd ((ho _ _ _ a2 b2).2 _ e4) (other n1 a1 g2 b1 g4)
  ·rcases key k' x' y' e1 e3 with⟨rfl,rfl,rfl⟩|⟨n2,l2,a2,b2⟩|⟨l2,a2,b2⟩
   ·exact absurd e4 (hx _ _ _ _ a1 b1 g4)
   ·exact absurd ((ho _ _ _ a1 b1).2 _ g4) (other n2 a2 e2 b2 e4)
   ·have:=hd _ _ _ _ _ _ _ a1 b1 a2 b2 g4 e4;omega
 ·rw[dD (by omega)]
theorem Tree.arr(hD:bW D){c:K.U}{l:List (K.El c)}{r:Value}(hfl:iw (D.cells c (K.zero c))=false)(h:Tree D w c l r):f8 D ρ S w (.arr c l) r/\∀k,iM r=some k->dW D w c l r k:=by
 cases h with
 |nil=>exact⟨.inl ⟨rfl,rfl⟩,fun k hk=>by cases hk⟩
 | @mk _ _ b o cap vs T fr hb hcap hsz hfr hlen jz pW hself hdis=>
   refine⟨.inr ⟨b,o,cap,vs,T,fr,rfl,hb,hcap,hsz,hfr,fun i x hx=>⟨hlen i x hx,fun j v y hv hy=>?_⟩⟩,fun k hk=>?_⟩
   ·have hrd:v.pV=false:=by
     cases hd:v.pV
     ·rfl
     ·obtain⟨c',l',rfl⟩:=QG hd;have:iw (D.cells c x)=true:=by
       have hm:=gG hv;generalize D.cells c x=L at hm
       induction L with
       |nil=>cases hm
       |cons a r ih=>
        simp only[iw,eC];rcases fi.1 hm with rfl|hm
        ·exact .inl rfl
        ·exact .inr (ih hm)
      rw[hD.flat,hfl]at this;cases this
    exact(jz i x hx j v y hv hy hrd).2.mono (fun _ h=>h.elim) (fun _ h=>h.elim) (fun _ _ h=>by simp at h)
   ·simp only[iM,aD]at hk;subst hk;exact .here
theorem aDJ{cx:Cx K}(hD:bW cx.D)(hs:aY cx.D ρ S w H){ev:Operand->AV K}{ρe:Operand->Value}(hev:∀x,Rep cx.D ρ S w (ev x) (ρe x)){o:Oper}{v:AV K}{H':List (Ob K)}{c:Bool}{t:List Nat}
 (h:Af cx ev H o.op=some (v,H',c,t)):Does cx.D cx.P ρ S H w (execOp ρe o) v H':=by unfold Af at h;cases h
theorem alq(hD:bW D)(hs:aY D ρ S w H){n0:Nat}{t:List Nat}(h:shut D H=some (H',true,t)):aY D ρ S w H'/\Step D n0 ρ S H w ρ S H' w/\H'.length=H.length:=by unfold shut at h;split at h<;>cases h;exact⟨hs,Step.refl,rfl⟩
theorem aDK{cx:Cx K}(hD:bW cx.D)(hc:aJ cx)(hs:aY cx.D ρ S w H){q:Bool}{f:FuncId}{args:List (AV K)}{vals:List Value}{v:AV K}{H':List (Ob K)}{t:List Nat}
 (h:Ag q cx H f args=some (v,H',true,t)) (ha:bE cx.D ρ S w args vals):
 tV cx.P f/\Calls cx.P f vals.toArray w fun e w'=>∃u ρ' S',e=.returned u/\aY cx.D ρ' S' w' H'/\Rep cx.D ρ' S' w' v u/\Step cx.D H.length ρ S H w ρ' S' H' w':=by
 unfold Ag at h;split at h
 ·split at h
  ·rename_i r H1 c1 t1 hcall;split at h
   ·rename_i H2 b t2 hsh;simp only[aD,bj,bC]at h;obtain⟨rfl,rfl,⟨rfl,rfl⟩,-⟩:=h;obtain⟨k1,k2⟩:=ak8 hD hc hs hcall ha;refine⟨k1,k2.mono ?_⟩
    rintro e w' ⟨u,ρ',S',rfl,g1,g2,g3⟩
    obtain⟨s1,s2,-⟩:=alq (n0:=H.length) hD g1 hsh;exact⟨u,ρ',S',rfl,s1,g2,g3.trans s2⟩
   ·cases h
  ·cases h
 ·exact ak8 hD hc hs h ha
end Go.V
