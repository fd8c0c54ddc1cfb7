/-
  DEEP OBJECTS: rows of elements whose slices are deep objects; how such a row is put together, taken apart, turned.
-/
import Derived.Test.YtalddlopgnfpaaaGreatDoorXWcallA
set_option linter.unusedVariables false
namespace Go.V
open Go
variable {K :cE}{D:bc K}{ρ ρ':List Value}{S S':Nat->Prop}{w w':World}{H H':List (Ob K)}
structure jv (D:bc K) (w:World) (v:AV K) (u:Value) (G:Nat->Prop):Prop where
 flat:v.lR=false->iy v=false/\Rep D [] (fun _=>False) w v u
 kid:∀(c:K.U)(l:List (K.El c)),v=.aj c l->Tree D w c l u/\∀k,cK D w c l u k->G k
theorem jv.mono{v:AV K}{u:Value}{G G':Nat->Prop}(h:jv D w v u G)(hG:∀k,G k->G' k):jv D w v u G':=
 ⟨h.flat,fun c l e=>⟨(h.kid c l e).1,fun k hk=>hG k ((h.kid c l e).2 k hk)⟩⟩
theorem jv.world{v:AV K}{u:Value}{G:Nat->Prop}(h:jv D w v u G)(hw:∀k,G k->w'.heap[k]?=w.heap[k]?):jv D w' v u G:=
 ⟨fun hv=>⟨(h.flat hv).1,(h.flat hv).2.mono (fun _ h=>h) (fun _ h=>h.elim) (fun _ _ h=>h)⟩,fun c l e=>by
   obtain⟨h1,h2⟩:=h.kid c l e;have hk:∀k,cK D w c l u k->w'.heap[k]?=w.heap[k]?:=fun k hk=>hw k (h2 k hk)
   exact⟨h1.mono hk,fun k hk'=>h2 k (hk'.old hk)⟩⟩
structure Row (D:bc K) (w:World) (c:K.U) (l:List (K.El c)) (us:List Value) (F:Nat->Nat->Nat->Prop):Prop where
 len:us.length=l.length*K.sz c
 cell:∀i x,l[i]?=some x->∀(j:Nat) v u,(D.cells c x)[j]?=some v->us[i*K.sz c+j]?=some u->jv D w v u (F i j)
 By:∀i j i2 j2 k,F i j k->F i2 j2 k->i=i2/\j=j2
theorem Row.world{c:K.U}{l:List (K.El c)}{us:List Value}{F:Nat->Nat->Nat->Prop}(h:Row D w c l us F)(hw:∀i j k,F i j k->w'.heap[k]?=w.heap[k]?):Row D w' c l us F:=
 ⟨h.len,fun i x hx j v u hv hu=>(h.cell i x hx j v u hv hu).world (hw i j),h.By⟩
theorem yR{vs:Array Value}{p n j:Nat}(h:j<n):(bT vs p n)[j]?=vs.toList[p+j]?:=by
 simp only[bT,cP,eI,av h]
theorem yS{i j n sz:Nat}(hi:i<n)(hj:j<sz):i*sz+j<n*sz:=by
 have:(i+1)*sz<=n*sz:=dt _ hi;rw[cR,eJ]at this;omega
theorem Row.tree(hD:bk D){c:K.U}{l:List (K.El c)}{us:List Value}{F:Nat->Nat->Nat->Prop}(R:Row D w c l us F){b o cap:Nat}{vs:Array Value}{T:TypeId}{fr:Nat×Nat}(hb:w.heap[b]?=some (.cells vs T fr))(hcap:l.length<=cap/\fK D c T o)
 (hsz:o+cap*K.sz c<=vs.size) (hfr:∀k,o<=k->k<o+cap*K.sz c->¬(fr.1<=k/\k<fr.2)) (hus:∀k,k<l.length*K.sz c->vs.toList[o+k]?=us[k]?) (hF:∀i j,¬F i j b):
 Tree D w c l (.slice (some ⟨b,o,none⟩) l.length cap)/\∀k,cK D w c l (.slice (some ⟨b,o,none⟩) l.length cap) k->k=b\/∃i j,i<l.length/\F i j k:=by
 have hlc:l.length*K.sz c<=cap*K.sz c:=dt _ hcap.1;have key:∀i x,l[i]?=some x->∀(j:Nat) v u,(D.cells c x)[j]?=some v->(bT vs (o+i*K.sz c) (K.sz c))[j]?=some u->jv D w v u (F i j):=fun i x hx j v u hv hu=>by
  have hj:j<K.sz c:=by rw[<-hD.len c x];exact(bo.1 hv).1
  have hi:=(bo.1 hx).1;rw[yR hj,gX,hus _ (yS hi hj)]at hu;exact R.cell i x hx j v u hv hu
 refine⟨.mk hb hcap hsz hfr (fun i x hx=>?_) (fun i x hx j v y hv hy hd=>(key i x hx j v y hv hy).flat hd) (fun i x hx j c' l' y hj hy=>((key i x hx j _ y hj hy).kid c' l' rfl).1)
  (fun i x hx j c' l' y hj hy hf=>hF i j (((key i x hx j _ y hj hy).kid c' l' rfl).2 _ hf))
  (fun i x hx j c' l' y hj hy i2 x2 hx2 j2 c2 l2 y2 hj2 hy2 k h1 h2=>R.By i j i2 j2 k (((key i x hx j _ y hj hy).kid c' l' rfl).2 _ h1) (((key i2 x2 hx2 j2 _ y2 hj2 hy2).kid c2 l2 rfl).2 _ h2)),fun k hk=>?_⟩
 ·rw[hD.len];have hi:=(bo.1 hx).1;have:(i+1)*K.sz c<=l.length*K.sz c:=dt _ hi;rw[cR,eJ]at this;simp[bT];omega
 ·cases hk with
  |here=>exact .inl rfl
  | @kid _ _ _ _ _ _ i j _ x c' l' y hx hj hy hk=>
    have hj':j<K.sz c:=by rw[<-hD.len c x];exact(bo.1 hj).1
    have hi:=(bo.1 hx).1;have hlt:=yS hi hj';have hs:(bT vs (o+i*K.sz c) (K.sz c))[j]?=some y:=by
     rw[yR hj'];simp only[World.cell?,hb]at hy;simpa using hy
    exact .inr ⟨i,j,hi,((key i x hx j _ y hj hs).kid c' l' rfl).2 k hk⟩
theorem Tree.row(hD:bk D){c:K.U}{l:List (K.El c)}{r:Value}(h:Tree D w c l r):(r=.slice none 0 0/\l=[])\/∃b o cap vs T fr us F,r=.slice (some ⟨b,o,none⟩) l.length cap/\w.heap[b]?=some (.cells vs T fr)/\(l.length<=cap/\fK D c T o)/\o+cap*K.sz c<=vs.size/\
 (∀k,o<=k->k<o+cap*K.sz c->¬(fr.1<=k/\k<fr.2))/\(∀k,k<l.length*K.sz c->vs.toList[o+k]?=us[k]?)/\Row D w c l us F/\(∀i j,¬F i j b)/\∀i j k,F i j k->cK D w c l r k:=by
 cases h with
 |nil=>exact .inl ⟨rfl,rfl⟩
 | @mk _ _ b o cap vs T fr hb hcap hsz hfr hlen ix dE hself hdis=>
   have hlc:l.length*K.sz c<=cap*K.sz c:=dt _ hcap.1;have hus:∀k,k<l.length*K.sz c->vs.toList[o+k]?=((vs.toList.drop o).take (l.length*K.sz c))[k]?:=fun k hk=>by
    simp only[cP,eI,av hk]
   have hseg:∀{i j:Nat}{x:K.El c}{v:AV K}{u:Value},l[i]?=some x->(D.cells c x)[j]?=some v->((vs.toList.drop o).take (l.length*K.sz c))[i*K.sz c+j]?=some u->(bT vs (o+i*K.sz c) (K.sz c))[j]?=some u:=fun{i j x v u} hx hv hu=>by
    have hj:j<K.sz c:=by rw[<-hD.len c x];exact(bo.1 hv).1
    have hi:=(bo.1 hx).1;rw[<-hus _ (yS hi hj),<-gX]at hu;rw[yR hj];exact hu
   refine .inr ⟨b,o,cap,vs,T,fr,_,fun i j k=>∃x c' l' u,l[i]?=some x/\(D.cells c x)[j]?=some (.aj c' l')/\(bT vs (o+i*K.sz c) (K.sz c))[j]?=some u/\cK D w c' l' u k,rfl,hb,hcap,hsz,hfr,hus,⟨?_,?_,?_⟩,?_,?_⟩
   ·simp;omega
   ·intro i x hx j v u hv hu;have hs:=hseg hx hv hu;exact⟨fun hd=>ix i x hx j v u hv hs hd,fun c' l' e=>by subst e;exact⟨dE i x hx j c' l' u hv hs,fun k hk=>⟨x,c',l',u,hx,hv,hs,hk⟩⟩⟩
   ·rintro i j i2 j2 k ⟨x,c',l',u,h1,h2,h3,h4⟩ ⟨x2,c2,l2,u2,g1,g2,g3,g4⟩
    exact hdis i x h1 j c' l' u h2 h3 i2 x2 g1 j2 c2 l2 u2 g2 g3 k h4 g4
   ·rintro i j ⟨x,c',l',u,h1,h2,h3,h4⟩
    exact hself i x h1 j c' l' u h2 h3 h4
   ·rintro i j k ⟨x,c',l',u,h1,h2,h3,h4⟩
    exact .kid h1 h2 (seg_cell hb h3) h4
theorem Row.append(hD:bk D){c:K.U}{l1 l2:List (K.El c)}{ZC ZD:List Value}{F1 F2:Nat->Nat->Nat->Prop}(R1:Row D w c l1 ZC F1)(R2:Row D w c l2 ZD F2)(hd:∀i j i2 j2 k,F1 i j k->F2 i2 j2 k->False):
 Row D w c (l1++l2) (ZC++ZD) (fun i j k=>(i<l1.length/\F1 i j k)\/(l1.length<=i/\F2 (i-l1.length) j k)):=by
 refine⟨by rw[cI,R1.len,R2.len,cI,cR],fun i x hx j v u hv hu=>?_,?_⟩
 ·have hj:j<K.sz c:=by rw[<-hD.len c x];exact(bo.1 hv).1
  by_cases hi:i<l1.length
  ·rw[cH hi]at hx;have:=yS hi hj;rw[cH (by rw[R1.len];exact this)]at hu;exact(R1.cell i x hx j v u hv hu).mono fun k hk=>.inl ⟨hi,hk⟩
  ·rw[cM (by omega)]at hx;have h1:l1.length*K.sz c<=i*K.sz c:=dt _ (by omega);have h2:i*K.sz c+j-l1.length*K.sz c=(i-l1.length)*K.sz c+j:=by rw[Nat.sub_mul];omega
   rw[cM (by rw[R1.len];omega),R1.len,h2]at hu;exact(R2.cell _ x hx j v u hv hu).mono fun k hk=>.inr ⟨by omega,hk⟩
 ·rintro i j i2 j2 k (⟨h1,h2⟩|⟨h1,h2⟩) (⟨g1,g2⟩|⟨g1,g2⟩)
  ·exact R1.By _ _ _ _ _ h2 g2
  ·exact(hd _ _ _ _ _ h2 g2).elim
  ·exact(hd _ _ _ _ _ g2 h2).elim
  ·have:=R2.By _ _ _ _ _ h2 g2;exact⟨by omega,this.2⟩
theorem Row.set(hD:bk D){c:K.U}{l:List (K.El c)}{us:List Value}{F:Nat->Nat->Nat->Prop}(R:Row D w c l us F){i off:Nat}{x0 y:K.El c}{xs:List Value}{G:Nat->Nat->Prop}(hx0:l[i]?=some x0)(hoff:off+xs.length<=K.sz c)
 (hout:∀j,(j<off\/off+xs.length<=j)->(D.cells c y)[j]?=(D.cells c x0)[j]?) (hin:∀j v u,(D.cells c y)[off+j]?=some v->xs[j]?=some u->jv D w v u (G j)) (hG:∀j j2 k,G j k->G j2 k->j=j2) (hGF:∀j i2 j2 k,G j k->¬F i2 j2 k):
 Row D w c (l.set i y) (fB us (i*K.sz c+off) xs) (fun i2 j k=>(i2=i/\off<=j/\j<off+xs.length/\G (j-off) k)\/(¬(i2=i/\off<=j/\j<off+xs.length)/\F i2 j k)):=by
 have hi:=(bo.1 hx0).1;have hmul:(i+1)*K.sz c<=l.length*K.sz c:=dt _ hi;rw[cR,eJ]at hmul;refine⟨by rw[mc,R.len,mg],fun i2 x hx j v u hv hu=>?_,?_⟩
 ·have hj:j<K.sz c:=by rw[<-hD.len c x];exact(bo.1 hv).1
  rw[kJ _ _ _ _ (by rw[R.len];omega)]at hu;rcases dV hx with⟨rfl,rfl,-⟩|⟨hne,hx⟩
  ·by_cases hc:off<=j/\j<off+xs.length
   ·rw[av (by omega)]at hu;have e1:i2*K.sz c+j-(i2*K.sz c+off)=j-off:=by omega
    rw[e1]at hu;have e2:off+(j-off)=j:=by omega
    exact(hin (j-off) v u (by rw[e2];exact hv) hu).mono fun k hk=>.inl ⟨rfl,hc.1,hc.2,hk⟩
   ·rw[an (by omega)]at hu;rw[hout j (by omega)]at hv;exact(R.cell i2 x0 hx0 j v u hv hu).mono fun k hk=>.inr ⟨fun h=>hc ⟨h.2.1,h.2.2⟩,hk⟩
  ·rw[an ?_]at hu
   ·exact(R.cell i2 x hx j v u hv hu).mono fun k hk=>.inr ⟨fun h=>hne h.1,hk⟩
   ·rcases cO i2 i with h|h
    ·have:(i2+1)*K.sz c<=i*K.sz c:=dt _ (by omega);rw[cR,eJ]at this;omega
    ·have:(i+1)*K.sz c<=i2*K.sz c:=dt _ (by omega);rw[cR,eJ]at this;omega
 ·rintro i1 j1 i2 j2 k (⟨h1,h2,h3,h4⟩|⟨h1,h2⟩) (⟨g1,g2,g3,g4⟩|⟨g1,g2⟩)
  ·have:=hG _ _ _ h4 g4;exact⟨by omega,by omega⟩
  ·exact(hGF _ _ _ _ h4 g2).elim
  ·exact(hGF _ _ _ _ g4 h2).elim
  ·exact R.By _ _ _ _ _ h2 g2
end Go.V
namespace Go.V
open Go
variable {K :cE}{D:bc K}{ρ ρ':List Value}{S S':Nat->Prop}{w w':World}{H H':List (Ob K)}
theorem yT:∀(ks:List Nat)(H:List (Ob K)),(eu H ks).length=H.length
 |[],H=>rfl
 |h::r,H=>by rw[eu,yT r];simp
theorem FV:∀(ks:List Nat)(H:List (Ob K))(k:Nat)(o:Ob K),(eu H ks)[k]?=some o->o=.dead\/(k∉ks/\H[k]?=some o)
 |[],H,k,o,h=>.inr ⟨by simp,h⟩
 |x::r,H,k,o,h=>by
  rcases FV r _ k o h with h|⟨h1,h2⟩
  ·exact .inl h
  ·rcases dV h2 with⟨-,rfl,-⟩|⟨hne,h2⟩
   ·exact .inl rfl
   ·exact .inr ⟨by simp[hne,h1],h2⟩
theorem FW:∀(ks:List Nat){H:List (Ob K)},aN D ρ S w H->aN D ρ S w (eu H ks)
 |[],H,hs=>hs
 |h::r,H,hs=>FW r (hs.kill h)
theorem ZE{ks:List Nat}{b:Nat}(hb:Own D w ρ (eu H ks) b):∃(h:Nat)(o:Ob K)(r:Value),h∉ks/\H[h]?=some o/\o.live=true/\ρ[h]?=some r/\bS D w o r b:=by
 obtain⟨h,o,r,h1,h2,h3,h4⟩:=hb;rcases FV ks H h o h1 with rfl|⟨g1,g2⟩
 ·cases h2
 ·exact⟨h,o,r,g1,g2,h2,h3,h4⟩
def fC(D:bc K)(w:World)(ρ:List Value)(H:List (Ob K))(ks:List Nat)(b:Nat):Prop:=∃(h:Nat)(o:Ob K)(r:Value),h∈ks/\H[h]?=some o/\o.live=true/\ρ[h]?=some r/\bS D w o r b
theorem fC.own{ks:List Nat}{b:Nat}(h:fC D w ρ H ks b):Own D w ρ H b:=by
 obtain⟨h,o,r,-,h1,h2,h3,h4⟩:=h;exact⟨h,o,r,h1,h2,h3,h4⟩
theorem fC.Bz(hs:aN D ρ S w H){ks:List Nat}{b:Nat}(h:fC D w ρ H ks b):¬Own D w ρ (eu H ks) b:=fun hb=>by
 obtain⟨k,o,r,h0,h1,h2,h3,h4⟩:=h;obtain⟨k',o',r',g0,g1,g2,g3,g4⟩:=ZE hb;have:=hs.dL k k' o o' r r' b h1 h2 h3 h4 g1 g2 g3 g4;subst this;exact g0 h0
theorem LS{ks:List Nat}{b:Nat}(hb:Own D w ρ (eu H ks) b):Own D w ρ H b:=by
 obtain⟨h,o,r,-,h1,h2,h3,h4⟩:=ZE hb;exact⟨h,o,r,h1,h2,h3,h4⟩
theorem BA{P:Program}(hs:aN D ρ S w H){ks:List Nat}{c:K.U}{l:List (K.El c)}{a:Option Addr}{n cp:Nat}{s:Sem Next}(hrun:s.run P w=.ok (.value (.slice a n cp)) w')
 (hsz:w.heap.size<=w'.heap.size) (hold:∀k,k<w.heap.size->¬fC D w ρ H ks k->w'.heap[k]?=w.heap[k]?) (e1:w'.os=w.os) (e2:w'.tape=w.tape) (e3:w'.output=w.output)
 (hT:Tree D w' c l (.slice a n cp)) (hf:∀k,cK D w' c l (.slice a n cp) k->fC D w ρ H ks k\/w.heap.size<=k):Does D P ρ S H w s (.sl H.length) (eu H ks++[.tree c l]):=by
 have hs1:=FW ks hs;have hk1:∀k,Own D w ρ (eu H ks) k->w'.heap[k]?=w.heap[k]?:=fun k hk=>hold k (hs1.lt k hk).1 fun h=>h.Bz hs hk
 have hS:∀k,S k->w'.heap[k]?=w.heap[k]?:=fun k hk=>hold k (hs.slt k hk) fun h=>(hs.lt k h.own).2 hk
 have hs2:aN D ρ S w' (eu H ks):=hs1.world hsz hk1 hS;have hlen:(eu H ks).length=H.length:=yT ks H;refine⟨_,_,w',ρ++[.slice a n cp],hrun,.inl rfl,hs2.push (o:=.tree c l) (r:=.slice a n cp) hT (fun k _ hk=>⟨hT.lt hk,fun FX=>?_,fun hO=>?_⟩),.sl ?_,⟨e1,e2,e3,hsz,fun k hk hno=>hold k hk fun h=>hno h.own,fun k hk=>?_,fun _ h=>h,fun _ h=>.inl h,fun k hk=>?_⟩⟩
 ·rcases hf k hk with h|h
  ·exact(hs.lt k h.own).2 FX
  ·have:=hs.slt k FX;omega
 ·have ZF:=hO.old hk1;rcases hf k hk with h|h
  ·exact h.Bz hs ZF
  ·have:=(hs1.lt k ZF).1;omega
 ·rw[cM (by rw[hs.len];exact bg _)];simp[hs.len]
 ·rcases yU (by rw[hs.len,hlen]) hk with h|⟨-,h⟩
  ·exact .inl (LS (h.old hk1))
  ·rcases hf k h with h|h
   ·exact .inl h.own
   ·exact .inr h
 ·rw[cH (by rw[hs.len];exact hk)]
theorem ZG{P:Program}(hs:aN D ρ S w H){h:Nat}{ks:List Nat}{o:Ob K}{r:Value}{c:K.U}{l':List (K.El c)}{s:Sem Next}(ho:H[h]?=some o)(hl:o.live=true)(hr:ρ[h]?=some r)(hrun:s.run P w=.ok .skip w')
 (hsz:w'.heap.size=w.heap.size) (hold:∀k,¬fC D w ρ H (h::ks) k->w'.heap[k]?=w.heap[k]?) (e1:w'.os=w.os) (e2:w'.tape=w.tape) (e3:w'.output=w.output)
 (hT:Tree D w' c l' r) (hf:∀k,cK D w' c l' r k->fC D w ρ H (h::ks) k):Does D P ρ S H w s .any ((eu H (h::ks)).set h (.tree c l')):=by
 have hs1:=FW (h::ks) hs;have hk1:∀k,Own D w ρ (eu H (h::ks)) k->w'.heap[k]?=w.heap[k]?:=fun k hk=>hold k fun h=>h.Bz hs hk
 have hS:∀k,S k->w'.heap[k]?=w.heap[k]?:=fun k hk=>hold k fun h=>(hs.lt k h.own).2 hk
 have hs2:aN D ρ S w' (eu H (h::ks)):=hs1.world (by omega) hk1 hS;have hlt:h<H.length:=(bo.1 ho).1;have hd:(eu H (h::ks))[h]?=some .dead:=by
  have hlt':h<(eu H (h::ks)).length:=by rw[yT];exact hlt
  have hg:=bZ hlt';rcases FV _ _ _ _ hg with e|⟨hn,-⟩
  ·rw[hg,e]
  ·exact absurd (by simp) hn
 refine⟨.skip,undef,w',ρ,hrun,.inr ⟨rfl,rfl⟩,hs2.LU hd hr hT fun k hk=>⟨hT.lt hk,fun FX=>(hs.lt k (hf k hk).own).2 FX,fun hO=>(hf k hk).Bz hs (hO.old hk1)⟩,.any _,⟨e1,e2,e3,by omega,fun k hk hno=>hold k fun h=>hno h.own,fun k hk=>?_,fun _ h=>h,fun _ h=>.inl h,fun k hk=>rfl⟩⟩;obtain⟨k',o',r',g1,g2,g3,g4⟩:=hk;rcases dV g1 with⟨rfl,rfl,-⟩|⟨-,g1⟩
 ·rw[hr]at g3;simp at g3;subst g3;exact .inl (hf k g4).own
 ·exact .inl (LS (Own.old (H:=eu H (h::ks)) ⟨k',o',r',g1,g2,g3,g4⟩ hk1))
def qJ(D:bc K)(w:World)(ρ:List Value)(H:List (Ob K))(v:AV K)(k:Nat):Prop:=∃(h:Nat)(o:Ob K)(r:Value),v=.sl h/\H[h]?=some o/\o.live=true/\ρ[h]?=some r/\bS D w o r k
theorem FY(hD:bk D)(hs:aN D ρ S w H){v v':AV K}{u:Value}(h:FZ D H v=some v')(hr:Rep D ρ S w v u):jv D w v' u (qJ D w ρ H v)/\(v'=.cB->u=.slice none 0 0):=by
 unfold FZ at h;split at h
 ·rename_i h0;obtain⟨hp,a,n,cp,rfl⟩:=jP hr;split at h
  ·rename_i c l ho;split at h
   ·cases h
   ·rename_i hfl;simp only[ar]at h;subst h;simp only[vn]at hfl;refine⟨⟨fun e=>(by cases e),fun c' l' e=>?_⟩,fun e=>by cases e⟩;cases e;have F3:∀x (j:Nat) c' l',(D.cells c x)[j]?≠some (.aj c' l'):=fun x j c' l' hj=>by
     have:dy (D.cells c x)=true:=by
      have hm:=hQ hj;generalize D.cells c x=L at hm
      induction L with
      |nil=>cases hm
      |cons a r ih=>
       simp only[dy,i5];rcases dY.1 hm with rfl|hm
       ·exact .inl rfl
       ·exact .inr (ih hm)
     rw[hD.flat]at this;rw[this]at hfl;cases hfl
    rcases vz hs ho hp with⟨e,rfl⟩|⟨b,o,cap,vs,T,fr,e,hblk,⟨hcap,dr⟩,hsz,hfr,hall⟩
    ·cases e;exact⟨.nil,fun k hk=>by cases hk⟩
    ·cases e;refine⟨.mk hblk ⟨hcap,dr⟩ hsz hfr (fun i x hx=>(hall i x hx).1) (fun i x hx j v y hv hy hd=>⟨(hD.kinds c x j v hv).2 hd,Lu v y (vH (hD.closed c x) hv) ((hD.kinds c x j v hv).2 hd) ((hall i x hx).2 j v y hv hy)⟩)
      (fun i x hx j c' l' y hj=>absurd hj (F3 x j c' l')) (fun i x hx j c' l' y hj=>absurd hj (F3 x j c' l')) (fun i x hx j c' l' y hj=>absurd hj (F3 x j c' l')),fun k hk=>?_⟩
     cases hk with
     |here=>exact⟨h0,_,_,rfl,ho,rfl,hp,rfl⟩
     |kid hx hj hy hk=>exact absurd hj (F3 _ _ _ _)
  ·rename_i c l ho;simp only[ar]at h;subst h;refine⟨⟨fun e=>(by cases e),fun c' l' e=>?_⟩,fun e=>by cases e⟩;cases e;exact⟨hs.ob _ _ _ ho hp,fun k hk=>⟨h0,_,_,rfl,ho,rfl,hp,hk⟩⟩
  ·cases h
 ·simp only[ar]at h;subst h;have hu:u=.slice none 0 0:=by cases hr;rfl
  exact⟨⟨fun _=>⟨rfl,by rw[hu];exact .cB⟩,fun c l e=>by cases e⟩,fun _=>hu⟩
 ·simp only[ar]at h;subst h;exact⟨⟨fun _=>⟨rfl,by rw[ee hr];exact .int _ _⟩,fun c l e=>by cases e⟩,fun e=>by cases e⟩
 ·simp only[ar]at h;subst h;exact⟨⟨fun _=>⟨rfl,by rw[km hr];exact .bool _⟩,fun c l e=>by cases e⟩,fun e=>by cases e⟩
 ·simp only[ar]at h;subst h;exact⟨⟨fun _=>⟨rfl,by rw[jG hr];exact .str _⟩,fun c l e=>by cases e⟩,fun e=>by cases e⟩
 ·simp only[ar]at h;subst h;have hu:u=.pointer none:=by cases hr;rfl
  exact⟨⟨fun _=>⟨rfl,by rw[hu];exact .cL⟩,fun c l e=>by cases e⟩,fun e=>by cases e⟩
 ·cases h
theorem yV:∀(l l':List (AV K)),kW D H l=some l'->l'.length=l.length/\∀(j:Nat) v,l[j]?=some v->∃v',l'[j]?=some v'/\FZ D H v=some v'
 |[],l',h=>by simp[kW]at h;subst h;exact⟨rfl,fun j v h=>by simp at h⟩
 |x::r,l',h=>by
  simp only[kW]at h;split at h
  ·rename_i y s hy hs;simp only[ar]at h;subst h;obtain⟨g1,g2⟩:=yV r s hs;refine⟨by simp[g1],fun j v hv=>?_⟩;cases j with
   |zero=>simp at hv;subst hv;exact⟨y,rfl,hy⟩
   |succ j=>simpa using g2 j v (by simpa using hv)
  ·cases h
theorem ZH:∀(l l':List (AV K)),yW D H l=some l'->l'.length=l.length/\∀(i:Nat) v,l[i]?=some v->∃cs,l'[i]?=some (.agg cs)/\kW D H v.bm=some cs
 |[],l',h=>by simp[yW]at h;subst h;exact⟨rfl,fun j v h=>by simp at h⟩
 |x::r,l',h=>by
  simp only[yW]at h;split at h
  ·rename_i y s hy hs;simp only[ar]at h;subst h;obtain⟨g1,g2⟩:=ZH r s hs;refine⟨by simp[g1],fun j v hv=>?_⟩;cases j with
   |zero=>simp at hv;subst hv;exact⟨y,rfl,hy⟩
   |succ j=>simpa using g2 j v (by simpa using hv)
  ·cases h
theorem ZI(hD:bk D)(hs:aN D ρ S w H){c:K.U}{xs cs:List (AV K)}{y:K.El c}(hg:kW D H xs=some cs)(hdec:D.dec c cs=some (y,true)){us:List Value}(hr:aS D ρ S w xs us):
 ∀(j:Nat) v u,(D.cells c y)[j]?=some v->us[j]?=some u->∃x,xs[j]?=some x/\jv D w v u (qJ D w ρ H x):=fun j v u hv hu=>by
 obtain⟨g1,g2⟩:=yV _ _ hg;obtain⟨d1,d2⟩:=hD.yQ c cs y hdec;have hj:j<xs.length:=by rw[hr.1];exact(bo.1 hu).1
 have hx:=bZ hj;obtain⟨v',hv',hgc⟩:=g2 j _ hx;obtain⟨k1,k2⟩:=FY hD hs hgc (hr.2 j _ _ hx hu);refine⟨_,hx,?_⟩;rcases d2 j v' v hv' hv with rfl|⟨rfl,c',rfl⟩
 ·exact k1
 ·rw[k2 rfl];refine⟨fun e=>(by cases e),fun c l e=>?_⟩;cases e;exact⟨.nil,fun k hk=>by cases hk⟩
theorem yX:∀{l:List Nat},ko l=true->l.Nodup
 |[],_=>List.nodup_nil
 |x::r,h=>by
  simp only[ko,aZ,iv,yL,lE]at h;exact Bl.2 ⟨h.1,yX h.2⟩
theorem yY:∀{r:List (AV K)}{h i:Nat},r[i]?=some (.sl h)->h∈bp r
 |[],h,i,hi=>by simp at hi
 |x::s,h,i,hi=>by
  simp only[bp,dM];cases i with
  |zero=>simp at hi;subst hi;exact .inl (by simp[hands])
  |succ i=>exact .inr (yY (i:=i) (by simpa using hi))
theorem BB:∀{l:List (AV K)},(bp l).Nodup->∀{i j h:Nat},l[i]?=some (.sl h)->l[j]?=some (.sl h)->i=j
 |[],_,i,j,h,hi,_=>by simp at hi
 |v::r,hn,i,j,h,hi,hj=>by
  simp only[bp]at hn;obtain⟨n1,n2,n3⟩:=List.nodup_append.1 hn;have hin:∀{i:Nat},r[i]?=some (.sl h)->h∈bp r:=fun{i} hi=>yY hi
  cases i with
  |zero=>
   simp at hi;subst hi;cases j with
   |zero=>rfl
   |succ j=>exact absurd rfl (n3 h (by simp[hands]) h (hin (by simpa using hj)))
  |succ i=>
   cases j with
   |zero=>simp at hj;subst hj;exact absurd rfl (n3 h (by simp[hands]) h (hin (by simpa using hi)))
   |succ j=>exact gW (· +1) (BB (h:=h) n2 (by simpa using hi) (by simpa using hj))
theorem LV(v:AV K):bp v.bm=hands v:=by
 cases v<;>simp[AV.bm,bp,hands]
theorem LW:∀(l:List (AV K)),bp l=bp (l.map AV.bm).flatten
 |[]=>rfl
 |v::r=>by
  simp only[bp,fm,List.flatten_cons];have app:∀(a b:List (AV K)),bp (a++b)=bp a++bp b:=fun a b=>by
   induction a with
   |nil=>rfl
   |cons x s ih=>simp only[sC,bp,ih,iI]
  rw[app,LV,LW r]
end Go.V
namespace Go.V
open Go
variable {K :cE}{D:bc K}{ρ ρ':List Value}{S S':Nat->Prop}{w w':World}{H H':List (Ob K)}
theorem anp{P:Program}(hD:bk D)(hs:aN D ρ S w H){t e:TypeId}{c:K.U}{z:AV K}{zs:List (AV K)}{y:K.El c}{kl kc:IntKind}{n m:Int}(ht:elemOf? P t=some e)(hsz:cN P e=some (K.sz c))(hroom:room e P=true)
 (hz:zeroOf P e=some z) (hk:z.known=true) (hg:kW D [] z.bm=some zs) (hdec:D.dec c zs=some (y,true)) (h0:0<=n) (h1:n<=m) (h2:m<=1073741824) (dr:fK D c e 0):
 Does D P ρ S H w (do pure (.value (<-Instr.makeSlice t (.int kl n) (.int kc m)))) (.sl H.length) (H++[.tree c (List.replicate n.toNat y)]):=by
 obtain⟨i,hi,hisz⟩:=oI hsz;obtain⟨v,hv,hov⟩:=yO hz hi;have hb:=yi hroom hi;have hs0:aN D [] S w ([]:List (Ob K)):=⟨rfl,fun _ _ _ h=>by simp at h,fun _ _ _ _ _ _ _ h=>by simp at h,fun b ⟨_,_,_,h,_⟩=>by simp at h,hs.slt,hs.base⟩;have hrz:aS D [] S w z.bm v.cells.toList:=jQ (s7 v z hov) hk;have hcell:=ZI hD hs0 hg hdec hrz;have hvs:v.cells.size=K.sz c:=by
  have h1:=hrz.1;have h2:=(hD.yQ c zs y hdec).1;have h3:=(yV _ _ hg).1;simp at h1;omega
 have hmul:(i.bytes:Int)*m<=4096*1073741824:=Int.mul_le_mul (by omega) h2 (by omega) (by omega);have hrun:=run_make (P:=P) w t e i v (iJ ht) hi hv kl kc n m h0 h1 (by omega) (by omega);rw[hisz]at hrun;have hmn:n.toNat<=m.toNat:=by omega
 have anq:n.toNat*K.sz c<=m.toNat*K.sz c:=dt _ hmn
 let W:=w.alloc (.cells (madeCells v.cells (m.toNat*K.sz c)) e)
 have R:Row D W c (List.replicate n.toNat y) ((madeCells v.cells (m.toNat*K.sz c)).toList.take (n.toNat*K.sz c)) (fun _ _ _=>False):=by
  refine⟨by rw[i3,Array.length_toList,size_madeCells,gw,Nat.min_eq_left anq],fun k x hx j a u ha hu=>?_,fun _ _ _ _ _ h=>h.elim⟩;have hkn:k<n.toNat:=by have:=(bo.1 hx).1;simpa using this
  have hxy:x=y:=by
   rw[il]at hx;split at hx
   ·simpa using hx.symm
   ·rename_i hn;exact absurd hkn hn
  subst hxy;have hj:j<K.sz c:=by rw[<-hD.len c x];exact(bo.1 ha).1
  rw[cP,av (yS hkn hj)]at hu;have hu':v.cells.toList[j]?=some u:=by
   rw[<-LL hvs (show k<m.toNat by omega),yR hj];exact hu
  obtain⟨x',-,hc⟩:=hcell j a u ha hu';have hF:∀k,¬qJ D w [] ([]:List (Ob K)) x' k:=fun k ⟨_,_,_,_,h,_⟩=>by simp at h
  exact(hc.mono (G':=fun _=>False) fun k hk=>hF k hk).world fun _ h=>h.elim
 obtain⟨T1,T2⟩:=R.tree hD (b:=w.heap.size) (o:=0) (cap:=m.toNat) (vs:=madeCells v.cells (m.toNat*K.sz c)) (T:=e) (fr:=(0,0)) (u9 _ _) ⟨by simpa using hmn,dr⟩ (by rw[size_madeCells];omega) (fun k _ _ hh=>by have:=hh.2;simp at this)
  (fun k hk=>by rw[gw]at hk;rw[dD,cP,av hk]) (fun _ _ h=>h)
 have hn:(List.replicate n.toNat y).length=n.toNat:=gw;rw[hn]at T1 T2;exact BA hs (ks:=[]) (w':=W) (fb (f:=.value) hrun) (by simp[W]) (fun k hk _=>td hk) rfl rfl rfl T1 fun k hk=>by
  rcases T2 k hk with rfl|⟨_,_,_,h⟩
  ·exact .inr (bg _)
  ·exact h.elim
theorem anr{P:Program}{ev:Operand->AV K}{ρe:Operand->Value}(hev:∀x,Rep D ρ S w (ev x) (ρe x)){t e:TypeId}{c:K.U}{len:Nat}{parts:Array (Nat×Operand)}{l:List (AV K)}
 (ht:elemOf? P t=some e) (hsz:cN P e=some (K.sz c)) (hz:ng P e=true) (hl:inOrder ev 0 parts.toList=some l) (hlen:l.length=len) (h1:len<=4096) (h2:K.sz c<=4096)
 (hall:l.all (fun v=>v.known&&decide (v.bm.length=K.sz c))=true):
 ∃cs':Array Value,(do pure (.value (<-Instr.buildSlice t len (parts.map fun(i,x)=>(i,ρe x)))):Sem Next).run P w=.ok (.value (.slice (some ⟨w.heap.size,0,none⟩) len len)) (w.alloc (.cells cs' e))/\len*K.sz c<=cs'.size/\
  ∀i v,l[i]?=some v->∃u,aS D ρ S w v.bm u/\bT cs' (i*K.sz c) (K.sz c)=u:=by
 obtain⟨i,hi,hisz⟩:=oI hsz;obtain⟨zv,hzv,-⟩:=AP hz hi;obtain⟨el,er⟩:=F4 _ _ _ hl;have hpl:parts.toList.length=len:=by rw[<-hlen,el];simp
 have hmul:len*K.sz c<=4096*4096:=Nat.mul_le_mul h1 h2;have hget:∀(j:Nat) v,l[j]?=some v->v.known=true/\v.bm.length=K.sz c:=fun j v hv=>by
  have:=eP.1 hall v (hQ hv);simpa using this
 generalize hus:parts.toList.map (fun p=>ρe p.2)=us;have hrel:∀(j:Nat) v u,l[j]?=some v->us[j]?=some u->Rep D ρ S w v u:=fun j v u hv hu=>by
  rw[el]at hv;rw[<-hus]at hu;simp only[gq,dS]at hv hu;obtain⟨p,hp,rfl⟩:=hv;obtain⟨q,hq,rfl⟩:=hu;rw[hp]at hq;simp at hq;subst hq;exact hev _
 have te:us.length=l.length:=by rw[<-hus,el];simp
 have hcs:∀u∈us,u.cells.size=K.sz c:=fun u hu=>by
  obtain⟨j,hj,rfl⟩:=oQ hu;have hjl:j<l.length:=by omega
  obtain⟨hk,hn⟩:=hget j _ (bZ hjl);have:=(jQ (hrel j _ _ (bZ hjl) (bZ hj)) hk).1;rw[hn]at this;simpa using this.symm
 let zero:Array Value:=if len*K.sz c=0 then #[]else zv.cells
 obtain⟨cs',e1,e2,-,e4⟩:=LX (sz:=K.sz c) us 0 ((Array.range (len*K.sz c)).map (zero[· %zero.size]!)) hcs (by simp[te,hlen]);have hparts:(parts.map fun(x:Nat×Operand)=>match x with|(i,x)=>(i,ρe x)).toList=(us.zipIdx 0).map fun p=>(p.2,p.1):=by
  rw[<-hus,<-LY parts.toList ρe 0 (by rw[er])];simp
 have hrun:(Instr.buildSlice t len (parts.map fun(i,x)=>(i,ρe x))).run P w=.ok (.slice (some ⟨w.heap.size,0,none⟩) len len) (w.alloc (.cells cs' e)):=by
  have hsize:(sizeOf e).run P w=.ok (K.sz c) w:=jw hsz;unfold Instr.buildSlice;rw[hparts];simp only[Sem.run_bind,d6 (iJ ht),Result.andThen_ok,hsize];rw[an (by omega)];by_cases h0:len*K.sz c=0
  ·rw[av h0];have e1':=e1;simp only[zero,av h0]at e1';simp only[Sem.run_bind,Sem.run_pure,Result.andThen_ok,e1'];simp[newRow]
  ·rw[an h0];have e1':=e1;simp only[zero,an h0]at e1';have Bt:(zeroValue e).run P w=.ok zv w:=by simp[zeroValue,typeInfo,hi,hzv]
   simp only[Sem.run_bind,Sem.run_pure,Result.andThen_ok,Bt,e1'];simp[newRow]
 refine⟨cs',fb (f:=.value) hrun,by rw[e2];simp,fun j v hv=>?_⟩;have hj:j<l.length:=(bo.1 hv).1;have qK:=bZ (show j<us.length by omega);obtain⟨hk,-⟩:=hget j _ hv;have:=e4 j _ qK;rw[dD]at this;exact⟨_,jQ (hrel j _ _ hv qK) hk,this⟩
theorem flat_get{sz:Nat}:∀(l:List (List (AV K)))(i j:Nat)(v:List (AV K))(x:AV K),(∀a∈l,a.length=sz)->l[i]?=some v->v[j]?=some x->l.flatten[i*sz+j]?=some x
 |[],i,j,v,x,_,h,_=>by simp at h
 |a::r,i,j,v,x,hl,hv,hx=>by
  have ha:=hl a (by simp);rw[List.flatten_cons];cases i with
  |zero=>
   simp at hv;subst hv;rw[mX,dD,cH (bo.1 hx).1];exact hx
  |succ i=>
   rw[cM (by rw[cR,eJ,ha];omega),show(i+1)*sz+j-a.length=i*sz+j by rw[cR,eJ,ha];omega];exact flat_get r i j v x (fun b hb=>hl b (by simp[hb])) (by simpa using hv) hx
theorem ant{P:Program}(hD:bk D)(hs:aN D ρ S w H){ev:Operand->AV K}{ρe:Operand->Value}(hev:∀x,Rep D ρ S w (ev x) (ρe x)){t e:TypeId}{c:K.U}{len:Nat}{parts:Array (Nat×Operand)}{l l':List (AV K)}{y:List (K.El c)}
 (ht:elemOf? P t=some e) (hsz:cN P e=some (K.sz c)) (hz:ng P e=true) (hl:inOrder ev 0 parts.toList=some l) (hlen:l.length=len) (h1:len<=4096) (h2:K.sz c<=4096)
 (hall:l.all (fun v=>v.known&&decide (v.bm.length=K.sz c))=true) (hnd:ko (bp l)=true) (hg:yW D H l=some l') (hdec:pe D c l'=some (y,true)) (dr:fK D c e 0):
 Does D P ρ S H w (do pure (.value (<-Instr.buildSlice t len (parts.map fun(i,x)=>(i,ρe x))))) (.sl H.length) (eu H (bp l)++[.tree c y]):=by
 obtain⟨cs',hrun,hcs,hseg⟩:=anr (P:=P) hev ht hsz hz hl hlen h1 h2 hall;obtain⟨g1,g2⟩:=ZH _ _ hg;obtain⟨d1,d2⟩:=LZ l' c y hdec;have hyl:y.length=len:=by rw[d1,g1,hlen]
 have hcl:∀a∈l.map AV.bm,a.length=K.sz c:=fun a ha=>by
  obtain⟨v,hv,rfl⟩:=mU.1 ha;have:=eP.1 hall v hv;simp only[aZ,bh]at this;exact this.2
 have hnd':(bp (l.map AV.bm).flatten).Nodup:=by rw[<-LW];exact yX hnd
 let W:=w.alloc (.cells cs' e)
 let F:Nat->Nat->Nat->Prop:=fun i j k=>j<K.sz c/\∃v x,l[i]?=some v/\v.bm[j]?=some x/\qJ D w ρ H x k
 have L0:∀i j k,F i j k->fC D w ρ H (bp l) k:=by
  rintro i j k ⟨hj,v,x,hv,hx,h,o,r,rfl,ho,hlv,hr,hf⟩
  refine⟨h,o,r,?_,ho,hlv,hr,hf⟩;rw[LW];have hm:=hQ (flat_get (l.map AV.bm) i j v.bm _ hcl (by simp[hv]) hx);generalize (l.map AV.bm).flatten=L at hm
  induction L with
  |nil=>cases hm
  |cons a r ih=>
   simp only[bp,dM];rcases dY.1 hm with rfl|hm
   ·exact .inl (by simp[hands])
   ·exact .inr (ih hm)
 have R0:Row D w c y (cs'.toList.take (len*K.sz c)) F:=by
  refine⟨by simp[hyl];omega,fun i x hx j a u ha hu=>?_,?_⟩
  ·have hi:i<l.length:=by rw[hlen,<-hyl];exact(bo.1 hx).1
   have hv:=bZ hi;have hj:j<K.sz c:=by rw[<-hD.len c x];exact(bo.1 ha).1
   obtain⟨us,hus,hse⟩:=hseg i _ hv;obtain⟨cs,hcs1,hcs2⟩:=g2 i _ hv;have hdx:=d2 i _ x hcs1 hx;rw[cP,av (yS (show i<len by omega) hj),<-yR hj,hse]at hu;obtain⟨x',hx',hc⟩:=ZI hD hs hcs2 hdx hus j a u ha hu;exact hc.mono fun k hk=>⟨hj,_,x',hv,hx',hk⟩
  ·rintro i j i2 j2 k ⟨hj,v,x,hv,hx,h,o,r,rfl,ho,hlv,hr,hf⟩ ⟨hj2,v2,x2,hv2,hx2,h',o',r',rfl,ho',anv,hr',hf'⟩
   have e1:=hs.dL h h' o o' r r' k ho hlv hr hf ho' anv hr' hf';subst e1;have e2:=BB hnd' (flat_get (l.map AV.bm) i j v.bm _ hcl (by simp[hv]) hx) (flat_get (l.map AV.bm) i2 j2 v2.bm _ hcl (by simp[hv2]) hx2);have:i=i2:=by
    rcases Nat.lt_trichotomy i i2 with h|h|h
    ·have:(i+1)*K.sz c<=i2*K.sz c:=dt _ (by omega);rw[cR,eJ]at this;omega
    ·exact h
    ·have:(i2+1)*K.sz c<=i*K.sz c:=dt _ (by omega);rw[cR,eJ]at this;omega
   subst this;exact⟨rfl,by omega⟩
 have R:Row D W c y (cs'.toList.take (len*K.sz c)) F:=R0.world fun i j k hk=>td (hs.lt k (L0 i j k hk).own).1
 obtain⟨T1,T2⟩:=R.tree hD (b:=w.heap.size) (o:=0) (cap:=len) (vs:=cs') (T:=e) (fr:=(0,0)) (u9 _ _) ⟨by omega,dr⟩ (by omega) (fun k _ _ hh=>by have:=hh.2;simp at this)
  (fun k hk=>by rw[hyl]at hk;rw[dD,cP,av hk]) (fun i j h=>by have:=(hs.lt _ (L0 i j _ h).own).1;omega)
 rw[hyl]at T1 T2;exact BA hs (ks:=bp l) (w':=W) hrun (by simp[W]) (fun k hk _=>td hk) rfl rfl rfl T1 fun k hk=>by
  rcases T2 k hk with rfl|⟨i,j,_,h⟩
  ·exact .inr (bg _)
  ·exact .inl (L0 i j k h)
end Go.V
namespace Go.V
open Go
variable {K :cE}{D:bc K}{ρ ρ':List Value}{S S':Nat->Prop}{w w':World}{H H':List (Ob K)}
theorem anw(hD:bk D){c:K.U}{l:List (K.El c)}{us:List Value}{F:Nat->Nat->Nat->Prop}(R:Row D w c l us F):∀x∈us,x.oneCell'=true:=fun x hx=>by
 obtain⟨k,hk,rfl⟩:=oQ hx;rw[R.len]at hk;have hsz:0<K.sz c:=by
  rcases jq (K.sz c)with h0|h0
  ·rw[h0]at hk;simp at hk
  ·exact h0
 have hi:k/K.sz c<l.length:=Nat.div_lt_of_lt_mul (by rw[vp];exact hk);have hj:k%K.sz c<K.sz c:=Nat.mod_lt _ hsz;have e:k/K.sz c*K.sz c+k%K.sz c=k:=by rw[vp];exact Nat.div_add_mod _ _
 have hx:=bZ hi;have hv:=bZ (show k%K.sz c<(D.cells c l[k/K.sz c]).length by rw[hD.len];exact hj);have hu:us[k/K.sz c*K.sz c+k%K.sz c]?=some us[k]:=by rw[e];exact bZ _
 have hc:=R.cell _ _ hx _ _ _ hv hu;have h1:=eP.1 (hD.one c l[k/K.sz c]) _ (bn (show k%K.sz c<(D.cells c l[k/K.sz c]).length by rw[hD.len];exact hj));generalize (D.cells c l[k/K.sz c])[k%K.sz c]'(by rw[hD.len];exact hj)=v at hc h1;cases hd:v.lR
 ·exact one_cell (hc.flat hd).2 h1
 ·obtain⟨c',l',rfl⟩:=F5 hd;obtain⟨a,cp,e⟩:=F6 (hc.kid c' l' rfl).1;rw[e];rfl
theorem ZJ{P:Program}(hD:bk D)(hs:aN D ρ S w H){c:K.U}{x:AV K}{m:List (K.El c)}{ks:List Nat}{X:Value}(h:qL H c x=some (m,ks))(hx:Rep D ρ S w x X):
 (Builtin.lenOf X).run P w=.ok m.length w/\∃news F,Row D w c m news F/\(∀i j k,F i j k->fC D w ρ H ks k)/\∀w':World,w'.heap=w.heap->(Builtin.firstCells (K.sz c) m.length X).run P w'=.ok news.toArray w':=by
 unfold qL at h;split at h
 ·simp only[ar,aH]at h;obtain⟨rfl,rfl⟩:=h;have e:X=.slice none 0 0:=by cases hx;rfl
  subst e;exact⟨by simp[Builtin.lenOf],[],fun _ _ _=>False,⟨by simp,fun i x h=>by simp at h,fun _ _ _ _ _ h=>h.elim⟩,fun _ _ _ h=>h.elim,fun w' _=>by simp[Builtin.firstCells]⟩
 ·rename_i h0;obtain⟨hp,a,n,cp,rfl⟩:=jP hx;split at h
  ·rename_i c' l ho;cases hd:K.ju c' c with
   |isFalse hn=>simp[hd]at h
   |isTrue he=>
    subst he;simp only[hd,ar,aH]at h;obtain⟨rfl,rfl⟩:=h;have hT:Tree D w c' l (.slice a n cp):=hs.ob _ _ _ ho hp;rcases hT.row hD with⟨e,rfl⟩|⟨b,o,cap,vs,T,fr,us,F,e,hb,hcap,hsz,hfr,hus,R,yZ,hF⟩
    ·cases e;exact⟨by simp[Builtin.lenOf],[],fun _ _ _=>False,⟨by simp,fun i x h=>by simp at h,fun _ _ _ _ _ h=>h.elim⟩,fun _ _ _ h=>h.elim,fun w' _=>by simp[Builtin.firstCells]⟩
    ·cases e;refine⟨by simp[Builtin.lenOf],us,F,R,fun i j k hk=>⟨h0,_,_,by simp,ho,rfl,hp,hF i j k hk⟩,fun w' hw=>?_⟩;have hcells:gv w' b o us:=fun k v hv=>by
      have hk:k<l.length*K.sz c':=by rw[<-R.len];exact(bo.1 hv).1
      have:=hus k hk;rw[hv]at this;rw[cell?_of_heap (w:=w) (a:=⟨b,o+k,none⟩) (by rw[hw])];simp only[World.cell?,hb];simpa using this
     have:=F7 (P:=P) hcells;rw[R.len]at this;simpa [Builtin.firstCells]using this
  ·cases h
 ·cases h
theorem ZK{P:Program}(hD:bk D)(hs:aN D ρ S w H){t xT ty e:TypeId}{d:TypeDesc}{i:TypeInfo}{z:Value}{c:K.U}(ht:P.underlying t=some (.slice e))(hx:P.underlying xT=some d)(hd:∀k,d≠.int k)
 (hi:P.info? e=some i) (hisz:i.size=K.sz c) (hz:i.zero=some z) (hzs:z.cells.size=K.sz c) (hb:i.bytes<=4096) {base:Option Addr} {cap:Nat} {X:Value} {l m:List (K.El c)} {us:List Value} {F:Nat->Nat->Nat->Prop} {ks:List Nat} {olds news:List Value}
 (R:Row D w c (l++m) us F) (hF:∀i j k,F i j k->fC D w ρ H ks k) (hus:us=olds++news) (hlen:(Builtin.lenOf X).run P w=.ok m.length w) (hnew:(Builtin.firstCells (K.sz c) m.length X).run P w.drew=.ok news.toArray w.drew)
 (hold:(Builtin.firstCells (K.sz c) l.length (.slice base l.length cap)).run P w.drew=.ok olds.toArray w.drew) (hroom:cap<l.length+m.length) (hsmall:l.length+m.length<=1073741824) (hE:fK D c e 0):
 Does D P ρ S H w (do pure (.value (<-Builtin.append_ #[t,xT] ty #[.slice base l.length cap,X]))) (.sl H.length) (eu H ks++[.tree c (l++m)]):=by
 have hrun:=ZL (P:=P) (w:=w) (ty:=ty) ht hx hd hi hz hlen (by rw[hisz];exact hnew) (by rw[hisz];exact hold) hroom hsmall hb;have hge:=grownCap_ge w (l.length+m.length) cap e
 let vs:=(olds++news++(Builtin.zeroCells z.cells (grownCap w (l.length+m.length) cap e-(l.length+m.length))).toList).toArray
 let W:=w.drew.alloc (.cells vs e)
 have hR:Row D W c (l++m) us F:=R.world fun i j k hk=>td (hs.lt k (hF i j k hk).own).1
 have te:us.length=(l.length+m.length)*K.sz c:=by rw[R.len,cI]
 have hzc:(Builtin.zeroCells z.cells (grownCap w (l.length+m.length) cap e-(l.length+m.length))).size=(grownCap w (l.length+m.length) cap e-(l.length+m.length))*K.sz c:=by simp[Builtin.zeroCells,hzs]
 have hcz:(l.length+m.length)*K.sz c+(grownCap w (l.length+m.length) cap e-(l.length+m.length))*K.sz c=grownCap w (l.length+m.length) cap e*K.sz c:=by rw[<-cR];congr 1;omega
 have hvl:vs.toList=us++(Builtin.zeroCells z.cells (grownCap w (l.length+m.length) cap e-(l.length+m.length))).toList:=by simp[vs,hus]
 obtain⟨T1,T2⟩:=hR.tree hD (b:=w.heap.size) (o:=0) (cap:=grownCap w (l.length+m.length) cap e) (vs:=vs) (T:=e) (fr:=(0,0)) (u9 _ _) ⟨by simpa using hge,hE⟩
  (by
    have:vs.size=us.length+(Builtin.zeroCells z.cells (grownCap w (l.length+m.length) cap e-(l.length+m.length))).size:=by rw[<-Array.length_toList,hvl];simp
    rw[this,hzc,te];omega)
  (fun k _ _ hh=>by have:=hh.2;simp at this) (fun k hk=>by rw[dD,hvl,cH (by rw[R.len];exact hk)]) (fun i j h=>by have:=(hs.lt _ (hF i j _ h).own).1;omega)
 rw[cI]at T1 T2;exact BA hs (ks:=ks) (w':=W) (fb (f:=.value) hrun) (by simp[W]) (fun k hk _=>td hk) rfl rfl rfl T1 fun k hk=>by
  rcases T2 k hk with rfl|⟨i,j,_,h⟩
  ·exact .inr (bg _)
  ·exact .inl (hF i j k h)
theorem fC.more{ks ks':List Nat}(h:∀x∈ks,x∈ks'){k:Nat}(hk:fC D w ρ H ks k):fC D w ρ H ks' k:=by
 obtain⟨a,o,r,g1,g2,g3,g4,g5⟩:=hk;exact⟨a,o,r,h a g1,g2,g3,g4,g5⟩
theorem anx{P:Program}(hD:bk D)(hs:aN D ρ S w H){t xT ty e:TypeId}{d:TypeDesc}{i:TypeInfo}{z:Value}{c:K.U}(ht:P.underlying t=some (.slice e))(hx:P.underlying xT=some d)(hd:∀k,d≠.int k)
 (hi:P.info? e=some i) (hisz:i.size=K.sz c) (hz:i.zero=some z) (hzs:z.cells.size=K.sz c) (hb:i.bytes<=4096) {s x:AV K} {Y X:Value} {l m:List (K.El c)} {ks ks':List Nat} (hl:qL H c s=some (l,ks)) (hm:qL H c x=some (m,ks'))
 (hnd:ko (ks++ks')=true) (hY:Rep D ρ S w s Y) (hX:Rep D ρ S w x X) (hsmall:l.length+m.length<=1073741824) (hE:fK D c e 0):
 Does D P ρ S H w (do pure (.value (<-Builtin.append_ #[t,xT] ty #[Y,X]))) (.sl H.length) (eu H (ks++ks')++[.tree c (l++m)]):=by
 have hnd':=yX hnd;obtain⟨n1,n2,n3⟩:=List.nodup_append.1 hnd';obtain⟨hlen,news,F2,R2,hF2,hnew⟩:=ZJ (P:=P) hD hs hm hX;obtain⟨-,olds,F1,R1,hF1,hold⟩:=ZJ (P:=P) hD hs hl hY;have hapart:∀{a b:Nat},fC D w ρ H ks a->fC D w ρ H ks' b->a≠b:=fun{a b} ha hb e=>by
  subst e;obtain⟨h1,o1,r1,a1,a2,a3,a4,a5⟩:=ha;obtain⟨h2,o2,r2,b1,b2,b3,b4,b5⟩:=hb;have:=hs.dL h1 h2 o1 o2 r1 r2 a a2 a3 a4 a5 b2 b3 b4 b5;subst this;exact n3 h1 a1 h1 b1 rfl
 have R:=R1.append hD R2 fun i j i2 j2 k h1 h2=>hapart (hF1 _ _ _ h1) (hF2 _ _ _ h2) rfl
 have hF:∀i j k,((i<l.length/\F1 i j k)\/(l.length<=i/\F2 (i-l.length) j k))->fC D w ρ H (ks++ks') k:=fun i j k h=>by
  rcases h with⟨-,h⟩|⟨-,h⟩
  ·exact(hF1 _ _ _ h).more fun x hx=>dM.2 (.inl hx)
  ·exact(hF2 _ _ _ h).more fun x hx=>dM.2 (.inr hx)
 have hs':(Y=.slice none 0 0/\l=[])\/∃h0 b o cap vs T fr,ks=[h0]/\H[h0]?=some (.tree c l)/\ρ[h0]?=some Y/\Y=.slice (some ⟨b,o,none⟩) l.length cap/\w.heap[b]?=some (.cells vs T fr)/\(l.length<=cap/\fK D c T o)/\o+cap*K.sz c<=vs.size/\
  (∀k,o<=k->k<o+cap*K.sz c->¬(fr.1<=k/\k<fr.2))/\∃us F,(∀k,k<l.length*K.sz c->vs.toList[o+k]?=us[k]?)/\Row D w c l us F/\(∀i j,¬F i j b)/\∀i j k,F i j k->cK D w c l Y k:=by
  unfold qL at hl;split at hl
  ·simp only[ar,aH]at hl;obtain⟨rfl,rfl⟩:=hl;exact .inl ⟨by cases hY;rfl,rfl⟩
  ·rename_i h0;obtain⟨hp,a,n,cp,rfl⟩:=jP hY;split at hl
   ·rename_i c' l0 ho;cases hd:K.ju c' c with
    |isFalse hn=>simp[hd]at hl
    |isTrue he=>
     subst he;simp only[hd,ar,aH]at hl;obtain⟨rfl,rfl⟩:=hl;have hT:Tree D w c' l0 (.slice a n cp):=hs.ob _ _ _ ho hp;rcases hT.row hD with⟨e,rfl⟩|⟨b,o,cap,vs,T,fr,us,F,e,hb,hcap,hsz,hfr,hus,R,yZ,hF⟩
     ·exact .inl ⟨e,rfl⟩
     ·exact .inr ⟨h0,b,o,cap,vs,T,fr,rfl,ho,hp,e,hb,hcap,hsz,hfr,us,F,hus,R,yZ,hF⟩
   ·cases hl
  ·cases hl
 rcases hs' with⟨rfl,rfl⟩|⟨h0,b,o,cap,vs,T,fr,rfl,ho,hp,rfl,hblk,⟨hcap,dr⟩,hsz,hfr,us,F,hus,R0,yZ,ZM⟩
 ·by_cases h0:m.length=0
  ·have hm0:m=[]:=iZ h0;subst hm0;have hrun:=L1 (P:=P) (w:=w) (ty:=ty) (base:=none) (n:=0) (cap:=0) ht hx hd hi hlen (by rw[hisz];exact hnew w rfl) (by simp);exact BA hs (ks:=ks++ks') (a:=none) (n:=0) (cp:=0) (w':=w) (fb (f:=.value) (by simpa using hrun)) (bg _) (fun _ _ _=>rfl) rfl rfl rfl (by simpa using Tree.nil) fun k hk=>by simp at hk;cases hk
  ·have hO:olds=[]:=iZ (by have:=R1.len;simpa using this);subst hO;exact ZK (P:=P) (ty:=ty) (base:=none) (cap:=0) (l:=[]) (olds:=[]) hD hs ht hx hd hi hisz hz hzs hb R hF rfl hlen (hnew w.drew rfl) (by simp[Builtin.firstCells]) (by simp;omega) (by simpa using hsmall) hE
 ·by_cases hroom:l.length+m.length<=cap
  ·have hlm:(l.length+m.length)*K.sz c<=cap*K.sz c:=dt _ hroom;rw[cR]at hlm;have hrl:=R2.len;obtain⟨w',vs',e1,e2,e3,e4,e5,e6,e7,e8⟩:=oH (P:=P) (b:=b) (o:=o+l.length*K.sz c) news 0 vs w hblk (by omega) (fun k hk hk'=>hfr k (by omega) (by omega)) (anw hD R2);rw[Nat.add_zero]at e3;have qM:fC D w ρ H [h0] b:=⟨h0,_,_,by simp,ho,rfl,hp,.here⟩;have hrun:=L1 (P:=P) (w:=w) (ty:=ty) (base:=some ⟨b,o,none⟩) (n:=l.length) (cap:=cap) ht hx hd hi hlen (by rw[hisz];exact hnew w rfl) hroom;simp only[hisz,add_plain,e1,Result.andThen_ok]at hrun;have hsize:vs'.size=vs.size:=by have:=gW List.length e3;rw[mc]at this;simpa using this
   have RA:=R0.append hD R2 fun i j i2 j2 k h1 h2=>hapart ⟨h0,_,_,by simp,ho,rfl,hp,ZM i j k h1⟩ (hF2 _ _ _ h2) rfl
   have L2:∀i j k,((i<l.length/\F i j k)\/(l.length<=i/\F2 (i-l.length) j k))->fC D w ρ H ([h0]++ks') k/\k≠b:=fun i j k h=>by
    rcases h with⟨-,h⟩|⟨-,h⟩
    ·exact⟨⟨h0,_,_,by simp,ho,rfl,hp,ZM i j k h⟩,fun e=>by subst e;exact yZ _ _ h⟩
    ·exact⟨(hF2 _ _ _ h).more fun x hx=>dM.2 (.inr hx),fun e=>hapart qM (hF2 _ _ _ h) e.symm⟩
   have RW:Row D w' c (l++m) (us++news) _:=RA.world fun i j k hk=>e5 k (L2 i j k hk).2
   obtain⟨T1,T2⟩:=RW.tree hD e2 (o:=o) (cap:=cap) ⟨by simpa using hroom,dr⟩ (by omega) hfr (fun k hk=>by
    rw[cI,cR]at hk;rw[e3];by_cases hkl:k<l.length*K.sz c
    ·rw[ZN _ _ _ _ (.inl (by omega)),hus k hkl,cH (by rw[R0.len];exact hkl)]
    ·rw[kJ _ _ _ _ (by simp;omega),av (by omega),cM (by rw[R0.len];omega),R0.len];congr 1;omega) (fun i j h=>(L2 i j b h).2 rfl)
   rw[cI]at T1 T2;exact BA hs (ks:=[h0]++ks') (w':=w') (fb (f:=.value) hrun) (by omega) (fun k _ hno=>e5 k fun e=>by subst e;exact hno (qM.more fun x hx=>dM.2 (.inl hx))) e6 e7 e8 T1 fun k hk=>by
    rcases T2 k hk with rfl|⟨i,j,_,h⟩
    ·exact .inl (qM.more fun x hx=>dM.2 (.inl hx))
    ·exact .inl (L2 i j k h).1
  ·have hnl:(Builtin.firstCells (K.sz c) l.length (.slice (some ⟨b,o,none⟩) l.length cap)).run P w.drew=.ok olds.toArray w.drew:=hold w.drew rfl;exact ZK (P:=P) (ty:=ty) (base:=some ⟨b,o,none⟩) (cap:=cap) (l:=l) (olds:=olds) hD hs ht hx hd hi hisz hz hzs hb R hF rfl hlen (hnew w.drew rfl) hnl (by omega) hsmall hE
theorem anz{P:Program}(hD:bk D)(hs:aN D ρ S w H){t:TypeId}{n h i off:Nat}{c:K.U}{l:List (K.El c)}{y:K.El c}{x:AV K}{xs:List (AV K)}{X A:Value}(hn:cN P t=some n)(kq:x.bm.length=n)
 (h1:x.bm.all AV.one=true) (ho:H[h]?=some (.tree c l)) (hoff:off+n<=K.sz c) (hnd:ko (h::bp x.bm)=true) (hg:kW D H x.bm=some xs) (hdec:D.dec c (setCells (D.cells c (l.getD i (K.zero c))) off xs)=some (y,true))
 (hx:Rep D ρ S w x X) (hA:Rep D ρ S w (.ep h (K.sz c) i off) A):Does D P ρ S H w (do Instr.storeAt t A X;pure .skip) .any ((eu H (h::bp x.bm)).set h (.tree c (l.set i y))):=by
 obtain⟨b,o,m,cp,rfl,hb,hi⟩:=o9 hA;have hT:Tree D w c l (.slice (some ⟨b,o,none⟩) m cp):=hs.ob _ _ _ ho hb;obtain⟨hn1,hn2⟩:=Bl.1 (yX hnd);rcases hT.row hD with⟨e,-⟩|⟨b',o',cap,vs,T,fr,us,F,e,hblk,⟨hcap,dr⟩,hsz,hfr,hus,R,yZ,hF⟩
 ·cases e
 ·simp only[Value.slice.injEq,ar,Addr.mk.injEq]at e;obtain⟨⟨rfl,rfl,-⟩,rfl,rfl⟩:=e;have hc:=jQ hx (Bv h1);have hlen:X.cells.toList.length=n:=by rw[<-hc.1,kq]
  have hmul:(i+1)*K.sz c<=cp*K.sz c:=dt _ (by omega);have L6:(i+1)*K.sz c<=l.length*K.sz c:=dt _ (by omega);rw[cR,eJ]at hmul L6;obtain⟨w',vs',e1,e2,e3,e4,e5,e6,e7,e8⟩:=oH (P:=P) (b:=b) (o:=o+i*K.sz c+off) X.cells.toList 0 vs w hblk (by omega) (fun k hk hk'=>hfr k (by omega) (by omega)) (sE hc h1);rw[Nat.add_zero]at e3;have hx0:=getD_some (K.zero c) hi;obtain⟨gl,gg⟩:=yV _ _ hg;obtain⟨dl,dd⟩:=hD.yQ _ _ _ hdec;have qN:∀j,(setCells (D.cells c (l.getD i (K.zero c))) off xs)[j]?=if off<=j/\j<off+n then xs[j-off]? else(D.cells c (l.getD i (K.zero c)))[j]?:=fun j=>by
   have key:∀(zs cs:List (AV K))(q j:Nat),q+zs.length<=cs.length->(setCells cs q zs)[j]?=if q<=j/\j<q+zs.length then zs[j-q]? else cs[j]?:=fun zs=>by
    induction zs with
    |nil=>intro cs q j _;rw[an (by first|omega|simp)];rfl
    |cons z r ih=>
     intro cs q j hq;simp only[bX]at hq;rw[setCells,ih _ _ _ (by simp;omega)];by_cases h1:q+1<=j/\j<q+1+r.length
     ·rw[av h1,av (by simp;omega),show j-q=(j-(q+1))+1 by omega];rfl
     ·rw[an h1];by_cases h2:j=q
      ·subst h2;rw[av (by simp),gC];simp;omega
      ·rw[an (by simp;omega),gC,an (by omega)]
   have:=key xs (D.cells c (l.getD i (K.zero c))) off j (by rw[hD.len];omega);rw[gl,kq]at this;exact this
  let G:Nat->Nat->Prop:=fun j k=>∃v,x.bm[j]?=some v/\qJ D w ρ H v k
  have L8:∀j k,G j k->fC D w ρ H (bp x.bm) k:=by
   rintro j k ⟨v,hv,h',o',r',rfl,ho',hl',hr',hf'⟩
   refine⟨h',o',r',?_,ho',hl',hr',hf'⟩;have hm:=hQ hv;generalize x.bm=L at hm
   induction L with
   |nil=>cases hm
   |cons a r ih=>
    simp only[bp,dM];rcases dY.1 hm with rfl|hm
    ·exact .inl (by simp[hands])
    ·exact .inr (ih hm)
  have hapart:∀{a k:Nat},fC D w ρ H (bp x.bm) k->cK D w c l (.slice (some ⟨b,o,none⟩) l.length cp) a->a≠k:=fun{a k} hk ha e=>by
   subst e;obtain⟨h2,o2,r2,b1,b2,b3,b4,b5⟩:=hk;have:=hs.dL h h2 _ o2 _ r2 a ho rfl hb ha b2 b3 b4 b5;subst this;exact hn1 b1
  have R2:=R.set hD (i:=i) (off:=off) (x0:=l.getD i (K.zero c)) (y:=y) (xs:=X.cells.toList) (G:=G) hx0 (by rw[hlen];exact hoff) (fun j hj=>by
   rw[hlen]at hj;have hg2:=qN j;rw[an (by omega)]at hg2;by_cases hjs:j<K.sz c
   ·have ha:=bZ (show j<(D.cells c (l.getD i (K.zero c))).length by rw[hD.len];exact hjs);have hb':=bZ (show j<(D.cells c y).length by rw[hD.len];exact hjs);rw[ha]at hg2;rcases dd j _ _ hg2 hb' with e|⟨e,-⟩
    ·rw[ha,hb',e]
    ·exact absurd e (hD.kinds c _ j _ ha).1
   ·rw[m3 (by rw[hD.len];omega),m3 (by rw[hD.len];omega)])
   (fun j v u hv hu=>by
     have hjn:j<n:=by rw[<-hlen];exact(bo.1 hu).1
     have ni:=bZ (show j<x.bm.length by omega);obtain⟨v',hv',hgc⟩:=gg j _ ni;obtain⟨k1,k2⟩:=FY hD hs hgc (hc.2 j _ _ ni hu);have hg2:=qN (off+j);rw[av (by omega),show off+j-off=j by omega,hv']at hg2;rcases dd (off+j) _ v hg2 hv with rfl|⟨rfl,c',rfl⟩
     ·exact k1.mono fun k hk=>⟨_,ni,hk⟩
     ·rw[k2 rfl];refine⟨fun e=>(by cases e),fun c l e=>?_⟩;cases e;exact⟨.nil,fun k hk=>by cases hk⟩)
   (fun j j2 k ⟨v,hv,h',o',r',e1,ho',hl',hr',hf'⟩ ⟨v2,hv2,h2,o2,r2,e2',ho2,hl2,hr2,hf2⟩=>by
     subst e1;subst e2';have:=hs.dL h' h2 o' o2 r' r2 k ho' hl' hr' hf' ho2 hl2 hr2 hf2;subst this;exact BB hn2 hv hv2)
   (fun j i2 j2 k hk hf=>hapart (L8 j k hk) (hF _ _ _ hf) rfl)
  have vI:∀i2 j k,((i2=i/\off<=j/\j<off+X.cells.toList.length/\G (j-off) k)\/(¬(i2=i/\off<=j/\j<off+X.cells.toList.length)/\F i2 j k))->fC D w ρ H (h::bp x.bm) k/\k≠b:=fun i2 j k hk=>by
   rcases hk with⟨-,-,-,hk⟩|⟨-,hk⟩
   ·exact⟨(L8 _ _ hk).more fun x hx=>dY.2 (.inr hx),fun e=>hapart (L8 _ _ hk) .here e.symm⟩
   ·exact⟨⟨h,_,_,by simp,ho,rfl,hb,hF _ _ _ hk⟩,fun e=>by subst e;exact yZ _ _ hk⟩
  have RW:Row D w' c (l.set i y) _ _:=R2.world fun i j k hk=>e5 k (vI i j k hk).2
  have hsize:vs'.size=vs.size:=by have:=gW List.length e3;rw[mc]at this;simpa using this
  have hlc:l.length*K.sz c<=cp*K.sz c:=dt _ hcap;have hlz:X.cells.size=n:=by simpa using hlen
  obtain⟨T1,T2⟩:=RW.tree hD e2 (o:=o) (cap:=cp) ⟨by simpa using hcap,dr⟩ (by omega) hfr (fun k hk=>by
   rw[mg]at hk;rw[e3,kJ _ _ _ _ (by simp;omega),kJ _ _ _ _ (by rw[R.len];omega)];by_cases hc2:i*K.sz c+off<=k/\k<i*K.sz c+off+X.cells.toList.length
   ·rw[av (by omega),av hc2];congr 1;omega
   ·rw[an (by omega),an hc2];exact hus k hk) (fun i j h=>(vI i j b h).2 rfl)
  rw[mg]at T1 T2;have qM:fC D w ρ H (h::bp x.bm) b:=⟨h,_,_,by simp,ho,rfl,hb,.here⟩;refine ZG hs ho rfl hb (w':=w') ?_ e4 (fun k hno=>e5 k fun e=>by subst e;exact hno qM) e6 e7 e8 T1 fun k hk=>?_
  ·have:(storeVar t ⟨b,o+i*K.sz c+off,none⟩ X).run P w=.ok () w':=by rw[F8 hn (by simpa using hlen)];exact e1
   simp[Instr.storeAt,Instr.sureAddr,this]
  ·rcases T2 k hk with rfl|⟨i,j,_,h⟩
   ·exact qM
   ·exact(vI i j k h).1
theorem anA{P:Program}(hD:bk D)(hs:aN D ρ S w H){t:TypeId}{n h i off:Nat}{c:K.U}{l:List (K.El c)}{cs:List (AV K)}{y:K.El c}{x:AV K}{xs:List (AV K)}{X A:Value}(hn:cN P t=some n)(hcn:n=cs.length)(kq:x.bm.length=n)
 (h1:x.bm.all AV.one=true) (ho:H[h]?=some (.opn c l i off cs)) (hnd:ko (h::bp x.bm)=true) (hg:kW D H x.bm=some xs) (hdec:D.dec c (setCells (D.cells c (l.getD i (K.zero c))) off xs)=some (y,true))
 (hx:Rep D ρ S w x X) (hA:Rep D ρ S w (.ep h (K.sz c) i off) A):Does D P ρ S H w (do Instr.storeAt t A X;pure .skip) .any ((eu H (h::bp x.bm)).set h (.tree c (l.set i y))):=by
 obtain⟨b,o,m,cp,rfl,hb,hi⟩:=o9 hA;obtain⟨b',o',cap,vs,T,fr,e,hblk,⟨hcap,dr⟩,hsz,hfr,hi',hoff,h7,h8,h9⟩:=(hs.ob _ _ _ ho hb:lS D ρ S w c l i off cs _);obtain⟨hn1,hn2⟩:=Bl.1 (yX hnd);simp only[Value.slice.injEq,ar,Addr.mk.injEq]at e;obtain⟨⟨rfl,rfl,-⟩,rfl,rfl⟩:=e;have hc:=jQ hx (Bv h1);have hlen:X.cells.toList.length=n:=by rw[<-hc.1,kq]
 have hmul:(i+1)*K.sz c<=cp*K.sz c:=dt _ (by omega);have L6:(i+1)*K.sz c<=l.length*K.sz c:=dt _ (by omega);rw[cR,eJ]at hmul L6;have hlc:l.length*K.sz c<=cp*K.sz c:=dt _ hcap;obtain⟨w',vs',e1,e2,e3,e4,e5,e6,e7,e8⟩:=oH (P:=P) (b:=b) (o:=o+i*K.sz c+off) X.cells.toList 0 vs w hblk (by omega) (fun k hk hk'=>hfr k (by omega) (by omega)) (sE hc h1);rw[Nat.add_zero]at e3;have hx0:=getD_some (K.zero c) hi;generalize l.getD i (K.zero c)=x0 at hx0 hdec;obtain⟨gl,gg⟩:=yV _ _ hg;obtain⟨dl,dd⟩:=hD.yQ _ _ _ hdec;have qN:∀j,(setCells (D.cells c x0) off xs)[j]?=if off<=j/\j<off+n then xs[j-off]? else(D.cells c x0)[j]?:=fun j=>by
  have key:∀(zs cs:List (AV K))(q j:Nat),q+zs.length<=cs.length->(setCells cs q zs)[j]?=if q<=j/\j<q+zs.length then zs[j-q]? else cs[j]?:=fun zs=>by
   induction zs with
   |nil=>intro cs q j _;rw[an (by first|omega|simp)];rfl
   |cons z r ih=>
    intro cs q j hq;simp only[bX]at hq;rw[setCells,ih _ _ _ (by simp;omega)];by_cases h1:q+1<=j/\j<q+1+r.length
    ·rw[av h1,av (by simp;omega),show j-q=(j-(q+1))+1 by omega];rfl
    ·rw[an h1];by_cases h2:j=q
     ·subst h2;rw[av (by simp),gC];simp;omega
     ·rw[an (by simp;omega),gC,an (by omega)]
  have:=key xs (D.cells c x0) off j (by rw[hD.len];omega);rw[gl,kq]at this;exact this
 have F9:∀(i' j:Nat) u,((vs.toList.drop o).take (l.length*K.sz c))[i'*K.sz c+j]?=some u->w.cell? ⟨b,o+i'*K.sz c+j,none⟩=some u:=fun i' j u hu=>by
  rw[cP]at hu;split at hu
  ·rw[eI]at hu;have:w.cell? ⟨b,o+i'*K.sz c+j,none⟩=vs.toList[o+i'*K.sz c+j]?:=by simp[World.cell?,hblk]
   rw[this,gX];exact hu
  ·cases hu
 have hbl:((vs.toList.drop o).take (l.length*K.sz c)).length=l.length*K.sz c:=by simp;omega
 have vJ:∀k,jR D w c l i off cs.length (.slice (some ⟨b,o,none⟩) l.length cp) k->∀v,qJ D w ρ H v k->∀j,x.bm[j]?=some v->False:=fun k hk v ⟨h',o',r',e,ho',hl',hr',hf'⟩ j hj=>by
  subst e;have:=hs.dL _ _ _ _ _ _ _ ho rfl hb hk ho' hl' hr' hf';subst this;exact hn1 (yY hj)
 let F:Nat->Nat->Nat->Prop:=fun i' j k=>(nj i off cs.length i' j/\∃v,x.bm[j-off]?=some v/\qJ D w ρ H v k)\/
     (¬nj i off cs.length i' j/\∃(x:K.El c)(c':K.U)(l':List (K.El c'))(u:Value),l[i']?=some x/\(D.cells c x)[j]?=some (.aj c' l')/\w.cell? ⟨b,o+i'*K.sz c+j,none⟩=some u/\cK D w c' l' u k)
 have R:Row D w c (l.set i y) (fB ((vs.toList.drop o).take (l.length*K.sz c)) (i*K.sz c+off) X.cells.toList) F:=by
  refine⟨by rw[mc,hbl,mg],fun i' x1 hx1 j v u hv hu=>?_,?_⟩
  ·have hj:j<K.sz c:=by rw[<-hD.len c x1];exact(bo.1 hv).1
   rw[kJ _ _ _ _ (by rw[hbl];omega)]at hu;have out:∀{x1:K.El c},¬nj i off cs.length i' j->l[i']?=some x1->(D.cells c x1)[j]?=some v->w.cell? ⟨b,o+i'*K.sz c+j,none⟩=some u->jv D w v u (F i' j):=fun{x1} hh hx1 hv1 hu'=>by
    obtain⟨k1,k2⟩:=h7 i' x1 hx1 j v u hh hv1 hu';exact(jv.mk (G:=fun k=>∃(c':K.U)(l':List (K.El c')),v=.aj c' l'/\cK D w c' l' u k) k1 fun c' l' e=>⟨(k2 c' l' e).1,fun k hk=>⟨c',l',e,hk⟩⟩).mono fun k ⟨c',l',e,hk⟩=>.inr ⟨hh,x1,c',l',u,hx1,by rw[hv1,e],hu',hk⟩
   rcases dV hx1 with⟨rfl,rfl,-⟩|⟨hne,hx1⟩
   ·by_cases hh:off<=j/\j<off+cs.length
    ·rw[av (by omega)]at hu;have e1:i'*K.sz c+j-(i'*K.sz c+off)=j-off:=by omega
     rw[e1]at hu;have ni:=bZ (show j-off<x.bm.length by omega);obtain⟨v',hv',hgc⟩:=gg _ _ ni;obtain⟨k1,k2⟩:=FY hD hs hgc (hc.2 _ _ _ ni hu);have hg2:=qN j;rw[av (by omega),hv']at hg2;rcases dd j _ v hg2 hv with rfl|⟨rfl,c',rfl⟩
     ·exact k1.mono fun k hk=>.inl ⟨⟨rfl,hh⟩,_,ni,hk⟩
     ·rw[k2 rfl];refine⟨fun e=>(by cases e),fun c l e=>?_⟩;cases e;exact⟨.nil,fun k hk=>by cases hk⟩
    ·rw[an (by omega)]at hu;have hg2:=qN j;rw[an (by omega)]at hg2;have ha:=bZ (show j<(D.cells c x0).length by rw[hD.len];exact hj);have hv0:(D.cells c x0)[j]?=some v:=by
      rw[ha]at hg2;rcases dd j _ _ hg2 hv with e|⟨e,-⟩
      ·rw[ha,e]
      ·exact absurd e (hD.kinds c _ j _ ha).1
     exact out (fun h=>hh h.2) hx0 hv0 (F9 _ _ _ hu)
   ·have hno:¬(i*K.sz c+off<=i'*K.sz c+j/\i'*K.sz c+j<i*K.sz c+off+X.cells.toList.length):=fun⟨q1,q2⟩=>by
     rcases Nat.lt_or_gt_of_ne hne with hlt|hlt
     ·have:=dt (K.sz c) (show i'+1<=i by omega);rw[cR,eJ]at this;omega
     ·have:=dt (K.sz c) (show i+1<=i' by omega);rw[cR,eJ]at this;omega
    rw[an hno]at hu;exact out (fun h=>hne h.1) hx1 hv (F9 _ _ _ hu)
  ·rintro i1 j1 i2 j2 k (⟨a1,v1,a2,a3⟩|⟨a1,x1,c1,l1,u1,a2,a3,a4,a5⟩) (⟨e1,v2,e2,e3⟩|⟨e1,x2,c2,l2,u2,e2,e3,e4,e5⟩)
   ·obtain⟨h1,o1,r1,q1,q2,q3,q4,q5⟩:=a3;obtain⟨h2,o2,r2,p1,p2,p3,p4,p5⟩:=e3;subst q1;subst p1;have:=hs.dL _ _ _ _ _ _ _ q2 q3 q4 q5 p2 p3 p4 p5;subst this;have:=BB hn2 a2 e2;obtain⟨rfl,b1,b2⟩:=a1;obtain⟨rfl,d1,d2⟩:=e1;exact⟨rfl,by omega⟩
   ·exact(vJ k ⟨b,o,_,cp,rfl,.inr ⟨i2,j2,x2,c2,l2,u2,e1,e2,e3,e4,e5⟩⟩ v1 a3 _ a2).elim
   ·exact(vJ k ⟨b,o,_,cp,rfl,.inr ⟨i1,j1,x1,c1,l1,u1,a1,a2,a3,a4,a5⟩⟩ v2 e3 _ e2).elim
   ·exact h8 i1 j1 i2 j2 x1 x2 c1 l1 c2 l2 u1 u2 k a1 e1 a2 e2 a3 e3 a4 e4 a5 e5
 have qM:fC D w ρ H (h::bp x.bm) b:=⟨h,_,_,by simp,ho,rfl,hb,b,o,_,cp,rfl,.inl rfl⟩;have vI:∀i2 j k,F i2 j k->fC D w ρ H (h::bp x.bm) k/\k≠b:=fun i2 j k hk=>by
  rcases hk with⟨-,v,a2,a3⟩|⟨a1,x1,c1,l1,u1,a2,a3,a4,a5⟩
  ·refine⟨?_,fun e=>by subst e;exact vJ _ ⟨_,o,_,cp,rfl,.inl rfl⟩ v a3 _ a2⟩;obtain⟨h',o',r',e,q2,q3,q4,q5⟩:=a3;subst e;exact⟨h',o',r',dY.2 (.inr (yY a2)),q2,q3,q4,q5⟩
  ·refine⟨⟨h,_,_,by simp,ho,rfl,hb,b,o,_,cp,rfl,.inr ⟨i2,j,x1,c1,l1,u1,a1,a2,a3,a4,a5⟩⟩,fun e=>?_⟩;subst e;exact((h7 i2 x1 a2 j _ u1 a1 a3 a4).2 c1 l1 rfl).2 a5
 have RW:Row D w' c (l.set i y) _ F:=R.world fun i j k hk=>e5 k (vI i j k hk).2
 have hsize:vs'.size=vs.size:=by have:=gW List.length e3;rw[mc]at this;simpa using this
 have hlz:X.cells.size=n:=by simpa using hlen
 obtain⟨T1,T2⟩:=RW.tree hD e2 (o:=o) (cap:=cp) ⟨by simpa using hcap,dr⟩ (by omega) hfr (fun k hk=>by
  rw[mg]at hk;rw[e3,kJ _ _ _ _ (by simp;omega),kJ _ _ _ _ (by rw[hbl];omega)];by_cases hc2:i*K.sz c+off<=k/\k<i*K.sz c+off+X.cells.toList.length
  ·rw[av (by omega),av hc2];congr 1;omega
  ·rw[an (by omega),an hc2,cP,av hk,eI]) (fun i j h=>(vI i j b h).2 rfl)
 rw[mg]at T1 T2;refine ZG hs ho rfl hb (w':=w') ?_ e4 (fun k hno=>e5 k fun e=>by subst e;exact hno qM) e6 e7 e8 T1 fun k hk=>?_
 ·have:(storeVar t ⟨b,o+i*K.sz c+off,none⟩ X).run P w=.ok () w':=by rw[F8 hn (by simpa using hlen)];exact e1
  simp[Instr.storeAt,Instr.sureAddr,this]
 ·rcases T2 k hk with rfl|⟨i,j,_,h⟩
  ·exact qM
  ·exact(vI i j k h).1
theorem anB{cx:Cx K}(hD:bk cx.D)(hs:aN cx.D ρ S w H){ev:Operand->AV K}{ρe:Operand->Value}(hev:∀x,Rep cx.D ρ S w (ev x) (ρe x)){o:Oper}{v:AV K}{H':List (Ob K)}{c:Bool}{t:List Nat}
 (h:y4 cx ev H o.op=some (v,H',c,t)) (hc:c=true):Does cx.D cx.P ρ S H w (execOp ρe o) v H':=by
 unfold y4 at h;unfold execOp;split at h
 all_goals first|(cases h;done)|(rename_i hop;rw[hop];dsimp only)
 ·
  rename_i T len cap;split at h
  ·cases h
  ·rename_i e he;split at h
   ·rename_i cc z kl n kc m hty hz hl hcp;split at h
    ·rename_i hcond;obtain⟨-,hsz,hroom,hk⟩:=hcond;split at h
     ·rename_i zs hg;split at h
      ·rename_i y b hdec;simp only[ar,aH]at h;obtain⟨rfl,rfl,rfl,rfl⟩:=h;have h1:=hev len;rw[hl]at h1;have h2:=hev cap;rw[hcp]at h2;rw[ee h1,ee h2];simp only[aZ,bh]at hc;obtain⟨hb,hc⟩:=hc;subst hb;exact anp hD hs he hsz hroom hz hk hg hdec hc.1 hc.2.1 hc.2.2 (qO hty)
      ·cases h
     ·cases h
    ·cases h
   ·cases h
 ·
  rename_i T len parts;split at h
  ·cases h
  ·rename_i e he;split at h
   ·rename_i cc l hty hl;split at h
    ·rename_i hcond;obtain⟨-,hsz,hz,hlen,h1,h2,hall,hnd⟩:=hcond;split at h
     ·rename_i l' hg;split at h
      ·rename_i y b hdec;simp only[ar,aH]at h;obtain⟨rfl,rfl,rfl,rfl⟩:=h;subst hc;exact ant hD hs hev he hsz hz hl hlen h1 h2 hall hnd hg hdec (qO hty)
      ·cases h
     ·cases h
    ·cases h
   ·cases h
 ·
  rename_i T p x;split at h
  ·rename_i hh st i off n hp hn;split at h
   ·rename_i cc l hob;split at h
    ·rename_i hcond;obtain⟨rfl,hoff,kq,h1,hnd⟩:=hcond;split at h
     ·rename_i xs hg;split at h
      ·rename_i y b hdec;simp only[ar,aH]at h;obtain⟨rfl,rfl,rfl,rfl⟩:=h;subst hc;have hA:=hev p;rw[hp]at hA;exact anz hD hs hn kq h1 hob hoff hnd hg hdec (hev x) hA
      ·cases h
     ·cases h
    ·cases h
   ·rename_i cc l i' off' cs hob;split at h
    ·rename_i hcond;obtain⟨rfl,rfl,hcn,kq,h1,hnd⟩:=hcond;split at h
     ·rename_i xs hg;split at h
      ·rename_i y b hdec;simp only[ar,aH]at h;obtain⟨rfl,rfl,rfl,rfl⟩:=h;simp only[aZ,bh]at hc;obtain⟨rfl,rfl⟩:=hc;have hA:=hev p;rw[hp]at hA;exact anA hD hs hn hcn kq h1 hob hnd hg hdec (hev x) hA
      ·cases h
     ·cases h
    ·cases h
   ·cases h
  ·cases h
 ·
  rename_i args argTypes;split at h
  ·rename_i s x sT xT hargs hat;have ea:args= #[s,x]:=by rw[<-Array.toArray_toList (xs:=args),hargs]
   have et:argTypes= #[sT,xT]:=by rw[<-Array.toArray_toList (xs:=argTypes),hat]
   subst ea;subst et;have hres:(do let d<-resolve ρe {callee:=.builtin .append,args:= #[s,x],argTypes:= #[sT,xT]} o.type;invoke d.target d.args:Sem Next)=
    (do pure (.value (<-Builtin.append_ #[sT,xT] o.type #[ρe s,ρe x])):Sem Next):=by simp[resolve,invoke,builtin]
   rw[hres];split at h
   ·cases h
   ·rename_i hxT;simp only[i5,qD,vn,Option.isSome_eq_false_iff,Option.isNone_iff_eq_none]at hxT;obtain⟨hx1,hx2⟩:=hxT;obtain⟨d,hd⟩:=Option.ne_none_iff_exists'.1 hx2;have hdk:∀k,d≠.int k:=fun k e=>by subst e;simp[y7,hd]at hx1
    split at h
    ·cases h
    ·rename_i e he;split at h
     ·cases h
     ·rename_i cc hty;split at h
      ·rename_i hcond;obtain⟨-,hsz,hroom,hz⟩:=hcond;obtain⟨i,hi,hisz⟩:=oI hsz;obtain⟨z,hzv,hzs⟩:=AP hz hi;have hb:=yi hroom hi;split at h
       ·rename_i l ks m ks' hl hm;split at h
        ·rename_i hnd;simp only[ar,aH]at h;obtain⟨rfl,rfl,rfl,rfl⟩:=h;exact anx hD hs (iJ he) hd hdk hi hisz hzv (by rw[hzs,hisz]) hb hl hm hnd (hev s) (hev x) (by simpa using hc) (qO hty)
        ·cases h
       ·cases h
      ·cases h
  ·cases h
theorem anC{cx:Cx K}(hD:bk cx.D)(hs:aN cx.D ρ S w H){ev:Operand->AV K}{ρe:Operand->Value}(hev:∀x,Rep cx.D ρ S w (ev x) (ρe x)){o:Oper}{v:AV K}{H':List (Ob K)}{c:Bool}{t:List Nat}
 (h:y9 cx ev H o.op=some (v,H',c,t)) (hc:c=true):∃S1 H1,Step cx.D H.length ρ S H w ρ S1 H1 w/\H1.length=H.length/\Does cx.D cx.P ρ S1 H1 w (execOp ρe o) v H':=by
 unfold y9 at h;split at h
 ·rename_i r hd;simp only[ar]at h;subst h;exact⟨S,H,Step.refl,rfl,anB hD hs (fun x=>pf hs _ _ (hev x)) hd hc⟩
 split at h
 ·exact⟨S,H,Step.refl,rfl,ZO hD hs (fun x=>pf hs _ _ (hev x)) h hc⟩
 ·generalize kX ev o.op=hs0 at h;obtain⟨S1,g1,g2,g3⟩:=FU (n0:=H.length) hs0 hs;have hev1:∀x,Rep cx.D ρ S1 w (dH (iK H hs0) (ev x)) (ρe x):=fun x=>pf g1 _ _ ((hev x).mono g2.s1 (fun _ _=>rfl) (fun _ _ h=>h))
  refine⟨S1,_,g2,g3,?_⟩;split at h
  ·rename_i v1 c1 hp;simp only[ar,aH]at h;obtain⟨rfl,rfl,rfl,rfl⟩:=h;obtain⟨u,hu,hr⟩:=ZP hD g1 hev1 hp hc;exact⟨_,u,w,ρ,hu,.inl rfl,g1,hr,Step.refl⟩
  ·exact ZO hD g1 hev1 h hc
end Go.V
namespace Go.V
open Go
variable {K :cE}{D:bc K}{ρ ρ':List Value}{S S':Nat->Prop}{w w':World}{H H':List (Ob K)}
theorem anD:∀(zs cs:List (AV K))(q j:Nat),q+zs.length<=cs.length->(setCells cs q zs)[j]?=if q<=j/\j<q+zs.length then zs[j-q]? else cs[j]?:=fun zs=>by
 induction zs with
 |nil=>intro cs q j _;rw[an (by first|omega|simp)];rfl
 |cons z r ih=>
  intro cs q j hq;simp only[bX]at hq;rw[setCells,ih _ _ _ (by simp;omega)];by_cases h1:q+1<=j/\j<q+1+r.length
  ·rw[av h1,av (by simp;omega),show j-q=(j-(q+1))+1 by omega];rfl
  ·rw[an h1];by_cases h2:j=q
   ·subst h2;rw[av (by simp),gC];simp;omega
   ·rw[an (by simp;omega),gC,an (by omega)]
theorem aN.split(hs:aN D ρ S w H){h:Nat}{o o':Ob K}{r:Value}{os:List (Ob K)}{rs:List Value}(h1:H[h]?=some o)(h2:o.live=true)(h3:ρ[h]?=some r)(hl:rs.length=os.length)
 (ho:∀(m:Nat) p q,os[m]?=some p->rs[m]?=some q->fp D (ρ++rs) S w p q/\∀k,bS D w p q k->bS D w o r k)
 (hd:∀(m m':Nat) p p' q q' k,os[m]?=some p->rs[m]?=some q->os[m']?=some p'->rs[m']?=some q'->bS D w p q k->bS D w p' q' k->m=m')
 (ho':fp D (ρ++rs) S w o' r) (hf':∀k,bS D w o' r k->bS D w o r k) (hx:∀(m:Nat) p q k,os[m]?=some p->rs[m]?=some q->bS D w p q k->¬bS D w o' r k):
 aN D (ρ++rs) S w (H.set h o'++os)/\Step D H.length ρ S H w (ρ++rs) S (H.set h o'++os) w:=by
 have hlen:=hs.len;have key:∀(k:Nat) x y,(H.set h o'++os)[k]?=some x->(ρ++rs)[k]?=some y->(k=h/\x=o'/\y=r)\/(k≠h/\k<H.length/\H[k]?=some x/\ρ[k]?=some y)\/(H.length<=k/\os[k-H.length]?=some x/\rs[k-H.length]?=some y):=fun k x y hk hy=>by
  by_cases hkl:k<H.length
  ·rw[cH (by simpa using hkl)]at hk;rw[cH (by omega)]at hy;rcases dV hk with⟨rfl,rfl,-⟩|⟨hne,hk⟩
   ·rw[h3]at hy;simp at hy;exact .inl ⟨rfl,rfl,hy.symm⟩
   ·exact .inr (.inl ⟨hne,hkl,hk,hy⟩)
  ·rw[cM (by simp;omega)]at hk;rw[cM (by omega)]at hy;simp only[mg]at hk;rw[hlen]at hy;exact .inr (.inr ⟨by omega,hk,hy⟩)
 have own:∀b,Own D w (ρ++rs) (H.set h o'++os) b->Own D w ρ H b:=fun b ⟨k,x,y,g1,g2,g3,g4⟩=>by
  rcases key k x y g1 g3 with⟨-,rfl,rfl⟩|⟨-,-,a,b⟩|⟨-,a,b⟩
  ·exact⟨h,o,_,h1,h2,h3,hf' _ g4⟩
  ·exact⟨k,x,y,a,g2,b,g4⟩
  ·exact⟨h,o,r,h1,h2,h3,(ho _ _ _ a b).2 _ g4⟩
 refine⟨⟨by simp[hlen,hl],fun k x y g1 g3=>?_,fun k k' x x' y y' b g1 g2 g3 g4 e1 e2 e3 e4=>?_,fun b hb=>hs.lt b (own b hb),hs.slt,hs.base⟩,rfl,rfl,rfl,bg _,fun _ _ _=>rfl,fun b hb=>.inl (own b hb),fun _ h=>h,fun _ h=>.inl h,fun k hk=>?_⟩
 ·rcases key k x y g1 g3 with⟨-,rfl,rfl⟩|⟨-,-,a,b⟩|⟨-,a,b⟩
  ·exact ho'
  ·exact(hs.ob _ _ _ a b).mono (fun _ h=>h) (fun _ _=>rfl) (fun _ _ h=>pd h) (fun _ _ _=>rfl)
  ·exact(ho _ _ _ a b).1
 ·have other:∀{k:Nat}{x:Ob K}{y:Value},k≠h->H[k]?=some x->x.live=true->ρ[k]?=some y->bS D w x y b->¬bS D w o r b:=fun{k x y} hn a1 a2 a3 a4 a5=>hn (hs.dL _ _ _ _ _ _ _ a1 a2 a3 a4 h1 h2 h3 a5)
  rcases key k x y g1 g3 with⟨rfl,rfl,rfl⟩|⟨n1,l1,a1,b1⟩|⟨l1,a1,b1⟩
  ·rcases key k' x' y' e1 e3 with⟨rfl,rfl,rfl⟩|⟨n2,l2,a2,b2⟩|⟨l2,a2,b2⟩
   ·rfl
   ·exact absurd (hf' _ g4) (other n2 a2 e2 b2 e4)
   ·exact absurd g4 (hx _ _ _ _ a2 b2 e4)
  ·rcases key k' x' y' e1 e3 with⟨rfl,rfl,rfl⟩|⟨n2,l2,a2,b2⟩|⟨l2,a2,b2⟩
   ·exact absurd (hf' _ e4) (other n1 a1 g2 b1 g4)
   ·exact hs.dL _ _ _ _ _ _ _ a1 g2 b1 g4 a2 e2 b2 e4
   ·exact absurd ((ho _ _ _ a2 b2).2 _ e4) (other n1 a1 g2 b1 g4)
  ·rcases key k' x' y' e1 e3 with⟨rfl,rfl,rfl⟩|⟨n2,l2,a2,b2⟩|⟨l2,a2,b2⟩
   ·exact absurd e4 (hx _ _ _ _ a1 b1 g4)
   ·exact absurd ((ho _ _ _ a1 b1).2 _ g4) (other n2 a2 e2 b2 e4)
   ·have:=hd _ _ _ _ _ _ _ a1 b1 a2 b2 g4 e4;omega
 ·rw[cH (by omega)]
theorem Tree.arr(hD:bk D){c:K.U}{l:List (K.El c)}{r:Value}(hfl:dy (D.cells c (K.zero c))=false)(h:Tree D w c l r):fp D ρ S w (.arr c l) r/\∀k,gY r=some k->cK D w c l r k:=by
 cases h with
 |nil=>exact⟨.inl ⟨rfl,rfl⟩,fun k hk=>by cases hk⟩
 | @mk _ _ b o cap vs T fr hb hcap hsz hfr hlen ix dE hself hdis=>
   refine⟨.inr ⟨b,o,cap,vs,T,fr,rfl,hb,hcap,hsz,hfr,fun i x hx=>⟨hlen i x hx,fun j v y hv hy=>?_⟩⟩,fun k hk=>?_⟩
   ·have hrd:v.lR=false:=by
     cases hd:v.lR
     ·rfl
     ·obtain⟨c',l',rfl⟩:=F5 hd;have:dy (D.cells c x)=true:=by
       have hm:=hQ hv;generalize D.cells c x=L at hm
       induction L with
       |nil=>cases hm
       |cons a r ih=>
        simp only[dy,i5];rcases dY.1 hm with rfl|hm
        ·exact .inl rfl
        ·exact .inr (ih hm)
      rw[hD.flat,hfl]at this;cases this
    exact(ix i x hx j v y hv hy hrd).2.mono (fun _ h=>h.elim) (fun _ h=>h.elim) (fun _ _ h=>by simp at h)
   ·simp only[gY,ar]at hk;subst hk;exact .here
theorem L9(hD:bk D){dp:K.U->Bool}:∀(cells:List (AV K))(us:List Value)(n:Nat)(cs:List (AV K))(os:List (Ob K))(G:Nat->Nat->Prop),tf D dp n cells=some (cs,os)->cells.length=us.length->
 (∀(j:Nat) v u,cells[j]?=some v->us[j]?=some u->jv D w v u (G j))->∃(rs:List Value)(f:Nat->Nat),rs.length=os.length/\cs.length=cells.length/\(∀m m',f m=f m'->m=m')/\(∀m,m<os.length->f m<cells.length)/\
   (∀ρ0:List Value,ρ0.length=n->∀(j:Nat) v u,cs[j]?=some v->us[j]?=some u->Rep D (ρ0++rs) S w v u)/\
   ∀(m:Nat) p q,os[m]?=some p->rs[m]?=some q->(∀ρ,fp D ρ S w p q)/\∀k,bS D w p q k->G (f m) k
 |[],us,n,cs,os,G,h,hl,hok=>by
   simp only[tf,ar,aH]at h;obtain⟨rfl,rfl⟩:=h;exact⟨[],id,rfl,rfl,fun _ _ h=>h,fun m hm=>by simp at hm,fun _ _ j v u h=>by simp at h,fun m p q h=>by simp at h⟩
 |x::r,us,n,cs,os,G,h,hl,hok=>by
  cases us with
  |nil=>simp at hl
  |cons y t=>
   have hx:=hok 0 x y rfl rfl;have hok':∀(j:Nat) v u,r[j]?=some v->t[j]?=some u->jv D w v u (G (j+1)):=fun j v u hv hu=>hok (j+1) v u (by simpa using hv) (by simpa using hu)
   have hl':r.length=t.length:=by simpa using hl
   by_cases hd:x.lR=true
   ·obtain⟨c,l,rfl⟩:=F5 hd;simp only[tf]at h;split at h
    ·rename_i hc;split at h
     ·rename_i cs' os' hr;simp only[ar,aH]at h;obtain⟨rfl,rfl⟩:=h;obtain⟨rs,f,a1,a2,a3,a4,a5,a6⟩:=L9 hD r t (n+1) cs' os' (fun j=>G (j+1)) hr hl' hok';obtain⟨hT,hG⟩:=hx.kid c l rfl;refine⟨y::rs,fun m=>match m with|0=>0|m+1=>f m+1,by simp[a1],by simp[a2],fun m m' e=>?_,fun m hm=>?_,fun ρ0 h0 j v u hv hu=>?_,fun m p q hp hq=>?_⟩
      ·cases m<;>cases m'<;>simp at e<;>first|rfl|exact gW (· +1) (a3 _ _ e)
      ·cases m with
       |zero=>simp
       |succ m=>have:=a4 m (by simpa using hm);simp;exact this
      ·cases j with
       |zero=>
        simp at hv hu;subst hv;subst hu;obtain⟨a,cp,e⟩:=F6 hT;rw[e];exact .sl (by rw[cM (by omega),h0];simp[e])
       |succ j=>
        have:=a5 (ρ0++[y]) (by simp[h0]) j v u (by simpa using hv) (by simpa using hu);simpa using this
      ·cases m with
       |zero=>
        simp at hp hq;subst hp;subst hq;cases hdp:dp c
        ·rw[hdp]at hc;have hc':dy (D.cells c (K.zero c))=false:=by simpa using hc
         simp only[aT];exact⟨fun ρ=>(hT.arr hD hc').1,fun k hk=>hG k ((hT.arr (ρ:=[]) (S:=S) hD hc').2 k hk)⟩
        ·simp only[aA];exact⟨fun ρ=>hT,fun k hk=>hG k hk⟩
       |succ m=>exact a6 m p q (by simpa using hp) (by simpa using hq)
     ·cases h
    ·cases h
   ·have hd':x.lR=false:=by simpa using hd
    have e:tf D dp n (x::r)=(match tf D dp n r with
     |some (cs,os)=>some (x::cs,os)
     |none=>none):=by
     cases x<;>first|rfl|(simp[AV.lR]at hd)
    rw[e]at h;split at h
    ·rename_i cs' os' hr;simp only[ar,aH]at h;obtain⟨rfl,rfl⟩:=h;obtain⟨rs,f,a1,a2,a3,a4,a5,a6⟩:=L9 hD r t n cs' os' (fun j=>G (j+1)) hr hl' hok';refine⟨rs,fun m=>f m+1,a1,by simp[a2],fun m m' e=>a3 _ _ (by simpa using e),fun m hm=>by have:=a4 m hm;simp;exact this,fun ρ0 h0 j v u hv hu=>?_,fun m p q hp hq=>a6 m p q hp hq⟩;cases j with
     |zero=>
      simp at hv hu;subst hv;subst hu;exact(hx.flat hd').2.mono (fun _ h=>h.elim) (fun _ h=>h.elim) (fun _ _ h=>by simp at h)
     |succ j=>exact a5 ρ0 h0 j v u (by simpa using hv) (by simpa using hu)
    ·cases h
theorem ZQ{b:Nat}{vs:Array Value}{T:TypeId}{fr:Nat×Nat}(hb:w.heap[b]?=some (.cells vs T fr))(k:Nat):w.cell? ⟨b,k,none⟩=vs.toList[k]?:=by
 simp[World.cell?,hb]
theorem anE{b p n j:Nat}{vs:Array Value}{T:TypeId}{fr:Nat×Nat}(hb:w.heap[b]?=some (.cells vs T fr))(hj:j<n):w.cell? ⟨b,p+j,none⟩=(bT vs p n)[j]?:=by
 rw[ZQ hb,yR hj]
theorem anF{cx:Cx K}(hD:bk cx.D)(hs:aN cx.D ρ S w H){ev:Operand->AV K}{ρe:Operand->Value}(hev:∀x,Rep cx.D ρ S w (ev x) (ρe x)){o:Oper}{v:AV K}{H':List (Ob K)}{c:Bool}{t:List Nat}
 (h:za cx ev H o.op=some (v,H',c,t)):Does cx.D cx.P ρ S H w (execOp ρe o) v H':=by
 unfold za at h;unfold execOp;split at h
 ·rename_i T p hop;rw[hop];dsimp only;split at h
  ·split at h
   ·rename_i hh st i off ag n hp hag hn;split at h
    ·rename_i c0 l ho;split at h
     ·rename_i hcond;obtain⟨hst,hoff,hn0⟩:=hcond;subst hst;split at h
      ·rename_i cs os ZR;simp only[ar,aH]at h;obtain⟨rfl,rfl,-,-⟩:=h;have hX:=hev p;rw[hp]at hX;obtain⟨b,q,m,cp,hXe,hb,hi⟩:=o9 hX;have hT:Tree cx.D w c0 l (.slice (some ⟨b,q,none⟩) m cp):=hs.ob _ _ _ ho hb;have hfr0:∀k,jR cx.D w c0 l i off cs.length (.slice (some ⟨b,q,none⟩) m cp) k->cK cx.D w c0 l (.slice (some ⟨b,q,none⟩) m cp) k:=by
        rintro k ⟨b',q',m',cp',e,rfl|⟨i',j',x,c',l',y,-,g2,g3,g4,g5⟩⟩
        ·cases e;exact .here
        ·cases e;exact .kid g2 g3 g4 g5
       generalize hR:(Value.slice (some ⟨b,q,none⟩) m cp)=R at hT hfr0;cases hT with
       |nil=>cases hR
       | @mk _ _ b' q' cap vs TT fr hblk hcap hsz hfr hlen ix dE hself hdis=>
       cases hR;have hx0:=getD_some (K.zero c0) hi;generalize l.getD i (K.zero c0)=x0 at hx0 ZR;have hc0:(cx.D.cells c0 x0).length=K.sz c0:=hD.len _ _;have hcl:(((cx.D.cells c0 x0).drop off).take n).length=n:=by simp[hc0];omega
       have hsl:(bT vs (q+i*K.sz c0) (K.sz c0)).length=K.sz c0:=by rw[<-hlen i x0 hx0,hc0]
       have te:(((bT vs (q+i*K.sz c0) (K.sz c0)).drop off).take n).length=n:=by simp[hsl];omega
       have hcg:∀j,j<n->(((cx.D.cells c0 x0).drop off).take n)[j]?=(cx.D.cells c0 x0)[off+j]?:=fun j hj=>by rw[cP,av hj,eI]
       have Mc:∀j,j<n->(((bT vs (q+i*K.sz c0) (K.sz c0)).drop off).take n)[j]?=(bT vs (q+i*K.sz c0) (K.sz c0))[off+j]?:=fun j hj=>by rw[cP,av hj,eI]
       have hlt:∀{j:Nat}{v:AV K},(((cx.D.cells c0 x0).drop off).take n)[j]?=some v->j<n:=fun{j v} h=>by rw[<-hcl];exact(bo.1 h).1
       obtain⟨rs,f,a1,a2,a3,a4,a5,a6⟩:=L9 (S:=S) (w:=w) hD _ (((bT vs (q+i*K.sz c0) (K.sz c0)).drop off).take n) H.length cs os
        (fun j k=>∃(c':K.U)(l':List (K.El c'))(u:Value),(cx.D.cells c0 x0)[off+j]?=some (.aj c' l')/\(bT vs (q+i*K.sz c0) (K.sz c0))[off+j]?=some u/\cK cx.D w c' l' u k) ZR (by rw[hcl,te]) (fun j v u hv hu=>by
          have hj:=hlt hv;rw[hcg j hj]at hv;rw[Mc j hj]at hu;exact⟨fun hd=>ix i x0 hx0 _ _ _ hv hu hd,fun c' l' e=>by subst e;exact⟨dE i x0 hx0 _ _ _ _ hv hu,fun k hk=>⟨c',l',u,hv,hu,hk⟩⟩⟩)
       rw[hcl]at a2 a4;have hrl:=hs.len;have hG:∀j k,(∃(c':K.U)(l':List (K.El c'))(u:Value),(cx.D.cells c0 x0)[off+j]?=some (.aj c' l')/\(bT vs (q+i*K.sz c0) (K.sz c0))[off+j]?=some u/\cK cx.D w c' l' u k)->
        cK cx.D w c0 l (.slice (some ⟨b,q,none⟩) l.length cp) k:=fun j k ⟨c',l',u,g1,g2,g3⟩=>.kid hx0 g1 (seg_cell hblk g2) g3
       have hseg:∀{i' j':Nat}{x:K.El c0}{v:AV K}{u:Value},(cx.D.cells c0 x)[j']?=some v->w.cell? ⟨b,q+i'*K.sz c0+j',none⟩=some u->(bT vs (q+i'*K.sz c0) (K.sz c0))[j']?=some u:=fun{i' j' x v u} hv hu=>by
        rw[<-anE hblk (by rw[<-hD.len c0 x];exact(bo.1 hv).1)];exact hu
       have hfm:∀{m:Nat}{p:Ob K},os[m]?=some p->f m<n:=fun{m p} h=>a4 m (bo.1 h).1
       obtain⟨s1,s2⟩:=hs.split (o':=.opn c0 l i off cs) (os:=os) (rs:=rs) ho rfl hb a1
        (fun m p q h1 h2=>⟨(a6 m p q h1 h2).1 _,fun k hk=>hG _ _ ((a6 m p q h1 h2).2 k hk)⟩)
        (fun m m' p p' q q' k h1 h2 h3 h4 h5 h6=>by
          obtain⟨c1,l1,u1,g1,g2,g3⟩:=(a6 m p q h1 h2).2 k h5;obtain⟨c2,l2,u2,e1,e2,e3⟩:=(a6 m' p' q' h3 h4).2 k h6;have:=(hdis i x0 hx0 _ _ _ _ g1 g2 i x0 hx0 _ _ _ _ e1 e2 k g3 e3).2;exact a3 _ _ (by omega))
        (by
          refine⟨b,q,cp,vs,TT,fr,rfl,hblk,hcap,hsz,hfr,hi,by rw[a2];exact hoff,fun i' x hx j' v u hh hv hu=>?_,fun i1 j1 i2 j2 x1 x2 c1 l1 c2 l2 u1 u2 k _ _ b1 b2 b3 b4 b5 b6 b7 b8=>?_,fun j v hv=>?_⟩
          ·have hu':=hseg hv hu;exact⟨fun hd=>ix i' x hx _ _ _ hv hu' hd,fun c' l' e=>by subst e;exact⟨dE i' x hx _ _ _ _ hv hu',hself i' x hx _ _ _ _ hv hu'⟩⟩
          ·exact hdis i1 x1 b1 j1 c1 l1 u1 b3 (hseg b3 b5) i2 x2 b2 j2 c2 l2 u2 b4 (hseg b4 b6) k b7 b8
          ·have hj:j<n:=by rw[<-a2];exact(bo.1 hv).1
           have hu:=bZ (show j<(((bT vs (q+i*K.sz c0) (K.sz c0)).drop off).take n).length by rw[te];exact hj);refine⟨_,?_,a5 ρ hrl j v _ hv hu⟩;rw[Mc j hj]at hu;have:=seg_cell hblk hu
           rwa [<-gX]at this)
        hfr0
        (fun m p q' k h1 h2 h3 hO=>by
          obtain⟨c1,l1,u1,g1,g2,g3⟩:=(a6 m p q' h1 h2).2 k h3;obtain⟨b',q',m',cp',e,rfl|⟨i',j',x,c',l',y,hh,k2,k3,k4,k5⟩⟩:=hO
          ·cases e;exact hself i x0 hx0 _ _ _ _ g1 g2 g3
          ·cases e;obtain⟨rfl,rfl⟩:=hdis i x0 hx0 _ _ _ _ g1 g2 i' x k2 _ _ _ _ k3 (hseg k3 k4) k g3 k5;exact hh ⟨rfl,by omega,by have:=hfm h1;omega⟩)
       have hM:aS cx.D (ρ++rs) S w (List.replicate off .any++cs++List.replicate (K.sz c0-off-n) .any) (bT vs (q+i*K.sz c0) (K.sz c0)):=by
        refine⟨by simp[hsl,a2];omega,fun j v u hv hu=>?_⟩;by_cases h1:j<off
        ·rw[cH (by simp;omega),cH (by simpa using h1),il,av h1]at hv;simp at hv;subst hv;exact .any _
        ·by_cases h2:j<off+n
         ·rw[cH (by simp[a2];omega),cM (by simp;omega),gw]at hv;refine a5 ρ hrl (j-off) v u hv ?_;rw[Mc _ (by omega),show off+(j-off)=j by omega];exact hu
         ·rw[cM (by simp[a2];omega),il]at hv;split at hv
          ·simp at hv;subst hv;exact .any _
          ·cases hv
       have htk:lT cx.P T (List.replicate off .any++cs++List.replicate (K.sz c0-off-n) .any) off=some (cond ag (.agg cs) (cs.getD 0 .any)):=by
        unfold lT;rw[hag,hn];have hdr:(List.replicate off AV.any++cs++List.replicate (K.sz c0-off-n) AV.any).drop off=cs++List.replicate (K.sz c0-off-n) (AV.any:AV K):=by
         rw[iI,List.drop_append_of_le_length (by simp)];simp
        cases ag with
        |true=>
         simp only[aA];rw[av (by simp[a2]),hdr,A7 (by omega),ve (by omega)]
        |false=>
         simp only[aT];rw[iI,cM (by simp)];simp only[gw,oR];rw[cH (by omega)];rw[g9,bZ (by omega)];rfl
       obtain⟨u,hu,hr⟩:=zb (P:=cx.P) (o:=q+i*K.sz c0) (b:=b) htk (by
        intro j y hy;have:=s8 hblk (q+i*K.sz c0) (K.sz c0) j y hy;exact this) hM
       refine⟨_,u,w,ρ++rs,fb (f:=.value) ?_,.inl rfl,s1,hr,s2⟩;rw[hXe];simpa [Instr.loadAt,Instr.sureAddr]using hu
      ·cases h
     ·cases h
    ·cases h
   ·cases h
  ·cases h
 ·cases h
theorem ZS(hD:bk D)(hs:aN D ρ S w H){n0:Nat}{t:List Nat}(h:shut D H=some (H',true,t)):aN D ρ S w H'/\Step D n0 ρ S H w ρ S H' w/\H'.length=H.length:=by
 unfold shut at h;split at h
 ·simp only[ar,aH]at h;obtain⟨rfl,-,-⟩:=h;exact⟨hs,Step.refl,rfl⟩
 ·rename_i h0 _;split at h
  ·rename_i c l i off cs ho;split at h
   ·rename_i hnd;split at h
    ·rename_i xs hg;split at h
     ·rename_i y bb hdec;simp only[ar,aH]at h;obtain⟨rfl,rfl,-⟩:=h;have hlt:h0<H.length:=(bo.1 ho).1;have hr:=bZ (show h0<ρ.length by rw[hs.len];exact hlt);generalize ρ[h0]'(by rw[hs.len];exact hlt)=r at hr;obtain⟨hn1,hn2⟩:=Bl.1 (yX hnd);have hO:lS D ρ S w c l i off cs r:=hs.ob _ _ _ ho hr;obtain⟨b,o,cap,vs,T,fr,rfl,hblk,⟨hcap,dr⟩,hsz,hfr,hi,hoff,h7,h8,h9⟩:=hO;have hx0:=getD_some (K.zero c) hi;generalize l.getD i (K.zero c)=x0 at hx0 hdec;obtain⟨gl,gg⟩:=yV _ _ hg;obtain⟨dl,dd⟩:=hD.yQ _ _ _ hdec;have qN:=fun j=>anD xs (D.cells c x0) off j (by rw[hD.len];omega)
      rw[gl]at qN;have hlc:l.length*K.sz c<=cap*K.sz c:=dt _ hcap;have F9:∀(i' j:Nat) u,((vs.toList.drop o).take (l.length*K.sz c))[i'*K.sz c+j]?=some u->w.cell? ⟨b,o+i'*K.sz c+j,none⟩=some u:=fun i' j u hu=>by
       rw[cP]at hu;split at hu
       ·rw[eI]at hu;rw[ZQ hblk,gX];exact hu
       ·cases hu
      have vJ:∀k,jR D w c l i off cs.length (.slice (some ⟨b,o,none⟩) l.length cap) k->∀v,qJ D w ρ H v k->∀j,cs[j]?=some v->False:=fun k hk v ⟨h',o',r',e,ho',hl',hr',hf'⟩ j hj=>by
       subst e;have:=hs.dL _ _ _ _ _ _ _ ho rfl hr hk ho' hl' hr' hf';subst this;exact hn1 (yY hj)
      let F:Nat->Nat->Nat->Prop:=fun i' j k=>(nj i off cs.length i' j/\∃v,cs[j-off]?=some v/\qJ D w ρ H v k)\/
          (¬nj i off cs.length i' j/\∃(x:K.El c)(c':K.U)(l':List (K.El c'))(u:Value),l[i']?=some x/\(D.cells c x)[j]?=some (.aj c' l')/\w.cell? ⟨b,o+i'*K.sz c+j,none⟩=some u/\cK D w c' l' u k)
      have R:Row D w c (l.set i y) ((vs.toList.drop o).take (l.length*K.sz c)) F:=by
       refine⟨by simp;omega,fun i' x hx j v u hv hu=>?_,?_⟩
       ·have hu':=F9 i' j u hu;have hj:j<K.sz c:=by rw[<-hD.len c x];exact(bo.1 hv).1
        have out:∀{x1:K.El c},¬nj i off cs.length i' j->l[i']?=some x1->(D.cells c x1)[j]?=some v->jv D w v u (F i' j):=fun{x1} hh hx1 hv1=>by
         obtain⟨k1,k2⟩:=h7 i' x1 hx1 j v u hh hv1 hu';exact(jv.mk (G:=fun k=>∃(c':K.U)(l':List (K.El c')),v=.aj c' l'/\cK D w c' l' u k) k1 fun c' l' e=>⟨(k2 c' l' e).1,fun k hk=>⟨c',l',e,hk⟩⟩).mono fun k ⟨c',l',e,hk⟩=>.inr ⟨hh,x1,c',l',u,hx1,by rw[hv1,e],hu',hk⟩
        rcases dV hx with⟨rfl,rfl,-⟩|⟨hne,hx⟩
        ·by_cases hh:off<=j/\j<off+cs.length
         ·have hjn:j-off<cs.length:=by omega
          have ni:=bZ hjn;obtain⟨v',hv',hgc⟩:=gg _ _ ni;obtain⟨u',ZT,Md⟩:=h9 _ _ ni;have hidx:o+i'*K.sz c+off+(j-off)=o+i'*K.sz c+j:=by omega
          rw[hidx,hu']at ZT;cases ZT;obtain⟨k1,k2⟩:=FY hD hs hgc Md;have hg2:=qN j;rw[av (by omega),hv']at hg2;rcases dd j _ v hg2 hv with rfl|⟨rfl,c',rfl⟩
          ·exact k1.mono fun k hk=>.inl ⟨⟨rfl,hh⟩,_,ni,hk⟩
          ·rw[k2 rfl];refine⟨fun e=>(by cases e),fun c l e=>?_⟩;cases e;exact⟨.nil,fun k hk=>by cases hk⟩
         ·have hg2:=qN j;rw[an (by omega)]at hg2;have ha:=bZ (show j<(D.cells c x0).length by rw[hD.len];exact hj);have hv0:(D.cells c x0)[j]?=some v:=by
           rw[ha]at hg2;rcases dd j _ _ hg2 hv with e|⟨e,-⟩
           ·rw[ha,e]
           ·exact absurd e (hD.kinds c _ j _ ha).1
          exact out (fun h=>hh h.2) hx0 hv0
        ·exact out (fun h=>hne h.1) hx hv
       ·rintro i1 j1 i2 j2 k (⟨a1,v1,a2,a3⟩|⟨a1,x1,c1,l1,u1,a2,a3,a4,a5⟩) (⟨e1,v2,e2,e3⟩|⟨e1,x2,c2,l2,u2,e2,e3,e4,e5⟩)
        ·obtain⟨h1,o1,r1,q1,q2,q3,q4,q5⟩:=a3;obtain⟨h2,o2,r2,p1,p2,p3,p4,p5⟩:=e3;subst q1;subst p1;have:=hs.dL _ _ _ _ _ _ _ q2 q3 q4 q5 p2 p3 p4 p5;subst this;have:=BB hn2 a2 e2;obtain⟨rfl,b1,b2⟩:=a1;obtain⟨rfl,d1,d2⟩:=e1;exact⟨rfl,by omega⟩
        ·exact(vJ k ⟨b,o,_,cap,rfl,.inr ⟨i2,j2,x2,c2,l2,u2,e1,e2,e3,e4,e5⟩⟩ v1 a3 _ a2).elim
        ·exact(vJ k ⟨b,o,_,cap,rfl,.inr ⟨i1,j1,x1,c1,l1,u1,a1,a2,a3,a4,a5⟩⟩ v2 e3 _ e2).elim
        ·exact h8 i1 j1 i2 j2 x1 x2 c1 l1 c2 l2 u1 u2 k a1 e1 a2 e2 a3 e3 a4 e4 a5 e5
      obtain⟨T1,T2⟩:=R.tree hD hblk (o:=o) (cap:=cap) ⟨by simpa using hcap,dr⟩ hsz hfr (fun k hk=>by
       rw[mg]at hk;rw[cP,av hk,eI]) (fun i' j hF=>by
       rcases hF with⟨-,v,a2,a3⟩|⟨a1,x1,c1,l1,u1,a2,a3,a4,a5⟩
       ·exact vJ b ⟨b,o,_,cap,rfl,.inl rfl⟩ v a3 _ a2
       ·exact((h7 i' x1 a2 j _ u1 a1 a3 a4).2 c1 l1 rfl).2 a5)
      rw[mg]at T1 T2;have hKF:∀k,cK D w c (l.set i y) (.slice (some ⟨b,o,none⟩) l.length cap) k->fC D w ρ H (h0::bp cs) k:=fun k hk=>by
       rcases T2 k hk with e|⟨i',j,-,⟨-,v,a2,h',o',r',e,q2,q3,q4,q5⟩|⟨a1,x1,c1,l1,u1,a2,a3,a4,a5⟩⟩
       ·exact⟨h0,_,_,by simp,ho,rfl,hr,b,o,_,cap,rfl,.inl e⟩
       ·subst e;exact⟨h',o',r',dY.2 (.inr (yY a2)),q2,q3,q4,q5⟩
       ·exact⟨h0,_,_,by simp,ho,rfl,hr,b,o,_,cap,rfl,.inr ⟨i',j,x1,c1,l1,u1,a1,a2,a3,a4,a5⟩⟩
      have hs1:=FW (h0::bp cs) hs;have hd:(eu H (h0::bp cs))[h0]?=some .dead:=by
       have hg:=bZ (show h0<(eu H (h0::bp cs)).length by rw[yT];exact hlt);rcases FV _ _ _ _ hg with e|⟨hn,-⟩
       ·rw[hg,e]
       ·exact absurd (by simp) hn
      refine⟨hs1.LU hd hr T1 fun k hk=>⟨(hs.lt k (hKF k hk).own).1,(hs.lt k (hKF k hk).own).2,fun hO=>(hKF k hk).Bz hs hO⟩,
       ⟨rfl,rfl,rfl,bg _,fun _ _ _=>rfl,fun k hk=>.inl ?_,fun _ h=>h,fun _ h=>.inl h,fun _ _=>rfl⟩,by simp[yT]⟩
      obtain⟨k',o',r',g1,g2,g3,g4⟩:=hk;rcases dV g1 with⟨rfl,rfl,-⟩|⟨-,g1⟩
      ·rw[hr]at g3;simp at g3;subst g3;exact(hKF k g4).own
      ·exact LS ⟨k',o',r',g1,g2,g3,g4⟩
     ·cases h
    ·cases h
   ·cases h
  ·cases h
theorem anH{cx:Cx K}(hD:bk cx.D)(hc:aD cx)(hs:aN cx.D ρ S w H){q:Bool}{f:FuncId}{args:List (AV K)}{vals:List Value}{v:AV K}{H':List (Ob K)}{t:List Nat}
 (h:zc q cx H f args=some (v,H',true,t)) (ha:aS cx.D ρ S w args vals):
 qs cx.P f/\Calls cx.P f vals.toArray w fun e w'=>∃u ρ' S',e=.returned u/\aN cx.D ρ' S' w' H'/\Rep cx.D ρ' S' w' v u/\Step cx.D H.length ρ S H w ρ' S' H' w':=by
 unfold zc at h;split at h
 ·split at h
  ·rename_i r H1 c1 t1 hcall;split at h
   ·rename_i H2 b t2 hsh;simp only[ar,aH,aZ]at h;obtain⟨rfl,rfl,⟨rfl,rfl⟩,-⟩:=h;obtain⟨k1,k2⟩:=Zv hD hc hs hcall ha;refine⟨k1,k2.mono ?_⟩
    rintro e w' ⟨u,ρ',S',rfl,g1,g2,g3⟩
    obtain⟨s1,s2,-⟩:=ZS (n0:=H.length) hD g1 hsh;exact⟨u,ρ',S',rfl,s1,g2,g3.trans s2⟩
   ·cases h
  ·cases h
 ·exact Zv hD hc hs h ha
end Go.V
