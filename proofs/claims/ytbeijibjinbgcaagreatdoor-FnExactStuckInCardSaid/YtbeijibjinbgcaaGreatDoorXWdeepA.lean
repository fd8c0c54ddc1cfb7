/-
  DEEP OBJECTS: rows of elements whose slices are deep objects; how such a row is put together, taken apart, turned.
-/
import Derived.Test.YtbeijibjinbgcaaGreatDoorXWcallA
set_option linter.unusedVariables false
namespace Go.V
open Go
variable {K :cA}{D:bj K}{ρ ρ':List Value}{S S':Nat->Prop}{w w':World}{H H':List (Ob K)}
structure ij (D:bj K) (w:World) (v:AV K) (u:Value) (G:Nat->Prop):Prop where
 flat:v.jP=false->ga v=false/\Rep D [] (fun _=>False) w v u
 kid:∀(c:K.U)(l:List (K.El c)),v=.ah c l->Tree D w c l u/\∀k,cK D w c l u k->G k
theorem ij.mono{v:AV K}{u:Value}{G G':Nat->Prop}(h:ij D w v u G)(hG:∀k,G k->G' k):ij D w v u G':=
 ⟨h.flat,fun c l e=>⟨(h.kid c l e).1,fun k hk=>hG k ((h.kid c l e).2 k hk)⟩⟩
theorem ij.world{v:AV K}{u:Value}{G:Nat->Prop}(h:ij D w v u G)(hw:∀k,G k->w'.heap[k]?=w.heap[k]?):ij D w' v u G:=
 ⟨fun hv=>⟨(h.flat hv).1,(h.flat hv).2.mono (fun _ h=>h) (fun _ h=>h.elim) (fun _ _ h=>h)⟩,fun c l e=>by
   obtain⟨h1,h2⟩:=h.kid c l e;have hk:∀k,cK D w c l u k->w'.heap[k]?=w.heap[k]?:=fun k hk=>hw k (h2 k hk)
   exact⟨h1.mono hk,fun k hk'=>h2 k (hk'.old hk)⟩⟩
structure Row (D:bj K) (w:World) (c:K.U) (l:List (K.El c)) (us:List Value) (F:Nat->Nat->Nat->Prop):Prop where
 len:us.length=l.length*K.sz c
 cell:∀i x,l[i]?=some x->∀(j:Nat) v u,(D.cells c x)[j]?=some v->us[i*K.sz c+j]?=some u->ij D w v u (F i j)
 yK:∀i j i2 j2 k,F i j k->F i2 j2 k->i=i2/\j=j2
theorem Row.world{c:K.U}{l:List (K.El c)}{us:List Value}{F:Nat->Nat->Nat->Prop}(h:Row D w c l us F)(hw:∀i j k,F i j k->w'.heap[k]?=w.heap[k]?):Row D w' c l us F:=
 ⟨h.len,fun i x hx j v u hv hu=>(h.cell i x hx j v u hv hu).world (hw i j),h.yK⟩
theorem wb{vs:Array Value}{p n j:Nat}(h:j<n):(bR vs p n)[j]?=vs.toList[p+j]?:=by
 simp only[bR,ca,dC,aF h]
theorem wc{i j n sz:Nat}(hi:i<n)(hj:j<sz):i*sz+j<n*sz:=by
 have:(i+1)*sz<=n*sz:=bT _ hi;rw[dh,fH]at this;omega
theorem Row.tree(hD:bo D){c:K.U}{l:List (K.El c)}{us:List Value}{F:Nat->Nat->Nat->Prop}(R:Row D w c l us F){b o cap:Nat}{vs:Array Value}{T:TypeId}{fr:Nat×Nat}(hb:w.heap[b]?=some (.cells vs T fr))(hcap:l.length<=cap/\fC D c T o)
 (hsz:o+cap*K.sz c<=vs.size) (hfr:∀k,o<=k->k<o+cap*K.sz c->¬(fr.1<=k/\k<fr.2)) (hus:∀k,k<l.length*K.sz c->vs.toList[o+k]?=us[k]?) (hF:∀i j,¬F i j b):
 Tree D w c l (.slice (some ⟨b,o,none⟩) l.length cap)/\∀k,cK D w c l (.slice (some ⟨b,o,none⟩) l.length cap) k->k=b\/∃i j,i<l.length/\F i j k:=by
 have hlc:l.length*K.sz c<=cap*K.sz c:=bT _ hcap.1;have key:∀i x,l[i]?=some x->∀(j:Nat) v u,(D.cells c x)[j]?=some v->(bR vs (o+i*K.sz c) (K.sz c))[j]?=some u->ij D w v u (F i j):=fun i x hx j v u hv hu=>by
  have hj:j<K.sz c:=by rw[<-hD.len c x];exact(bB.1 hv).1
  have hi:=(bB.1 hx).1;rw[wb hj,jH,hus _ (wc hi hj)]at hu;exact R.cell i x hx j v u hv hu
 refine⟨.mk hb hcap hsz hfr (fun i x hx=>?_) (fun i x hx j v y hv hy hd=>(key i x hx j v y hv hy).flat hd) (fun i x hx j c' l' y hj hy=>((key i x hx j _ y hj hy).kid c' l' rfl).1)
  (fun i x hx j c' l' y hj hy hf=>hF i j (((key i x hx j _ y hj hy).kid c' l' rfl).2 _ hf))
  (fun i x hx j c' l' y hj hy i2 x2 hx2 j2 c2 l2 y2 hj2 hy2 k h1 h2=>R.yK i j i2 j2 k (((key i x hx j _ y hj hy).kid c' l' rfl).2 _ h1) (((key i2 x2 hx2 j2 _ y2 hj2 hy2).kid c2 l2 rfl).2 _ h2)),fun k hk=>?_⟩
 ·rw[hD.len];have hi:=(bB.1 hx).1;have:(i+1)*K.sz c<=l.length*K.sz c:=bT _ hi;rw[dh,fH]at this;simp[bR];omega
 ·cases hk with
  |here=>exact .inl rfl
  | @kid _ _ _ _ _ _ i j _ x c' l' y hx hj hy hk=>
    have hj':j<K.sz c:=by rw[<-hD.len c x];exact(bB.1 hj).1
    have hi:=(bB.1 hx).1;have hlt:=wc hi hj';have hs:(bR vs (o+i*K.sz c) (K.sz c))[j]?=some y:=by
     rw[wb hj'];simp only[World.cell?,hb]at hy;simpa using hy
    exact .inr ⟨i,j,hi,((key i x hx j _ y hj hs).kid c' l' rfl).2 k hk⟩
theorem Tree.row(hD:bo D){c:K.U}{l:List (K.El c)}{r:Value}(h:Tree D w c l r):(r=.slice none 0 0/\l=[])\/∃b o cap vs T fr us F,r=.slice (some ⟨b,o,none⟩) l.length cap/\w.heap[b]?=some (.cells vs T fr)/\(l.length<=cap/\fC D c T o)/\o+cap*K.sz c<=vs.size/\
 (∀k,o<=k->k<o+cap*K.sz c->¬(fr.1<=k/\k<fr.2))/\(∀k,k<l.length*K.sz c->vs.toList[o+k]?=us[k]?)/\Row D w c l us F/\(∀i j,¬F i j b)/\∀i j k,F i j k->cK D w c l r k:=by
 cases h with
 |nil=>exact .inl ⟨rfl,rfl⟩
 | @mk _ _ b o cap vs T fr hb hcap hsz hfr hlen fZ jQ hself hdis=>
   have hlc:l.length*K.sz c<=cap*K.sz c:=bT _ hcap.1;have hus:∀k,k<l.length*K.sz c->vs.toList[o+k]?=((vs.toList.drop o).take (l.length*K.sz c))[k]?:=fun k hk=>by
    simp only[ca,dC,aF hk]
   have hseg:∀{i j:Nat}{x:K.El c}{v:AV K}{u:Value},l[i]?=some x->(D.cells c x)[j]?=some v->((vs.toList.drop o).take (l.length*K.sz c))[i*K.sz c+j]?=some u->(bR vs (o+i*K.sz c) (K.sz c))[j]?=some u:=fun{i j x v u} hx hv hu=>by
    have hj:j<K.sz c:=by rw[<-hD.len c x];exact(bB.1 hv).1
    have hi:=(bB.1 hx).1;rw[<-hus _ (wc hi hj),<-jH]at hu;rw[wb hj];exact hu
   refine .inr ⟨b,o,cap,vs,T,fr,_,fun i j k=>∃x c' l' u,l[i]?=some x/\(D.cells c x)[j]?=some (.ah c' l')/\(bR vs (o+i*K.sz c) (K.sz c))[j]?=some u/\cK D w c' l' u k,rfl,hb,hcap,hsz,hfr,hus,⟨?_,?_,?_⟩,?_,?_⟩
   ·simp;omega
   ·intro i x hx j v u hv hu;have hs:=hseg hx hv hu;exact⟨fun hd=>fZ i x hx j v u hv hs hd,fun c' l' e=>by subst e;exact⟨jQ i x hx j c' l' u hv hs,fun k hk=>⟨x,c',l',u,hx,hv,hs,hk⟩⟩⟩
   ·rintro i j i2 j2 k ⟨x,c',l',u,h1,h2,h3,h4⟩ ⟨x2,c2,l2,u2,g1,g2,g3,g4⟩
    exact hdis i x h1 j c' l' u h2 h3 i2 x2 g1 j2 c2 l2 u2 g2 g3 k h4 g4
   ·rintro i j ⟨x,c',l',u,h1,h2,h3,h4⟩
    exact hself i x h1 j c' l' u h2 h3 h4
   ·rintro i j k ⟨x,c',l',u,h1,h2,h3,h4⟩
    exact .kid h1 h2 (seg_cell hb h3) h4
theorem Row.append(hD:bo D){c:K.U}{l1 l2:List (K.El c)}{Vp Vq:List Value}{F1 F2:Nat->Nat->Nat->Prop}(R1:Row D w c l1 Vp F1)(R2:Row D w c l2 Vq F2)(hd:∀i j i2 j2 k,F1 i j k->F2 i2 j2 k->False):
 Row D w c (l1++l2) (Vp++Vq) (fun i j k=>(i<l1.length/\F1 i j k)\/(l1.length<=i/\F2 (i-l1.length) j k)):=by
 refine⟨by rw[dA,R1.len,R2.len,dA,dh],fun i x hx j v u hv hu=>?_,?_⟩
 ·have hj:j<K.sz c:=by rw[<-hD.len c x];exact(bB.1 hv).1
  by_cases hi:i<l1.length
  ·rw[cD hi]at hx;have:=wc hi hj;rw[cD (by rw[R1.len];exact this)]at hu;exact(R1.cell i x hx j v u hv hu).mono fun k hk=>.inl ⟨hi,hk⟩
  ·rw[cO (by omega)]at hx;have h1:l1.length*K.sz c<=i*K.sz c:=bT _ (by omega);have h2:i*K.sz c+j-l1.length*K.sz c=(i-l1.length)*K.sz c+j:=by rw[Nat.sub_mul];omega
   rw[cO (by rw[R1.len];omega),R1.len,h2]at hu;exact(R2.cell _ x hx j v u hv hu).mono fun k hk=>.inr ⟨by omega,hk⟩
 ·rintro i j i2 j2 k (⟨h1,h2⟩|⟨h1,h2⟩) (⟨g1,g2⟩|⟨g1,g2⟩)
  ·exact R1.yK _ _ _ _ _ h2 g2
  ·exact(hd _ _ _ _ _ h2 g2).elim
  ·exact(hd _ _ _ _ _ g2 h2).elim
  ·have:=R2.yK _ _ _ _ _ h2 g2;exact⟨by omega,this.2⟩
theorem Row.set(hD:bo D){c:K.U}{l:List (K.El c)}{us:List Value}{F:Nat->Nat->Nat->Prop}(R:Row D w c l us F){i off:Nat}{x0 y:K.El c}{xs:List Value}{G:Nat->Nat->Prop}(hx0:l[i]?=some x0)(hoff:off+xs.length<=K.sz c)
 (hout:∀j,(j<off\/off+xs.length<=j)->(D.cells c y)[j]?=(D.cells c x0)[j]?) (hin:∀j v u,(D.cells c y)[off+j]?=some v->xs[j]?=some u->ij D w v u (G j)) (hG:∀j j2 k,G j k->G j2 k->j=j2) (hGF:∀j i2 j2 k,G j k->¬F i2 j2 k):
 Row D w c (l.set i y) (eY us (i*K.sz c+off) xs) (fun i2 j k=>(i2=i/\off<=j/\j<off+xs.length/\G (j-off) k)\/(¬(i2=i/\off<=j/\j<off+xs.length)/\F i2 j k)):=by
 have hi:=(bB.1 hx0).1;have hmul:(i+1)*K.sz c<=l.length*K.sz c:=bT _ hi;rw[dh,fH]at hmul;refine⟨by rw[jX,R.len,f0],fun i2 x hx j v u hv hu=>?_,?_⟩
 ·have hj:j<K.sz c:=by rw[<-hD.len c x];exact(bB.1 hv).1
  rw[jb _ _ _ _ (by rw[R.len];omega)]at hu;rcases dF hx with⟨rfl,rfl,-⟩|⟨hne,hx⟩
  ·by_cases hc:off<=j/\j<off+xs.length
   ·rw[aF (by omega)]at hu;have e1:i2*K.sz c+j-(i2*K.sz c+off)=j-off:=by omega
    rw[e1]at hu;have e2:off+(j-off)=j:=by omega
    exact(hin (j-off) v u (by rw[e2];exact hv) hu).mono fun k hk=>.inl ⟨rfl,hc.1,hc.2,hk⟩
   ·rw[bF (by omega)]at hu;rw[hout j (by omega)]at hv;exact(R.cell i2 x0 hx0 j v u hv hu).mono fun k hk=>.inr ⟨fun h=>hc ⟨h.2.1,h.2.2⟩,hk⟩
  ·rw[bF ?_]at hu
   ·exact(R.cell i2 x hx j v u hv hu).mono fun k hk=>.inr ⟨fun h=>hne h.1,hk⟩
   ·rcases fY i2 i with h|h
    ·have:(i2+1)*K.sz c<=i*K.sz c:=bT _ (by omega);rw[dh,fH]at this;omega
    ·have:(i+1)*K.sz c<=i2*K.sz c:=bT _ (by omega);rw[dh,fH]at this;omega
 ·rintro i1 j1 i2 j2 k (⟨h1,h2,h3,h4⟩|⟨h1,h2⟩) (⟨g1,g2,g3,g4⟩|⟨g1,g2⟩)
  ·have:=hG _ _ _ h4 g4;exact⟨by omega,by omega⟩
  ·exact(hGF _ _ _ _ h4 g2).elim
  ·exact(hGF _ _ _ _ g4 h2).elim
  ·exact R.yK _ _ _ _ _ h2 g2
end Go.V
namespace Go.V
open Go
variable {K :cA}{D:bj K}{ρ ρ':List Value}{S S':Nat->Prop}{w w':World}{H H':List (Ob K)}
theorem wd:∀(ks:List Nat)(H:List (Ob K)),(dO H ks).length=H.length
 |[],H=>rfl
 |h::r,H=>by rw[dO,wd r];simp
theorem Cb:∀(ks:List Nat)(H:List (Ob K))(k:Nat)(o:Ob K),(dO H ks)[k]?=some o->o=.dead\/(k∉ks/\H[k]?=some o)
 |[],H,k,o,h=>.inr ⟨by simp,h⟩
 |x::r,H,k,o,h=>by
  rcases Cb r _ k o h with h|⟨h1,h2⟩
  ·exact .inl h
  ·rcases dF h2 with⟨-,rfl,-⟩|⟨hne,h2⟩
   ·exact .inl rfl
   ·exact .inr ⟨by simp[hne,h1],h2⟩
theorem Cc:∀(ks:List Nat){H:List (Ob K)},aS D ρ S w H->aS D ρ S w (dO H ks)
 |[],H,hs=>hs
 |h::r,H,hs=>Cc r (hs.kill h)
theorem Vr{ks:List Nat}{b:Nat}(hb:Own D w ρ (dO H ks) b):∃(h:Nat)(o:Ob K)(r:Value),h∉ks/\H[h]?=some o/\o.live=true/\ρ[h]?=some r/\bS D w o r b:=by
 obtain⟨h,o,r,h1,h2,h3,h4⟩:=hb;rcases Cb ks H h o h1 with rfl|⟨g1,g2⟩
 ·cases h2
 ·exact⟨h,o,r,g1,g2,h2,h3,h4⟩
def eZ(D:bj K)(w:World)(ρ:List Value)(H:List (Ob K))(ks:List Nat)(b:Nat):Prop:=∃(h:Nat)(o:Ob K)(r:Value),h∈ks/\H[h]?=some o/\o.live=true/\ρ[h]?=some r/\bS D w o r b
theorem eZ.own{ks:List Nat}{b:Nat}(h:eZ D w ρ H ks b):Own D w ρ H b:=by
 obtain⟨h,o,r,-,h1,h2,h3,h4⟩:=h;exact⟨h,o,r,h1,h2,h3,h4⟩
theorem eZ.yL(hs:aS D ρ S w H){ks:List Nat}{b:Nat}(h:eZ D w ρ H ks b):¬Own D w ρ (dO H ks) b:=fun hb=>by
 obtain⟨k,o,r,h0,h1,h2,h3,h4⟩:=h;obtain⟨k',o',r',g0,g1,g2,g3,g4⟩:=Vr hb;have:=hs.dx k k' o o' r r' b h1 h2 h3 h4 g1 g2 g3 g4;subst this;exact g0 h0
theorem Is{ks:List Nat}{b:Nat}(hb:Own D w ρ (dO H ks) b):Own D w ρ H b:=by
 obtain⟨h,o,r,-,h1,h2,h3,h4⟩:=Vr hb;exact⟨h,o,r,h1,h2,h3,h4⟩
theorem yM{P:Program}(hs:aS D ρ S w H){ks:List Nat}{c:K.U}{l:List (K.El c)}{a:Option Addr}{n cp:Nat}{s:Sem Next}(hrun:s.run P w=.ok (.value (.slice a n cp)) w')
 (hsz:w.heap.size<=w'.heap.size) (hold:∀k,k<w.heap.size->¬eZ D w ρ H ks k->w'.heap[k]?=w.heap[k]?) (e1:w'.os=w.os) (e2:w'.tape=w.tape) (e3:w'.output=w.output)
 (hT:Tree D w' c l (.slice a n cp)) (hf:∀k,cK D w' c l (.slice a n cp) k->eZ D w ρ H ks k\/w.heap.size<=k):Does D P ρ S H w s (.sl H.length) (dO H ks++[.tree c l]):=by
 have hs1:=Cc ks hs;have hk1:∀k,Own D w ρ (dO H ks) k->w'.heap[k]?=w.heap[k]?:=fun k hk=>hold k (hs1.lt k hk).1 fun h=>h.yL hs hk
 have hS:∀k,S k->w'.heap[k]?=w.heap[k]?:=fun k hk=>hold k (hs.slt k hk) fun h=>(hs.lt k h.own).2 hk
 have hs2:aS D ρ S w' (dO H ks):=hs1.world hsz hk1 hS;have hlen:(dO H ks).length=H.length:=wd ks H;refine⟨_,_,w',ρ++[.slice a n cp],hrun,.inl rfl,hs2.push (o:=.tree c l) (r:=.slice a n cp) hT (fun k _ hk=>⟨hT.lt hk,fun Cd=>?_,fun hO=>?_⟩),.sl ?_,⟨e1,e2,e3,hsz,fun k hk hno=>hold k hk fun h=>hno h.own,fun k hk=>?_,fun _ h=>h,fun _ h=>.inl h,fun k hk=>?_⟩⟩
 ·rcases hf k hk with h|h
  ·exact(hs.lt k h.own).2 Cd
  ·have:=hs.slt k Cd;omega
 ·have Vs:=hO.old hk1;rcases hf k hk with h|h
  ·exact h.yL hs Vs
  ·have:=(hs1.lt k Vs).1;omega
 ·rw[cO (by rw[hs.len];exact cH _)];simp[hs.len]
 ·rcases we (by rw[hs.len,hlen]) hk with h|⟨-,h⟩
  ·exact .inl (Is (h.old hk1))
  ·rcases hf k h with h|h
   ·exact .inl h.own
   ·exact .inr h
 ·rw[cD (by rw[hs.len];exact hk)]
theorem Vt{P:Program}(hs:aS D ρ S w H){h:Nat}{ks:List Nat}{o:Ob K}{r:Value}{c:K.U}{l':List (K.El c)}{s:Sem Next}(ho:H[h]?=some o)(hl:o.live=true)(hr:ρ[h]?=some r)(hrun:s.run P w=.ok .skip w')
 (hsz:w'.heap.size=w.heap.size) (hold:∀k,¬eZ D w ρ H (h::ks) k->w'.heap[k]?=w.heap[k]?) (e1:w'.os=w.os) (e2:w'.tape=w.tape) (e3:w'.output=w.output)
 (hT:Tree D w' c l' r) (hf:∀k,cK D w' c l' r k->eZ D w ρ H (h::ks) k):Does D P ρ S H w s .any ((dO H (h::ks)).set h (.tree c l')):=by
 have hs1:=Cc (h::ks) hs;have hk1:∀k,Own D w ρ (dO H (h::ks)) k->w'.heap[k]?=w.heap[k]?:=fun k hk=>hold k fun h=>h.yL hs hk
 have hS:∀k,S k->w'.heap[k]?=w.heap[k]?:=fun k hk=>hold k fun h=>(hs.lt k h.own).2 hk
 have hs2:aS D ρ S w' (dO H (h::ks)):=hs1.world (by omega) hk1 hS;have hlt:h<H.length:=(bB.1 ho).1;have hd:(dO H (h::ks))[h]?=some .dead:=by
  have hlt':h<(dO H (h::ks)).length:=by rw[wd];exact hlt
  have hg:=bW hlt';rcases Cb _ _ _ _ hg with e|⟨hn,-⟩
  ·rw[hg,e]
  ·exact absurd (by simp) hn
 refine⟨.skip,undef,w',ρ,hrun,.inr ⟨rfl,rfl⟩,hs2.It hd hr hT fun k hk=>⟨hT.lt hk,fun Cd=>(hs.lt k (hf k hk).own).2 Cd,fun hO=>(hf k hk).yL hs (hO.old hk1)⟩,.any _,⟨e1,e2,e3,by omega,fun k hk hno=>hold k fun h=>hno h.own,fun k hk=>?_,fun _ h=>h,fun _ h=>.inl h,fun k hk=>rfl⟩⟩;obtain⟨k',o',r',g1,g2,g3,g4⟩:=hk;rcases dF g1 with⟨rfl,rfl,-⟩|⟨-,g1⟩
 ·rw[hr]at g3;simp at g3;subst g3;exact .inl (hf k g4).own
 ·exact .inl (Is (Own.old (H:=dO H (h::ks)) ⟨k',o',r',g1,g2,g3,g4⟩ hk1))
def nz(D:bj K)(w:World)(ρ:List Value)(H:List (Ob K))(v:AV K)(k:Nat):Prop:=∃(h:Nat)(o:Ob K)(r:Value),v=.sl h/\H[h]?=some o/\o.live=true/\ρ[h]?=some r/\bS D w o r k
theorem Ce(hD:bo D)(hs:aS D ρ S w H){v v':AV K}{u:Value}(h:Cf D H v=some v')(hr:Rep D ρ S w v u):ij D w v' u (nz D w ρ H v)/\(v'=.cF->u=.slice none 0 0):=by
 unfold Cf at h;split at h
 ·rename_i h0;obtain⟨hp,a,n,cp,rfl⟩:=iI hr;split at h
  ·rename_i c l ho;split at h
   ·cases h
   ·rename_i hfl;simp only[av]at h;subst h;simp only[qH]at hfl;refine⟨⟨fun e=>(by cases e),fun c' l' e=>?_⟩,fun e=>by cases e⟩;cases e;have Ci:∀x (j:Nat) c' l',(D.cells c x)[j]?≠some (.ah c' l'):=fun x j c' l' hj=>by
     have:dn (D.cells c x)=true:=by
      have hm:=fN hj;generalize D.cells c x=L at hm
      induction L with
      |nil=>cases hm
      |cons a r ih=>
       simp only[dn,fU];rcases gC.1 hm with rfl|hm
       ·exact .inl rfl
       ·exact .inr (ih hm)
     rw[hD.flat]at this;rw[this]at hfl;cases hfl
    rcases sd hs ho hp with⟨e,rfl⟩|⟨b,o,cap,vs,T,fr,e,hblk,⟨hcap,dw⟩,hsz,hfr,hall⟩
    ·cases e;exact⟨.nil,fun k hk=>by cases hk⟩
    ·cases e;refine⟨.mk hblk ⟨hcap,dw⟩ hsz hfr (fun i x hx=>(hall i x hx).1) (fun i x hx j v y hv hy hd=>⟨(hD.kinds c x j v hv).2 hd,H7 v y (so (hD.closed c x) hv) ((hD.kinds c x j v hv).2 hd) ((hall i x hx).2 j v y hv hy)⟩)
      (fun i x hx j c' l' y hj=>absurd hj (Ci x j c' l')) (fun i x hx j c' l' y hj=>absurd hj (Ci x j c' l')) (fun i x hx j c' l' y hj=>absurd hj (Ci x j c' l')),fun k hk=>?_⟩
     cases hk with
     |here=>exact⟨h0,_,_,rfl,ho,rfl,hp,rfl⟩
     |kid hx hj hy hk=>exact absurd hj (Ci _ _ _ _)
  ·rename_i c l ho;simp only[av]at h;subst h;refine⟨⟨fun e=>(by cases e),fun c' l' e=>?_⟩,fun e=>by cases e⟩;cases e;exact⟨hs.ob _ _ _ ho hp,fun k hk=>⟨h0,_,_,rfl,ho,rfl,hp,hk⟩⟩
  ·cases h
 ·simp only[av]at h;subst h;have hu:u=.slice none 0 0:=by cases hr;rfl
  exact⟨⟨fun _=>⟨rfl,by rw[hu];exact .cF⟩,fun c l e=>by cases e⟩,fun _=>hu⟩
 ·simp only[av]at h;subst h;exact⟨⟨fun _=>⟨rfl,by rw[ei hr];exact .int _ _⟩,fun c l e=>by cases e⟩,fun e=>by cases e⟩
 ·simp only[av]at h;subst h;exact⟨⟨fun _=>⟨rfl,by rw[iW hr];exact .bool _⟩,fun c l e=>by cases e⟩,fun e=>by cases e⟩
 ·simp only[av]at h;subst h;exact⟨⟨fun _=>⟨rfl,by rw[iu hr];exact .str _⟩,fun c l e=>by cases e⟩,fun e=>by cases e⟩
 ·simp only[av]at h;subst h;have hu:u=.pointer none:=by cases hr;rfl
  exact⟨⟨fun _=>⟨rfl,by rw[hu];exact .cG⟩,fun c l e=>by cases e⟩,fun e=>by cases e⟩
 ·cases h
theorem wh:∀(l l':List (AV K)),jo D H l=some l'->l'.length=l.length/\∀(j:Nat) v,l[j]?=some v->∃v',l'[j]?=some v'/\Cf D H v=some v'
 |[],l',h=>by simp[jo]at h;subst h;exact⟨rfl,fun j v h=>by simp at h⟩
 |x::r,l',h=>by
  simp only[jo]at h;split at h
  ·rename_i y s hy hs;simp only[av]at h;subst h;obtain⟨g1,g2⟩:=wh r s hs;refine⟨by simp[g1],fun j v hv=>?_⟩;cases j with
   |zero=>simp at hv;subst hv;exact⟨y,rfl,hy⟩
   |succ j=>simpa using g2 j v (by simpa using hv)
  ·cases h
theorem Vu:∀(l l':List (AV K)),wi D H l=some l'->l'.length=l.length/\∀(i:Nat) v,l[i]?=some v->∃cs,l'[i]?=some (.agg cs)/\jo D H v.bp=some cs
 |[],l',h=>by simp[wi]at h;subst h;exact⟨rfl,fun j v h=>by simp at h⟩
 |x::r,l',h=>by
  simp only[wi]at h;split at h
  ·rename_i y s hy hs;simp only[av]at h;subst h;obtain⟨g1,g2⟩:=Vu r s hs;refine⟨by simp[g1],fun j v hv=>?_⟩;cases j with
   |zero=>simp at hv;subst hv;exact⟨y,rfl,hy⟩
   |succ j=>simpa using g2 j v (by simpa using hv)
  ·cases h
theorem Vv(hD:bo D)(hs:aS D ρ S w H){c:K.U}{xs cs:List (AV K)}{y:K.El c}(hg:jo D H xs=some cs)(hdec:D.dec c cs=some (y,true)){us:List Value}(hr:aV D ρ S w xs us):
 ∀(j:Nat) v u,(D.cells c y)[j]?=some v->us[j]?=some u->∃x,xs[j]?=some x/\ij D w v u (nz D w ρ H x):=fun j v u hv hu=>by
 obtain⟨g1,g2⟩:=wh _ _ hg;obtain⟨d1,d2⟩:=hD.wa c cs y hdec;have hj:j<xs.length:=by rw[hr.1];exact(bB.1 hu).1
 have hx:=bW hj;obtain⟨v',hv',hgc⟩:=g2 j _ hx;obtain⟨k1,k2⟩:=Ce hD hs hgc (hr.2 j _ _ hx hu);refine⟨_,hx,?_⟩;rcases d2 j v' v hv' hv with rfl|⟨rfl,c',rfl⟩
 ·exact k1
 ·rw[k2 rfl];refine⟨fun e=>(by cases e),fun c l e=>?_⟩;cases e;exact⟨.nil,fun k hk=>by cases hk⟩
theorem wj:∀{l:List Nat},iZ l=true->l.Nodup
 |[],_=>List.nodup_nil
 |x::r,h=>by
  simp only[iZ,bk,eQ,vX,fO]at h;exact uy.2 ⟨h.1,wj h.2⟩
theorem wk:∀{r:List (AV K)}{h i:Nat},r[i]?=some (.sl h)->h∈bq r
 |[],h,i,hi=>by simp at hi
 |x::s,h,i,hi=>by
  simp only[bq,fR];cases i with
  |zero=>simp at hi;subst hi;exact .inl (by simp[hands])
  |succ i=>exact .inr (wk (i:=i) (by simpa using hi))
theorem yN:∀{l:List (AV K)},(bq l).Nodup->∀{i j h:Nat},l[i]?=some (.sl h)->l[j]?=some (.sl h)->i=j
 |[],_,i,j,h,hi,_=>by simp at hi
 |v::r,hn,i,j,h,hi,hj=>by
  simp only[bq]at hn;obtain⟨n1,n2,n3⟩:=List.nodup_append.1 hn;have hin:∀{i:Nat},r[i]?=some (.sl h)->h∈bq r:=fun{i} hi=>wk hi
  cases i with
  |zero=>
   simp at hi;subst hi;cases j with
   |zero=>rfl
   |succ j=>exact absurd rfl (n3 h (by simp[hands]) h (hin (by simpa using hj)))
  |succ i=>
   cases j with
   |zero=>simp at hj;subst hj;exact absurd rfl (n3 h (by simp[hands]) h (hin (by simpa using hi)))
   |succ j=>exact fF (· +1) (yN (h:=h) n2 (by simpa using hi) (by simpa using hj))
theorem Iu(v:AV K):bq v.bp=hands v:=by
 cases v<;>simp[AV.bp,bq,hands]
theorem Iw:∀(l:List (AV K)),bq l=bq (l.map AV.bp).flatten
 |[]=>rfl
 |v::r=>by
  simp only[bq,gj,List.flatten_cons];have app:∀(a b:List (AV K)),bq (a++b)=bq a++bq b:=fun a b=>by
   induction a with
   |nil=>rfl
   |cons x s ih=>simp only[sZ,bq,ih,nX]
  rw[app,Iu,Iw r]
end Go.V
namespace Go.V
open Go
variable {K :cA}{D:bj K}{ρ ρ':List Value}{S S':Nat->Prop}{w w':World}{H H':List (Ob K)}
theorem ajt{P:Program}(hD:bo D)(hs:aS D ρ S w H){t e:TypeId}{c:K.U}{z:AV K}{zs:List (AV K)}{y:K.El c}{kl kc:IntKind}{n m:Int}(ht:elemOf? P t=some e)(hsz:cM P e=some (K.sz c))(hroom:room e P=true)
 (hz:zeroOf P e=some z) (hk:z.known=true) (hg:jo D [] z.bp=some zs) (hdec:D.dec c zs=some (y,true)) (h0:0<=n) (h1:n<=m) (h2:m<=1073741824) (dw:fC D c e 0):
 Does D P ρ S H w (do pure (.value (<-Instr.makeSlice t (.int kl n) (.int kc m)))) (.sl H.length) (H++[.tree c (List.replicate n.toNat y)]):=by
 obtain⟨i,hi,hisz⟩:=ly hsz;obtain⟨v,hv,hov⟩:=v7 hz hi;have hb:=sP hroom hi;have hs0:aS D [] S w ([]:List (Ob K)):=⟨rfl,fun _ _ _ h=>by simp at h,fun _ _ _ _ _ _ _ h=>by simp at h,fun b ⟨_,_,_,h,_⟩=>by simp at h,hs.slt,hs.base⟩;have hrz:aV D [] S w z.bp v.cells.toList:=iJ (pO v z hov) hk;have hcell:=Vv hD hs0 hg hdec hrz;have hvs:v.cells.size=K.sz c:=by
  have h1:=hrz.1;have h2:=(hD.wa c zs y hdec).1;have h3:=(wh _ _ hg).1;simp at h1;omega
 have hmul:(i.bytes:Int)*m<=4096*1073741824:=Int.mul_le_mul (by omega) h2 (by omega) (by omega);have hrun:=run_make (P:=P) w t e i v (gw ht) hi hv kl kc n m h0 h1 (by omega) (by omega);rw[hisz]at hrun;have hmn:n.toNat<=m.toNat:=by omega
 have aju:n.toNat*K.sz c<=m.toNat*K.sz c:=bT _ hmn
 let W:=w.alloc (.cells (madeCells v.cells (m.toNat*K.sz c)) e)
 have R:Row D W c (List.replicate n.toNat y) ((madeCells v.cells (m.toNat*K.sz c)).toList.take (n.toNat*K.sz c)) (fun _ _ _=>False):=by
  refine⟨by rw[jY,Array.length_toList,size_madeCells,fc,Nat.min_eq_left aju],fun k x hx j a u ha hu=>?_,fun _ _ _ _ _ h=>h.elim⟩;have hkn:k<n.toNat:=by have:=(bB.1 hx).1;simpa using this
  have hxy:x=y:=by
   rw[dR]at hx;split at hx
   ·simpa using hx.symm
   ·rename_i hn;exact absurd hkn hn
  subst hxy;have hj:j<K.sz c:=by rw[<-hD.len c x];exact(bB.1 ha).1
  rw[ca,aF (wc hkn hj)]at hu;have hu':v.cells.toList[j]?=some u:=by
   rw[<-Il hvs (show k<m.toNat by omega),wb hj];exact hu
  obtain⟨x',-,hc⟩:=hcell j a u ha hu';have hF:∀k,¬nz D w [] ([]:List (Ob K)) x' k:=fun k ⟨_,_,_,_,h,_⟩=>by simp at h
  exact(hc.mono (G':=fun _=>False) fun k hk=>hF k hk).world fun _ h=>h.elim
 obtain⟨T1,T2⟩:=R.tree hD (b:=w.heap.size) (o:=0) (cap:=m.toNat) (vs:=madeCells v.cells (m.toNat*K.sz c)) (T:=e) (fr:=(0,0)) (ql _ _) ⟨by simpa using hmn,dw⟩ (by rw[size_madeCells];omega) (fun k _ _ hh=>by have:=hh.2;simp at this)
  (fun k hk=>by rw[fc]at hk;rw[kW,ca,aF hk]) (fun _ _ h=>h)
 have hn:(List.replicate n.toNat y).length=n.toNat:=fc;rw[hn]at T1 T2;exact yM hs (ks:=[]) (w':=W) (eD (f:=.value) hrun) (by simp[W]) (fun k hk _=>pT hk) rfl rfl rfl T1 fun k hk=>by
  rcases T2 k hk with rfl|⟨_,_,_,h⟩
  ·exact .inr (cH _)
  ·exact h.elim
theorem ajv{P:Program}{ev:Operand->AV K}{ρe:Operand->Value}(hev:∀x,Rep D ρ S w (ev x) (ρe x)){t e:TypeId}{c:K.U}{len:Nat}{parts:Array (Nat×Operand)}{l:List (AV K)}
 (ht:elemOf? P t=some e) (hsz:cM P e=some (K.sz c)) (hz:kY P e=true) (hl:inOrder ev 0 parts.toList=some l) (hlen:l.length=len) (h1:len<=4096) (h2:K.sz c<=4096)
 (hall:l.all (fun v=>v.known&&decide (v.bp.length=K.sz c))=true):
 ∃cs':Array Value,(do pure (.value (<-Instr.buildSlice t len (parts.map fun(i,x)=>(i,ρe x)))):Sem Next).run P w=.ok (.value (.slice (some ⟨w.heap.size,0,none⟩) len len)) (w.alloc (.cells cs' e))/\len*K.sz c<=cs'.size/\
  ∀i v,l[i]?=some v->∃u,aV D ρ S w v.bp u/\bR cs' (i*K.sz c) (K.sz c)=u:=by
 obtain⟨i,hi,hisz⟩:=ly hsz;obtain⟨zv,hzv,-⟩:=wW hz hi;obtain⟨el,er⟩:=Cj _ _ _ hl;have hpl:parts.toList.length=len:=by rw[<-hlen,el];simp
 have hmul:len*K.sz c<=4096*4096:=Nat.mul_le_mul h1 h2;have hget:∀(j:Nat) v,l[j]?=some v->v.known=true/\v.bp.length=K.sz c:=fun j v hv=>by
  have:=dW.1 hall v (fN hv);simpa using this
 generalize hus:parts.toList.map (fun p=>ρe p.2)=us;have hrel:∀(j:Nat) v u,l[j]?=some v->us[j]?=some u->Rep D ρ S w v u:=fun j v u hv hu=>by
  rw[el]at hv;rw[<-hus]at hu;simp only[fG,dS]at hv hu;obtain⟨p,hp,rfl⟩:=hv;obtain⟨q,hq,rfl⟩:=hu;rw[hp]at hq;simp at hq;subst hq;exact hev _
 have pU:us.length=l.length:=by rw[<-hus,el];simp
 have hcs:∀u∈us,u.cells.size=K.sz c:=fun u hu=>by
  obtain⟨j,hj,rfl⟩:=jx hu;have hjl:j<l.length:=by omega
  obtain⟨hk,hn⟩:=hget j _ (bW hjl);have:=(iJ (hrel j _ _ (bW hjl) (bW hj)) hk).1;rw[hn]at this;simpa using this.symm
 let zero:Array Value:=if len*K.sz c=0 then #[]else zv.cells
 obtain⟨cs',e1,e2,-,e4⟩:=Ix (sz:=K.sz c) us 0 ((Array.range (len*K.sz c)).map (zero[· %zero.size]!)) hcs (by simp[pU,hlen]);have hparts:(parts.map fun(x:Nat×Operand)=>match x with|(i,x)=>(i,ρe x)).toList=(us.zipIdx 0).map fun p=>(p.2,p.1):=by
  rw[<-hus,<-Iy parts.toList ρe 0 (by rw[er])];simp
 have hrun:(Instr.buildSlice t len (parts.map fun(i,x)=>(i,ρe x))).run P w=.ok (.slice (some ⟨w.heap.size,0,none⟩) len len) (w.alloc (.cells cs' e)):=by
  have hsize:(sizeOf e).run P w=.ok (K.sz c) w:=il hsz;unfold Instr.buildSlice;rw[hparts];simp only[Sem.run_bind,dI (gw ht),Result.andThen_ok,hsize];rw[bF (by omega)];by_cases h0:len*K.sz c=0
  ·rw[aF h0];have e1':=e1;simp only[zero,aF h0]at e1';simp only[Sem.run_bind,Sem.run_pure,Result.andThen_ok,e1'];simp[newRow]
  ·rw[bF h0];have e1':=e1;simp only[zero,bF h0]at e1';have yI:(zeroValue e).run P w=.ok zv w:=by simp[zeroValue,typeInfo,hi,hzv]
   simp only[Sem.run_bind,Sem.run_pure,Result.andThen_ok,yI,e1'];simp[newRow]
 refine⟨cs',eD (f:=.value) hrun,by rw[e2];simp,fun j v hv=>?_⟩;have hj:j<l.length:=(bB.1 hv).1;have nA:=bW (show j<us.length by omega);obtain⟨hk,-⟩:=hget j _ hv;have:=e4 j _ nA;rw[kW]at this;exact⟨_,iJ (hrel j _ _ hv nA) hk,this⟩
theorem flat_get{sz:Nat}:∀(l:List (List (AV K)))(i j:Nat)(v:List (AV K))(x:AV K),(∀a∈l,a.length=sz)->l[i]?=some v->v[j]?=some x->l.flatten[i*sz+j]?=some x
 |[],i,j,v,x,_,h,_=>by simp at h
 |a::r,i,j,v,x,hl,hv,hx=>by
  have ha:=hl a (by simp);rw[List.flatten_cons];cases i with
  |zero=>
   simp at hv;subst hv;rw[nR,kW,cD (bB.1 hx).1];exact hx
  |succ i=>
   rw[cO (by rw[dh,fH,ha];omega),show(i+1)*sz+j-a.length=i*sz+j by rw[dh,fH,ha];omega];exact flat_get r i j v x (fun b hb=>hl b (by simp[hb])) (by simpa using hv) hx
theorem ajw{P:Program}(hD:bo D)(hs:aS D ρ S w H){ev:Operand->AV K}{ρe:Operand->Value}(hev:∀x,Rep D ρ S w (ev x) (ρe x)){t e:TypeId}{c:K.U}{len:Nat}{parts:Array (Nat×Operand)}{l l':List (AV K)}{y:List (K.El c)}
 (ht:elemOf? P t=some e) (hsz:cM P e=some (K.sz c)) (hz:kY P e=true) (hl:inOrder ev 0 parts.toList=some l) (hlen:l.length=len) (h1:len<=4096) (h2:K.sz c<=4096)
 (hall:l.all (fun v=>v.known&&decide (v.bp.length=K.sz c))=true) (hnd:iZ (bq l)=true) (hg:wi D H l=some l') (hdec:mj D c l'=some (y,true)) (dw:fC D c e 0):
 Does D P ρ S H w (do pure (.value (<-Instr.buildSlice t len (parts.map fun(i,x)=>(i,ρe x))))) (.sl H.length) (dO H (bq l)++[.tree c y]):=by
 obtain⟨cs',hrun,hcs,hseg⟩:=ajv (P:=P) hev ht hsz hz hl hlen h1 h2 hall;obtain⟨g1,g2⟩:=Vu _ _ hg;obtain⟨d1,d2⟩:=Iz l' c y hdec;have hyl:y.length=len:=by rw[d1,g1,hlen]
 have hcl:∀a∈l.map AV.bp,a.length=K.sz c:=fun a ha=>by
  obtain⟨v,hv,rfl⟩:=kV.1 ha;have:=dW.1 hall v hv;simp only[bk,bC]at this;exact this.2
 have hnd':(bq (l.map AV.bp).flatten).Nodup:=by rw[<-Iw];exact wj hnd
 let W:=w.alloc (.cells cs' e)
 let F:Nat->Nat->Nat->Prop:=fun i j k=>j<K.sz c/\∃v x,l[i]?=some v/\v.bp[j]?=some x/\nz D w ρ H x k
 have IA:∀i j k,F i j k->eZ D w ρ H (bq l) k:=by
  rintro i j k ⟨hj,v,x,hv,hx,h,o,r,rfl,ho,hlv,hr,hf⟩
  refine⟨h,o,r,?_,ho,hlv,hr,hf⟩;rw[Iw];have hm:=fN (flat_get (l.map AV.bp) i j v.bp _ hcl (by simp[hv]) hx);generalize (l.map AV.bp).flatten=L at hm
  induction L with
  |nil=>cases hm
  |cons a r ih=>
   simp only[bq,fR];rcases gC.1 hm with rfl|hm
   ·exact .inl (by simp[hands])
   ·exact .inr (ih hm)
 have R0:Row D w c y (cs'.toList.take (len*K.sz c)) F:=by
  refine⟨by simp[hyl];omega,fun i x hx j a u ha hu=>?_,?_⟩
  ·have hi:i<l.length:=by rw[hlen,<-hyl];exact(bB.1 hx).1
   have hv:=bW hi;have hj:j<K.sz c:=by rw[<-hD.len c x];exact(bB.1 ha).1
   obtain⟨us,hus,hse⟩:=hseg i _ hv;obtain⟨cs,hcs1,hcs2⟩:=g2 i _ hv;have hdx:=d2 i _ x hcs1 hx;rw[ca,aF (wc (show i<len by omega) hj),<-wb hj,hse]at hu;obtain⟨x',hx',hc⟩:=Vv hD hs hcs2 hdx hus j a u ha hu;exact hc.mono fun k hk=>⟨hj,_,x',hv,hx',hk⟩
  ·rintro i j i2 j2 k ⟨hj,v,x,hv,hx,h,o,r,rfl,ho,hlv,hr,hf⟩ ⟨hj2,v2,x2,hv2,hx2,h',o',r',rfl,ho',ajy,hr',hf'⟩
   have e1:=hs.dx h h' o o' r r' k ho hlv hr hf ho' ajy hr' hf';subst e1;have e2:=yN hnd' (flat_get (l.map AV.bp) i j v.bp _ hcl (by simp[hv]) hx) (flat_get (l.map AV.bp) i2 j2 v2.bp _ hcl (by simp[hv2]) hx2);have:i=i2:=by
    rcases Nat.lt_trichotomy i i2 with h|h|h
    ·have:(i+1)*K.sz c<=i2*K.sz c:=bT _ (by omega);rw[dh,fH]at this;omega
    ·exact h
    ·have:(i2+1)*K.sz c<=i*K.sz c:=bT _ (by omega);rw[dh,fH]at this;omega
   subst this;exact⟨rfl,by omega⟩
 have R:Row D W c y (cs'.toList.take (len*K.sz c)) F:=R0.world fun i j k hk=>pT (hs.lt k (IA i j k hk).own).1
 obtain⟨T1,T2⟩:=R.tree hD (b:=w.heap.size) (o:=0) (cap:=len) (vs:=cs') (T:=e) (fr:=(0,0)) (ql _ _) ⟨by omega,dw⟩ (by omega) (fun k _ _ hh=>by have:=hh.2;simp at this)
  (fun k hk=>by rw[hyl]at hk;rw[kW,ca,aF hk]) (fun i j h=>by have:=(hs.lt _ (IA i j _ h).own).1;omega)
 rw[hyl]at T1 T2;exact yM hs (ks:=bq l) (w':=W) hrun (by simp[W]) (fun k hk _=>pT hk) rfl rfl rfl T1 fun k hk=>by
  rcases T2 k hk with rfl|⟨i,j,_,h⟩
  ·exact .inr (cH _)
  ·exact .inl (IA i j k h)
end Go.V
namespace Go.V
open Go
variable {K :cA}{D:bj K}{ρ ρ':List Value}{S S':Nat->Prop}{w w':World}{H H':List (Ob K)}
theorem ajz(hD:bo D){c:K.U}{l:List (K.El c)}{us:List Value}{F:Nat->Nat->Nat->Prop}(R:Row D w c l us F):∀x∈us,x.oneCell'=true:=fun x hx=>by
 obtain⟨k,hk,rfl⟩:=jx hx;rw[R.len]at hk;have hsz:0<K.sz c:=by
  rcases gJ (K.sz c)with h0|h0
  ·rw[h0]at hk;simp at hk
  ·exact h0
 have hi:k/K.sz c<l.length:=Nat.div_lt_of_lt_mul (by rw[qO];exact hk);have hj:k%K.sz c<K.sz c:=Nat.mod_lt _ hsz;have e:k/K.sz c*K.sz c+k%K.sz c=k:=by rw[qO];exact Nat.div_add_mod _ _
 have hx:=bW hi;have hv:=bW (show k%K.sz c<(D.cells c l[k/K.sz c]).length by rw[hD.len];exact hj);have hu:us[k/K.sz c*K.sz c+k%K.sz c]?=some us[k]:=by rw[e];exact bW _
 have hc:=R.cell _ _ hx _ _ _ hv hu;have h1:=dW.1 (hD.one c l[k/K.sz c]) _ (cn (show k%K.sz c<(D.cells c l[k/K.sz c]).length by rw[hD.len];exact hj));generalize (D.cells c l[k/K.sz c])[k%K.sz c]'(by rw[hD.len];exact hj)=v at hc h1;cases hd:v.jP
 ·exact one_cell (hc.flat hd).2 h1
 ·obtain⟨c',l',rfl⟩:=Cm hd;obtain⟨a,cp,e⟩:=CB (hc.kid c' l' rfl).1;rw[e];rfl
theorem Vw{P:Program}(hD:bo D)(hs:aS D ρ S w H){c:K.U}{x:AV K}{m:List (K.El c)}{ks:List Nat}{X:Value}(h:nB H c x=some (m,ks))(hx:Rep D ρ S w x X):
 (Builtin.lenOf X).run P w=.ok m.length w/\∃news F,Row D w c m news F/\(∀i j k,F i j k->eZ D w ρ H ks k)/\∀w':World,w'.heap=w.heap->(Builtin.firstCells (K.sz c) m.length X).run P w'=.ok news.toArray w':=by
 unfold nB at h;split at h
 ·simp only[av,bc]at h;obtain⟨rfl,rfl⟩:=h;have e:X=.slice none 0 0:=by cases hx;rfl
  subst e;exact⟨by simp[Builtin.lenOf],[],fun _ _ _=>False,⟨by simp,fun i x h=>by simp at h,fun _ _ _ _ _ h=>h.elim⟩,fun _ _ _ h=>h.elim,fun w' _=>by simp[Builtin.firstCells]⟩
 ·rename_i h0;obtain⟨hp,a,n,cp,rfl⟩:=iI hx;split at h
  ·rename_i c' l ho;cases hd:K.ig c' c with
   |isFalse hn=>simp[hd]at h
   |isTrue he=>
    subst he;simp only[hd,av,bc]at h;obtain⟨rfl,rfl⟩:=h;have hT:Tree D w c' l (.slice a n cp):=hs.ob _ _ _ ho hp;rcases hT.row hD with⟨e,rfl⟩|⟨b,o,cap,vs,T,fr,us,F,e,hb,hcap,hsz,hfr,hus,R,wo,hF⟩
    ·cases e;exact⟨by simp[Builtin.lenOf],[],fun _ _ _=>False,⟨by simp,fun i x h=>by simp at h,fun _ _ _ _ _ h=>h.elim⟩,fun _ _ _ h=>h.elim,fun w' _=>by simp[Builtin.firstCells]⟩
    ·cases e;refine⟨by simp[Builtin.lenOf],us,F,R,fun i j k hk=>⟨h0,_,_,by simp,ho,rfl,hp,hF i j k hk⟩,fun w' hw=>?_⟩;have hcells:fq w' b o us:=fun k v hv=>by
      have hk:k<l.length*K.sz c':=by rw[<-R.len];exact(bB.1 hv).1
      have:=hus k hk;rw[hv]at this;rw[cell?_of_heap (w:=w) (a:=⟨b,o+k,none⟩) (by rw[hw])];simp only[World.cell?,hb];simpa using this
     have:=CC (P:=P) hcells;rw[R.len]at this;simpa [Builtin.firstCells]using this
  ·cases h
 ·cases h
theorem Vx{P:Program}(hD:bo D)(hs:aS D ρ S w H){t xT ty e:TypeId}{d:TypeDesc}{i:TypeInfo}{z:Value}{c:K.U}(ht:P.underlying t=some (.slice e))(hx:P.underlying xT=some d)(hd:∀k,d≠.int k)
 (hi:P.info? e=some i) (hisz:i.size=K.sz c) (hz:i.zero=some z) (hzs:z.cells.size=K.sz c) (hb:i.bytes<=4096) {base:Option Addr} {cap:Nat} {X:Value} {l m:List (K.El c)} {us:List Value} {F:Nat->Nat->Nat->Prop} {ks:List Nat} {olds news:List Value}
 (R:Row D w c (l++m) us F) (hF:∀i j k,F i j k->eZ D w ρ H ks k) (hus:us=olds++news) (hlen:(Builtin.lenOf X).run P w=.ok m.length w) (hnew:(Builtin.firstCells (K.sz c) m.length X).run P w.drew=.ok news.toArray w.drew)
 (hold:(Builtin.firstCells (K.sz c) l.length (.slice base l.length cap)).run P w.drew=.ok olds.toArray w.drew) (hroom:cap<l.length+m.length) (hsmall:l.length+m.length<=1073741824) (hE:fC D c e 0):
 Does D P ρ S H w (do pure (.value (<-Builtin.append_ #[t,xT] ty #[.slice base l.length cap,X]))) (.sl H.length) (dO H ks++[.tree c (l++m)]):=by
 have hrun:=Vy (P:=P) (w:=w) (ty:=ty) ht hx hd hi hz hlen (by rw[hisz];exact hnew) (by rw[hisz];exact hold) hroom hsmall hb;have hge:=grownCap_ge w (l.length+m.length) cap e
 let vs:=(olds++news++(Builtin.zeroCells z.cells (grownCap w (l.length+m.length) cap e-(l.length+m.length))).toList).toArray
 let W:=w.drew.alloc (.cells vs e)
 have hR:Row D W c (l++m) us F:=R.world fun i j k hk=>pT (hs.lt k (hF i j k hk).own).1
 have pU:us.length=(l.length+m.length)*K.sz c:=by rw[R.len,dA]
 have hzc:(Builtin.zeroCells z.cells (grownCap w (l.length+m.length) cap e-(l.length+m.length))).size=(grownCap w (l.length+m.length) cap e-(l.length+m.length))*K.sz c:=by simp[Builtin.zeroCells,hzs]
 have hcz:(l.length+m.length)*K.sz c+(grownCap w (l.length+m.length) cap e-(l.length+m.length))*K.sz c=grownCap w (l.length+m.length) cap e*K.sz c:=by rw[<-dh];congr 1;omega
 have hvl:vs.toList=us++(Builtin.zeroCells z.cells (grownCap w (l.length+m.length) cap e-(l.length+m.length))).toList:=by simp[vs,hus]
 obtain⟨T1,T2⟩:=hR.tree hD (b:=w.heap.size) (o:=0) (cap:=grownCap w (l.length+m.length) cap e) (vs:=vs) (T:=e) (fr:=(0,0)) (ql _ _) ⟨by simpa using hge,hE⟩
  (by
    have:vs.size=us.length+(Builtin.zeroCells z.cells (grownCap w (l.length+m.length) cap e-(l.length+m.length))).size:=by rw[<-Array.length_toList,hvl];simp
    rw[this,hzc,pU];omega)
  (fun k _ _ hh=>by have:=hh.2;simp at this) (fun k hk=>by rw[kW,hvl,cD (by rw[R.len];exact hk)]) (fun i j h=>by have:=(hs.lt _ (hF i j _ h).own).1;omega)
 rw[dA]at T1 T2;exact yM hs (ks:=ks) (w':=W) (eD (f:=.value) hrun) (by simp[W]) (fun k hk _=>pT hk) rfl rfl rfl T1 fun k hk=>by
  rcases T2 k hk with rfl|⟨i,j,_,h⟩
  ·exact .inr (cH _)
  ·exact .inl (hF i j k h)
theorem eZ.more{ks ks':List Nat}(h:∀x∈ks,x∈ks'){k:Nat}(hk:eZ D w ρ H ks k):eZ D w ρ H ks' k:=by
 obtain⟨a,o,r,g1,g2,g3,g4,g5⟩:=hk;exact⟨a,o,r,h a g1,g2,g3,g4,g5⟩
theorem ajA{P:Program}(hD:bo D)(hs:aS D ρ S w H){t xT ty e:TypeId}{d:TypeDesc}{i:TypeInfo}{z:Value}{c:K.U}(ht:P.underlying t=some (.slice e))(hx:P.underlying xT=some d)(hd:∀k,d≠.int k)
 (hi:P.info? e=some i) (hisz:i.size=K.sz c) (hz:i.zero=some z) (hzs:z.cells.size=K.sz c) (hb:i.bytes<=4096) {s x:AV K} {Y X:Value} {l m:List (K.El c)} {ks ks':List Nat} (hl:nB H c s=some (l,ks)) (hm:nB H c x=some (m,ks'))
 (hnd:iZ (ks++ks')=true) (hY:Rep D ρ S w s Y) (hX:Rep D ρ S w x X) (hsmall:l.length+m.length<=1073741824) (hE:fC D c e 0):
 Does D P ρ S H w (do pure (.value (<-Builtin.append_ #[t,xT] ty #[Y,X]))) (.sl H.length) (dO H (ks++ks')++[.tree c (l++m)]):=by
 have hnd':=wj hnd;obtain⟨n1,n2,n3⟩:=List.nodup_append.1 hnd';obtain⟨hlen,news,F2,R2,hF2,hnew⟩:=Vw (P:=P) hD hs hm hX;obtain⟨-,olds,F1,R1,hF1,hold⟩:=Vw (P:=P) hD hs hl hY;have hapart:∀{a b:Nat},eZ D w ρ H ks a->eZ D w ρ H ks' b->a≠b:=fun{a b} ha hb e=>by
  subst e;obtain⟨h1,o1,r1,a1,a2,a3,a4,a5⟩:=ha;obtain⟨h2,o2,r2,b1,b2,b3,b4,b5⟩:=hb;have:=hs.dx h1 h2 o1 o2 r1 r2 a a2 a3 a4 a5 b2 b3 b4 b5;subst this;exact n3 h1 a1 h1 b1 rfl
 have R:=R1.append hD R2 fun i j i2 j2 k h1 h2=>hapart (hF1 _ _ _ h1) (hF2 _ _ _ h2) rfl
 have hF:∀i j k,((i<l.length/\F1 i j k)\/(l.length<=i/\F2 (i-l.length) j k))->eZ D w ρ H (ks++ks') k:=fun i j k h=>by
  rcases h with⟨-,h⟩|⟨-,h⟩
  ·exact(hF1 _ _ _ h).more fun x hx=>fR.2 (.inl hx)
  ·exact(hF2 _ _ _ h).more fun x hx=>fR.2 (.inr hx)
 have hs':(Y=.slice none 0 0/\l=[])\/∃h0 b o cap vs T fr,ks=[h0]/\H[h0]?=some (.tree c l)/\ρ[h0]?=some Y/\Y=.slice (some ⟨b,o,none⟩) l.length cap/\w.heap[b]?=some (.cells vs T fr)/\(l.length<=cap/\fC D c T o)/\o+cap*K.sz c<=vs.size/\
  (∀k,o<=k->k<o+cap*K.sz c->¬(fr.1<=k/\k<fr.2))/\∃us F,(∀k,k<l.length*K.sz c->vs.toList[o+k]?=us[k]?)/\Row D w c l us F/\(∀i j,¬F i j b)/\∀i j k,F i j k->cK D w c l Y k:=by
  unfold nB at hl;split at hl
  ·simp only[av,bc]at hl;obtain⟨rfl,rfl⟩:=hl;exact .inl ⟨by cases hY;rfl,rfl⟩
  ·rename_i h0;obtain⟨hp,a,n,cp,rfl⟩:=iI hY;split at hl
   ·rename_i c' l0 ho;cases hd:K.ig c' c with
    |isFalse hn=>simp[hd]at hl
    |isTrue he=>
     subst he;simp only[hd,av,bc]at hl;obtain⟨rfl,rfl⟩:=hl;have hT:Tree D w c' l0 (.slice a n cp):=hs.ob _ _ _ ho hp;rcases hT.row hD with⟨e,rfl⟩|⟨b,o,cap,vs,T,fr,us,F,e,hb,hcap,hsz,hfr,hus,R,wo,hF⟩
     ·exact .inl ⟨e,rfl⟩
     ·exact .inr ⟨h0,b,o,cap,vs,T,fr,rfl,ho,hp,e,hb,hcap,hsz,hfr,us,F,hus,R,wo,hF⟩
   ·cases hl
  ·cases hl
 rcases hs' with⟨rfl,rfl⟩|⟨h0,b,o,cap,vs,T,fr,rfl,ho,hp,rfl,hblk,⟨hcap,dw⟩,hsz,hfr,us,F,hus,R0,wo,Vz⟩
 ·by_cases h0:m.length=0
  ·have hm0:m=[]:=ja h0;subst hm0;have hrun:=IB (P:=P) (w:=w) (ty:=ty) (base:=none) (n:=0) (cap:=0) ht hx hd hi hlen (by rw[hisz];exact hnew w rfl) (by simp);exact yM hs (ks:=ks++ks') (a:=none) (n:=0) (cp:=0) (w':=w) (eD (f:=.value) (by simpa using hrun)) (cH _) (fun _ _ _=>rfl) rfl rfl rfl (by simpa using Tree.nil) fun k hk=>by simp at hk;cases hk
  ·have hO:olds=[]:=ja (by have:=R1.len;simpa using this);subst hO;exact Vx (P:=P) (ty:=ty) (base:=none) (cap:=0) (l:=[]) (olds:=[]) hD hs ht hx hd hi hisz hz hzs hb R hF rfl hlen (hnew w.drew rfl) (by simp[Builtin.firstCells]) (by simp;omega) (by simpa using hsmall) hE
 ·by_cases hroom:l.length+m.length<=cap
  ·have hlm:(l.length+m.length)*K.sz c<=cap*K.sz c:=bT _ hroom;rw[dh]at hlm;have hrl:=R2.len;obtain⟨w',vs',e1,e2,e3,e4,e5,e6,e7,e8⟩:=lv (P:=P) (b:=b) (o:=o+l.length*K.sz c) news 0 vs w hblk (by omega) (fun k hk hk'=>hfr k (by omega) (by omega)) (ajz hD R2);rw[Nat.add_zero]at e3;have nC:eZ D w ρ H [h0] b:=⟨h0,_,_,by simp,ho,rfl,hp,.here⟩;have hrun:=IB (P:=P) (w:=w) (ty:=ty) (base:=some ⟨b,o,none⟩) (n:=l.length) (cap:=cap) ht hx hd hi hlen (by rw[hisz];exact hnew w rfl) hroom;simp only[hisz,add_plain,e1,Result.andThen_ok]at hrun;have hsize:vs'.size=vs.size:=by have:=fF List.length e3;rw[jX]at this;simpa using this
   have RA:=R0.append hD R2 fun i j i2 j2 k h1 h2=>hapart ⟨h0,_,_,by simp,ho,rfl,hp,Vz i j k h1⟩ (hF2 _ _ _ h2) rfl
   have IC:∀i j k,((i<l.length/\F i j k)\/(l.length<=i/\F2 (i-l.length) j k))->eZ D w ρ H ([h0]++ks') k/\k≠b:=fun i j k h=>by
    rcases h with⟨-,h⟩|⟨-,h⟩
    ·exact⟨⟨h0,_,_,by simp,ho,rfl,hp,Vz i j k h⟩,fun e=>by subst e;exact wo _ _ h⟩
    ·exact⟨(hF2 _ _ _ h).more fun x hx=>fR.2 (.inr hx),fun e=>hapart nC (hF2 _ _ _ h) e.symm⟩
   have RW:Row D w' c (l++m) (us++news) _:=RA.world fun i j k hk=>e5 k (IC i j k hk).2
   obtain⟨T1,T2⟩:=RW.tree hD e2 (o:=o) (cap:=cap) ⟨by simpa using hroom,dw⟩ (by omega) hfr (fun k hk=>by
    rw[dA,dh]at hk;rw[e3];by_cases hkl:k<l.length*K.sz c
    ·rw[VA _ _ _ _ (.inl (by omega)),hus k hkl,cD (by rw[R0.len];exact hkl)]
    ·rw[jb _ _ _ _ (by simp;omega),aF (by omega),cO (by rw[R0.len];omega),R0.len];congr 1;omega) (fun i j h=>(IC i j b h).2 rfl)
   rw[dA]at T1 T2;exact yM hs (ks:=[h0]++ks') (w':=w') (eD (f:=.value) hrun) (by omega) (fun k _ hno=>e5 k fun e=>by subst e;exact hno (nC.more fun x hx=>fR.2 (.inl hx))) e6 e7 e8 T1 fun k hk=>by
    rcases T2 k hk with rfl|⟨i,j,_,h⟩
    ·exact .inl (nC.more fun x hx=>fR.2 (.inl hx))
    ·exact .inl (IC i j k h).1
  ·have hnl:(Builtin.firstCells (K.sz c) l.length (.slice (some ⟨b,o,none⟩) l.length cap)).run P w.drew=.ok olds.toArray w.drew:=hold w.drew rfl;exact Vx (P:=P) (ty:=ty) (base:=some ⟨b,o,none⟩) (cap:=cap) (l:=l) (olds:=olds) hD hs ht hx hd hi hisz hz hzs hb R hF rfl hlen (hnew w.drew rfl) hnl (by omega) hsmall hE
theorem ajB{P:Program}(hD:bo D)(hs:aS D ρ S w H){t:TypeId}{n h i off:Nat}{c:K.U}{l:List (K.El c)}{y:K.El c}{x:AV K}{xs:List (AV K)}{X A:Value}(hn:cM P t=some n)(i3:x.bp.length=n)
 (h1:x.bp.all AV.one=true) (ho:H[h]?=some (.tree c l)) (hoff:off+n<=K.sz c) (hnd:iZ (h::bq x.bp)=true) (hg:jo D H x.bp=some xs) (hdec:D.dec c (setCells (D.cells c (l.getD i (K.zero c))) off xs)=some (y,true))
 (hx:Rep D ρ S w x X) (hA:Rep D ρ S w (.ep h (K.sz c) i off) A):Does D P ρ S H w (do Instr.storeAt t A X;pure .skip) .any ((dO H (h::bq x.bp)).set h (.tree c (l.set i y))):=by
 obtain⟨b,o,m,cp,rfl,hb,hi⟩:=mh hA;have hT:Tree D w c l (.slice (some ⟨b,o,none⟩) m cp):=hs.ob _ _ _ ho hb;obtain⟨hn1,hn2⟩:=uy.1 (wj hnd);rcases hT.row hD with⟨e,-⟩|⟨b',o',cap,vs,T,fr,us,F,e,hblk,⟨hcap,dw⟩,hsz,hfr,hus,R,wo,hF⟩
 ·cases e
 ·simp only[Value.slice.injEq,av,Addr.mk.injEq]at e;obtain⟨⟨rfl,rfl,-⟩,rfl,rfl⟩:=e;have hc:=iJ hx (yJ h1);have hlen:X.cells.toList.length=n:=by rw[<-hc.1,i3]
  have hmul:(i+1)*K.sz c<=cp*K.sz c:=bT _ (by omega);have ID:(i+1)*K.sz c<=l.length*K.sz c:=bT _ (by omega);rw[dh,fH]at hmul ID;obtain⟨w',vs',e1,e2,e3,e4,e5,e6,e7,e8⟩:=lv (P:=P) (b:=b) (o:=o+i*K.sz c+off) X.cells.toList 0 vs w hblk (by omega) (fun k hk hk'=>hfr k (by omega) (by omega)) (nU hc h1);rw[Nat.add_zero]at e3;have hx0:=getD_some (K.zero c) hi;obtain⟨gl,gg⟩:=wh _ _ hg;obtain⟨dl,dd⟩:=hD.wa _ _ _ hdec;have nD:∀j,(setCells (D.cells c (l.getD i (K.zero c))) off xs)[j]?=if off<=j/\j<off+n then xs[j-off]? else(D.cells c (l.getD i (K.zero c)))[j]?:=fun j=>by
   have key:∀(zs cs:List (AV K))(q j:Nat),q+zs.length<=cs.length->(setCells cs q zs)[j]?=if q<=j/\j<q+zs.length then zs[j-q]? else cs[j]?:=fun zs=>by
    induction zs with
    |nil=>intro cs q j _;rw[bF (by first|omega|simp)];rfl
    |cons z r ih=>
     intro cs q j hq;simp only[cr]at hq;rw[setCells,ih _ _ _ (by simp;omega)];by_cases h1:q+1<=j/\j<q+1+r.length
     ·rw[aF h1,aF (by simp;omega),show j-q=(j-(q+1))+1 by omega];rfl
     ·rw[bF h1];by_cases h2:j=q
      ·subst h2;rw[aF (by simp),iO];simp;omega
      ·rw[bF (by simp;omega),iO,bF (by omega)]
   have:=key xs (D.cells c (l.getD i (K.zero c))) off j (by rw[hD.len];omega);rw[gl,i3]at this;exact this
  let G:Nat->Nat->Prop:=fun j k=>∃v,x.bp[j]?=some v/\nz D w ρ H v k
  have IE:∀j k,G j k->eZ D w ρ H (bq x.bp) k:=by
   rintro j k ⟨v,hv,h',o',r',rfl,ho',hl',hr',hf'⟩
   refine⟨h',o',r',?_,ho',hl',hr',hf'⟩;have hm:=fN hv;generalize x.bp=L at hm
   induction L with
   |nil=>cases hm
   |cons a r ih=>
    simp only[bq,fR];rcases gC.1 hm with rfl|hm
    ·exact .inl (by simp[hands])
    ·exact .inr (ih hm)
  have hapart:∀{a k:Nat},eZ D w ρ H (bq x.bp) k->cK D w c l (.slice (some ⟨b,o,none⟩) l.length cp) a->a≠k:=fun{a k} hk ha e=>by
   subst e;obtain⟨h2,o2,r2,b1,b2,b3,b4,b5⟩:=hk;have:=hs.dx h h2 _ o2 _ r2 a ho rfl hb ha b2 b3 b4 b5;subst this;exact hn1 b1
  have R2:=R.set hD (i:=i) (off:=off) (x0:=l.getD i (K.zero c)) (y:=y) (xs:=X.cells.toList) (G:=G) hx0 (by rw[hlen];exact hoff) (fun j hj=>by
   rw[hlen]at hj;have hg2:=nD j;rw[bF (by omega)]at hg2;by_cases hjs:j<K.sz c
   ·have ha:=bW (show j<(D.cells c (l.getD i (K.zero c))).length by rw[hD.len];exact hjs);have hb':=bW (show j<(D.cells c y).length by rw[hD.len];exact hjs);rw[ha]at hg2;rcases dd j _ _ hg2 hb' with e|⟨e,-⟩
    ·rw[ha,hb',e]
    ·exact absurd e (hD.kinds c _ j _ ha).1
   ·rw[dV (by rw[hD.len];omega),dV (by rw[hD.len];omega)])
   (fun j v u hv hu=>by
     have hjn:j<n:=by rw[<-hlen];exact(bB.1 hu).1
     have kZ:=bW (show j<x.bp.length by omega);obtain⟨v',hv',hgc⟩:=gg j _ kZ;obtain⟨k1,k2⟩:=Ce hD hs hgc (hc.2 j _ _ kZ hu);have hg2:=nD (off+j);rw[aF (by omega),show off+j-off=j by omega,hv']at hg2;rcases dd (off+j) _ v hg2 hv with rfl|⟨rfl,c',rfl⟩
     ·exact k1.mono fun k hk=>⟨_,kZ,hk⟩
     ·rw[k2 rfl];refine⟨fun e=>(by cases e),fun c l e=>?_⟩;cases e;exact⟨.nil,fun k hk=>by cases hk⟩)
   (fun j j2 k ⟨v,hv,h',o',r',e1,ho',hl',hr',hf'⟩ ⟨v2,hv2,h2,o2,r2,e2',ho2,hl2,hr2,hf2⟩=>by
     subst e1;subst e2';have:=hs.dx h' h2 o' o2 r' r2 k ho' hl' hr' hf' ho2 hl2 hr2 hf2;subst this;exact yN hn2 hv hv2)
   (fun j i2 j2 k hk hf=>hapart (IE j k hk) (hF _ _ _ hf) rfl)
  have sq:∀i2 j k,((i2=i/\off<=j/\j<off+X.cells.toList.length/\G (j-off) k)\/(¬(i2=i/\off<=j/\j<off+X.cells.toList.length)/\F i2 j k))->eZ D w ρ H (h::bq x.bp) k/\k≠b:=fun i2 j k hk=>by
   rcases hk with⟨-,-,-,hk⟩|⟨-,hk⟩
   ·exact⟨(IE _ _ hk).more fun x hx=>gC.2 (.inr hx),fun e=>hapart (IE _ _ hk) .here e.symm⟩
   ·exact⟨⟨h,_,_,by simp,ho,rfl,hb,hF _ _ _ hk⟩,fun e=>by subst e;exact wo _ _ hk⟩
  have RW:Row D w' c (l.set i y) _ _:=R2.world fun i j k hk=>e5 k (sq i j k hk).2
  have hsize:vs'.size=vs.size:=by have:=fF List.length e3;rw[jX]at this;simpa using this
  have hlc:l.length*K.sz c<=cp*K.sz c:=bT _ hcap;have hlz:X.cells.size=n:=by simpa using hlen
  obtain⟨T1,T2⟩:=RW.tree hD e2 (o:=o) (cap:=cp) ⟨by simpa using hcap,dw⟩ (by omega) hfr (fun k hk=>by
   rw[f0]at hk;rw[e3,jb _ _ _ _ (by simp;omega),jb _ _ _ _ (by rw[R.len];omega)];by_cases hc2:i*K.sz c+off<=k/\k<i*K.sz c+off+X.cells.toList.length
   ·rw[aF (by omega),aF hc2];congr 1;omega
   ·rw[bF (by omega),bF hc2];exact hus k hk) (fun i j h=>(sq i j b h).2 rfl)
  rw[f0]at T1 T2;have nC:eZ D w ρ H (h::bq x.bp) b:=⟨h,_,_,by simp,ho,rfl,hb,.here⟩;refine Vt hs ho rfl hb (w':=w') ?_ e4 (fun k hno=>e5 k fun e=>by subst e;exact hno nC) e6 e7 e8 T1 fun k hk=>?_
  ·have:(storeVar t ⟨b,o+i*K.sz c+off,none⟩ X).run P w=.ok () w':=by rw[CE hn (by simpa using hlen)];exact e1
   simp[Instr.storeAt,Instr.sureAddr,this]
  ·rcases T2 k hk with rfl|⟨i,j,_,h⟩
   ·exact nC
   ·exact(sq i j k h).1
theorem ajC{P:Program}(hD:bo D)(hs:aS D ρ S w H){t:TypeId}{n h i off:Nat}{c:K.U}{l:List (K.El c)}{cs:List (AV K)}{y:K.El c}{x:AV K}{xs:List (AV K)}{X A:Value}(hn:cM P t=some n)(hcn:n=cs.length)(i3:x.bp.length=n)
 (h1:x.bp.all AV.one=true) (ho:H[h]?=some (.opn c l i off cs)) (hnd:iZ (h::bq x.bp)=true) (hg:jo D H x.bp=some xs) (hdec:D.dec c (setCells (D.cells c (l.getD i (K.zero c))) off xs)=some (y,true))
 (hx:Rep D ρ S w x X) (hA:Rep D ρ S w (.ep h (K.sz c) i off) A):Does D P ρ S H w (do Instr.storeAt t A X;pure .skip) .any ((dO H (h::bq x.bp)).set h (.tree c (l.set i y))):=by
 obtain⟨b,o,m,cp,rfl,hb,hi⟩:=mh hA;obtain⟨b',o',cap,vs,T,fr,e,hblk,⟨hcap,dw⟩,hsz,hfr,hi',hoff,h7,h8,h9⟩:=(hs.ob _ _ _ ho hb:jR D ρ S w c l i off cs _);obtain⟨hn1,hn2⟩:=uy.1 (wj hnd);simp only[Value.slice.injEq,av,Addr.mk.injEq]at e;obtain⟨⟨rfl,rfl,-⟩,rfl,rfl⟩:=e;have hc:=iJ hx (yJ h1);have hlen:X.cells.toList.length=n:=by rw[<-hc.1,i3]
 have hmul:(i+1)*K.sz c<=cp*K.sz c:=bT _ (by omega);have ID:(i+1)*K.sz c<=l.length*K.sz c:=bT _ (by omega);rw[dh,fH]at hmul ID;have hlc:l.length*K.sz c<=cp*K.sz c:=bT _ hcap;obtain⟨w',vs',e1,e2,e3,e4,e5,e6,e7,e8⟩:=lv (P:=P) (b:=b) (o:=o+i*K.sz c+off) X.cells.toList 0 vs w hblk (by omega) (fun k hk hk'=>hfr k (by omega) (by omega)) (nU hc h1);rw[Nat.add_zero]at e3;have hx0:=getD_some (K.zero c) hi;generalize l.getD i (K.zero c)=x0 at hx0 hdec;obtain⟨gl,gg⟩:=wh _ _ hg;obtain⟨dl,dd⟩:=hD.wa _ _ _ hdec;have nD:∀j,(setCells (D.cells c x0) off xs)[j]?=if off<=j/\j<off+n then xs[j-off]? else(D.cells c x0)[j]?:=fun j=>by
  have key:∀(zs cs:List (AV K))(q j:Nat),q+zs.length<=cs.length->(setCells cs q zs)[j]?=if q<=j/\j<q+zs.length then zs[j-q]? else cs[j]?:=fun zs=>by
   induction zs with
   |nil=>intro cs q j _;rw[bF (by first|omega|simp)];rfl
   |cons z r ih=>
    intro cs q j hq;simp only[cr]at hq;rw[setCells,ih _ _ _ (by simp;omega)];by_cases h1:q+1<=j/\j<q+1+r.length
    ·rw[aF h1,aF (by simp;omega),show j-q=(j-(q+1))+1 by omega];rfl
    ·rw[bF h1];by_cases h2:j=q
     ·subst h2;rw[aF (by simp),iO];simp;omega
     ·rw[bF (by simp;omega),iO,bF (by omega)]
  have:=key xs (D.cells c x0) off j (by rw[hD.len];omega);rw[gl,i3]at this;exact this
 have CG:∀(i' j:Nat) u,((vs.toList.drop o).take (l.length*K.sz c))[i'*K.sz c+j]?=some u->w.cell? ⟨b,o+i'*K.sz c+j,none⟩=some u:=fun i' j u hu=>by
  rw[ca]at hu;split at hu
  ·rw[dC]at hu;have:w.cell? ⟨b,o+i'*K.sz c+j,none⟩=vs.toList[o+i'*K.sz c+j]?:=by simp[World.cell?,hblk]
   rw[this,jH];exact hu
  ·cases hu
 have hbl:((vs.toList.drop o).take (l.length*K.sz c)).length=l.length*K.sz c:=by simp;omega
 have sr:∀k,iK D w c l i off cs.length (.slice (some ⟨b,o,none⟩) l.length cp) k->∀v,nz D w ρ H v k->∀j,x.bp[j]?=some v->False:=fun k hk v ⟨h',o',r',e,ho',hl',hr',hf'⟩ j hj=>by
  subst e;have:=hs.dx _ _ _ _ _ _ _ ho rfl hb hk ho' hl' hr' hf';subst this;exact hn1 (wk hj)
 let F:Nat->Nat->Nat->Prop:=fun i' j k=>(k7 i off cs.length i' j/\∃v,x.bp[j-off]?=some v/\nz D w ρ H v k)\/
     (¬k7 i off cs.length i' j/\∃(x:K.El c)(c':K.U)(l':List (K.El c'))(u:Value),l[i']?=some x/\(D.cells c x)[j]?=some (.ah c' l')/\w.cell? ⟨b,o+i'*K.sz c+j,none⟩=some u/\cK D w c' l' u k)
 have R:Row D w c (l.set i y) (eY ((vs.toList.drop o).take (l.length*K.sz c)) (i*K.sz c+off) X.cells.toList) F:=by
  refine⟨by rw[jX,hbl,f0],fun i' x1 hx1 j v u hv hu=>?_,?_⟩
  ·have hj:j<K.sz c:=by rw[<-hD.len c x1];exact(bB.1 hv).1
   rw[jb _ _ _ _ (by rw[hbl];omega)]at hu;have out:∀{x1:K.El c},¬k7 i off cs.length i' j->l[i']?=some x1->(D.cells c x1)[j]?=some v->w.cell? ⟨b,o+i'*K.sz c+j,none⟩=some u->ij D w v u (F i' j):=fun{x1} hh hx1 hv1 hu'=>by
    obtain⟨k1,k2⟩:=h7 i' x1 hx1 j v u hh hv1 hu';exact(ij.mk (G:=fun k=>∃(c':K.U)(l':List (K.El c')),v=.ah c' l'/\cK D w c' l' u k) k1 fun c' l' e=>⟨(k2 c' l' e).1,fun k hk=>⟨c',l',e,hk⟩⟩).mono fun k ⟨c',l',e,hk⟩=>.inr ⟨hh,x1,c',l',u,hx1,by rw[hv1,e],hu',hk⟩
   rcases dF hx1 with⟨rfl,rfl,-⟩|⟨hne,hx1⟩
   ·by_cases hh:off<=j/\j<off+cs.length
    ·rw[aF (by omega)]at hu;have e1:i'*K.sz c+j-(i'*K.sz c+off)=j-off:=by omega
     rw[e1]at hu;have kZ:=bW (show j-off<x.bp.length by omega);obtain⟨v',hv',hgc⟩:=gg _ _ kZ;obtain⟨k1,k2⟩:=Ce hD hs hgc (hc.2 _ _ _ kZ hu);have hg2:=nD j;rw[aF (by omega),hv']at hg2;rcases dd j _ v hg2 hv with rfl|⟨rfl,c',rfl⟩
     ·exact k1.mono fun k hk=>.inl ⟨⟨rfl,hh⟩,_,kZ,hk⟩
     ·rw[k2 rfl];refine⟨fun e=>(by cases e),fun c l e=>?_⟩;cases e;exact⟨.nil,fun k hk=>by cases hk⟩
    ·rw[bF (by omega)]at hu;have hg2:=nD j;rw[bF (by omega)]at hg2;have ha:=bW (show j<(D.cells c x0).length by rw[hD.len];exact hj);have hv0:(D.cells c x0)[j]?=some v:=by
      rw[ha]at hg2;rcases dd j _ _ hg2 hv with e|⟨e,-⟩
      ·rw[ha,e]
      ·exact absurd e (hD.kinds c _ j _ ha).1
     exact out (fun h=>hh h.2) hx0 hv0 (CG _ _ _ hu)
   ·have hno:¬(i*K.sz c+off<=i'*K.sz c+j/\i'*K.sz c+j<i*K.sz c+off+X.cells.toList.length):=fun⟨q1,q2⟩=>by
     rcases Nat.lt_or_gt_of_ne hne with hlt|hlt
     ·have:=bT (K.sz c) (show i'+1<=i by omega);rw[dh,fH]at this;omega
     ·have:=bT (K.sz c) (show i+1<=i' by omega);rw[dh,fH]at this;omega
    rw[bF hno]at hu;exact out (fun h=>hne h.1) hx1 hv (CG _ _ _ hu)
  ·rintro i1 j1 i2 j2 k (⟨a1,v1,a2,a3⟩|⟨a1,x1,c1,l1,u1,a2,a3,a4,a5⟩) (⟨e1,v2,e2,e3⟩|⟨e1,x2,c2,l2,u2,e2,e3,e4,e5⟩)
   ·obtain⟨h1,o1,r1,q1,q2,q3,q4,q5⟩:=a3;obtain⟨h2,o2,r2,p1,p2,p3,p4,p5⟩:=e3;subst q1;subst p1;have:=hs.dx _ _ _ _ _ _ _ q2 q3 q4 q5 p2 p3 p4 p5;subst this;have:=yN hn2 a2 e2;obtain⟨rfl,b1,b2⟩:=a1;obtain⟨rfl,d1,d2⟩:=e1;exact⟨rfl,by omega⟩
   ·exact(sr k ⟨b,o,_,cp,rfl,.inr ⟨i2,j2,x2,c2,l2,u2,e1,e2,e3,e4,e5⟩⟩ v1 a3 _ a2).elim
   ·exact(sr k ⟨b,o,_,cp,rfl,.inr ⟨i1,j1,x1,c1,l1,u1,a1,a2,a3,a4,a5⟩⟩ v2 e3 _ e2).elim
   ·exact h8 i1 j1 i2 j2 x1 x2 c1 l1 c2 l2 u1 u2 k a1 e1 a2 e2 a3 e3 a4 e4 a5 e5
 have nC:eZ D w ρ H (h::bq x.bp) b:=⟨h,_,_,by simp,ho,rfl,hb,b,o,_,cp,rfl,.inl rfl⟩;have sq:∀i2 j k,F i2 j k->eZ D w ρ H (h::bq x.bp) k/\k≠b:=fun i2 j k hk=>by
  rcases hk with⟨-,v,a2,a3⟩|⟨a1,x1,c1,l1,u1,a2,a3,a4,a5⟩
  ·refine⟨?_,fun e=>by subst e;exact sr _ ⟨_,o,_,cp,rfl,.inl rfl⟩ v a3 _ a2⟩;obtain⟨h',o',r',e,q2,q3,q4,q5⟩:=a3;subst e;exact⟨h',o',r',gC.2 (.inr (wk a2)),q2,q3,q4,q5⟩
  ·refine⟨⟨h,_,_,by simp,ho,rfl,hb,b,o,_,cp,rfl,.inr ⟨i2,j,x1,c1,l1,u1,a1,a2,a3,a4,a5⟩⟩,fun e=>?_⟩;subst e;exact((h7 i2 x1 a2 j _ u1 a1 a3 a4).2 c1 l1 rfl).2 a5
 have RW:Row D w' c (l.set i y) _ F:=R.world fun i j k hk=>e5 k (sq i j k hk).2
 have hsize:vs'.size=vs.size:=by have:=fF List.length e3;rw[jX]at this;simpa using this
 have hlz:X.cells.size=n:=by simpa using hlen
 obtain⟨T1,T2⟩:=RW.tree hD e2 (o:=o) (cap:=cp) ⟨by simpa using hcap,dw⟩ (by omega) hfr (fun k hk=>by
  rw[f0]at hk;rw[e3,jb _ _ _ _ (by simp;omega),jb _ _ _ _ (by rw[hbl];omega)];by_cases hc2:i*K.sz c+off<=k/\k<i*K.sz c+off+X.cells.toList.length
  ·rw[aF (by omega),aF hc2];congr 1;omega
  ·rw[bF (by omega),bF hc2,ca,aF hk,dC]) (fun i j h=>(sq i j b h).2 rfl)
 rw[f0]at T1 T2;refine Vt hs ho rfl hb (w':=w') ?_ e4 (fun k hno=>e5 k fun e=>by subst e;exact hno nC) e6 e7 e8 T1 fun k hk=>?_
 ·have:(storeVar t ⟨b,o+i*K.sz c+off,none⟩ X).run P w=.ok () w':=by rw[CE hn (by simpa using hlen)];exact e1
  simp[Instr.storeAt,Instr.sureAddr,this]
 ·rcases T2 k hk with rfl|⟨i,j,_,h⟩
  ·exact nC
  ·exact(sq i j k h).1
theorem ajD{cx:Cx K}(hD:bo cx.D)(hs:aS cx.D ρ S w H){ev:Operand->AV K}{ρe:Operand->Value}(hev:∀x,Rep cx.D ρ S w (ev x) (ρe x)){o:Oper}{v:AV K}{H':List (Ob K)}{c:Bool}{t:List Nat}
 (h:wq cx ev H o.op=some (v,H',c,t)) (hc:c=true):Does cx.D cx.P ρ S H w (execOp ρe o) v H':=by
 unfold wq at h;unfold execOp;split at h
 all_goals first|(cases h;done)|(rename_i hop;rw[hop];dsimp only)
 ·
  rename_i T len cap;split at h
  ·cases h
  ·rename_i e he;split at h
   ·rename_i cc z kl n kc m hty hz hl hcp;split at h
    ·rename_i hcond;obtain⟨-,hsz,hroom,hk⟩:=hcond;split at h
     ·rename_i zs hg;split at h
      ·rename_i y b hdec;simp only[av,bc]at h;obtain⟨rfl,rfl,rfl,rfl⟩:=h;have h1:=hev len;rw[hl]at h1;have h2:=hev cap;rw[hcp]at h2;rw[ei h1,ei h2];simp only[bk,bC]at hc;obtain⟨hb,hc⟩:=hc;subst hb;exact ajt hD hs he hsz hroom hz hk hg hdec hc.1 hc.2.1 hc.2.2 (nE hty)
      ·cases h
     ·cases h
    ·cases h
   ·cases h
 ·
  rename_i T len parts;split at h
  ·cases h
  ·rename_i e he;split at h
   ·rename_i cc l hty hl;split at h
    ·rename_i hcond;obtain⟨-,hsz,hz,hlen,h1,h2,hall,hnd⟩:=hcond;split at h
     ·rename_i l' hg;split at h
      ·rename_i y b hdec;simp only[av,bc]at h;obtain⟨rfl,rfl,rfl,rfl⟩:=h;subst hc;exact ajw hD hs hev he hsz hz hl hlen h1 h2 hall hnd hg hdec (nE hty)
      ·cases h
     ·cases h
    ·cases h
   ·cases h
 ·
  rename_i T p x;split at h
  ·rename_i hh st i off n hp hn;split at h
   ·rename_i cc l hob;split at h
    ·rename_i hcond;obtain⟨rfl,hoff,i3,h1,hnd⟩:=hcond;split at h
     ·rename_i xs hg;split at h
      ·rename_i y b hdec;simp only[av,bc]at h;obtain⟨rfl,rfl,rfl,rfl⟩:=h;subst hc;have hA:=hev p;rw[hp]at hA;exact ajB hD hs hn i3 h1 hob hoff hnd hg hdec (hev x) hA
      ·cases h
     ·cases h
    ·cases h
   ·rename_i cc l i' off' cs hob;split at h
    ·rename_i hcond;obtain⟨rfl,rfl,hcn,i3,h1,hnd⟩:=hcond;split at h
     ·rename_i xs hg;split at h
      ·rename_i y b hdec;simp only[av,bc]at h;obtain⟨rfl,rfl,rfl,rfl⟩:=h;simp only[bk,bC]at hc;obtain⟨rfl,rfl⟩:=hc;have hA:=hev p;rw[hp]at hA;exact ajC hD hs hn hcn i3 h1 hob hnd hg hdec (hev x) hA
      ·cases h
     ·cases h
    ·cases h
   ·cases h
  ·cases h
 ·
  rename_i args argTypes;split at h
  ·rename_i s x sT xT hargs hat;have ea:args= #[s,x]:=by rw[<-Array.toArray_toList (xs:=args),hargs]
   have et:argTypes= #[sT,xT]:=by rw[<-Array.toArray_toList (xs:=argTypes),hat]
   subst ea;subst et;have hres:(do let d<-resolve ρe {callee:=.builtin .append,args:= #[s,x],argTypes:= #[sT,xT]} o.type;invoke d.target d.args:Sem Next)=
    (do pure (.value (<-Builtin.append_ #[sT,xT] o.type #[ρe s,ρe x])):Sem Next):=by simp[resolve,invoke,builtin]
   rw[hres];split at h
   ·cases h
   ·rename_i hxT;simp only[fU,Ee,qH,Option.isSome_eq_false_iff,Option.isNone_iff_eq_none]at hxT;obtain⟨hx1,hx2⟩:=hxT;obtain⟨d,hd⟩:=Option.ne_none_iff_exists'.1 hx2;have hdk:∀k,d≠.int k:=fun k e=>by subst e;simp[wu,hd]at hx1
    split at h
    ·cases h
    ·rename_i e he;split at h
     ·cases h
     ·rename_i cc hty;split at h
      ·rename_i hcond;obtain⟨-,hsz,hroom,hz⟩:=hcond;obtain⟨i,hi,hisz⟩:=ly hsz;obtain⟨z,hzv,hzs⟩:=wW hz hi;have hb:=sP hroom hi;split at h
       ·rename_i l ks m ks' hl hm;split at h
        ·rename_i hnd;simp only[av,bc]at h;obtain⟨rfl,rfl,rfl,rfl⟩:=h;exact ajA hD hs (gw he) hd hdk hi hisz hzv (by rw[hzs,hisz]) hb hl hm hnd (hev s) (hev x) (by simpa using hc) (nE hty)
        ·cases h
       ·cases h
      ·cases h
  ·cases h
theorem ajE{cx:Cx K}(hD:bo cx.D)(hs:aS cx.D ρ S w H){ev:Operand->AV K}{ρe:Operand->Value}(hev:∀x,Rep cx.D ρ S w (ev x) (ρe x)){o:Oper}{v:AV K}{H':List (Ob K)}{c:Bool}{t:List Nat}
 (h:wv cx ev H o.op=some (v,H',c,t)) (hc:c=true):∃S1 H1,Step cx.D H.length ρ S H w ρ S1 H1 w/\H1.length=H.length/\Does cx.D cx.P ρ S1 H1 w (execOp ρe o) v H':=by
 unfold wv at h;split at h
 ·rename_i r hd;simp only[av]at h;subst h;exact⟨S,H,Step.refl,rfl,ajD hD hs (fun x=>ml hs _ _ (hev x)) hd hc⟩
 split at h
 ·exact⟨S,H,Step.refl,rfl,VB hD hs (fun x=>ml hs _ _ (hev x)) h hc⟩
 ·generalize jq ev o.op=hs0 at h;obtain⟨S1,g1,g2,g3⟩:=B9 (n0:=H.length) hs0 hs;have hev1:∀x,Rep cx.D ρ S1 w (dr (gz H hs0) (ev x)) (ρe x):=fun x=>ml g1 _ _ ((hev x).mono g2.s1 (fun _ _=>rfl) (fun _ _ h=>h))
  refine⟨S1,_,g2,g3,?_⟩;split at h
  ·rename_i v1 c1 hp;simp only[av,bc]at h;obtain⟨rfl,rfl,rfl,rfl⟩:=h;obtain⟨u,hu,hr⟩:=VC hD g1 hev1 hp hc;exact⟨_,u,w,ρ,hu,.inl rfl,g1,hr,Step.refl⟩
  ·exact VB hD g1 hev1 h hc
end Go.V
namespace Go.V
open Go
variable {K :cA}{D:bj K}{ρ ρ':List Value}{S S':Nat->Prop}{w w':World}{H H':List (Ob K)}
theorem ajF:∀(zs cs:List (AV K))(q j:Nat),q+zs.length<=cs.length->(setCells cs q zs)[j]?=if q<=j/\j<q+zs.length then zs[j-q]? else cs[j]?:=fun zs=>by
 induction zs with
 |nil=>intro cs q j _;rw[bF (by first|omega|simp)];rfl
 |cons z r ih=>
  intro cs q j hq;simp only[cr]at hq;rw[setCells,ih _ _ _ (by simp;omega)];by_cases h1:q+1<=j/\j<q+1+r.length
  ·rw[aF h1,aF (by simp;omega),show j-q=(j-(q+1))+1 by omega];rfl
  ·rw[bF h1];by_cases h2:j=q
   ·subst h2;rw[aF (by simp),iO];simp;omega
   ·rw[bF (by simp;omega),iO,bF (by omega)]
theorem aS.split(hs:aS D ρ S w H){h:Nat}{o o':Ob K}{r:Value}{os:List (Ob K)}{rs:List Value}(h1:H[h]?=some o)(h2:o.live=true)(h3:ρ[h]?=some r)(hl:rs.length=os.length)
 (ho:∀(m:Nat) p q,os[m]?=some p->rs[m]?=some q->eP D (ρ++rs) S w p q/\∀k,bS D w p q k->bS D w o r k)
 (hd:∀(m m':Nat) p p' q q' k,os[m]?=some p->rs[m]?=some q->os[m']?=some p'->rs[m']?=some q'->bS D w p q k->bS D w p' q' k->m=m')
 (ho':eP D (ρ++rs) S w o' r) (hf':∀k,bS D w o' r k->bS D w o r k) (hx:∀(m:Nat) p q k,os[m]?=some p->rs[m]?=some q->bS D w p q k->¬bS D w o' r k):
 aS D (ρ++rs) S w (H.set h o'++os)/\Step D H.length ρ S H w (ρ++rs) S (H.set h o'++os) w:=by
 have hlen:=hs.len;have key:∀(k:Nat) x y,(H.set h o'++os)[k]?=some x->(ρ++rs)[k]?=some y->(k=h/\x=o'/\y=r)\/(k≠h/\k<H.length/\H[k]?=some x/\ρ[k]?=some y)\/(H.length<=k/\os[k-H.length]?=some x/\rs[k-H.length]?=some y):=fun k x y hk hy=>by
  by_cases hkl:k<H.length
  ·rw[cD (by simpa using hkl)]at hk;rw[cD (by omega)]at hy;rcases dF hk with⟨rfl,rfl,-⟩|⟨hne,hk⟩
   ·rw[h3]at hy;simp at hy;exact .inl ⟨rfl,rfl,hy.symm⟩
   ·exact .inr (.inl ⟨hne,hkl,hk,hy⟩)
  ·rw[cO (by simp;omega)]at hk;rw[cO (by omega)]at hy;simp only[f0]at hk;rw[hlen]at hy;exact .inr (.inr ⟨by omega,hk,hy⟩)
 have own:∀b,Own D w (ρ++rs) (H.set h o'++os) b->Own D w ρ H b:=fun b ⟨k,x,y,g1,g2,g3,g4⟩=>by
  rcases key k x y g1 g3 with⟨-,rfl,rfl⟩|⟨-,-,a,b⟩|⟨-,a,b⟩
  ·exact⟨h,o,_,h1,h2,h3,hf' _ g4⟩
  ·exact⟨k,x,y,a,g2,b,g4⟩
  ·exact⟨h,o,r,h1,h2,h3,(ho _ _ _ a b).2 _ g4⟩
 refine⟨⟨by simp[hlen,hl],fun k x y g1 g3=>?_,fun k k' x x' y y' b g1 g2 g3 g4 e1 e2 e3 e4=>?_,fun b hb=>hs.lt b (own b hb),hs.slt,hs.base⟩,rfl,rfl,rfl,cH _,fun _ _ _=>rfl,fun b hb=>.inl (own b hb),fun _ h=>h,fun _ h=>.inl h,fun k hk=>?_⟩
 ·rcases key k x y g1 g3 with⟨-,rfl,rfl⟩|⟨-,-,a,b⟩|⟨-,a,b⟩
  ·exact ho'
  ·exact(hs.ob _ _ _ a b).mono (fun _ h=>h) (fun _ _=>rfl) (fun _ _ h=>mi h) (fun _ _ _=>rfl)
  ·exact(ho _ _ _ a b).1
 ·have other:∀{k:Nat}{x:Ob K}{y:Value},k≠h->H[k]?=some x->x.live=true->ρ[k]?=some y->bS D w x y b->¬bS D w o r b:=fun{k x y} hn a1 a2 a3 a4 a5=>hn (hs.dx _ _ _ _ _ _ _ a1 a2 a3 a4 h1 h2 h3 a5)
  rcases key k x y g1 g3 with⟨rfl,rfl,rfl⟩|⟨n1,l1,a1,b1⟩|⟨l1,a1,b1⟩
  ·rcases key k' x' y' e1 e3 with⟨rfl,rfl,rfl⟩|⟨n2,l2,a2,b2⟩|⟨l2,a2,b2⟩
   ·rfl
   ·exact absurd (hf' _ g4) (other n2 a2 e2 b2 e4)
   ·exact absurd g4 (hx _ _ _ _ a2 b2 e4)
  ·rcases key k' x' y' e1 e3 with⟨rfl,rfl,rfl⟩|⟨n2,l2,a2,b2⟩|⟨l2,a2,b2⟩
   ·exact absurd (hf' _ e4) (other n1 a1 g2 b1 g4)
   ·exact hs.dx _ _ _ _ _ _ _ a1 g2 b1 g4 a2 e2 b2 e4
   ·exact absurd ((ho _ _ _ a2 b2).2 _ e4) (other n1 a1 g2 b1 g4)
  ·rcases key k' x' y' e1 e3 with⟨rfl,rfl,rfl⟩|⟨n2,l2,a2,b2⟩|⟨l2,a2,b2⟩
   ·exact absurd e4 (hx _ _ _ _ a1 b1 g4)
   ·exact absurd ((ho _ _ _ a1 b1).2 _ g4) (other n2 a2 e2 b2 e4)
   ·have:=hd _ _ _ _ _ _ _ a1 b1 a2 b2 g4 e4;omega
 ·rw[cD (by omega)]
theorem Tree.arr(hD:bo D){c:K.U}{l:List (K.El c)}{r:Value}(hfl:dn (D.cells c (K.zero c))=false)(h:Tree D w c l r):eP D ρ S w (.arr c l) r/\∀k,im r=some k->cK D w c l r k:=by
 cases h with
 |nil=>exact⟨.inl ⟨rfl,rfl⟩,fun k hk=>by cases hk⟩
 | @mk _ _ b o cap vs T fr hb hcap hsz hfr hlen fZ jQ hself hdis=>
   refine⟨.inr ⟨b,o,cap,vs,T,fr,rfl,hb,hcap,hsz,hfr,fun i x hx=>⟨hlen i x hx,fun j v y hv hy=>?_⟩⟩,fun k hk=>?_⟩
   ·have hrd:v.jP=false:=by
     cases hd:v.jP
     ·rfl
     ·obtain⟨c',l',rfl⟩:=Cm hd;have:dn (D.cells c x)=true:=by
       have hm:=fN hv;generalize D.cells c x=L at hm
       induction L with
       |nil=>cases hm
       |cons a r ih=>
        simp only[dn,fU];rcases gC.1 hm with rfl|hm
        ·exact .inl rfl
        ·exact .inr (ih hm)
      rw[hD.flat,hfl]at this;cases this
    exact(fZ i x hx j v y hv hy hrd).2.mono (fun _ h=>h.elim) (fun _ h=>h.elim) (fun _ _ h=>by simp at h)
   ·simp only[im,av]at hk;subst hk;exact .here
theorem IF(hD:bo D){dp:K.U->Bool}:∀(cells:List (AV K))(us:List Value)(n:Nat)(cs:List (AV K))(os:List (Ob K))(G:Nat->Nat->Prop),pV D dp n cells=some (cs,os)->cells.length=us.length->
 (∀(j:Nat) v u,cells[j]?=some v->us[j]?=some u->ij D w v u (G j))->∃(rs:List Value)(f:Nat->Nat),rs.length=os.length/\cs.length=cells.length/\(∀m m',f m=f m'->m=m')/\(∀m,m<os.length->f m<cells.length)/\
   (∀ρ0:List Value,ρ0.length=n->∀(j:Nat) v u,cs[j]?=some v->us[j]?=some u->Rep D (ρ0++rs) S w v u)/\
   ∀(m:Nat) p q,os[m]?=some p->rs[m]?=some q->(∀ρ,eP D ρ S w p q)/\∀k,bS D w p q k->G (f m) k
 |[],us,n,cs,os,G,h,hl,hok=>by
   simp only[pV,av,bc]at h;obtain⟨rfl,rfl⟩:=h;exact⟨[],id,rfl,rfl,fun _ _ h=>h,fun m hm=>by simp at hm,fun _ _ j v u h=>by simp at h,fun m p q h=>by simp at h⟩
 |x::r,us,n,cs,os,G,h,hl,hok=>by
  cases us with
  |nil=>simp at hl
  |cons y t=>
   have hx:=hok 0 x y rfl rfl;have hok':∀(j:Nat) v u,r[j]?=some v->t[j]?=some u->ij D w v u (G (j+1)):=fun j v u hv hu=>hok (j+1) v u (by simpa using hv) (by simpa using hu)
   have hl':r.length=t.length:=by simpa using hl
   by_cases hd:x.jP=true
   ·obtain⟨c,l,rfl⟩:=Cm hd;simp only[pV]at h;split at h
    ·rename_i hc;split at h
     ·rename_i cs' os' hr;simp only[av,bc]at h;obtain⟨rfl,rfl⟩:=h;obtain⟨rs,f,a1,a2,a3,a4,a5,a6⟩:=IF hD r t (n+1) cs' os' (fun j=>G (j+1)) hr hl' hok';obtain⟨hT,hG⟩:=hx.kid c l rfl;refine⟨y::rs,fun m=>match m with|0=>0|m+1=>f m+1,by simp[a1],by simp[a2],fun m m' e=>?_,fun m hm=>?_,fun ρ0 h0 j v u hv hu=>?_,fun m p q hp hq=>?_⟩
      ·cases m<;>cases m'<;>simp at e<;>first|rfl|exact fF (· +1) (a3 _ _ e)
      ·cases m with
       |zero=>simp
       |succ m=>have:=a4 m (by simpa using hm);simp;exact this
      ·cases j with
       |zero=>
        simp at hv hu;subst hv;subst hu;obtain⟨a,cp,e⟩:=CB hT;rw[e];exact .sl (by rw[cO (by omega),h0];simp[e])
       |succ j=>
        have:=a5 (ρ0++[y]) (by simp[h0]) j v u (by simpa using hv) (by simpa using hu);simpa using this
      ·cases m with
       |zero=>
        simp at hp hq;subst hp;subst hq;cases hdp:dp c
        ·rw[hdp]at hc;have hc':dn (D.cells c (K.zero c))=false:=by simpa using hc
         simp only[aZ];exact⟨fun ρ=>(hT.arr hD hc').1,fun k hk=>hG k ((hT.arr (ρ:=[]) (S:=S) hD hc').2 k hk)⟩
        ·simp only[aE];exact⟨fun ρ=>hT,fun k hk=>hG k hk⟩
       |succ m=>exact a6 m p q (by simpa using hp) (by simpa using hq)
     ·cases h
    ·cases h
   ·have hd':x.jP=false:=by simpa using hd
    have e:pV D dp n (x::r)=(match pV D dp n r with
     |some (cs,os)=>some (x::cs,os)
     |none=>none):=by
     cases x<;>first|rfl|(simp[AV.jP]at hd)
    rw[e]at h;split at h
    ·rename_i cs' os' hr;simp only[av,bc]at h;obtain⟨rfl,rfl⟩:=h;obtain⟨rs,f,a1,a2,a3,a4,a5,a6⟩:=IF hD r t n cs' os' (fun j=>G (j+1)) hr hl' hok';refine⟨rs,fun m=>f m+1,a1,by simp[a2],fun m m' e=>a3 _ _ (by simpa using e),fun m hm=>by have:=a4 m hm;simp;exact this,fun ρ0 h0 j v u hv hu=>?_,fun m p q hp hq=>a6 m p q hp hq⟩;cases j with
     |zero=>
      simp at hv hu;subst hv;subst hu;exact(hx.flat hd').2.mono (fun _ h=>h.elim) (fun _ h=>h.elim) (fun _ _ h=>by simp at h)
     |succ j=>exact a5 ρ0 h0 j v u (by simpa using hv) (by simpa using hu)
    ·cases h
theorem VD{b:Nat}{vs:Array Value}{T:TypeId}{fr:Nat×Nat}(hb:w.heap[b]?=some (.cells vs T fr))(k:Nat):w.cell? ⟨b,k,none⟩=vs.toList[k]?:=by
 simp[World.cell?,hb]
theorem ajG{b p n j:Nat}{vs:Array Value}{T:TypeId}{fr:Nat×Nat}(hb:w.heap[b]?=some (.cells vs T fr))(hj:j<n):w.cell? ⟨b,p+j,none⟩=(bR vs p n)[j]?:=by
 rw[VD hb,wb hj]
theorem ajH{cx:Cx K}(hD:bo cx.D)(hs:aS cx.D ρ S w H){ev:Operand->AV K}{ρe:Operand->Value}(hev:∀x,Rep cx.D ρ S w (ev x) (ρe x)){o:Oper}{v:AV K}{H':List (Ob K)}{c:Bool}{t:List Nat}
 (h:wy cx ev H o.op=some (v,H',c,t)):Does cx.D cx.P ρ S H w (execOp ρe o) v H':=by
 unfold wy at h;unfold execOp;split at h
 ·rename_i T p hop;rw[hop];dsimp only;split at h
  ·split at h
   ·rename_i hh st i off ag n hp hag hn;split at h
    ·rename_i c0 l ho;split at h
     ·rename_i hcond;obtain⟨hst,hoff,hn0⟩:=hcond;subst hst;split at h
      ·rename_i cs os VE;simp only[av,bc]at h;obtain⟨rfl,rfl,-,-⟩:=h;have hX:=hev p;rw[hp]at hX;obtain⟨b,q,m,cp,hXe,hb,hi⟩:=mh hX;have hT:Tree cx.D w c0 l (.slice (some ⟨b,q,none⟩) m cp):=hs.ob _ _ _ ho hb;have hfr0:∀k,iK cx.D w c0 l i off cs.length (.slice (some ⟨b,q,none⟩) m cp) k->cK cx.D w c0 l (.slice (some ⟨b,q,none⟩) m cp) k:=by
        rintro k ⟨b',q',m',cp',e,rfl|⟨i',j',x,c',l',y,-,g2,g3,g4,g5⟩⟩
        ·cases e;exact .here
        ·cases e;exact .kid g2 g3 g4 g5
       generalize hR:(Value.slice (some ⟨b,q,none⟩) m cp)=R at hT hfr0;cases hT with
       |nil=>cases hR
       | @mk _ _ b' q' cap vs TT fr hblk hcap hsz hfr hlen fZ jQ hself hdis=>
       cases hR;have hx0:=getD_some (K.zero c0) hi;generalize l.getD i (K.zero c0)=x0 at hx0 VE;have hc0:(cx.D.cells c0 x0).length=K.sz c0:=hD.len _ _;have hcl:(((cx.D.cells c0 x0).drop off).take n).length=n:=by simp[hc0];omega
       have hsl:(bR vs (q+i*K.sz c0) (K.sz c0)).length=K.sz c0:=by rw[<-hlen i x0 hx0,hc0]
       have pU:(((bR vs (q+i*K.sz c0) (K.sz c0)).drop off).take n).length=n:=by simp[hsl];omega
       have hcg:∀j,j<n->(((cx.D.cells c0 x0).drop off).take n)[j]?=(cx.D.cells c0 x0)[off+j]?:=fun j hj=>by rw[ca,aF hj,dC]
       have IG:∀j,j<n->(((bR vs (q+i*K.sz c0) (K.sz c0)).drop off).take n)[j]?=(bR vs (q+i*K.sz c0) (K.sz c0))[off+j]?:=fun j hj=>by rw[ca,aF hj,dC]
       have hlt:∀{j:Nat}{v:AV K},(((cx.D.cells c0 x0).drop off).take n)[j]?=some v->j<n:=fun{j v} h=>by rw[<-hcl];exact(bB.1 h).1
       obtain⟨rs,f,a1,a2,a3,a4,a5,a6⟩:=IF (S:=S) (w:=w) hD _ (((bR vs (q+i*K.sz c0) (K.sz c0)).drop off).take n) H.length cs os
        (fun j k=>∃(c':K.U)(l':List (K.El c'))(u:Value),(cx.D.cells c0 x0)[off+j]?=some (.ah c' l')/\(bR vs (q+i*K.sz c0) (K.sz c0))[off+j]?=some u/\cK cx.D w c' l' u k) VE (by rw[hcl,pU]) (fun j v u hv hu=>by
          have hj:=hlt hv;rw[hcg j hj]at hv;rw[IG j hj]at hu;exact⟨fun hd=>fZ i x0 hx0 _ _ _ hv hu hd,fun c' l' e=>by subst e;exact⟨jQ i x0 hx0 _ _ _ _ hv hu,fun k hk=>⟨c',l',u,hv,hu,hk⟩⟩⟩)
       rw[hcl]at a2 a4;have hrl:=hs.len;have hG:∀j k,(∃(c':K.U)(l':List (K.El c'))(u:Value),(cx.D.cells c0 x0)[off+j]?=some (.ah c' l')/\(bR vs (q+i*K.sz c0) (K.sz c0))[off+j]?=some u/\cK cx.D w c' l' u k)->
        cK cx.D w c0 l (.slice (some ⟨b,q,none⟩) l.length cp) k:=fun j k ⟨c',l',u,g1,g2,g3⟩=>.kid hx0 g1 (seg_cell hblk g2) g3
       have hseg:∀{i' j':Nat}{x:K.El c0}{v:AV K}{u:Value},(cx.D.cells c0 x)[j']?=some v->w.cell? ⟨b,q+i'*K.sz c0+j',none⟩=some u->(bR vs (q+i'*K.sz c0) (K.sz c0))[j']?=some u:=fun{i' j' x v u} hv hu=>by
        rw[<-ajG hblk (by rw[<-hD.len c0 x];exact(bB.1 hv).1)];exact hu
       have hfm:∀{m:Nat}{p:Ob K},os[m]?=some p->f m<n:=fun{m p} h=>a4 m (bB.1 h).1
       obtain⟨s1,s2⟩:=hs.split (o':=.opn c0 l i off cs) (os:=os) (rs:=rs) ho rfl hb a1
        (fun m p q h1 h2=>⟨(a6 m p q h1 h2).1 _,fun k hk=>hG _ _ ((a6 m p q h1 h2).2 k hk)⟩)
        (fun m m' p p' q q' k h1 h2 h3 h4 h5 h6=>by
          obtain⟨c1,l1,u1,g1,g2,g3⟩:=(a6 m p q h1 h2).2 k h5;obtain⟨c2,l2,u2,e1,e2,e3⟩:=(a6 m' p' q' h3 h4).2 k h6;have:=(hdis i x0 hx0 _ _ _ _ g1 g2 i x0 hx0 _ _ _ _ e1 e2 k g3 e3).2;exact a3 _ _ (by omega))
        (by
          refine⟨b,q,cp,vs,TT,fr,rfl,hblk,hcap,hsz,hfr,hi,by rw[a2];exact hoff,fun i' x hx j' v u hh hv hu=>?_,fun i1 j1 i2 j2 x1 x2 c1 l1 c2 l2 u1 u2 k _ _ b1 b2 b3 b4 b5 b6 b7 b8=>?_,fun j v hv=>?_⟩
          ·have hu':=hseg hv hu;exact⟨fun hd=>fZ i' x hx _ _ _ hv hu' hd,fun c' l' e=>by subst e;exact⟨jQ i' x hx _ _ _ _ hv hu',hself i' x hx _ _ _ _ hv hu'⟩⟩
          ·exact hdis i1 x1 b1 j1 c1 l1 u1 b3 (hseg b3 b5) i2 x2 b2 j2 c2 l2 u2 b4 (hseg b4 b6) k b7 b8
          ·have hj:j<n:=by rw[<-a2];exact(bB.1 hv).1
           have hu:=bW (show j<(((bR vs (q+i*K.sz c0) (K.sz c0)).drop off).take n).length by rw[pU];exact hj);refine⟨_,?_,a5 ρ hrl j v _ hv hu⟩;rw[IG j hj]at hu;have:=seg_cell hblk hu
           rwa [<-jH]at this)
        hfr0
        (fun m p q' k h1 h2 h3 hO=>by
          obtain⟨c1,l1,u1,g1,g2,g3⟩:=(a6 m p q' h1 h2).2 k h3;obtain⟨b',q',m',cp',e,rfl|⟨i',j',x,c',l',y,hh,k2,k3,k4,k5⟩⟩:=hO
          ·cases e;exact hself i x0 hx0 _ _ _ _ g1 g2 g3
          ·cases e;obtain⟨rfl,rfl⟩:=hdis i x0 hx0 _ _ _ _ g1 g2 i' x k2 _ _ _ _ k3 (hseg k3 k4) k g3 k5;exact hh ⟨rfl,by omega,by have:=hfm h1;omega⟩)
       have hM:aV cx.D (ρ++rs) S w (List.replicate off .any++cs++List.replicate (K.sz c0-off-n) .any) (bR vs (q+i*K.sz c0) (K.sz c0)):=by
        refine⟨by simp[hsl,a2];omega,fun j v u hv hu=>?_⟩;by_cases h1:j<off
        ·rw[cD (by simp;omega),cD (by simpa using h1),dR,aF h1]at hv;simp at hv;subst hv;exact .any _
        ·by_cases h2:j<off+n
         ·rw[cD (by simp[a2];omega),cO (by simp;omega),fc]at hv;refine a5 ρ hrl (j-off) v u hv ?_;rw[IG _ (by omega),show off+(j-off)=j by omega];exact hu
         ·rw[cO (by simp[a2];omega),dR]at hv;split at hv
          ·simp at hv;subst hv;exact .any _
          ·cases hv
       have htk:jS cx.P T (List.replicate off .any++cs++List.replicate (K.sz c0-off-n) .any) off=some (cond ag (.agg cs) (cs.getD 0 .any)):=by
        unfold jS;rw[hag,hn];have hdr:(List.replicate off AV.any++cs++List.replicate (K.sz c0-off-n) AV.any).drop off=cs++List.replicate (K.sz c0-off-n) (AV.any:AV K):=by
         rw[nX,List.drop_append_of_le_length (by simp)];simp
        cases ag with
        |true=>
         simp only[aE];rw[aF (by simp[a2]),hdr,CH (by omega),vP (by omega)]
        |false=>
         simp only[aZ];rw[nX,cO (by simp)];simp only[fc,rh];rw[cD (by omega)];rw[cY,bW (by omega)];rfl
       obtain⟨u,hu,hr⟩:=wz (P:=cx.P) (o:=q+i*K.sz c0) (b:=b) htk (by
        intro j y hy;have:=pP hblk (q+i*K.sz c0) (K.sz c0) j y hy;exact this) hM
       refine⟨_,u,w,ρ++rs,eD (f:=.value) ?_,.inl rfl,s1,hr,s2⟩;rw[hXe];simpa [Instr.loadAt,Instr.sureAddr]using hu
      ·cases h
     ·cases h
    ·cases h
   ·cases h
  ·cases h
 ·cases h
theorem VF(hD:bo D)(hs:aS D ρ S w H){n0:Nat}{t:List Nat}(h:shut D H=some (H',true,t)):aS D ρ S w H'/\Step D n0 ρ S H w ρ S H' w/\H'.length=H.length:=by
 unfold shut at h;split at h
 ·simp only[av,bc]at h;obtain⟨rfl,-,-⟩:=h;exact⟨hs,Step.refl,rfl⟩
 ·rename_i h0 _;split at h
  ·rename_i c l i off cs ho;split at h
   ·rename_i hnd;split at h
    ·rename_i xs hg;split at h
     ·rename_i y bb hdec;simp only[av,bc]at h;obtain⟨rfl,rfl,-⟩:=h;have hlt:h0<H.length:=(bB.1 ho).1;have hr:=bW (show h0<ρ.length by rw[hs.len];exact hlt);generalize ρ[h0]'(by rw[hs.len];exact hlt)=r at hr;obtain⟨hn1,hn2⟩:=uy.1 (wj hnd);have hO:jR D ρ S w c l i off cs r:=hs.ob _ _ _ ho hr;obtain⟨b,o,cap,vs,T,fr,rfl,hblk,⟨hcap,dw⟩,hsz,hfr,hi,hoff,h7,h8,h9⟩:=hO;have hx0:=getD_some (K.zero c) hi;generalize l.getD i (K.zero c)=x0 at hx0 hdec;obtain⟨gl,gg⟩:=wh _ _ hg;obtain⟨dl,dd⟩:=hD.wa _ _ _ hdec;have nD:=fun j=>ajF xs (D.cells c x0) off j (by rw[hD.len];omega)
      rw[gl]at nD;have hlc:l.length*K.sz c<=cap*K.sz c:=bT _ hcap;have CG:∀(i' j:Nat) u,((vs.toList.drop o).take (l.length*K.sz c))[i'*K.sz c+j]?=some u->w.cell? ⟨b,o+i'*K.sz c+j,none⟩=some u:=fun i' j u hu=>by
       rw[ca]at hu;split at hu
       ·rw[dC]at hu;rw[VD hblk,jH];exact hu
       ·cases hu
      have sr:∀k,iK D w c l i off cs.length (.slice (some ⟨b,o,none⟩) l.length cap) k->∀v,nz D w ρ H v k->∀j,cs[j]?=some v->False:=fun k hk v ⟨h',o',r',e,ho',hl',hr',hf'⟩ j hj=>by
       subst e;have:=hs.dx _ _ _ _ _ _ _ ho rfl hr hk ho' hl' hr' hf';subst this;exact hn1 (wk hj)
      let F:Nat->Nat->Nat->Prop:=fun i' j k=>(k7 i off cs.length i' j/\∃v,cs[j-off]?=some v/\nz D w ρ H v k)\/
          (¬k7 i off cs.length i' j/\∃(x:K.El c)(c':K.U)(l':List (K.El c'))(u:Value),l[i']?=some x/\(D.cells c x)[j]?=some (.ah c' l')/\w.cell? ⟨b,o+i'*K.sz c+j,none⟩=some u/\cK D w c' l' u k)
      have R:Row D w c (l.set i y) ((vs.toList.drop o).take (l.length*K.sz c)) F:=by
       refine⟨by simp;omega,fun i' x hx j v u hv hu=>?_,?_⟩
       ·have hu':=CG i' j u hu;have hj:j<K.sz c:=by rw[<-hD.len c x];exact(bB.1 hv).1
        have out:∀{x1:K.El c},¬k7 i off cs.length i' j->l[i']?=some x1->(D.cells c x1)[j]?=some v->ij D w v u (F i' j):=fun{x1} hh hx1 hv1=>by
         obtain⟨k1,k2⟩:=h7 i' x1 hx1 j v u hh hv1 hu';exact(ij.mk (G:=fun k=>∃(c':K.U)(l':List (K.El c')),v=.ah c' l'/\cK D w c' l' u k) k1 fun c' l' e=>⟨(k2 c' l' e).1,fun k hk=>⟨c',l',e,hk⟩⟩).mono fun k ⟨c',l',e,hk⟩=>.inr ⟨hh,x1,c',l',u,hx1,by rw[hv1,e],hu',hk⟩
        rcases dF hx with⟨rfl,rfl,-⟩|⟨hne,hx⟩
        ·by_cases hh:off<=j/\j<off+cs.length
         ·have hjn:j-off<cs.length:=by omega
          have kZ:=bW hjn;obtain⟨v',hv',hgc⟩:=gg _ _ kZ;obtain⟨u',VG,IH⟩:=h9 _ _ kZ;have hidx:o+i'*K.sz c+off+(j-off)=o+i'*K.sz c+j:=by omega
          rw[hidx,hu']at VG;cases VG;obtain⟨k1,k2⟩:=Ce hD hs hgc IH;have hg2:=nD j;rw[aF (by omega),hv']at hg2;rcases dd j _ v hg2 hv with rfl|⟨rfl,c',rfl⟩
          ·exact k1.mono fun k hk=>.inl ⟨⟨rfl,hh⟩,_,kZ,hk⟩
          ·rw[k2 rfl];refine⟨fun e=>(by cases e),fun c l e=>?_⟩;cases e;exact⟨.nil,fun k hk=>by cases hk⟩
         ·have hg2:=nD j;rw[bF (by omega)]at hg2;have ha:=bW (show j<(D.cells c x0).length by rw[hD.len];exact hj);have hv0:(D.cells c x0)[j]?=some v:=by
           rw[ha]at hg2;rcases dd j _ _ hg2 hv with e|⟨e,-⟩
           ·rw[ha,e]
           ·exact absurd e (hD.kinds c _ j _ ha).1
          exact out (fun h=>hh h.2) hx0 hv0
        ·exact out (fun h=>hne h.1) hx hv
       ·rintro i1 j1 i2 j2 k (⟨a1,v1,a2,a3⟩|⟨a1,x1,c1,l1,u1,a2,a3,a4,a5⟩) (⟨e1,v2,e2,e3⟩|⟨e1,x2,c2,l2,u2,e2,e3,e4,e5⟩)
        ·obtain⟨h1,o1,r1,q1,q2,q3,q4,q5⟩:=a3;obtain⟨h2,o2,r2,p1,p2,p3,p4,p5⟩:=e3;subst q1;subst p1;have:=hs.dx _ _ _ _ _ _ _ q2 q3 q4 q5 p2 p3 p4 p5;subst this;have:=yN hn2 a2 e2;obtain⟨rfl,b1,b2⟩:=a1;obtain⟨rfl,d1,d2⟩:=e1;exact⟨rfl,by omega⟩
        ·exact(sr k ⟨b,o,_,cap,rfl,.inr ⟨i2,j2,x2,c2,l2,u2,e1,e2,e3,e4,e5⟩⟩ v1 a3 _ a2).elim
        ·exact(sr k ⟨b,o,_,cap,rfl,.inr ⟨i1,j1,x1,c1,l1,u1,a1,a2,a3,a4,a5⟩⟩ v2 e3 _ e2).elim
        ·exact h8 i1 j1 i2 j2 x1 x2 c1 l1 c2 l2 u1 u2 k a1 e1 a2 e2 a3 e3 a4 e4 a5 e5
      obtain⟨T1,T2⟩:=R.tree hD hblk (o:=o) (cap:=cap) ⟨by simpa using hcap,dw⟩ hsz hfr (fun k hk=>by
       rw[f0]at hk;rw[ca,aF hk,dC]) (fun i' j hF=>by
       rcases hF with⟨-,v,a2,a3⟩|⟨a1,x1,c1,l1,u1,a2,a3,a4,a5⟩
       ·exact sr b ⟨b,o,_,cap,rfl,.inl rfl⟩ v a3 _ a2
       ·exact((h7 i' x1 a2 j _ u1 a1 a3 a4).2 c1 l1 rfl).2 a5)
      rw[f0]at T1 T2;have hKF:∀k,cK D w c (l.set i y) (.slice (some ⟨b,o,none⟩) l.length cap) k->eZ D w ρ H (h0::bq cs) k:=fun k hk=>by
       rcases T2 k hk with e|⟨i',j,-,⟨-,v,a2,h',o',r',e,q2,q3,q4,q5⟩|⟨a1,x1,c1,l1,u1,a2,a3,a4,a5⟩⟩
       ·exact⟨h0,_,_,by simp,ho,rfl,hr,b,o,_,cap,rfl,.inl e⟩
       ·subst e;exact⟨h',o',r',gC.2 (.inr (wk a2)),q2,q3,q4,q5⟩
       ·exact⟨h0,_,_,by simp,ho,rfl,hr,b,o,_,cap,rfl,.inr ⟨i',j,x1,c1,l1,u1,a1,a2,a3,a4,a5⟩⟩
      have hs1:=Cc (h0::bq cs) hs;have hd:(dO H (h0::bq cs))[h0]?=some .dead:=by
       have hg:=bW (show h0<(dO H (h0::bq cs)).length by rw[wd];exact hlt);rcases Cb _ _ _ _ hg with e|⟨hn,-⟩
       ·rw[hg,e]
       ·exact absurd (by simp) hn
      refine⟨hs1.It hd hr T1 fun k hk=>⟨(hs.lt k (hKF k hk).own).1,(hs.lt k (hKF k hk).own).2,fun hO=>(hKF k hk).yL hs hO⟩,
       ⟨rfl,rfl,rfl,cH _,fun _ _ _=>rfl,fun k hk=>.inl ?_,fun _ h=>h,fun _ h=>.inl h,fun _ _=>rfl⟩,by simp[wd]⟩
      obtain⟨k',o',r',g1,g2,g3,g4⟩:=hk;rcases dF g1 with⟨rfl,rfl,-⟩|⟨-,g1⟩
      ·rw[hr]at g3;simp at g3;subst g3;exact(hKF k g4).own
      ·exact Is ⟨k',o',r',g1,g2,g3,g4⟩
     ·cases h
    ·cases h
   ·cases h
  ·cases h
theorem ajJ{cx:Cx K}(hD:bo cx.D)(hc:aH cx)(hs:aS cx.D ρ S w H){q:Bool}{f:FuncId}{args:List (AV K)}{vals:List Value}{v:AV K}{H':List (Ob K)}{t:List Nat}
 (h:wA q cx H f args=some (v,H',true,t)) (ha:aV cx.D ρ S w args vals):
 qm cx.P f/\Calls cx.P f vals.toArray w fun e w'=>∃u ρ' S',e=.returned u/\aS cx.D ρ' S' w' H'/\Rep cx.D ρ' S' w' v u/\Step cx.D H.length ρ S H w ρ' S' H' w':=by
 unfold wA at h;split at h
 ·split at h
  ·rename_i r H1 c1 t1 hcall;split at h
   ·rename_i H2 b t2 hsh;simp only[av,bc,bk]at h;obtain⟨rfl,rfl,⟨rfl,rfl⟩,-⟩:=h;obtain⟨k1,k2⟩:=Vi hD hc hs hcall ha;refine⟨k1,k2.mono ?_⟩
    rintro e w' ⟨u,ρ',S',rfl,g1,g2,g3⟩
    obtain⟨s1,s2,-⟩:=VF (n0:=H.length) hD g1 hsh;exact⟨u,ρ',S',rfl,s1,g2,g3.trans s2⟩
   ·cases h
  ·cases h
 ·exact Vi hD hc hs h ha
end Go.V
