/-
  DEEP OBJECTS: rows of elements whose slices are deep objects; how such a row is put together, taken apart, turned.
-/
import Derived.Test.YtghkckfhaljjjaaGreatDoorXWcall4
set_option linter.unusedVariables false
namespace Go.V
open Go
variable {K :dh}{D:bH K}{ρ ρ':List Value}{S S':Nat->Prop}{w w':World}{H H':List (Ob K)}
structure na (D:bH K) (w:World) (v:AV K) (u:Value) (G:Nat->Prop):Prop where
 flat:v.oa=false->iL v=false/\Rep D [] (fun _=>False) w v u
 kid:∀(c:K.U)(l:List (K.El c)),v=.an c l->Tree D w c l u/\∀k,dS D w c l u k->G k
theorem na.mono{v:AV K}{u:Value}{G G':Nat->Prop}(h:na D w v u G)(hG:∀k,G k->G' k):na D w v u G':=
 ⟨h.flat,fun c l e=>⟨(h.kid c l e).1,fun k hk=>hG k ((h.kid c l e).2 k hk)⟩⟩
theorem na.world{v:AV K}{u:Value}{G:Nat->Prop}(h:na D w v u G)(hw:∀k,G k->w'.heap[k]?=w.heap[k]?):na D w' v u G:=
 ⟨fun hv=>⟨(h.flat hv).1,(h.flat hv).2.mono (fun _ h=>h) (fun _ h=>h.elim) (fun _ _ h=>h)⟩,fun c l e=>by
   obtain⟨h1,h2⟩:=h.kid c l e;have hk:∀k,dS D w c l u k->w'.heap[k]?=w.heap[k]?:=fun k hk=>hw k (h2 k hk)
   exact⟨h1.mono hk,fun k hk'=>h2 k (hk'.old hk)⟩⟩
structure Row (D:bH K) (w:World) (c:K.U) (l:List (K.El c)) (us:List Value) (F:Nat->Nat->Nat->Prop):Prop where
 len:us.length=l.length*K.sz c
 cell:∀i x,l[i]?=some x->∀(j:Nat) v u,(D.cells c x)[j]?=some v->us[i*K.sz c+j]?=some u->na D w v u (F i j)
 yG:∀i j i2 j2 k,F i j k->F i2 j2 k->i=i2/\j=j2
theorem Row.world{c:K.U}{l:List (K.El c)}{us:List Value}{F:Nat->Nat->Nat->Prop}(h:Row D w c l us F)(hw:∀i j k,F i j k->w'.heap[k]?=w.heap[k]?):Row D w' c l us F:=
 ⟨h.len,fun i x hx j v u hv hu=>(h.cell i x hx j v u hv hu).world (hw i j),h.yG⟩
theorem yH{vs:Array Value}{p n j:Nat}(h:j<n):(db vs p n)[j]?=vs.toList[p+j]?:=by
 simp only[db,fa,iY,aY h]
theorem wa{i j n sz:Nat}(hi:i<n)(hj:j<sz):i*sz+j<n*sz:=by
 have:(i+1)*sz<=n*sz:=ga _ hi;rw[gP,il]at this;omega
theorem Row.tree(hD:bR D){c:K.U}{l:List (K.El c)}{us:List Value}{F:Nat->Nat->Nat->Prop}(R:Row D w c l us F){b o cap:Nat}{vs:Array Value}{T:TypeId}{fr:Nat×Nat}(hb:w.heap[b]?=some (.cells vs T fr))(hcap:l.length<=cap/\im D c T o)
 (hsz:o+cap*K.sz c<=vs.size) (hfr:∀k,o<=k->k<o+cap*K.sz c->¬(fr.1<=k/\k<fr.2)) (hus:∀k,k<l.length*K.sz c->vs.toList[o+k]?=us[k]?) (hF:∀i j,¬F i j b):
 Tree D w c l (.slice (some ⟨b,o,none⟩) l.length cap)/\∀k,dS D w c l (.slice (some ⟨b,o,none⟩) l.length cap) k->k=b\/∃i j,i<l.length/\F i j k:=by
 have hlc:l.length*K.sz c<=cap*K.sz c:=ga _ hcap.1;have key:∀i x,l[i]?=some x->∀(j:Nat) v u,(D.cells c x)[j]?=some v->(db vs (o+i*K.sz c) (K.sz c))[j]?=some u->na D w v u (F i j):=fun i x hx j v u hv hu=>by
  have hj:j<K.sz c:=by rw[<-hD.len c x];exact(bD.1 hv).1
  have hi:=(bD.1 hx).1;rw[yH hj,oh,hus _ (wa hi hj)]at hu;exact R.cell i x hx j v u hv hu
 refine⟨.mk hb hcap hsz hfr (fun i x hx=>?_) (fun i x hx j v y hv hy hd=>(key i x hx j v y hv hy).flat hd) (fun i x hx j c' l' y hj hy=>((key i x hx j _ y hj hy).kid c' l' rfl).1)
  (fun i x hx j c' l' y hj hy hf=>hF i j (((key i x hx j _ y hj hy).kid c' l' rfl).2 _ hf))
  (fun i x hx j c' l' y hj hy i2 x2 hx2 j2 c2 l2 y2 hj2 hy2 k h1 h2=>R.yG i j i2 j2 k (((key i x hx j _ y hj hy).kid c' l' rfl).2 _ h1) (((key i2 x2 hx2 j2 _ y2 hj2 hy2).kid c2 l2 rfl).2 _ h2)),fun k hk=>?_⟩
 ·rw[hD.len];have hi:=(bD.1 hx).1;have:(i+1)*K.sz c<=l.length*K.sz c:=ga _ hi;rw[gP,il]at this;simp[db];omega
 ·cases hk with
  |here=>exact .inl rfl
  | @kid _ _ _ _ _ _ i j _ x c' l' y hx hj hy hk=>
    have hj':j<K.sz c:=by rw[<-hD.len c x];exact(bD.1 hj).1
    have hi:=(bD.1 hx).1;have hlt:=wa hi hj';have hs:(db vs (o+i*K.sz c) (K.sz c))[j]?=some y:=by
     rw[yH hj'];simp only[World.cell?,hb]at hy;simpa using hy
    exact .inr ⟨i,j,hi,((key i x hx j _ y hj hs).kid c' l' rfl).2 k hk⟩
theorem Tree.row(hD:bR D){c:K.U}{l:List (K.El c)}{r:Value}(h:Tree D w c l r):(r=.slice none 0 0/\l=[])\/∃b o cap vs T fr us F,r=.slice (some ⟨b,o,none⟩) l.length cap/\w.heap[b]?=some (.cells vs T fr)/\(l.length<=cap/\im D c T o)/\o+cap*K.sz c<=vs.size/\
 (∀k,o<=k->k<o+cap*K.sz c->¬(fr.1<=k/\k<fr.2))/\(∀k,k<l.length*K.sz c->vs.toList[o+k]?=us[k]?)/\Row D w c l us F/\(∀i j,¬F i j b)/\∀i j k,F i j k->dS D w c l r k:=by
 cases h with
 |nil=>exact .inl ⟨rfl,rfl⟩
 | @mk _ _ b o cap vs T fr hb hcap hsz hfr hlen jG cn hself hdis=>
   have hlc:l.length*K.sz c<=cap*K.sz c:=ga _ hcap.1;have hus:∀k,k<l.length*K.sz c->vs.toList[o+k]?=((vs.toList.drop o).take (l.length*K.sz c))[k]?:=fun k hk=>by
    simp only[fa,iY,aY hk]
   have hseg:∀{i j:Nat}{x:K.El c}{v:AV K}{u:Value},l[i]?=some x->(D.cells c x)[j]?=some v->((vs.toList.drop o).take (l.length*K.sz c))[i*K.sz c+j]?=some u->(db vs (o+i*K.sz c) (K.sz c))[j]?=some u:=fun{i j x v u} hx hv hu=>by
    have hj:j<K.sz c:=by rw[<-hD.len c x];exact(bD.1 hv).1
    have hi:=(bD.1 hx).1;rw[<-hus _ (wa hi hj),<-oh]at hu;rw[yH hj];exact hu
   refine .inr ⟨b,o,cap,vs,T,fr,_,fun i j k=>∃x c' l' u,l[i]?=some x/\(D.cells c x)[j]?=some (.an c' l')/\(db vs (o+i*K.sz c) (K.sz c))[j]?=some u/\dS D w c' l' u k,rfl,hb,hcap,hsz,hfr,hus,⟨?_,?_,?_⟩,?_,?_⟩
   ·simp;omega
   ·intro i x hx j v u hv hu;have hs:=hseg hx hv hu;exact⟨fun hd=>jG i x hx j v u hv hs hd,fun c' l' e=>by subst e;exact⟨cn i x hx j c' l' u hv hs,fun k hk=>⟨x,c',l',u,hx,hv,hs,hk⟩⟩⟩
   ·rintro i j i2 j2 k ⟨x,c',l',u,h1,h2,h3,h4⟩ ⟨x2,c2,l2,u2,g1,g2,g3,g4⟩
    exact hdis i x h1 j c' l' u h2 h3 i2 x2 g1 j2 c2 l2 u2 g2 g3 k h4 g4
   ·rintro i j ⟨x,c',l',u,h1,h2,h3,h4⟩
    exact hself i x h1 j c' l' u h2 h3 h4
   ·rintro i j k ⟨x,c',l',u,h1,h2,h3,h4⟩
    exact .kid h1 h2 (seg_cell hb h3) h4
theorem Row.append(hD:bR D){c:K.U}{l1 l2:List (K.El c)}{On Oo:List Value}{F1 F2:Nat->Nat->Nat->Prop}(R1:Row D w c l1 On F1)(R2:Row D w c l2 Oo F2)(hd:∀i j i2 j2 k,F1 i j k->F2 i2 j2 k->False):
 Row D w c (l1++l2) (On++Oo) (fun i j k=>(i<l1.length/\F1 i j k)\/(l1.length<=i/\F2 (i-l1.length) j k)):=by
 refine⟨by rw[aN,R1.len,R2.len,aN,gP],fun i x hx j v u hv hu=>?_,?_⟩
 ·have hj:j<K.sz c:=by rw[<-hD.len c x];exact(bD.1 hv).1
  by_cases hi:i<l1.length
  ·rw[b9 hi]at hx;have:=wa hi hj;rw[b9 (by rw[R1.len];exact this)]at hu;exact(R1.cell i x hx j v u hv hu).mono fun k hk=>.inl ⟨hi,hk⟩
  ·rw[eR (by omega)]at hx;have h1:l1.length*K.sz c<=i*K.sz c:=ga _ (by omega);have h2:i*K.sz c+j-l1.length*K.sz c=(i-l1.length)*K.sz c+j:=by rw[Nat.sub_mul];omega
   rw[eR (by rw[R1.len];omega),R1.len,h2]at hu;exact(R2.cell _ x hx j v u hv hu).mono fun k hk=>.inr ⟨by omega,hk⟩
 ·rintro i j i2 j2 k (⟨h1,h2⟩|⟨h1,h2⟩) (⟨g1,g2⟩|⟨g1,g2⟩)
  ·exact R1.yG _ _ _ _ _ h2 g2
  ·exact(hd _ _ _ _ _ h2 g2).elim
  ·exact(hd _ _ _ _ _ g2 h2).elim
  ·have:=R2.yG _ _ _ _ _ h2 g2;exact⟨by omega,this.2⟩
theorem Row.set(hD:bR D){c:K.U}{l:List (K.El c)}{us:List Value}{F:Nat->Nat->Nat->Prop}(R:Row D w c l us F){i off:Nat}{x0 y:K.El c}{xs:List Value}{G:Nat->Nat->Prop}(hx0:l[i]?=some x0)(hoff:off+xs.length<=K.sz c)
 (hout:∀j,(j<off\/off+xs.length<=j)->(D.cells c y)[j]?=(D.cells c x0)[j]?) (hin:∀j v u,(D.cells c y)[off+j]?=some v->xs[j]?=some u->na D w v u (G j)) (hG:∀j j2 k,G j k->G j2 k->j=j2) (hGF:∀j i2 j2 k,G j k->¬F i2 j2 k):
 Row D w c (l.set i y) (gq us (i*K.sz c+off) xs) (fun i2 j k=>(i2=i/\off<=j/\j<off+xs.length/\G (j-off) k)\/(¬(i2=i/\off<=j/\j<off+xs.length)/\F i2 j k)):=by
 have hi:=(bD.1 hx0).1;have hmul:(i+1)*K.sz c<=l.length*K.sz c:=ga _ hi;rw[gP,il]at hmul;refine⟨by rw[tZ,R.len,C4],fun i2 x hx j v u hv hu=>?_,?_⟩
 ·have hj:j<K.sz c:=by rw[<-hD.len c x];exact(bD.1 hv).1
  rw[rx _ _ _ _ (by rw[R.len];omega)]at hu;rcases fj hx with⟨rfl,rfl,-⟩|⟨hne,hx⟩
  ·by_cases hc:off<=j/\j<off+xs.length
   ·rw[aY (by omega)]at hu;have e1:i2*K.sz c+j-(i2*K.sz c+off)=j-off:=by omega
    rw[e1]at hu;have e2:off+(j-off)=j:=by omega
    exact(hin (j-off) v u (by rw[e2];exact hv) hu).mono fun k hk=>.inl ⟨rfl,hc.1,hc.2,hk⟩
   ·rw[aT (by omega)]at hu;rw[hout j (by omega)]at hv;exact(R.cell i2 x0 hx0 j v u hv hu).mono fun k hk=>.inr ⟨fun h=>hc ⟨h.2.1,h.2.2⟩,hk⟩
  ·rw[aT ?_]at hu
   ·exact(R.cell i2 x hx j v u hv hu).mono fun k hk=>.inr ⟨fun h=>hne h.1,hk⟩
   ·rcases cP i2 i with h|h
    ·have:(i2+1)*K.sz c<=i*K.sz c:=ga _ (by omega);rw[gP,il]at this;omega
    ·have:(i+1)*K.sz c<=i2*K.sz c:=ga _ (by omega);rw[gP,il]at this;omega
 ·rintro i1 j1 i2 j2 k (⟨h1,h2,h3,h4⟩|⟨h1,h2⟩) (⟨g1,g2,g3,g4⟩|⟨g1,g2⟩)
  ·have:=hG _ _ _ h4 g4;exact⟨by omega,by omega⟩
  ·exact(hGF _ _ _ _ h4 g2).elim
  ·exact(hGF _ _ _ _ g4 h2).elim
  ·exact R.yG _ _ _ _ _ h2 g2
end Go.V
namespace Go.V
open Go
variable {K :dh}{D:bH K}{ρ ρ':List Value}{S S':Nat->Prop}{w w':World}{H H':List (Ob K)}
theorem IJ:∀(ks:List Nat)(H:List (Ob K)),(gd H ks).length=H.length
 |[],H=>rfl
 |h::r,H=>by rw[gd,IJ r];simp
theorem IK:∀(ks:List Nat)(H:List (Ob K))(k:Nat)(o:Ob K),(gd H ks)[k]?=some o->o=.dead\/(k∉ks/\H[k]?=some o)
 |[],H,k,o,h=>.inr ⟨by simp,h⟩
 |x::r,H,k,o,h=>by
  rcases IK r _ k o h with h|⟨h1,h2⟩
  ·exact .inl h
  ·rcases fj h2 with⟨-,rfl,-⟩|⟨hne,h2⟩
   ·exact .inl rfl
   ·exact .inr ⟨by simp[hne,h1],h2⟩
theorem IL:∀(ks:List Nat){H:List (Ob K)},aS D ρ S w H->aS D ρ S w (gd H ks)
 |[],H,hs=>hs
 |h::r,H,hs=>IL r (hs.kill h)
theorem Oq{ks:List Nat}{b:Nat}(hb:Own D w ρ (gd H ks) b):∃(h:Nat)(o:Ob K)(r:Value),h∉ks/\H[h]?=some o/\o.live=true/\ρ[h]?=some r/\cJ D w o r b:=by
 obtain⟨h,o,r,h1,h2,h3,h4⟩:=hb;rcases IK ks H h o h1 with rfl|⟨g1,g2⟩
 ·cases h2
 ·exact⟨h,o,r,g1,g2,h2,h3,h4⟩
def ia(D:bH K)(w:World)(ρ:List Value)(H:List (Ob K))(ks:List Nat)(b:Nat):Prop:=∃(h:Nat)(o:Ob K)(r:Value),h∈ks/\H[h]?=some o/\o.live=true/\ρ[h]?=some r/\cJ D w o r b
theorem ia.own{ks:List Nat}{b:Nat}(h:ia D w ρ H ks b):Own D w ρ H b:=by
 obtain⟨h,o,r,-,h1,h2,h3,h4⟩:=h;exact⟨h,o,r,h1,h2,h3,h4⟩
theorem ia.C5(hs:aS D ρ S w H){ks:List Nat}{b:Nat}(h:ia D w ρ H ks b):¬Own D w ρ (gd H ks) b:=fun hb=>by
 obtain⟨k,o,r,h0,h1,h2,h3,h4⟩:=h;obtain⟨k',o',r',g0,g1,g2,g3,g4⟩:=Oq hb;have:=hs.eV k k' o o' r r' b h1 h2 h3 h4 g1 g2 g3 g4;subst this;exact g0 h0
theorem Ot{ks:List Nat}{b:Nat}(hb:Own D w ρ (gd H ks) b):Own D w ρ H b:=by
 obtain⟨h,o,r,-,h1,h2,h3,h4⟩:=Oq hb;exact⟨h,o,r,h1,h2,h3,h4⟩
theorem yI{P:Program}(hs:aS D ρ S w H){ks:List Nat}{c:K.U}{l:List (K.El c)}{a:Option Addr}{n cp:Nat}{s:Sem Next}(hrun:s.run P w=.ok (.value (.slice a n cp)) w')
 (hsz:w.heap.size<=w'.heap.size) (hold:∀k,k<w.heap.size->¬ia D w ρ H ks k->w'.heap[k]?=w.heap[k]?) (e1:w'.os=w.os) (e2:w'.tape=w.tape) (e3:w'.output=w.output)
 (hT:Tree D w' c l (.slice a n cp)) (hf:∀k,dS D w' c l (.slice a n cp) k->ia D w ρ H ks k\/w.heap.size<=k):Does D P ρ S H w s (.sl H.length) (gd H ks++[.tree c l]):=by
 have hs1:=IL ks hs;have hk1:∀k,Own D w ρ (gd H ks) k->w'.heap[k]?=w.heap[k]?:=fun k hk=>hold k (hs1.lt k hk).1 fun h=>h.C5 hs hk
 have hS:∀k,S k->w'.heap[k]?=w.heap[k]?:=fun k hk=>hold k (hs.slt k hk) fun h=>(hs.lt k h.own).2 hk
 have hs2:aS D ρ S w' (gd H ks):=hs1.world hsz hk1 hS;have hlen:(gd H ks).length=H.length:=IJ ks H;refine⟨_,_,w',ρ++[.slice a n cp],hrun,.inl rfl,hs2.push (o:=.tree c l) (r:=.slice a n cp) hT (fun k _ hk=>⟨hT.lt hk,fun C6=>?_,fun hO=>?_⟩),.sl ?_,⟨e1,e2,e3,hsz,fun k hk hno=>hold k hk fun h=>hno h.own,fun k hk=>?_,fun _ h=>h,fun _ h=>.inl h,fun k hk=>?_⟩⟩
 ·rcases hf k hk with h|h
  ·exact(hs.lt k h.own).2 C6
  ·have:=hs.slt k C6;omega
 ·have Ou:=hO.old hk1;rcases hf k hk with h|h
  ·exact h.C5 hs Ou
  ·have:=(hs1.lt k Ou).1;omega
 ·rw[eR (by rw[hs.len];exact fh _)];simp[hs.len]
 ·rcases C7 (by rw[hs.len,hlen]) hk with h|⟨-,h⟩
  ·exact .inl (Ot (h.old hk1))
  ·rcases hf k h with h|h
   ·exact .inl h.own
   ·exact .inr h
 ·rw[b9 (by rw[hs.len];exact hk)]
theorem aed{P:Program}(hs:aS D ρ S w H){h:Nat}{ks:List Nat}{o:Ob K}{r:Value}{c:K.U}{l':List (K.El c)}{s:Sem Next}(ho:H[h]?=some o)(hl:o.live=true)(hr:ρ[h]?=some r)(hrun:s.run P w=.ok .skip w')
 (hsz:w'.heap.size=w.heap.size) (hold:∀k,¬ia D w ρ H (h::ks) k->w'.heap[k]?=w.heap[k]?) (e1:w'.os=w.os) (e2:w'.tape=w.tape) (e3:w'.output=w.output)
 (hT:Tree D w' c l' r) (hf:∀k,dS D w' c l' r k->ia D w ρ H (h::ks) k):Does D P ρ S H w s .any ((gd H (h::ks)).set h (.tree c l')):=by
 have hs1:=IL (h::ks) hs;have hk1:∀k,Own D w ρ (gd H (h::ks)) k->w'.heap[k]?=w.heap[k]?:=fun k hk=>hold k fun h=>h.C5 hs hk
 have hS:∀k,S k->w'.heap[k]?=w.heap[k]?:=fun k hk=>hold k fun h=>(hs.lt k h.own).2 hk
 have hs2:aS D ρ S w' (gd H (h::ks)):=hs1.world (by omega) hk1 hS;have hlt:h<H.length:=(bD.1 ho).1;have hd:(gd H (h::ks))[h]?=some .dead:=by
  have hlt':h<(gd H (h::ks)).length:=by rw[IJ];exact hlt
  have hg:=cH hlt';rcases IK _ _ _ _ hg with e|⟨hn,-⟩
  ·rw[hg,e]
  ·exact absurd (by simp) hn
 refine⟨.skip,undef,w',ρ,hrun,.inr ⟨rfl,rfl⟩,hs2.Ov hd hr hT fun k hk=>⟨hT.lt hk,fun C6=>(hs.lt k (hf k hk).own).2 C6,fun hO=>(hf k hk).C5 hs (hO.old hk1)⟩,.any _,⟨e1,e2,e3,by omega,fun k hk hno=>hold k fun h=>hno h.own,fun k hk=>?_,fun _ h=>h,fun _ h=>.inl h,fun k hk=>rfl⟩⟩;obtain⟨k',o',r',g1,g2,g3,g4⟩:=hk;rcases fj g1 with⟨rfl,rfl,-⟩|⟨-,g1⟩
 ·rw[hr]at g3;simp at g3;subst g3;exact .inl (hf k g4).own
 ·exact .inl (Ot (Own.old (H:=gd H (h::ks)) ⟨k',o',r',g1,g2,g3,g4⟩ hk1))
def yJ(D:bH K)(w:World)(ρ:List Value)(H:List (Ob K))(v:AV K)(k:Nat):Prop:=∃(h:Nat)(o:Ob K)(r:Value),v=.sl h/\H[h]?=some o/\o.live=true/\ρ[h]?=some r/\cJ D w o r k
theorem Ox(hD:bR D)(hs:aS D ρ S w H){v v':AV K}{u:Value}(h:C9 D H v=some v')(hr:Rep D ρ S w v u):na D w v' u (yJ D w ρ H v)/\(v'=.dn->u=.slice none 0 0):=by
 unfold C9 at h;split at h
 ·rename_i h0;obtain⟨hp,a,n,cp,rfl⟩:=lO hr;split at h
  ·rename_i c l ho;split at h
   ·cases h
   ·rename_i hfl;simp only[av]at h;subst h;simp only[tQ]at hfl;refine⟨⟨fun e=>(by cases e),fun c' l' e=>?_⟩,fun e=>by cases e⟩;cases e;have Da:∀x (j:Nat) c' l',(D.cells c x)[j]?≠some (.an c' l'):=fun x j c' l' hj=>by
     have:eI (D.cells c x)=true:=by
      have hm:=eN hj;generalize D.cells c x=L at hm
      induction L with
      |nil=>cases hm
      |cons a r ih=>
       simp only[eI,ej];rcases jm.1 hm with rfl|hm
       ·exact .inl rfl
       ·exact .inr (ih hm)
     rw[hD.flat]at this;rw[this]at hfl;cases hfl
    rcases C0 hs ho hp with⟨e,rfl⟩|⟨b,o,cap,vs,T,fr,e,hblk,⟨hcap,fU⟩,hsz,hfr,hall⟩
    ·cases e;exact⟨.nil,fun k hk=>by cases hk⟩
    ·cases e;refine⟨.mk hblk ⟨hcap,fU⟩ hsz hfr (fun i x hx=>(hall i x hx).1) (fun i x hx j v y hv hy hd=>⟨(hD.kinds c x j v hv).2 hd,Iy v y (ua (hD.closed c x) hv) ((hD.kinds c x j v hv).2 hd) ((hall i x hx).2 j v y hv hy)⟩)
      (fun i x hx j c' l' y hj=>absurd hj (Da x j c' l')) (fun i x hx j c' l' y hj=>absurd hj (Da x j c' l')) (fun i x hx j c' l' y hj=>absurd hj (Da x j c' l')),fun k hk=>?_⟩
     cases hk with
     |here=>exact⟨h0,_,_,rfl,ho,rfl,hp,rfl⟩
     |kid hx hj hy hk=>exact absurd hj (Da _ _ _ _)
  ·rename_i c l ho;simp only[av]at h;subst h;refine⟨⟨fun e=>(by cases e),fun c' l' e=>?_⟩,fun e=>by cases e⟩;cases e;exact⟨hs.ob _ _ _ ho hp,fun k hk=>⟨h0,_,_,rfl,ho,rfl,hp,hk⟩⟩
  ·cases h
 ·simp only[av]at h;subst h;have hu:u=.slice none 0 0:=by cases hr;rfl
  exact⟨⟨fun _=>⟨rfl,by rw[hu];exact .dn⟩,fun c l e=>by cases e⟩,fun _=>hu⟩
 ·simp only[av]at h;subst h;exact⟨⟨fun _=>⟨rfl,by rw[gQ hr];exact .int _ _⟩,fun c l e=>by cases e⟩,fun e=>by cases e⟩
 ·simp only[av]at h;subst h;exact⟨⟨fun _=>⟨rfl,by rw[ky hr];exact .bool _⟩,fun c l e=>by cases e⟩,fun e=>by cases e⟩
 ·simp only[av]at h;subst h;exact⟨⟨fun _=>⟨rfl,by rw[iD hr];exact .str _⟩,fun c l e=>by cases e⟩,fun e=>by cases e⟩
 ·simp only[av]at h;subst h;have hu:u=.pointer none:=by cases hr;rfl
  exact⟨⟨fun _=>⟨rfl,by rw[hu];exact .dx⟩,fun c l e=>by cases e⟩,fun e=>by cases e⟩
 ·cases h
theorem Db:∀(l l':List (AV K)),nb D H l=some l'->l'.length=l.length/\∀(j:Nat) v,l[j]?=some v->∃v',l'[j]?=some v'/\C9 D H v=some v'
 |[],l',h=>by simp[nb]at h;subst h;exact⟨rfl,fun j v h=>by simp at h⟩
 |x::r,l',h=>by
  simp only[nb]at h;split at h
  ·rename_i y s hy hs;simp only[av]at h;subst h;obtain⟨g1,g2⟩:=Db r s hs;refine⟨by simp[g1],fun j v hv=>?_⟩;cases j with
   |zero=>simp at hv;subst hv;exact⟨y,rfl,hy⟩
   |succ j=>simpa using g2 j v (by simpa using hv)
  ·cases h
theorem Oy:∀(l l':List (AV K)),wb D H l=some l'->l'.length=l.length/\∀(i:Nat) v,l[i]?=some v->∃cs,l'[i]?=some (.agg cs)/\nb D H v.cw=some cs
 |[],l',h=>by simp[wb]at h;subst h;exact⟨rfl,fun j v h=>by simp at h⟩
 |x::r,l',h=>by
  simp only[wb]at h;split at h
  ·rename_i y s hy hs;simp only[av]at h;subst h;obtain⟨g1,g2⟩:=Oy r s hs;refine⟨by simp[g1],fun j v hv=>?_⟩;cases j with
   |zero=>simp at hv;subst hv;exact⟨y,rfl,hy⟩
   |succ j=>simpa using g2 j v (by simpa using hv)
  ·cases h
theorem Oz(hD:bR D)(hs:aS D ρ S w H){c:K.U}{xs cs:List (AV K)}{y:K.El c}(hg:nb D H xs=some cs)(hdec:D.dec c cs=some (y,true)){us:List Value}(hr:bh D ρ S w xs us):
 ∀(j:Nat) v u,(D.cells c y)[j]?=some v->us[j]?=some u->∃x,xs[j]?=some x/\na D w v u (yJ D w ρ H x):=fun j v u hv hu=>by
 obtain⟨g1,g2⟩:=Db _ _ hg;obtain⟨d1,d2⟩:=hD.C3 c cs y hdec;have hj:j<xs.length:=by rw[hr.1];exact(bD.1 hu).1
 have hx:=cH hj;obtain⟨v',hv',hgc⟩:=g2 j _ hx;obtain⟨k1,k2⟩:=Ox hD hs hgc (hr.2 j _ _ hx hu);refine⟨_,hx,?_⟩;rcases d2 j v' v hv' hv with rfl|⟨rfl,c',rfl⟩
 ·exact k1
 ·rw[k2 rfl];refine⟨fun e=>(by cases e),fun c l e=>?_⟩;cases e;exact⟨.nil,fun k hk=>by cases hk⟩
theorem Dc:∀{l:List Nat},ml l=true->l.Nodup
 |[],_=>List.nodup_nil
 |x::r,h=>by
  simp only[ml,cG,fk,rF,fi]at h;exact IM.2 ⟨h.1,Dc h.2⟩
theorem OA:∀{r:List (AV K)}{h i:Nat},r[i]?=some (.sl h)->h∈cr r
 |[],h,i,hi=>by simp at hi
 |x::s,h,i,hi=>by
  simp only[cr,dO];cases i with
  |zero=>simp at hi;subst hi;exact .inl (by simp[hands])
  |succ i=>exact .inr (OA (i:=i) (by simpa using hi))
theorem IN:∀{l:List (AV K)},(cr l).Nodup->∀{i j h:Nat},l[i]?=some (.sl h)->l[j]?=some (.sl h)->i=j
 |[],_,i,j,h,hi,_=>by simp at hi
 |v::r,hn,i,j,h,hi,hj=>by
  simp only[cr]at hn;obtain⟨n1,n2,n3⟩:=List.nodup_append.1 hn;have hin:∀{i:Nat},r[i]?=some (.sl h)->h∈cr r:=fun{i} hi=>OA hi
  cases i with
  |zero=>
   simp at hi;subst hi;cases j with
   |zero=>rfl
   |succ j=>exact absurd rfl (n3 h (by simp[hands]) h (hin (by simpa using hj)))
  |succ i=>
   cases j with
   |zero=>simp at hj;subst hj;exact absurd rfl (n3 h (by simp[hands]) h (hin (by simpa using hi)))
   |succ j=>exact rB (· +1) (IN (h:=h) n2 (by simpa using hi) (by simpa using hj))
theorem OB(v:AV K):cr v.cw=hands v:=by
 cases v<;>simp[AV.cw,cr,hands]
theorem IP:∀(l:List (AV K)),cr l=cr (l.map AV.cw).flatten
 |[]=>rfl
 |v::r=>by
  simp only[cr,eG,List.flatten_cons];have app:∀(a b:List (AV K)),cr (a++b)=cr a++cr b:=fun a b=>by
   induction a with
   |nil=>rfl
   |cons x s ih=>simp only[od,cr,ih,fO]
  rw[app,OB,IP r]
end Go.V
namespace Go.V
open Go
variable {K :dh}{D:bH K}{ρ ρ':List Value}{S S':Nat->Prop}{w w':World}{H H':List (Ob K)}
theorem aee{P:Program}(hD:bR D)(hs:aS D ρ S w H){t e:TypeId}{c:K.U}{z:AV K}{zs:List (AV K)}{y:K.El c}{kl kc:IntKind}{n m:Int}(ht:elemOf? P t=some e)(hsz:fm P e=some (K.sz c))(hroom:room e P=true)
 (hz:zeroOf P e=some z) (hk:z.known=true) (hg:nb D [] z.cw=some zs) (hdec:D.dec c zs=some (y,true)) (h0:0<=n) (h1:n<=m) (h2:m<=1073741824) (fU:im D c e 0):
 Does D P ρ S H w (do pure (.value (<-Instr.makeSlice t (.int kl n) (.int kc m)))) (.sl H.length) (H++[.tree c (List.replicate n.toNat y)]):=by
 obtain⟨i,hi,hisz⟩:=ry hsz;obtain⟨v,hv,hov⟩:=Df hz hi;have hb:=Dh hroom hi;have hs0:aS D [] S w ([]:List (Ob K)):=⟨rfl,fun _ _ _ h=>by simp at h,fun _ _ _ _ _ _ _ h=>by simp at h,fun b ⟨_,_,_,h,_⟩=>by simp at h,hs.slt,hs.base⟩;have hrz:bh D [] S w z.cw v.cells.toList:=lQ (v7 v z hov) hk;have hcell:=Oz hD hs0 hg hdec hrz;have hvs:v.cells.size=K.sz c:=by
  have h1:=hrz.1;have h2:=(hD.C3 c zs y hdec).1;have h3:=(Db _ _ hg).1;simp at h1;omega
 have hmul:(i.bytes:Int)*m<=4096*1073741824:=Int.mul_le_mul (by omega) h2 (by omega) (by omega);have hrun:=run_make (P:=P) w t e i v (rz ht) hi hv kl kc n m h0 h1 (by omega) (by omega);rw[hisz]at hrun;have hmn:n.toNat<=m.toNat:=by omega
 have aef:n.toNat*K.sz c<=m.toNat*K.sz c:=ga _ hmn
 let W:=w.alloc (.cells (madeCells v.cells (m.toNat*K.sz c)) e)
 have R:Row D W c (List.replicate n.toNat y) ((madeCells v.cells (m.toNat*K.sz c)).toList.take (n.toNat*K.sz c)) (fun _ _ _=>False):=by
  refine⟨by rw[om,Array.length_toList,size_madeCells,Di,Nat.min_eq_left aef],fun k x hx j a u ha hu=>?_,fun _ _ _ _ _ h=>h.elim⟩;have hkn:k<n.toNat:=by have:=(bD.1 hx).1;simpa using this
  have hxy:x=y:=by
   rw[m8]at hx;split at hx
   ·simpa using hx.symm
   ·rename_i hn;exact absurd hkn hn
  subst hxy;have hj:j<K.sz c:=by rw[<-hD.len c x];exact(bD.1 ha).1
  rw[fa,aY (wa hkn hj)]at hu;have hu':v.cells.toList[j]?=some u:=by
   rw[<-OC hvs (show k<m.toNat by omega),yH hj];exact hu
  obtain⟨x',-,hc⟩:=hcell j a u ha hu';have hF:∀k,¬yJ D w [] ([]:List (Ob K)) x' k:=fun k ⟨_,_,_,_,h,_⟩=>by simp at h
  exact(hc.mono (G':=fun _=>False) fun k hk=>hF k hk).world fun _ h=>h.elim
 obtain⟨T1,T2⟩:=R.tree hD (b:=w.heap.size) (o:=0) (cap:=m.toNat) (vs:=madeCells v.cells (m.toNat*K.sz c)) (T:=e) (fr:=(0,0)) (ub _ _) ⟨by simpa using hmn,fU⟩ (by rw[size_madeCells];omega) (fun k _ _ hh=>by have:=hh.2;simp at this)
  (fun k hk=>by rw[Di]at hk;rw[jq,fa,aY hk]) (fun _ _ h=>h)
 have hn:(List.replicate n.toNat y).length=n.toNat:=Di;rw[hn]at T1 T2;exact yI hs (ks:=[]) (w':=W) (kB (f:=.value) hrun) (by simp[W]) (fun k hk _=>rA hk) rfl rfl rfl T1 fun k hk=>by
  rcases T2 k hk with rfl|⟨_,_,_,h⟩
  ·exact .inr (fh _)
  ·exact h.elim
theorem aeg{P:Program}{ev:Operand->AV K}{ρe:Operand->Value}(hev:∀x,Rep D ρ S w (ev x) (ρe x)){t e:TypeId}{c:K.U}{len:Nat}{parts:Array (Nat×Operand)}{l:List (AV K)}
 (ht:elemOf? P t=some e) (hsz:fm P e=some (K.sz c)) (hz:nf P e=true) (hl:inOrder ev 0 parts.toList=some l) (hlen:l.length=len) (h1:len<=4096) (h2:K.sz c<=4096)
 (hall:l.all (fun v=>v.known&&decide (v.cw.length=K.sz c))=true):
 ∃cs':Array Value,(do pure (.value (<-Instr.buildSlice t len (parts.map fun(i,x)=>(i,ρe x)))):Sem Next).run P w=.ok (.value (.slice (some ⟨w.heap.size,0,none⟩) len len)) (w.alloc (.cells cs' e))/\len*K.sz c<=cs'.size/\
  ∀i v,l[i]?=some v->∃u,bh D ρ S w v.cw u/\db cs' (i*K.sz c) (K.sz c)=u:=by
 obtain⟨i,hi,hisz⟩:=ry hsz;obtain⟨zv,hzv,-⟩:=Dj hz hi;obtain⟨el,er⟩:=Dk _ _ _ hl;have hpl:parts.toList.length=len:=by rw[<-hlen,el];simp
 have hmul:len*K.sz c<=4096*4096:=Nat.mul_le_mul h1 h2;have hget:∀(j:Nat) v,l[j]?=some v->v.known=true/\v.cw.length=K.sz c:=fun j v hv=>by
  have:=fN.1 hall v (eN hv);simpa using this
 generalize hus:parts.toList.map (fun p=>ρe p.2)=us;have hrel:∀(j:Nat) v u,l[j]?=some v->us[j]?=some u->Rep D ρ S w v u:=fun j v u hv hu=>by
  rw[el]at hv;rw[<-hus]at hu;simp only[ik,dy]at hv hu;obtain⟨p,hp,rfl⟩:=hv;obtain⟨q,hq,rfl⟩:=hu;rw[hp]at hq;simp at hq;subst hq;exact hev _
 have yK:us.length=l.length:=by rw[<-hus,el];simp
 have hcs:∀u∈us,u.cells.size=K.sz c:=fun u hu=>by
  obtain⟨j,hj,rfl⟩:=vY hu;have hjl:j<l.length:=by omega
  obtain⟨hk,hn⟩:=hget j _ (cH hjl);have:=(lQ (hrel j _ _ (cH hjl) (cH hj)) hk).1;rw[hn]at this;simpa using this.symm
 let zero:Array Value:=if len*K.sz c=0 then #[]else zv.cells
 obtain⟨cs',e1,e2,-,e4⟩:=IQ (sz:=K.sz c) us 0 ((Array.range (len*K.sz c)).map (zero[· %zero.size]!)) hcs (by simp[yK,hlen]);have hparts:(parts.map fun(x:Nat×Operand)=>match x with|(i,x)=>(i,ρe x)).toList=(us.zipIdx 0).map fun p=>(p.2,p.1):=by
  rw[<-hus,<-IS parts.toList ρe 0 (by rw[er])];simp
 have hrun:(Instr.buildSlice t len (parts.map fun(i,x)=>(i,ρe x))).run P w=.ok (.slice (some ⟨w.heap.size,0,none⟩) len len) (w.alloc (.cells cs' e)):=by
  have hsize:(sizeOf e).run P w=.ok (K.sz c) w:=pQ hsz;unfold Instr.buildSlice;rw[hparts];simp only[Sem.run_bind,gh (rz ht),Result.andThen_ok,hsize];rw[aT (by omega)];by_cases h0:len*K.sz c=0
  ·rw[aY h0];have e1':=e1;simp only[zero,aY h0]at e1';simp only[Sem.run_bind,Sem.run_pure,Result.andThen_ok,e1'];simp[newRow]
  ·rw[aT h0];have e1':=e1;simp only[zero,aT h0]at e1';have IT:(zeroValue e).run P w=.ok zv w:=by simp[zeroValue,typeInfo,hi,hzv]
   simp only[Sem.run_bind,Sem.run_pure,Result.andThen_ok,IT,e1'];simp[newRow]
 refine⟨cs',kB (f:=.value) hrun,by rw[e2];simp,fun j v hv=>?_⟩;have hj:j<l.length:=(bD.1 hv).1;have pR:=cH (show j<us.length by omega);obtain⟨hk,-⟩:=hget j _ hv;have:=e4 j _ pR;rw[jq]at this;exact⟨_,lQ (hrel j _ _ hv pR) hk,this⟩
theorem flat_get{sz:Nat}:∀(l:List (List (AV K)))(i j:Nat)(v:List (AV K))(x:AV K),(∀a∈l,a.length=sz)->l[i]?=some v->v[j]?=some x->l.flatten[i*sz+j]?=some x
 |[],i,j,v,x,_,h,_=>by simp at h
 |a::r,i,j,v,x,hl,hv,hx=>by
  have ha:=hl a (by simp);rw[List.flatten_cons];cases i with
  |zero=>
   simp at hv;subst hv;rw[yL,jq,b9 (bD.1 hx).1];exact hx
  |succ i=>
   rw[eR (by rw[gP,il,ha];omega),show(i+1)*sz+j-a.length=i*sz+j by rw[gP,il,ha];omega];exact flat_get r i j v x (fun b hb=>hl b (by simp[hb])) (by simpa using hv) hx
theorem aeh{P:Program}(hD:bR D)(hs:aS D ρ S w H){ev:Operand->AV K}{ρe:Operand->Value}(hev:∀x,Rep D ρ S w (ev x) (ρe x)){t e:TypeId}{c:K.U}{len:Nat}{parts:Array (Nat×Operand)}{l l':List (AV K)}{y:List (K.El c)}
 (ht:elemOf? P t=some e) (hsz:fm P e=some (K.sz c)) (hz:nf P e=true) (hl:inOrder ev 0 parts.toList=some l) (hlen:l.length=len) (h1:len<=4096) (h2:K.sz c<=4096)
 (hall:l.all (fun v=>v.known&&decide (v.cw.length=K.sz c))=true) (hnd:ml (cr l)=true) (hg:wb D H l=some l') (hdec:oe D c l'=some (y,true)) (fU:im D c e 0):
 Does D P ρ S H w (do pure (.value (<-Instr.buildSlice t len (parts.map fun(i,x)=>(i,ρe x))))) (.sl H.length) (gd H (cr l)++[.tree c y]):=by
 obtain⟨cs',hrun,hcs,hseg⟩:=aeg (P:=P) hev ht hsz hz hl hlen h1 h2 hall;obtain⟨g1,g2⟩:=Oy _ _ hg;obtain⟨d1,d2⟩:=IU l' c y hdec;have hyl:y.length=len:=by rw[d1,g1,hlen]
 have hcl:∀a∈l.map AV.cw,a.length=K.sz c:=fun a ha=>by
  obtain⟨v,hv,rfl⟩:=List.mem_map.1 ha;have:=fN.1 hall v hv;simp only[cG,bB]at this;exact this.2
 have hnd':(cr (l.map AV.cw).flatten).Nodup:=by rw[<-IP];exact Dc hnd
 let W:=w.alloc (.cells cs' e)
 let F:Nat->Nat->Nat->Prop:=fun i j k=>j<K.sz c/\∃v x,l[i]?=some v/\v.cw[j]?=some x/\yJ D w ρ H x k
 have IV:∀i j k,F i j k->ia D w ρ H (cr l) k:=by
  rintro i j k ⟨hj,v,x,hv,hx,h,o,r,rfl,ho,hlv,hr,hf⟩
  refine⟨h,o,r,?_,ho,hlv,hr,hf⟩;rw[IP];have hm:=eN (flat_get (l.map AV.cw) i j v.cw _ hcl (by simp[hv]) hx);generalize (l.map AV.cw).flatten=L at hm
  induction L with
  |nil=>cases hm
  |cons a r ih=>
   simp only[cr,dO];rcases jm.1 hm with rfl|hm
   ·exact .inl (by simp[hands])
   ·exact .inr (ih hm)
 have R0:Row D w c y (cs'.toList.take (len*K.sz c)) F:=by
  refine⟨by simp[hyl];omega,fun i x hx j a u ha hu=>?_,?_⟩
  ·have hi:i<l.length:=by rw[hlen,<-hyl];exact(bD.1 hx).1
   have hv:=cH hi;have hj:j<K.sz c:=by rw[<-hD.len c x];exact(bD.1 ha).1
   obtain⟨us,hus,hse⟩:=hseg i _ hv;obtain⟨cs,hcs1,hcs2⟩:=g2 i _ hv;have hdx:=d2 i _ x hcs1 hx;rw[fa,aY (wa (show i<len by omega) hj),<-yH hj,hse]at hu;obtain⟨x',hx',hc⟩:=Oz hD hs hcs2 hdx hus j a u ha hu;exact hc.mono fun k hk=>⟨hj,_,x',hv,hx',hk⟩
  ·rintro i j i2 j2 k ⟨hj,v,x,hv,hx,h,o,r,rfl,ho,hlv,hr,hf⟩ ⟨hj2,v2,x2,hv2,hx2,h',o',r',rfl,ho',aej,hr',hf'⟩
   have e1:=hs.eV h h' o o' r r' k ho hlv hr hf ho' aej hr' hf';subst e1;have e2:=IN hnd' (flat_get (l.map AV.cw) i j v.cw _ hcl (by simp[hv]) hx) (flat_get (l.map AV.cw) i2 j2 v2.cw _ hcl (by simp[hv2]) hx2);have:i=i2:=by
    rcases Nat.lt_trichotomy i i2 with h|h|h
    ·have:(i+1)*K.sz c<=i2*K.sz c:=ga _ (by omega);rw[gP,il]at this;omega
    ·exact h
    ·have:(i2+1)*K.sz c<=i*K.sz c:=ga _ (by omega);rw[gP,il]at this;omega
   subst this;exact⟨rfl,by omega⟩
 have R:Row D W c y (cs'.toList.take (len*K.sz c)) F:=R0.world fun i j k hk=>rA (hs.lt k (IV i j k hk).own).1
 obtain⟨T1,T2⟩:=R.tree hD (b:=w.heap.size) (o:=0) (cap:=len) (vs:=cs') (T:=e) (fr:=(0,0)) (ub _ _) ⟨by omega,fU⟩ (by omega) (fun k _ _ hh=>by have:=hh.2;simp at this)
  (fun k hk=>by rw[hyl]at hk;rw[jq,fa,aY hk]) (fun i j h=>by have:=(hs.lt _ (IV i j _ h).own).1;omega)
 rw[hyl]at T1 T2;exact yI hs (ks:=cr l) (w':=W) hrun (by simp[W]) (fun k hk _=>rA hk) rfl rfl rfl T1 fun k hk=>by
  rcases T2 k hk with rfl|⟨i,j,_,h⟩
  ·exact .inr (fh _)
  ·exact .inl (IV i j k h)
end Go.V
namespace Go.V
open Go
variable {K :dh}{D:bH K}{ρ ρ':List Value}{S S':Nat->Prop}{w w':World}{H H':List (Ob K)}
theorem aek(hD:bR D){c:K.U}{l:List (K.El c)}{us:List Value}{F:Nat->Nat->Nat->Prop}(R:Row D w c l us F):∀x∈us,x.oneCell'=true:=fun x hx=>by
 obtain⟨k,hk,rfl⟩:=vY hx;rw[R.len]at hk;have hsz:0<K.sz c:=by
  rcases mn (K.sz c)with h0|h0
  ·rw[h0]at hk;simp at hk
  ·exact h0
 have hi:k/K.sz c<l.length:=Nat.div_lt_of_lt_mul (by rw[Dl];exact hk);have hj:k%K.sz c<K.sz c:=Nat.mod_lt _ hsz;have e:k/K.sz c*K.sz c+k%K.sz c=k:=by rw[Dl];exact Nat.div_add_mod _ _
 have hx:=cH hi;have hv:=cH (show k%K.sz c<(D.cells c l[k/K.sz c]).length by rw[hD.len];exact hj);have hu:us[k/K.sz c*K.sz c+k%K.sz c]?=some us[k]:=by rw[e];exact cH _
 have hc:=R.cell _ _ hx _ _ _ hv hu;have h1:=fN.1 (hD.one c l[k/K.sz c]) _ (cE (show k%K.sz c<(D.cells c l[k/K.sz c]).length by rw[hD.len];exact hj));generalize (D.cells c l[k/K.sz c])[k%K.sz c]'(by rw[hD.len];exact hj)=v at hc h1;cases hd:v.oa
 ·exact one_cell (hc.flat hd).2 h1
 ·obtain⟨c',l',rfl⟩:=IW hd;obtain⟨a,cp,e⟩:=OD (hc.kid c' l' rfl).1;rw[e];rfl
theorem OE{P:Program}(hD:bR D)(hs:aS D ρ S w H){c:K.U}{x:AV K}{m:List (K.El c)}{ks:List Nat}{X:Value}(h:pS H c x=some (m,ks))(hx:Rep D ρ S w x X):
 (Builtin.lenOf X).run P w=.ok m.length w/\∃news F,Row D w c m news F/\(∀i j k,F i j k->ia D w ρ H ks k)/\∀w':World,w'.heap=w.heap->(Builtin.firstCells (K.sz c) m.length X).run P w'=.ok news.toArray w':=by
 unfold pS at h;split at h
 ·simp only[av,aZ]at h;obtain⟨rfl,rfl⟩:=h;have e:X=.slice none 0 0:=by cases hx;rfl
  subst e;exact⟨by simp[Builtin.lenOf],[],fun _ _ _=>False,⟨by simp,fun i x h=>by simp at h,fun _ _ _ _ _ h=>h.elim⟩,fun _ _ _ h=>h.elim,fun w' _=>by simp[Builtin.firstCells]⟩
 ·rename_i h0;obtain⟨hp,a,n,cp,rfl⟩:=lO hx;split at h
  ·rename_i c' l ho;cases hd:K.jS c' c with
   |isFalse hn=>simp[hd]at h
   |isTrue he=>
    subst he;simp only[hd,av,aZ]at h;obtain⟨rfl,rfl⟩:=h;have hT:Tree D w c' l (.slice a n cp):=hs.ob _ _ _ ho hp;rcases hT.row hD with⟨e,rfl⟩|⟨b,o,cap,vs,T,fr,us,F,e,hb,hcap,hsz,hfr,hus,R,wc,hF⟩
    ·cases e;exact⟨by simp[Builtin.lenOf],[],fun _ _ _=>False,⟨by simp,fun i x h=>by simp at h,fun _ _ _ _ _ h=>h.elim⟩,fun _ _ _ h=>h.elim,fun w' _=>by simp[Builtin.firstCells]⟩
    ·cases e;refine⟨by simp[Builtin.lenOf],us,F,R,fun i j k hk=>⟨h0,_,_,by simp,ho,rfl,hp,hF i j k hk⟩,fun w' hw=>?_⟩;have hcells:iE w' b o us:=fun k v hv=>by
      have hk:k<l.length*K.sz c':=by rw[<-R.len];exact(bD.1 hv).1
      have:=hus k hk;rw[hv]at this;rw[cell?_of_heap (w:=w) (a:=⟨b,o+k,none⟩) (by rw[hw])];simp only[World.cell?,hb];simpa using this
     have:=Dm (P:=P) hcells;rw[R.len]at this;simpa [Builtin.firstCells]using this
  ·cases h
 ·cases h
theorem OF{P:Program}(hD:bR D)(hs:aS D ρ S w H){t xT ty e:TypeId}{d:TypeDesc}{i:TypeInfo}{z:Value}{c:K.U}(ht:P.underlying t=some (.slice e))(hx:P.underlying xT=some d)(hd:∀k,d≠.int k)
 (hi:P.info? e=some i) (hisz:i.size=K.sz c) (hz:i.zero=some z) (hzs:z.cells.size=K.sz c) (hb:i.bytes<=4096) {base:Option Addr} {cap:Nat} {X:Value} {l m:List (K.El c)} {us:List Value} {F:Nat->Nat->Nat->Prop} {ks:List Nat} {olds news:List Value}
 (R:Row D w c (l++m) us F) (hF:∀i j k,F i j k->ia D w ρ H ks k) (hus:us=olds++news) (hlen:(Builtin.lenOf X).run P w=.ok m.length w) (hnew:(Builtin.firstCells (K.sz c) m.length X).run P w.drew=.ok news.toArray w.drew)
 (hold:(Builtin.firstCells (K.sz c) l.length (.slice base l.length cap)).run P w.drew=.ok olds.toArray w.drew) (hroom:cap<l.length+m.length) (hsmall:l.length+m.length<=1073741824) (hE:im D c e 0):
 Does D P ρ S H w (do pure (.value (<-Builtin.append_ #[t,xT] ty #[.slice base l.length cap,X]))) (.sl H.length) (gd H ks++[.tree c (l++m)]):=by
 have hrun:=OG (P:=P) (w:=w) (ty:=ty) ht hx hd hi hz hlen (by rw[hisz];exact hnew) (by rw[hisz];exact hold) hroom hsmall hb;have hge:=grownCap_ge w (l.length+m.length) cap e
 let vs:=(olds++news++(Builtin.zeroCells z.cells (grownCap w (l.length+m.length) cap e-(l.length+m.length))).toList).toArray
 let W:=w.drew.alloc (.cells vs e)
 have hR:Row D W c (l++m) us F:=R.world fun i j k hk=>rA (hs.lt k (hF i j k hk).own).1
 have yK:us.length=(l.length+m.length)*K.sz c:=by rw[R.len,aN]
 have hzc:(Builtin.zeroCells z.cells (grownCap w (l.length+m.length) cap e-(l.length+m.length))).size=(grownCap w (l.length+m.length) cap e-(l.length+m.length))*K.sz c:=by simp[Builtin.zeroCells,hzs]
 have hcz:(l.length+m.length)*K.sz c+(grownCap w (l.length+m.length) cap e-(l.length+m.length))*K.sz c=grownCap w (l.length+m.length) cap e*K.sz c:=by rw[<-gP];congr 1;omega
 have hvl:vs.toList=us++(Builtin.zeroCells z.cells (grownCap w (l.length+m.length) cap e-(l.length+m.length))).toList:=by simp[vs,hus]
 obtain⟨T1,T2⟩:=hR.tree hD (b:=w.heap.size) (o:=0) (cap:=grownCap w (l.length+m.length) cap e) (vs:=vs) (T:=e) (fr:=(0,0)) (ub _ _) ⟨by simpa using hge,hE⟩
  (by
    have:vs.size=us.length+(Builtin.zeroCells z.cells (grownCap w (l.length+m.length) cap e-(l.length+m.length))).size:=by rw[<-Array.length_toList,hvl];simp
    rw[this,hzc,yK];omega)
  (fun k _ _ hh=>by have:=hh.2;simp at this) (fun k hk=>by rw[jq,hvl,b9 (by rw[R.len];exact hk)]) (fun i j h=>by have:=(hs.lt _ (hF i j _ h).own).1;omega)
 rw[aN]at T1 T2;exact yI hs (ks:=ks) (w':=W) (kB (f:=.value) hrun) (by simp[W]) (fun k hk _=>rA hk) rfl rfl rfl T1 fun k hk=>by
  rcases T2 k hk with rfl|⟨i,j,_,h⟩
  ·exact .inr (fh _)
  ·exact .inl (hF i j k h)
theorem ia.more{ks ks':List Nat}(h:∀x∈ks,x∈ks'){k:Nat}(hk:ia D w ρ H ks k):ia D w ρ H ks' k:=by
 obtain⟨a,o,r,g1,g2,g3,g4,g5⟩:=hk;exact⟨a,o,r,h a g1,g2,g3,g4,g5⟩
theorem ael{P:Program}(hD:bR D)(hs:aS D ρ S w H){t xT ty e:TypeId}{d:TypeDesc}{i:TypeInfo}{z:Value}{c:K.U}(ht:P.underlying t=some (.slice e))(hx:P.underlying xT=some d)(hd:∀k,d≠.int k)
 (hi:P.info? e=some i) (hisz:i.size=K.sz c) (hz:i.zero=some z) (hzs:z.cells.size=K.sz c) (hb:i.bytes<=4096) {s x:AV K} {Y X:Value} {l m:List (K.El c)} {ks ks':List Nat} (hl:pS H c s=some (l,ks)) (hm:pS H c x=some (m,ks'))
 (hnd:ml (ks++ks')=true) (hY:Rep D ρ S w s Y) (hX:Rep D ρ S w x X) (hsmall:l.length+m.length<=1073741824) (hE:im D c e 0):
 Does D P ρ S H w (do pure (.value (<-Builtin.append_ #[t,xT] ty #[Y,X]))) (.sl H.length) (gd H (ks++ks')++[.tree c (l++m)]):=by
 have hnd':=Dc hnd;obtain⟨n1,n2,n3⟩:=List.nodup_append.1 hnd';obtain⟨hlen,news,F2,R2,hF2,hnew⟩:=OE (P:=P) hD hs hm hX;obtain⟨-,olds,F1,R1,hF1,hold⟩:=OE (P:=P) hD hs hl hY;have hapart:∀{a b:Nat},ia D w ρ H ks a->ia D w ρ H ks' b->a≠b:=fun{a b} ha hb e=>by
  subst e;obtain⟨h1,o1,r1,a1,a2,a3,a4,a5⟩:=ha;obtain⟨h2,o2,r2,b1,b2,b3,b4,b5⟩:=hb;have:=hs.eV h1 h2 o1 o2 r1 r2 a a2 a3 a4 a5 b2 b3 b4 b5;subst this;exact n3 h1 a1 h1 b1 rfl
 have R:=R1.append hD R2 fun i j i2 j2 k h1 h2=>hapart (hF1 _ _ _ h1) (hF2 _ _ _ h2) rfl
 have hF:∀i j k,((i<l.length/\F1 i j k)\/(l.length<=i/\F2 (i-l.length) j k))->ia D w ρ H (ks++ks') k:=fun i j k h=>by
  rcases h with⟨-,h⟩|⟨-,h⟩
  ·exact(hF1 _ _ _ h).more fun x hx=>dO.2 (.inl hx)
  ·exact(hF2 _ _ _ h).more fun x hx=>dO.2 (.inr hx)
 have hs':(Y=.slice none 0 0/\l=[])\/∃h0 b o cap vs T fr,ks=[h0]/\H[h0]?=some (.tree c l)/\ρ[h0]?=some Y/\Y=.slice (some ⟨b,o,none⟩) l.length cap/\w.heap[b]?=some (.cells vs T fr)/\(l.length<=cap/\im D c T o)/\o+cap*K.sz c<=vs.size/\
  (∀k,o<=k->k<o+cap*K.sz c->¬(fr.1<=k/\k<fr.2))/\∃us F,(∀k,k<l.length*K.sz c->vs.toList[o+k]?=us[k]?)/\Row D w c l us F/\(∀i j,¬F i j b)/\∀i j k,F i j k->dS D w c l Y k:=by
  unfold pS at hl;split at hl
  ·simp only[av,aZ]at hl;obtain⟨rfl,rfl⟩:=hl;exact .inl ⟨by cases hY;rfl,rfl⟩
  ·rename_i h0;obtain⟨hp,a,n,cp,rfl⟩:=lO hY;split at hl
   ·rename_i c' l0 ho;cases hd:K.jS c' c with
    |isFalse hn=>simp[hd]at hl
    |isTrue he=>
     subst he;simp only[hd,av,aZ]at hl;obtain⟨rfl,rfl⟩:=hl;have hT:Tree D w c' l0 (.slice a n cp):=hs.ob _ _ _ ho hp;rcases hT.row hD with⟨e,rfl⟩|⟨b,o,cap,vs,T,fr,us,F,e,hb,hcap,hsz,hfr,hus,R,wc,hF⟩
     ·exact .inl ⟨e,rfl⟩
     ·exact .inr ⟨h0,b,o,cap,vs,T,fr,rfl,ho,hp,e,hb,hcap,hsz,hfr,us,F,hus,R,wc,hF⟩
   ·cases hl
  ·cases hl
 rcases hs' with⟨rfl,rfl⟩|⟨h0,b,o,cap,vs,T,fr,rfl,ho,hp,rfl,hblk,⟨hcap,fU⟩,hsz,hfr,us,F,hus,R0,wc,OH⟩
 ·by_cases h0:m.length=0
  ·have hm0:m=[]:=lS h0;subst hm0;have hrun:=IX (P:=P) (w:=w) (ty:=ty) (base:=none) (n:=0) (cap:=0) ht hx hd hi hlen (by rw[hisz];exact hnew w rfl) (by simp);exact yI hs (ks:=ks++ks') (a:=none) (n:=0) (cp:=0) (w':=w) (kB (f:=.value) (by simpa using hrun)) (fh _) (fun _ _ _=>rfl) rfl rfl rfl (by simpa using Tree.nil) fun k hk=>by simp at hk;cases hk
  ·have hO:olds=[]:=lS (by have:=R1.len;simpa using this);subst hO;exact OF (P:=P) (ty:=ty) (base:=none) (cap:=0) (l:=[]) (olds:=[]) hD hs ht hx hd hi hisz hz hzs hb R hF rfl hlen (hnew w.drew rfl) (by simp[Builtin.firstCells]) (by simp;omega) (by simpa using hsmall) hE
 ·by_cases hroom:l.length+m.length<=cap
  ·have hlm:(l.length+m.length)*K.sz c<=cap*K.sz c:=ga _ hroom;rw[gP]at hlm;have hrl:=R2.len;obtain⟨w',vs',e1,e2,e3,e4,e5,e6,e7,e8⟩:=wd (P:=P) (b:=b) (o:=o+l.length*K.sz c) news 0 vs w hblk (by omega) (fun k hk hk'=>hfr k (by omega) (by omega)) (aek hD R2);rw[Nat.add_zero]at e3;have we:ia D w ρ H [h0] b:=⟨h0,_,_,by simp,ho,rfl,hp,.here⟩;have hrun:=IX (P:=P) (w:=w) (ty:=ty) (base:=some ⟨b,o,none⟩) (n:=l.length) (cap:=cap) ht hx hd hi hlen (by rw[hisz];exact hnew w rfl) hroom;simp only[hisz,add_plain,e1,Result.andThen_ok]at hrun;have hsize:vs'.size=vs.size:=by have:=rB List.length e3;rw[tZ]at this;simpa using this
   have RA:=R0.append hD R2 fun i j i2 j2 k h1 h2=>hapart ⟨h0,_,_,by simp,ho,rfl,hp,OH i j k h1⟩ (hF2 _ _ _ h2) rfl
   have IY:∀i j k,((i<l.length/\F i j k)\/(l.length<=i/\F2 (i-l.length) j k))->ia D w ρ H ([h0]++ks') k/\k≠b:=fun i j k h=>by
    rcases h with⟨-,h⟩|⟨-,h⟩
    ·exact⟨⟨h0,_,_,by simp,ho,rfl,hp,OH i j k h⟩,fun e=>by subst e;exact wc _ _ h⟩
    ·exact⟨(hF2 _ _ _ h).more fun x hx=>dO.2 (.inr hx),fun e=>hapart we (hF2 _ _ _ h) e.symm⟩
   have RW:Row D w' c (l++m) (us++news) _:=RA.world fun i j k hk=>e5 k (IY i j k hk).2
   obtain⟨T1,T2⟩:=RW.tree hD e2 (o:=o) (cap:=cap) ⟨by simpa using hroom,fU⟩ (by omega) hfr (fun k hk=>by
    rw[aN,gP]at hk;rw[e3];by_cases hkl:k<l.length*K.sz c
    ·rw[OI _ _ _ _ (.inl (by omega)),hus k hkl,b9 (by rw[R0.len];exact hkl)]
    ·rw[rx _ _ _ _ (by simp;omega),aY (by omega),eR (by rw[R0.len];omega),R0.len];congr 1;omega) (fun i j h=>(IY i j b h).2 rfl)
   rw[aN]at T1 T2;exact yI hs (ks:=[h0]++ks') (w':=w') (kB (f:=.value) hrun) (by omega) (fun k _ hno=>e5 k fun e=>by subst e;exact hno (we.more fun x hx=>dO.2 (.inl hx))) e6 e7 e8 T1 fun k hk=>by
    rcases T2 k hk with rfl|⟨i,j,_,h⟩
    ·exact .inl (we.more fun x hx=>dO.2 (.inl hx))
    ·exact .inl (IY i j k h).1
  ·have hnl:(Builtin.firstCells (K.sz c) l.length (.slice (some ⟨b,o,none⟩) l.length cap)).run P w.drew=.ok olds.toArray w.drew:=hold w.drew rfl;exact OF (P:=P) (ty:=ty) (base:=some ⟨b,o,none⟩) (cap:=cap) (l:=l) (olds:=olds) hD hs ht hx hd hi hisz hz hzs hb R hF rfl hlen (hnew w.drew rfl) hnl (by omega) hsmall hE
theorem aem{P:Program}(hD:bR D)(hs:aS D ρ S w H){t:TypeId}{n h i off:Nat}{c:K.U}{l:List (K.El c)}{y:K.El c}{x:AV K}{xs:List (AV K)}{X A:Value}(hn:fm P t=some n)(rC:x.cw.length=n)
 (h1:x.cw.all AV.one=true) (ho:H[h]?=some (.tree c l)) (hoff:off+n<=K.sz c) (hnd:ml (h::cr x.cw)=true) (hg:nb D H x.cw=some xs) (hdec:D.dec c (setCells (D.cells c (l.getD i (K.zero c))) off xs)=some (y,true))
 (hx:Rep D ρ S w x X) (hA:Rep D ρ S w (.ep h (K.sz c) i off) A):Does D P ρ S H w (do Instr.storeAt t A X;pure .skip) .any ((gd H (h::cr x.cw)).set h (.tree c (l.set i y))):=by
 obtain⟨b,o,m,cp,rfl,hb,hi⟩:=tX hA;have hT:Tree D w c l (.slice (some ⟨b,o,none⟩) m cp):=hs.ob _ _ _ ho hb;obtain⟨hn1,hn2⟩:=IM.1 (Dc hnd);rcases hT.row hD with⟨e,-⟩|⟨b',o',cap,vs,T,fr,us,F,e,hblk,⟨hcap,fU⟩,hsz,hfr,hus,R,wc,hF⟩
 ·cases e
 ·simp only[Value.slice.injEq,av,Addr.mk.injEq]at e;obtain⟨⟨rfl,rfl,-⟩,rfl,rfl⟩:=e;have hc:=lQ hx (IZ h1);have hlen:X.cells.toList.length=n:=by rw[<-hc.1,rC]
  have hmul:(i+1)*K.sz c<=cp*K.sz c:=ga _ (by omega);have aen:(i+1)*K.sz c<=l.length*K.sz c:=ga _ (by omega);rw[gP,il]at hmul aen;obtain⟨w',vs',e1,e2,e3,e4,e5,e6,e7,e8⟩:=wd (P:=P) (b:=b) (o:=o+i*K.sz c+off) X.cells.toList 0 vs w hblk (by omega) (fun k hk hk'=>hfr k (by omega) (by omega)) (Dn hc h1);rw[Nat.add_zero]at e3;have hx0:=getD_some (K.zero c) hi;obtain⟨gl,gg⟩:=Db _ _ hg;obtain⟨dl,dd⟩:=hD.C3 _ _ _ hdec;have OJ:∀j,(setCells (D.cells c (l.getD i (K.zero c))) off xs)[j]?=if off<=j/\j<off+n then xs[j-off]? else(D.cells c (l.getD i (K.zero c)))[j]?:=fun j=>by
   have key:∀(zs cs:List (AV K))(q j:Nat),q+zs.length<=cs.length->(setCells cs q zs)[j]?=if q<=j/\j<q+zs.length then zs[j-q]? else cs[j]?:=fun zs=>by
    induction zs with
    |nil=>intro cs q j _;rw[aT (by first|omega|simp)];rfl
    |cons z r ih=>
     intro cs q j hq;simp only[ak]at hq;rw[setCells,ih _ _ _ (by simp;omega)];by_cases h1:q+1<=j/\j<q+1+r.length
     ·rw[aY h1,aY (by simp;omega),show j-q=(j-(q+1))+1 by omega];rfl
     ·rw[aT h1];by_cases h2:j=q
      ·subst h2;rw[aY (by simp),kC];simp;omega
      ·rw[aT (by simp;omega),kC,aT (by omega)]
   have:=key xs (D.cells c (l.getD i (K.zero c))) off j (by rw[hD.len];omega);rw[gl,rC]at this;exact this
  let G:Nat->Nat->Prop:=fun j k=>∃v,x.cw[j]?=some v/\yJ D w ρ H v k
  have I0:∀j k,G j k->ia D w ρ H (cr x.cw) k:=by
   rintro j k ⟨v,hv,h',o',r',rfl,ho',hl',hr',hf'⟩
   refine⟨h',o',r',?_,ho',hl',hr',hf'⟩;have hm:=eN hv;generalize x.cw=L at hm
   induction L with
   |nil=>cases hm
   |cons a r ih=>
    simp only[cr,dO];rcases jm.1 hm with rfl|hm
    ·exact .inl (by simp[hands])
    ·exact .inr (ih hm)
  have hapart:∀{a k:Nat},ia D w ρ H (cr x.cw) k->dS D w c l (.slice (some ⟨b,o,none⟩) l.length cp) a->a≠k:=fun{a k} hk ha e=>by
   subst e;obtain⟨h2,o2,r2,b1,b2,b3,b4,b5⟩:=hk;have:=hs.eV h h2 _ o2 _ r2 a ho rfl hb ha b2 b3 b4 b5;subst this;exact hn1 b1
  have R2:=R.set hD (i:=i) (off:=off) (x0:=l.getD i (K.zero c)) (y:=y) (xs:=X.cells.toList) (G:=G) hx0 (by rw[hlen];exact hoff) (fun j hj=>by
   rw[hlen]at hj;have hg2:=OJ j;rw[aT (by omega)]at hg2;by_cases hjs:j<K.sz c
   ·have ha:=cH (show j<(D.cells c (l.getD i (K.zero c))).length by rw[hD.len];exact hjs);have hb':=cH (show j<(D.cells c y).length by rw[hD.len];exact hjs);rw[ha]at hg2;rcases dd j _ _ hg2 hb' with e|⟨e,-⟩
    ·rw[ha,hb',e]
    ·exact absurd e (hD.kinds c _ j _ ha).1
   ·rw[hZ (by rw[hD.len];omega),hZ (by rw[hD.len];omega)])
   (fun j v u hv hu=>by
     have hjn:j<n:=by rw[<-hlen];exact(bD.1 hu).1
     have I1:=cH (show j<x.cw.length by omega);obtain⟨v',hv',hgc⟩:=gg j _ I1;obtain⟨k1,k2⟩:=Ox hD hs hgc (hc.2 j _ _ I1 hu);have hg2:=OJ (off+j);rw[aY (by omega),show off+j-off=j by omega,hv']at hg2;rcases dd (off+j) _ v hg2 hv with rfl|⟨rfl,c',rfl⟩
     ·exact k1.mono fun k hk=>⟨_,I1,hk⟩
     ·rw[k2 rfl];refine⟨fun e=>(by cases e),fun c l e=>?_⟩;cases e;exact⟨.nil,fun k hk=>by cases hk⟩)
   (fun j j2 k ⟨v,hv,h',o',r',e1,ho',hl',hr',hf'⟩ ⟨v2,hv2,h2,o2,r2,e2',ho2,hl2,hr2,hf2⟩=>by
     subst e1;subst e2';have:=hs.eV h' h2 o' o2 r' r2 k ho' hl' hr' hf' ho2 hl2 hr2 hf2;subst this;exact IN hn2 hv hv2)
   (fun j i2 j2 k hk hf=>hapart (I0 j k hk) (hF _ _ _ hf) rfl)
  have I2:∀i2 j k,((i2=i/\off<=j/\j<off+X.cells.toList.length/\G (j-off) k)\/(¬(i2=i/\off<=j/\j<off+X.cells.toList.length)/\F i2 j k))->ia D w ρ H (h::cr x.cw) k/\k≠b:=fun i2 j k hk=>by
   rcases hk with⟨-,-,-,hk⟩|⟨-,hk⟩
   ·exact⟨(I0 _ _ hk).more fun x hx=>jm.2 (.inr hx),fun e=>hapart (I0 _ _ hk) .here e.symm⟩
   ·exact⟨⟨h,_,_,by simp,ho,rfl,hb,hF _ _ _ hk⟩,fun e=>by subst e;exact wc _ _ hk⟩
  have RW:Row D w' c (l.set i y) _ _:=R2.world fun i j k hk=>e5 k (I2 i j k hk).2
  have hsize:vs'.size=vs.size:=by have:=rB List.length e3;rw[tZ]at this;simpa using this
  have hlc:l.length*K.sz c<=cp*K.sz c:=ga _ hcap;have hlz:X.cells.size=n:=by simpa using hlen
  obtain⟨T1,T2⟩:=RW.tree hD e2 (o:=o) (cap:=cp) ⟨by simpa using hcap,fU⟩ (by omega) hfr (fun k hk=>by
   rw[C4]at hk;rw[e3,rx _ _ _ _ (by simp;omega),rx _ _ _ _ (by rw[R.len];omega)];by_cases hc2:i*K.sz c+off<=k/\k<i*K.sz c+off+X.cells.toList.length
   ·rw[aY (by omega),aY hc2];congr 1;omega
   ·rw[aT (by omega),aT hc2];exact hus k hk) (fun i j h=>(I2 i j b h).2 rfl)
  rw[C4]at T1 T2;have we:ia D w ρ H (h::cr x.cw) b:=⟨h,_,_,by simp,ho,rfl,hb,.here⟩;refine aed hs ho rfl hb (w':=w') ?_ e4 (fun k hno=>e5 k fun e=>by subst e;exact hno we) e6 e7 e8 T1 fun k hk=>?_
  ·have:(storeVar t ⟨b,o+i*K.sz c+off,none⟩ X).run P w=.ok () w':=by rw[I3 hn (by simpa using hlen)];exact e1
   simp[Instr.storeAt,Instr.sureAddr,this]
  ·rcases T2 k hk with rfl|⟨i,j,_,h⟩
   ·exact we
   ·exact(I2 i j k h).1
theorem aeo{cx:Cx K}(hD:bR cx.D)(hs:aS cx.D ρ S w H){ev:Operand->AV K}{ρe:Operand->Value}(hev:∀x,Rep cx.D ρ S w (ev x) (ρe x)){o:Oper}{v:AV K}{H':List (Ob K)}{c:Bool}{t:List Nat}
 (h:wh cx ev H o.op=some (v,H',c,t)) (hc:c=true):Does cx.D cx.P ρ S H w (execOp ρe o) v H':=by
 unfold wh at h;unfold execOp;split at h
 all_goals first|(cases h;done)|(rename_i hop;rw[hop];dsimp only)
 ·
  rename_i T len cap;split at h
  ·cases h
  ·rename_i e he;split at h
   ·rename_i cc z kl n kc m hty hz hl hcp;split at h
    ·rename_i hcond;obtain⟨-,hsz,hroom,hk⟩:=hcond;split at h
     ·rename_i zs hg;split at h
      ·rename_i y b hdec;simp only[av,aZ]at h;obtain⟨rfl,rfl,rfl,rfl⟩:=h;have h1:=hev len;rw[hl]at h1;have h2:=hev cap;rw[hcp]at h2;rw[gQ h1,gQ h2];simp only[cG,bB]at hc;obtain⟨hb,hc⟩:=hc;subst hb;exact aee hD hs he hsz hroom hz hk hg hdec hc.1 hc.2.1 hc.2.2 (rD hty)
      ·cases h
     ·cases h
    ·cases h
   ·cases h
 ·
  rename_i T len parts;split at h
  ·cases h
  ·rename_i e he;split at h
   ·rename_i cc l hty hl;split at h
    ·rename_i hcond;obtain⟨-,hsz,hz,hlen,h1,h2,hall,hnd⟩:=hcond;split at h
     ·rename_i l' hg;split at h
      ·rename_i y b hdec;simp only[av,aZ]at h;obtain⟨rfl,rfl,rfl,rfl⟩:=h;subst hc;exact aeh hD hs hev he hsz hz hl hlen h1 h2 hall hnd hg hdec (rD hty)
      ·cases h
     ·cases h
    ·cases h
   ·cases h
 ·
  rename_i T p x;split at h
  ·rename_i hh st i off n hp hn;split at h
   ·rename_i cc l hob;split at h
    ·rename_i hcond;obtain⟨rfl,hoff,rC,h1,hnd⟩:=hcond;split at h
     ·rename_i xs hg;split at h
      ·rename_i y b hdec;simp only[av,aZ]at h;obtain⟨rfl,rfl,rfl,rfl⟩:=h;subst hc;have hA:=hev p;rw[hp]at hA;exact aem hD hs hn rC h1 hob hoff hnd hg hdec (hev x) hA
      ·cases h
     ·cases h
    ·cases h
   ·cases h
  ·cases h
 ·
  rename_i args argTypes;split at h
  ·rename_i s x sT xT hargs hat;have ea:args= #[s,x]:=by rw[<-Array.toArray_toList (xs:=args),hargs]
   have et:argTypes= #[sT,xT]:=by rw[<-Array.toArray_toList (xs:=argTypes),hat]
   subst ea;subst et;have hres:(do let d<-resolve ρe {callee:=.builtin .append,args:= #[s,x],argTypes:= #[sT,xT]} o.type;invoke d.target d.args:Sem Next)=
    (do pure (.value (<-Builtin.append_ #[sT,xT] o.type #[ρe s,ρe x])):Sem Next):=by simp[resolve,invoke,builtin]
   rw[hres];split at h
   ·cases h
   ·rename_i hxT;simp only[ej,not_or,tQ,Option.isSome_eq_false_iff,Option.isNone_iff_eq_none]at hxT;obtain⟨hx1,hx2⟩:=hxT;obtain⟨d,hd⟩:=Option.ne_none_iff_exists'.1 hx2;have hdk:∀k,d≠.int k:=fun k e=>by subst e;simp[yM,hd]at hx1
    split at h
    ·cases h
    ·rename_i e he;split at h
     ·cases h
     ·rename_i cc hty;split at h
      ·rename_i hcond;obtain⟨-,hsz,hroom,hz⟩:=hcond;obtain⟨i,hi,hisz⟩:=ry hsz;obtain⟨z,hzv,hzs⟩:=Dj hz hi;have hb:=Dh hroom hi;split at h
       ·rename_i l ks m ks' hl hm;split at h
        ·rename_i hnd;simp only[av,aZ]at h;obtain⟨rfl,rfl,rfl,rfl⟩:=h;exact ael hD hs (rz he) hd hdk hi hisz hzv (by rw[hzs,hisz]) hb hl hm hnd (hev s) (hev x) (by simpa using hc) (rD hty)
        ·cases h
       ·cases h
      ·cases h
  ·cases h
theorem aep{cx:Cx K}(hD:bR cx.D)(hs:aS cx.D ρ S w H){ev:Operand->AV K}{ρe:Operand->Value}(hev:∀x,Rep cx.D ρ S w (ev x) (ρe x)){o:Oper}{v:AV K}{H':List (Ob K)}{c:Bool}{t:List Nat}
 (h:wi cx ev H o.op=some (v,H',c,t)) (hc:c=true):∃S1 H1,Step cx.D H.length ρ S H w ρ S1 H1 w/\H1.length=H.length/\Does cx.D cx.P ρ S1 H1 w (execOp ρe o) v H':=by
 unfold wi at h;split at h
 ·rename_i r hd;simp only[av]at h;subst h;exact⟨S,H,Step.refl,rfl,aeo hD hs (fun x=>oi hs _ _ (hev x)) hd hc⟩
 split at h
 ·exact⟨S,H,Step.refl,rfl,OK hD hs (fun x=>oi hs _ _ (hev x)) h hc⟩
 ·generalize pT ev o.op=hs0 at h;obtain⟨S1,g1,g2,g3⟩:=CY (n0:=H.length) hs0 hs;have hev1:∀x,Rep cx.D ρ S1 w (eE (iZ H hs0) (ev x)) (ρe x):=fun x=>oi g1 _ _ ((hev x).mono g2.s1 (fun _ _=>rfl) (fun _ _ h=>h))
  refine⟨S1,_,g2,g3,?_⟩;split at h
  ·rename_i v1 c1 hp;simp only[av,aZ]at h;obtain⟨rfl,rfl,rfl,rfl⟩:=h;obtain⟨u,hu,hr⟩:=OL hD g1 hev1 hp hc;exact⟨_,u,w,ρ,hu,.inl rfl,g1,hr,Step.refl⟩
  ·exact OK hD g1 hev1 h hc
end Go.V
namespace Go.V
open Go
variable {K :dh}{D:bH K}{ρ ρ':List Value}{S S':Nat->Prop}{w w':World}{H H':List (Ob K)}
theorem aS.split(hs:aS D ρ S w H){h:Nat}{o o':Ob K}{r:Value}{os:List (Ob K)}{rs:List Value}(h1:H[h]?=some o)(h2:o.live=true)(h3:ρ[h]?=some r)(hl:rs.length=os.length)
 (ho:∀(m:Nat) p q,os[m]?=some p->rs[m]?=some q->gJ D (ρ++rs) S w p q/\∀k,cJ D w p q k->cJ D w o r k)
 (hd:∀(m m':Nat) p p' q q' k,os[m]?=some p->rs[m]?=some q->os[m']?=some p'->rs[m']?=some q'->cJ D w p q k->cJ D w p' q' k->m=m')
 (ho':gJ D (ρ++rs) S w o' r) (hf':∀k,cJ D w o' r k->cJ D w o r k) (hx:∀(m:Nat) p q k,os[m]?=some p->rs[m]?=some q->cJ D w p q k->¬cJ D w o' r k):
 aS D (ρ++rs) S w (H.set h o'++os)/\Step D H.length ρ S H w (ρ++rs) S (H.set h o'++os) w:=by
 have hlen:=hs.len;have key:∀(k:Nat) x y,(H.set h o'++os)[k]?=some x->(ρ++rs)[k]?=some y->(k=h/\x=o'/\y=r)\/(k≠h/\k<H.length/\H[k]?=some x/\ρ[k]?=some y)\/(H.length<=k/\os[k-H.length]?=some x/\rs[k-H.length]?=some y):=fun k x y hk hy=>by
  by_cases hkl:k<H.length
  ·rw[b9 (by simpa using hkl)]at hk;rw[b9 (by omega)]at hy;rcases fj hk with⟨rfl,rfl,-⟩|⟨hne,hk⟩
   ·rw[h3]at hy;simp at hy;exact .inl ⟨rfl,rfl,hy.symm⟩
   ·exact .inr (.inl ⟨hne,hkl,hk,hy⟩)
  ·rw[eR (by simp;omega)]at hk;rw[eR (by omega)]at hy;simp only[C4]at hk;rw[hlen]at hy;exact .inr (.inr ⟨by omega,hk,hy⟩)
 have own:∀b,Own D w (ρ++rs) (H.set h o'++os) b->Own D w ρ H b:=fun b ⟨k,x,y,g1,g2,g3,g4⟩=>by
  rcases key k x y g1 g3 with⟨-,rfl,rfl⟩|⟨-,-,a,b⟩|⟨-,a,b⟩
  ·exact⟨h,o,_,h1,h2,h3,hf' _ g4⟩
  ·exact⟨k,x,y,a,g2,b,g4⟩
  ·exact⟨h,o,r,h1,h2,h3,(ho _ _ _ a b).2 _ g4⟩
 refine⟨⟨by simp[hlen,hl],fun k x y g1 g3=>?_,fun k k' x x' y y' b g1 g2 g3 g4 e1 e2 e3 e4=>?_,fun b hb=>hs.lt b (own b hb),hs.slt,hs.base⟩,rfl,rfl,rfl,fh _,fun _ _ _=>rfl,fun b hb=>.inl (own b hb),fun _ h=>h,fun _ h=>.inl h,fun k hk=>?_⟩
 ·rcases key k x y g1 g3 with⟨-,rfl,rfl⟩|⟨-,-,a,b⟩|⟨-,a,b⟩
  ·exact ho'
  ·exact(hs.ob _ _ _ a b).mono (fun _ h=>h) (fun _ _=>rfl) (fun _ _ h=>tN h) (fun _ _ _=>rfl)
  ·exact(ho _ _ _ a b).1
 ·have other:∀{k:Nat}{x:Ob K}{y:Value},k≠h->H[k]?=some x->x.live=true->ρ[k]?=some y->cJ D w x y b->¬cJ D w o r b:=fun{k x y} hn a1 a2 a3 a4 a5=>hn (hs.eV _ _ _ _ _ _ _ a1 a2 a3 a4 h1 h2 h3 a5)
  rcases key k x y g1 g3 with⟨rfl,rfl,rfl⟩|⟨n1,l1,a1,b1⟩|⟨l1,a1,b1⟩
  ·rcases key k' x' y' e1 e3 with⟨rfl,rfl,rfl⟩|⟨n2,l2,a2,b2⟩|⟨l2,a2,b2⟩
   ·rfl
   ·exact absurd (hf' _ g4) (other n2 a2 e2 b2 e4)
   ·exact absurd g4 (hx _ _ _ _ a2 b2 e4)
  ·rcases key k' x' y' e1 e3 with⟨rfl,rfl,rfl⟩|⟨n2,l2,a2,b2⟩|⟨l2,a2,b2⟩
   ·exact absurd (hf' _ e4) (other n1 a1 g2 b1 g4)
   ·exact hs.eV _ _ _ _ _ _ _ a1 g2 b1 g4 a2 e2 b2 e4
   ·exact absurd ((ho _ _ _ a2 b2).2 _ e4) (other n1 a1 g2 b1 g4)
  ·rcases key k' x' y' e1 e3 with⟨rfl,rfl,rfl⟩|⟨n2,l2,a2,b2⟩|⟨l2,a2,b2⟩
   ·exact absurd e4 (hx _ _ _ _ a1 b1 g4)
   ·exact absurd ((ho _ _ _ a1 b1).2 _ g4) (other n2 a2 e2 b2 e4)
   ·have:=hd _ _ _ _ _ _ _ a1 b1 a2 b2 g4 e4;omega
 ·rw[b9 (by omega)]
theorem Tree.arr(hD:bR D){c:K.U}{l:List (K.El c)}{r:Value}(hfl:eI (D.cells c (K.zero c))=false)(h:Tree D w c l r):gJ D ρ S w (.arr c l) r/\∀k,lT r=some k->dS D w c l r k:=by
 cases h with
 |nil=>exact⟨.inl ⟨rfl,rfl⟩,fun k hk=>by cases hk⟩
 | @mk _ _ b o cap vs T fr hb hcap hsz hfr hlen jG cn hself hdis=>
   refine⟨.inr ⟨b,o,cap,vs,T,fr,rfl,hb,hcap,hsz,hfr,fun i x hx=>⟨hlen i x hx,fun j v y hv hy=>?_⟩⟩,fun k hk=>?_⟩
   ·have hrd:v.oa=false:=by
     cases hd:v.oa
     ·rfl
     ·obtain⟨c',l',rfl⟩:=IW hd;have:eI (D.cells c x)=true:=by
       have hm:=eN hv;generalize D.cells c x=L at hm
       induction L with
       |nil=>cases hm
       |cons a r ih=>
        simp only[eI,ej];rcases jm.1 hm with rfl|hm
        ·exact .inl rfl
        ·exact .inr (ih hm)
      rw[hD.flat,hfl]at this;cases this
    exact(jG i x hx j v y hv hy hrd).2.mono (fun _ h=>h.elim) (fun _ h=>h.elim) (fun _ _ h=>by simp at h)
   ·simp only[lT,av]at hk;subst hk;exact .here
theorem aeq{cx:Cx K}(hD:bR cx.D)(hs:aS cx.D ρ S w H){ev:Operand->AV K}{ρe:Operand->Value}(hev:∀x,Rep cx.D ρ S w (ev x) (ρe x)){o:Oper}{v:AV K}{H':List (Ob K)}{c:Bool}{t:List Nat}
 (h:wj cx ev H o.op=some (v,H',c,t)):Does cx.D cx.P ρ S H w (execOp ρe o) v H':=by unfold wj at h;cases h
theorem OM(hD:bR D)(hs:aS D ρ S w H){n0:Nat}{t:List Nat}(h:shut D H=some (H',true,t)):aS D ρ S w H'/\Step D n0 ρ S H w ρ S H' w/\H'.length=H.length:=by unfold shut at h;split at h<;>cases h;exact⟨hs,Step.refl,rfl⟩
theorem aer{cx:Cx K}(hD:bR cx.D)(hc:aP cx)(hs:aS cx.D ρ S w H){q:Bool}{f:FuncId}{args:List (AV K)}{vals:List Value}{v:AV K}{H':List (Ob K)}{t:List Nat}
 (h:ae5 q cx H f args=some (v,H',true,t)) (ha:bh cx.D ρ S w args vals):
 tO cx.P f/\Calls cx.P f vals.toArray w fun e w'=>∃u ρ' S',e=.returned u/\aS cx.D ρ' S' w' H'/\Rep cx.D ρ' S' w' v u/\Step cx.D H.length ρ S H w ρ' S' H' w':=by
 unfold ae5 at h;split at h
 ·split at h
  ·rename_i r H1 c1 t1 hcall;split at h
   ·rename_i H2 b t2 hsh;simp only[av,aZ,cG]at h;obtain⟨rfl,rfl,⟨rfl,rfl⟩,-⟩:=h;obtain⟨k1,k2⟩:=N3 hD hc hs hcall ha;refine⟨k1,k2.mono ?_⟩
    rintro e w' ⟨u,ρ',S',rfl,g1,g2,g3⟩
    obtain⟨s1,s2,-⟩:=OM (n0:=H.length) hD g1 hsh;exact⟨u,ρ',S',rfl,s1,g2,g3.trans s2⟩
   ·cases h
  ·cases h
 ·exact N3 hD hc hs h ha
end Go.V
