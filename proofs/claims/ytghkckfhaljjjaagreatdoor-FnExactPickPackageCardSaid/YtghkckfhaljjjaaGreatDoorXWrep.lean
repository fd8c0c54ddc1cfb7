/-
  WHAT AN ABSTRACT VALUE SAYS OF A VALUE AND A WORLD, and what it means that a world holds the objects of a list; how all this is kept while the world goes on.
-/
import Derived.Test.YtghkckfhaljjjaaGreatDoorXWdef
namespace Go.V
open Go
variable {K :dh}
def iE(w:World)(b k:Nat)(vs:List Value):Prop:=∀j v,vs[j]?=some v->w.cell? ⟨b,k+j,none⟩=some v
inductive Rep (D:bH K) (ρ:List Value) (S:Nat->Prop) (w:World):AV K->Value->Prop
 |any (v:Value):Rep D ρ S w .any v
 |int (k:IntKind) (n:Int):Rep D ρ S w (.int k n) (.int k n)
 |bool (b:Bool):Rep D ρ S w (.bool b) (.bool b)
 |str (s:List UInt8):Rep D ρ S w (.str s) (.string ⟨s.toArray⟩)
 |dx:Rep D ρ S w .dx (.pointer none)
 |kz {h:Nat}:Rep D ρ S w (.np h) (.pointer none)
 |np {h b:Nat} (hp:ρ[h]?=some (.pointer (some ⟨b,0,none⟩))):Rep D ρ S w (.np h) (.pointer (some ⟨b,0,none⟩))
 |dn:Rep D ρ S w .dn (.slice none 0 0)
 |fn {f:Nat} {caps:List (AV K)} {vs:List Value} (hl:caps.length=vs.length) (hr:∀(i:Nat) v x,caps[i]?=some v->vs[i]?=some x->Rep D ρ S w v x):
   Rep D ρ S w (.fn f caps) (.func (.func f) #[] vs.toArray)
 |ptr {h off b:Nat} (hp:ρ[h]?=some (.pointer (some ⟨b,0,none⟩))):Rep D ρ S w (.ptr h off) (.pointer (some ⟨b,off,none⟩))
 |sl {h:Nat} {a:Option Addr} {n c:Nat} (hp:ρ[h]?=some (.slice a n c)):Rep D ρ S w (.sl h) (.slice a n c)
 |ep {h st i off b o n c:Nat} (hp:ρ[h]?=some (.slice (some ⟨b,o,none⟩) n c)) (hi:i<n):Rep D ρ S w (.ep h st i off) (.pointer (some ⟨b,o+i*st+off,none⟩))
 |vw {h st lo hi n c c':Nat} {a a':Option Addr} (hp:ρ[h]?=some (.slice a n c)) (h1:lo<=hi) (h2:hi<=n) (ha:hi-lo=0\/∃b o,a=some ⟨b,o,none⟩/\a'=some ⟨b,o+lo*st,none⟩/\hi-lo<=c'):Rep D ρ S w (.vw h st lo hi) (.slice a' (hi-lo) c')
 |fc {c:K.U} (a:Option Addr) (cap:Nat):Rep D ρ S w (.an c []) (.slice a 0 cap)
 |an {c:K.U} {l:List (K.El c)} {b o cap:Nat} (val:Nat->List Value) (hS:S b) (hcap:l.length<=cap)
   (hl:∀i x,l[i]?=some x->(val i).length=(D.cells c x).length)
   (hc:∀i,i<l.length->iE w b (o+i*K.sz c) (val i))
   (hr:∀i x,l[i]?=some x->∀(j:Nat) v y,(D.cells c x)[j]?=some v->(val i)[j]?=some y->Rep D ρ S w v y):
   Rep D ρ S w (.an c l) (.slice (some ⟨b,o,none⟩) l.length cap)
 |rp {c:K.U} {x:K.El c} {b o off:Nat} (vs:List Value) (hS:S b) (hl:vs.length=(D.cells c x).length) (hc:iE w b o vs)
   (hr:∀(j:Nat) v y,(D.cells c x)[j]?=some v->vs[j]?=some y->Rep D ρ S w v y):
   Rep D ρ S w (.rp c x off) (.pointer (some ⟨b,o+off,none⟩))
 |agg {l:List (AV K)} {vs:List Value} (hl:l.length=vs.length) (hr:∀(i:Nat) v x,l[i]?=some v->vs[i]?=some x->Rep D ρ S w v x):
   Rep D ρ S w (.agg l) (.agg vs.toArray)
 |bC {l:List (AV K)} {vs:List Value} (hl:l.length=vs.length) (hr:∀(i:Nat) v x,l[i]?=some v->vs[i]?=some x->Rep D ρ S w v x):
   Rep D ρ S w (.bC l) (.tuple vs.toArray)
def bh(D:bH K)(ρ:List Value)(S:Nat->Prop)(w:World)(l:List (AV K))(vs:List Value):Prop:=
 l.length=vs.length/\∀(i:Nat) v x,l[i]?=some v->vs[i]?=some x->Rep D ρ S w v x
section
variable {D :bH K}{ρ ρ':List Value}{S S':Nat->Prop}{w w':World}
theorem bh.nil:bh D ρ S w [] []:=⟨rfl,fun i v x h=>by simp at h⟩
theorem bh.cons{v:AV K}{x:Value}{l:List (AV K)}{vs:List Value}(h:Rep D ρ S w v x)(t:bh D ρ S w l vs):bh D ρ S w (v::l) (x::vs):=
 ⟨by simp[t.1],fun i u y hu hy=>by
   cases i with
   |zero=>simp at hu hy;subst hu;subst hy;exact h
   |succ i=>exact t.2 i u y (by simpa using hu) (by simpa using hy)⟩
theorem bh.head{v:AV K}{x:Value}{l:List (AV K)}{vs:List Value}(h:bh D ρ S w (v::l) (x::vs)):Rep D ρ S w v x:=h.2 0 v x rfl rfl
theorem bh.tail{v:AV K}{x:Value}{l:List (AV K)}{vs:List Value}(h:bh D ρ S w (v::l) (x::vs)):bh D ρ S w l vs:=
 ⟨by simpa using h.1,fun i u y hu hy=>h.2 (i+1) u y (by simpa using hu) (by simpa using hy)⟩
theorem bh.gp{v:AV K}{l:List (AV K)}{vs:List Value}(h:bh D ρ S w (v::l) vs):∃x r,vs=x::r/\Rep D ρ S w v x/\bh D ρ S w l r:=by
 cases vs with
 |nil=>simp[bh]at h
 |cons x r=>exact⟨x,r,rfl,h.head,h.tail⟩
theorem bh.m9{vs:List Value}(h:bh D ρ S w [] vs):vs=[]:=by
 have:=h.1;simp at this;exact lS this.symm
theorem bh.append{l m:List (AV K)}{vs us:List Value}(h:bh D ρ S w l vs)(k:bh D ρ S w m us):bh D ρ S w (l++m) (vs++us):=by
 refine⟨by simp[h.1,k.1],fun i v x hv hx=>?_⟩;by_cases hi:i<l.length
 ·rw[b9 hi]at hv;rw[b9 (by rw[<-h.1];exact hi)]at hx;exact h.2 i v x hv hx
 ·rw[eR (by omega)]at hv;rw[eR (by rw[<-h.1];omega)]at hx;exact k.2 (i-l.length) v x hv (by rw[h.1];exact hx)
theorem bh.drop{l:List (AV K)}{vs:List Value}(h:bh D ρ S w l vs)(n:Nat):bh D ρ S w (l.drop n) (vs.drop n):=
 ⟨by simp[h.1],fun i v x hv hx=>h.2 (n+i) v x (by simpa using hv) (by simpa using hx)⟩
theorem bh.take{l:List (AV K)}{vs:List Value}(h:bh D ρ S w l vs)(n:Nat):bh D ρ S w (l.take n) (vs.take n):=
 ⟨by simp[h.1],fun i v x hv hx=>by
   simp only[fa]at hv hx;split at hv
   ·rename_i hi;rw[aY hi]at hx;exact h.2 i v x hv hx
   ·simp at hv⟩
theorem bh.get{l:List (AV K)}{vs:List Value}(h:bh D ρ S w l vs){i:Nat}{v:AV K}(hv:l[i]?=some v):∃x,vs[i]?=some x/\Rep D ρ S w v x:=by
 have hi:i<vs.length:=by rw[<-h.1];exact(bD.1 hv).1
 exact⟨vs[i],cH hi,h.2 i v _ hv (cH hi)⟩
theorem bh.set{l:List (AV K)}{vs:List Value}(h:bh D ρ S w l vs){n:Nat}{v:AV K}{x:Value}(hv:Rep D ρ S w v x):bh D ρ S w (l.set n v) (vs.set n x):=by
 refine⟨by simp[h.1],fun i u y hu hy=>?_⟩;rw[kC]at hu hy;by_cases hn:n=i
 ·subst hn;simp only[pW]at hu hy;split at hu
  ·rename_i hl;rw[aY (by rw[<-h.1];exact hl)]at hy;simp at hu hy;subst hu;subst hy;exact hv
  ·simp at hu
 ·rw[aT hn]at hu hy;exact h.2 i u y hu hy
theorem cell?_of_heap{a:Addr}(h:w'.heap[a.block]?=w.heap[a.block]?):w'.cell? a=w.cell? a:=by simp[World.cell?,h]
theorem iE.keep{b k:Nat}{vs:List Value}(h:iE w b k vs)(hb:w'.heap[b]?=w.heap[b]?):iE w' b k vs:=fun j v hv=>by
 rw[cell?_of_heap (w:=w) (a:=⟨b,k+j,none⟩) hb];exact h j v hv
theorem Rep.mono(hS:∀b,S b->S' b)(hw:∀b,S b->w'.heap[b]?=w.heap[b]?)(hρ:∀(h:Nat) r,ρ[h]?=some r->ρ'[h]?=some r){v:AV K}{x:Value}
 (h:Rep D ρ S w v x):Rep D ρ' S' w' v x:=by
 induction h with
 |any v=>exact .any v
 |int k n=>exact .int k n
 |bool b=>exact .bool b
 |str s=>exact .str s
 |dx=>exact .dx
 |dn=>exact .dn
 |fn hl _ ih=>exact .fn hl ih
 |kz=>exact .kz
 |np hp=>exact .np (hρ _ _ hp)
 |ptr hp=>exact .ptr (hρ _ _ hp)
 |sl hp=>exact .sl (hρ _ _ hp)
 |ep hp hi=>exact .ep (hρ _ _ hp) hi
 |vw hp h1 h2 ha=>exact .vw (hρ _ _ hp) h1 h2 ha
 |fc a cap=>exact .fc a cap
 |an val h1 h2 h3 h4 _ ih=>exact .an val (hS _ h1) h2 h3 (fun i hi=>(h4 i hi).keep (hw _ h1)) ih
 |rp vs h1 h2 h3 _ ih=>exact .rp vs (hS _ h1) h2 (h3.keep (hw _ h1)) ih
 |agg hl _ ih=>exact .agg hl ih
 |bC hl _ ih=>exact .bC hl ih
theorem bh.mono(hS:∀b,S b->S' b)(hw:∀b,S b->w'.heap[b]?=w.heap[b]?)(hρ:∀(h:Nat) r,ρ[h]?=some r->ρ'[h]?=some r){l:List (AV K)}{vs:List Value}
 (h:bh D ρ S w l vs):bh D ρ' S' w' l vs:=⟨h.1,fun i v x hv hx=>(h.2 i v x hv hx).mono hS hw hρ⟩
def AV.oa:AV K->Bool
 |.an ..=>true
 |_=>false
structure bR (D:bH K):Prop where
 len:∀c x,(D.cells c x).length=K.sz c
 closed:∀c x,g9 (D.cells c x)=true
 one:∀c x,(D.cells c x).all AV.one=true
 dec:∀c l x,D.dec c l=some (x,true)->∀ρ S w vs,bh D ρ S w l vs->bh D ρ S w (D.cells c x) vs
 byte:∀c f g,D.byte c=some (f,g)->(∀x,D.cells c x=[.int .u8 ((f x).toNat:Int)])/\∀b,f (g b)=b
 flat:∀c x,eI (D.cells c x)=eI (D.cells c (K.zero c))
 kinds:∀c x (j:Nat) v,(D.cells c x)[j]?=some v->v≠.dn/\(v.oa=false->iL v=false)
 C3:∀c l x,D.dec c l=some (x,true)->l.length=K.sz c/\∀(j:Nat) v v',l[j]?=some v->(D.cells c x)[j]?=some v'->v'=v\/(v=.dn/\∃c',v'=.an c' [])
theorem ua{l:List (AV K)}(h:g9 l=true){i:Nat}{v:AV K}(hv:l[i]?=some v):v.closed=true:=by
 induction l generalizing i with
 |nil=>simp at hv
 |cons u r ih=>
  simp only[g9,cG]at h;cases i with
  |zero=>simp at hv;subst hv;exact h.1
  |succ i=>exact ih h.2 (by simpa using hv)
theorem Rep.closed(hD:bR D){v:AV K}{x:Value}(h:Rep D ρ S w v x)(hv:v.closed=true):Rep D ρ' S w v x:=by
 induction h with
 |any v=>exact .any v
 |int k n=>exact .int k n
 |bool b=>exact .bool b
 |str s=>exact .str s
 |dx=>exact .dx
 |dn=>exact .dn
 |fn hl _ ih=>exact .fn hl fun i u y hu hy=>ih i u y hu hy (ua (by simpa [AV.closed]using hv) hu)
 |kz=>simp[AV.closed]at hv
 |np hp=>simp[AV.closed]at hv
 |ptr hp=>simp[AV.closed]at hv
 |sl hp=>simp[AV.closed]at hv
 |ep hp hi=>simp[AV.closed]at hv
 |vw hp h1 h2 ha=>simp[AV.closed]at hv
 |fc a cap=>exact .fc a cap
 |an val h1 h2 h3 h4 _ ih=>exact .an val h1 h2 h3 h4 fun i x hx j v y hv hy=>ih i x hx j v y hv hy (ua (hD.closed _ _) hv)
 |rp vs h1 h2 h3 _ ih=>exact .rp vs h1 h2 h3 fun j v y hv hy=>ih j v y hv hy (ua (hD.closed _ _) hv)
 |agg hl _ ih=>exact .agg hl fun i u y hu hy=>ih i u y hu hy (ua (by simpa [AV.closed]using hv) hu)
 |bC hl _ ih=>exact .bC hl fun i u y hu hy=>ih i u y hu hy (ua (by simpa [AV.closed]using hv) hu)
theorem bh.closed(hD:bR D){l:List (AV K)}{vs:List Value}(h:bh D ρ S w l vs)(hv:g9 l=true):bh D ρ' S w l vs:=
 ⟨h.1,fun i v x hi hx=>(h.2 i v x hi hx).closed hD (ua hv hi)⟩
end
def lT:Value->Option Nat
 |.pointer (some a)=>some a.block
 |.slice (some a) _ _=>some a.block
 |_=>none
def db(vs:Array Value)(k n:Nat):List Value:=(vs.toList.drop k).take n
def Kq(D:bH K)(cs:List (AV K))(T:TypeId):Prop:=ku cs=true->D.pP=some T
def im(D:bH K)(c:K.U)(T:TypeId)(o:Nat):Prop:=∀t,D.rn c=some t->T=t/\o=0
inductive dS (D:bH K) (w:World):(c:K.U)->List (K.El c)->Value->Nat->Prop
 |here {c:K.U} {l:List (K.El c)} {b o n cap:Nat}:dS D w c l (.slice (some ⟨b,o,none⟩) n cap) b
 |kid {c:K.U} {l:List (K.El c)} {b o n cap i j k:Nat} {x:K.El c} {c':K.U} {l':List (K.El c')} {y:Value} (hx:l[i]?=some x) (hj:(D.cells c x)[j]?=some (.an c' l'))
   (hy:w.cell? ⟨b,o+i*K.sz c+j,none⟩=some y) (hk:dS D w c' l' y k):dS D w c l (.slice (some ⟨b,o,none⟩) n cap) k
inductive Tree (D:bH K) (w:World):(c:K.U)->List (K.El c)->Value->Prop
 |nil {c:K.U}:Tree D w c [] (.slice none 0 0)
 |mk {c:K.U} {l:List (K.El c)} {b o cap:Nat} {vs:Array Value} {T:TypeId} {fr:Nat×Nat} (hb:w.heap[b]?=some (.cells vs T fr)) (hcap:l.length<=cap/\im D c T o) (hsz:o+cap*K.sz c<=vs.size)
   (hfr:∀k,o<=k->k<o+cap*K.sz c->¬(fr.1<=k/\k<fr.2))
   (hlen:∀i x,l[i]?=some x->(D.cells c x).length=(db vs (o+i*K.sz c) (K.sz c)).length)
   (jG:∀i x,l[i]?=some x->∀(j:Nat) v y,(D.cells c x)[j]?=some v->(db vs (o+i*K.sz c) (K.sz c))[j]?=some y->v.oa=false->iL v=false/\Rep D [] (fun _=>False) w v y)
   (cn:∀i x,l[i]?=some x->∀(j:Nat) c' l' y,(D.cells c x)[j]?=some (.an c' l')->(db vs (o+i*K.sz c) (K.sz c))[j]?=some y->Tree D w c' l' y)
   (hself:∀i x,l[i]?=some x->∀(j:Nat) c' l' y,(D.cells c x)[j]?=some (.an c' l')->(db vs (o+i*K.sz c) (K.sz c))[j]?=some y->¬dS D w c' l' y b)
   (hdis:∀i x,l[i]?=some x->∀(j:Nat) c' l' y,(D.cells c x)[j]?=some (.an c' l')->(db vs (o+i*K.sz c) (K.sz c))[j]?=some y->
     ∀i2 x2,l[i2]?=some x2->∀(j2:Nat) c2 l2 y2,(D.cells c x2)[j2]?=some (.an c2 l2)->(db vs (o+i2*K.sz c) (K.sz c))[j2]?=some y2->∀k,dS D w c' l' y k->dS D w c2 l2 y2 k->i=i2/\j=j2):
   Tree D w c l (.slice (some ⟨b,o,none⟩) l.length cap)
def zq(i off n i' j':Nat):Prop:=i'=i/\off<=j'/\j'<off+n
def lZ(D:bH K)(w:World)(c:K.U)(l:List (K.El c))(i off n:Nat)(r:Value)(k:Nat):Prop:=
 ∃b o m cap,r=.slice (some ⟨b,o,none⟩) m cap/\(k=b\/∃(i' j':Nat)(x:K.El c)(c':K.U)(l':List (K.El c'))(y:Value),¬zq i off n i' j'/\l[i']?=some x/\(D.cells c x)[j']?=some (.an c' l')/\w.cell? ⟨b,o+i'*K.sz c+j',none⟩=some y/\dS D w c' l' y k)
def oz(D:bH K)(ρ:List Value)(S:Nat->Prop)(w:World)(c:K.U)(l:List (K.El c))(i off:Nat)(cs:List (AV K))(r:Value):Prop:=
 ∃(b o cap:Nat)(vs:Array Value)(T:TypeId)(fr:Nat×Nat),r=.slice (some ⟨b,o,none⟩) l.length cap/\w.heap[b]?=some (.cells vs T fr)/\(l.length<=cap/\im D c T o)/\o+cap*K.sz c<=vs.size/\
  (∀k,o<=k->k<o+cap*K.sz c->¬(fr.1<=k/\k<fr.2))/\i<l.length/\off+cs.length<=K.sz c/\
  (∀(i':Nat) x,l[i']?=some x->∀(j':Nat) v u,¬zq i off cs.length i' j'->(D.cells c x)[j']?=some v->w.cell? ⟨b,o+i'*K.sz c+j',none⟩=some u->
    (v.oa=false->iL v=false/\Rep D [] (fun _=>False) w v u)/\∀(c':K.U)(l':List (K.El c')),v=.an c' l'->Tree D w c' l' u/\¬dS D w c' l' u b)/\
  (∀(i1 j1 i2 j2:Nat) x1 x2 (c1:K.U) (l1:List (K.El c1)) (c2:K.U) (l2:List (K.El c2)) u1 u2 k,¬zq i off cs.length i1 j1->¬zq i off cs.length i2 j2->l[i1]?=some x1->l[i2]?=some x2->(D.cells c x1)[j1]?=some (.an c1 l1)->(D.cells c x2)[j2]?=some (.an c2 l2)->
    w.cell? ⟨b,o+i1*K.sz c+j1,none⟩=some u1->w.cell? ⟨b,o+i2*K.sz c+j2,none⟩=some u2->dS D w c1 l1 u1 k->dS D w c2 l2 u2 k->i1=i2/\j1=j2)/\
  ∀(j:Nat) v,cs[j]?=some v->∃u,w.cell? ⟨b,o+i*K.sz c+off+j,none⟩=some u/\Rep D ρ S w v u
def cJ(D:bH K)(w:World):Ob K->Value->Nat->Prop
 |.tree c l,r,b=>dS D w c l r b
 |.opn c l i off cs,r,b=>lZ D w c l i off cs.length r b
 |_,r,b=>lT r=some b
def Ob.live:Ob K->Bool
 |.dead|.gK ..=>false
 |_=>true
def gJ(D:bH K)(ρ:List Value)(S:Nat->Prop)(w:World):Ob K->Value->Prop
 |.dead,_=>True
 |.gK c l,r=>Rep D ρ S w (.an c l) r
 |.box cs,r=>∃b vs T,r=.pointer (some ⟨b,0,none⟩)/\w.heap[b]?=some (.cells vs T (0,0))/\bh D ρ S w cs vs.toList/\Kq D cs T
 |.arr c l,r=>(r=.slice none 0 0/\l=[])\/∃b o cap vs T fr,r=.slice (some ⟨b,o,none⟩) l.length cap/\w.heap[b]?=some (.cells vs T fr)/\(l.length<=cap/\im D c T o)/\o+cap*K.sz c<=vs.size/\
     (∀k,o<=k->k<o+cap*K.sz c->¬(fr.1<=k/\k<fr.2))/\∀i x,l[i]?=some x->bh D ρ S w (D.cells c x) (db vs (o+i*K.sz c) (K.sz c))
 |.tree c l,r=>Tree D w c l r
 |.opn c l i off cs,r=>oz D ρ S w c l i off cs r
def Own(D:bH K)(w:World)(ρ:List Value)(H:List (Ob K))(b:Nat):Prop:=∃(h:Nat)(o:Ob K)(r:Value),H[h]?=some o/\o.live=true/\ρ[h]?=some r/\cJ D w o r b
structure aS (D:bH K) (ρ:List Value) (S:Nat->Prop) (w:World) (H:List (Ob K)):Prop where
 len:ρ.length=H.length
 ob:∀(h:Nat) o r,H[h]?=some o->ρ[h]?=some r->gJ D ρ S w o r
 eV:∀(h h':Nat) o o' r r' b,H[h]?=some o->o.live=true->ρ[h]?=some r->cJ D w o r b->H[h']?=some o'->o'.live=true->ρ[h']?=some r'->cJ D w o' r' b->h=h'
 lt:∀b,Own D w ρ H b->b<w.heap.size/\¬S b
 slt:∀b,S b->b<w.heap.size
 base:D.base.inv S w
structure Step (D:bH K) (n0:Nat) (ρ:List Value) (S:Nat->Prop) (H:List (Ob K)) (w:World) (ρ':List Value) (S':Nat->Prop) (H':List (Ob K)) (w':World):Prop where
 os:w'.os=w.os
 tape:w'.tape=w.tape
 output:w'.output=w.output
 size:w.heap.size<=w'.heap.size
 old:∀b,b<w.heap.size->¬Own D w ρ H b->w'.heap[b]?=w.heap[b]?
 own:∀b,Own D w' ρ' H' b->Own D w ρ H b\/w.heap.size<=b
 s1:∀b,S b->S' b
 s2:∀b,S' b->S b\/Own D w ρ H b\/w.heap.size<=b
 pre:∀h,h<n0->ρ'[h]?=ρ[h]?
section
variable {D :bH K}{n0:Nat}{ρ ρ' QO:List Value}{S S' QP:Nat->Prop}{w w' w'':World}{H H' oC:List (Ob K)}
theorem Step.refl:Step D n0 ρ S H w ρ S H w:=⟨rfl,rfl,rfl,fh _,fun _ _ _=>rfl,fun _ h=>.inl h,fun _ h=>h,fun _ h=>.inl h,fun _ _=>rfl⟩
theorem Step.trans(a:Step D n0 ρ S H w ρ' S' H' w')(b:Step D n0 ρ' S' H' w' QO QP oC w''):Step D n0 ρ S H w QO QP oC w'':={
 os:=b.os.trans a.os
 tape:=b.tape.trans a.tape
 output:=b.output.trans a.output
 size:=lU a.size b.size
 old:=fun k hk ho=>by
  rw[b.old k (kY hk a.size) (fun h=>by rcases a.own k h with h|h;exact ho h;omega),a.old k hk ho]
 own:=fun k h=>by
  rcases b.own k h with h|h
  ·exact a.own k h
  ·exact .inr (lU a.size h)
 s1:=fun k h=>b.s1 k (a.s1 k h)
 s2:=fun k h=>by
  rcases b.s2 k h with h|h|h
  ·exact a.s2 k h
  ·rcases a.own k h with h|h
   ·exact .inr (.inl h)
   ·exact .inr (.inr h)
  ·exact .inr (.inr (lU a.size h))
 pre:=fun h hh=>(b.pre h hh).trans (a.pre h hh)}
theorem Step.weaken{m:Nat}(a:Step D n0 ρ S H w ρ' S' H' w')(h:m<=n0):Step D m ρ S H w ρ' S' H' w':=
 ⟨a.os,a.tape,a.output,a.size,a.old,a.own,a.s1,a.s2,fun k hk=>a.pre k (kY hk h)⟩
theorem Step.yC(hs:aS D ρ S w H)(a:Step D n0 ρ S H w ρ' S' H' w'):∀b,S b->w'.heap[b]?=w.heap[b]?:=
 fun b hb=>a.old b (hs.slt b hb) fun h=>(hs.lt b h).2 hb
theorem Step.rep(hs:aS D ρ S w H)(a:Step D n0 ρ S H w ρ' S' H' w')(hρ:∀(h:Nat) r,ρ[h]?=some r->ρ'[h]?=some r){v:AV K}{x:Value}(h:Rep D ρ S w v x):Rep D ρ' S' w' v x:=
 h.mono a.s1 (a.yC hs) hρ
end
end Go.V
