/-
  append, and the bytes of a string as a slice.
-/
import Derived.Test.YtghkckfhaljjjaaGreatDoorXWobjA
import Derived.Laws.Append
set_option linter.unusedVariables false
namespace Go.V
open Go
variable {K :dh}{D:bH K}{ρ:List Value}{S:Nat->Prop}{w:World}{H:List (Ob K)}
def RowOf(D:bH K)(ρ:List Value)(S:Nat->Prop)(w:World)(c:K.U)(m:List (K.El c))(news:List Value):Prop:=
 news.length=m.length*K.sz c/\∀i x,m[i]?=some x->bh D ρ S w (D.cells c x) ((news.drop (i*K.sz c)).take (K.sz c))
theorem gather{c:K.U}{b:Nat}:∀(m:List (K.El c))(o:Nat),(∀i x,m[i]?=some x->∃vs,vs.length=K.sz c/\iE w b (o+i*K.sz c) vs/\bh D ρ S w (D.cells c x) vs)->
 ∃news,iE w b o news/\RowOf D ρ S w c m news
 |[],o,_=>⟨[],fun j v h=>by simp at h,by simp,fun i x h=>by simp at h⟩
 |x::r,o,h=>by
  obtain⟨vs,h1,h2,h3⟩:=h 0 x rfl;rw[yL,Nat.add_zero]at h2;obtain⟨news,g1,g2,g3⟩:=gather r (o+K.sz c) (fun i y hy=>by
   obtain⟨us,a,b,c'⟩:=h (i+1) y (by simpa using hy);exact⟨us,a,by rw[gP,il]at b;rw[show o+K.sz c+i*K.sz c=o+(i*K.sz c+K.sz c) by omega];exact b,c'⟩)
  refine⟨vs++news,fun j v hv=>?_,by simp[h1,g2,gP];omega,fun i y hy=>?_⟩
  ·by_cases hj:j<vs.length
   ·rw[b9 hj]at hv;exact h2 j v hv
   ·rw[eR (by omega)]at hv;have:=g1 (j-vs.length) v hv;rw[show o+j=o+K.sz c+(j-vs.length) by omega];exact this
  ·cases i with
   |zero=>
    simp at hy;subst hy;rw[yL,lR,I4 (by omega),yO (by omega)];exact h3
   |succ i=>
    have:=g3 i y (by simpa using hy);rw[show(i+1)*K.sz c=vs.length+i*K.sz c by rw[gP,il,h1];omega,<-yQ,List.drop_left];exact this
theorem row_one(hD:bR D){c:K.U}{m:List (K.El c)}{news:List Value}(h:RowOf D ρ S w c m news):∀x∈news,x.oneCell'=true:=fun x hx=>by
 obtain⟨k,hk,rfl⟩:=vY hx;rw[h.1]at hk;have hsz:0<K.sz c:=by
  rcases mn (K.sz c)with h0|h0
  ·rw[h0]at hk;simp at hk
  ·exact h0
 have hi:k/K.sz c<m.length:=Nat.div_lt_of_lt_mul (by rw[Dl];exact hk);have hr:=h.2 _ _ (cH hi);refine Dn hr (hD.one _ _) _ ?_;rw[List.mem_iff_getElem?];refine⟨k%K.sz c,?_⟩;rw[fa,aY (Nat.mod_lt _ hsz),iY,Dl,Nat.div_add_mod];simp
theorem Qi{P:Program}(hD:bR D)(hs:aS D ρ S w H){c:K.U}{x:AV K}{m:List (K.El c)}{X:Value}(h:source D H c x=some m)(hx:Rep D ρ S w x X):
 (Builtin.lenOf X).run P w=.ok m.length w/\∃news,RowOf D ρ S w c m news/\∀w':World,w'.heap=w.heap->(Builtin.firstCells (K.sz c) m.length X).run P w'=.ok news.toArray w':=by
 have afn:∀{X:Value},SliceAt D ρ S w c m X->(Builtin.lenOf X).run P w=.ok m.length w/\∃news,RowOf D ρ S w c m news/\∀w':World,w'.heap=w.heap->(Builtin.firstCells (K.sz c) m.length X).run P w'=.ok news.toArray w':=by
  rintro X ⟨a,cap,rfl,h⟩
  refine⟨by simp[Builtin.lenOf],?_⟩;by_cases hne:m=[]
  ·subst hne;refine⟨[],⟨by simp,fun i x h=>by simp at h⟩,fun w' _=>?_⟩;cases a with
   |none=>simp[Builtin.firstCells]
   |some a=>simp[Builtin.firstCells,loadCells,loadCellsFrom]
  ·obtain⟨b,o,rfl,h'⟩:=h hne;obtain⟨news,g1,g2⟩:=gather m o h';refine⟨news,g2,fun w' hw=>?_⟩;have:=Dm (P:=P) (iE.keep (w':=w') g1 (by rw[hw]));rw[g2.1]at this;simpa [Builtin.firstCells]using this
 unfold source at h;split at h
 ·rename_i s;obtain rfl:=iD hx;split at h
  ·rename_i f g hb;simp only[av]at h;subst h;obtain⟨b1,b2⟩:=hD.byte c f g hb;have hsz:K.sz c=1:=by rw[<-hD.len c (g 0),b1];rfl
   refine⟨by simp[Builtin.lenOf,zn],s.map fun b=>.int .u8 (b.toNat:Int),⟨by simp[hsz],fun i y hy=>?_⟩,fun w' _=>?_⟩
   ·simp only[ik,dy]at hy;obtain⟨u,hu,rfl⟩:=hy;rw[b1,b2,hsz,rG];have:((s.map fun b=>Value.int .u8 (b.toNat:Int)).drop i).take 1=[.int .u8 (u.toNat:Int)]:=by
     rw[List.take_one];simp[hu]
    rw[this];exact .cons (.int _ _) .nil
   ·have:(ByteArray.mk s.toArray).extract 0 s.length=ByteArray.mk s.toArray:=by rw[Qj];simp
    simp[Builtin.firstCells,this]
  ·cases h
 ·exact afn (Qk hD hs h hx)
theorem IX{P:Program}{t xT ty e:TypeId}{d:TypeDesc}{i:TypeInfo}(ht:P.underlying t=some (.slice e))(hx:P.underlying xT=some d)(hd:∀k,d≠.int k)(hi:P.info? e=some i){base:Option Addr}{n cap m:Nat}{X:Value}{news:List Value}
 (hlen:(Builtin.lenOf X).run P w=.ok m w) (hnew:(Builtin.firstCells i.size m X).run P w=.ok news.toArray w) (hroom:n+m<=cap):
 (Builtin.append_ #[t,xT] ty #[.slice base n cap,X]).run P w=((match base with|some a=>storeCells (a.add (n*i.size)) news|none=>pure ():Sem Unit).run P w).andThen fun _ w'=>.ok (.slice base (n+m) cap) w':=by
 have hz:(do pure ((<-underlying xT) matches .int _):Sem Bool).run P w=.ok false w:=by
  simp only[Sem.run_bind,gh hx,Result.andThen_ok];cases d<;>first|rfl|exact absurd rfl (hd _)
 cases base with
 |none=>simp[Builtin.append_,gh ht,sizeOf,typeInfo,hi,hlen,hroom,hnew,gh hx]
 |some a=>simp[Builtin.append_,gh ht,sizeOf,typeInfo,hi,hlen,hroom,hnew,gh hx]
theorem OG{P:Program}{t xT ty e:TypeId}{d:TypeDesc}{i:TypeInfo}{z:Value}(ht:P.underlying t=some (.slice e))(hx:P.underlying xT=some d)(hd:∀k,d≠.int k)(hi:P.info? e=some i)(hz:i.zero=some z)
 {base:Option Addr} {n cap m:Nat} {X:Value} {olds news:List Value} (hlen:(Builtin.lenOf X).run P w=.ok m w) (hnew:(Builtin.firstCells i.size m X).run P w.drew=.ok news.toArray w.drew)
 (hold:(Builtin.firstCells i.size n (.slice base n cap)).run P w.drew=.ok olds.toArray w.drew) (hroom:cap<n+m) (hsmall:n+m<=1073741824) (hb:i.bytes<=4096):
 (Builtin.append_ #[t,xT] ty #[.slice base n cap,X]).run P w=.ok (.slice (some ⟨w.heap.size,0,none⟩) (n+m) (grownCap w (n+m) cap e))
   (w.drew.alloc (.cells (olds++news++(Builtin.zeroCells z.cells (grownCap w (n+m) cap e-(n+m))).toList).toArray e)):=by
 have hn:¬(n+m<=cap):=by omega
 have h63:¬(9223372036854775807<((n:Int)+(m:Int))):=by omega
 have h48:¬(281474976710656<Builtin.nextslicecap (n+m) cap*i.bytes):=by
  have h1:=nextslicecap_le (need:=n+m) (old:=cap) hroom;have h2:Builtin.nextslicecap (n+m) cap*i.bytes<=(2*1073741824)*4096:=Nat.mul_le_mul (by omega) hb;omega
 simp[Builtin.append_,run_underlying ht,run_underlying hx,sizeOf,typeInfo,zeroValue,hi,hz,hlen,hn,h63,h48,Question.forced,hnew,hold,newRow,grownCap];congr 2;apply Array.ext';simp
structure zo (P:Program) (w:World) (t xT ty e:TypeId) (i:TypeInfo) (z:Value) (X:Value) (m:Nat) (news:List Value):Prop where
 room:∀{base:Option Addr}{n cap:Nat},n+m<=cap->(Builtin.append_ #[t,xT] ty #[.slice base n cap,X]).run P w=((match base with|some a=>storeCells (a.add (n*i.size)) news|none=>pure ():Sem Unit).run P w).andThen fun _ w'=>.ok (.slice base (n+m) cap) w'
 grow:∀{base:Option Addr}{n cap:Nat}{olds:List Value},(Builtin.firstCells i.size n (.slice base n cap)).run P w.drew=.ok olds.toArray w.drew->cap<n+m->n+m<=1073741824->
  (Builtin.append_ #[t,xT] ty #[.slice base n cap,X]).run P w=.ok (.slice (some ⟨w.heap.size,0,none⟩) (n+m) (grownCap w (n+m) cap e))
    (w.drew.alloc (.cells (olds++news++(Builtin.zeroCells z.cells (grownCap w (n+m) cap e-(n+m))).toList).toArray e))
theorem zo.of{P:Program}{t xT ty e:TypeId}{d:TypeDesc}{i:TypeInfo}{z:Value}(ht:P.underlying t=some (.slice e))(hx:P.underlying xT=some d)(hd:∀k,d≠.int k)(hi:P.info? e=some i)(hz:i.zero=some z)(hb:i.bytes<=4096)
 {m:Nat} {X:Value} {news:List Value} (hlen:(Builtin.lenOf X).run P w=.ok m w) (hnew:∀w':World,w'.heap=w.heap->(Builtin.firstCells i.size m X).run P w'=.ok news.toArray w'):zo P w t xT ty e i z X m news:=
 ⟨fun hroom=>IX ht hx hd hi hlen (hnew w rfl) hroom,fun hold hroom hsmall=>OG ht hx hd hi hz hlen (hnew w.drew rfl) hold hroom hsmall hb⟩
theorem Ql{a b:List Value}{k n:Nat}(h:k+n<=a.length):((a++b).drop k).take n=(a.drop k).take n:=by
 rw[List.drop_append_of_le_length (by omega),I4 (by simp;omega)]
theorem afo{a b:List Value}{k n:Nat}:((a++b).drop (a.length+k)).take n=(b.drop k).take n:=by
 rw[<-yQ,List.drop_left]
theorem afp{c:K.U}{l m:List (K.El c)}{olds news:List Value}(hl:RowOf D ρ S w c l olds)(hm:RowOf D ρ S w c m news):RowOf D ρ S w c (l++m) (olds++news):=by
 refine⟨by simp[hl.1,hm.1,gP],fun i x hx=>?_⟩;by_cases hi:i<l.length
 ·rw[b9 hi]at hx;have:(i+1)*K.sz c<=l.length*K.sz c:=ga _ hi;rw[gP,il]at this;rw[Ql (by rw[hl.1];exact this)];exact hl.2 i x hx
 ·rw[eR (by omega)]at hx;have:i*K.sz c=olds.length+(i-l.length)*K.sz c:=by rw[hl.1,<-gP];congr 1;omega
  rw[this,afo];exact hm.2 _ x hx
theorem afq{c:K.U}{l:List (K.El c)}{a b:List Value}(h:RowOf D ρ S w c l a):∀i x,l[i]?=some x->bh D ρ S w (D.cells c x) (db (a++b).toArray (i*K.sz c) (K.sz c)):=fun i x hx=>by
 have hi:=(bD.1 hx).1;have:(i+1)*K.sz c<=l.length*K.sz c:=ga _ hi;rw[gP,il]at this;simp only[db];rw[Ql (by rw[h.1];exact this)];exact h.2 i x hx
theorem Qm{P:Program}(hD:bR D)(hs:aS D ρ S w H){t xT ty e:TypeId}{i:TypeInfo}{z:Value}{c:K.U}(hi:P.info? e=some i)(hisz:i.size=K.sz c)(hzs:z.cells.size=K.sz c){base:Option Addr}{cap:Nat}{X:Value}{l m:List (K.El c)}{olds news:List Value}
 (hA:zo P w t xT ty e i z X m.length news) (hm:RowOf D ρ S w c m news)
 (hl:RowOf D ρ S w c l olds) (hold:(Builtin.firstCells (K.sz c) l.length (.slice base l.length cap)).run P w.drew=.ok olds.toArray w.drew) (hroom:cap<l.length+m.length) (hsmall:l.length+m.length<=1073741824) (hE:im D c e 0):
 Does D P ρ S H w (do pure (.value (<-Builtin.append_ #[t,xT] ty #[.slice base l.length cap,X]))) (.sl H.length) (H++[.arr c (l++m)]):=by
 have hrun:=hA.grow (by rw[hisz];exact hold) hroom hsmall;have hge:=grownCap_ge w (l.length+m.length) cap e;have hrow:=afp hl hm;refine D5 hs (c:=c) (l:=l++m) (T:=e) (fr:=(0,0)) (cap:=grownCap w (l.length+m.length) cap e) (w':=w.drew.alloc (.cells (olds++news++(Builtin.zeroCells z.cells (grownCap w (l.length+m.length) cap e-(l.length+m.length))).toList).toArray e))
  (vs:=(olds++news++(Builtin.zeroCells z.cells (grownCap w (l.length+m.length) cap e-(l.length+m.length))).toList).toArray) rfl rfl rfl rfl (by simpa using hge) hE ?_ (fun k _ hh=>by have:=hh.2;simp at this) (afq hrow) (by
    rw[aN];exact kB (f:=.value) hrun)
 have:(Builtin.zeroCells z.cells (grownCap w (l.length+m.length) cap e-(l.length+m.length))).size=(grownCap w (l.length+m.length) cap e-(l.length+m.length))*K.sz c:=by simp[Builtin.zeroCells,hzs]
 have h2:(l.length+m.length)*K.sz c+(grownCap w (l.length+m.length) cap e-(l.length+m.length))*K.sz c=grownCap w (l.length+m.length) cap e*K.sz c:=by rw[<-gP];congr 1;omega
 have h3:=hrow.1;rw[aN,aN]at h3;simp only[k9,aN,Array.length_toList,this];omega
theorem Step.D6{n:Nat}{h:Nat}{ρ':List Value}{S':Nat->Prop}{H':List (Ob K)}{w':World}(a:Step D n ρ S (H.set h .dead) w ρ' S' H' w'):Step D n ρ S H w ρ' S' H' w':=
 ⟨a.os,a.tape,a.output,a.size,fun b hb ho=>a.old b hb fun hk=>ho (wN hk),fun b hb=>(a.own b hb).imp wN id,a.s1,fun b hb=>(a.s2 b hb).imp id (Or.imp wN id),a.pre⟩
theorem Does.D6{P:Program}{s:Sem Next}{v:AV K}{h:Nat}{H':List (Ob K)}(a:Does D P ρ S (H.set h .dead) w s v H'):Does D P ρ S H w s v H':=by
 obtain⟨n,u,w',ρ',h1,h2,h3,h4,h5⟩:=a;exact⟨n,u,w',ρ',h1,h2,h3,h4,Step.D6 (by simpa using h5)⟩
theorem Qn{P:Program}(hD:bR D)(hs:aS D ρ S w H){t xT ty e:TypeId}{i:TypeInfo}{z:Value}{c:K.U}(hi:P.info? e=some i)(hisz:i.size=K.sz c)(hzs:z.cells.size=K.sz c){X:Value}{m:List (K.El c)}{news:List Value}(hA:zo P w t xT ty e i z X m.length news)(hrow:RowOf D ρ S w c m news)(hsmall:m.length<=1073741824)
 {H1:List (Ob K)} (hs1:aS D ρ S w H1) (hE:im D c e 0):
 Does D P ρ S H1 w (do pure (.value (<-Builtin.append_ #[t,xT] ty #[.slice none 0 0,X]))) (.sl H1.length) (H1++[.arr c m]):=by
 by_cases h0:m.length=0
 ·have hm0:m=[]:=lS h0;subst hm0;have hrun:=hA.room (base:=none) (n:=0) (cap:=0) (by simp);refine⟨_,_,w,ρ++[.slice none 0 0],kB (f:=.value) (by simpa using hrun),.inl rfl,hs1.new (fh _) (fun _ _=>rfl) (.inl ⟨rfl,rfl⟩) (fun b hb=>by simp[cJ,lT]at hb),?_,Step.new hs1 (fh _) (fun _ _=>rfl) (fun b hb=>by simp[cJ,lT]at hb) rfl rfl rfl⟩;exact .sl (by rw[eR (by rw[hs1.len];exact fh _)];simp[hs1.len])
 ·have:=Qm (P:=P) (ty:=ty) (base:=none) (cap:=0) (l:=[]) (olds:=[]) hD hs1 hi hisz hzs hA hrow ⟨by simp,fun i x h=>by simp at h⟩ (by simp[Builtin.firstCells]) (by simp;omega) (by simpa using hsmall) hE;simpa using this
theorem afr{P:Program}(hD:bR D)(hs:aS D ρ S w H){t xT ty e:TypeId}{d:TypeDesc}{i:TypeInfo}{z:Value}{c:K.U}(ht:P.underlying t=some (.slice e))(hx:P.underlying xT=some d)(hd:∀k,d≠.int k)
 (hi:P.info? e=some i) (hisz:i.size=K.sz c) (hz:i.zero=some z) (hzs:z.cells.size=K.sz c) (hb:i.bytes<=4096) {x:AV K} {X:Value} {m:List (K.El c)} (hm:source D H c x=some m) (hX:Rep D ρ S w x X) (hsmall:m.length<=1073741824)
 {H1:List (Ob K)} (hs1:aS D ρ S w H1) (hE:im D c e 0):
 Does D P ρ S H1 w (do pure (.value (<-Builtin.append_ #[t,xT] ty #[.slice none 0 0,X]))) (.sl H1.length) (H1++[.arr c m]):=by
 obtain⟨hlen,news,hrow,hnew⟩:=Qi (P:=P) hD hs hm hX;exact Qn hD hs hi hisz hzs (.of ht hx hd hi hz hb hlen (by rw[hisz];exact hnew)) hrow hsmall hs1 hE
theorem afs{P:Program}(hD:bR D)(hs:aS D ρ S w H){t xT ty e:TypeId}{i:TypeInfo}{z:Value}{c:K.U}(hi:P.info? e=some i)(hisz:i.size=K.sz c)(hzs:z.cells.size=K.sz c){X:Value}{m:List (K.El c)}{news:List Value}(hA:zo P w t xT ty e i z X m.length news)(hrow:RowOf D ρ S w c m news)(hone:∀x∈news,x.oneCell'=true)
 {h:Nat} {l:List (K.El c)} (ho:H[h]?=some (.arr c l)) {Y:Value} (hY:ρ[h]?=some Y) (hsmall:l.length+m.length<=1073741824) (hE:im D c e 0):
 Does D P ρ S H w (do pure (.value (<-Builtin.append_ #[t,xT] ty #[Y,X]))) (.sl H.length) (H.set h .dead++[.arr c (l++m)]):=by
 have hk:=hs.kill h;rcases wO hs ho hY with⟨rfl,rfl⟩|⟨b,o,cap,vs,T,fr,rfl,hblk,⟨hcap,fU⟩,hsz,hfr,hall⟩
 ·have:=Qn (P:=P) (ty:=ty) hD hs hi hisz hzs hA hrow (by simpa using hsmall) hk hE;simpa using Does.D6 this
 ·by_cases hroom:l.length+m.length<=cap
  ·have hlm:(l.length+m.length)*K.sz c<=cap*K.sz c:=ga _ hroom;rw[gP]at hlm;have hrl:=hrow.1;obtain⟨w',vs',e1,e2,e3,e4,e5,e6,e7,e8⟩:=wd (P:=P) (b:=b) (o:=o+l.length*K.sz c) news 0 vs w hblk (by omega) (fun k hk hk'=>hfr k (by omega) (by omega)) hone;rw[Nat.add_zero]at e3;have hno:=J9 hs ho rfl hY (b:=b) rfl;have hlt:=hs.lt b ⟨h,_,_,ho,rfl,hY,rfl⟩;have hkeep:∀k,Own D w ρ (H.set h .dead) k->w'.heap[k]?=w.heap[k]?:=fun k hk'=>e5 k (fun e=>by subst e;exact hno hk')
   have hw1:aS D ρ S w' (H.set h .dead):=hk.world (by omega) hkeep (fun k hk'=>e5 k (fun e=>by subst e;exact hlt.2 hk'));have hrun:=hA.room (base:=some ⟨b,o,none⟩) (n:=l.length) (cap:=cap) hroom;simp only[hisz,add_plain,e1,Result.andThen_ok]at hrun;have hmono:∀{a:List (AV K)}{us:List Value},bh D ρ S w a us->bh D (ρ++[.slice (some ⟨b,o,none⟩) (l.length+m.length) cap]) S w' a us:=
    fun h=>h.mono (fun _ h=>h) (fun k hk=>e5 k (fun e=>by subst e;exact hlt.2 hk)) (fun _ _ h=>tN h)
   have hsize:vs'.size=vs.size:=by have:=rB List.length e3;rw[tZ]at this;simpa using this
   have hob:gJ D (ρ++[.slice (some ⟨b,o,none⟩) (l.length+m.length) cap]) S w' (.arr c (l++m)) (.slice (some ⟨b,o,none⟩) (l.length+m.length) cap):=by
    refine .inr ⟨b,o,cap,vs',T,fr,by simp,e2,⟨by simpa using hroom,fU⟩,by omega,hfr,fun j y hy=>?_⟩;by_cases hj:j<l.length
    ·rw[b9 hj]at hy;have:(j+1)*K.sz c<=l.length*K.sz c:=ga _ hj;rw[gP,il]at this;rw[Ko e3 (.inl (by omega))];exact hmono (hall j y hy)
    ·rw[eR (by omega)]at hy;have hjm:=(bD.1 hy).1;have h1:(j-l.length+1)*K.sz c<=m.length*K.sz c:=ga _ (by omega);rw[gP,il]at h1;have h2:j*K.sz c=l.length*K.sz c+(j-l.length)*K.sz c:=by rw[<-gP];congr 1;omega
     have:db vs' (o+j*K.sz c) (K.sz c)=(news.drop ((j-l.length)*K.sz c)).take (K.sz c):=by
      apply lh;intro k;simp only[db,fa,iY,e3];by_cases hk:k<K.sz c
      ·rw[aY hk,aY hk,rx _ _ _ _ (by simp;omega),aY (by omega)];congr 1;omega
      ·rw[aT hk,aT hk]
     rw[this];exact hmono (hrow.2 _ y hy)
   refine⟨_,_,w',_,kB (f:=.value) hrun,.inl rfl,hw1.push hob (fun k _ hk'=>by simp[cJ,lT]at hk';subst hk';exact⟨by omega,hlt.2,fun hO=>hno (hO.old hkeep)⟩),?_,?_⟩
   ·exact .sl (by rw[eR (by rw[hs.len];exact fh _)];simp[hs.len])
   ·refine⟨e6,e7,e8,by omega,fun k hk hno'=>e5 k (fun e=>by subst e;exact hno' ⟨h,_,_,ho,rfl,hY,rfl⟩),fun k hk'=>?_,fun _ h=>h,fun _ h=>.inl h,fun k hk=>by rw[b9 (by rw[hs.len];exact hk)]⟩;rcases C7 (by simpa using hs.len) hk' with hk'|⟨-,hk'⟩
    ·exact .inl (wN (hk'.old hkeep))
    ·simp[cJ,lT]at hk';subst hk';exact .inl ⟨h,_,_,ho,rfl,hY,rfl⟩
  ·have hat:∀j y,l[j]?=some y->∃us,us.length=K.sz c/\iE w b (o+j*K.sz c) us/\bh D ρ S w (D.cells c y) us:=fun j y hy=>⟨_,by rw[<-(hall j y hy).1,hD.len],v8 hblk _ _,hall j y hy⟩
   obtain⟨olds,g1,g2⟩:=gather l o hat;have hold:(Builtin.firstCells (K.sz c) l.length (.slice (some ⟨b,o,none⟩) l.length cap)).run P w.drew=.ok olds.toArray w.drew:=by
    have:=Dm (P:=P) (iE.keep (w':=w.drew) g1 rfl);rw[g2.1]at this;simpa [Builtin.firstCells]using this
   have:=Qm (P:=P) (ty:=ty) (base:=some ⟨b,o,none⟩) (cap:=cap) (l:=l) (olds:=olds) hD hk hi hisz hzs hA hrow g2 hold (by omega) hsmall hE;simpa using Does.D6 this
theorem aft{P:Program}(hD:bR D)(hs:aS D ρ S w H){t xT ty e:TypeId}{d:TypeDesc}{i:TypeInfo}{z:Value}{c:K.U}(ht:P.underlying t=some (.slice e))(hx:P.underlying xT=some d)(hd:∀k,d≠.int k)
 (hi:P.info? e=some i) (hisz:i.size=K.sz c) (hz:i.zero=some z) (hzs:z.cells.size=K.sz c) (hb:i.bytes<=4096) {x:AV K} {X:Value} {m:List (K.El c)} (hm:source D H c x=some m) (hX:Rep D ρ S w x X)
 {h:Nat} {l:List (K.El c)} (ho:H[h]?=some (.arr c l)) {Y:Value} (hY:ρ[h]?=some Y) (hsmall:l.length+m.length<=1073741824) (hE:im D c e 0):
 Does D P ρ S H w (do pure (.value (<-Builtin.append_ #[t,xT] ty #[Y,X]))) (.sl H.length) (H.set h .dead++[.arr c (l++m)]):=by
 obtain⟨hlen,news,hrow,hnew⟩:=Qi (P:=P) hD hs hm hX;exact afs hD hs hi hisz hzs (.of ht hx hd hi hz hb hlen (by rw[hisz];exact hnew)) hrow (row_one hD hrow) ho hY hsmall hE
end Go.V
